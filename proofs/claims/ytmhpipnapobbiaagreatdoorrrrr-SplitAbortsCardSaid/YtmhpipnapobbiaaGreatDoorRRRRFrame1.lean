/- Abstract values, stores, operations, triples. -/
import Derived.WalkKit
import Derived.KernelRfl
import Derived.Lib.ConvBytes
import Derived.Scope
import Derived.RangeFuncLeaves
import Derived.RangeFuncRecord
import Derived.Orders
set_option linter.unusedSimpArgs false
set_option linter.unusedVariables false
/- The framework, part 1: abstract values, how they stand to the model's values, the store, and what is kept. -/
namespace Go.Bw
open Go

/-- an abstract value: memory that nobody writes any more is unfolded ('ro', 'rp'); memory that is written is a row of the store ('ptr', 'ref') -/
inductive D where
  | sc (v : Value)
  | nilp
  | ptr (id ver off : Nat)
  | rp (cells : List D)
  | nils
  | ro (ex : Bool) (elems : List D)
  | ref (id ver sz off len : Nat)
  | fn (f : Fn) (first caps : List D)
  | nilfn
  | ifc (t : TypeId) (d : D)
  | nilifc
  | mp (ks vs : List D)
  | agg (cells : List D)
  | tup (ds : List D)
  | undef
  deriving Inhabited

def D.cells : D → List D
  | .agg cs => cs
  | d => [d]

@[simp] theorem D.cells_agg (cs : List D) : (D.agg cs).cells = cs := rfl

/-- strings are no longer than an int tells -/
def scalarOk : Value → Prop
  | .bool _ => True
  | .int _ _ => True
  | .string s => s.size ≤ 9223372036854775807
  | .float _ _ => True
  | .complex _ _ _ => True
  | _ => False

/-- what is known of memory: 'm': blocks that nobody writes; 'r': of a row of the store, by its number and version, its block and how many cells that has -/
structure G where
  m : Nat → Option Obj
  r : Nat → Nat → Option (Nat × Nat)

structure G.le (g g' : G) : Prop where
  m : ∀ b o, g.m b = some o → g'.m b = some o
  r : ∀ i v p, g.r i v = some p → g'.r i v = some p

theorem G.le.refl (g : G) : g.le g := ⟨fun _ _ h => h, fun _ _ _ h => h⟩
theorem G.le.trans {a b c : G} (h : a.le b) (k : b.le c) : a.le c := ⟨fun _ _ x => k.m _ _ (h.m _ _ x), fun _ _ _ x => k.r _ _ _ (h.r _ _ _ x)⟩

/-- an abstract value stands for a value -/
inductive V (g : G) : D → Value → Prop where
  | sc {v : Value} (h : scalarOk v) : V g (.sc v) v
  | nilp : V g .nilp (.pointer none)
  | ptr {id ver off b n : Nat} (h : g.r id ver = some (b, n)) : V g (.ptr id ver off) (.pointer (some ⟨b, off, none⟩))
  | rp {cells : List D} {b off : Nat} {c : Array Value} {t : TypeId} {fz : Nat × Nat} (hm : g.m b = some (.cells c t fz)) (hl : off + cells.length ≤ c.size)
      (h : ∀ (j : Nat) (d : D), cells[j]? = some d → V g d (c.getD (off + j) undef)) : V g (.rp cells) (.pointer (some ⟨b, off, none⟩))
  | nils : V g .nils (.slice none 0 0)
  | roNil {ex : Bool} : V g (.ro ex []) (.slice none 0 0)
  | roNone {ex : Bool} {a : Addr} {cap : Nat} (hc : cap ≤ 9223372036854775807) (he : ex = true → cap = 0) : V g (.ro ex []) (.slice (some a) 0 cap)
  | ro {ex : Bool} {elems : List D} {b off cap sz : Nat} {c : Array Value} {t : TypeId} {fz : Nat × Nat} (hm : g.m b = some (.cells c t fz))
      (hs : ∀ e ∈ elems, e.cells.length = sz) (hl : off + elems.length * sz ≤ c.size) (hc : elems.length ≤ cap) (hx : cap ≤ 9223372036854775807) (he : ex = true → cap = elems.length)
      (h : ∀ (j : Nat) (d : D), (elems.flatMap D.cells)[j]? = some d → V g d (c.getD (off + j) undef)) : V g (.ro ex elems) (.slice (some ⟨b, off, none⟩) elems.length cap)
  | ref {id ver sz off len b n cap : Nat} (h : g.r id ver = some (b, n)) (hl : len ≤ cap) (hx : cap ≤ 9223372036854775807) (hn : off + cap * sz ≤ n) :
      V g (.ref id ver sz off len) (.slice (some ⟨b, off, none⟩) len cap)
  | fn {f : Fn} {first caps : List D} {vs us : Array Value} (h1 : vs.size = first.length) (h2 : us.size = caps.length)
      (k1 : ∀ (j : Nat) (d : D), first[j]? = some d → V g d (vs.getD j undef)) (k2 : ∀ (j : Nat) (d : D), caps[j]? = some d → V g d (us.getD j undef)) : V g (.fn f first caps) (.func f vs us)
  | nilfn : V g .nilfn .nilFunc
  | ifc {t : TypeId} {d : D} {v : Value} (h : V g d v) : V g (.ifc t d) (.iface t v)
  | nilifc : V g .nilifc .nilIface
  | mp {ks vs : List D} {r clock : Nat} {es : Array MapEntry} {σ : Nat → Nat} (hm : g.m r = some (.map es clock)) (h1 : ∀ i, i < es.size → ∃ j, j < ks.length ∧ σ j = i) (h2 : ks.length = vs.length) (h3 : ∀ j, j < ks.length → σ j < es.size)
      (k1 : ∀ (j : Nat) (d : D), ks[j]? = some d → V g d (es.getD (σ j) default).key) (k2 : ∀ (j : Nat) (d : D), vs[j]? = some d → V g d (es.getD (σ j) default).val) : V g (.mp ks vs) (.map (some r))
  | agg {cells : List D} {vs : Array Value} (hl : vs.size = cells.length) (h : ∀ (j : Nat) (d : D), cells[j]? = some d → V g d (vs.getD j undef)) : V g (.agg cells) (.agg vs)
  | tup {ds : List D} {vs : Array Value} (hl : vs.size = ds.length) (h : ∀ (j : Nat) (d : D), ds[j]? = some d → V g d (vs.getD j undef)) : V g (.tup ds) (.tuple vs)
  | undef {v : Value} : V g .undef v

/-- a list of abstract values stands for a row of values -/
def VL (g : G) (ds : List D) (vs : Array Value) : Prop := vs.size = ds.length ∧ ∀ (j : Nat) (d : D), ds[j]? = some d → V g d (vs.getD j undef)

theorem V.mono {g g' : G} (hg : g.le g') {d : D} {v : Value} (h : V g d v) : V g' d v := by
  induction h with
  | sc h => exact .sc h
  | nilp => exact .nilp
  | ptr h => exact .ptr (hg.r _ _ _ h)
  | rp hm hl _ ih => exact .rp (hg.m _ _ hm) hl ih
  | nils => exact .nils
  | roNil => exact .roNil
  | roNone hc he => exact .roNone hc he
  | ro hm hs hl hc hx he _ ih => exact .ro (hg.m _ _ hm) hs hl hc hx he ih
  | ref h hl hx hn => exact .ref (hg.r _ _ _ h) hl hx hn
  | fn h1 h2 _ _ ih1 ih2 => exact .fn h1 h2 ih1 ih2
  | nilfn => exact .nilfn
  | ifc _ ih => exact .ifc ih
  | nilifc => exact .nilifc
  | mp hm h1 h2 h3 _ _ ih1 ih2 => exact .mp (hg.m _ _ hm) h1 h2 h3 ih1 ih2
  | agg hl _ ih => exact .agg hl ih
  | tup hl _ ih => exact .tup hl ih
  | undef => exact .undef

theorem VL.mono {g g' : G} (hg : g.le g') {ds : List D} {vs : Array Value} (h : VL g ds vs) : VL g' ds vs := ⟨h.1, fun j d hd => (h.2 j d hd).mono hg⟩

/-- no part of it is a row of the store -/
inductive D.free : D → Prop where
  | sc {v : Value} : D.free (.sc v)
  | nilp : D.free .nilp
  | rp {cells : List D} (h : ∀ d ∈ cells, D.free d) : D.free (.rp cells)
  | nils : D.free .nils
  | ro {ex : Bool} {elems : List D} (h : ∀ d ∈ elems.flatMap D.cells, D.free d) : D.free (.ro ex elems)
  | fn {f : Fn} {first caps : List D} (h1 : ∀ d ∈ first, D.free d) (h2 : ∀ d ∈ caps, D.free d) : D.free (.fn f first caps)
  | nilfn : D.free .nilfn
  | ifc {t : TypeId} {d : D} (h : D.free d) : D.free (.ifc t d)
  | nilifc : D.free .nilifc
  | mp {ks vs : List D} (h1 : ∀ d ∈ ks, D.free d) (h2 : ∀ d ∈ vs, D.free d) : D.free (.mp ks vs)
  | agg {cells : List D} (h : ∀ d ∈ cells, D.free d) : D.free (.agg cells)
  | tup {ds : List D} (h : ∀ d ∈ ds, D.free d) : D.free (.tup ds)
  | undef : D.free .undef

/-- what is free hangs on memory that nobody writes alone -/
theorem V.free {g g' : G} (hg : ∀ b o, g.m b = some o → g'.m b = some o) {d : D} {v : Value} (h : V g d v) (hf : d.free) : V g' d v := by
  induction h with
  | sc h => exact .sc h
  | nilp => exact .nilp
  | ptr h => cases hf
  | rp hm hl _ ih => cases hf with | rp k => exact .rp (hg _ _ hm) hl fun j d hd => ih j d hd (k d (List.mem_of_getElem? hd))
  | nils => exact .nils
  | roNil => exact .roNil
  | roNone hc he => exact .roNone hc he
  | ro hm hs hl hc hx he _ ih => cases hf with | ro k => exact .ro (hg _ _ hm) hs hl hc hx he fun j d hd => ih j d hd (k d (List.mem_of_getElem? hd))
  | ref h hl hx hn => cases hf
  | fn h1 h2 _ _ ih1 ih2 => cases hf with | fn k1 k2 => exact .fn h1 h2 (fun j d hd => ih1 j d hd (k1 d (List.mem_of_getElem? hd))) (fun j d hd => ih2 j d hd (k2 d (List.mem_of_getElem? hd)))
  | nilfn => exact .nilfn
  | ifc _ ih => cases hf with | ifc k => exact .ifc (ih k)
  | nilifc => exact .nilifc
  | mp hm h1 h2 h3 _ _ ih1 ih2 => cases hf with | mp k1 k2 => exact .mp (hg _ _ hm) h1 h2 h3 (fun j d hd => ih1 j d hd (k1 d (List.mem_of_getElem? hd))) (fun j d hd => ih2 j d hd (k2 d (List.mem_of_getElem? hd)))
  | agg hl _ ih => cases hf with | agg k => exact .agg hl fun j d hd => ih j d hd (k d (List.mem_of_getElem? hd))
  | tup hl _ ih => cases hf with | tup k => exact .tup hl fun j d hd => ih j d hd (k d (List.mem_of_getElem? hd))
  | undef => exact .undef

/-- a row of the store: its version, its cells -/
structure En where
  ver : Nat
  ob : List D

structure St where
  next : Nat
  tab : Nat → Option En

def St.empty : St := ⟨0, fun _ => none⟩
def St.put (S : St) (i : Nat) (e : Option En) : St := { S with tab := fun j => if j = i then e else S.tab j }
def St.new (S : St) (ob : List D) : St := ⟨S.next + 1, fun j => if j = S.next then some ⟨0, ob⟩ else S.tab j⟩

@[simp] theorem St.put_next (S : St) (i : Nat) (e : Option En) : (S.put i e).next = S.next := rfl
theorem St.put_tab (S : St) (i : Nat) (e : Option En) (j : Nat) : (S.put i e).tab j = if j = i then e else S.tab j := rfl
@[simp] theorem St.new_next (S : St) (ob : List D) : (S.new ob).next = S.next + 1 := rfl
theorem St.new_tab (S : St) (ob : List D) (j : Nat) : (S.new ob).tab j = if j = S.next then some ⟨0, ob⟩ else S.tab j := rfl

/-- memory and store stand so -/
structure Sim (g : G) (S : St) (w : World) : Prop where
  imm : ∀ b o, g.m b = some o → w.heap[b]? = some o
  sto : ∀ i e, S.tab i = some e → ∃ b n c t fz, g.r i e.ver = some (b, n) ∧ w.heap[b]? = some (.cells c t fz) ∧ c.size = n ∧ e.ob.length ≤ n ∧ g.m b = none ∧
      ((∀ o, o < n → ¬ (fz.1 ≤ o ∧ o < fz.2)) ∧ fz.1 ≤ fz.2) ∧ ∀ (j : Nat) (d : D), e.ob[j]? = some d → V g d (c.getD j undef)
  inj : ∀ i j e e' b n n', S.tab i = some e → S.tab j = some e' → g.r i e.ver = some (b, n) → g.r j e'.ver = some (b, n') → i = j
  fresh : ∀ i v, S.next ≤ i → g.r i v = none
  tabs : ∀ i, S.next ≤ i → S.tab i = none
  later : ∀ i e v, S.tab i = some e → e.ver < v → g.r i v = none
  inb : ∀ i v b n, g.r i v = some (b, n) → b < w.heap.size

/-- what a step keeps: blocks that are no row's -/
structure Keep (g g' : G) (w w' : World) : Prop where
  le : g.le g'
  size : w.heap.size ≤ w'.heap.size
  old : ∀ b, b < w.heap.size → (∀ i v n, g.r i v ≠ some (b, n)) → w'.heap[b]? = w.heap[b]?
  newm : ∀ b o, g'.m b = some o → g.m b = some o ∨ w.heap.size ≤ b ∨ ∃ i v n, g.r i v = some (b, n)
  newr : ∀ i v b n, g'.r i v = some (b, n) → w.heap.size ≤ b ∨ ∃ i' v' n', g.r i' v' = some (b, n')
  os : w'.os = w.os
  tape : w'.tape = w.tape
  output : w'.output = w.output

theorem Keep.refl (g : G) (w : World) : Keep g g w w :=
  ⟨.refl _, Nat.le_refl _, fun _ _ _ => rfl, fun _ _ h => .inl h, fun i v _ n h => .inr ⟨i, v, n, h⟩, rfl, rfl, rfl⟩

theorem Keep.trans {g1 g2 g3 : G} {w1 w2 w3 : World} (h : Keep g1 g2 w1 w2) (k : Keep g2 g3 w2 w3) : Keep g1 g3 w1 w3 where
  le := h.le.trans k.le
  size := Nat.le_trans h.size k.size
  old := fun b hb hn => by
    rw [k.old b (Nat.lt_of_lt_of_le hb h.size) (fun i v n e => by
      rcases h.newr i v b n e with h' | ⟨i', v', n', h'⟩
      · omega
      · exact hn _ _ _ h'), h.old b hb hn]
  newm := fun b o e => by
    rcases k.newm b o e with h' | h' | ⟨i, v, n, h'⟩
    · exact h.newm b o h'
    · exact .inr (.inl (Nat.le_trans h.size h'))
    · rcases h.newr i v b n h' with h'' | h''
      · exact .inr (.inl h'')
      · exact .inr (.inr h'')
  newr := fun i v b n e => by
    rcases k.newr i v b n e with h' | ⟨i', v', n', h'⟩
    · exact .inl (Nat.le_trans h.size h')
    · exact h.newr _ _ _ _ h'
  os := k.os.trans h.os
  tape := k.tape.trans h.tape
  output := k.output.trans h.output

end Go.Bw

/- The framework, part 2: what each operation does to abstract values. -/
namespace Go.Bw
open Go

/-- a run that asks the program alone -/
def pureRun {α : Type} (P : Program) : Sem α → Option α
  | .pure a => some a
  | .program k => pureRun P (k P)
  | .mark _ k => pureRun P k
  | _ => none

theorem pureRun_run {α : Type} {P : Program} {s : Sem α} {a : α} (h : pureRun P s = some a) (w : World) : s.run P w = .ok a w := by
  induction s with
  | pure b => simp only [pureRun, Option.some.injEq] at h; subst h; rfl
  | program k ih => simp only [pureRun] at h; simp only [Sem.run]; exact ih P h
  | mark _ k ih => simp only [pureRun] at h; simp only [Sem.run]; exact ih h
  | _ => simp [pureRun] at h

/-- one cell's value -/
def D.one : D → Bool
  | .agg _ | .tup _ | .undef => false
  | _ => true



/-- constants -/
def ofConst1 : Value → D
  | .bool b => .sc (.bool b)
  | .int k n => .sc (.int k n)
  | .float k b => .sc (.float k b)
  | .complex k a b => .sc (.complex k a b)
  | .string s => if s.size ≤ 9223372036854775807 then .sc (.string s) else .undef
  | .pointer none => .nilp
  | .slice none 0 0 => .nils
  | .nilFunc => .nilfn
  | .nilIface => .nilifc
  | _ => .undef

def ofConst : Value → D
  | .agg cs => .agg (cs.toList.map ofConst1)
  | v => ofConst1 v

/-- the cells of a type's zero value -/
def zeroD (P : Program) (t : TypeId) : Option (List D) :=
  match (P.info? t).bind (·.zero) with
  | some z => some (z.cells.toList.map ofConst1)
  | none => none

def szOf (P : Program) (t : TypeId) : Option Nat := (P.info? t).map (·.size)

def aggB (P : Program) (t : TypeId) : Option Bool :=
  match P.underlying t with
  | some (.struct _) => some true
  | some (.array _ _) => some true
  | some _ => some false
  | none => none

/-- a field's place; of a field without cells none -/
def fldOff (P : Program) (s : TypeId) (f : Nat) : Option Nat :=
  match P.underlying s with
  | some (.struct fs) => match fs[f]? with
    | some x => match szOf P x.type with
      | some (_ + 1) => some x.offset
      | _ => none
    | none => none
  | _ => none

/-- a slice type's element, and how many cells it has -/
def elOf (P : Program) (t : TypeId) : Option (TypeId × Nat) :=
  match P.underlying t with
  | some (.slice e) => (szOf P e).map fun n => (e, n)
  | _ => none

def whole (ag : Bool) (cs : List D) : Option D := if ag then some (.agg cs) else cs.head?

def ldD (P : Program) (S : St) (t : TypeId) : D → Option D
  | .ptr id ver off =>
    match S.tab id, szOf P t, aggB P t with
    | some e, some n, some ag => if e.ver = ver ∧ 0 < n ∧ off + n ≤ e.ob.length then whole ag ((e.ob.drop off).take n) else none
    | _, _, _ => none
  | .rp cells =>
    match szOf P t, aggB P t with
    | some n, some ag => if 0 < n ∧ n ≤ cells.length then whole ag (cells.take n) else none
    | _, _ => none
  | _ => none

def stD (P : Program) (S : St) (t : TypeId) (x : D) : D → Option St
  | .ptr id ver off =>
    match S.tab id, szOf P t with
    | some e, some n => if e.ver = ver ∧ x.cells.length = n ∧ x.cells.all D.one = true ∧ off + n ≤ e.ob.length then
        some (S.put id (some ⟨ver, e.ob.take off ++ x.cells ++ e.ob.drop (off + n)⟩)) else none
    | _, _ => none
  | _ => none

/-- parts laid into cells -/
def layD (place : Nat → Option (Nat × Nat)) (cells : List D) : List (Nat × D) → Option (List D)
  | [] => some cells
  | (i, x) :: rest =>
    match place i with
    | none => none
    | some (off, size) =>
      if x.cells.length = size ∧ off + size ≤ cells.length ∧ x.cells.all D.one = true then layD place (cells.take off ++ x.cells ++ cells.drop (off + size)) rest else none

def placesD (P : Program) (t : TypeId) (i : Nat) : Option (Nat × Nat) :=
  match P.underlying t with
  | some (.struct fs) => match fs[i]? with
    | some f => (szOf P f.type).map fun n => (f.offset, n)
    | none => none
  | some (.array _ e) => (szOf P e).map fun n => (i * n, n)
  | _ => none

def buildD (P : Program) (t : TypeId) (parts : List (Nat × D)) : Option D :=
  match aggB P t, zeroD P t with
  | some true, some z => (layD (placesD P t) z parts).map .agg
  | _, _ => none

/-- elements out of cells -/
def cutD (n : Nat) (ag : Bool) : Nat → List D → List D
  | 0, _ => []
  | k + 1, cs => (if ag then .agg (cs.take n) else cs.headD .undef) :: cutD n ag k (cs.drop n)


end Go.Bw

/- The framework, part 3: what becomes of the store when memory is made, written, drawn for, let be. -/
namespace Go.Bw
open Go

theorem addr_add (b off n : Nat) : Addr.add ⟨b, off, none⟩ n = ⟨b, off + n, none⟩ := by
  unfold Addr.add
  split
  · rename_i h; subst h; rfl
  · rfl

/-- a draw -/
theorem Sim.drew {g : G} {S : St} {w : World} (h : Sim g S w) : Sim g S w.drew :=
  ⟨h.imm, h.sto, h.inj, h.fresh, h.tabs, h.later, h.inb⟩

theorem Keep.drew (g : G) (w : World) : Keep g g w w.drew :=
  ⟨.refl _, Nat.le_refl _, fun _ _ _ => rfl, fun _ _ h => .inl h, fun i v _ n h => .inr ⟨i, v, n, h⟩, rfl, rfl, rfl⟩

/-- a world that differs in the count of draws alone -/
theorem Sim.ofHeap {g : G} {S : St} {w w' : World} (h : Sim g S w) (e : w'.heap = w.heap) : Sim g S w' :=
  ⟨by rw [e]; exact h.imm, by rw [e]; exact h.sto, h.inj, h.fresh, h.tabs, h.later, by rw [e]; exact h.inb⟩

def G.newRow (g : G) (i b n : Nat) : G := { g with r := fun j v => if j = i ∧ v = 0 then some (b, n) else g.r j v }
def G.newImm (g : G) (b : Nat) (o : Obj) : G := { g with m := fun c => if c = b then some o else g.m c }

theorem heap_alloc_old {w : World} {o : Obj} {b : Nat} (h : b < w.heap.size) : (w.alloc o).heap[b]? = w.heap[b]? := by
  simp only [World.alloc]
  rw [Array.getElem?_push, if_neg (by omega)]

theorem heap_alloc_new {w : World} {o : Obj} : (w.alloc o).heap[w.heap.size]? = some o := by
  simp only [World.alloc]
  rw [Array.getElem?_push, if_pos rfl]

theorem heap_lt {w : World} {b : Nat} {o : Obj} (h : w.heap[b]? = some o) : b < w.heap.size := by
  rcases Nat.lt_or_ge b w.heap.size with k | k
  · exact k
  · rw [Array.getElem?_eq_none k] at h; cases h

theorem G.newRow_le {g : G} {S : St} {w : World} (h : Sim g S w) (b n : Nat) : g.le (g.newRow S.next b n) :=
  ⟨fun _ _ k => k, fun i v p k => by
    simp only [G.newRow]
    rw [if_neg]
    · exact k
    · rintro ⟨rfl, rfl⟩; rw [h.fresh _ _ (Nat.le_refl _)] at k; cases k⟩

/-- a new row of the store -/
theorem Sim.newRow {g : G} {S : St} {w : World} (h : Sim g S w) {c : Array Value} {t : TypeId} {fz : Nat × Nat} {ob : List D} {n : Nat} (hn : c.size = n) (hl : ob.length ≤ n)
    (hf : (∀ o, o < n → ¬ (fz.1 ≤ o ∧ o < fz.2)) ∧ fz.1 ≤ fz.2) (hv : ∀ (j : Nat) (d : D), ob[j]? = some d → V g d (c.getD j undef)) :
    Sim (g.newRow S.next w.heap.size n) (S.new ob) (w.alloc (.cells c t fz)) := by
  have hle := G.newRow_le h w.heap.size n
  have hold : ∀ b o, w.heap[b]? = some o → (w.alloc (.cells c t fz)).heap[b]? = some o := fun b o k => by rw [heap_alloc_old (heap_lt k)]; exact k
  have hr : ∀ i v p, (g.newRow S.next w.heap.size n).r i v = some p → (i = S.next ∧ v = 0 ∧ p = (w.heap.size, n)) ∨ g.r i v = some p := fun i v p k => by
    simp only [G.newRow] at k
    split at k
    · rename_i hc; simp only [Option.some.injEq] at k; exact .inl ⟨hc.1, hc.2, k.symm⟩
    · exact .inr k
  have hnone : g.m w.heap.size = none := by
    cases e : g.m w.heap.size with
    | none => rfl
    | some o => have := heap_lt (h.imm _ _ e); omega
  refine ⟨fun b o k => hold _ _ (h.imm _ _ k), ?_, ?_, ?_, ?_, ?_, ?_⟩
  · intro i e he
    rw [St.new_tab] at he
    split at he
    · rename_i hi
      simp only [Option.some.injEq] at he
      subst he hi
      exact ⟨w.heap.size, n, c, t, fz, by simp [G.newRow], heap_alloc_new, hn, hl, hnone, hf, fun j d hd => (hv j d hd).mono hle⟩
    · obtain ⟨b, n', c', t', fz', a1, a2, a3, a4, a5, a6, a7⟩ := h.sto i e he
      exact ⟨b, n', c', t', fz', hle.r _ _ _ a1, hold _ _ a2, a3, a4, a5, a6, fun j d hd => (a7 j d hd).mono hle⟩
  · intro i j e e' b n1 n2 hi hj ri rj
    rw [St.new_tab] at hi hj
    rcases hr _ _ _ ri with ⟨x1, x2, x3⟩ | x <;> rcases hr _ _ _ rj with ⟨y1, y2, y3⟩ | y
    · rw [x1, y1]
    · simp only [Prod.mk.injEq] at x3; have := h.inb _ _ _ _ y; omega
    · simp only [Prod.mk.injEq] at y3; have := h.inb _ _ _ _ x; omega
    · have hi' : i ≠ S.next := by rintro rfl; rw [h.fresh _ _ (Nat.le_refl _)] at x; cases x
      have hj' : j ≠ S.next := by rintro rfl; rw [h.fresh _ _ (Nat.le_refl _)] at y; cases y
      rw [if_neg hi'] at hi; rw [if_neg hj'] at hj
      exact h.inj _ _ _ _ _ _ _ hi hj x y
  · intro i v hi
    simp only [St.new_next] at hi
    simp only [G.newRow]
    rw [if_neg (by omega)]
    exact h.fresh _ _ (by omega)
  · intro i hi
    simp only [St.new_next] at hi
    rw [St.new_tab, if_neg (by omega)]
    exact h.tabs _ (by omega)
  · intro i e v he hv'
    rw [St.new_tab] at he
    simp only [G.newRow]
    split at he
    · rename_i hi; simp only [Option.some.injEq] at he; subst he
      rw [if_neg (by simp only at hv'; omega)]
      exact h.fresh _ _ (by omega)
    · rename_i hi
      rw [if_neg (by omega)]
      exact h.later _ _ _ he hv'
  · intro i v b n' k
    rcases hr _ _ _ k with ⟨x1, x2, x3⟩ | x
    · simp only [Prod.mk.injEq] at x3; simp; omega
    · have := h.inb _ _ _ _ x; simp; omega

theorem Keep.newRow {g : G} {S : St} {w : World} (h : Sim g S w) (o : Obj) (n : Nat) : Keep g (g.newRow S.next w.heap.size n) w (w.alloc o) where
  le := G.newRow_le h _ _
  size := by simp
  old := fun b hb _ => heap_alloc_old hb
  newm := fun b o k => .inl k
  newr := fun i v b n' k => by
    simp only [G.newRow] at k
    split at k
    · simp only [Option.some.injEq, Prod.mk.injEq] at k; exact .inl (by omega)
    · exact .inr ⟨_, _, _, k⟩
  os := rfl
  tape := rfl
  output := rfl

theorem G.newImm_le {g : G} {S : St} {w : World} (h : Sim g S w) (o : Obj) : g.le (g.newImm w.heap.size o) :=
  ⟨fun b o' k => by
    simp only [G.newImm]
    rw [if_neg]
    · exact k
    · rintro rfl; have := heap_lt (h.imm _ _ k); omega, fun _ _ _ k => k⟩

/-- a new block that nobody writes -/
theorem Sim.newImm {g : G} {S : St} {w : World} (h : Sim g S w) (o : Obj) : Sim (g.newImm w.heap.size o) S (w.alloc o) := by
  have hle := G.newImm_le h o
  have hold : ∀ b o', w.heap[b]? = some o' → (w.alloc o).heap[b]? = some o' := fun b o k => by rw [heap_alloc_old (heap_lt k)]; exact k
  refine ⟨?_, ?_, h.inj, h.fresh, h.tabs, h.later, fun i v b n k => by have := h.inb _ _ _ _ k; simp; omega⟩
  · intro b o' k
    simp only [G.newImm] at k
    split at k
    · rename_i hb; subst hb; simp only [Option.some.injEq] at k; subst k; exact heap_alloc_new
    · exact hold _ _ (h.imm _ _ k)
  · intro i e he
    obtain ⟨b, n', c', t', fz', a1, a2, a3, a4, a5, a6, a7⟩ := h.sto i e he
    refine ⟨b, n', c', t', fz', a1, hold _ _ a2, a3, a4, ?_, a6, fun j d hd => (a7 j d hd).mono hle⟩
    simp only [G.newImm]
    rw [if_neg]
    · exact a5
    · have := heap_lt a2; omega

theorem Keep.newImm {g : G} {S : St} {w : World} (h : Sim g S w) (o : Obj) : Keep g (g.newImm w.heap.size o) w (w.alloc o) where
  le := G.newImm_le h o
  size := by simp
  old := fun b hb _ => heap_alloc_old hb
  newm := fun b o' k => by
    simp only [G.newImm] at k
    split at k
    · exact .inr (.inl (by omega))
    · exact .inl k
  newr := fun i v b n' k => .inr ⟨_, _, _, k⟩
  os := rfl
  tape := rfl
  output := rfl

/-- so a world stands to another one in which one block's cells were written -/
structure Wrote (w w' : World) (b : Nat) (c c' : Array Value) (t : TypeId) (fz : Nat × Nat) : Prop where
  was : w.heap[b]? = some (.cells c t fz)
  now : w'.heap[b]? = some (.cells c' t fz)
  size : c'.size = c.size
  other : ∀ k, k ≠ b → w'.heap[k]? = w.heap[k]?
  hs : w'.heap.size = w.heap.size
  os : w'.os = w.os
  tape : w'.tape = w.tape
  output : w'.output = w.output

theorem Wrote.refl {w : World} {b : Nat} {c : Array Value} {t : TypeId} {fz : Nat × Nat} (h : w.heap[b]? = some (.cells c t fz)) : Wrote w w b c c t fz :=
  ⟨h, h, rfl, fun _ _ => rfl, rfl, rfl, rfl, rfl⟩

theorem Wrote.trans {w1 w2 w3 : World} {b : Nat} {c1 c2 c3 : Array Value} {t : TypeId} {fz : Nat × Nat} (h : Wrote w1 w2 b c1 c2 t fz) (k : Wrote w2 w3 b c2 c3 t fz) : Wrote w1 w3 b c1 c3 t fz :=
  ⟨h.was, k.now, k.size.trans h.size, fun x hx => (k.other x hx).trans (h.other x hx), k.hs.trans h.hs, k.os.trans h.os, k.tape.trans h.tape, k.output.trans h.output⟩

theorem wrote_setCell {w : World} {b off : Nat} {c : Array Value} {t : TypeId} {fz : Nat × Nat} (h : w.heap[b]? = some (.cells c t fz)) (v : Value) :
    Wrote w (w.setCell ⟨b, off, none⟩ v) b c (c.setIfInBounds off v) t fz := by
  refine ⟨h, ?_, by simp, ?_, by simp, rfl, rfl, rfl⟩
  · simp [World.setCell, Array.getElem?_modify, h]
  · intro k hk
    simp only [World.setCell, Array.getElem?_modify]
    rw [if_neg (by omega)]

theorem store_runs {P : Program} {w : World} {b off : Nat} {c : Array Value} {t : TypeId} {fz : Nat × Nat} (h : w.heap[b]? = some (.cells c t fz)) (ho : off < c.size)
    (hf : ¬ (fz.1 ≤ off ∧ off < fz.2)) {v : Value} (hv : v.oneCell' = true) : (store ⟨b, off, none⟩ v).run P w = .ok () (w.setCell ⟨b, off, none⟩ v) := by
  rw [run_store P w _ v .plain hv]
  have h1 : w.cell? ⟨b, off, none⟩ = some c[off] := by simp [World.cell?, h, ho]
  have h2 : w.frozen? ⟨b, off, none⟩ = false := by
    simp only [World.frozen?, h]
    rw [← Bool.not_eq_true]
    simpa using hf
  simp [h1, h2]

theorem storeCells_runs {P : Program} {b : Nat} {t : TypeId} {fz : Nat × Nat} : ∀ (vs : List Value) (w : World) (off i : Nat) (c : Array Value), w.heap[b]? = some (.cells c t fz) →
    off + i + vs.length ≤ c.size → (∀ o, o < c.size → ¬ (fz.1 ≤ o ∧ o < fz.2)) → (∀ v ∈ vs, v.oneCell' = true) →
    ∃ w' c', (storeCells ⟨b, off, none⟩ vs i).run P w = .ok () w' ∧ Wrote w w' b c c' t fz ∧
      ∀ j, c'.getD j undef = if off + i ≤ j ∧ j < off + i + vs.length then vs.getD (j - (off + i)) undef else c.getD j undef
  | [], w, off, i, c, h, _, _, _ => ⟨w, c, rfl, .refl h, fun j => by rw [if_neg (by simp)]⟩
  | v :: vs, w, off, i, c, h, hl, hf, hv => by
    simp only [List.length_cons] at hl
    have h1 := wrote_setCell (off := off + i) h v
    obtain ⟨w', c', hr, hw, hc⟩ := storeCells_runs (P := P) vs (w.setCell ⟨b, off + i, none⟩ v) off (i + 1) _ h1.now (by simp; omega) (by simpa using hf) (fun u hu => hv u (List.mem_cons_of_mem _ hu))
    refine ⟨w', c', ?_, h1.trans hw, fun j => ?_⟩
    · simp only [storeCells, Sem.run_bind, addr_add]
      rw [store_runs h (by omega) (hf _ (by omega)) (hv v List.mem_cons_self)]
      exact hr
    · rw [hc j]
      by_cases hj : j = off + i
      · subst hj
        rw [if_neg (by omega), if_pos (by simp)]
        simp [Array.getD_eq_getD_getElem?, Array.getElem?_setIfInBounds, show off + i < c.size by omega]
      · by_cases hin : off + (i + 1) ≤ j ∧ j < off + (i + 1) + vs.length
        · rw [if_pos hin, if_pos (by simp; omega)]
          have : j - (off + i) = (j - (off + (i + 1))) + 1 := by omega
          rw [this]; rfl
        · rw [if_neg hin, if_neg (by simp; omega)]
          simp [Array.getD_eq_getD_getElem?, Array.getElem?_setIfInBounds, Ne.symm hj]

/-- a row of the store is written -/
theorem Sim.wrote {g : G} {S : St} {w w' : World} (h : Sim g S w) {i : Nat} {e : En} (he : S.tab i = some e) {b n : Nat} (hr : g.r i e.ver = some (b, n)) {c c' : Array Value} {t : TypeId} {fz : Nat × Nat}
    (hw : Wrote w w' b c c' t fz) {ob : List D} (hl : ob.length ≤ c.size) (hv : ∀ (j : Nat) (d : D), ob[j]? = some d → V g d (c'.getD j undef)) : Sim g (S.put i (some ⟨e.ver, ob⟩)) w' := by
  obtain ⟨b0, n0, c0, t0, fz0, a1, a2, a3, a4, a5, a6, a7⟩ := h.sto i e he
  rw [hr] at a1
  simp only [Option.some.injEq, Prod.mk.injEq] at a1
  obtain ⟨rfl, rfl⟩ := a1
  rw [hw.was] at a2
  simp only [Option.some.injEq, Obj.cells.injEq] at a2
  obtain ⟨rfl, rfl, rfl⟩ := a2
  have hi' : ∀ j, S.next ≤ j → j ≠ i := fun j hj e' => by subst e'; rw [h.tabs _ hj] at he; cases he
  refine ⟨?_, ?_, ?_, h.fresh, ?_, ?_, ?_⟩
  · intro k o ho
    by_cases hk : k = b
    · subst hk; rw [a5] at ho; cases ho
    · rw [hw.other k hk]; exact h.imm _ _ ho
  · intro j e' hj
    rw [St.put_tab] at hj
    split at hj
    · rename_i hji
      simp only [Option.some.injEq] at hj
      subst hj hji
      exact ⟨b, n, c', t, fz, hr, hw.now, by rw [hw.size]; exact a3, by simp only; omega, a5, a6, hv⟩
    · rename_i hji
      obtain ⟨b1, n1, c1, t1, fz1, x1, x2, x3, x4, x5, x6, x7⟩ := h.sto j e' hj
      have : b1 ≠ b := by rintro rfl; exact hji (h.inj _ _ _ _ _ _ _ hj he x1 hr)
      exact ⟨b1, n1, c1, t1, fz1, x1, by rw [hw.other _ this]; exact x2, x3, x4, x5, x6, x7⟩
  · intro j k ej ek b1 n1 n2 hj hk rj rk
    rw [St.put_tab] at hj hk
    have key : ∀ x ex, (if x = i then some (⟨e.ver, ob⟩ : En) else S.tab x) = some ex → ∃ ey, S.tab x = some ey ∧ ey.ver = ex.ver := fun x ex hx => by
      split at hx
      · rename_i hxi; subst hxi; simp only [Option.some.injEq] at hx; subst hx; exact ⟨e, he, rfl⟩
      · exact ⟨ex, hx, rfl⟩
    obtain ⟨y1, p1, q1⟩ := key j ej hj
    obtain ⟨y2, p2, q2⟩ := key k ek hk
    exact h.inj _ _ _ _ _ _ _ p1 p2 (by rw [q1]; exact rj) (by rw [q2]; exact rk)
  · intro j hj
    rw [St.put_tab, if_neg (hi' j hj)]
    exact h.tabs _ hj
  · intro j e' v hj hv'
    rw [St.put_tab] at hj
    split at hj
    · rename_i hji; simp only [Option.some.injEq] at hj; subst hj hji; exact h.later _ _ _ he hv'
    · exact h.later _ _ _ hj hv'
  · intro j v b1 n1 k; rw [hw.hs]; exact h.inb _ _ _ _ k

theorem Keep.wrote {g : G} {w w' : World} {i ver : Nat} {b n : Nat} (hr : g.r i ver = some (b, n)) {c c' : Array Value} {t : TypeId} {fz : Nat × Nat} (hw : Wrote w w' b c c' t fz) : Keep g g w w' where
  le := .refl _
  size := by rw [hw.hs]; exact Nat.le_refl _
  old := fun k _ hk => hw.other k fun e => hk i ver n (e ▸ hr)
  newm := fun _ _ h => .inl h
  newr := fun i v _ n h => .inr ⟨i, v, n, h⟩
  os := hw.os
  tape := hw.tape
  output := hw.output

/-- a row is let go: what it was stays as it was, and is written no more -/
def G.freeze (g : G) (b : Nat) (o : Obj) : G := { g with m := fun c => if c = b then some o else g.m c }

theorem Sim.freeze {g : G} {S : St} {w : World} (h : Sim g S w) {i : Nat} {e : En} (he : S.tab i = some e) {b n : Nat} (hr : g.r i e.ver = some (b, n)) {o : Obj} (ho : w.heap[b]? = some o) :
    Sim (g.freeze b o) (S.put i none) w ∧ Keep g (g.freeze b o) w w := by
  obtain ⟨b0, n0, c0, t0, fz0, a1, a2, a3, a4, a5, a6, a7⟩ := h.sto i e he
  rw [hr] at a1
  simp only [Option.some.injEq, Prod.mk.injEq] at a1
  obtain ⟨rfl, rfl⟩ := a1
  have hle : g.le (g.freeze b o) := ⟨fun k o' hk => (by
    simp only [G.freeze]
    rw [if_neg]
    · exact hk
    · rintro rfl; rw [a5] at hk; cases hk), fun _ _ _ k => k⟩
  refine ⟨⟨?_, ?_, ?_, h.fresh, ?_, ?_, h.inb⟩, ⟨hle, Nat.le_refl _, fun _ _ _ => rfl, ?_, fun i v _ n h => .inr ⟨i, v, n, h⟩, rfl, rfl, rfl⟩⟩
  · intro k o' hk
    simp only [G.freeze] at hk
    split at hk
    · rename_i hkb; subst hkb; simp only [Option.some.injEq] at hk; subst hk; exact ho
    · exact h.imm _ _ hk
  · intro j e' hj
    rw [St.put_tab] at hj
    split at hj
    · cases hj
    · rename_i hji
      obtain ⟨b1, n1, c1, t1, fz1, x1, x2, x3, x4, x5, x6, x7⟩ := h.sto j e' hj
      refine ⟨b1, n1, c1, t1, fz1, x1, x2, x3, x4, ?_, x6, fun k d hd => (x7 k d hd).mono hle⟩
      simp only [G.freeze]
      rw [if_neg]
      · exact x5
      · rintro rfl; exact hji (h.inj _ _ _ _ _ _ _ hj he x1 hr)
  · intro j k ej ek b1 n1 n2 hj hk rj rk
    rw [St.put_tab] at hj hk
    split at hj
    · cases hj
    split at hk
    · cases hk
    exact h.inj _ _ _ _ _ _ _ hj hk rj rk
  · intro j hj
    rw [St.put_tab]
    split
    · rfl
    · exact h.tabs _ hj
  · intro j e' v hj hv'
    rw [St.put_tab] at hj
    split at hj
    · cases hj
    · exact h.later _ _ _ hj hv'
  · intro k o' hk
    simp only [G.freeze] at hk
    split at hk
    · rename_i hkb; subst hkb; exact .inr (.inr ⟨_, _, _, hr⟩)
    · exact .inl hk

end Go.Bw

/- The framework, part 4: operations on memory do what is said of them. -/
namespace Go.Bw
open Go

/-- what an operation that yields a value does -/
def Does (P : Program) (s : Sem Value) (g : G) (w : World) (d : D) (S' : St) : Prop :=
  ∃ g' w' v, s.run P w = .ok v w' ∧ V g' d v ∧ Sim g' S' w' ∧ Keep g g' w w'

def DoesU (P : Program) (s : Sem Unit) (g : G) (w : World) (S' : St) : Prop :=
  ∃ g' w', s.run P w = .ok () w' ∧ Sim g' S' w' ∧ Keep g g' w w'

theorem Does.same {P : Program} {s : Sem Value} {g : G} {w : World} {d : D} {S : St} {v : Value} (h : s.run P w = .ok v w) (hv : V g d v) (hs : Sim g S w) : Does P s g w d S :=
  ⟨g, w, v, h, hv, hs, .refl _ _⟩

section
variable {P : Program} {w : World}

theorem underlying_runs {t : TypeId} {d : TypeDesc} (h : P.underlying t = some d) : (underlying t).run P w = .ok d w := by
  unfold underlying; simp [h]

theorem sizeOf_runs {t : TypeId} {n : Nat} (h : szOf P t = some n) : (sizeOf t).run P w = .ok n w := by
  unfold szOf at h
  cases hi : P.info? t with
  | none => simp [hi] at h
  | some i => simp [hi] at h; unfold sizeOf typeInfo; simp [hi, h]

theorem isAgg_runs {t : TypeId} {b : Bool} (h : aggB P t = some b) : (isAgg t).run P w = .ok b w := by
  unfold aggB at h
  cases hd : P.underlying t with
  | none => simp [hd] at h
  | some d =>
    simp only [hd] at h
    unfold isAgg
    simp only [Sem.run_bind, underlying_runs hd, Result.andThen_ok]
    cases d <;> simp_all <;> (subst h; rfl)

theorem zero_runs {t : TypeId} {z : Value} (h : (P.info? t).bind (·.zero) = some z) : (zeroValue t).run P w = .ok z w := by
  cases hi : P.info? t with
  | none => simp [hi] at h
  | some i => simp [hi] at h; unfold zeroValue typeInfo; simp [hi, h]

theorem cell_at {b off : Nat} {c : Array Value} {t : TypeId} {fz : Nat × Nat} (h : w.heap[b]? = some (.cells c t fz)) (ho : off < c.size) : w.cell? ⟨b, off, none⟩ = some (c.getD off undef) := by
  simp [World.cell?, h, ho, Array.getD_eq_getD_getElem?]

theorem load_runs {t : TypeId} {ag : Bool} {n b off : Nat} {c : Array Value} {t' : TypeId} {fz : Nat × Nat} (ha : aggB P t = some ag) (hz : szOf P t = some n) (hn : 0 < n)
    (h : w.heap[b]? = some (.cells c t' fz)) (ho : off + n ≤ c.size) :
    (loadVar t ⟨b, off, none⟩).run P w = .ok (if ag then .agg ((List.range n).map fun j => c.getD (off + j) undef).toArray else c.getD off undef) w := by
  unfold loadVar
  simp only [Sem.run_bind, isAgg_runs ha, Result.andThen_ok]
  cases ag with
  | true =>
    simp only [if_true, Sem.run_bind, sizeOf_runs hz, Result.andThen_ok]
    rw [run_loadCells w _ n (fun j => c.getD (off + j) undef) (fun j hj => by rw [addr_add]; exact cell_at h (by omega))]
    rfl
  | false =>
    simp only [Bool.false_eq_true, if_false, run_load, cell_at h (show off < c.size by omega)]
end

theorem V_whole {g : G} {ag : Bool} {cs : List D} {r : D} {n : Nat} (hr : whole ag cs = some r) (hl : cs.length = n) {f : Nat → Value} (hv : ∀ (j : Nat) (d : D), cs[j]? = some d → V g d (f j)) :
    V g r (if ag then .agg ((List.range n).map f).toArray else f 0) := by
  unfold whole at hr
  cases ag with
  | true =>
    simp only [if_true, Option.some.injEq] at hr
    subst hr
    refine .agg (by simp [hl]) fun j d hd => ?_
    have hj : j < n := by rw [← hl]; exact (List.getElem?_eq_some_iff.1 hd).1
    have : (((List.range n).map f).toArray).getD j undef = f j := by simp [Array.getD_eq_getD_getElem?, hj]
    rw [this]; exact hv j d hd
  | false =>
    simp only [Bool.false_eq_true, if_false] at hr ⊢
    cases cs with
    | nil => cases hr
    | cons x xs => simp only [List.head?_cons, Option.some.injEq] at hr; subst hr; exact hv 0 x rfl

theorem load_same {P : Program} {S : St} {g : G} {w : World} {t : TypeId} {d r : D} {x : Value} (h : ldD P S t d = some r) (hs : Sim g S w) (hx : V g d x) : ∃ v, (Instr.loadAt t x).run P w = .ok v w ∧ V g r v := by
  unfold ldD at h
  cases hx with
  | @ptr id ver off b n hr =>
    simp only at h
    cases he : S.tab id with
    | none => simp [he] at h
    | some e =>
    cases hz : szOf P t with
    | none => simp [he, hz] at h
    | some k =>
    cases ha : aggB P t with
    | none => simp [he, hz, ha] at h
    | some ag =>
      simp only [he, hz, ha] at h
      split at h
      · rename_i hc
        obtain ⟨hver, hk, hle⟩ := hc
        obtain ⟨b1, n1, c, t1, fz, a1, a2, a3, a4, a5, a6, a7⟩ := hs.sto id e he
        rw [hver] at a1
        rw [a1] at hr
        simp only [Option.some.injEq, Prod.mk.injEq] at hr
        obtain ⟨rfl, rfl⟩ := hr
        refine ⟨_, ?_, V_whole (f := fun j => c.getD (off + j) undef) (n := k) h (by simp; omega) ?_⟩
        · simp only [Instr.loadAt, Instr.sureAddr, Sem.run_bind, Sem.run_pure, Result.andThen_ok]
          exact load_runs ha hz hk a2 (by omega)
        · intro j d hd
          rw [List.getElem?_take] at hd
          split at hd
          · rw [List.getElem?_drop] at hd; exact a7 _ _ hd
          · cases hd
      · cases h
  | @rp cells b off c t1 fz hm hl hv =>
    simp only at h
    cases hz : szOf P t with
    | none => simp [hz] at h
    | some k =>
    cases ha : aggB P t with
    | none => simp [hz, ha] at h
    | some ag =>
      simp only [hz, ha] at h
      split at h
      · rename_i hc
        obtain ⟨hk, hle⟩ := hc
        refine ⟨_, ?_, V_whole (f := fun j => c.getD (off + j) undef) (n := k) h (by simp; omega) ?_⟩
        · simp only [Instr.loadAt, Instr.sureAddr, Sem.run_bind, Sem.run_pure, Result.andThen_ok]
          exact load_runs ha hz hk (hs.imm _ _ hm) (by omega)
        · intro j d hd
          rw [List.getElem?_take] at hd
          split at hd
          · exact hv _ _ hd
          · cases hd
      · cases h
  | _ => simp at h

theorem load_does {P : Program} {S : St} {g : G} {w : World} {t : TypeId} {d r : D} {x : Value} (h : ldD P S t d = some r) (hs : Sim g S w) (hx : V g d x) : Does P (Instr.loadAt t x) g w r S := by
  obtain ⟨v, h1, h2⟩ := load_same h hs hx
  exact .same h1 h2 hs

/-- one-cell values -/
theorem V_one {g : G} {d : D} {v : Value} (h : V g d v) (ho : d.one = true) : v.oneCell' = true ∧ v.cells = #[v] ∧ d.cells = [d] := by
  cases h <;> simp_all [D.one, Value.oneCell', Value.cells, D.cells]
  rename_i h; cases v <;> simp_all [scalarOk, Value.oneCell', Value.cells]

theorem V_cells {g : G} {d : D} {v : Value} (h : V g d v) (ho : d.cells.all D.one = true) : v.cells.size = d.cells.length ∧ (∀ (j : Nat) (x : D), d.cells[j]? = some x → V g x (v.cells.getD j undef)) ∧ ∀ u ∈ v.cells.toList, u.oneCell' = true := by
  by_cases h1 : d.one = true
  · obtain ⟨a, b, c⟩ := V_one h h1
    rw [b, c]
    refine ⟨by simp, fun j x hx => ?_, by simp [a]⟩
    cases j with
    | zero => simp only [List.getElem?_cons_zero, Option.some.injEq] at hx; subst hx; simpa using h
    | succ j => simp at hx
  · cases h with
    | @agg cells vs hl hv =>
      simp only [D.cells_agg, Value.cells] at ho ⊢
      refine ⟨hl, hv, fun u hu => ?_⟩
      obtain ⟨j, hj, rfl⟩ := List.getElem_of_mem hu
      simp only [Array.length_toList] at hj
      have hd : cells[j]? = some (cells[j]'(by omega)) := by simp
      have := hv j _ hd
      simp only [List.all_eq_true] at ho
      have h2 := (V_one this (ho _ (List.getElem_mem _))).1
      simpa [Array.getD_eq_getD_getElem?, hj] using h2
    | _ => simp_all [D.one, D.cells]

theorem store_does {P : Program} {S S' : St} {g : G} {w : World} {t : TypeId} {p d : D} {x y : Value} (h : stD P S t d p = some S') (hs : Sim g S w) (hp : V g p x) (hd : V g d y) : DoesU P (Instr.storeAt t x y) g w S' := by
  unfold stD at h
  cases hp with
  | @ptr id ver off b n hr =>
    simp only at h
    cases he : S.tab id with
    | none => simp [he] at h
    | some e =>
    cases hz : szOf P t with
    | none => simp [he, hz] at h
    | some k =>
      simp only [he, hz] at h
      split at h
      · rename_i hc
        obtain ⟨hver, hk, hall, hle⟩ := hc
        simp only [Option.some.injEq] at h
        subst h
        obtain ⟨b1, n1, c, t1, fz, a1, a2, a3, a4, a5, a6, a7⟩ := hs.sto id e he
        have a1' := a1
        rw [hver, hr] at a1
        simp only [Option.some.injEq, Prod.mk.injEq] at a1
        obtain ⟨rfl, rfl⟩ := a1
        obtain ⟨k1, k2, k3⟩ := V_cells hd hall
        obtain ⟨w', c', hr', hw, hcs⟩ := storeCells_runs (P := P) (b := b) y.cells.toList w off 0 c a2 (by simp; omega) (by rw [a3]; exact a6.1) k3
        have hsim := hs.wrote he a1' hw (ob := e.ob.take off ++ d.cells ++ e.ob.drop (off + k)) (by simp; omega) (by
          intro j z hz'
          have hlen : (e.ob.take off).length = off := by simp; omega
          rw [hcs j]
          simp only [Nat.add_zero, Array.length_toList]
          by_cases h1 : j < off
          · rw [if_neg (by omega)]
            rw [List.append_assoc, List.getElem?_append_left (by omega), List.getElem?_take, if_pos h1] at hz'
            exact a7 _ _ hz'
          · by_cases h2 : j < off + k
            · rw [if_pos (by omega)]
              rw [List.append_assoc, List.getElem?_append_right (by omega), List.getElem?_append_left (by omega), hlen] at hz'
              have := k2 _ _ hz'
              simpa [Array.getD_eq_getD_getElem?, List.getD] using this
            · rw [if_neg (by omega)]
              rw [List.append_assoc, List.getElem?_append_right (by omega), List.getElem?_append_right (by omega), hlen, List.getElem?_drop] at hz'
              have : off + k + (j - off - d.cells.length) = j := by omega
              rw [this] at hz'
              exact a7 _ _ hz')
        rw [hver] at hsim
        refine ⟨g, w', ?_, hsim, .wrote hr hw⟩
        simp only [Instr.storeAt, Instr.sureAddr, Sem.run_bind, Sem.run_pure, Result.andThen_ok, storeVar, sizeOf_runs hz]
        rw [if_neg (by omega)]
        exact hr'
      · cases h
  | _ => simp at h

/-- constants stand for themselves -/
theorem V_const1 (g : G) (v : Value) : V g (ofConst1 v) v := by
  unfold ofConst1
  split <;> first | exact .undef | exact .nilp | exact .nils | exact .nilfn | exact .nilifc | exact .sc trivial | skip
  split
  · rename_i h; exact .sc h
  · exact .undef

theorem V_const (g : G) (v : Value) : V g (ofConst v) v := by
  unfold ofConst
  split
  · refine .agg (by simp) fun j d hd => ?_
    rename_i cs
    simp only [List.getElem?_map, Option.map_eq_some_iff] at hd
    obtain ⟨u, hu, rfl⟩ := hd
    have : cs.getD j undef = u := by
      simp only [Array.getD_eq_getD_getElem?]
      rw [← Array.getElem?_toList, hu]; rfl
    rw [this]; exact V_const1 g u
  · exact V_const1 g _

theorem V_zero {P : Program} {t : TypeId} {z : List D} (h : zeroD P t = some z) : ∃ v, (P.info? t).bind (·.zero) = some v ∧ v.cells.size = z.length ∧ ∀ g (j : Nat) (d : D), z[j]? = some d → V g d (v.cells.getD j undef) := by
  unfold zeroD at h
  split at h
  · rename_i v hv
    simp only [Option.some.injEq] at h
    subst h
    refine ⟨v, hv, by simp, fun g j d hd => ?_⟩
    simp only [List.getElem?_map, Option.map_eq_some_iff] at hd
    obtain ⟨u, hu, rfl⟩ := hd
    have : v.cells.getD j undef = u := by
      simp only [Array.getD_eq_getD_getElem?]
      rw [← Array.getElem?_toList, hu]; rfl
    rw [this]; exact V_const1 g u
  · cases h

theorem box_does {P : Program} {S : St} {g : G} {w : World} {t : TypeId} {d : D} {x : Value} (hs : Sim g S w) (hd : V g d x) (ho : d.cells.all D.one = true) :
    Does P (Instr.box t x) g w (.ptr S.next 0 0) (S.new d.cells) := by
  obtain ⟨k1, k2, k3⟩ := V_cells hd ho
  refine ⟨g.newRow S.next w.heap.size x.cells.size, w.alloc (.cells x.cells t), .pointer (some ⟨w.heap.size, 0, none⟩), ?_, .ptr (n := x.cells.size) (by simp [G.newRow]), ?_, Keep.newRow hs _ _⟩
  · simp [Instr.box, newVar, newRow]
  · exact hs.newRow rfl (by omega) ⟨by intro o _ h; simp at h, Nat.le_refl _⟩ k2

theorem alloc_does {P : Program} {S : St} {g : G} {w : World} {t : TypeId} {z : List D} (hs : Sim g S w) (hz : zeroD P t = some z) :
    Does P (Instr.alloc t true (.tuple #[])) g w (.ptr S.next 0 0) (S.new z) := by
  obtain ⟨v, h1, h2, h3⟩ := V_zero hz
  refine ⟨g.newRow S.next w.heap.size v.cells.size, w.alloc (.cells v.cells t), .pointer (some ⟨w.heap.size, 0, none⟩), ?_, .ptr (n := v.cells.size) (by simp [G.newRow]), ?_, Keep.newRow hs _ _⟩
  · simp [Instr.alloc, newVar, newRow, zero_runs h1]
  · exact hs.newRow rfl (by omega) ⟨by intro o _ h; simp at h, Nat.le_refl _⟩ (h3 g)

end Go.Bw

/- The framework, part 5: places, parts, elements, cuts. -/
namespace Go.Bw
open Go

def faD (P : Program) (s : TypeId) (f : Nat) : D → Option D
  | .ptr id ver off => (fldOff P s f).map fun o => .ptr id ver (off + o)
  | .rp cells => match fldOff P s f with
    | some o => if o ≤ cells.length then some (.rp (cells.drop o)) else none
    | none => none
  | _ => none

/-- a field's type, place and size -/
def fldD (P : Program) (s : TypeId) (f : Nat) : Option (Nat × Nat × Bool) :=
  match P.underlying s with
  | some (.struct fs) => match fs[f]? with
    | some x => match szOf P x.type, aggB P x.type with
      | some n, some ag => if 0 < n then some (x.offset, n, ag) else none
      | _, _ => none
    | none => none
  | _ => none

def fdD (P : Program) (s : TypeId) (f : Nat) : D → Option D
  | .agg cells => match fldD P s f with
    | some (o, n, ag) => if o + n ≤ cells.length then whole ag ((cells.drop o).take n) else none
    | none => none
  | _ => none

/-- an array type's element, its size, how many -/
def arOf (P : Program) (t : TypeId) : Option (Nat × TypeId × Nat) :=
  match P.underlying t with
  | some (.array len e) => (szOf P e).map fun n => (len, e, n)
  | _ => none

def iaD (P : Program) (t : TypeId) (x i : D) : Option D :=
  match i with
  | .sc (.int _ n) =>
    match x with
    | .ro _ elems => match elOf P t, elems[n.toNat]? with
      | some (_, sz), some e => if 0 ≤ n ∧ e.cells.length = sz then some (.rp e.cells) else none
      | _, _ => none
    | .ref id ver sz off len => match elOf P t with
      | some (_, sz') => if 0 ≤ n ∧ n < len ∧ sz' = sz then some (.ptr id ver (off + n.toNat * sz)) else none
      | none => none
    | .ptr id ver off => match arOf P t with
      | some (len, _, sz) => if 0 ≤ n ∧ n < len then some (.ptr id ver (off + n.toNat * sz)) else none
      | none => none
    | .rp cells => match arOf P t with
      | some (len, _, sz) => if 0 ≤ n ∧ n < len ∧ n.toNat * sz ≤ cells.length then some (.rp (cells.drop (n.toNat * sz))) else none
      | none => none
    | _ => none
  | _ => none

def ixD (P : Program) (t : TypeId) (x i : D) : Option D :=
  match i with
  | .sc (.int _ n) =>
    match x with
    | .sc (.string s) => match P.underlying t with
      | some .string => match s[n.toNat]? with
        | some b => if 0 ≤ n then some (.sc (.int .u8 b.toNat)) else none
        | none => none
      | _ => none
    | .agg cells => match P.underlying t with
      | some (.array len e) => match szOf P e, aggB P e with
        | some sz, some ag => if 0 ≤ n ∧ n < len ∧ 0 < sz ∧ n.toNat * sz + sz ≤ cells.length then whole ag ((cells.drop (n.toNat * sz)).take sz) else none
        | _, _ => none
      | _ => none
    | _ => none
  | _ => none

def boundD (d : Option D) (dflt : Nat) : Option Nat :=
  match d with
  | none => some dflt
  | some (.sc (.int _ n)) => if 0 ≤ n then some n.toNat else none
  | _ => none

/-- how many cells an array of one-cell elements has -/
def paOf (P : Program) (t : TypeId) : Option Nat :=
  match arOf P t with
  | some (n, _, 1) => some n
  | _ => none
def slD (P : Program) (t : TypeId) (x : D) (lo hi : Option D) : Option D :=
  match x with
  | .sc (.string s) => match P.underlying t, boundD hi s.size, boundD lo 0 with
    | some .string, some h, some l => if l ≤ h ∧ h ≤ s.size then some (.sc (.string (s.extract l h))) else none
    | _, _, _ => none
  | .ro ex elems => match elOf P t, boundD hi elems.length, boundD lo 0 with
    | some (_, sz), some h, some l => if l ≤ h ∧ h ≤ elems.length ∧ elems.all (fun e => e.cells.length == sz) = true then some (.ro (ex && h == elems.length) ((elems.take h).drop l)) else none
    | _, _, _ => none
  | .nils => match elOf P t, boundD hi 0, boundD lo 0 with
    | some _, some 0, some 0 => some .nils
    | _, _, _ => none
  | .ref id ver sz off len => match elOf P t, boundD hi len, boundD lo 0 with
    | some (_, sz'), some h, some l => if l ≤ h ∧ h ≤ len ∧ sz' = sz then some (if l = 0 then .ref id ver sz off h else if l = h then .ro false [] else .ref id ver sz (off + l * sz) (h - l)) else none
    | _, _, _ => none
  | .rp cells => match lo, hi, paOf P t with
    | none, none, some n => if cells.length = n ∧ 0 < n ∧ n ≤ 140737488355328 ∧ cells.all D.one = true then some (.ro false cells) else none
    | _, _, _ => none
  | _ => none

def lenD (P : Program) (t : TypeId) : D → Option D
  | .sc (.string s) => match P.underlying t with | some .string => some (.sc (.int .i64 s.size)) | _ => none
  | .ro _ elems => match P.underlying t with | some (.slice _) => some (.sc (.int .i64 elems.length)) | _ => none
  | .nils => match P.underlying t with | some (.slice _) => some (.sc (.int .i64 0)) | _ => none
  | .ref _ _ _ _ len => match P.underlying t with | some (.slice _) => some (.sc (.int .i64 len)) | _ => none
  | _ => none

section
variable {P : Program} {S : St} {g : G} {w : World}

theorem fieldPlace_runs {b off : Nat} {f : Field} {n : Nat} (h : szOf P f.type = some (n + 1)) : (fieldPlace ⟨b, off, none⟩ f).run P w = .ok ⟨b, off + f.offset, none⟩ w := by
  unfold fieldPlace
  simp [sizeOf_runs h, addr_add]

theorem fldOff_spec {s : TypeId} {f o : Nat} (h : fldOff P s f = some o) : ∃ fs x n, P.underlying s = some (.struct fs) ∧ fs[f]? = some x ∧ szOf P x.type = some (n + 1) ∧ x.offset = o := by
  unfold fldOff at h
  split at h
  · rename_i fs hu
    split at h
    · rename_i x hx
      split at h
      · rename_i n hn
        simp only [Option.some.injEq] at h
        exact ⟨fs, x, n, hu, hx, hn, h⟩
      · cases h
    · cases h
  · cases h

theorem fieldAddr_does {s : TypeId} {f : Nat} {d r : D} {x : Value} (h : faD P s f d = some r) (hs : Sim g S w) (hx : V g d x) : Does P (Instr.fieldAt s x f) g w r S := by
  unfold faD at h
  cases hx with
  | @ptr id ver off b n hr =>
    simp only [Option.map_eq_some_iff] at h
    obtain ⟨o, ho, rfl⟩ := h
    obtain ⟨fs, y, k, hu, hy, hk, rfl⟩ := fldOff_spec ho
    refine .same (v := .pointer (some ⟨b, off + y.offset, none⟩)) ?_ (.ptr hr) hs
    simp [Instr.fieldAt, underlying_runs hu, hy, Instr.sureAddr, fieldPlace_runs hk]
  | @rp cells b off c t1 fz hm hl hv =>
    simp only at h
    cases ho : fldOff P s f with
    | none => simp [ho] at h
    | some o =>
      simp only [ho] at h
      split at h
      · rename_i hc
        simp only [Option.some.injEq] at h
        subst h
        obtain ⟨fs, y, k, hu, hy, hk, rfl⟩ := fldOff_spec ho
        refine .same (v := .pointer (some ⟨b, off + y.offset, none⟩)) ?_ (.rp hm (by simp; omega) fun j d hd => ?_) hs
        · simp [Instr.fieldAt, underlying_runs hu, hy, Instr.sureAddr, fieldPlace_runs hk]
        · rw [List.getElem?_drop] at hd
          have := hv _ _ hd
          rwa [← Nat.add_assoc] at this
      · cases h
  | _ => simp at h

theorem V_part {ag : Bool} {cells : List D} {vs : Array Value} {o n : Nat} {r : D} (hl : vs.size = cells.length) (hv : ∀ (j : Nat) (d : D), cells[j]? = some d → V g d (vs.getD j undef)) (hn : 0 < n) (ho : o + n ≤ cells.length)
    (hr : whole ag ((cells.drop o).take n) = some r) : V g r (if ag then .agg (vs.extract o (o + n)) else vs.getD o undef) := by
  have := V_whole (g := g) (n := n) (f := fun j => vs.getD (o + j) undef) hr (by simp; omega) (fun j d hd => by
    rw [List.getElem?_take] at hd
    split at hd
    · rw [List.getElem?_drop] at hd; exact hv _ _ hd
    · cases hd)
  have e : (Array.extract vs o (o + n)) = ((List.range n).map fun j => vs.getD (o + j) undef).toArray := by
    apply Array.ext
    · simp; omega
    · intro i h1 h2
      simp at h1 h2
      simp [Array.getD_eq_getD_getElem?, show o + i < vs.size by omega]
  rw [e]
  exact this

theorem part_runs {t : TypeId} {vs : Array Value} {ag : Bool} {o n : Nat} (ha : aggB P t = some ag) (hz : szOf P t = some n) (hn : 0 < n) (ho : o + n ≤ vs.size) :
    (part t vs o).run P w = .ok (if ag then .agg (vs.extract o (o + n)) else vs.getD o undef) w := by
  unfold part
  simp only [Sem.run_bind, isAgg_runs ha, Result.andThen_ok]
  cases ag with
  | true => simp [sizeOf_runs hz]
  | false => simp [Array.getD_eq_getD_getElem?, show o < vs.size by omega]

theorem field_does {s : TypeId} {f : Nat} {d r : D} {x : Value} (h : fdD P s f d = some r) (hs : Sim g S w) (hx : V g d x) : Does P (Instr.field s x f) g w r S := by
  unfold fdD at h
  cases hx with
  | @agg cells vs hl hv =>
    simp only at h
    split at h
    · rename_i o n ag hf
      split at h
      · rename_i hc
        unfold fldD at hf
        split at hf
        · rename_i fs hu
          split at hf
          · rename_i y hy
            split at hf
            · rename_i n' ag' hz ha
              split at hf
              · rename_i hn
                simp only [Option.some.injEq, Prod.mk.injEq] at hf
                obtain ⟨rfl, rfl, rfl⟩ := hf
                refine .same (v := _) ?_ (V_part hl hv hn hc h) hs
                simp only [Instr.field, Sem.run_bind, underlying_runs hu, Result.andThen_ok, hy, asAgg, Sem.run_pure]
                exact part_runs ha hz hn (by omega)
              · cases hf
            · cases hf
          · cases hf
        · cases hf
      · cases h
    · cases h
  | _ => simp at h

theorem elOf_spec {t e : TypeId} {n : Nat} (h : elOf P t = some (e, n)) : P.underlying t = some (.slice e) ∧ szOf P e = some n := by
  unfold elOf at h
  split at h
  · rename_i e' hu
    simp only [Option.map_eq_some_iff, Prod.mk.injEq] at h
    obtain ⟨k, hk, rfl, rfl⟩ := h
    exact ⟨hu, hk⟩
  · cases h

theorem arOf_spec {t e : TypeId} {len n : Nat} (h : arOf P t = some (len, e, n)) : P.underlying t = some (.array len e) ∧ szOf P e = some n := by
  unfold arOf at h
  split at h
  · rename_i l' e' hu
    simp only [Option.map_eq_some_iff, Prod.mk.injEq] at h
    obtain ⟨k, hk, rfl, rfl, rfl⟩ := h
    exact ⟨hu, hk⟩
  · cases h

theorem flatMap_at {elems : List D} {sz : Nat} (hs : ∀ e ∈ elems, e.cells.length = sz) : ∀ (i j : Nat) (e : D), elems[i]? = some e → j < sz → (elems.flatMap D.cells)[i * sz + j]? = e.cells[j]? := by
  induction elems with
  | nil => intro i j e h; simp at h
  | cons x xs ih =>
    intro i j e h hj
    have hx := hs x List.mem_cons_self
    cases i with
    | zero =>
      simp only [List.getElem?_cons_zero, Option.some.injEq] at h
      subst h
      simp only [List.flatMap_cons, Nat.zero_mul, Nat.zero_add]
      rw [List.getElem?_append_left (by omega)]
    | succ i =>
      simp only [List.getElem?_cons_succ] at h
      simp only [List.flatMap_cons]
      rw [List.getElem?_append_right (by rw [Nat.succ_mul]; omega), hx]
      have : (i + 1) * sz + j - sz = i * sz + j := by rw [Nat.succ_mul]; omega
      rw [this]
      exact ih (fun e he => hs e (List.mem_cons_of_mem _ he)) i j e h hj

theorem indexAddr_does {t : TypeId} {d i r : D} {x y : Value} (h : iaD P t d i = some r) (hs : Sim g S w) (hx : V g d x) (hi : V g i y) : Does P (Instr.indexAt t x y) g w r S := by
  unfold iaD at h
  split at h
  · rename_i k n
    obtain rfl : y = .int k n := by cases hi; rfl
    cases hx with
    | roNil => simp at h
    | roNone => simp at h
    | @ro ex elems b off cap sz c t1 fz hm hsz hl hc hxx he hvv =>
      simp only at h
      cases ho : elOf P t with
      | none => simp [ho] at h
      | some es =>
        obtain ⟨e, sz'⟩ := es
        cases hel : elems[n.toNat]? with
        | none => simp [ho, hel] at h
        | some el =>
          simp only [ho, hel] at h
          split at h
          · rename_i hcnd
            obtain ⟨hn, hsz'⟩ := hcnd
            simp only [Option.some.injEq] at h
            subst h
            obtain ⟨hu, hz⟩ := elOf_spec ho
            have hlt : n.toNat < elems.length := (List.getElem?_eq_some_iff.1 hel).1
            have h1 : el.cells.length = sz := hsz _ (List.mem_of_getElem? hel)
            have hss : sz' = sz := by omega
            subst hss
            have hmul : n.toNat * sz' + sz' ≤ elems.length * sz' := by rw [← Nat.succ_mul]; exact Nat.mul_le_mul_right _ hlt
            refine .same (v := .pointer (some ⟨b, off + n.toNat * sz', none⟩)) ?_ (.rp hm (by omega) fun j d hd => ?_) hs
            · simp only [Instr.indexAt, asIntOf, Sem.run_bind, Sem.run_pure, Result.andThen_ok, underlying_runs hu]
              simp only [Sem.run_bind, Sem.run_ite, sizeOf_runs hz, Result.andThen_ok, Sem.run_pure, addr_add, underlying_runs hu]
              rw [if_pos ⟨hn, by omega⟩]
            · have hj : j < sz' := by rw [← h1]; exact (List.getElem?_eq_some_iff.1 hd).1
              have := hvv (n.toNat * sz' + j) d (by rw [flatMap_at hsz _ _ _ hel hj]; exact hd)
              rwa [← Nat.add_assoc] at this
          · cases h
    | @ref id ver sz off len b n' cap hr hl hxx hn =>
      simp only at h
      cases ho : elOf P t with
      | none => simp [ho] at h
      | some es =>
        obtain ⟨e, sz'⟩ := es
        simp only [ho] at h
        split at h
        · rename_i hcnd
          obtain ⟨h0, hlt, rfl⟩ := hcnd
          simp only [Option.some.injEq] at h
          subst h
          obtain ⟨hu, hz⟩ := elOf_spec ho
          refine .same (v := .pointer (some ⟨b, off + n.toNat * sz', none⟩)) ?_ (.ptr hr) hs
          simp only [Instr.indexAt, asIntOf, Sem.run_bind, Sem.run_pure, Result.andThen_ok, underlying_runs hu]
          simp only [Sem.run_bind, Sem.run_ite, sizeOf_runs hz, Result.andThen_ok, Sem.run_pure, addr_add, underlying_runs hu]
          rw [if_pos ⟨h0, by omega⟩]
        · cases h
    | @ptr id ver off b n' hr =>
      simp only at h
      cases ho : arOf P t with
      | none => simp [ho] at h
      | some es =>
        obtain ⟨len, e, sz'⟩ := es
        simp only [ho] at h
        split at h
        · rename_i hcnd
          simp only [Option.some.injEq] at h
          subst h
          obtain ⟨hu, hz⟩ := arOf_spec ho
          refine .same (v := .pointer (some ⟨b, off + n.toNat * sz', none⟩)) ?_ (.ptr hr) hs
          simp only [Instr.indexAt, asIntOf, Sem.run_bind, Sem.run_pure, Result.andThen_ok, underlying_runs hu, Instr.sureAddr]
          simp only [Sem.run_bind, Sem.run_ite, sizeOf_runs hz, Result.andThen_ok, Sem.run_pure, addr_add, underlying_runs hu]
          rw [if_pos ⟨hcnd.1, by omega⟩]
        · cases h
    | @rp cells b off c t1 fz hm hl hvv =>
      simp only at h
      cases ho : arOf P t with
      | none => simp [ho] at h
      | some es =>
        obtain ⟨len, e, sz'⟩ := es
        simp only [ho] at h
        split at h
        · rename_i hcnd
          simp only [Option.some.injEq] at h
          subst h
          obtain ⟨hu, hz⟩ := arOf_spec ho
          refine .same (v := .pointer (some ⟨b, off + n.toNat * sz', none⟩)) ?_ (.rp hm (by simp; omega) fun j d hd => ?_) hs
          · simp only [Instr.indexAt, asIntOf, Sem.run_bind, Sem.run_pure, Result.andThen_ok, underlying_runs hu, Instr.sureAddr]
            simp only [Sem.run_bind, Sem.run_ite, sizeOf_runs hz, Result.andThen_ok, Sem.run_pure, addr_add, underlying_runs hu]
            rw [if_pos ⟨hcnd.1, by omega⟩]
          · rw [List.getElem?_drop] at hd
            have := hvv _ _ hd
            rwa [← Nat.add_assoc] at this
        · cases h
    | _ => simp at h
  · cases h

theorem index_does {t : TypeId} {d i r : D} {x y : Value} (h : ixD P t d i = some r) (hs : Sim g S w) (hx : V g d x) (hi : V g i y) : Does P (Instr.index t x y) g w r S := by
  unfold ixD at h
  split at h
  · rename_i k n
    obtain rfl : y = .int k n := by cases hi; rfl
    cases hx with
    | sc hu =>
      cases x with
      | string s =>
        simp only at h
        split at h
        · rename_i hund
          split at h
          · rename_i b hb
            split at h
            · rename_i h0
              simp only [Option.some.injEq] at h
              subst h
              refine .same (v := .int .u8 b.toNat) ?_ (.sc trivial) hs
              simp only [Instr.index, asIntOf, Sem.run_bind, Sem.run_pure, Result.andThen_ok, underlying_runs hund]
              rw [if_pos h0, hb]
              rfl
            · cases h
          · cases h
        · cases h
      | _ => simp at h
    | @agg cells vs hl hvv =>
      simp only at h
      split at h
      · rename_i len e hund
        split at h
        · rename_i sz ag hz ha
          split at h
          · rename_i hc
            refine .same (v := _) ?_ (V_part hl hvv hc.2.2.1 hc.2.2.2 h) hs
            simp only [Instr.index, asIntOf, Sem.run_bind, Sem.run_pure, Result.andThen_ok, underlying_runs hund]
            simp only [Sem.run_ite, Sem.run_bind, sizeOf_runs hz, Result.andThen_ok]
            rw [if_pos ⟨hc.1, hc.2.1⟩]
            exact part_runs ha hz hc.2.2.1 (by omega)
          · cases h
        · cases h
      · cases h
    | _ => simp at h
  · cases h

theorem len_does {ty : TypeId} {t : TypeId} {d r : D} {x : Value} (h : lenD P t d = some r) (hs : Sim g S w) (hx : V g d x) : Does P (Builtin.len_ #[t] ty #[x]) g w r S := by
  unfold lenD at h
  cases hx with
  | sc hu =>
    cases x with
    | string s =>
      simp only at h
      split at h
      · rename_i hund
        simp only [Option.some.injEq] at h
        subst h
        exact .same (v := goInt s.size) (by simp [Builtin.len_, underlying_runs hund]) (.sc trivial) hs
      · cases h
    | _ => simp at h
  | nils | roNil | roNone | ro | ref =>
    simp only at h
    split at h
    · rename_i e hund
      simp only [Option.some.injEq] at h
      subst h
      exact .same (v := _) (by simp [Builtin.len_, underlying_runs hund]; rfl) (.sc trivial) hs
    · cases h
  | _ => simp at h

end
end Go.Bw

/- The framework, part 6: cuts of slices, values that are built, slices that are made, texts and bytes. -/
namespace Go.Bw
open Go

section
variable {P : Program} {S : St} {g : G} {w : World}

theorem bound_spec {lo : Option D} {lv : Option Value} {dflt n : Nat} (h : boundD lo dflt = some n) (hv : (lo = none ∧ lv = none) ∨ ∃ d v, lo = some d ∧ lv = some v ∧ V g d v) :
    (lv = none ∧ n = dflt) ∨ ∃ (k : IntKind) (m : Int), lv = some (.int k m) ∧ 0 ≤ m ∧ m.toNat = n := by
  rcases hv with ⟨rfl, rfl⟩ | ⟨d, v, rfl, rfl, hv⟩
  · simp only [boundD, Option.some.injEq] at h; exact .inl ⟨rfl, h.symm⟩
  · unfold boundD at h
    split at h
    · rename_i hh; cases hh
    · rename_i k m hh
      simp only [Option.some.injEq] at hh
      subst hh
      cases hv
      split at h
      · rename_i h0; simp only [Option.some.injEq] at h; exact .inr ⟨k, m, rfl, h0, h⟩
      · cases h
    · cases h

theorem bounds_runs {isSlice : Bool} {len cap : Nat} {lo hi : Option Value} {l h : Nat} (hl : (lo = none ∧ l = 0) ∨ ∃ (k : IntKind) (m : Int), lo = some (.int k m) ∧ 0 ≤ m ∧ m.toNat = l)
    (hh : (hi = none ∧ h = len) ∨ ∃ (k : IntKind) (m : Int), hi = some (.int k m) ∧ 0 ≤ m ∧ m.toNat = h) (h1 : l ≤ h) (h2 : h ≤ cap) :
    (Instr.sliceBounds isSlice len cap lo hi none).run P w = .ok (l, h, cap) w := by
  rcases hl with ⟨rfl, rfl⟩ | ⟨k, m, rfl, m0, rfl⟩ <;> rcases hh with ⟨rfl, rfl⟩ | ⟨k', m', rfl, m0', rfl⟩
  · simp [Instr.sliceBounds]
  · simp only [Instr.sliceBounds, Instr.sliceBound, asIntOf, Sem.run_bind, Sem.run_pure, Result.andThen_ok]
    rw [if_pos ⟨m0', by omega⟩]
    simp
  · simp only [Instr.sliceBounds, Instr.sliceBound, asIntOf, Sem.run_bind, Sem.run_pure, Result.andThen_ok]
    rw [if_pos ⟨m0, by omega⟩]
    simp
  · simp only [Instr.sliceBounds, Instr.sliceBound, asIntOf, Sem.run_bind, Sem.run_pure, Result.andThen_ok]
    rw [if_pos ⟨m0', by omega⟩]
    simp only [Sem.run_pure, Result.andThen_ok, Option.isSome_none, Bool.false_eq_true, if_false]
    rw [if_pos ⟨m0, by omega⟩]
    simp

theorem flatMap_drop {elems : List D} {sz : Nat} (hs : ∀ e ∈ elems, e.cells.length = sz) : ∀ l, l ≤ elems.length → (elems.drop l).flatMap D.cells = (elems.flatMap D.cells).drop (l * sz) := by
  induction elems with
  | nil => intro l h; simp
  | cons x xs ih =>
    intro l hl
    cases l with
    | zero => simp
    | succ l =>
      have hx := hs x List.mem_cons_self
      simp only [List.drop_succ_cons, List.flatMap_cons]
      have e1 : (l + 1) * sz = sz + l * sz := by rw [Nat.succ_mul]; omega
      rw [ih (fun e he => hs e (List.mem_cons_of_mem _ he)) l (by simp at hl; omega), e1, ← List.drop_drop]
      congr 1
      rw [List.drop_append_of_le_length (by omega), List.drop_of_length_le (by omega)]
      simp

theorem flatMap_len {elems : List D} {sz : Nat} (hs : ∀ e ∈ elems, e.cells.length = sz) : (elems.flatMap D.cells).length = elems.length * sz := by
  induction elems with
  | nil => simp
  | cons x xs ih =>
    simp only [List.flatMap_cons, List.length_append, List.length_cons]
    rw [ih (fun e he => hs e (List.mem_cons_of_mem _ he)), hs x List.mem_cons_self, Nat.succ_mul]; omega

theorem paOf_spec {t : TypeId} {n : Nat} (h : paOf P t = some n) : ∃ e, P.underlying t = some (.array n e) ∧ szOf P e = some 1 := by
  unfold paOf at h
  split at h
  · rename_i n' e hr
    simp only [Option.some.injEq] at h
    subst h
    unfold arOf at hr
    split at hr
    · rename_i len e' hu
      simp only [Option.map_eq_some_iff, Prod.mk.injEq] at hr
      obtain ⟨z, hz, rfl, rfl, rfl⟩ := hr
      exact ⟨e', hu, hz⟩
    · cases hr
  · cases h
theorem one_cells {d : D} (h : d.one = true) : d.cells = [d] := by cases d <;> first | rfl | cases h
theorem all_one_cells {l : List D} (h : l.all D.one = true) : l.flatMap D.cells = l := by
  induction l with
  | nil => rfl
  | cons x l ih =>
    simp only [List.all_cons, Bool.and_eq_true] at h
    rw [List.flatMap_cons, one_cells h.1, ih h.2]; rfl
theorem slice_does {t : TypeId} {d r : D} {x : Value} {lo hi : Option D} {lv hv : Option Value} (h : slD P t d lo hi = some r) (hs : Sim g S w) (hx : V g d x)
    (hlo : (lo = none ∧ lv = none) ∨ ∃ d v, lo = some d ∧ lv = some v ∧ V g d v) (hhi : (hi = none ∧ hv = none) ∨ ∃ d v, hi = some d ∧ hv = some v ∧ V g d v) :
    Does P (Instr.sliceAt t x lv hv none) g w r S := by
  unfold slD at h
  cases hx with
  | sc hsc =>
    cases x with
    | string s =>
      simp only at h
      split at h
      · rename_i h' l' hund hbh hbl
        split at h
        · rename_i hc
          simp only [Option.some.injEq] at h
          subst h
          refine .same (v := .string (s.extract l' h')) ?_ (.sc ?_) hs
          · simp only [Instr.sliceAt, Instr.slice, Sem.run_bind, underlying_runs hund, Result.andThen_ok]
            simp only [Option.isSome_none, Bool.false_eq_true, if_false, Sem.run_bind]
            rw [bounds_runs (bound_spec hbl hlo) (bound_spec hbh hhi) hc.1 hc.2]
            simp
          · simp only [scalarOk] at hsc ⊢
            simp only [ByteArray.size_extract]
            omega
        · cases h
      · cases h
    | _ => simp at h
  | nils =>
    simp only at h
    split at h
    · rename_i es hel hbh hbl
      obtain ⟨e, sz⟩ := es
      obtain ⟨hu, hz⟩ := elOf_spec hel
      simp only [Option.some.injEq] at h
      subst h
      refine .same (v := .slice none 0 0) ?_ .nils hs
      simp only [Instr.sliceAt, Instr.slice, Sem.run_bind, underlying_runs hu, Result.andThen_ok]
      rw [bounds_runs (bound_spec hbl hlo) (bound_spec hbh hhi) (Nat.le_refl _) (Nat.le_refl _)]
      simp [sizeOf_runs hz]
    · cases h
  | roNil =>
    simp only at h
    split at h
    · rename_i sz h' l' hel hbh hbl
      split at h
      · rename_i hc
        obtain ⟨hu, hz⟩ := elOf_spec hel
        simp only [Option.some.injEq, List.length_nil, Nat.le_zero_eq] at h hc
        obtain ⟨hc1, hc2, -⟩ := hc
        subst hc2
        simp only [List.length_nil] at hbh
        have : l' = 0 := by omega
        subst this
        subst h
        refine .same (v := .slice none 0 0) ?_ (by simp; exact .roNil) hs
        simp only [Instr.sliceAt, Instr.slice, Sem.run_bind, underlying_runs hu, Result.andThen_ok]
        rw [bounds_runs (bound_spec hbl hlo) (bound_spec hbh hhi) (Nat.le_refl _) (Nat.le_refl _)]
        simp [sizeOf_runs hz]
      · cases h
    · cases h
  | @roNone ex a cap hcap he =>
    simp only at h
    split at h
    · rename_i sz h' l' hel hbh hbl
      split at h
      · rename_i hc
        obtain ⟨hu, hz⟩ := elOf_spec hel
        simp only [Option.some.injEq, List.length_nil, Nat.le_zero_eq] at h hc
        obtain ⟨hc1, hc2, -⟩ := hc
        subst hc2
        simp only [List.length_nil] at hbh
        have : l' = 0 := by omega
        subst this
        subst h
        refine .same (v := .slice (some (if cap = 0 then a else a.add (0 * sz))) 0 cap) ?_ (by simp; exact .roNone hcap he) hs
        simp only [Instr.sliceAt, Instr.slice, Sem.run_bind, underlying_runs hu, Result.andThen_ok]
        rw [bounds_runs (bound_spec hbl hlo) (bound_spec hbh hhi) (Nat.le_refl _) (Nat.zero_le _)]
        simp [sizeOf_runs hz]
        split <;> rfl
      · cases h
    · cases h
  | @ro ex elems b off cap sz c t1 fz hm hsz hl hc hxx he hvv =>
    simp only at h
    split at h
    · rename_i sz' h' l' hel hbh hbl
      split at h
      · rename_i hcnd
        obtain ⟨c1, c2, c3⟩ := hcnd
        obtain ⟨hu, hz⟩ := elOf_spec hel
        simp only [Option.some.injEq] at h
        subst h
        simp only [List.all_eq_true, beq_iff_eq] at c3
        have hlen : ((elems.take h').drop l').length = h' - l' := by simp; omega
        have hrun : (Instr.sliceAt t (.slice (some ⟨b, off, none⟩) elems.length cap) lv hv none).run P w =
            .ok (.slice (if cap = l' then some ⟨b, off, none⟩ else some ⟨b, off + l' * sz', none⟩) (h' - l') (cap - l')) w := by
          simp only [Instr.sliceAt, Instr.slice, Sem.run_bind, underlying_runs hu, Result.andThen_ok]
          rw [bounds_runs (bound_spec hbl hlo) (bound_spec hbh hhi) c1 (by omega)]
          simp [sizeOf_runs hz, addr_add]
        by_cases hem : h' = l'
        · subst hem
          have : (elems.take h').drop h' = [] := by apply List.eq_nil_of_length_eq_zero; omega
          rw [this]
          refine .same hrun ?_ hs
          rw [Nat.sub_self]
          have hex : (ex && h' == elems.length) = true → cap - h' = 0 := by
            intro hh; simp only [Bool.and_eq_true, beq_iff_eq] at hh; have := he hh.1; omega
          split
          · exact .roNone (by omega) hex
          · exact .roNone (by omega) hex
        · rw [if_neg (by omega)] at hrun
          refine .same hrun ?_ hs
          have hne : elems ≠ [] := by rintro rfl; simp at c2; omega
          obtain ⟨e0, he0⟩ := List.exists_mem_of_ne_nil _ hne
          have hss : sz' = sz := by rw [← c3 _ he0, hsz _ he0]
          subst hss
          rw [← hlen]
          refine .ro hm (fun e hee => hsz e (List.mem_of_mem_take (List.mem_of_mem_drop hee))) ?_ (by omega) (by omega) ?_ ?_
          · rw [hlen]
            have : l' * sz' + (h' - l') * sz' = h' * sz' := by rw [← Nat.add_mul]; congr 1; omega
            have : h' * sz' ≤ elems.length * sz' := Nat.mul_le_mul_right _ c2
            omega
          · intro hh; simp only [Bool.and_eq_true, beq_iff_eq] at hh; have := he hh.1; omega
          · intro j d hd
            rw [flatMap_drop (fun e hee => hsz e (List.mem_of_mem_take hee)) l' (by simp; omega), List.getElem?_drop] at hd
            have hpre : ((elems.take h').flatMap D.cells) <+: (elems.flatMap D.cells) := by
              refine ⟨(elems.drop h').flatMap D.cells, ?_⟩
              rw [← List.flatMap_append, List.take_append_drop]
            have hd' : (elems.flatMap D.cells)[l' * sz' + j]? = some d := by
              obtain ⟨rest, hrest⟩ := hpre
              rw [← hrest, List.getElem?_append_left (List.getElem?_eq_some_iff.1 hd).1]; exact hd
            have := hvv _ _ hd'
            rwa [← Nat.add_assoc] at this
      · cases h
    · cases h
  | @ref id ver sz off len b n cap hr hl hxx hn =>
    simp only at h
    split at h
    · rename_i sz' h' l' hel hbh hbl
      split at h
      · rename_i hcnd
        obtain ⟨c1, c2, rfl⟩ := hcnd
        obtain ⟨hu, hz⟩ := elOf_spec hel
        simp only [Option.some.injEq] at h
        have hrun : (Instr.sliceAt t (.slice (some ⟨b, off, none⟩) len cap) lv hv none).run P w =
            .ok (.slice (if cap = l' then some ⟨b, off, none⟩ else some ⟨b, off + l' * sz', none⟩) (h' - l') (cap - l')) w := by
          simp only [Instr.sliceAt, Instr.slice, Sem.run_bind, underlying_runs hu, Result.andThen_ok]
          rw [bounds_runs (bound_spec hbl hlo) (bound_spec hbh hhi) c1 (by omega)]
          simp [sizeOf_runs hz, addr_add]
        split at h
        · rename_i h0
          subst h0
          subst h
          refine .same hrun ?_ hs
          simp only [Nat.zero_mul, Nat.add_zero, ite_self, Nat.sub_zero]
          exact .ref hr (by omega) hxx hn
        · rename_i h0
          split at h
          · rename_i h1
            subst h1
            subst h
            refine .same hrun ?_ hs
            rw [Nat.sub_self]
            split
            · exact .roNone (by omega) (by simp)
            · exact .roNone (by omega) (by simp)
          · rename_i h1
            subst h
            refine .same hrun ?_ hs
            rw [if_neg (by omega)]
            refine .ref hr (by omega) (by omega) ?_
            have : l' * sz' + (cap - l') * sz' = cap * sz' := by rw [← Nat.add_mul]; congr 1; omega
            omega
      · cases h
    · cases h
  | @rp cells b off c t1 fz hm hl hvv =>
    simp only at h
    split at h
    · rename_i n hpa
      split at h
      · rename_i hcnd
        obtain ⟨c1, c2, c3, c4⟩ := hcnd
        simp only [Option.some.injEq] at h
        subst h
        obtain ⟨e, hu, hz⟩ := paOf_spec hpa
        obtain rfl : lv = none := by
          rcases hlo with ⟨_, h⟩ | ⟨_, _, h, _⟩
          · exact h
          · cases h
        obtain rfl : hv = none := by
          rcases hhi with ⟨_, h⟩ | ⟨_, _, h, _⟩
          · exact h
          · cases h
        have hb := bounds_runs (P := P) (w := w) (isSlice := false) (len := n) (cap := n) (lo := none) (hi := none) (l := 0) (h := n) (.inl ⟨rfl, rfl⟩) (.inl ⟨rfl, rfl⟩) (Nat.zero_le _) (Nat.le_refl _)
        have hn0 : ¬ n = 0 := by omega
        subst c1
        refine .same (v := .slice (some ⟨b, off, none⟩) cells.length cells.length) ?_ ?_ hs
        · simp only [Instr.sliceAt, Sem.run_bind, underlying_runs hu, Result.andThen_ok, Instr.sureAddr, Sem.run_pure, hb, sizeOf_runs hz]
          rw [if_neg hn0]
          simp [addr_add]
        · refine .ro hm (sz := 1) (fun d hd => ?_) (by omega) (Nat.le_refl _) (by omega) (fun _ => rfl) (fun j d hd => ?_)
          · rw [List.all_eq_true] at c4
            rw [one_cells (c4 d hd)]; rfl
          · rw [all_one_cells c4] at hd
            exact hvv j d hd
      · cases h
    · cases h
  | _ => simp at h

end
end Go.Bw

/- The framework, part 7: structs that are built, rows that are laid out, slices that are made. -/
namespace Go.Bw
open Go

theorem wrap_i64 {n : Int} (h : -9223372036854775808 ≤ n) (k : n ≤ 9223372036854775807) : IntKind.i64.wrap n = n := by
  simp [IntKind.wrap, IntKind.bits, IntKind.signed]
  split <;> omega

theorem lay_fold : ∀ (l : List Value) (k off : Nat) (cells : Array Value),
    ((l.zipIdx k).foldl (fun (cs : Array Value) (x : Value × Nat) => cs.setIfInBounds (off + x.2) x.1) cells).size = cells.size ∧
    ∀ j, ((l.zipIdx k).foldl (fun (cs : Array Value) (x : Value × Nat) => cs.setIfInBounds (off + x.2) x.1) cells).getD j undef =
      if off + k ≤ j ∧ j < off + k + l.length ∧ j < cells.size then l.getD (j - (off + k)) undef else cells.getD j undef
  | [], k, off, cells => ⟨rfl, fun j => by rw [if_neg (by simp; omega)]; rfl⟩
  | v :: l, k, off, cells => by
    obtain ⟨h1, h2⟩ := lay_fold l (k + 1) off (cells.setIfInBounds (off + k) v)
    simp only [List.zipIdx_cons, List.foldl_cons]
    refine ⟨by rw [h1]; simp, fun j => ?_⟩
    rw [h2 j]
    simp only [Array.size_setIfInBounds, List.length_cons]
    by_cases hj : j = off + k
    · subst hj
      rw [if_neg (by omega)]
      by_cases hc : off + k < cells.size
      · rw [if_pos (by omega)]
        simp [Array.getD_eq_getD_getElem?, Array.getElem?_setIfInBounds, hc]
      · rw [if_neg (by omega)]
        simp [Array.getD_eq_getD_getElem?, Array.getElem?_setIfInBounds, hc]
    · by_cases hin : off + (k + 1) ≤ j ∧ j < off + (k + 1) + l.length ∧ j < cells.size
      · rw [if_pos hin, if_pos (by omega)]
        have : j - (off + k) = (j - (off + (k + 1))) + 1 := by omega
        rw [this]; rfl
      · rw [if_neg hin, if_neg (by omega)]
        simp [Array.getD_eq_getD_getElem?, Array.getElem?_setIfInBounds, Ne.symm hj]

theorem splice_at {g : G} {ds xs : List D} {off : Nat} {f h : Nat → Value} {c : Nat → Value} (ho : off + xs.length ≤ ds.length) (hd : ∀ (j : Nat) (d : D), ds[j]? = some d → V g d (f j))
    (hx : ∀ (j : Nat) (d : D), xs[j]? = some d → V g d (h j)) (hc : ∀ j, c j = if off ≤ j ∧ j < off + xs.length then h (j - off) else f j) :
    ∀ (j : Nat) (d : D), (ds.take off ++ xs ++ ds.drop (off + xs.length))[j]? = some d → V g d (c j) := by
  intro j d hj
  have hlen : (ds.take off).length = off := by simp; omega
  rw [hc j]
  by_cases h1 : j < off
  · rw [if_neg (by omega)]
    rw [List.append_assoc, List.getElem?_append_left (by omega), List.getElem?_take, if_pos h1] at hj
    exact hd _ _ hj
  · by_cases h2 : j < off + xs.length
    · rw [if_pos (by omega)]
      rw [List.append_assoc, List.getElem?_append_right (by omega), List.getElem?_append_left (by omega), hlen] at hj
      exact hx _ _ hj
    · rw [if_neg (by omega)]
      rw [List.append_assoc, List.getElem?_append_right (by omega), List.getElem?_append_right (by omega), hlen, List.getElem?_drop] at hj
      have : off + xs.length + (j - off - xs.length) = j := by omega
      rw [this] at hj
      exact hd _ _ hj

theorem lay_fill {g : G} {α : Type} (f : α → D) (h : α → Value) (place : Nat → Option (Nat × Nat)) : ∀ (parts : List (Nat × α)) (ds : List D) (cs : Array Value) (r : List D),
    (∀ p ∈ parts, V g (f p.2) (h p.2)) → VL g ds cs → layD place ds (parts.map fun p => (p.1, f p.2)) = some r →
    ∃ r', Instr.fill place cs (parts.map fun p => (p.1, h p.2)) = some r' ∧ VL g r r'
  | [], ds, cs, r, _, hv, hr => by
    simp only [List.map_nil, layD, Option.some.injEq] at hr
    subst hr
    exact ⟨cs, rfl, hv⟩
  | (i, a) :: parts, ds, cs, r, hp, hv, hr => by
    simp only [List.map_cons, layD] at hr
    split at hr
    · cases hr
    · rename_i off size hpl
      split at hr
      · rename_i hc
        obtain ⟨c1, c2, c3⟩ := hc
        obtain ⟨k1, k2, k3⟩ := V_cells (hp _ List.mem_cons_self) c3
        simp only at k1 k2
        have hfold := lay_fold (h a).cells.toList 0 off cs
        simp only [Nat.add_zero] at hfold
        obtain ⟨z1, z2⟩ := hfold
        have hv' : VL g (ds.take off ++ (f a).cells ++ ds.drop (off + size)) (((h a).cells.toList.zipIdx 0).foldl (fun (cs : Array Value) (x : Value × Nat) => cs.setIfInBounds (off + x.2) x.1) cs) := by
          have hsz := hv.1
          refine ⟨by rw [z1, hv.1]; simp; omega, ?_⟩
          rw [← c1]
          refine splice_at (h := fun j => (h a).cells.getD j undef) (f := fun j => cs.getD j undef) (by omega) hv.2 k2 (fun j => ?_)
          rw [z2 j]
          simp only [Array.length_toList]
          by_cases hin : off ≤ j ∧ j < off + (f a).cells.length
          · rw [if_pos (by omega), if_pos hin]
            simp [List.getD, Array.getD_eq_getD_getElem?]
          · rw [if_neg (by omega), if_neg hin]
        obtain ⟨r', e1, e2⟩ := lay_fill f h place parts _ _ r (fun p hpp => hp p (List.mem_cons_of_mem _ hpp)) hv' hr
        refine ⟨r', ?_, e2⟩
        simp only [List.map_cons, Instr.fill, hpl]
        rw [if_neg (by have := hv.1; simp; omega)]
        rw [← e1]
        congr 1
        rw [← Array.foldl_toList, Array.toList_zipIdx]
      · cases hr

section
variable {P : Program} {S : St} {g : G} {w : World}

theorem mapM_places {fs : List Field} (acc : Array (Nat × Nat)) : (∀ f ∈ fs, ∃ n, szOf P f.type = some n) →
    (fs.mapM (fun (f : Field) => do let n ← sizeOf f.type; (pure (f.offset, n) : Sem (Nat × Nat)))).run P w = .ok (fs.map fun (f : Field) => (f.offset, (szOf P f.type).getD 0)) w := by
  induction fs with
  | nil => intro _; simp
  | cons f fs ih =>
    intro hh
    obtain ⟨n, hn⟩ := hh f List.mem_cons_self
    simp only [List.mapM_cons, Sem.run_bind, sizeOf_runs hn, Result.andThen_ok, Sem.run_pure, ih (fun f hf => hh f (List.mem_cons_of_mem _ hf)), List.map_cons, hn, Option.getD_some]

/-- all fields of a struct have sizes -/
def fieldsOk (P : Program) (t : TypeId) : Bool :=
  match P.underlying t with
  | some (.struct fs) => fs.toList.all fun f => (szOf P f.type).isSome
  | some (.array _ e) => (szOf P e).isSome
  | _ => false

theorem build_does {α : Type} (f : α → D) (h : α → Value) {t : TypeId} {parts : Array (Nat × α)} {r : D} (hr : buildD P t (parts.toList.map fun p => (p.1, f p.2)) = some r) (hok : fieldsOk P t = true)
    (hs : Sim g S w) (hp : ∀ p ∈ parts.toList, V g (f p.2) (h p.2)) : Does P (Instr.build t (parts.map fun p => (p.1, h p.2))) g w r S := by
  unfold buildD at hr
  split at hr
  · rename_i z ha hz
    simp only [Option.map_eq_some_iff] at hr
    obtain ⟨r0, hl, rfl⟩ := hr
    obtain ⟨v, h1, h2, h3⟩ := V_zero hz
    have hv0 : VL g z v.cells := ⟨h2, h3 g⟩
    obtain ⟨r', e1, e2⟩ := lay_fill f h _ _ _ _ _ hp hv0 hl
    refine .same (v := .agg r') ?_ (.agg e2.1 e2.2) hs
    simp only [Instr.build, Sem.run_bind, zero_runs h1, Result.andThen_ok]
    unfold aggB at ha
    split at ha
    · rename_i fs hu
      simp only [underlying_runs hu, Result.andThen_ok]
      unfold fieldsOk at hok
      simp only [hu, List.all_eq_true] at hok
      have hm : ((fs.mapM (fun (f : Field) => do let n ← sizeOf f.type; (pure (f.offset, n) : Sem (Nat × Nat)))).run P w) = .ok (fs.map fun (f : Field) => (f.offset, (szOf P f.type).getD 0)) w := by
        have := mapM_places (P := P) (w := w) (fs := fs.toList) #[] (fun f hf => Option.isSome_iff_exists.1 (hok f hf))
        rw [Array.mapM_eq_mapM_toList]
        simp only [Sem.run_map, this, Result.andThen_ok]
        congr 1
        apply Array.ext'
        simp only [Array.toList_map]
      simp only [Sem.run_bind, hm, Result.andThen_ok]
      have hpl : (fun i => (Array.map (fun (f : Field) => (f.offset, (szOf P f.type).getD 0)) fs)[i]?) = placesD P t := by
        funext i
        unfold placesD
        simp only [hu, Array.getElem?_map]
        cases hi : fs[i]? with
        | none => rfl
        | some x =>
          have := hok x (by rw [← Array.getElem?_toList] at hi; exact List.mem_of_getElem? hi)
          obtain ⟨n, hn⟩ := Option.isSome_iff_exists.1 this
          simp [hn]
      have : (parts.map fun p => (p.1, h p.2)).toList = parts.toList.map fun p => (p.1, h p.2) := by simp
      rw [this, hpl, e1]
      rfl
    · rename_i n e hu
      simp only [underlying_runs hu, Result.andThen_ok]
      unfold fieldsOk at hok
      simp only [hu] at hok
      obtain ⟨k, hk⟩ := Option.isSome_iff_exists.1 hok
      simp only [Sem.run_bind, sizeOf_runs hk, Result.andThen_ok]
      have hpl : (fun i => some (i * k, k)) = placesD P t := by
        funext i; unfold placesD; simp [hu, hk]
      have : (parts.map fun p => (p.1, h p.2)).toList = parts.toList.map fun p => (p.1, h p.2) := by simp
      rw [this, hpl, e1]
      rfl
    · cases ha
    · cases ha
  · cases hr

/-- a zero value's cells, over and over -/
def repD (z : List D) : Nat → List D
  | 0 => []
  | n + 1 => z ++ repD z n

theorem repD_len (z : List D) : ∀ n, (repD z n).length = n * z.length
  | 0 => by simp [repD]
  | n + 1 => by simp [repD, repD_len z n, Nat.succ_mul]; omega

theorem repD_at (z : List D) : ∀ n j, j < n * z.length → (repD z n)[j]? = z[j % z.length]?
  | 0, j, h => by simp at h
  | n + 1, j, h => by
    have hz : 0 < z.length := by
      rcases Nat.eq_zero_or_pos z.length with e | e
      · rw [e] at h; simp at h
      · exact e
    simp only [repD]
    by_cases hj : j < z.length
    · rw [List.getElem?_append_left hj, Nat.mod_eq_of_lt hj]
    · rw [List.getElem?_append_right (by omega), repD_at z n _ (by rw [Nat.succ_mul] at h; omega)]
      congr 1
      exact (Nat.mod_eq_sub_mod (by omega)).symm

theorem rep_V {z : List D} {v : Value} (h2 : v.cells.size = z.length) (h3 : ∀ (j : Nat) (d : D), z[j]? = some d → V g d (v.cells.getD j undef)) (n k : Nat) (hk : k ≤ n) :
    ∀ (j : Nat) (d : D), (repD z k)[j]? = some d → V g d (((Array.range (n * z.length)).map (fun x => v.cells[x % v.cells.size]!)).getD j undef) := by
  intro j d hd
  have hj : j < k * z.length := by rw [← repD_len]; exact (List.getElem?_eq_some_iff.1 hd).1
  rw [repD_at z k j hj] at hd
  have hmul : k * z.length ≤ n * z.length := Nat.mul_le_mul_right _ hk
  have hlt : j % z.length < v.cells.size := by rw [h2]; exact (List.getElem?_eq_some_iff.1 hd).1
  have : ((Array.range (n * z.length)).map (fun x => v.cells[x % v.cells.size]!)).getD j undef = v.cells.getD (j % z.length) undef := by
    rw [Array.getD_eq_getD_getElem?]
    simp only [Array.getElem?_map, Array.getElem?_range]
    rw [if_pos (by omega)]
    simp only [Option.map_some, Option.getD_some]
    rw [h2] at hlt ⊢
    simp [Array.getD_eq_getD_getElem?, show j % z.length < v.cells.size by omega]
  rw [this]
  exact h3 _ _ hd

/-- cells as elements -/
theorem cutD_flat (n : Nat) (ag : Bool) (hag : ag = false → n = 1) : ∀ (k : Nat) (cs : List D), cs.length = k * n → cs.all D.one = true → (cutD n ag k cs).flatMap D.cells = cs ∧ (cutD n ag k cs).length = k ∧ ∀ e ∈ cutD n ag k cs, e.cells.length = n
  | 0, cs, h, _ => by
    have : cs = [] := List.eq_nil_of_length_eq_zero (by simpa using h)
    subst this
    simp [cutD]
  | k + 1, cs, h, ho => by
    rw [Nat.succ_mul] at h
    obtain ⟨i1, i2, i3⟩ := cutD_flat n ag hag k (cs.drop n) (by simp; omega) (by simp only [List.all_eq_true] at ho ⊢; intro x hx; exact ho x (List.mem_of_mem_drop hx))
    simp only [cutD]
    cases ag with
    | true =>
      simp only [if_true, List.flatMap_cons, D.cells_agg, i1, List.length_cons, i2]
      refine ⟨List.take_append_drop _ _, trivial, fun e he => ?_⟩
      rcases List.mem_cons.1 he with rfl | he
      · simp; omega
      · exact i3 e he
    | false =>
      have hn := hag rfl
      subst hn
      cases cs with
      | nil => simp at h
      | cons x xs =>
        simp only [List.all_cons, Bool.and_eq_true] at ho
        have hx : x.cells = [x] := by cases x <;> simp_all [D.one, D.cells]
        simp only [List.drop_succ_cons, List.drop_zero] at i1 i2 i3
        simp only [Bool.false_eq_true, if_false, List.headD_cons, List.drop_succ_cons, List.drop_zero, List.flatMap_cons, hx, i1, List.length_cons, i2]
        refine ⟨rfl, trivial, fun e he => ?_⟩
        rcases List.mem_cons.1 he with rfl | he
        · rw [hx]; rfl
        · exact i3 e he

def buildSliceD (P : Program) (t : TypeId) (len : Nat) (parts : List (Nat × D)) : Option D :=
  match elOf P t with
  | some (e, n) => match zeroD P e, aggB P e with
    | some z, some ag => if z.length = n ∧ 0 < n ∧ (ag = false → n = 1) ∧ len * n ≤ 16777216 then
        match layD (fun i => some (i * n, n)) (repD z len) parts with
        | some cs => if cs.all D.one = true ∧ cs.length = len * n then some (.ro true (cutD n ag len cs)) else none
        | none => none
      else none
    | _, _ => none
  | none => none

theorem buildSlice_does {α : Type} (f : α → D) (h : α → Value) {t : TypeId} {len : Nat} {parts : Array (Nat × α)} {r : D} (hr : buildSliceD P t len (parts.toList.map fun p => (p.1, f p.2)) = some r)
    (hs : Sim g S w) (hp : ∀ p ∈ parts.toList, V g (f p.2) (h p.2)) : Does P (Instr.buildSlice t len (parts.map fun p => (p.1, h p.2))) g w r S := by
  unfold buildSliceD at hr
  split at hr
  · rename_i e n hel
    obtain ⟨hu, hz⟩ := elOf_spec hel
    split at hr
    · rename_i z ag hzd ha
      split at hr
      · rename_i hc
        obtain ⟨c1, c2, c3, c4⟩ := hc
        split at hr
        · rename_i cs hl
          split at hr
          · rename_i hc2
            simp only [Option.some.injEq] at hr
            subst hr
            obtain ⟨v, h1, h2, h3⟩ := V_zero hzd
            have hv0 : VL g (repD z len) ((Array.range (len * n)).map (fun x => v.cells[x % v.cells.size]!)) := by
              refine ⟨by simp [repD_len, c1], ?_⟩
              have := rep_V (g := g) h2 (h3 g) len len (Nat.le_refl _)
              rw [c1] at this
              exact this
            obtain ⟨r', e1, e2⟩ := lay_fill f h _ _ _ _ _ hp hv0 hl
            obtain ⟨f1, f2, f3⟩ := cutD_flat n ag c3 len cs hc2.2 hc2.1
            refine ⟨g.newImm w.heap.size (.cells r' e), w.alloc (.cells r' e), .slice (some ⟨w.heap.size, 0, none⟩) len len, ?_, ?_, hs.newImm _, .newImm hs _⟩
            · simp only [Instr.buildSlice, Sem.run_bind, underlying_runs hu, Result.andThen_ok, sizeOf_runs hz]
              rw [if_neg (by omega)]
              have htl : (parts.map fun p => (p.1, h p.2)).toList = parts.toList.map fun p => (p.1, h p.2) := by simp
              rw [htl]
              by_cases h0 : len * n = 0
              · rw [if_pos h0]
                rw [h0] at e1
                simp only [Sem.run_pure, Sem.run_bind, Result.andThen_ok, h0]
                simp only [show Array.range 0 = #[] from rfl, Array.map_empty] at e1 ⊢
                rw [e1]
                simp [newRow]
              · rw [if_neg h0]
                simp only [Sem.run_pure, Sem.run_bind, Result.andThen_ok, zero_runs h1]
                rw [e1]
                simp [newRow]
            · have hle := G.newImm_le hs (.cells r' e)
              have := V.ro (g := g.newImm w.heap.size (.cells r' e)) (ex := true) (elems := cutD n ag len cs) (b := w.heap.size) (off := 0) (cap := len) (sz := n) (c := r') (t := e) (fz := (0, 0))
                (by simp [G.newImm]) f3 (by rw [f2, e2.1, hc2.2]; omega) (by omega) (by have : len ≤ len * n := Nat.le_mul_of_pos_right _ c2; omega) (by intro _; exact f2.symm)
                (by rw [f1]; intro j d hd; rw [Nat.zero_add]; exact (e2.2 j d hd).mono hle)
              rwa [f2] at this
          · cases hr
        · cases hr
      · cases hr
    · cases hr
  · cases hr

def makeSliceD (P : Program) (S : St) (t : TypeId) (l c : D) : Option (D × St) :=
  match l, c with
  | .sc (.int .i64 ln), .sc (.int .i64 cn) =>
    match elOf P t with
    | some (e, n) => match zeroD P e with
      | some z => if z.length = n ∧ 0 < n ∧ 0 ≤ ln ∧ ln ≤ cn ∧ cn ≤ 9223372036854775807 ∧ (P.bytesOf e : Int) * cn ≤ 281474976710656 then
          some (.ref S.next 0 n 0 ln.toNat, S.new (repD z ln.toNat)) else none
      | none => none
    | none => none
  | _, _ => none

theorem makeSlice_does {t : TypeId} {l c r : D} {S' : St} {x y : Value} (h : makeSliceD P S t l c = some (r, S')) (hs : Sim g S w) (hl : V g l x) (hc : V g c y) : Does P (Instr.makeSlice t x y) g w r S' := by
  unfold makeSliceD at h
  split at h
  · rename_i ln cn
    obtain rfl : x = .int .i64 ln := by cases hl; rfl
    obtain rfl : y = .int .i64 cn := by cases hc; rfl
    split at h
    · rename_i e n hel
      obtain ⟨hu, hz⟩ := elOf_spec hel
      split at h
      · rename_i z hzd
        split at h
        · rename_i hcnd
          obtain ⟨c1, c2, c3, c4, c5, c6⟩ := hcnd
          simp only [Option.some.injEq, Prod.mk.injEq] at h
          obtain ⟨rfl, rfl⟩ := h
          obtain ⟨v, h1, h2, h3⟩ := V_zero hzd
          cases hi : P.info? e with
          | none => simp [hi] at h1
          | some i =>
          have hby : P.bytesOf e = i.bytes := by simp [Program.bytesOf, hi]
          rw [hby] at c6
          have hw1 : IntKind.i64.wrap ln = ln := wrap_i64 (by omega) (by omega)
          have hw2 : IntKind.i64.wrap cn = cn := wrap_i64 (by omega) (by omega)
          refine ⟨g.newRow S.next w.heap.size (cn.toNat * n), w.alloc (.cells ((Array.range (cn.toNat * n)).map (fun x => v.cells[x % v.cells.size]!)) e),
            .slice (some ⟨w.heap.size, 0, none⟩) ln.toNat cn.toNat, ?_, .ref (n := cn.toNat * n) (b := w.heap.size) (by simp [G.newRow]) (by omega) (by omega) (by omega), ?_, .newRow hs _ _⟩
          · simp only [Instr.makeSlice, Sem.run_bind, underlying_runs hu, Result.andThen_ok, asInt, asIntOf, Sem.run_pure, typeInfo, run_program, hi, hw1, hw2]
            rw [if_neg (by simp; omega)]
            simp only [run_askRoom, Result.andThen_ok, sizeOf_runs hz, Sem.run_bind]
            by_cases h0 : cn.toNat * n = 0
            · rw [if_pos h0]
              simp only [Sem.run_pure, Result.andThen_ok, newRow, h0, Sem.run_bind, run_newObj, World.alloc_eq, show Array.range 0 = #[] from rfl, Array.map_empty]
            · rw [if_neg h0]
              simp only [Sem.run_bind, zero_runs h1, Result.andThen_ok, Sem.run_pure]
              simp [newRow]
          · refine hs.newRow (by simp) ?_ ⟨by intro o _ hh; simp at hh, Nat.le_refl _⟩ ?_
            · rw [repD_len, c1]; exact Nat.mul_le_mul_right _ (by omega)
            · have := rep_V (g := g) h2 (h3 g) cn.toNat ln.toNat (by omega)
              rw [c1] at this
              exact this
        · cases h
      · cases h
    · cases h
  · cases h

end
end Go.Bw

/- The framework, part 8: texts and bytes; append. -/
namespace Go.Bw
open Go

def G.ver (g : G) (i v b n : Nat) : G := { g with r := fun j u => if j = i ∧ u = v then some (b, n) else g.r j u }

/-- a row gets its next version, in the same block -/
theorem Sim.bump {g : G} {S : St} {w : World} (h : Sim g S w) {i : Nat} {e : En} (he : S.tab i = some e) {b n : Nat} (hr : g.r i e.ver = some (b, n)) :
    Sim (g.ver i (e.ver + 1) b n) (S.put i (some ⟨e.ver + 1, e.ob⟩)) w ∧ g.le (g.ver i (e.ver + 1) b n) := by
  have hnone : g.r i (e.ver + 1) = none := h.later _ _ _ he (by omega)
  have hle : g.le (g.ver i (e.ver + 1) b n) := ⟨fun _ _ k => k, fun j v p k => (by
    simp only [G.ver]
    rw [if_neg]
    · exact k
    · rintro ⟨rfl, rfl⟩; rw [hnone] at k; cases k)⟩
  have hi' : i < S.next := by
    rcases Nat.lt_or_ge i S.next with k | k
    · exact k
    · rw [h.tabs _ k] at he; cases he
  have hback : ∀ j v p, (g.ver i (e.ver + 1) b n).r j v = some p → (j = i ∧ v = e.ver + 1 ∧ p = (b, n)) ∨ g.r j v = some p := fun j v p k => by
    simp only [G.ver] at k
    split at k
    · rename_i hc; simp only [Option.some.injEq] at k; exact .inl ⟨hc.1, hc.2, k.symm⟩
    · exact .inr k
  refine ⟨⟨h.imm, ?_, ?_, ?_, ?_, ?_, ?_⟩, hle⟩
  · intro j e' hj
    rw [St.put_tab] at hj
    split at hj
    · rename_i hji
      simp only [Option.some.injEq] at hj
      subst hj hji
      obtain ⟨b0, n0, c, t, fz, a1, a2, a3, a4, a5, a6, a7⟩ := h.sto j e he
      rw [hr] at a1
      simp only [Option.some.injEq, Prod.mk.injEq] at a1
      obtain ⟨rfl, rfl⟩ := a1
      exact ⟨b, n, c, t, fz, by simp [G.ver], a2, a3, a4, a5, a6, fun k d hd => (a7 k d hd).mono hle⟩
    · obtain ⟨b0, n0, c, t, fz, a1, a2, a3, a4, a5, a6, a7⟩ := h.sto j e' hj
      exact ⟨b0, n0, c, t, fz, hle.r _ _ _ a1, a2, a3, a4, a5, a6, fun k d hd => (a7 k d hd).mono hle⟩
  · intro j k ej ek b1 n1 n2 hj hk rj rk
    have key : ∀ x ex n1, (S.put i (some ⟨e.ver + 1, e.ob⟩)).tab x = some ex → (g.ver i (e.ver + 1) b n).r x ex.ver = some (b1, n1) → ∃ ey n', S.tab x = some ey ∧ g.r x ey.ver = some (b1, n') := fun x ex n1 hx rx => by
      rw [St.put_tab] at hx
      split at hx
      · rename_i hxi
        simp only [Option.some.injEq] at hx
        subst hx hxi
        simp [G.ver] at rx
        exact ⟨e, n, he, by rw [hr, rx.1]⟩
      · rename_i hxi
        rcases hback _ _ _ rx with ⟨y1, y2, y3⟩ | y
        · exact absurd y1 hxi
        · exact ⟨ex, n1, hx, y⟩
    obtain ⟨y1, m1, p1, q1⟩ := key j ej n1 hj rj
    obtain ⟨y2, m2, p2, q2⟩ := key k ek n2 hk rk
    exact h.inj _ _ _ _ _ _ _ p1 p2 q1 q2
  · intro j v hj
    simp only [St.put_next] at hj
    simp only [G.ver]
    rw [if_neg (by omega)]
    exact h.fresh _ _ hj
  · intro j hj
    simp only [St.put_next] at hj
    rw [St.put_tab, if_neg (by omega)]
    exact h.tabs _ hj
  · intro j e' v hj hv
    rw [St.put_tab] at hj
    split at hj
    · rename_i hji
      simp only [Option.some.injEq] at hj
      subst hj hji
      simp only [G.ver]
      simp only at hv
      rw [if_neg (by omega)]
      exact h.later _ _ _ he (by omega)
    · rename_i hji
      simp only [G.ver]
      rw [if_neg (by omega)]
      exact h.later _ _ _ hj hv
  · intro j v b1 n1 k
    rcases hback _ _ _ k with ⟨y1, y2, y3⟩ | y
    · simp only [Prod.mk.injEq] at y3; rw [y3.1]; exact h.inb _ _ _ _ hr
    · exact h.inb _ _ _ _ y

theorem Keep.ver {g : G} {w w' : World} {i v b n : Nat} (hk : Keep g g w w') (hle : g.le (g.ver i v b n)) (hb : w.heap.size ≤ b ∨ ∃ i' v' n', g.r i' v' = some (b, n')) : Keep g (g.ver i v b n) w w' where
  le := hle
  size := hk.size
  old := hk.old
  newm := fun _ _ h => .inl h
  newr := fun j u b1 n1 h => by
    simp only [G.ver] at h
    split at h
    · simp only [Option.some.injEq, Prod.mk.injEq] at h; rw [← h.1]; exact hb
    · exact .inr ⟨_, _, _, h⟩
  os := hk.os
  tape := hk.tape
  output := hk.output

/-- a row gets its next version, in a new block -/
theorem Sim.move {g : G} {S : St} {w : World} (h : Sim g S w) {i : Nat} {e : En} (he : S.tab i = some e) {c : Array Value} {t : TypeId} {fz : Nat × Nat} {ob : List D} {n : Nat} (hn : c.size = n) (hl : ob.length ≤ n)
    (hf : (∀ o, o < n → ¬ (fz.1 ≤ o ∧ o < fz.2)) ∧ fz.1 ≤ fz.2) (hv : ∀ (j : Nat) (d : D), ob[j]? = some d → V g d (c.getD j undef)) :
    Sim (g.ver i (e.ver + 1) w.heap.size n) (S.put i (some ⟨e.ver + 1, ob⟩)) (w.alloc (.cells c t fz)) ∧ Keep g (g.ver i (e.ver + 1) w.heap.size n) w (w.alloc (.cells c t fz)) := by
  have hnone : g.r i (e.ver + 1) = none := h.later _ _ _ he (by omega)
  have hle : g.le (g.ver i (e.ver + 1) w.heap.size n) := ⟨fun _ _ k => k, fun j v p k => (by
    simp only [G.ver]
    rw [if_neg]
    · exact k
    · rintro ⟨rfl, rfl⟩; rw [hnone] at k; cases k)⟩
  have hi' : i < S.next := by
    rcases Nat.lt_or_ge i S.next with k | k
    · exact k
    · rw [h.tabs _ k] at he; cases he
  have hold : ∀ b o, w.heap[b]? = some o → (w.alloc (.cells c t fz)).heap[b]? = some o := fun b o k => by rw [heap_alloc_old (heap_lt k)]; exact k
  have hm : g.m w.heap.size = none := by
    cases e' : g.m w.heap.size with
    | none => rfl
    | some o => have := heap_lt (h.imm _ _ e'); omega
  have hback : ∀ j v p, (g.ver i (e.ver + 1) w.heap.size n).r j v = some p → (j = i ∧ v = e.ver + 1 ∧ p = (w.heap.size, n)) ∨ g.r j v = some p := fun j v p k => by
    simp only [G.ver] at k
    split at k
    · rename_i hc; simp only [Option.some.injEq] at k; exact .inl ⟨hc.1, hc.2, k.symm⟩
    · exact .inr k
  refine ⟨⟨fun b o k => hold _ _ (h.imm _ _ k), ?_, ?_, ?_, ?_, ?_, ?_⟩, ?_⟩
  · intro j e' hj
    rw [St.put_tab] at hj
    split at hj
    · rename_i hji
      simp only [Option.some.injEq] at hj
      subst hj hji
      exact ⟨w.heap.size, n, c, t, fz, by simp [G.ver], heap_alloc_new, hn, hl, hm, hf, fun k d hd => (hv k d hd).mono hle⟩
    · obtain ⟨b0, n0, c0, t0, fz0, a1, a2, a3, a4, a5, a6, a7⟩ := h.sto j e' hj
      exact ⟨b0, n0, c0, t0, fz0, hle.r _ _ _ a1, hold _ _ a2, a3, a4, a5, a6, fun k d hd => (a7 k d hd).mono hle⟩
  · intro j k ej ek b1 n1 n2 hj hk rj rk
    rw [St.put_tab] at hj hk
    by_cases h1 : j = i <;> by_cases h2 : k = i
    · rw [h1, h2]
    · rw [if_pos h1] at hj
      rw [if_neg h2] at hk
      simp only [Option.some.injEq] at hj
      subst hj
      rcases hback _ _ _ rj with ⟨x1, x2, x3⟩ | x <;> rcases hback _ _ _ rk with ⟨y1, y2, y3⟩ | y
      · exact absurd y1 h2
      · simp only [Prod.mk.injEq] at x3; have := h.inb _ _ _ _ y; omega
      · exact absurd y1 h2
      · subst h1; simp only at x; rw [hnone] at x; cases x
    · rw [if_neg h1] at hj
      rw [if_pos h2] at hk
      simp only [Option.some.injEq] at hk
      subst hk
      rcases hback _ _ _ rk with ⟨x1, x2, x3⟩ | x <;> rcases hback _ _ _ rj with ⟨y1, y2, y3⟩ | y
      · exact absurd y1 h1
      · simp only [Prod.mk.injEq] at x3; have := h.inb _ _ _ _ y; omega
      · exact absurd y1 h1
      · subst h2; simp only at x; rw [hnone] at x; cases x
    · rw [if_neg h1] at hj
      rw [if_neg h2] at hk
      rcases hback _ _ _ rj with ⟨x1, x2, x3⟩ | x <;> rcases hback _ _ _ rk with ⟨y1, y2, y3⟩ | y
      · exact absurd x1 h1
      · exact absurd x1 h1
      · exact absurd y1 h2
      · exact h.inj _ _ _ _ _ _ _ hj hk x y
  · intro j v hj
    simp only [St.put_next] at hj
    simp only [G.ver]
    rw [if_neg (by omega)]
    exact h.fresh _ _ hj
  · intro j hj
    simp only [St.put_next] at hj
    rw [St.put_tab, if_neg (by omega)]
    exact h.tabs _ hj
  · intro j e' v hj hv
    rw [St.put_tab] at hj
    split at hj
    · rename_i hji
      simp only [Option.some.injEq] at hj
      subst hj hji
      simp only [G.ver]
      simp only at hv
      rw [if_neg (by omega)]
      exact h.later _ _ _ he (by omega)
    · rename_i hji
      simp only [G.ver]
      rw [if_neg (by omega)]
      exact h.later _ _ _ hj hv
  · intro j v b1 n1 k
    rcases hback _ _ _ k with ⟨y1, y2, y3⟩ | y
    · simp only [Prod.mk.injEq] at y3; simp; omega
    · have := h.inb _ _ _ _ y; simp; omega
  · exact ⟨hle, by simp, fun b hb _ => heap_alloc_old hb, fun _ _ k => .inl k, fun j v b1 n1 k => by
      rcases hback _ _ _ k with ⟨y1, y2, y3⟩ | y
      · simp only [Prod.mk.injEq] at y3; exact .inl (by omega)
      · exact .inr ⟨_, _, _, y⟩, rfl, rfl, rfl⟩

/-- a slice's cells -/
def sliceCells (S : St) : D → Option (Nat × List D)
  | .nils => some (0, [])
  | .ro _ elems => some (elems.length, elems.flatMap D.cells)
  | .ref id ver sz off len =>
    match S.tab id with
    | some e => if e.ver = ver ∧ off + len * sz ≤ e.ob.length then some (len, (e.ob.drop off).take (len * sz)) else none
    | none => none
  | _ => none

section
variable {P : Program} {S : St} {g : G} {w : World}

theorem loadCells_runs {b off : Nat} {c : Array Value} {t : TypeId} {fz : Nat × Nat} {cs : List D} (h : w.heap[b]? = some (.cells c t fz)) (hl : off + cs.length ≤ c.size)
    (hv : ∀ (j : Nat) (d : D), cs[j]? = some d → V g d (c.getD (off + j) undef)) : ∃ arr, (loadCells ⟨b, off, none⟩ cs.length).run P w = .ok arr w ∧ VL g cs arr := by
  refine ⟨((List.range cs.length).map fun j => c.getD (off + j) undef).toArray, run_loadCells w _ _ (fun j => c.getD (off + j) undef) (fun j hj => by rw [addr_add]; exact cell_at h (by omega)), by simp, fun j d hd => ?_⟩
  have hj : j < cs.length := (List.getElem?_eq_some_iff.1 hd).1
  have : (((List.range cs.length).map fun j => c.getD (off + j) undef).toArray).getD j undef = c.getD (off + j) undef := by simp [Array.getD_eq_getD_getElem?, hj]
  rw [this]
  exact hv j d hd

/-- what a slice's cells hold -/
theorem sliceCells_spec {d : D} {v : Value} {n : Nat} {cs : List D} (h : sliceCells S d = some (n, cs)) (hs : Sim g S w) (hv : V g d v) :
    ∃ p cap, v = .slice p n cap ∧ n ≤ cap ∧ cap ≤ 9223372036854775807 ∧ ((p = none ∧ n = 0 ∧ cap = 0 ∧ cs = []) ∨
      (n = 0 ∧ cs = []) ∨ ∃ b off c t fz, p = some ⟨b, off, none⟩ ∧ w.heap[b]? = some (.cells c t fz) ∧ off + cs.length ≤ c.size ∧ ∀ (j : Nat) (d : D), cs[j]? = some d → V g d (c.getD (off + j) undef)) := by
  unfold sliceCells at h
  cases hv with
  | nils => simp only [Option.some.injEq, Prod.mk.injEq] at h; obtain ⟨rfl, rfl⟩ := h; exact ⟨none, 0, rfl, by omega, by omega, .inl ⟨rfl, rfl, rfl, rfl⟩⟩
  | roNil => simp only [Option.some.injEq, Prod.mk.injEq, List.length_nil, List.flatMap_nil] at h; obtain ⟨rfl, rfl⟩ := h; exact ⟨none, 0, rfl, by omega, by omega, .inl ⟨rfl, rfl, rfl, rfl⟩⟩
  | @roNone ex a cap hc he => simp only [Option.some.injEq, Prod.mk.injEq, List.length_nil, List.flatMap_nil] at h; obtain ⟨rfl, rfl⟩ := h; exact ⟨some a, cap, rfl, by omega, by omega, .inr (.inl ⟨rfl, rfl⟩)⟩
  | @ro ex elems b off cap sz c t1 fz hm hsz hl hc hxx he hvv =>
    simp only [Option.some.injEq, Prod.mk.injEq] at h
    obtain ⟨rfl, rfl⟩ := h
    exact ⟨some ⟨b, off, none⟩, cap, rfl, hc, hxx, .inr (.inr ⟨b, off, c, t1, fz, rfl, hs.imm _ _ hm, by rw [flatMap_len hsz]; omega, hvv⟩)⟩
  | @ref id ver sz off len b n' cap hr hl hxx hn =>
    simp only at h
    cases he : S.tab id with
    | none => simp [he] at h
    | some e =>
      simp only [he] at h
      split at h
      · rename_i hc
        simp only [Option.some.injEq, Prod.mk.injEq] at h
        obtain ⟨rfl, rfl⟩ := h
        obtain ⟨b0, n0, c, t, fz, a1, a2, a3, a4, a5, a6, a7⟩ := hs.sto id e he
        rw [hc.1, hr] at a1
        simp only [Option.some.injEq, Prod.mk.injEq] at a1
        obtain ⟨rfl, rfl⟩ := a1
        refine ⟨some ⟨b, off, none⟩, cap, rfl, hl, hxx, .inr (.inr ⟨b, off, c, t, fz, rfl, a2, by simp; omega, fun j d hd => ?_⟩)⟩
        rw [List.getElem?_take] at hd
        split at hd
        · rw [List.getElem?_drop] at hd; exact a7 _ _ hd
        · cases hd
      · cases h
  | _ => simp at h

theorem firstCells_runs {d : D} {v : Value} {n size : Nat} {cs : List D} (h : sliceCells S d = some (n, cs)) (hl : cs.length = n * size) (hs : Sim g S w) (hv : V g d v) :
    ∃ arr, (Builtin.firstCells size n v).run P w = .ok arr w ∧ VL g cs arr := by
  obtain ⟨p, cap, rfl, _, _, hh⟩ := sliceCells_spec h hs hv
  rcases hh with ⟨rfl, rfl, rfl, rfl⟩ | ⟨rfl, rfl⟩ | ⟨b, off, c, t, fz, rfl, h1, h2, h3⟩
  · exact ⟨#[], rfl, by simp [VL]⟩
  · refine ⟨#[], ?_, by simp [VL]⟩
    cases p <;> simp [Builtin.firstCells, loadCells, loadCellsFrom]
  · simp only [Builtin.firstCells, ← hl]
    exact loadCells_runs h1 h2 h3

def bytesD (s : ByteArray) : List D := s.data.toList.map fun b => .sc (.int .u8 b.toNat)

def intsOf : List D → Option (List Int)
  | [] => some []
  | .sc (.int .u8 n) :: r => (intsOf r).map fun l => n :: l
  | _ :: _ => none

def strOf (l : List Int) : ByteArray := ⟨(l.map fun n => UInt8.ofNat n.toNat).toArray⟩

theorem foldl_push (l : List Int) : ∀ (s : ByteArray), l.foldl (fun r n => r.push (UInt8.ofNat n.toNat)) s = s ++ strOf l := by
  induction l with
  | nil => intro s; simp [strOf]; apply ByteArray.ext; simp [ByteArray.data_append]
  | cons n l ih =>
    intro s
    simp only [List.foldl_cons, ih]
    apply ByteArray.ext
    simp [ByteArray.data_append, ByteArray.data_push, strOf]

theorem V_sc_inv {v x : Value} (h : V g (.sc v) x) : x = v ∧ scalarOk v := by
  cases h with
  | sc h => exact ⟨rfl, h⟩

theorem intsOf_spec : ∀ (cs : List D) (l : List Int) (arr : Array Value), intsOf cs = some l → VL g cs arr → arr = (l.map (Value.int .u8)).toArray
  | [], l, arr, h, hv => by
    simp only [intsOf, Option.some.injEq] at h
    subst h
    have := hv.1
    simp at this
    simpa using this
  | d :: cs, l, arr, h, hv => by
    unfold intsOf at h
    split at h
    · rename_i e; cases e
    · rename_i n r e
      simp only [List.cons.injEq] at e
      obtain ⟨rfl, rfl⟩ := e
      simp only [Option.map_eq_some_iff] at h
      obtain ⟨l', hl', rfl⟩ := h
      obtain ⟨h1, h2⟩ := hv
      have h0 : arr.getD 0 undef = .int .u8 n := by
        exact (V_sc_inv (h2 0 _ rfl)).1
      have hne : 0 < arr.size := by rw [h1]; simp
      have hrest := intsOf_spec cs l' (arr.extract 1 arr.size) hl' ⟨by simp [h1], fun j d hd => by
        have := h2 (j + 1) d (by simpa using hd)
        have e : (arr.extract 1 arr.size).getD j undef = arr.getD (j + 1) undef := by
          simp only [Array.getD_eq_getD_getElem?, Array.getElem?_extract]
          have hjl : j < cs.length := (List.getElem?_eq_some_iff.1 hd).1
          rw [if_pos (by simp at h1; omega), Nat.add_comm 1 j]
        rw [e]; exact this⟩
      have : arr = #[arr.getD 0 undef] ++ arr.extract 1 arr.size := by
        apply Array.ext
        · simp; omega
        · intro i hi1 hi2
          cases i with
          | zero => simp [Array.getD_eq_getD_getElem?, hne]
          | succ i => simp [Array.getElem_append]; congr 1; omega
      rw [this, h0, hrest]
      simp
    · cases h

end
end Go.Bw

/- The framework, part 9: bytes of texts, texts of bytes, append. -/
namespace Go.Bw
open Go

section
variable {P : Program} {S : St} {g : G} {w : World}

def isU8 (P : Program) (t : TypeId) : Bool := match P.underlying t with | some (.int .u8) => true | _ => false
def isStr (P : Program) (t : TypeId) : Bool := match P.underlying t with | some .string => true | _ => false
def isInt (P : Program) (t : TypeId) : Bool := match P.underlying t with | some (.int _) => true | _ => false

theorem isU8_spec {t : TypeId} (h : isU8 P t = true) : P.underlying t = some (.int .u8) := by
  unfold isU8 at h
  split at h
  · assumption
  · cases h
theorem isStr_spec {t : TypeId} (h : isStr P t = true) : P.underlying t = some .string := by
  unfold isStr at h
  split at h
  · assumption
  · cases h

/-- a text's bytes, in new memory -/
def toBytesD (P : Program) (S : St) (src dst : TypeId) (d : D) : Option (D × St) :=
  match d with
  | .sc (.string s) =>
    match P.underlying dst with
    | some (.slice e) => if isStr P src = true ∧ isU8 P e = true then some (.ref S.next 0 1 0 s.size, S.new (bytesD s)) else none
    | _ => none
  | _ => none

theorem bytesD_len (s : ByteArray) : (bytesD s).length = s.size := by simp [bytesD]

theorem bytesD_at (s : ByteArray) (j : Nat) (d : D) (h : (bytesD s)[j]? = some d) : ∃ b, s.data[j]? = some b ∧ d = .sc (.int .u8 b.toNat) := by
  simp only [bytesD, List.getElem?_map, Option.map_eq_some_iff] at h
  obtain ⟨b, hb, rfl⟩ := h
  exact ⟨b, by rw [← Array.getElem?_toList]; exact hb, rfl⟩

theorem toBytes_does {src dst : TypeId} {d r : D} {S' : St} {x : Value} (h : toBytesD P S src dst d = some (r, S')) (hs : Sim g S w) (hx : V g d x) : Does P (convert src dst x) g w r S' := by
  unfold toBytesD at h
  split at h
  · rename_i s
    obtain ⟨rfl, hsc⟩ := V_sc_inv hx
    split at h
    · rename_i e hu
      split at h
      · rename_i hc
        obtain ⟨c1, c2⟩ := hc
        have hsrc := isStr_spec c1
        have hu8 := isU8_spec c2
        simp only [Option.some.injEq, Prod.mk.injEq] at h
        obtain ⟨rfl, rfl⟩ := h
        simp only [scalarOk] at hsc
        have hcap : s.size ≤ grownCap w s.size 0 e ∧ grownCap w s.size 0 e ≤ 9223372036854775807 := by
          simp only [grownCap, Question.cut]
          have : w.tape w.drawn (.appendCap s.size 0 e) % (2 ^ 63 - s.size) < 2 ^ 63 - s.size := Nat.mod_lt _ (by omega)
          omega
        have hcs : (Lib.bytesCells w e s).size = grownCap w s.size 0 e := by simp [Lib.bytesCells]; have : s.data.size = s.size := rfl; omega
        have hheap : (Lib.bytesWorld w e s).heap = (w.drew.alloc (.cells (Lib.bytesCells w e s) e ((Lib.bytesCells w e s).size, (Lib.bytesCells w e s).size + 1))).heap := by
          apply Array.ext
          · rw [Lib.bytesWorld_size]; simp
          · intro i hi1 hi2
            rw [Lib.bytesWorld_size] at hi1
            apply Option.some.inj
            rw [← Array.getElem?_eq_getElem, ← Array.getElem?_eq_getElem]
            by_cases hi : i = w.heap.size
            · rw [hi, Lib.bytesWorld_at_new]; exact (heap_alloc_new (w := w.drew)).symm
            · rw [Lib.bytesWorld_at_old _ _ _ _ (by omega), heap_alloc_old (w := w.drew) (by simp; omega)]; rfl
        have hsd : Sim g S w.drew := hs.drew
        have hnew := hsd.newRow (c := Lib.bytesCells w e s) (t := e) (fz := ((Lib.bytesCells w e s).size, (Lib.bytesCells w e s).size + 1)) (ob := bytesD s) (n := grownCap w s.size 0 e) hcs
          (by rw [bytesD_len]; omega) ⟨by intro o ho hh; simp only at hh; omega, by simp only; omega⟩ (by
          intro j d hd
          obtain ⟨b, hb, rfl⟩ := bytesD_at s j d hd
          have : (Lib.bytesCells w e s).getD j undef = .int .u8 b.toNat := by
            have hj : j < s.data.size := (Array.getElem?_eq_some_iff.1 hb).1
            simp only [Lib.bytesCells, Array.getD_eq_getD_getElem?]
            rw [Array.getElem?_append_left (by simpa using hj)]
            simp [hb]
          rw [this]
          exact .sc trivial)
        have hkeep := (Keep.drew g w).trans (Keep.newRow hsd (.cells (Lib.bytesCells w e s) e ((Lib.bytesCells w e s).size, (Lib.bytesCells w e s).size + 1)) (grownCap w s.size 0 e))
        refine ⟨g.newRow S.next w.heap.size (grownCap w s.size 0 e), Lib.bytesWorld w e s, .slice (some ⟨w.heap.size, 0, none⟩) s.size (grownCap w s.size 0 e), Lib.run_convert_string_bytes w src dst e s hsrc hu hu8,
          .ref (n := grownCap w s.size 0 e) (by simp [G.newRow]) hcap.1 hcap.2 (by omega), hnew.ofHeap hheap, ?_⟩
        exact ⟨hkeep.le, by rw [hheap]; exact hkeep.size, fun b hb hn => by rw [hheap]; exact hkeep.old b hb hn, hkeep.newm, hkeep.newr, rfl, rfl, rfl⟩
      · cases h
    · cases h
  · cases h

/-- the text of bytes -/
def toStrD (P : Program) (S : St) (src dst : TypeId) (d : D) : Option D :=
  match P.underlying src with
  | some (.slice e) =>
    if isStr P dst = true ∧ isU8 P e = true then
      match sliceCells S d with
      | some (n, cs) => if cs.length = n then (intsOf cs).map fun l => .sc (.string (strOf l)) else none
      | none => none
    else none
  | _ => none

theorem strOf_size (l : List Int) : (strOf l).size = l.length := by simp [strOf, ByteArray.size]

theorem intsOf_len : ∀ (cs : List D) (l : List Int), intsOf cs = some l → l.length = cs.length
  | [], l, h => by simp only [intsOf, Option.some.injEq] at h; subst h; rfl
  | d :: cs, l, h => by
    unfold intsOf at h
    split at h
    · rename_i e; cases e
    · rename_i n r e
      simp only [List.cons.injEq] at e
      obtain ⟨rfl, rfl⟩ := e
      simp only [Option.map_eq_some_iff] at h
      obtain ⟨l', hl', rfl⟩ := h
      simp [intsOf_len _ _ hl']
    · cases h

theorem toStr_does {src dst : TypeId} {d r : D} {x : Value} (h : toStrD P S src dst d = some r) (hs : Sim g S w) (hx : V g d x) : Does P (convert src dst x) g w r S := by
  unfold toStrD at h
  split at h
  · rename_i e hu
    split at h
    · rename_i hc
      have hdst := isStr_spec hc.1
      have hu8 := isU8_spec hc.2
      split at h
      · rename_i n cs hcs
        split at h
        · rename_i hlen
          simp only [Option.map_eq_some_iff] at h
          obtain ⟨l, hl, rfl⟩ := h
          obtain ⟨p, cap, rfl, hn, hcap, hh⟩ := sliceCells_spec hcs hs hx
          have hls := intsOf_len _ _ hl
          refine .same (v := .string (strOf l)) ?_ (.sc (by simp only [scalarOk, strOf_size]; omega)) hs
          rw [run_convert_bytes_string w src dst e _ _ _ hu hu8 hdst]
          rcases hh with ⟨rfl, rfl, rfl, rfl⟩ | ⟨rfl, rfl⟩ | ⟨b, off, c, t, fz, rfl, h1, h2, h3⟩
          · simp only [intsOf, Option.some.injEq] at hl
            subst hl
            rfl
          · simp only [intsOf, Option.some.injEq] at hl
            subst hl
            cases p with
            | none => rfl
            | some a =>
              rw [run_bytesToString w a 0 cap [] (by simp [loadCells, loadCellsFrom])]
              rfl
          · obtain ⟨arr, e1, e2⟩ := loadCells_runs (P := P) h1 h2 h3
            rw [hlen, intsOf_spec _ _ _ hl e2] at e1
            rw [run_bytesToString w _ _ _ l e1, foldl_push]
            simp
        · cases h
      · cases h
    · cases h
  · cases h

/-- what is appended: how many, and their cells -/
def newCells (P : Program) (S : St) (at2 : Option TypeId) (z : List D) : D → Option (Nat × List D)
  | .sc (.int .i64 m) => match at2 with
    | some t => if isInt P t = true ∧ 0 ≤ m ∧ m ≤ 1099511627776 then some (m.toNat, repD z m.toNat) else none
    | none => none
  | .sc (.string s) => match at2 with
    | some t => if isInt P t = false ∧ (P.underlying t).isSome = true then some (s.size, bytesD s) else none
    | none => none
  | d => match at2 with
    | some t => if isInt P t = false ∧ (P.underlying t).isSome = true then sliceCells S d else none
    | none => none

def appendD (P : Program) (S : St) (at1 at2 : Option TypeId) (s x : D) : Option (D × St) :=
  match at1 with
  | some t1 => match elOf P t1 with
    | some (e, sz) => match zeroD P e with
      | some z => match newCells P S at2 z x with
        | some (n, xs) =>
          if z.length = sz ∧ 0 < sz ∧ xs.length = n * sz ∧ 0 < P.bytesOf e then
            if n = 0 then (match s with | .nils => some (.nils, S) | .ro ex es => some (.ro ex es, S) | .ref i v k o l => some (.ref i v k o l, S) | _ => none) else
            match s with
            | .nils => if n * P.bytesOf e ≤ 140737488355328 then some (.ref S.next 0 sz 0 n, S.new xs) else none
            | .ro ex es => if ex = true ∧ (es.length + n) * P.bytesOf e ≤ 140737488355328 ∧ (es.flatMap D.cells).length = es.length * sz then some (.ref S.next 0 sz 0 (es.length + n), S.new (es.flatMap D.cells ++ xs)) else none
            | .ref id ver sz' off len => match S.tab id with
              | some en => if sz' = sz ∧ off = 0 ∧ en.ver = ver ∧ en.ob.length = len * sz ∧ (len + n) * P.bytesOf e ≤ 140737488355328 ∧ xs.all D.one = true then
                  some (.ref id (ver + 1) sz 0 (len + n), S.put id (some ⟨ver + 1, en.ob ++ xs⟩)) else none
              | none => none
            | _ => none
          else none
        | none => none
      | none => none
    | none => none
  | none => none

end
end Go.Bw

/- The framework, part 10: append does what is said of it. -/
namespace Go.Bw
open Go

section
variable {P : Program} {S : St} {g : G} {w : World}

theorem info_of {e : TypeId} {n : Nat} (h : szOf P e = some n) : ∃ i, P.info? e = some i ∧ i.size = n := by
  unfold szOf at h
  cases hi : P.info? e with
  | none => simp [hi] at h
  | some i => simp [hi] at h; exact ⟨i, rfl, h⟩

/-- what is appended, as the model reads it: a slice's or a text's cells, or so many zero values -/
def newSem (P : Program) (t2 e : TypeId) (size n : Nat) (x : Value) : Sem (Array Value) :=
  if isInt P t2 = true then (if n * size = 0 then pure #[] else do pure (Builtin.zeroCells (← zeroValue e).cells n)) else Builtin.firstCells size n x

/-- how many -/
def newCount (P : Program) (t2 : TypeId) (i : TypeInfo) (x : Value) (n : Nat) : Prop :=
  if isInt P t2 = true then ∃ m : Int, x = .int .i64 m ∧ 0 ≤ m ∧ m ≤ 9223372036854775807 ∧ m * i.bytes ≤ 281474976710656 ∧ m.toNat = n else ∀ w, (Builtin.lenOf x).run P w = .ok n w

theorem not_int {t2 : TypeId} {d2 : TypeDesc} (hd : P.underlying t2 = some d2) (h : isInt P t2 = false) : (match d2 with | .int _ => true | _ => false) = false := by
  unfold isInt at h
  rw [hd] at h
  cases d2 <;> simp_all

theorem is_int {t2 : TypeId} {d2 : TypeDesc} (hd : P.underlying t2 = some d2) (h : isInt P t2 = true) : ∃ k, d2 = .int k := by
  unfold isInt at h
  rw [hd] at h
  cases d2 <;> simp_all

theorem append_fit {t1 t2 ty e : TypeId} {sz n sLen sCap : Nat} {i : TypeInfo} {d2 : TypeDesc} {x : Value} {base : Option Addr} {arr : Array Value} (hu : P.underlying t1 = some (.slice e)) (hi : P.info? e = some i) (hsz : i.size = sz)
    (hd2 : P.underlying t2 = some d2) (hc : newCount P t2 i x n) (hnew : (newSem P t2 e sz n x).run P w = .ok arr w) (hneed : sLen + n ≤ sCap) :
    (Builtin.append_ #[t1, t2] ty #[.slice base sLen sCap, x]).run P w =
      ((match base with | some a => storeCells (a.add (sLen * sz)) arr.toList | none => pure ()).run P w).andThen fun _ w' => .ok (.slice base (sLen + n) sCap) w' := by
  cases hint : isInt P t2 with
  | false =>
    unfold newCount at hc
    unfold newSem at hnew
    simp only [hint, Bool.false_eq_true, if_false] at hc hnew
    have hni := not_int hd2 hint
    have hm : (d2 matches .int _) = false := by cases d2 <;> simp_all
    unfold Builtin.append_
    simp only [List.getElem?_toArray, List.getElem?_cons_zero, List.getElem?_cons_succ, Sem.run_bind, underlying_runs hu, Result.andThen_ok, sizeOf, typeInfo, run_program, hi, Sem.run_pure, underlying_runs hd2, hsz]
    cases d2 <;> simp at hni <;> (simp [hc w, hneed, hnew]; cases base <;> simp)
  | true =>
    obtain ⟨k, rfl⟩ := is_int hd2 hint
    unfold newCount at hc
    unfold newSem at hnew
    simp only [hint, if_true] at hc hnew
    obtain ⟨m, rfl, h0, h1, h2, rfl⟩ := hc
    unfold Builtin.append_
    simp only [List.getElem?_toArray, List.getElem?_cons_zero, List.getElem?_cons_succ, Sem.run_bind, underlying_runs hu, Result.andThen_ok, sizeOf, typeInfo, run_program, hi, Sem.run_pure, underlying_runs hd2, hsz]
    have hw := wrap_i64 (n := m) (by omega) h1
    have k4 : ¬ (m < 0) := by omega
    have k5 : ¬ (281474976710656 < m * (i.bytes : Int)) := by omega
    have hb : (if m.toNat * sz = 0 then Result.ok #[] w else (Sem.run P (do let a ← zeroValue e; pure (Builtin.zeroCells a.cells m.toNat)) w)) = .ok arr w := by
      rw [← hnew]; simp only [Sem.run_ite, Sem.run_pure]
    simp only [Sem.run_bind, Sem.run_pure] at hb
    simp [asInt, asIntOf, hw, k4, k5, hi, typeInfo, hneed]
    by_cases hzz : m.toNat * sz = 0
    · rw [if_pos hzz] at hb
      simp only [Result.ok.injEq] at hb
      obtain ⟨rfl, -⟩ := hb
      cases base <;> simp [hzz]
    · rw [if_neg hzz] at hb
      cases base <;> simp [hzz, hb]

theorem append_grow {t1 t2 ty e : TypeId} {sz n sLen sCap : Nat} {i : TypeInfo} {d2 : TypeDesc} {x z : Value} {base : Option Addr} {arr olds : Array Value} (hu : P.underlying t1 = some (.slice e)) (hi : P.info? e = some i) (hsz : i.size = sz)
    (hd2 : P.underlying t2 = some d2) (hc : newCount P t2 i x n) (hz : i.zero = some z) (hnew : (newSem P t2 e sz n x).run P w.drew = .ok arr w.drew) (hold : (Builtin.firstCells sz sLen (.slice base sLen sCap)).run P w.drew = .ok olds w.drew)
    (hneed : sCap < sLen + n) (h63 : sLen + n ≤ 9223372036854775807) (hfit : Builtin.nextslicecap (sLen + n) sCap * i.bytes ≤ 281474976710656) :
    (Builtin.append_ #[t1, t2] ty #[.slice base sLen sCap, x]).run P w =
      .ok (.slice (some ⟨w.heap.size, 0, none⟩) (sLen + n) (grownCap w (sLen + n) sCap e)) (w.drew.alloc (.cells (olds ++ arr ++ Builtin.zeroCells z.cells (grownCap w (sLen + n) sCap e - (sLen + n))) e)) := by
  cases hint : isInt P t2 with
  | false =>
    unfold newCount at hc
    unfold newSem at hnew
    simp only [hint, Bool.false_eq_true, if_false] at hc hnew
    have hni := not_int hd2 hint
    have h1 : ¬ (sLen + n ≤ sCap) := by omega
    have h2 : ¬ ((9223372036854775807 : Int) < (sLen : Int) + (n : Int)) := by omega
    have h3 : ¬ (281474976710656 < Builtin.nextslicecap (sLen + n) sCap * i.bytes) := by omega
    unfold Builtin.append_
    simp only [List.getElem?_toArray, List.getElem?_cons_zero, List.getElem?_cons_succ, Sem.run_bind, underlying_runs hu, Result.andThen_ok, sizeOf, typeInfo, run_program, hi, Sem.run_pure, underlying_runs hd2, hsz]
    cases d2 <;> simp at hni <;> (simp [hc w, h1, h2, h3, hnew, hold, Question.forced, zeroValue, typeInfo, hi, hz, newRow, grownCap, IntKind.max, IntKind.signed, IntKind.bits])
  | true =>
    obtain ⟨k, rfl⟩ := is_int hd2 hint
    unfold newCount at hc
    unfold newSem at hnew
    simp only [hint, if_true] at hc hnew
    obtain ⟨m, rfl, h0, h1, h2, rfl⟩ := hc
    have hw := wrap_i64 (n := m) (by omega) h1
    have k1 : ¬ (sLen + m.toNat ≤ sCap) := by omega
    have k2 : ¬ ((9223372036854775807 : Int) < (sLen : Int) + max m 0) := by omega
    have k3 : ¬ (281474976710656 < Builtin.nextslicecap (sLen + m.toNat) sCap * i.bytes) := by omega
    have k4 : ¬ (m < 0) := by omega
    have k5 : ¬ (281474976710656 < m * (i.bytes : Int)) := by omega
    unfold Builtin.append_
    simp only [List.getElem?_toArray, List.getElem?_cons_zero, List.getElem?_cons_succ, Sem.run_bind, underlying_runs hu, Result.andThen_ok, sizeOf, typeInfo, run_program, hi, Sem.run_pure, underlying_runs hd2, hsz]
    have hb : (if m.toNat * sz = 0 then Result.ok #[] w.drew else (Sem.run P (do let a ← zeroValue e; pure (Builtin.zeroCells a.cells m.toNat)) w.drew)) = .ok arr w.drew := by
      rw [← hnew]; simp only [Sem.run_ite, Sem.run_pure]
    simp only [Sem.run_bind, Sem.run_pure] at hb
    simp [asInt, asIntOf, hw, k4, k5, hi, typeInfo, k1, k2, k3, hold, hz, newRow, grownCap, IntKind.max, IntKind.signed, IntKind.bits, Question.forced, zeroValue]
    simp [zeroValue, typeInfo, hi, hz] at hb
    by_cases hzz : m.toNat * sz = 0
    · rw [if_pos hzz] at hb
      simp only [Result.ok.injEq] at hb
      obtain ⟨rfl, -⟩ := hb
      simp [hzz]
    · rw [if_neg hzz] at hb
      simp only [Result.ok.injEq] at hb
      obtain ⟨rfl, -⟩ := hb
      simp [hzz]

theorem newCells_runs {at2 : Option TypeId} {z : List D} {x : D} {v zv : Value} {n sz : Nat} {xs : List D} {e : TypeId} {i : TypeInfo} (h : newCells P S at2 z x = some (n, xs)) (hi : P.info? e = some i) (hz : i.zero = some zv)
    (hzl : zv.cells.size = z.length) (hzv : ∀ g (j : Nat) (d : D), z[j]? = some d → V g d (zv.cells.getD j undef)) (hsz : z.length = sz) (hl : xs.length = n * sz) (hb : n * i.bytes ≤ 140737488355328) (hs : Sim g S w) (hv : V g x v) :
    ∃ t2 d2, at2 = some t2 ∧ P.underlying t2 = some d2 ∧ newCount P t2 i v n ∧ n ≤ 9223372036854775807 ∧ ∃ arr, (newSem P t2 e sz n v).run P w = .ok arr w ∧ VL g xs arr := by
  unfold newCells at h
  split at h
  · rename_i m
    obtain ⟨rfl, -⟩ := V_sc_inv hv
    split at h
    · rename_i t2
      split at h
      · rename_i hc
        obtain ⟨c1, c2, c3⟩ := hc
        simp only [Option.some.injEq, Prod.mk.injEq] at h
        obtain ⟨rfl, rfl⟩ := h
        have : ∃ d2, P.underlying t2 = some d2 := by
          unfold isInt at c1
          cases hd : P.underlying t2 with
          | none => rw [hd] at c1; simp at c1
          | some d2 => exact ⟨d2, rfl⟩
        obtain ⟨d2, hd2⟩ := this
        refine ⟨t2, d2, rfl, hd2, ?_, by omega, ?_⟩
        · unfold newCount
          rw [if_pos c1]
          refine ⟨m, rfl, c2, by omega, ?_, rfl⟩
          have : ((m.toNat * i.bytes : Nat) : Int) ≤ 140737488355328 := by omega
          rw [Int.natCast_mul] at this
          rw [Int.toNat_of_nonneg c2] at this
          omega
        · unfold newSem
          simp only [c1, if_true]
          by_cases h0 : m.toNat * sz = 0
          · rw [if_pos h0]
            refine ⟨#[], rfl, ?_⟩
            have : (repD z m.toNat) = [] := List.eq_nil_of_length_eq_zero (by rw [repD_len, hsz]; exact h0)
            rw [this]; simp [VL]
          · rw [if_neg h0]
            refine ⟨Builtin.zeroCells zv.cells m.toNat, by rw [Sem.run_bind, zero_runs (z := zv) (by rw [hi]; exact hz)]; rfl, ?_⟩
            have := rep_V (g := g) hzl (hzv g) m.toNat m.toNat (Nat.le_refl _)
            refine ⟨by simp [Builtin.zeroCells, repD_len, hzl], ?_⟩
            unfold Builtin.zeroCells
            rw [hzl] at this ⊢
            exact this
      · cases h
    · cases h
  · rename_i s
    obtain ⟨rfl, hsc⟩ := V_sc_inv hv
    split at h
    · rename_i t2
      split at h
      · rename_i hc
        obtain ⟨c1, c2⟩ := hc
        simp only [Option.some.injEq, Prod.mk.injEq] at h
        obtain ⟨rfl, rfl⟩ := h
        obtain ⟨d2, hd2⟩ := Option.isSome_iff_exists.1 c2
        refine ⟨t2, d2, rfl, hd2, ?_, hsc, ?_⟩
        · unfold newCount
          rw [if_neg (by simp [c1])]
          intro w'; rfl
        · unfold newSem
          rw [if_neg (by simp [c1])]
          refine ⟨(s.extract 0 s.size).data.map fun b => .int .u8 b.toNat, rfl, ?_⟩
          have : s.extract 0 s.size = s := by simp
          rw [this]
          refine ⟨by simp [bytesD_len], fun j d hd => ?_⟩
          obtain ⟨b, hb', rfl⟩ := bytesD_at s j d hd
          have : (s.data.map fun b => Value.int .u8 b.toNat).getD j undef = .int .u8 b.toNat := by
            simp [Array.getD_eq_getD_getElem?, hb']
          rw [this]
          exact .sc trivial
      · cases h
    · cases h
  · split at h
    · rename_i t2
      split at h
      · rename_i hc
        obtain ⟨c1, c2⟩ := hc
        obtain ⟨d2, hd2⟩ := Option.isSome_iff_exists.1 c2
        obtain ⟨p, cap, rfl, hn, hcap, -⟩ := sliceCells_spec h hs hv
        refine ⟨t2, d2, rfl, hd2, ?_, by omega, ?_⟩
        · unfold newCount
          rw [if_neg (by simp [c1])]
          intro w'; rfl
        · unfold newSem
          rw [if_neg (by simp [c1])]
          exact firstCells_runs h hl hs hv
      · cases h
    · cases h

theorem VL_append {xs ys : List D} {a b : Array Value} (h : VL g xs a) (k : VL g ys b) : VL g (xs ++ ys) (a ++ b) := by
  refine ⟨by simp [h.1, k.1], fun j d hd => ?_⟩
  by_cases hj : j < xs.length
  · rw [List.getElem?_append_left hj] at hd
    have : (a ++ b).getD j undef = a.getD j undef := by
      simp only [Array.getD_eq_getD_getElem?]; rw [Array.getElem?_append_left (by rw [h.1]; exact hj)]
    rw [this]; exact h.2 j d hd
  · rw [List.getElem?_append_right (by omega)] at hd
    have : (a ++ b).getD j undef = b.getD (j - xs.length) undef := by
      simp only [Array.getD_eq_getD_getElem?]; rw [Array.getElem?_append_right (by rw [h.1]; omega), h.1]
    rw [this]; exact k.2 _ d hd

theorem VL_more {xs : List D} {a b : Array Value} (h : VL g xs a) : ∀ (j : Nat) (d : D), xs[j]? = some d → V g d ((a ++ b).getD j undef) := fun j d hd => by
  have hj : j < xs.length := (List.getElem?_eq_some_iff.1 hd).1
  have : (a ++ b).getD j undef = a.getD j undef := by
    simp only [Array.getD_eq_getD_getElem?]; rw [Array.getElem?_append_left (by rw [h.1]; exact hj)]
  rw [this]; exact h.2 j d hd

theorem grown_le (w : World) (need old : Nat) (e : TypeId) (h : need ≤ 9223372036854775807) : need ≤ grownCap w need old e ∧ grownCap w need old e ≤ 9223372036854775807 := by
  simp only [grownCap, Question.cut]
  have : w.tape w.drawn (.appendCap need old e) % (2 ^ 63 - need) < 2 ^ 63 - need := Nat.mod_lt _ (by omega)
  omega

theorem append_does {t1 : Array TypeId} {ty : TypeId} {s x r : D} {S' : St} {v u : Value} (h : appendD P S t1[0]? t1[1]? s x = some (r, S')) (h2 : t1.size = 2) (hs : Sim g S w) (hv : V g s v) (hu : V g x u) :
    Does P (Builtin.append_ t1 ty #[v, u]) g w r S' := by
  obtain ⟨ta, tb, rfl⟩ : ∃ a b, t1 = #[a, b] := by
    refine ⟨t1[0], t1[1], ?_⟩
    apply Array.ext
    · simpa using h2
    · intro i h1 h3
      match i, h3 with
      | 0, _ => rfl
      | 1, _ => rfl
  unfold appendD at h
  simp only [List.getElem?_toArray, List.getElem?_cons_zero, List.getElem?_cons_succ] at h
  split at h
  · rename_i e sz hel
    obtain ⟨hund, hz⟩ := elOf_spec hel
    obtain ⟨i, hi, hisz⟩ := info_of hz
    have hby : P.bytesOf e = i.bytes := by simp [Program.bytesOf, hi]
    split at h
    · rename_i z hzd
      obtain ⟨zv, k1, k2, k3⟩ := V_zero hzd
      have hiz : i.zero = some zv := by simpa [hi] using k1
      split at h
      · rename_i n xs hnc
        split at h
        · rename_i hc
          obtain ⟨c1, c2, c3, c4⟩ := hc
          rw [hby] at c4
          split at h
          · -- nothing is appended
            rename_i hn0
            subst hn0
            obtain ⟨t2, d2, e1, e2, e3, -, arr, e4, e5⟩ := newCells_runs hnc hi hiz k2 k3 c1 c3 (by omega) hs hu
            simp only [Option.some.injEq] at e1
            subst e1
            have hxs : xs = [] := List.eq_nil_of_length_eq_zero (by rw [c3]; simp)
            subst hxs
            have harr : arr = #[] := by have := e5.1; simpa using this
            subst harr
            have key : ∀ base len cap, v = .slice base len cap → len ≤ cap → V g r v → S' = S → Does P (Builtin.append_ #[ta, tb] ty #[v, u]) g w r S' := by
              intro base len cap hveq hle hvr hSS
              subst hveq hSS
              refine .same (v := .slice base len cap) ?_ hvr hs
              rw [append_fit hund hi hisz e2 e3 e4 (by omega)]
              cases base <;> rfl
            cases hv with
            | nils => simp only [Option.some.injEq, Prod.mk.injEq] at h; exact key none 0 0 rfl (by omega) (by rw [← h.1]; exact .nils) h.2.symm
            | roNil => simp only [Option.some.injEq, Prod.mk.injEq] at h; exact key none 0 0 rfl (by omega) (by rw [← h.1]; exact .roNil) h.2.symm
            | roNone q1 q2 => simp only [Option.some.injEq, Prod.mk.injEq] at h; exact key _ _ _ rfl (by omega) (by rw [← h.1]; exact .roNone q1 q2) h.2.symm
            | ro q1 q2 q3 q4 q5 q6 q7 => simp only [Option.some.injEq, Prod.mk.injEq] at h; exact key _ _ _ rfl q4 (by rw [← h.1]; exact .ro q1 q2 q3 q4 q5 q6 q7) h.2.symm
            | ref q1 q2 q3 q4 => simp only [Option.some.injEq, Prod.mk.injEq] at h; exact key _ _ _ rfl q2 (by rw [← h.1]; exact .ref q1 q2 q3 q4) h.2.symm
            | _ => simp at h
          · rename_i hn0
            have grow : ∀ base len cap olds cs0, v = .slice base len cap → cap < len + n → (len + n) * i.bytes ≤ 140737488355328 → (Builtin.firstCells sz len (.slice base len cap)).run P w.drew = .ok olds w.drew → VL g cs0 olds → cs0.length = len * sz →
                ∃ c, (Builtin.append_ #[ta, tb] ty #[v, u]).run P w = .ok (.slice (some ⟨w.heap.size, 0, none⟩) (len + n) (grownCap w (len + n) cap e)) (w.drew.alloc (.cells c e)) ∧ c.size = grownCap w (len + n) cap e * sz ∧
                  ∀ (j : Nat) (d : D), (cs0 ++ xs)[j]? = some d → V g d (c.getD j undef) := by
              intro base len cap olds cs0 hveq hlt hbytes hold hvl hcl
              subst hveq
              have hnb : n * i.bytes ≤ 140737488355328 := Nat.le_trans (Nat.mul_le_mul_right _ (by omega)) hbytes
              obtain ⟨t2, d2, e1, e2, e3, -, arr, e4, e5⟩ := newCells_runs hnc hi hiz k2 k3 c1 c3 hnb hs.drew hu
              simp only [Option.some.injEq] at e1
              subst e1
              have h63 : len + n ≤ 9223372036854775807 := by
                have : len + n ≤ (len + n) * i.bytes := Nat.le_mul_of_pos_right _ c4
                omega
              have hg := grown_le w (len + n) cap e h63
              refine ⟨_, append_grow hund hi hisz e2 e3 hiz e4 hold hlt h63 (growslice_fits hlt hbytes), ?_, VL_more (VL_append hvl e5)⟩
              simp only [Array.size_append, hvl.1, e5.1, hcl, c3, Builtin.zeroCells, Array.size_map, Array.size_range, k2, c1]
              rw [← Nat.add_mul, ← Nat.add_mul]
              congr 1
              omega
            have h48 : ∀ len, (len + n) * i.bytes ≤ 140737488355328 → len + n ≤ 9223372036854775807 := fun len hh => by
              have : len + n ≤ (len + n) * i.bytes := Nat.le_mul_of_pos_right _ c4
              omega
            have xlen : ∀ len cap (c : Array Value), len + n ≤ 9223372036854775807 → c.size = grownCap w (len + n) cap e * sz → len * sz + xs.length ≤ grownCap w (len + n) cap e * sz := fun len cap c hh _ => by
              rw [c3, ← Nat.add_mul]; exact Nat.mul_le_mul_right _ (grown_le w _ _ _ hh).1
            have newly : ∀ base len cap olds cs0 , v = .slice base len cap → cap < len + n → (len + n) * i.bytes ≤ 140737488355328 → (Builtin.firstCells sz len (.slice base len cap)).run P w.drew = .ok olds w.drew → VL g cs0 olds → cs0.length = len * sz →
                Does P (Builtin.append_ #[ta, tb] ty #[v, u]) g w (.ref S.next 0 sz 0 (len + n)) (S.new (cs0 ++ xs)) := by
              intro base len cap olds cs0 hveq hlt hbytes hold hvl hcl
              obtain ⟨c, r1, r2, r3⟩ := grow base len cap olds cs0 hveq hlt hbytes hold hvl hcl
              have hg := grown_le w (len + n) cap e (h48 _ hbytes)
              exact ⟨g.newRow S.next w.heap.size (grownCap w (len + n) cap e * sz), _, _, r1, .ref (n := grownCap w (len + n) cap e * sz) (by simp [G.newRow]) hg.1 hg.2 (by omega),
                hs.drew.newRow r2 (by rw [List.length_append, hcl]; exact xlen len cap c (h48 _ hbytes) r2) ⟨by intro o _ hh; simp at hh, Nat.le_refl _⟩ r3, (Keep.drew g w).trans (Keep.newRow hs.drew _ _)⟩
            cases hv with
            | nils =>
              simp only at h
              split at h
              · rename_i hb
                rw [hby] at hb
                simp only [Option.some.injEq, Prod.mk.injEq] at h
                obtain ⟨rfl, rfl⟩ := h
                have := newly none 0 0 #[] [] rfl (by omega) (by simpa using hb) rfl (by simp [VL]) (by simp)
                simpa using this
              · cases h
            | roNil =>
              simp only at h
              split at h
              · rename_i hb
                rw [hby] at hb
                simp only [Option.some.injEq, Prod.mk.injEq] at h
                obtain ⟨rfl, rfl⟩ := h
                exact newly none 0 0 #[] [] rfl (by omega) (by simpa using hb.2.1) rfl (by simp [VL]) (by simp)
              · cases h
            | @roNone ex a cap q1 q2 =>
              simp only at h
              split at h
              · rename_i hb
                rw [hby] at hb
                simp only [Option.some.injEq, Prod.mk.injEq] at h
                obtain ⟨rfl, rfl⟩ := h
                have hcap0 := q2 hb.1
                exact newly (some a) 0 cap #[] [] rfl (by omega) (by simpa using hb.2.1) (by simp [Builtin.firstCells, loadCells, loadCellsFrom]) (by simp [VL]) (by simp)
              · cases h
            | @ro ex elems b off cap sz1 c t9 fz q1 q2 q3 q4 q5 q6 q7 =>
              simp only at h
              split at h
              · rename_i hb
                rw [hby] at hb
                simp only [Option.some.injEq, Prod.mk.injEq] at h
                obtain ⟨rfl, rfl⟩ := h
                have hcap := q6 hb.1
                obtain ⟨olds, o1, o2⟩ := firstCells_runs (P := P) (S := S) (size := sz) (n := elems.length) (cs := elems.flatMap D.cells) rfl hb.2.2 hs.drew (.ro (ex := ex) q1 q2 q3 q4 q5 q6 q7)
                exact newly _ _ _ olds _ rfl (by omega) hb.2.1 o1 o2 hb.2.2
              · cases h
            | @ref id ver sz1 off len b n1 cap q1 q2 q3 q4 =>
              simp only at h
              split at h
              · rename_i en hen
                split at h
                · rename_i hb
                  rw [hby] at hb
                  obtain ⟨rfl, rfl, b3, b4, b5, b6⟩ := hb
                  simp only [Option.some.injEq, Prod.mk.injEq] at h
                  obtain ⟨rfl, rfl⟩ := h
                  subst b3
                  by_cases hfit : len + n ≤ cap
                  · -- there is room
                    have hnb : n * i.bytes ≤ 140737488355328 := Nat.le_trans (Nat.mul_le_mul_right _ (by omega)) b5
                    obtain ⟨t2, d2, e1, e2, e3, -, arr, e4, e5⟩ := newCells_runs hnc hi hiz k2 k3 c1 c3 hnb hs hu
                    simp only [Option.some.injEq] at e1
                    subst e1
                    obtain ⟨b0, n0, c, t9, fz, a1, a2, a3, a4, a5, a6, a7⟩ := hs.sto id en hen
                    rw [q1] at a1
                    simp only [Option.some.injEq, Prod.mk.injEq] at a1
                    obtain ⟨rfl, rfl⟩ := a1
                    have hroom : (len + n) * sz1 ≤ n1 := Nat.le_trans (Nat.mul_le_mul_right _ hfit) (by omega)
                    rw [Nat.add_mul] at hroom
                    have hone : ∀ y ∈ arr.toList, y.oneCell' = true := fun y hy => by
                      obtain ⟨j, hj, rfl⟩ := List.getElem_of_mem hy
                      simp only [Array.length_toList] at hj
                      have hd : xs[j]? = some (xs[j]'(by have := e5.1; omega)) := by simp
                      simp only [List.all_eq_true] at b6
                      have := (V_one (e5.2 j _ hd) (b6 _ (List.getElem_mem _))).1
                      simpa [Array.getD_eq_getD_getElem?, hj] using this
                    obtain ⟨w', c', r1, r2, r3⟩ := storeCells_runs (P := P) (b := b) arr.toList w (len * sz1) 0 c a2 (by simp; have := e5.1; omega) (by rw [a3]; exact a6.1) hone
                    obtain ⟨s1, s2⟩ := hs.bump hen q1
                    have hr' : (g.ver id (en.ver + 1) b n1).r id (en.ver + 1) = some (b, n1) := by simp [G.ver]
                    have s3 := s1.wrote (i := id) (e := ⟨en.ver + 1, en.ob⟩) (by simp [St.put_tab]) hr' r2 (ob := en.ob ++ xs) (by rw [List.length_append, b4, c3]; omega) (by
                      intro j d hd
                      rw [r3 j]
                      by_cases hj : j < len * sz1
                      · rw [if_neg (by omega)]
                        rw [List.getElem?_append_left (by omega)] at hd
                        exact (a7 j d hd).mono s2
                      · rw [List.getElem?_append_right (by omega), b4] at hd
                        have hj2 : j - len * sz1 < xs.length := (List.getElem?_eq_some_iff.1 hd).1
                        rw [if_pos (by simp; have := e5.1; omega)]
                        have := (e5.2 _ d hd).mono s2
                        simpa [Array.getD_eq_getD_getElem?, List.getD] using this)
                    have hput : (S.put id (some ⟨en.ver + 1, en.ob⟩)).put id (some ⟨en.ver + 1, en.ob ++ xs⟩) = S.put id (some ⟨en.ver + 1, en.ob ++ xs⟩) := by
                      simp only [St.put, St.mk.injEq, true_and]
                      funext j
                      split <;> simp_all
                    rw [hput] at s3
                    refine ⟨g.ver id (en.ver + 1) b n1, w', .slice (some ⟨b, 0, none⟩) (len + n) cap, ?_, .ref hr' hfit q3 (by omega), s3, .ver (.wrote q1 r2) s2 (.inr ⟨_, _, _, q1⟩)⟩
                    rw [append_fit hund hi hisz e2 e3 e4 hfit]
                    simp only [addr_add, Nat.zero_add]
                    rw [r1]
                    rfl
                  · -- it moves
                    obtain ⟨olds, o1, o2⟩ := firstCells_runs (P := P) (S := S) (size := sz1) (n := len) (cs := en.ob) (d := .ref id en.ver sz1 0 len) (v := .slice (some ⟨b, 0, none⟩) len cap)
                      (by simp only [sliceCells, hen]; rw [if_pos ⟨trivial, by omega⟩]; simp [← b4]) b4 hs.drew (.ref q1 q2 q3 q4)
                    obtain ⟨c, r1, r2, r3⟩ := grow _ _ _ olds en.ob rfl (by omega) b5 o1 o2 b4
                    have hg := grown_le w (len + n) cap e (h48 _ b5)
                    obtain ⟨m1, m2⟩ := hs.drew.move hen r2 (by rw [List.length_append, b4]; exact xlen len cap c (h48 _ b5) r2) (fz := (0, 0)) (t := e) ⟨by intro o _ hh; simp at hh, Nat.le_refl _⟩ r3
                    exact ⟨_, _, _, r1, .ref (n := grownCap w (len + n) cap e * sz1) (by simp [G.ver]) hg.1 hg.2 (by omega), m1, (Keep.drew g w).trans m2⟩
                · cases h
              · cases h
            | _ => simp at h
        · cases h
      · cases h
    · cases h
  · cases h

end
end Go.Bw

/- The framework, part 11: numbers, tests, interfaces, tuples, look-ups. -/
namespace Go.Bw
open Go

/-- what leads to no memory, as the model's value -/
def toVal1 : D → Option Value
  | .sc v => some v
  | .nilp => some (.pointer none)
  | .nils => some (.slice none 0 0)
  | .nilfn => some .nilFunc
  | .nilifc => some .nilIface
  | _ => none

def toVals : List D → Option (List Value)
  | [] => some []
  | d :: r => match toVal1 d, toVals r with
    | some v, some l => some (v :: l)
    | _, _ => none

def toVal : D → Option Value
  | .agg cells => (toVals cells).map fun l => .agg l.toArray
  | .ifc t d => (toVal1 d).map fun v => .iface t v
  | d => toVal1 d

section
variable {P : Program} {S : St} {g : G} {w : World}

theorem toVal1_spec {d : D} {v x : Value} (h : toVal1 d = some v) (hv : V g d x) : x = v := by
  unfold toVal1 at h
  cases hv <;> simp_all

theorem toVals_spec : ∀ (cells : List D) (l : List Value) (arr : Array Value), toVals cells = some l → VL g cells arr → arr = l.toArray
  | [], l, arr, h, hv => by
    simp only [toVals, Option.some.injEq] at h
    subst h
    have := hv.1
    simpa using this
  | d :: cs, l, arr, h, hv => by
    unfold toVals at h
    split at h
    · rename_i v l' h1 h2
      simp only [Option.some.injEq] at h
      subst h
      obtain ⟨k1, k2⟩ := hv
      have h0 : arr.getD 0 undef = v := toVal1_spec h1 (k2 0 _ rfl)
      have hne : 0 < arr.size := by rw [k1]; simp
      have hrest := toVals_spec cs l' (arr.extract 1 arr.size) h2 ⟨by simp [k1], fun j d hd => by
        have := k2 (j + 1) d (by simpa using hd)
        have e : (arr.extract 1 arr.size).getD j undef = arr.getD (j + 1) undef := by
          simp only [Array.getD_eq_getD_getElem?, Array.getElem?_extract]
          have hjl : j < cs.length := (List.getElem?_eq_some_iff.1 hd).1
          rw [if_pos (by simp at k1; omega), Nat.add_comm 1 j]
        rw [e]; exact this⟩
      have : arr = #[arr.getD 0 undef] ++ arr.extract 1 arr.size := by
        apply Array.ext
        · simp; omega
        · intro i hi1 hi2
          cases i with
          | zero => simp [Array.getD_eq_getD_getElem?, hne]
          | succ i => simp [Array.getElem_append]; congr 1; omega
      rw [this, h0, hrest]
      simp
    · cases h

theorem toVal_spec {d : D} {v x : Value} (h : toVal d = some v) (hv : V g d x) : x = v := by
  unfold toVal at h
  split at h
  · simp only [Option.map_eq_some_iff] at h
    obtain ⟨l, hl, rfl⟩ := h
    cases hv with
    | agg h1 h2 => rw [toVals_spec _ _ _ hl ⟨h1, h2⟩]
  · simp only [Option.map_eq_some_iff] at h
    obtain ⟨u, hu, rfl⟩ := h
    cases hv with
    | ifc hv => rw [toVal1_spec hu hv]
  · exact toVal1_spec h hv

/-- a number, a bool, a text, as it comes out -/
def resD : Value → Option D
  | .bool b => some (.sc (.bool b))
  | .int k n => some (.sc (.int k n))
  | .float k b => some (.sc (.float k b))
  | .complex k a b => some (.sc (.complex k a b))
  | .string s => if s.size ≤ 9223372036854775807 then some (.sc (.string s)) else none
  | _ => none

theorem resD_spec {v : Value} {d : D} (h : resD v = some d) : V g d v := by
  unfold resD at h
  split at h <;> first | (simp only [Option.some.injEq] at h; subst h; exact .sc trivial) | skip
  · split at h
    · rename_i hc; simp only [Option.some.injEq] at h; subst h; exact .sc hc
    · cases h
  · cases h

def pureD (P : Program) (s : Sem Value) : Option D := (pureRun P s).bind resD

theorem pure_does {s : Sem Value} {d : D} (h : pureD P s = some d) (hs : Sim g S w) : Does P s g w d S := by
  unfold pureD at h
  simp only [Option.bind_eq_some_iff] at h
  obtain ⟨v, h1, h2⟩ := h
  exact .same (pureRun_run h1 w) (resD_spec h2) hs

/-- a thing that is there against nil: no -/
def unlikeNil (P : Program) (t : TypeId) : D → D → Bool
  | .ptr _ _ _, .nilp | .nilp, .ptr _ _ _ | .rp _, .nilp | .nilp, .rp _ => match P.underlying t with | some (.pointer _) => true | _ => false
  | .ref _ _ _ _ _, .nils | .nils, .ref _ _ _ _ _ | .ro _ (_ :: _), .nils | .nils, .ro _ (_ :: _) => match P.underlying t with | some (.slice _) => true | _ => false
  | .fn _ _ _, .nilfn | .nilfn, .fn _ _ _ => match P.underlying t with | some (.func _ _ _) => true | _ => false
  | .ifc _ _, .nilifc | .nilifc, .ifc _ _ => match P.underlying t with | some (.interface _) => true | _ => false
  | _, _ => false

def binD (P : Program) (op : BinOp) (t : TypeId) (xo yo : Operand) (x y : D) : Option D :=
  match toVal x, toVal y with
  | some a, some b => pureD P (do eqGuard op t xo yo a b; binOp op t a b)
  | _, _ => if unlikeNil P t x y = true then (match op with | .eql => some (.sc (.bool false)) | .neq => some (.sc (.bool true)) | _ => none) else none

theorem equal_step {t : TypeId} {d : TypeDesc} {a b : Value} (hu : P.underlying t = some d) (h : ∀ n, (match d, a, b with
    | .pointer _, .pointer (some _), .pointer none | .pointer _, .pointer none, .pointer (some _) => True
    | .slice _, .slice (some _) _ _, .slice none _ _ | .slice _, .slice none _ _, .slice (some _) _ _ => True
    | .func _ _ _, .nilFunc, .func _ _ _ | .func _ _ _, .func _ _ _, .nilFunc => True
    | .interface _, .nilIface, .iface _ _ | .interface _, .iface _ _, .nilIface => True
    | _, _, _ => n < 0)) : (Op.equal t a b).run P w = .ok false w := by
  have h0 := h 0
  show (Op.equalIn (9999 + 1) t a b).run P w = _
  unfold Op.equalIn
  simp only [Sem.run_bind, underlying_runs hu, Result.andThen_ok]
  split at h0 <;> first | rfl | (exact absurd h0 (by omega))

theorem unlike_runs {op : BinOp} {t : TypeId} {xo yo : Operand} {x y : D} {a b : Value} {r : Bool} (h : unlikeNil P t x y = true) (ha : V g x a) (hb : V g y b) (hop : (op = .eql ∧ r = false) ∨ (op = .neq ∧ r = true)) :
    (do eqGuard op t xo yo a b; binOp op t a b).run P w = .ok (.bool r) w := by
  have key : ∀ a b, (∀ op, (eqGuard op t xo yo a b).run P w = .ok () w) → (Op.equal t a b).run P w = .ok false w → (binOp .eql t a b = (do pure (.bool (← Op.equal t a b)))) → (binOp .neq t a b = (do pure (.bool (!(← Op.equal t a b))))) →
      (do eqGuard op t xo yo a b; binOp op t a b).run P w = .ok (.bool r) w := by
    intro a b h1 h2 h3 h4
    rcases hop with ⟨rfl, rfl⟩ | ⟨rfl, rfl⟩
    · simp only [Sem.run_bind, h1, Result.andThen_ok, h3, h2, Sem.run_pure]
    · simp only [Sem.run_bind, h1, Result.andThen_ok, h4, h2, Sem.run_pure]; rfl
  have guard : ∀ a b, (∀ x y, a = .agg x → b ≠ .agg y) → (a = .nilIface → b ≠ .nilIface) → ∀ op, (eqGuard op t xo yo a b).run P w = .ok () w := by
    intro a b g1 g2 op
    unfold eqGuard
    cases op <;> first
      | rfl
      | (simp only [Bool.not_true, Bool.false_eq_true, if_false]
         first
           | rfl
           | (split
              · exact absurd rfl (g2 rfl)
              · exact absurd rfl (g1 _ _ rfl)
              · rfl))
  unfold unlikeNil at h
  split at h <;> first | cases h; done | skip
  all_goals
    split at h
    · rename_i hu
      cases ha <;> cases hb <;>
      (refine key _ _ (guard _ _ (by intros; simp_all) (by intros; simp_all)) ?_ rfl rfl
       exact equal_step hu (fun _ => trivial))
    · cases h

theorem bin_does {op : BinOp} {t : TypeId} {xo yo : Operand} {x y r : D} {a b : Value} (h : binD P op t xo yo x y = some r) (hs : Sim g S w) (ha : V g x a) (hb : V g y b) :
    Does P (do eqGuard op t xo yo a b; binOp op t a b) g w r S := by
  unfold binD at h
  split at h
  · rename_i u v h1 h2
    obtain rfl := toVal_spec h1 ha
    obtain rfl := toVal_spec h2 hb
    exact pure_does h hs
  · split at h
    · rename_i hc
      split at h
      · simp only [Option.some.injEq] at h; subst h; exact .same (unlike_runs hc ha hb (.inl ⟨rfl, rfl⟩)) (.sc trivial) hs
      · simp only [Option.some.injEq] at h; subst h; exact .same (unlike_runs hc ha hb (.inr ⟨rfl, rfl⟩)) (.sc trivial) hs
      · cases h
    · cases h

def unD (P : Program) (op : UnOp) (x : D) : Option D :=
  match x with
  | .sc v => pureD P (Op.unary op v)
  | _ => none

theorem un_does {op : UnOp} {x r : D} {a : Value} (h : unD P op x = some r) (hs : Sim g S w) (ha : V g x a) : Does P (Op.unary op a) g w r S := by
  unfold unD at h
  split at h
  · obtain ⟨rfl, -⟩ := V_sc_inv ha; exact pure_does h hs
  · cases h

def convD (P : Program) (S : St) (src dst : TypeId) (x : D) : Option (D × St) :=
  match x with
  | .sc v => match pureD P (convert src dst v) with
    | some r => some (r, S)
    | none => toBytesD P S src dst (.sc v)
  | d => (toStrD P S src dst d).map fun r => (r, S)

theorem conv_does {src dst : TypeId} {x r : D} {S' : St} {a : Value} (h : convD P S src dst x = some (r, S')) (hs : Sim g S w) (ha : V g x a) : Does P (convert src dst a) g w r S' := by
  unfold convD at h
  split at h
  · split at h
    · rename_i r' hp
      simp only [Option.some.injEq, Prod.mk.injEq] at h
      obtain ⟨rfl, rfl⟩ := h
      obtain ⟨rfl, -⟩ := V_sc_inv ha
      exact pure_does hp hs
    · exact toBytes_does h hs ha
  · simp only [Option.map_eq_some_iff, Prod.mk.injEq] at h
    obtain ⟨r', hr, rfl, rfl⟩ := h
    exact toStr_does hr hs ha

def nonIface (P : Program) (t : TypeId) : Bool :=
  match P.underlying t with
  | some (.interface _) => false
  | some _ => true
  | none => false

theorem iface_does {t : TypeId} {x : D} {a : Value} (h : nonIface P t = true) (hs : Sim g S w) (ha : V g x a) : Does P (Instr.makeInterface t a) g w (.ifc t x) S := by
  unfold nonIface at h
  cases hu : P.underlying t with
  | none => rw [hu] at h; cases h
  | some d =>
    refine .same (v := .iface t a) ?_ (.ifc ha) hs
    rw [hu] at h
    unfold Instr.makeInterface
    simp only [Sem.run_bind, underlying_runs hu, Result.andThen_ok]
    cases d <;> simp_all

def exD (x : D) (i : Nat) : Option D :=
  match x with
  | .tup ds => ds[i]?
  | _ => none

theorem extract_does {x r : D} {i : Nat} {a : Value} (h : exD x i = some r) (hs : Sim g S w) (ha : V g x a) : Does P (Instr.extract a i) g w r S := by
  unfold exD at h
  split at h
  · cases ha with
    | @tup ds vs hl hv =>
      have := hv i r h
      have hi : i < vs.size := by rw [hl]; exact (List.getElem?_eq_some_iff.1 h).1
      refine .same (v := vs.getD i undef) ?_ this hs
      simp [Instr.extract, hi, Array.getD_eq_getD_getElem?]
  · cases h

def nilOk : D → Bool
  | .ptr _ _ _ | .rp _ | .ifc _ _ => true
  | .fn (.func _) _ _ => true
  | _ => false

theorem nilCheck_does {x : D} {a : Value} (h : nilOk x = true) (ha : V g x a) :
    a ≠ .pointer none ∧ a ≠ .nilIface ∧ a ≠ .nilFunc ∧ ∀ m f c, a ≠ .func (.method m) f c := by
  cases ha with
  | @fn f first caps vs us h1 h2 k1 k2 => cases f <;> simp_all [nilOk]
  | sc hsc => simp_all [nilOk]
  | _ => simp_all [nilOk]

/-- 'x.(T)', T no interface -/
def assertD (P : Program) (t : TypeId) (ok : Bool) (x : D) : Option D :=
  if nonIface P t = true then
    match x with
    | .ifc u d => if u = t then some (if ok = true then .tup [d, .sc (.bool true)] else d) else
        match ok, zeroD P t, aggB P t with
        | true, some z, some ag => (whole ag z).map fun y => .tup [y, .sc (.bool false)]
        | _, _, _ => none
    | .nilifc => match ok, zeroD P t, aggB P t with
        | true, some z, some ag => (whole ag z).map fun y => .tup [y, .sc (.bool false)]
        | _, _, _ => none
    | _ => none
  else none

theorem V_zeroWhole {t : TypeId} {z : List D} {ag : Bool} {y : D} {v : Value} (hv : (P.info? t).bind (·.zero) = some v) (hz : zeroD P t = some z) (ha : whole ag z = some y) (hag : (ag = true → ∃ cs, v = .agg cs) ∧ (ag = false → ∀ cs, v ≠ .agg cs)) : V g y v := by
  obtain ⟨v', h1, h2, h3⟩ := V_zero hz
  rw [hv] at h1
  simp only [Option.some.injEq] at h1
  subst h1
  unfold whole at ha
  cases ag with
  | true =>
    obtain ⟨cs, rfl⟩ := hag.1 rfl
    simp only [if_true, Option.some.injEq] at ha
    subst ha
    exact .agg h2 (h3 g)
  | false =>
    have hne := hag.2 rfl
    simp only [Bool.false_eq_true, if_false] at ha
    have hc : v.cells = #[v] := by cases v <;> simp_all [Value.cells]
    cases z with
    | nil => cases ha
    | cons a r =>
      simp only [List.head?_cons, Option.some.injEq] at ha
      subst ha
      have := h3 g 0 a rfl
      rw [hc] at this
      simpa using this

/-- the zero value of a type is of its shape -/
def zeroShape (P : Program) (t : TypeId) : Bool :=
  match (P.info? t).bind (·.zero), aggB P t with
  | some (.agg _), some true => true
  | some (.agg _), _ => false
  | some _, some false => true
  | _, _ => false

theorem assert_does {xt t : TypeId} {ok : Bool} {x r : D} {a : Value} (h : assertD P t ok x = some r) (hzs : zeroShape P t = true) (hs : Sim g S w) (ha : V g x a) : Does P (Instr.typeAssert a xt t ok) g w r S := by
  unfold assertD at h
  split at h
  · rename_i hni
    unfold nonIface at hni
    cases hu : P.underlying t with
    | none => rw [hu] at hni; cases hni
    | some d =>
      rw [hu] at hni
      have hshape : ∀ v, (P.info? t).bind (·.zero) = some v → ∀ ag, aggB P t = some ag → (ag = true → ∃ cs, v = .agg cs) ∧ (ag = false → ∀ cs, v ≠ .agg cs) := by
        intro v hv ag hag
        unfold zeroShape at hzs
        rw [hv, hag] at hzs
        cases v <;> cases ag <;> simp_all
      have fails : ∀ y z ag, zeroD P t = some z → aggB P t = some ag → whole ag z = some y → ∃ v, (P.info? t).bind (·.zero) = some v ∧ V g y v := by
        intro y z ag hz hag hw
        obtain ⟨v, h1, -, -⟩ := V_zero hz
        exact ⟨v, h1, V_zeroWhole h1 hz hw (hshape v h1 ag hag)⟩
      split at h
      · rename_i u d'
        cases ha with
        | @ifc _ _ v hv =>
          split at h
          · rename_i hut
            subst hut
            simp only [Option.some.injEq] at h
            subst h
            cases ok with
            | true =>
              refine .same (v := .tuple #[v, .bool true]) ?_ (.tup rfl fun j d hd => ?_) hs
              · unfold Instr.typeAssert
                simp only [Sem.run_bind, underlying_runs hu, Result.andThen_ok]
                cases d <;> simp_all
              · match j with
                | 0 => simp at hd; subst hd; exact hv
                | 1 => simp at hd; subst hd; exact .sc trivial
                | j + 2 => simp at hd
            | false =>
              refine .same (v := v) ?_ hv hs
              unfold Instr.typeAssert
              simp only [Sem.run_bind, underlying_runs hu, Result.andThen_ok]
              cases d <;> simp_all
          · rename_i hut
            split at h
            · rename_i z ag hz hag
              simp only [Option.map_eq_some_iff] at h
              obtain ⟨y, hy, rfl⟩ := h
              obtain ⟨zv, h1, h2⟩ := fails y z ag hz hag hy
              refine .same (v := .tuple #[zv, .bool false]) ?_ (.tup rfl fun j d hd => ?_) hs
              · unfold Instr.typeAssert
                simp only [Sem.run_bind, underlying_runs hu, Result.andThen_ok]
                cases d <;> simp_all [zero_runs h1]
              · match j with
                | 0 => simp at hd; subst hd; exact h2
                | 1 => simp at hd; subst hd; exact .sc trivial
                | j + 2 => simp at hd
            · cases h
      · cases ha
        split at h
        · rename_i z ag hz hag
          simp only [Option.map_eq_some_iff] at h
          obtain ⟨y, hy, rfl⟩ := h
          obtain ⟨zv, h1, h2⟩ := fails y z ag hz hag hy
          refine .same (v := .tuple #[zv, .bool false]) ?_ (.tup rfl fun j d hd => ?_) hs
          · unfold Instr.typeAssert
            simp only [Sem.run_bind, underlying_runs hu, Result.andThen_ok]
            cases d <;> simp_all [zero_runs h1]
          · match j with
            | 0 => simp at hd; subst hd; exact h2
            | 1 => simp at hd; subst hd; exact .sc trivial
            | j + 2 => simp at hd
        · cases h
      · cases h
  · cases h

end
end Go.Bw

/- The framework, part 11m: what stands in a map that nobody writes. -/
namespace Go.Bw
open Go

/-- a whole number's place among keys -/
def keyOf (k : IntKind) (d : D) : Option Int :=
  match d with
  | .sc (.int k' n) => if k' = k then some n else none
  | _ => none
def findK (k : IntKind) (n : Int) : List D → List D → Option D
  | x :: ks, v :: vs => if keyOf k x = some n then some v else findK k n ks vs
  | _, _ => none
def distinctB : List (Option Int) → Bool
  | [] => true
  | a :: l => a.isSome && !l.contains a && distinctB l
def mpOk (k : IntKind) (ks : List D) : Bool := distinctB (ks.map (keyOf k))

def lookR (ok : Bool) (z : D) : Option D → D
  | some v => if ok = true then .tup [v, .sc (.bool true)] else v
  | none => if ok = true then .tup [z, .sc (.bool false)] else z

def lookD (P : Program) (t : TypeId) (m i : D) (ok : Bool) : Option D :=
  match P.underlying t, m, i with
  | some (.map kt e), .mp ks vs, .sc (.int k n) =>
    match P.underlying kt, zeroD P e, aggB P e with
    | some (.int k2), some [z], some false => if k2 = k ∧ mpOk k ks = true ∧ zeroShape P e = true then some (lookR ok z (findK k n ks vs)) else none
    | _, _, _ => none
  | _, _, _ => none

section
variable {P : Program} {S : St} {g : G} {w : World}

theorem distinct_at : ∀ {l : List (Option Int)}, distinctB l = true → ∀ (i : Nat) (a : Option Int), l[i]? = some a → a.isSome = true
  | [], _, i, a, h => by simp at h
  | x :: l, h, 0, a, ha => by simp only [distinctB, Bool.and_eq_true] at h; simp at ha; subst ha; exact h.1.1
  | x :: l, h, i + 1, a, ha => by simp only [distinctB, Bool.and_eq_true] at h; exact distinct_at h.2 i a (by simpa using ha)
theorem distinct_inj : ∀ {l : List (Option Int)}, distinctB l = true → ∀ (i j : Nat) (a : Option Int), l[i]? = some a → l[j]? = some a → i = j
  | [], _, i, j, a, h, _ => by simp at h
  | x :: l, h, 0, 0, a, _, _ => rfl
  | x :: l, h, 0, j + 1, a, h1, h2 => by
    simp only [distinctB, Bool.and_eq_true, Bool.not_eq_true'] at h
    simp only [List.getElem?_cons_zero, Option.some.injEq] at h1
    subst h1
    have h3 := h.1.2
    have := List.mem_of_getElem? (show l[j]? = some x by simpa using h2)
    rw [List.contains_iff_mem.2 this] at h3
    cases h3
  | x :: l, h, i + 1, 0, a, h1, h2 => by
    simp only [distinctB, Bool.and_eq_true, Bool.not_eq_true'] at h
    simp only [List.getElem?_cons_zero, Option.some.injEq] at h2
    subst h2
    have h3 := h.1.2
    have := List.mem_of_getElem? (show l[i]? = some x by simpa using h1)
    rw [List.contains_iff_mem.2 this] at h3
    cases h3
  | x :: l, h, i + 1, j + 1, a, h1, h2 => by
    simp only [distinctB, Bool.and_eq_true] at h
    rw [distinct_inj h.2 i j a (by simpa using h1) (by simpa using h2)]

theorem findK_some {k : IntKind} {n : Int} : ∀ {ks vs : List D} {v : D}, findK k n ks vs = some v → ∃ (j : Nat) (x : D), ks[j]? = some x ∧ keyOf k x = some n ∧ vs[j]? = some v
  | [], _, v, h => by simp [findK] at h
  | _ :: _, [], v, h => by simp [findK] at h
  | x :: ks, u :: vs, v, h => by
    simp only [findK] at h
    split at h
    · rename_i hc; simp only [Option.some.injEq] at h; subst h; exact ⟨0, x, rfl, hc, rfl⟩
    · obtain ⟨j, y, h1, h2, h3⟩ := findK_some h; exact ⟨j + 1, y, by simpa using h1, h2, by simpa using h3⟩
theorem findK_none {k : IntKind} {n : Int} : ∀ {ks vs : List D}, ks.length = vs.length → findK k n ks vs = none → ∀ (j : Nat) (x : D), ks[j]? = some x → keyOf k x ≠ some n
  | [], _, _, _, j, x, hx => by simp at hx
  | _ :: _, [], hl, _, _, _, _ => by simp at hl
  | y :: ks, u :: vs, hl, h, j, x, hx => by
    simp only [findK] at h
    split at h
    · cases h
    · rename_i hc
      cases j with
      | zero => simp at hx; subst hx; exact hc
      | succ j => exact findK_none (by simpa using hl) h j x (by simpa using hx)

theorem keyOf_V {k : IntKind} {d : D} {v : Value} {n : Int} (h : keyOf k d = some n) (hv : V g d v) : v = .int k n := by
  unfold keyOf at h
  split at h
  · rename_i k' m
    split at h
    · rename_i hk
      subst hk
      simp only [Option.some.injEq] at h
      subst h
      cases hv; rfl
    · cases h
  · cases h

theorem findNow_some {k : IntKind} {n : Int} : ∀ (es : List MapEntry) (i : Nat), (∀ e ∈ es, ∃ m, e.key = .int k m) → ∃ r, Instr.findNow (.int k) (.int k n) es i = some r ∧
    match r with
    | some (_, v) => ∃ (j : Nat) (e : MapEntry), es[j]? = some e ∧ e.key = .int k n ∧ v = e.val
    | none => ∀ e ∈ es, e.key ≠ .int k n
  | [], i, _ => ⟨none, rfl, fun e he => by cases he⟩
  | e :: es, i, h => by
    obtain ⟨m, hm⟩ := h e (List.mem_cons_self ..)
    simp only [Instr.findNow, hm, Instr.sameNow, if_true]
    by_cases hnm : n = m
    · subst hnm
      simp only [beq_self_eq_true]
      exact ⟨_, rfl, 0, e, rfl, hm, rfl⟩
    · have : (n == m) = false := by simpa using hnm
      simp only [this]
      obtain ⟨r, h1, h2⟩ := findNow_some (n := n) es (i + 1) (fun e he => h e (List.mem_cons_of_mem _ he))
      refine ⟨r, h1, ?_⟩
      cases r with
      | none =>
        intro e' he'
        rcases List.mem_cons.1 he' with rfl | he'
        · rw [hm]; intro hh; simp only [Value.int.injEq, true_and] at hh; exact hnm hh.symm
        · exact h2 e' he'
      | some y =>
        obtain ⟨a, b⟩ := y
        obtain ⟨j, e', q1, q2, q3⟩ := h2
        exact ⟨j + 1, e', by simpa using q1, q2, q3⟩

theorem checkKey_int {b : Bool} {kt : TypeId} {k : IntKind} {n : Int} (h : P.underlying kt = some (.int k)) : (Instr.checkKey b 10000 kt (.int k n)).run P w = .ok () w := by
  rw [show (10000 : Nat) = 9999 + 1 from rfl, Instr.checkKey]
  simp [underlying_runs h]

def rrV (zv : Value) : Option (Nat × Value) → Value
  | some x => x.2
  | none => zv
theorem V_tup2 {a b : D} {x y : Value} (h1 : V g a x) (h2 : V g b y) : V g (.tup [a, b]) (.tuple #[x, y]) := .tup rfl fun j d hd => by
  match j with
  | 0 => simp at hd; subst hd; exact h1
  | 1 => simp at hd; subst hd; exact h2
  | j + 2 => simp at hd

theorem lookup_does {t : TypeId} {m i r : D} {ok : Bool} {x y : Value} (h : lookD P t m i ok = some r) (hs : Sim g S w) (hm : V g m x) (hi : V g i y) : Does P (Instr.lookup t x y ok) g w r S := by
  unfold lookD at h
  split at h
  · rename_i kt e ks vs k n hu
    split at h
    · rename_i kk z hk hz ha
      split at h
      · rename_i hc
        obtain ⟨rfl, hok, hone⟩ := hc
        simp only [Option.some.injEq] at h
        subst h
        cases hi
        cases hm with
        | @mp _ _ b clock es σ hmb h1 h2 h3 k1 k2 =>
          have hw := hs.imm _ _ hmb
          have hkeys : ∀ (j : Nat) (d : D), ks[j]? = some d → ∃ q, keyOf kk d = some q := fun j d hd => by
            have := distinct_at hok j (keyOf kk d) (by rw [List.getElem?_map, hd]; rfl)
            exact Option.isSome_iff_exists.1 this
          have hall : ∀ e0 ∈ es.toList, ∃ q, e0.key = .int kk q := fun e0 he0 => by
            obtain ⟨i0, hi0⟩ := List.getElem?_of_mem he0
            rw [Array.getElem?_toList] at hi0
            have hlt : i0 < es.size := (Array.getElem?_eq_some_iff.1 hi0).1
            obtain ⟨j, hj, rfl⟩ := h1 i0 hlt
            have hd : ks[j]? = some ks[j] := List.getElem?_eq_getElem hj
            obtain ⟨q, hq⟩ := hkeys j _ hd
            have := keyOf_V hq (k1 j _ hd)
            rw [Array.getD_eq_getD_getElem?, hi0] at this
            exact ⟨q, this⟩
          obtain ⟨zv, hzv, -, -⟩ := V_zero hz
          have hzr := zero_runs (w := w) hzv
          obtain ⟨rr, f1, f2⟩ := findNow_some (n := n) es.toList 0 hall
          have hzV : V g z zv := V_zeroWhole (ag := false) hzv hz rfl (by
            unfold zeroShape at hone
            rw [hzv, ha] at hone
            cases zv <;> simp_all)
          have hgo : (getObj b).run P w = .ok (.map es clock) w := by simp [getObj, Sem.run, hw]
          have hrun : (Instr.lookup t (.map (some b)) (.int kk n) ok).run P w = .ok (if ok = true then .tuple #[rrV zv rr, .bool rr.isSome] else rrV zv rr) w := by
            simp only [Instr.lookup, Sem.run_bind, underlying_runs hu, Result.andThen_ok, hgo, checkKey_int hk, Instr.findKey, underlying_runs hk, f1, Sem.run_pure]
            cases rr with
            | none => simp [hzr, rrV]
            | some y => rfl
          refine .same hrun ?_ hs
          cases rr with
          | some y =>
            obtain ⟨i1, v⟩ := y
            obtain ⟨i0, e0, q1, q2, rfl⟩ := f2
            rw [Array.getElem?_toList] at q1
            have hlt : i0 < es.size := (Array.getElem?_eq_some_iff.1 q1).1
            obtain ⟨j, hj, rfl⟩ := h1 i0 hlt
            have hd : ks[j]? = some ks[j] := List.getElem?_eq_getElem hj
            obtain ⟨q, hq⟩ := hkeys j _ hd
            have hqn := keyOf_V hq (k1 j _ hd)
            rw [Array.getD_eq_getD_getElem?, q1] at hqn
            simp only [Option.getD_some] at hqn
            rw [q2] at hqn
            simp only [Value.int.injEq, true_and] at hqn
            subst hqn
            cases hf : findK kk n ks vs with
            | none => exact absurd hq (findK_none h2 hf j _ hd)
            | some u =>
              obtain ⟨j', x', p1, p2, p3⟩ := findK_some hf
              have : j' = j := distinct_inj hok j' j (some n) (by rw [List.getElem?_map, p1]; simp [p2]) (by rw [List.getElem?_map, hd]; simp [hq])
              subst this
              have hv := k2 j' u p3
              rw [Array.getD_eq_getD_getElem?, q1] at hv
              simp only [Option.getD_some] at hv
              simp only [lookR, Option.isSome_some]
              cases ok
              · exact hv
              · exact V_tup2 hv (.sc trivial)
          | none =>
            cases hf : findK kk n ks vs with
            | some u =>
              obtain ⟨j', x', p1, p2, p3⟩ := findK_some hf
              have hj' : j' < ks.length := (List.getElem?_eq_some_iff.1 p1).1
              have hlt := h3 j' hj'
              have hv := keyOf_V p2 (k1 j' x' p1)
              have he : es[σ j']? = some es[σ j'] := by simp [hlt]
              rw [Array.getD_eq_getD_getElem?, he] at hv
              simp only [Option.getD_some] at hv
              exact absurd hv (f2 _ (by simp))
            | none =>
              simp only [lookR, Option.isSome_none]
              cases ok
              · exact hzV
              · exact V_tup2 hzV (.sc trivial)
      · cases h
    · cases h
  · cases h
end
end Go.Bw

/- The framework, part 12: one operation that calls nobody. -/
namespace Go.Bw
open Go

def rhoD (E GL : Nat → D) : Operand → D
  | .tmp t => E t
  | .const v => ofConst v
  | .global i => GL i
  | .func f => .fn (.func f) [] []

def Env (g : G) (E : Nat → D) (a : Act) : Prop := ∀ t, V g (E t) (a.tmps.getD t undef)
def Glob (g : G) (GL : Nat → D) : Prop := ∀ i, (GL i).free ∧ V g (GL i) (.pointer (some ⟨i, 0, none⟩))

theorem Env.mono {g g' : G} (hg : g.le g') {E : Nat → D} {a : Act} (h : Env g E a) : Env g' E a := fun t => (h t).mono hg
theorem Glob.mono {g g' : G} (hg : g.le g') {GL : Nat → D} (h : Glob g GL) : Glob g' GL := fun i => ⟨(h i).1, (h i).2.mono hg⟩

theorem rho_V {g : G} {E GL : Nat → D} {a : Act} (he : Env g E a) (hg : Glob g GL) (x : Operand) : V g (rhoD E GL x) (a.eval x) := by
  cases x with
  | tmp t => exact he t
  | const v => exact V_const g v
  | global i => exact (hg i).2
  | func f => exact .fn rfl rfl (fun j d hd => by simp at hd) (fun j d hd => by simp at hd)

def upd (E : Nat → D) (t : Nat) (d : D) : Nat → D := fun k => if k = t then d else E k
def updO (E : Nat → D) (t : Option Tmp) (d : D) : Nat → D := match t with | some t => upd E t d | none => E

theorem Env.put {g : G} {E : Nat → D} {a : Act} (h : Env g E a) {o : Option Tmp} {d : D} {v : Value} (hv : V g d v) (ho : ∀ t, o = some t → t < a.tmps.size) : Env g (updO E o d) (a.put o v) := by
  cases o with
  | none => exact h
  | some t =>
    intro k
    simp only [updO, upd, Act.put]
    have ht := ho t rfl
    by_cases hk : k = t
    · subst hk
      rw [if_pos rfl]
      simp [Array.getD_eq_getD_getElem?, ht, hv]
    · rw [if_neg hk]
      have := h k
      simpa [Array.getD_eq_getD_getElem?, Array.getElem?_setIfInBounds, Ne.symm hk] using this

/-- what an operation that yields a value, or nothing, does -/
def DoesN (P : Program) (s : Sem Next) (g : G) (w : World) (d : D) (S' : St) : Prop :=
  ∃ g' w' n, s.run P w = .ok n w' ∧ ((∃ v, n = .value v ∧ V g' d v) ∨ (n = .skip ∧ d = .undef)) ∧ Sim g' S' w' ∧ Keep g g' w w'

theorem DoesN.of {P : Program} {s : Sem Value} {g : G} {w : World} {d : D} {S' : St} (h : Does P s g w d S') : DoesN P (do pure (Next.value (← s))) g w d S' := by
  obtain ⟨g', w', v, h1, h2, h3, h4⟩ := h
  exact ⟨g', w', .value v, by simp [h1], .inl ⟨v, rfl, h2⟩, h3, h4⟩

theorem DoesN.ofU {P : Program} {s : Sem Unit} {g : G} {w : World} {S' : St} (h : DoesU P s g w S') : DoesN P (do s; pure Next.skip) g w .undef S' := by
  obtain ⟨g', w', h1, h3, h4⟩ := h
  exact ⟨g', w', .skip, by simp [h1], .inr ⟨rfl, rfl⟩, h3, h4⟩

def toValL : List D → Option (List Value)
  | [] => some []
  | d :: r => match toVal d, toValL r with
    | some v, some l => some (v :: l)
    | _, _ => none

/-- the built-in functions -/
def bltD (P : Program) (S : St) (b : Builtin) (ats : Array TypeId) (ty : TypeId) (consts : Array Bool) (xs : List D) : Option (D × St) :=
  match b with
  | .len => match ats.toList, xs with
    | [t], [x] => (lenD P t x).map fun r => (r, S)
    | _, _ => none
  | .append => match xs with
    | [s, x] => if ats.size = 2 then appendD P S ats[0]? ats[1]? s x else none
    | _ => none
  | .max => match toValL xs with | some l => (pureD P (Builtin.max_ ats ty l.toArray)).map fun r => (r, S) | none => none
  | .min => match toValL xs with | some l => (pureD P (Builtin.min_ ats ty l.toArray)).map fun r => (r, S) | none => none
  | .cap => match toValL xs with | some l => (pureD P (Builtin.cap_ ats ty l.toArray)).map fun r => (r, S) | none => none
  | .complex => match toValL xs with | some l => (pureD P (Builtin.complex_ ats ty l.toArray)).map fun r => (r, S) | none => none
  | .real => match toValL xs with | some l => (pureD P (Builtin.real_ ats ty l.toArray)).map fun r => (r, S) | none => none
  | .imag => match toValL xs with | some l => (pureD P (Builtin.imag_ ats ty l.toArray)).map fun r => (r, S) | none => none
  | _ => none

def opD (P : Program) (E GL : Nat → D) (S : St) (o : Oper) : Option (D × St) :=
  match o.op with
  | .move x => some (rhoD E GL x, S)
  | .assign x => some (rhoD E GL x, S)
  | .pick c a b => match rhoD E GL c with
    | .sc (.bool t) => some (if t = true then rhoD E GL a else rhoD E GL b, S)
    | _ => none
  | .alloc t => match zeroD P t with
    | some z => some (.ptr S.next 0 0, S.new z)
    | none => none
  | .box _ x => if (rhoD E GL x).cells.all D.one = true then some (.ptr S.next 0 0, S.new (rhoD E GL x).cells) else none
  | .build t parts => if fieldsOk P t = true then (buildD P t (parts.toList.map fun p => (p.1, rhoD E GL p.2))).map fun r => (r, S) else none
  | .buildSlice t n parts => (buildSliceD P t n (parts.toList.map fun p => (p.1, rhoD E GL p.2))).map fun r => (r, S)
  | .load t x => (ldD P S t (rhoD E GL x)).map fun r => (r, S)
  | .store t x y => (stD P S t (rhoD E GL y) (rhoD E GL x)).map fun S' => (.undef, S')
  | .nilCheck x => if nilOk (rhoD E GL x) = true then some (rhoD E GL x, S) else none
  | .binOp op t x y _ => (binD P op t x y (rhoD E GL x) (rhoD E GL y)).map fun r => (r, S)
  | .unOp op _ x => (unD P op (rhoD E GL x)).map fun r => (r, S)
  | .convert src dst x => convD P S src dst (rhoD E GL x)
  | .makeInterface t x => if nonIface P t = true then some (.ifc t (rhoD E GL x), S) else none
  | .makeFunc f first caps => some (.fn f (first.toList.map (rhoD E GL)) (caps.toList.map (rhoD E GL)), S)
  | .makeSlice t l c => makeSliceD P S t (rhoD E GL l) (rhoD E GL c)
  | .slice t x lo hi none => (slD P t (rhoD E GL x) (lo.map (rhoD E GL)) (hi.map (rhoD E GL))).map fun r => (r, S)
  | .fieldAddr s x f => (faD P s f (rhoD E GL x)).map fun r => (r, S)
  | .field s x f => (fdD P s f (rhoD E GL x)).map fun r => (r, S)
  | .indexAddr t x i => (iaD P t (rhoD E GL x) (rhoD E GL i)).map fun r => (r, S)
  | .index t x i => (ixD P t (rhoD E GL x) (rhoD E GL i)).map fun r => (r, S)
  | .typeAssert x _ t ok => if zeroShape P t = true then (assertD P t ok (rhoD E GL x)).map fun r => (r, S) else none
  | .extract x i => (exD (rhoD E GL x) i).map fun r => (r, S)
  | .lookup t x i ok => (lookD P t (rhoD E GL x) (rhoD E GL i) ok).map fun r => (r, S)
  | .call c => match c.callee with
    | .builtin b => bltD P S b c.argTypes o.type (c.args.map fun | .const _ => true | _ => false) (c.args.toList.map (rhoD E GL))
    | _ => none
  | _ => none

section
variable {P : Program} {S : St} {g : G} {w : World}

theorem toValL_spec : ∀ (ds : List D) (l : List Value) (vs : List Value), toValL ds = some l → ds.length = vs.length → (∀ (j : Nat) (d : D), ds[j]? = some d → V g d (vs.getD j undef)) → vs = l
  | [], l, vs, h, hl, _ => by
    simp only [toValL, Option.some.injEq] at h
    subst h
    exact List.eq_nil_of_length_eq_zero (by simpa using hl.symm)
  | d :: ds, l, vs, h, hl, hv => by
    unfold toValL at h
    split at h
    · rename_i v l' h1 h2
      simp only [Option.some.injEq] at h
      subst h
      cases vs with
      | nil => simp at hl
      | cons u us =>
        have h0 := toVal_spec h1 (hv 0 d rfl)
        simp only [List.getD_cons_zero] at h0
        rw [h0, toValL_spec ds l' us h2 (by simpa using hl) (fun j e he => by have := hv (j + 1) e (by simpa using he); simpa using this)]
    · cases h

theorem mapOpt_V {E GL : Nat → D} {a : Act} (he : Env g E a) (hg : Glob g GL) (x : Option Operand) : (x.map (rhoD E GL) = none ∧ x.map a.eval = none) ∨ ∃ d v, x.map (rhoD E GL) = some d ∧ x.map a.eval = some v ∧ V g d v := by
  cases x with
  | none => exact .inl ⟨rfl, rfl⟩
  | some x => exact .inr ⟨_, _, rfl, rfl, rho_V he hg x⟩

theorem mapArr_V {E GL : Nat → D} {a : Act} (he : Env g E a) (hg : Glob g GL) (xs : Array Operand) : VL g (xs.toList.map (rhoD E GL)) (xs.map a.eval) := by
  refine ⟨by simp, fun j d hd => ?_⟩
  simp only [List.getElem?_map, Option.map_eq_some_iff] at hd
  obtain ⟨x, hx, rfl⟩ := hd
  have : (xs.map a.eval).getD j undef = a.eval x := by
    rw [Array.getElem?_toList] at hx
    simp [Array.getD_eq_getD_getElem?, hx]
  rw [this]
  exact rho_V he hg x

theorem blt_does {b : Builtin} {ats : Array TypeId} {ty : TypeId} {consts : Array Bool} {xs : List D} {vs : Array Value} {r : D} {S' : St} (h : bltD P S b ats ty consts xs = some (r, S')) (hs : Sim g S w) (hv : VL g xs vs) :
    DoesN P (builtin b ats ty consts vs) g w r S' := by
  have hvl : ∀ l, toValL xs = some l → vs = l.toArray := fun l hl => by
    have := toValL_spec (g := g) xs l vs.toList hl (by simp [hv.1]) (fun j d hd => by have := hv.2 j d hd; simpa [Array.getD_eq_getD_getElem?, List.getD] using this)
    rw [← this]
  unfold bltD at h
  split at h
  · split at h
    · rename_i t x e1
      simp only [Option.map_eq_some_iff, Prod.mk.injEq] at h
      obtain ⟨r', hr, rfl, rfl⟩ := h
      obtain ⟨v, rfl⟩ : ∃ v, vs = #[v] := Array.size_eq_one_iff.1 (by simpa using hv.1)
      have hx : V g x v := by simpa using hv.2 0 x rfl
      have : ats = #[t] := by apply Array.ext'; exact e1
      subst this
      exact .of (len_does hr hs hx)
    · cases h
  · split at h
    · rename_i s x
      split at h
      · rename_i h2
        obtain ⟨v, u, rfl⟩ : ∃ v u, vs = #[v, u] := by
          have hsz := hv.1
          refine ⟨vs[0]'(by simp at hsz; omega), vs[1]'(by simp at hsz; omega), ?_⟩
          apply Array.ext
          · simpa using hsz
          · intro i h1 h3
            match i, h3 with
            | 0, _ => rfl
            | 1, _ => rfl
        exact .of (append_does h h2 hs (by simpa using hv.2 0 s rfl) (by simpa using hv.2 1 x rfl))
      · cases h
    · cases h
  all_goals first
    | cases h; done
    | (split at h
       · rename_i l hl
         simp only [Option.map_eq_some_iff, Prod.mk.injEq] at h
         obtain ⟨r', hr, rfl, rfl⟩ := h
         have := hvl l hl
         subst this
         exact .of (pure_does hr hs)
       · cases h)

theorem op_does {E GL : Nat → D} {a : Act} {o : Oper} {d : D} {S' : St} (h : opD P E GL S o = some (d, S')) (hs : Sim g S w) (he : Env g E a) (hg : Glob g GL) : DoesN P (execOp a.eval o) g w d S' := by
  have hr := rho_V he hg
  unfold opD at h
  unfold execOp
  split at h
  all_goals (rename_i hop; simp only [hop])
  · simp only [Option.some.injEq, Prod.mk.injEq] at h; obtain ⟨rfl, rfl⟩ := h; exact ⟨g, w, _, rfl, .inl ⟨_, rfl, hr _⟩, hs, .refl _ _⟩
  · simp only [Option.some.injEq, Prod.mk.injEq] at h; obtain ⟨rfl, rfl⟩ := h; exact ⟨g, w, _, rfl, .inl ⟨_, rfl, hr _⟩, hs, .refl _ _⟩
  · rename_i c x y
    split at h
    · rename_i t hc
      simp only [Option.some.injEq, Prod.mk.injEq] at h
      obtain ⟨rfl, rfl⟩ := h
      have hcv := hr c
      rw [hc] at hcv
      have hcv' := (V_sc_inv hcv).1
      refine ⟨g, w, .value (if t = true then a.eval x else a.eval y), by simp [hcv', asBool], .inl ⟨_, rfl, ?_⟩, hs, .refl _ _⟩
      split <;> exact hr _
    · cases h
  · split at h
    · rename_i z hz; simp only [Option.some.injEq, Prod.mk.injEq] at h; obtain ⟨rfl, rfl⟩ := h; exact .of (alloc_does hs hz)
    · cases h
  · split at h
    · rename_i hc; simp only [Option.some.injEq, Prod.mk.injEq] at h; obtain ⟨rfl, rfl⟩ := h; exact .of (box_does hs (hr _) hc)
    · cases h
  · split at h
    · rename_i hc
      simp only [Option.map_eq_some_iff, Prod.mk.injEq] at h
      obtain ⟨r', hr', rfl, rfl⟩ := h
      exact .of (build_does (rhoD E GL) a.eval hr' hc hs (fun p _ => hr _))
    · cases h
  · simp only [Option.map_eq_some_iff, Prod.mk.injEq] at h
    obtain ⟨r', hr', rfl, rfl⟩ := h
    exact .of (buildSlice_does (rhoD E GL) a.eval hr' hs (fun p _ => hr _))
  · simp only [Option.map_eq_some_iff, Prod.mk.injEq] at h
    obtain ⟨r', hr', rfl, rfl⟩ := h
    exact .of (load_does hr' hs (hr _))
  · simp only [Option.map_eq_some_iff, Prod.mk.injEq] at h
    obtain ⟨r', hr', rfl, rfl⟩ := h
    exact .ofU (store_does hr' hs (hr _) (hr _))
  · split at h
    · rename_i x hc
      simp only [Option.some.injEq, Prod.mk.injEq] at h
      obtain ⟨rfl, rfl⟩ := h
      obtain ⟨q1, q2, q3, q4⟩ := nilCheck_does hc (hr x)
      refine ⟨g, w, .value (a.eval x), ?_, .inl ⟨_, rfl, hr x⟩, hs, .refl _ _⟩
      split
      · rename_i hh; exact (q1 hh).elim
      · rename_i hh; exact (q2 hh).elim
      · rename_i hh; exact (q3 hh).elim
      · rename_i hh; exact (q4 _ _ _ hh).elim
      · rfl
    · cases h
  · simp only [Option.map_eq_some_iff, Prod.mk.injEq] at h
    obtain ⟨r', hr', rfl, rfl⟩ := h
    exact .of (bin_does hr' hs (hr _) (hr _))
  · simp only [Option.map_eq_some_iff, Prod.mk.injEq] at h
    obtain ⟨r', hr', rfl, rfl⟩ := h
    exact .of (un_does hr' hs (hr _))
  · exact .of (conv_does h hs (hr _))
  · split at h
    · rename_i hc; simp only [Option.some.injEq, Prod.mk.injEq] at h; obtain ⟨rfl, rfl⟩ := h; exact .of (iface_does hc hs (hr _))
    · cases h
  · rename_i f first caps
    simp only [Option.some.injEq, Prod.mk.injEq] at h
    obtain ⟨rfl, rfl⟩ := h
    have h1 := mapArr_V (g := g) he hg first
    have h2 := mapArr_V (g := g) he hg caps
    exact .of (.same (v := .func f (first.map a.eval) (caps.map a.eval)) rfl (.fn h1.1 h2.1 h1.2 h2.2) hs)
  · exact .of (makeSlice_does h hs (hr _) (hr _))
  · simp only [Option.map_eq_some_iff, Prod.mk.injEq] at h
    obtain ⟨r', hr', rfl, rfl⟩ := h
    exact .of (slice_does hr' hs (hr _) (mapOpt_V he hg _) (mapOpt_V he hg _))
  · simp only [Option.map_eq_some_iff, Prod.mk.injEq] at h
    obtain ⟨r', hr', rfl, rfl⟩ := h
    exact .of (fieldAddr_does hr' hs (hr _))
  · simp only [Option.map_eq_some_iff, Prod.mk.injEq] at h
    obtain ⟨r', hr', rfl, rfl⟩ := h
    exact .of (field_does hr' hs (hr _))
  · simp only [Option.map_eq_some_iff, Prod.mk.injEq] at h
    obtain ⟨r', hr', rfl, rfl⟩ := h
    exact .of (indexAddr_does hr' hs (hr _) (hr _))
  · simp only [Option.map_eq_some_iff, Prod.mk.injEq] at h
    obtain ⟨r', hr', rfl, rfl⟩ := h
    exact .of (index_does hr' hs (hr _) (hr _))
  · split at h
    · rename_i hc
      simp only [Option.map_eq_some_iff, Prod.mk.injEq] at h
      obtain ⟨r', hr', rfl, rfl⟩ := h
      exact .of (assert_does hr' hc hs (hr _))
    · cases h
  · simp only [Option.map_eq_some_iff, Prod.mk.injEq] at h
    obtain ⟨r', hr', rfl, rfl⟩ := h
    exact .of (extract_does hr' hs (hr _))
  · simp only [Option.map_eq_some_iff, Prod.mk.injEq] at h
    obtain ⟨r', hr', rfl, rfl⟩ := h
    exact .of (lookup_does hr' hs (hr _) (hr _))
  · rename_i c
    split at h
    · rename_i b hb
      have := blt_does h hs (mapArr_V (g := g) he hg c.args)
      obtain ⟨g', w', n, k1, k2, k3, k4⟩ := this
      refine ⟨g', w', n, ?_, k2, k3, k4⟩
      simp only [resolve, hb, Sem.run_bind, Sem.run_pure, Result.andThen_ok, invoke]
      exact k1
    · cases h
  · cases h

end
end Go.Bw

/- The framework, part 13: triples. -/
namespace Go.Bw
open Go

/-- a value may be said more weakly -/
def Wk (d d' : D) : Prop := ∀ g v, V g d v → V g d' v

inductive X where
  | normal
  | exit (id : Nat)
  | goto (l : Nat)
  | ret
  | pan (d : D)

def Rel (g : G) : X → Exit → Prop
  | .normal, .normal => True
  | .exit i, .exit j => i = j
  | .goto i, .goto j => i = j
  | .ret, .ret => True
  | .pan d, .panic c => ∃ v, c = [{ v, recovered := false }] ∧ V g d v
  | _, _ => False

theorem Rel.mono {g g' : G} (h : g.le g') {x : X} {e : Exit} (r : Rel g x e) : Rel g' x e := by
  cases x <;> cases e <;> simp_all [Rel]
  obtain ⟨v, h1, h2⟩ := r
  exact ⟨v, h1, h2.mono h⟩

abbrev Post := X → (Nat → D) → St → Prop

/-- marks that loops over functions have left behind -/
def Mk (mb : Nat) (g : G) (w : World) (l : List Deferred) : Prop :=
  ∃ Ds : List Nat, l = Ds.map (fun D => { target := .collected D, args := #[] }) ∧ Ds.Nodup ∧ ∀ D ∈ Ds, mb ≤ D ∧ w.heap[D]? = some (.deferred (some [])) ∧ g.m D = none ∧ ∀ i v n, g.r i v ≠ some (D, n)

theorem Mk.nil (mb : Nat) (g : G) (w : World) : Mk mb g w [] := ⟨[], rfl, List.nodup_nil, fun _ h => by cases h⟩
theorem Mk.keep {mb : Nat} {g g' : G} {w w' : World} {l : List Deferred} (h : Mk mb g w l) (k : Keep g g' w w') : Mk mb g' w' l := by
  obtain ⟨Ds, h1, h2, h3⟩ := h
  refine ⟨Ds, h1, h2, fun D hD => ?_⟩
  obtain ⟨m, a, b, c⟩ := h3 D hD
  have hlt : D < w.heap.size := (Array.getElem?_eq_some_iff.1 a).1
  refine ⟨m, by rw [k.old D hlt c]; exact a, ?_, fun i v n e => ?_⟩
  · cases hm : g'.m D with
    | none => rfl
    | some o =>
      rcases k.newm D o hm with q | q | ⟨i, v, n, q⟩
      · rw [b] at q; cases q
      · omega
      · exact absurd q (c i v n)
  · rcases k.newr i v D n e with q | ⟨i', v', n', q⟩
    · omega
    · exact c i' v' n' q
theorem Mk.of_r {mb : Nat} {g g' : G} {w : World} {l : List Deferred} (h : Mk mb g w l) (hm : ∀ D, g.m D = none → g'.m D = none) (hr : ∀ i v p, g'.r i v = some p → ∃ i' v', g.r i' v' = some p) : Mk mb g' w l := by
  obtain ⟨Ds, h1, h2, h3⟩ := h
  refine ⟨Ds, h1, h2, fun D hD => ?_⟩
  obtain ⟨m, a, b, c⟩ := h3 D hD
  exact ⟨m, a, hm D b, fun i v n e => by obtain ⟨i', v', q⟩ := hr i v _ e; exact c i' v' n q⟩

/-- the model's post-condition that an abstract one stands for -/
def Lift (n mb : Nat) (g0 : G) (w0 : World) (Q : Post) : Exit → Act → World → Prop :=
  fun e a w => ∃ g E S x, Keep g0 g w0 w ∧ Sim g S w ∧ Env g E a ∧ a.tmps.size = n ∧ Mk mb g w a.defers ∧ Rel g x e ∧ Q x E S

theorem Lift.keep {n mb : Nat} {g0 g1 : G} {w0 w1 : World} (hk : Keep g0 g1 w0 w1) {Q : Post} {e : Exit} {a : Act} {w : World} (h : Lift n mb g1 w1 Q e a w) : Lift n mb g0 w0 Q e a w := by
  obtain ⟨g, E, S, x, k, r⟩ := h
  exact ⟨g, E, S, x, hk.trans k, r⟩

/-- a piece of code, from an abstract state -/
def Tri (P : Program) (GL : Nat → D) (n : Nat) (c : Code) (E : Nat → D) (S : St) (Q : Post) : Prop :=
  ∀ ⦃mb : Nat⦄ (g : G) (a : Act) (w : World), Sim g S w → Env g E a → Glob g GL → a.tmps.size = n → Mk mb g w a.defers → c.wp P (Lift n mb g w Q) a w

/-- what comes of a call -/
inductive R where
  | ret (d : D)
  | pan (d : D)

def Lands (g : G) (w : World) (Post : R → St → Prop) (e : Ending) (w' : World) : Prop :=
  ∃ g' S', Keep g g' w w' ∧ Sim g' S' w' ∧ match e with
    | .returned v => ∃ d, V g' d v ∧ Post (.ret d) S'
    | .panicked c => ∃ v d, c = [{ v, recovered := false }] ∧ V g' d v ∧ Post (.pan d) S'
    | .outgrown => False

def goFn (P : Program) (f : FuncId) : Bool :=
  match P.funcs[f]? with
  | some fn => fn.name != "runtime.NumGoroutine" && fn.body.isSome
  | none => false

def CallT (P : Program) (GL : Nat → D) (f : FuncId) (ds : List D) (S : St) (Post : R → St → Prop) : Prop :=
  goFn P f = true ∧ ∀ (g : G) (w : World) (vs : Array Value), Sim g S w → VL g ds vs → Glob g GL → Calls P f vs w (Lands g w Post)

def CallV (P : Program) (GL : Nat → D) (fd : D) (ds : List D) (S : St) (Post : R → St → Prop) : Prop :=
  match fd with
  | .fn (.func f) first caps => CallT P GL f (first ++ ds ++ caps) S Post
  | _ => False

theorem CallT.mono {P : Program} {GL : Nat → D} {f : FuncId} {ds : List D} {S : St} {Q Q' : R → St → Prop} (h : CallT P GL f ds S Q) (hq : ∀ r s, Q r s → Q' r s) : CallT P GL f ds S Q' :=
  ⟨h.1, fun g w vs h1 h2 h3 => (h.2 g w vs h1 h2 h3).mono fun e w' ⟨g', S', k1, k2, k3⟩ => ⟨g', S', k1, k2, by
    cases e with
    | returned v => obtain ⟨d, a, b⟩ := k3; exact ⟨d, a, hq _ _ b⟩
    | panicked c => obtain ⟨v, d, a, b, c⟩ := k3; exact ⟨v, d, a, b, hq _ _ c⟩
    | outgrown => exact k3⟩⟩

@[reducible] def calleeOf (o : Oper) : Option (Operand × List Operand) :=
  match o.op with
  | .call c => match c.callee with
    | .value f => some (f, c.args.toList)
    | _ => none
  | _ => none

/-- one operation -/
def opT (P : Program) (GL E : Nat → D) (S : St) (o : Oper) (K : D → St → Prop) (Kp : D → St → Prop) : Prop :=
  match calleeOf o with
  | some (f, args) => CallV P GL (rhoD E GL f) (args.map (rhoD E GL)) S (fun r S' => match r with | .ret d => K d S' | .pan d => Kp d S')
  | none => match opD P E GL S o with
    | some (d, S') => K d S'
    | none => False

/-- what a guard's slot says -/
def gv (d : D) (want : Bool) : Option Bool :=
  match d with
  | .sc (.bool b) => some (b == want)
  | .tup [] => some false
  | _ => none

def guardD (ops : Array Oper) (E : Nat → D) : Option (Nat × Bool) → Option Bool
  | none => some true
  | some (j, want) => match (ops[j]?).bind (·.dst) with
    | some t => gv (E t) want
    | none => none

/-- operations, one behind the other -/
def opsT (P : Program) (GL : Nat → D) (ops : Array Oper) : List Oper → (Nat → D) → St → ((Nat → D) → St → Prop) → (D → (Nat → D) → St → Prop) → Prop
  | [], E, S, K, _ => K E S
  | o :: rest, E, S, K, Kp =>
    match guardD ops E o.guard with
    | some true => opT P GL E S o (fun d S' => opsT P GL ops rest (updO E o.dst d) S' K Kp) (fun d S' => Kp d E S')
    | some false => opsT P GL ops rest (updO E o.dst (.tup [])) S K Kp
    | none => False

def dstOk (n : Nat) (ops : Array Oper) : Bool := ops.all fun o => match o.dst with | some t => decide (t < n) | none => true

section
variable {P : Program} {GL : Nat → D} {n mb : Nat} {S : St} {E : Nat → D} {Q : Post}

theorem put_size (a : Act) (o : Option Tmp) (v : Value) : (a.put o v).tmps.size = a.tmps.size := by
  cases o <;> simp [Act.put]
theorem put_defers (a : Act) (o : Option Tmp) (v : Value) : (a.put o v).defers = a.defers := by
  cases o <;> rfl

theorem V_bool {g : G} {b : Bool} {v : Value} (h : V g (.sc (.bool b)) v) : v = .bool b := (V_sc_inv h).1
theorem V_no {g : G} {v : Value} (h : V g (.tup []) v) : v = undef := by
  cases h with
  | @tup _ vs hl _ =>
    have : vs = #[] := Array.eq_empty_of_size_eq_zero (by simpa using hl)
    subst this; rfl
theorem V_tup0 (g : G) : V g (.tup []) undef := .tup rfl fun j d hd => by simp at hd

theorem guard_wanted {g : G} {a : Act} {ops : Array Oper} {o : Oper} {b : Bool} (he : Env g E a) (h : guardD ops E o.guard = some b) : Region.wanted o (yielded ops a.tmps) = b := by
  unfold Region.wanted
  cases hg : o.guard with
  | none => rw [hg] at h; simp only [guardD, Option.some.injEq] at h; exact h
  | some gw =>
    obtain ⟨j, want⟩ := gw
    rw [hg] at h
    simp only [guardD] at h
    split at h
    · rename_i t ht
      simp only [yielded, ht, Option.bind_some]
      have hv := he t
      unfold gv at h
      split at h
      · rename_i b' hb
        simp only [Option.some.injEq] at h
        subst h
        rw [hb] at hv
        have hv := V_bool hv
        rcases Nat.lt_or_ge t a.tmps.size with hlt | hge
        · have : a.tmps[t]? = some (.bool b') := by rw [← hv]; simp [Array.getD_eq_getD_getElem?, hlt]
          rw [this]
          rfl
        · simp [Array.getD_eq_getD_getElem?, Array.getElem?_eq_none hge, undef] at hv
      · rename_i hb
        simp only [Option.some.injEq] at h
        subst h
        rw [hb] at hv
        have hv := V_no hv
        rcases Nat.lt_or_ge t a.tmps.size with hlt | hge
        · have : a.tmps[t]? = some undef := by rw [← hv]; simp [Array.getD_eq_getD_getElem?, hlt]
          rw [this]
          rfl
        · rw [Array.getElem?_eq_none hge]; rfl
      · cases h
    · cases h

theorem exec_call {o : Oper} {f : Operand} {args : List Operand} {a : Act} {fi : FuncId} {first caps : Array Value} {w : World} (hc : calleeOf o = some (f, args)) (hf : a.eval f = .func (.func fi) first caps) (hg : goFn P fi = true) :
    (execOp a.eval o).run P w = .ok (.enter fi (first ++ (args.map a.eval).toArray ++ caps)) w := by
  unfold calleeOf at hc
  split at hc
  · rename_i c hop
    split at hc
    · rename_i f' hcal
      simp only [Option.some.injEq, Prod.mk.injEq] at hc
      obtain ⟨rfl, rfl⟩ := hc
      unfold goFn at hg
      split at hg
      · rename_i fn hfn
        simp only [Bool.and_eq_true, bne_iff_ne, ne_eq] at hg
        have hb : fn.body.isNone = false := by have := hg.2; cases hh : fn.body <;> simp_all
        have e : (c.args.toList.map a.eval).toArray = c.args.map a.eval := by apply Array.ext'; simp
        rw [e]
        simp only [execOp, hop, resolve, hcal, hf, Deferred.ofValue, Sem.run_bind, Sem.run_pure, Result.andThen_ok, invoke, callFunc, run_program, hfn]
        have h1 : (fn.name == "runtime.NumGoroutine") = false := by simpa using hg.1
        simp [h1, hb]
      · cases hg
    · cases hc
  · cases hc

theorem opT_wp {g0 g : G} {w0 w : World} {a : Act} {o : Oper} {K : D → St → Prop} {Kp : D → St → Prop} {next : Act → World → Prop} (hk : Keep g0 g w0 w) (h : opT P GL E S o K Kp) (hs : Sim g S w) (he : Env g E a) (hg : Glob g GL) (hn : a.tmps.size = n)
    (hd : Mk mb g w a.defers) (hnext : ∀ g' S' w' d v, Keep g0 g' w0 w' → Keep g g' w w' → Sim g' S' w' → V g' d v → K d S' → next (a.put o.dst v) w') (hkp : ∀ d S', Kp d S' → Q (.pan d) E S') : o.wp P a w next (Lift n mb g0 w0 Q) := by
  unfold opT at h
  split at h
  · rename_i f args hc
    have hfv := rho_V he hg f
    unfold CallV at h
    split at h
    · rename_i fi first caps hfd
      rw [hfd] at hfv
      cases hev : a.eval f with
      | func fn vs us =>
        rw [hev] at hfv
        cases hfv with
        | fn h1 h2 k1 k2 =>
          unfold Oper.wp
          rw [exec_call hc hev h.1, Oper.upon_enter]
          have hargs : VL g (args.map (rhoD E GL)) (args.map a.eval).toArray := by
            refine ⟨by simp, fun j d hd => ?_⟩
            simp only [List.getElem?_map, Option.map_eq_some_iff] at hd
            obtain ⟨x, hx, rfl⟩ := hd
            have : ((args.map a.eval).toArray).getD j undef = a.eval x := by simp [Array.getD_eq_getD_getElem?, hx]
            rw [this]; exact rho_V he hg x
          refine (h.2 g w _ hs (VL_append (VL_append ⟨h1, k1⟩ hargs) ⟨h2, k2⟩) hg).mono fun e w' ⟨g', S', l1, l2, l3⟩ => ?_
          cases e with
          | returned v => obtain ⟨d, q1, q2⟩ := l3; exact hnext g' S' w' d v (hk.trans l1) l1 l2 q1 q2
          | panicked c =>
            obtain ⟨v, d, q1, q2, q3⟩ := l3
            exact ⟨g', E, S', .pan d, hk.trans l1, l2, he.mono l1.le, hn, hd.keep l1, ⟨v, q1, q2⟩, hkp _ _ q3⟩
          | outgrown => exact l3.elim
      | _ => rw [hev] at hfv; cases hfv
    · exact h.elim
  · split at h
    · rename_i d S' hop
      obtain ⟨g', w', nx, q1, q2, q3, q4⟩ := op_does hop hs he hg
      unfold Oper.wp
      rw [q1]
      rcases q2 with ⟨v, rfl, hv⟩ | ⟨rfl, rfl⟩
      · rw [Oper.upon_value]; exact hnext g' S' w' d v (hk.trans q4) q4 q3 hv h
      · rw [Oper.upon_skip]; exact hnext g' S' w' .undef undef (hk.trans q4) q4 q3 .undef h
    · exact h.elim

theorem opsT_wp {ops : Array Oper} (hdst : dstOk n ops = true) {g0 : G} {w0 : World} : ∀ (l : List Oper) (k : Nat), ops.toList.drop k = l → ∀ (E : Nat → D) (S : St) (g : G) (a : Act) (w : World), Keep g0 g w0 w →
    opsT P GL ops l E S (Q .normal) (fun d E S => Q (.pan d) E S) → Sim g S w → Env g E a → Glob g GL → a.tmps.size = n → Mk mb g w a.defers → wpOps P ops (Lift n mb g0 w0 Q) (List.range' k l.length) a w
  | [], k, _, E, S, g, a, w, hk, h, hs, he, hg, hn, hd => ⟨g, E, S, .normal, hk, hs, he, hn, hd, trivial, h⟩
  | o :: l, k, hl, E, S, g, a, w, hk, h, hs, he, hg, hn, hd => by
    have ho : ops[k]? = some o := by
      have : (ops.toList.drop k)[0]? = some o := by rw [hl]; rfl
      rw [List.getElem?_drop] at this
      simpa using this
    have hl' : ops.toList.drop (k + 1) = l := by
      rw [← List.drop_drop, hl]; rfl
    have hmem : o ∈ ops := Array.mem_of_getElem? ho
    have hdo : ∀ t, o.dst = some t → t < a.tmps.size := by
      intro t ht
      unfold dstOk at hdst
      rw [Array.all_eq_true_iff_forall_mem] at hdst
      have := hdst o hmem
      rw [ht] at this
      simpa [hn] using this
    have hnext : ∀ g' S' w' d v, Keep g0 g' w0 w' → Keep g g' w w' → Sim g' S' w' → V g' d v → opsT P GL ops l (updO E o.dst d) S' (Q .normal) (fun d E S => Q (.pan d) E S) →
        wpOps P ops (Lift n mb g0 w0 Q) (List.range' (k + 1) l.length) (a.put o.dst v) w' := fun g' S' w' d v k1 k2 k3 k4 k5 =>
      opsT_wp hdst l (k + 1) hl' _ _ g' _ w' k1 k5 k3 ((he.mono k2.le).put k4 hdo) (hg.mono k2.le) (by rw [put_size]; exact hn) (by rw [put_defers]; exact hd.keep k2)
    simp only [List.length_cons, List.range'_succ, wpOps, ho]
    unfold opsT at h
    split at h
    · rename_i hgd
      rw [if_pos (guard_wanted he hgd)]
      exact .inl (opT_wp hk h hs he hg hn hd hnext (fun _ _ hh => hh))
    · rename_i hgd
      have hw : ¬ Region.wanted o (yielded ops a.tmps) = true := by rw [guard_wanted he hgd]; simp
      rw [if_neg hw]
      exact hnext g S w (.tup []) undef hk (.refl _ _) hs (V_tup0 g) h
    · exact h.elim

/-- A REGION -/
theorem tri_region {id : Nat} {ops : Array Oper} (hdst : dstOk n ops = true) (h : opsT P GL ops ops.toList E S (Q .normal) (fun d E S => Q (.pan d) E S)) : Tri P GL n (.region id ops false) E S Q := by
  intro mb g a w hs he hg hn hd
  refine wp_region ?_
  have := opsT_wp (Q := Q) hdst ops.toList 0 rfl E S g a w (.refl _ _) h hs he hg hn hd
  rw [List.range_eq_range']
  simpa using this

theorem Tri.mono {c : Code} {Q' : Post} (h : Tri P GL n c E S Q) (hq : ∀ x E S, Q x E S → Q' x E S) : Tri P GL n c E S Q' :=
  fun _ g a w h1 h2 h3 h4 h5 => wp_mono (h g a w h1 h2 h3 h4 h5) fun e a w ⟨g', E', S', x, k1, k2, k3, k4, k5, k6, k7⟩ => ⟨g', E', S', x, k1, k2, k3, k4, k5, k6, hq _ _ _ k7⟩

theorem tri_skip (h : Q .normal E S) : Tri P GL n .skip E S Q := fun _ g a w h1 h2 _ h4 h5 => wp_skip ⟨g, E, S, .normal, .refl _ _, h1, h2, h4, h5, trivial, h⟩
theorem tri_label {l : Nat} (h : Q .normal E S) : Tri P GL n (.label l) E S Q := fun _ g a w h1 h2 _ h4 h5 => wp_label ⟨g, E, S, .normal, .refl _ _, h1, h2, h4, h5, trivial, h⟩
theorem tri_exit {id : Nat} (h : Q (.exit id) E S) : Tri P GL n (.exit id) E S Q := fun _ g a w h1 h2 _ h4 h5 => wp_exit ⟨g, E, S, .exit id, .refl _ _, h1, h2, h4, h5, rfl, h⟩
theorem tri_goto {l : Nat} (h : Q (.goto l) E S) : Tri P GL n (.goto l) E S Q := fun _ g a w h1 h2 _ h4 h5 => wp_goto ⟨g, E, S, .goto l, .refl _ _, h1, h2, h4, h5, rfl, h⟩
theorem tri_ret (h : Q .ret E S) : Tri P GL n .ret E S Q := fun _ g a w h1 h2 _ h4 h5 => wp_ret ⟨g, E, S, .ret, .refl _ _, h1, h2, h4, h5, trivial, h⟩

theorem lift_bind {g0 : G} {w0 : World} {Q1 Q2 : Post} {F : Exit → Act → World → Prop} (h0 : ∀ g E S a w, Q1 .normal E S → Keep g0 g w0 w → Sim g S w → Env g E a → a.tmps.size = n → Mk mb g w a.defers → F .normal a w)
    (h1 : ∀ x, x ≠ .normal → ∀ E S, Q1 x E S → Q2 x E S) (h2 : ∀ e a w, e ≠ .normal → Lift n mb g0 w0 Q2 e a w → F e a w) : ∀ e a w, Lift n mb g0 w0 Q1 e a w → F e a w := by
  intro e a w ⟨g, E, S, x, k1, k2, k3, k4, k5, k6, k7⟩
  cases e with
  | normal =>
    cases x with
    | normal => exact h0 g E S a w k7 k1 k2 k3 k4 k5
    | _ => simp [Rel] at k6
  | _ =>
    refine h2 _ a w (by simp) ⟨g, E, S, x, k1, k2, k3, k4, k5, k6, h1 x ?_ _ _ k7⟩
    rintro rfl
    simp [Rel] at k6

def seqPost (P : Program) (GL : Nat → D) (n : Nat) (y : Code) (Q : Post) : Post
  | .normal, E, S => Tri P GL n y E S Q
  | x, E, S => Q x E S

theorem tri_seq {x y : Code} (h : Tri P GL n x E S (seqPost P GL n y Q)) : Tri P GL n (.seq x y) E S Q := by
  intro mb g a w h1 h2 h3 h4 h5
  refine wp_seq (wp_mono (h g a w h1 h2 h3 h4 h5) ?_)
  refine lift_bind (Q2 := Q) ?_ ?_ ?_
  · intro g' E' S' a' w' q k1 k2 k3 k4 k5
    exact wp_mono (q g' a' w' k2 k3 (h3.mono k1.le) k4 k5) fun e a w hh => hh.keep k1
  · intro x hx E S hq
    cases x <;> first | exact absurd rfl hx | exact hq
  · intro e a w he hh
    cases e <;> first | exact absurd rfl he | exact hh

theorem tri_cond {c : Operand} {x y : Code} {b : Bool} (hc : rhoD E GL c = .sc (.bool b)) (ht : b = true → Tri P GL n x E S Q) (hf : b = false → Tri P GL n y E S Q) : Tri P GL n (.cond c x y) E S Q := by
  intro mb g a w h1 h2 h3 h4 h5
  have := rho_V h2 h3 c
  rw [hc] at this
  have hv := (V_sc_inv this).1
  exact wp_cond_split hv (fun hb => ht hb g a w h1 h2 h3 h4 h5) (fun hb => hf hb g a w h1 h2 h3 h4 h5)

def blockPost (id : Nat) (Q : Post) : Post
  | .exit i, E, S => if i = id then Q .normal E S else Q (.exit i) E S
  | x, E, S => Q x E S






end
end Go.Bw

/- The framework, part 14: calls; what is let go; what is said more weakly. -/
namespace Go.Bw
open Go

def resultsD (P : Program) (E : Nat → D) (S : St) : List ResultVar → Option (List D)
  | [] => some []
  | .tmp t :: r => (resultsD P E S r).map fun l => E t :: l
  | .cell a t :: r => match ldD P S t (E a), resultsD P E S r with
    | some d, some l => some (d :: l)
    | _, _ => none

def retD : List D → D
  | [d] => d
  | ds => .tup ds

def argsE (ds : List D) : Nat → D := fun t => ds.getD t .undef

def retPost (P : Program) (fn : Func) (Pst : R → St → Prop) : Post
  | .normal, E, S => ∃ ds, resultsD P E S fn.results.toList = some ds ∧ Pst (.ret (retD ds)) S
  | .ret, E, S => ∃ ds, resultsD P E S fn.results.toList = some ds ∧ Pst (.ret (retD ds)) S
  | .pan d, _, S => Pst (.pan d) S
  | _, _, _ => False

section
variable {P : Program} {GL : Nat → D} {n : Nat} {S : St} {E : Nat → D} {Q : Post}

theorem asAddr_load {g : G} {t : TypeId} {d r : D} {x : Value} {w : World} (h : ldD P S t d = some r) (hs : Sim g S w) (hx : V g d x) : ∃ v, (do loadVar t (← asAddr x) : Sem Value).run P w = .ok v w ∧ V g r v := by
  obtain ⟨v, h1, h2⟩ := load_same h hs hx
  have hp : ∃ a, x = .pointer (some a) := by
    cases hx with
    | ptr _ => exact ⟨_, rfl⟩
    | rp _ _ _ => exact ⟨_, rfl⟩
    | sc _ => simp [ldD] at h
    | undef => simp [ldD] at h
    | _ => simp [ldD] at h
  obtain ⟨a, rfl⟩ := hp
  exact ⟨v, h1, h2⟩

def resFn (tmps : Array Value) : ResultVar → Sem Value
  | .tmp t => pure (tmps.getD t undef)
  | .cell a t => do loadVar t (← asAddr (tmps.getD a undef))

theorem results_eq (fn : Func) (tmps : Array Value) : results fn tmps = (do let vs ← fn.results.mapM (resFn tmps); pure (if h : vs.size = 1 then vs[0] else .tuple vs)) := by
  unfold results
  congr 2

theorem results_mapM {g : G} {w : World} {a : Act} (hs : Sim g S w) (he : Env g E a) : ∀ (rs : List ResultVar) (ds : List D), resultsD P E S rs = some ds →
    ∃ vs : List Value, (rs.mapM (resFn a.tmps)).run P w = .ok vs w ∧ vs.length = ds.length ∧
      ∀ (j : Nat) (d : D), ds[j]? = some d → V g d (vs.getD j undef)
  | [], ds, h => by
    simp only [resultsD, Option.some.injEq] at h
    subst h
    exact ⟨[], rfl, rfl, fun j d hd => by simp at hd⟩
  | .tmp t :: rs, ds, h => by
    simp only [resultsD, Option.map_eq_some_iff] at h
    obtain ⟨l, hl, rfl⟩ := h
    obtain ⟨vs, h1, h2, h3⟩ := results_mapM hs he rs l hl
    refine ⟨a.tmps.getD t undef :: vs, by simp only [List.mapM_cons, Sem.run_bind, Sem.run_pure, Result.andThen_ok, resFn]; rw [h1]; rfl, by simp [h2], fun j d hd => ?_⟩
    cases j with
    | zero => simp only [List.getElem?_cons_zero, Option.some.injEq] at hd; subst hd; exact he t
    | succ j => simpa using h3 j d (by simpa using hd)
  | .cell x t :: rs, ds, h => by
    unfold resultsD at h
    split at h
    · rename_i d l h1 h2
      simp only [Option.some.injEq] at h
      subst h
      obtain ⟨vs, k1, k2, k3⟩ := results_mapM hs he rs l h2
      obtain ⟨v, q1, q2⟩ := asAddr_load h1 hs (he x)
      refine ⟨v :: vs, ?_, by simp [k2], fun j d' hd => ?_⟩
      · simp only [List.mapM_cons, Sem.run_bind, resFn] at q1 k1 ⊢
        rw [q1]
        simp only [Result.andThen_ok, k1, Sem.run_pure]
      · cases j with
        | zero => simp only [List.getElem?_cons_zero, Option.some.injEq] at hd; subst hd; exact q2
        | succ j => simpa using k3 j d' (by simpa using hd)
    · cases h

theorem results_run {g : G} {w : World} {a : Act} {fn : Func} {ds : List D} (hs : Sim g S w) (he : Env g E a) (h : resultsD P E S fn.results.toList = some ds) : ∃ v, (results fn a.tmps).run P w = .ok v w ∧ V g (retD ds) v := by
  obtain ⟨vs, h1, h2, h3⟩ := results_mapM hs he _ _ h
  have hrun : ∃ arr : Array Value, arr = vs.toArray ∧ (results fn a.tmps).run P w = .ok (if h : arr.size = 1 then arr[0] else .tuple arr) w := by
    refine ⟨vs.toArray, rfl, ?_⟩
    rw [results_eq, Array.mapM_eq_mapM_toList]
    simp only [Sem.run_bind, Sem.run_map, Sem.run_pure]
    rw [h1]
    rfl
  obtain ⟨arr, rfl, hr⟩ := hrun
  refine ⟨_, hr, ?_⟩
  unfold retD
  split
  · rename_i d
    obtain ⟨v, rfl⟩ := List.length_eq_one_iff.1 (show vs.length = 1 by simpa using h2)
    exact h3 0 d rfl
  · rename_i hne
    rw [dif_neg]
    · exact .tup (by simp [h2]) (fun j d hd => by simpa [Array.getD_eq_getD_getElem?, List.getD] using h3 j d hd)
    · intro hh
      simp only [List.size_toArray] at hh
      rw [h2] at hh
      obtain ⟨d, rfl⟩ := List.length_eq_one_iff.1 hh
      exact hne d rfl

theorem args_env {g : G} {ds : List D} {vs : Array Value} {k : Nat} (h : VL g ds vs) : Env g (argsE ds) { tmps := vs ++ Array.replicate k undef, defers := [] } := by
  intro t
  unfold argsE
  by_cases ht : t < ds.length
  · have hd : ds[t]? = some ds[t] := by simp [ht]
    have := h.2 t _ hd
    have e1 : ds.getD t .undef = ds[t] := by simp [List.getD, ht]
    have e2 : (vs ++ Array.replicate k undef).getD t undef = vs.getD t undef := by
      simp only [Array.getD_eq_getD_getElem?]; rw [Array.getElem?_append_left (by rw [h.1]; exact ht)]
    rw [e1]
    show V g _ ((vs ++ Array.replicate k undef).getD t undef)
    rw [e2]; exact this
  · have e1 : ds.getD t .undef = .undef := by simp [List.getD, List.getElem?_eq_none (Nat.le_of_not_lt ht)]
    rw [e1]
    exact .undef

theorem calls_of_marks {f : FuncId} {fn : Func} {c : Code} {args : Array Value} {w : World} {R : Ending → World → Prop} (hf : P.funcs[f]? = some fn) (hb : fn.body = some c)
    (h : c.wp P (bodyPostM Fence.wide 0 P fn R) { tmps := args ++ Array.replicate (fn.ntmps - args.size) undef, defers := [] } w) : Calls P f args w R :=
  (callsIn_wide (n := 0)).1 (callsIn_of_wp_marks (F := Fence.wide) (n := 0) hf hb trivial (wpIn_wide.2 h))

theorem Sim.shut {g : G} {w : World} {D : Nat} (o : Obj) (h : Sim g S w) (hm : g.m D = none) (hr : ∀ i v n, g.r i v ≠ some (D, n)) : Sim g S (w.putObj D o) := by
  have hh : ∀ b, b ≠ D → (w.putObj D o).heap[b]? = w.heap[b]? := fun b hb => World.putObj_heap_other hb
  refine ⟨fun b o' hb => ?_, fun i e he => ?_, h.inj, h.fresh, h.tabs, h.later, fun i v b n hb => by rw [World.putObj_size]; exact h.inb i v b n hb⟩
  · rw [hh b (by rintro rfl; rw [hm] at hb; cases hb)]; exact h.imm b o' hb
  · obtain ⟨b, n, c, t, fz, a1, a2, a⟩ := h.sto i e he
    exact ⟨b, n, c, t, fz, a1, by rw [hh b (by rintro rfl; exact hr _ _ _ a1)]; exact a2, a⟩

theorem Keep.shut {g0 g : G} {w0 w : World} {D : Nat} (o : Obj) (h : Keep g0 g w0 w) (hD : w0.heap.size ≤ D) : Keep g0 g w0 (w.putObj D o) :=
  ⟨h.le, by rw [World.putObj_size]; exact h.size, fun b hb hn => by rw [World.putObj_heap_other (by omega)]; exact h.old b hb hn, h.newm, h.newr, h.os, h.tape, h.output⟩

/-- a function's end: its marks are come to -/
theorem leave_marks {g0 g : G} {w0 : World} {fn : Func} {tmps : Array Value} {u : FrameMode} {R : Ending → World → Prop} (hu : u ≠ .run) : ∀ (Ds : List Nat) (w : World), Ds.Nodup →
    (∀ D ∈ Ds, w0.heap.size ≤ D ∧ w.heap[D]? = some (.deferred (some [])) ∧ g.m D = none ∧ ∀ i v n, g.r i v ≠ some (D, n)) → Sim g S w → Keep g0 g w0 w →
    (∀ w', Sim g S w' → Keep g0 g w0 w' → LeavesInM Fence.wide 0 P fn tmps R [] u w') → LeavesInM Fence.wide 0 P fn tmps R (Ds.map fun D => { target := .collected D, args := #[] }) u w
  | [], w, _, _, hs, hk, h => h w hs hk
  | D :: Ds, w, hn, hall, hs, hk, h => by
    obtain ⟨a, b, c, d⟩ := hall D (List.mem_cons_self ..)
    rw [List.nodup_cons] at hn
    refine ⟨hu, .inl ⟨D, w.putObj D (.deferred none), rfl, run_takeDeferred b, ?_⟩⟩
    refine leave_marks hu Ds _ hn.2 (fun D' hD' => ?_) (hs.shut _ c d) (hk.shut _ a) h
    obtain ⟨a', b', c', d'⟩ := hall D' (List.mem_cons_of_mem _ hD')
    exact ⟨a', by rw [World.putObj_heap_other (by rintro rfl; exact hn.1 hD')]; exact b', c', d'⟩

theorem Mk.leave {g0 g : G} {w0 w : World} {fn : Func} {tmps : Array Value} {u : FrameMode} {R : Ending → World → Prop} {l : List Deferred} (hm : Mk w0.heap.size g w l) (hu : u ≠ .run) (hs : Sim g S w) (hk : Keep g0 g w0 w)
    (h : ∀ w', Sim g S w' → Keep g0 g w0 w' → LeavesInM Fence.wide 0 P fn tmps R [] u w') : LeavesInM Fence.wide 0 P fn tmps R l u w := by
  obtain ⟨Ds, rfl, h2, h3⟩ := hm
  exact leave_marks hu Ds w h2 h3 hs hk h

/-- A CALL OF A FUNCTION, BY ITS BODY -/
theorem callT_of {f : FuncId} {fn : Func} {c : Code} {ds : List D} {Pst : R → St → Prop} (hf : P.funcs[f]? = some fn) (hb : fn.body = some c) (hname : (fn.name != "runtime.NumGoroutine") = true) (hl : ds.length ≤ fn.ntmps)
    (h : Tri P GL fn.ntmps c (argsE ds) S (retPost P fn Pst)) : CallT P GL f ds S Pst := by
  refine ⟨by unfold goFn; rw [hf]; simp [hname, hb], fun g w vs hs hv hg => ?_⟩
  refine calls_of_marks hf hb ?_
  refine wp_mono (h (mb := w.heap.size) g _ w hs (args_env hv) hg (by simp [hv.1]; omega) (Mk.nil _ _ _)) ?_
  intro e a w' ⟨g', E', S', x, k1, k2, k3, k4, k5, k6, k7⟩
  cases e with
  | normal =>
    cases x with
    | normal =>
      obtain ⟨rs, r1, r2⟩ := k7
      refine k5.leave (by simp) k2 k1 fun w2 q2 q1 => ?_
      obtain ⟨v, p1, p2⟩ := results_run q2 k3 r1
      exact ⟨v, p1, g', S', q1, q2, _, p2, r2⟩
    | _ => simp [Rel] at k6
  | ret =>
    cases x with
    | ret =>
      obtain ⟨rs, r1, r2⟩ := k7
      refine k5.leave (by simp) k2 k1 fun w2 q2 q1 => ?_
      obtain ⟨v, p1, p2⟩ := results_run q2 k3 r1
      exact ⟨v, p1, g', S', q1, q2, _, p2, r2⟩
    | _ => simp [Rel] at k6
  | panic ch =>
    cases x with
    | pan d =>
      obtain ⟨v, rfl, hvv⟩ := k6
      exact k5.leave (by simp) k2 k1 fun w2 q2 q1 => ⟨g', S', q1, q2, v, d, rfl, hvv, k7⟩
    | _ => simp [Rel] at k6
  | exit i =>
    cases x with
    | exit j => exact k7.elim
    | _ => simp [Rel] at k6
  | goto i =>
    cases x with
    | goto j => exact k7.elim
    | _ => simp [Rel] at k6
  | outgrown => cases x <;> simp [Rel] at k6

/-- a call that hands in no row, and hands back none: an equation -/
def PureC (P : Program) (GL : Nat → D) (f : FuncId) (ds : List D) (d : D) : Prop :=
  d.free ∧ (∀ x ∈ ds, x.free) ∧ CallT P GL f ds St.empty (fun r _ => r = .ret d)

theorem Sim.bare {g : G} {w : World} (h : Sim g S w) : Sim ⟨g.m, fun _ _ => none⟩ St.empty w :=
  ⟨h.imm, fun i e he => by simp [St.empty] at he, fun i j e e' b n n' he => by simp [St.empty] at he, fun _ _ _ => rfl, fun _ _ => rfl, fun _ _ _ _ _ => rfl, fun i v b n he => by cases he⟩

theorem PureC.use {f : FuncId} {ds : List D} {d : D} (h : PureC P GL f ds d) (S : St) : CallT P GL f ds S (fun r S' => r = .ret d ∧ S' = S) := by
  obtain ⟨hd, hds, hgo, h⟩ := h
  refine ⟨hgo, fun g w vs hs hv hg => ?_⟩
  have h0 := h ⟨g.m, fun _ _ => none⟩ w vs hs.bare ⟨hv.1, fun j x hx => (hv.2 j x hx).free (g := g) (g' := ⟨g.m, fun _ _ => none⟩) (fun _ _ k => k) (hds x (List.mem_of_getElem? hx))⟩
    (fun i => ⟨(hg i).1, (hg i).2.free (g := g) (g' := ⟨g.m, fun _ _ => none⟩) (fun _ _ k => k) (hg i).1⟩)
  refine h0.mono fun e w' ⟨g1, S1, k1, k2, k3⟩ => ?_
  have hle : g.le ⟨g1.m, g.r⟩ := ⟨fun b o k => k1.le.m b o k, fun _ _ _ k => k⟩
  have hnm : ∀ b o, g1.m b = some o → g.m b = some o ∨ w.heap.size ≤ b := fun b o k => by
    rcases k1.newm b o k with k | k | ⟨i, v, n, k⟩
    · exact .inl k
    · exact .inr k
    · cases k
  have hkeep : Keep g ⟨g1.m, g.r⟩ w w' := ⟨hle, k1.size, fun b hb _ => k1.old b hb (fun i v n k => by cases k), fun b o k => (hnm b o k).imp id .inl, fun i v b n k => .inr ⟨_, _, _, k⟩, k1.os, k1.tape, k1.output⟩
  refine ⟨⟨g1.m, g.r⟩, S, hkeep, ⟨k2.imm, ?_, hs.inj, hs.fresh, hs.tabs, hs.later, fun i v b n k => Nat.lt_of_lt_of_le (hs.inb i v b n k) k1.size⟩, ?_⟩
  · intro i e' he'
    obtain ⟨b, n', c', t', fz', a1, a2, a3, a4, a5, a6, a7⟩ := hs.sto i e' he'
    refine ⟨b, n', c', t', fz', a1, ?_, a3, a4, ?_, a6, fun j x hx => (a7 j x hx).mono hle⟩
    · rw [k1.old b (heap_lt a2) (fun i v n k => by cases k)]; exact a2
    · cases hm : g1.m b with
      | none => rfl
      | some o =>
        rcases hnm b o hm with k | k
        · rw [a5] at k; cases k
        · have := heap_lt a2; omega
  · cases e with
    | returned v =>
      obtain ⟨d', q1, q2⟩ := k3
      simp only [R.ret.injEq] at q2
      subst q2
      exact ⟨_, q1.free (g := g1) (g' := ⟨g1.m, g.r⟩) (fun _ _ k => k) hd, rfl, rfl⟩
    | panicked c => obtain ⟨v, d', q1, q2, q3⟩ := k3; cases q3
    | outgrown => exact k3

theorem PureC.of {f : FuncId} {fn : Func} {c : Code} {ds : List D} {d : D} (hd : d.free) (hds : ∀ x ∈ ds, x.free) (hf : P.funcs[f]? = some fn) (hb : fn.body = some c) (hname : (fn.name != "runtime.NumGoroutine") = true) (hl : ds.length ≤ fn.ntmps)
    (h : Tri P GL fn.ntmps c (argsE ds) St.empty (retPost P fn (fun r _ => r = .ret d))) : PureC P GL f ds d :=
  ⟨hd, hds, callT_of hf hb hname hl h⟩

theorem Wk.refl (d : D) : Wk d d := fun _ _ h => h
theorem Wk.undef (d : D) : Wk d .undef := fun _ _ _ => .undef
theorem Wk.nils (ex : Bool) : Wk .nils (.ro ex []) := fun _ _ h => by cases h; exact .roNil
theorem Wk.ex (es : List D) (ex : Bool) : Wk (.ro ex es) (.ro false es) := fun _ _ h => by
  cases h with
  | roNil => exact .roNil
  | roNone hc he => exact .roNone hc (by simp)
  | ro h1 h2 h3 h4 h5 h6 h7 => exact .ro h1 h2 h3 h4 h5 (by simp) h7
theorem Wk.trans {a b c : D} (h : Wk a b) (k : Wk b c) : Wk a c := fun g v x => k g v (h g v x)

def WkL (ds ds' : List D) : Prop := ds.length = ds'.length ∧ ∀ (j : Nat) (d d' : D), ds[j]? = some d → ds'[j]? = some d' → Wk d d'

theorem WkL.VL {ds ds' : List D} (h : WkL ds ds') {g : G} {f : Nat → Value} (k : ∀ (j : Nat) (d : D), ds[j]? = some d → V g d (f j)) : ∀ (j : Nat) (d : D), ds'[j]? = some d → V g d (f j) := fun j d hd => by
  have hj : j < ds'.length := (List.getElem?_eq_some_iff.1 hd).1
  have : ds[j]? = some (ds[j]'(by rw [h.1]; exact hj)) := by simp
  exact h.2 j _ d this hd _ _ (k j _ this)

theorem WkL.nil : WkL [] [] := ⟨rfl, fun j d d' h => by simp at h⟩
theorem WkL.cons {a b : D} {as bs : List D} (h : Wk a b) (k : WkL as bs) : WkL (a :: as) (b :: bs) := ⟨by simp [k.1], fun j d d' hd hd' => by
  cases j with
  | zero => simp only [List.getElem?_cons_zero, Option.some.injEq] at hd hd'; subst hd hd'; exact h
  | succ j => exact k.2 j d d' (by simpa using hd) (by simpa using hd')⟩
theorem WkL.refl (l : List D) : WkL l l := ⟨rfl, fun j d d' h h' => by rw [h] at h'; simp only [Option.some.injEq] at h'; subst h'; exact .refl _⟩

theorem Wk.agg {a b : List D} (h : WkL a b) : Wk (.agg a) (.agg b) := fun g v x => by
  cases x with
  | agg h1 h2 => exact .agg (by rw [← h.1]; exact h1) (h.VL h2)
theorem Wk.tup {a b : List D} (h : WkL a b) : Wk (.tup a) (.tup b) := fun g v x => by
  cases x with
  | tup h1 h2 => exact .tup (by rw [← h.1]; exact h1) (h.VL h2)
theorem Wk.fn {f : Fn} {a b c d : List D} (h : WkL a b) (k : WkL c d) : Wk (.fn f a c) (.fn f b d) := fun g v x => by
  cases x with
  | fn h1 h2 h3 h4 => exact .fn (by rw [← h.1]; exact h1) (by rw [← k.1]; exact h2) (h.VL h3) (k.VL h4)



theorem CallT.weakArgs {f : FuncId} {ds ds' : List D} {Q : R → St → Prop} (h : CallT P GL f ds' S Q) (hw : WkL ds ds') : CallT P GL f ds S Q :=
  ⟨h.1, fun g w vs h1 h2 h3 => h.2 g w vs h1 ⟨by rw [h2.1, hw.1], hw.VL h2.2⟩ h3⟩

/-- a row is let go -/
def Frz (id : Nat) (e : En) (d d' : D) : Prop :=
  ∀ g b n c t fz, g.r id e.ver = some (b, n) → g.m b = some (.cells c t fz) → c.size = n → e.ob.length ≤ n → (∀ (j : Nat) (d : D), e.ob[j]? = some d → V g d (c.getD j undef)) → ∀ v, V g d v → V g d' v

theorem Frz.wk {id : Nat} {e : En} {d d' : D} (h : Wk d d') : Frz id e d d' := fun g _ _ _ _ _ _ _ _ _ _ v hv => h g v hv
theorem Frz.refl (id : Nat) (e : En) (d : D) : Frz id e d d := .wk (.refl _)

theorem Frz.ref {id sz off len : Nat} {e : En} {ag : Bool} (hag : ag = false → sz = 1) (hl : off + len * sz ≤ e.ob.length) (ho : e.ob.all D.one = true) :
    Frz id e (.ref id e.ver sz off len) (.ro false (cutD sz ag len ((e.ob.drop off).take (len * sz)))) := by
  intro g b n c t fz hr hm hc hn hv v hvv
  cases hvv with
  | ref h1 h2 h3 h4 =>
    rw [hr] at h1
    simp only [Option.some.injEq, Prod.mk.injEq] at h1
    obtain ⟨rfl, rfl⟩ := h1
    have hlen : ((e.ob.drop off).take (len * sz)).length = len * sz := by simp; omega
    obtain ⟨f1, f2, f3⟩ := cutD_flat sz ag hag len _ hlen (by simp only [List.all_eq_true] at ho ⊢; intro x hx; exact ho x (List.mem_of_mem_drop (List.mem_of_mem_take hx)))
    have := V.ro (g := g) (ex := false) (elems := cutD sz ag len ((e.ob.drop off).take (len * sz))) (off := off) hm f3 (by rw [f2]; omega) (by rw [f2]; exact h2) h3 (by simp) (by
      rw [f1]
      intro j d hd
      rw [List.getElem?_take] at hd
      split at hd
      · rw [List.getElem?_drop] at hd; exact hv _ _ hd
      · cases hd)
    rwa [f2] at this

theorem Frz.ptr {id off : Nat} {e : En} (hl : off ≤ e.ob.length) : Frz id e (.ptr id e.ver off) (.rp (e.ob.drop off)) := by
  intro g b n c t fz hr hm hc hn hv v hvv
  cases hvv with
  | ptr h1 =>
    rw [hr] at h1
    simp only [Option.some.injEq, Prod.mk.injEq] at h1
    obtain ⟨rfl, rfl⟩ := h1
    refine .rp hm (by simp; omega) fun j d hd => ?_
    rw [List.getElem?_drop] at hd
    exact hv _ _ hd

def FrzL (id : Nat) (e : En) (ds ds' : List D) : Prop := ds.length = ds'.length ∧ ∀ (j : Nat) (d d' : D), ds[j]? = some d → ds'[j]? = some d' → Frz id e d d'

theorem FrzL.nil {id : Nat} {e : En} : FrzL id e [] [] := ⟨rfl, fun j d d' h => by simp at h⟩
theorem FrzL.cons {id : Nat} {e : En} {a b : D} {as bs : List D} (h : Frz id e a b) (k : FrzL id e as bs) : FrzL id e (a :: as) (b :: bs) := ⟨by simp [k.1], fun j d d' hd hd' => by
  cases j with
  | zero => simp only [List.getElem?_cons_zero, Option.some.injEq] at hd hd'; subst hd hd'; exact h
  | succ j => exact k.2 j d d' (by simpa using hd) (by simpa using hd')⟩

theorem FrzL.V {id : Nat} {e : En} {ds ds' : List D} (h : FrzL id e ds ds') {g : G} {b n : Nat} {c : Array Value} {t : TypeId} {fz : Nat × Nat} (h1 : g.r id e.ver = some (b, n)) (h2 : g.m b = some (.cells c t fz)) (h3 : c.size = n) (h4 : e.ob.length ≤ n)
    (h5 : ∀ (j : Nat) (d : D), e.ob[j]? = some d → Bw.V g d (c.getD j undef)) {f : Nat → Value} (k : ∀ (j : Nat) (d : D), ds[j]? = some d → Bw.V g d (f j)) : ∀ (j : Nat) (d : D), ds'[j]? = some d → Bw.V g d (f j) := fun j d hd => by
  have hj : j < ds'.length := (List.getElem?_eq_some_iff.1 hd).1
  have : ds[j]? = some (ds[j]'(by rw [h.1]; exact hj)) := by simp
  exact h.2 j _ d this hd _ _ _ _ _ _ h1 h2 h3 h4 h5 _ (k j _ this)

theorem Frz.agg {id : Nat} {e : En} {a b : List D} (h : FrzL id e a b) : Frz id e (.agg a) (.agg b) := fun g _ _ _ _ _ h1 h2 h3 h4 h5 v x => by
  cases x with
  | agg q1 q2 => exact .agg (by rw [← h.1]; exact q1) (h.V h1 h2 h3 h4 h5 q2)
theorem Frz.fn {id : Nat} {e : En} {f : Fn} {a b c d : List D} (h : FrzL id e a b) (k : FrzL id e c d) : Frz id e (.fn f a c) (.fn f b d) := fun g _ _ _ _ _ h1 h2 h3 h4 h5 v x => by
  cases x with
  | fn q1 q2 q3 q4 => exact .fn (by rw [← h.1]; exact q1) (by rw [← k.1]; exact q2) (h.V h1 h2 h3 h4 h5 q3) (k.V h1 h2 h3 h4 h5 q4)

theorem Tri.freeze {c : Code} {id : Nat} {e : En} {E' : Nat → D} (he : S.tab id = some e) (hw : ∀ t, Frz id e (E t) (E' t)) (h : Tri P GL n c E' (S.put id none) Q) : Tri P GL n c E S Q := by
  intro mb g a w h1 h2 h3 h4 h5
  obtain ⟨b, n', cc, t', fz', a1, a2, a3, a4, a5, a6, a7⟩ := h1.sto id e he
  obtain ⟨s1, s2⟩ := h1.freeze he a1 a2
  have hb : (g.freeze b (.cells cc t' fz')).m b = some (.cells cc t' fz') := by simp [G.freeze]
  refine wp_mono (h _ a w s1 (fun t => hw t (g.freeze b (.cells cc t' fz')) _ _ _ _ _ a1 hb a3 a4 (fun j d hd => (a7 j d hd).mono s2.le) _ ((h2 t).mono s2.le)) (h3.mono s2.le) h4 (h5.keep s2)) fun e a w hh => hh.keep s2

end
end Go.Bw

/- The framework, part 15: steps, as they are typed. -/
namespace Go.Bw
open Go

section
variable {P : Program} {GL : Nat → D} {n : Nat} {S : St} {E : Nat → D} {Q : Post}

/-- a region, and what stands behind it, hidden -/
theorem step_region {id : Nat} {ops : Array Oper} {y : Code} (hdst : dstOk n ops = true)
    (h : ∀ K : (Nat → D) → St → Prop, (∀ E S, Tri P GL n y E S Q → K E S) → opsT P GL ops ops.toList E S K (fun d E S => Q (.pan d) E S)) : Tri P GL n (.seq (.region id ops false) y) E S Q :=
  tri_seq (tri_region hdst (h _ fun _ _ h => h))



theorem upd_same (E : Nat → D) (t : Nat) (d : D) : upd E t d t = d := by simp [upd]
theorem upd_ne (E : Nat → D) {t k : Nat} (d : D) (h : k ≠ t) : upd E t d k = E k := by simp [upd, h]

end

section
variable (P : Program)


variable {P}
section bins
variable (t : TypeId) (xo yo : Operand) (k : IntKind) (a b : Int)
theorem bin_add : binD P .add t xo yo (.sc (.int k a)) (.sc (.int k b)) = some (.sc (.int k (k.wrap (a + b)))) := by cases k <;> rfl
theorem bin_sub : binD P .sub t xo yo (.sc (.int k a)) (.sc (.int k b)) = some (.sc (.int k (k.wrap (a - b)))) := by cases k <;> rfl
theorem bin_mul : binD P .mul t xo yo (.sc (.int k a)) (.sc (.int k b)) = some (.sc (.int k (k.wrap (a * b)))) := by cases k <;> rfl
theorem bin_quo (h : b ≠ 0) : binD P .quo t xo yo (.sc (.int k a)) (.sc (.int k b)) = some (.sc (.int k (k.wrap (a.tdiv b)))) := by
  simp [binD, toVal, toVal1, eqGuard, binOp, Op.intDiv, h]; rfl
theorem bin_rem (h : b ≠ 0) : binD P .rem t xo yo (.sc (.int k a)) (.sc (.int k b)) = some (.sc (.int k (a.tmod b))) := by
  simp [binD, toVal, toVal1, eqGuard, binOp, Op.intDiv, h]; rfl
theorem bin_lss : binD P .lss t xo yo (.sc (.int k a)) (.sc (.int k b)) = some (.sc (.bool (decide (a < b)))) := by cases k <;> rfl
theorem bin_leq : binD P .leq t xo yo (.sc (.int k a)) (.sc (.int k b)) = some (.sc (.bool (decide (a ≤ b)))) := by cases k <;> rfl
theorem bin_gtr : binD P .gtr t xo yo (.sc (.int k a)) (.sc (.int k b)) = some (.sc (.bool (decide (b < a)))) := by cases k <;> rfl
theorem bin_geq : binD P .geq t xo yo (.sc (.int k a)) (.sc (.int k b)) = some (.sc (.bool (decide (b ≤ a)))) := by cases k <;> rfl
theorem bin_eql : binD P .eql t xo yo (.sc (.int k a)) (.sc (.int k b)) = some (.sc (.bool (a == b))) := by cases k <;> rfl
theorem bin_neq : binD P .neq t xo yo (.sc (.int k a)) (.sc (.int k b)) = some (.sc (.bool (a != b))) := by cases k <;> rfl
theorem bin_and : binD P .and t xo yo (.sc (.int k a)) (.sc (.int k b)) = some (.sc (.int k (k.wrap (BitVec.ofInt k.bits a &&& BitVec.ofInt k.bits b).toNat))) := by cases k <;> rfl
theorem bin_or : binD P .or t xo yo (.sc (.int k a)) (.sc (.int k b)) = some (.sc (.int k (k.wrap (BitVec.ofInt k.bits a ||| BitVec.ofInt k.bits b).toNat))) := by cases k <;> rfl
theorem bin_shl (yk : IntKind) (h : 0 ≤ b) : binD P .shl t xo yo (.sc (.int k a)) (.sc (.int yk b)) = some (.sc (.int k (k.wrap (a * 2 ^ (min b.toNat k.bits))))) := by
  simp [binD, toVal, toVal1, eqGuard, binOp, Op.shift, show ¬ b < 0 by omega]; rfl
theorem bin_shr (yk : IntKind) (h : 0 ≤ b) : binD P .shr t xo yo (.sc (.int k a)) (.sc (.int yk b)) = some (.sc (.int k (a.fdiv (2 ^ (min b.toNat k.bits))))) := by
  simp [binD, toVal, toVal1, eqGuard, binOp, Op.shift, show ¬ b < 0 by omega]; rfl
end bins
section strs
variable (t : TypeId) (xo yo : Operand) (a b : ByteArray)
theorem bin_seql : binD P .eql t xo yo (.sc (.string a)) (.sc (.string b)) = some (.sc (.bool (a.toList == b.toList))) := rfl
theorem bin_sneq : binD P .neq t xo yo (.sc (.string a)) (.sc (.string b)) = some (.sc (.bool (!(a.toList == b.toList)))) := rfl
end strs
theorem un_not (b : Bool) : unD P .not (.sc (.bool b)) = some (.sc (.bool (!b))) := rfl
theorem max_int (ats : Array TypeId) (ty : TypeId) (k : IntKind) (x y : Int) : pureD P (Builtin.max_ ats ty #[.int k x, .int k y]) = some (.sc (.int k (if y > x then y else x))) := rfl
theorem min_int (ats : Array TypeId) (ty : TypeId) (k : IntKind) (x y : Int) : pureD P (Builtin.min_ ats ty #[.int k x, .int k y]) = some (.sc (.int k (if y < x then y else x))) := rfl
end

end Go.Bw

/- The framework, part 16: regions that draw their order. -/
namespace Go.Bw
open Go

section
variable {P : Program} {GL : Nat → D} {n : Nat}

theorem opD_congr {E E' : Nat → D} {S : St} (o : Oper) (h : ∀ x ∈ o.op.operands, rhoD E GL x = rhoD E' GL x) : opD P E GL S o = opD P E' GL S o := by
  obtain ⟨dst, op, type, pos, after, guard⟩ := o
  have pairs : ∀ ps : Array (Nat × Operand), (∀ x ∈ (ps.toList.map (·.2)).toArray, rhoD E GL x = rhoD E' GL x) → (ps.toList.map fun p => (p.1, rhoD E GL p.2)) = ps.toList.map fun p => (p.1, rhoD E' GL p.2) := fun ps hp =>
    List.map_congr_left fun p hm => by
      have := hp p.2 (by simp only [List.mem_toArray, List.mem_map]; exact ⟨p, hm, rfl⟩)
      rw [this]
  have arr : ∀ xs : Array Operand, (∀ x ∈ xs, rhoD E GL x = rhoD E' GL x) → xs.toList.map (rhoD E GL) = xs.toList.map (rhoD E' GL) := fun xs hp =>
    List.map_congr_left fun p hm => hp p (by simpa using hm)
  cases op <;> simp only [Op.operands] at h <;> simp only [opD]
  case build t ps => rw [pairs ps h]
  case buildSlice t k ps => rw [pairs ps h]
  case makeFunc f a b => rw [arr a fun x hx => h x (by simp [hx]), arr b fun x hx => h x (by simp [hx])]
  case call c =>
    cases hc : c.callee with
    | builtin b => simp only [hc]; rw [arr c.args fun x hx => h x (by simp [Call.operands, hx])]
    | _ => rfl
  case slice t x lo hi mx =>
    have hx := h x (by simp)
    cases lo with
    | none => cases hi with
      | none => cases mx <;> simp_all
      | some b => have := h b (by simp); cases mx <;> simp_all
    | some a =>
      have ha := h a (by simp)
      cases hi with
      | none => cases mx <;> simp_all
      | some b => have := h b (by simp); cases mx <;> simp_all
  all_goals (first | rfl | (simp_all; done))

/-- what it yields hangs not on the store, and leaves it as it was -/
def insens (o : Oper) : Bool :=
  match o.op with
  | .move _ | .assign _ | .pick .. | .build .. | .buildSlice .. | .nilCheck _ | .binOp .. | .unOp .. | .makeInterface .. | .makeFunc .. | .fieldAddr .. | .field .. | .indexAddr .. | .index .. | .typeAssert .. | .extract .. => true
  | .slice _ _ _ _ none => true
  | .call c => match c.callee with
    | .builtin .len | .builtin .max | .builtin .min => true
    | _ => false
  | _ => false

theorem map_pair {α : Type} {x : Option α} {S S1 S' : St} {d : α} (h : (x.map fun r => (r, S)) = some (d, S1)) : S1 = S ∧ (x.map fun r => (r, S')) = some (d, S') := by
  cases x with
  | none => simp at h
  | some y => simp at h; exact ⟨h.2.symm, by simp [h.1]⟩

theorem opD_insens {E : Nat → D} {S S1 S' : St} {o : Oper} {d : D} (hi : insens o = true) (h : opD P E GL S o = some (d, S1)) : S1 = S ∧ opD P E GL S' o = some (d, S') := by
  obtain ⟨dst, op, type, pos, after, guard⟩ := o
  cases op <;> simp only [insens, Bool.false_eq_true] at hi <;> simp only [opD] at h ⊢
  case move => simp_all
  case assign => simp_all
  case pick c a b =>
    split at h
    · simp at h; exact ⟨h.2.symm, by simp [h.1]⟩
    · cases h
  case build t ps =>
    split at h
    · rename_i hc; rw [if_pos hc]; exact map_pair h
    · cases h
  case buildSlice => exact map_pair h
  case nilCheck => split at h <;> simp_all
  case binOp => exact map_pair h
  case unOp => exact map_pair h
  case makeInterface => split at h <;> simp_all
  case makeFunc => simp_all
  case fieldAddr => exact map_pair h
  case field => exact map_pair h
  case indexAddr => exact map_pair h
  case index => exact map_pair h
  case typeAssert =>
    split at h
    · rename_i hc; rw [if_pos hc]; exact map_pair h
    · cases h
  case extract => exact map_pair h
  case slice t x lo hi' mx => cases mx <;> simp only [Bool.false_eq_true] at hi ⊢; exact map_pair h
  case call c =>
    cases hc : c.callee with
    | builtin b =>
      simp only [hc] at hi h ⊢
      cases b <;> simp only [Bool.false_eq_true] at hi <;> simp only [bltD] at h ⊢
      · split at h <;> first | exact map_pair h | cases h
      · split at h <;> first | exact map_pair h | cases h
      · split at h <;> first | exact map_pair h | cases h
    | _ => rw [hc] at hi; cases hi

/-- one operation, without a panic, to just this -/
def Op1 (P : Program) (GL : Nat → D) (n : Nat) (E : Nat → D) (S : St) (o : Oper) (d : D) (S' : St) : Prop :=
  ∀ ⦃mb : Nat⦄ (g : G) (a : Act) (w : World), Sim g S w → Env g E a → Glob g GL → a.tmps.size = n → Mk mb g w a.defers →
    o.wp P a w (fun a' w' => ∃ g' v, Keep g g' w w' ∧ Sim g' S' w' ∧ V g' d v ∧ a' = a.put o.dst v) (fun _ _ _ => False)

theorem Op1.of_opD {E : Nat → D} {S S' : St} {o : Oper} {d : D} (h : opD P E GL S o = some (d, S')) : Op1 P GL n E S o d S' := by
  intro mb g a w hs he hg hn hd
  obtain ⟨g', w', nx, q1, q2, q3, q4⟩ := op_does h hs he hg
  unfold Oper.wp
  rw [q1]
  rcases q2 with ⟨v, rfl, hv⟩ | ⟨rfl, rfl⟩
  · rw [Oper.upon_value]; exact ⟨g', v, q4, q3, hv, rfl⟩
  · rw [Oper.upon_skip]; exact ⟨g', undef, q4, q3, .undef, rfl⟩

/-- a call to just this -/
def Call1 (P : Program) (GL : Nat → D) (fd : D) (ds : List D) (S : St) (d : D) (S' : St) : Prop :=
  CallV P GL fd ds S (fun r S1 => r = .ret d ∧ S1 = S')

theorem Op1.of_call {E : Nat → D} {S S' : St} {o : Oper} {d : D} {f : Operand} {args : List Operand} (hc : calleeOf o = some (f, args)) (h : Call1 P GL (rhoD E GL f) (args.map (rhoD E GL)) S d S') : Op1 P GL n E S o d S' := by
  intro mb g a w hs he hg hn hd
  have hfv := rho_V he hg f
  unfold Call1 CallV at h
  split at h
  · rename_i fi first caps hfd
    rw [hfd] at hfv
    cases hev : a.eval f with
    | func fn vs us =>
      rw [hev] at hfv
      cases hfv with
      | fn h1 h2 k1 k2 =>
        unfold Oper.wp
        rw [exec_call hc hev h.1, Oper.upon_enter]
        have hargs : VL g (args.map (rhoD E GL)) (args.map a.eval).toArray := by
          refine ⟨by simp, fun j d hd => ?_⟩
          simp only [List.getElem?_map, Option.map_eq_some_iff] at hd
          obtain ⟨x, hx, rfl⟩ := hd
          have : ((args.map a.eval).toArray).getD j undef = a.eval x := by simp [Array.getD_eq_getD_getElem?, hx]
          rw [this]; exact rho_V he hg x
        refine (h.2 g w _ hs (VL_append (VL_append ⟨h1, k1⟩ hargs) ⟨h2, k2⟩) hg).mono fun e w' ⟨g', S1, l1, l2, l3⟩ => ?_
        cases e with
        | returned v =>
          obtain ⟨d1, q1, q2, q3⟩ := l3
          simp only [R.ret.injEq] at q2
          subst q2 q3
          exact ⟨g', v, l1, l2, q1, rfl⟩
        | panicked c => obtain ⟨v, d1, q1, q2, q3, q4⟩ := l3; cases q3
        | outgrown => exact l3.elim
    | _ => rw [hev] at hfv; cases hfv
  · exact h.elim

/-- an operation under its guard, whatever else stands in the slots -/
def Step1 (P : Program) (GL : Nat → D) (n : Nat) (ops : Array Oper) (E : Nat → D) (S : St) (o : Oper) (d : D) (S' : St) : Prop :=
  match guardD ops E o.guard with
  | some true => ∀ E', (∀ t ∈ o.looksAt ops, E' t = E t) → Op1 P GL n E' S o d S'
  | some false => d = .tup [] ∧ S' = S
  | none => False

theorem rho_looks {E E' : Nat → D} {ops : Array Oper} {o : Oper} (h : ∀ t ∈ o.looksAt ops, E' t = E t) : ∀ x ∈ o.op.operands, rhoD E' GL x = rhoD E GL x := by
  intro x hx
  cases x with
  | tmp t => exact h t (List.mem_append_left _ (List.mem_filterMap.2 ⟨.tmp t, by simpa using hx, rfl⟩))
  | _ => rfl

theorem Op1.opD_all {ops : Array Oper} {E : Nat → D} {S S' : St} {o : Oper} {d : D} (h : opD P E GL S o = some (d, S')) : ∀ E', (∀ t ∈ o.looksAt ops, E' t = E t) → Op1 P GL n E' S o d S' := fun E' hE =>
  .of_opD (by rw [opD_congr o (rho_looks hE)]; exact h)

theorem calleeOf_mem {o : Oper} {f : Operand} {args : List Operand} (hc : calleeOf o = some (f, args)) : (∀ x ∈ args, x ∈ o.op.operands) ∧ f ∈ o.op.operands := by
  unfold calleeOf at hc
  split at hc
  · rename_i c hop
    split at hc
    · rename_i f' hcal
      simp only [Option.some.injEq, Prod.mk.injEq] at hc
      obtain ⟨rfl, rfl⟩ := hc
      rw [hop]
      simp only [Op.operands, Call.operands, hcal]
      exact ⟨fun x hx => by simp at hx ⊢; exact .inr hx, by simp⟩
    · cases hc
  · cases hc

theorem Op1.call_all {ops : Array Oper} {E : Nat → D} {S S' : St} {o : Oper} {d : D} {f : Operand} {args : List Operand} (hc : calleeOf o = some (f, args)) (h : Call1 P GL (rhoD E GL f) (args.map (rhoD E GL)) S d S') :
    ∀ E', (∀ t ∈ o.looksAt ops, E' t = E t) → Op1 P GL n E' S o d S' := fun E' hE => by
  have h1 := rho_looks (GL := GL) hE
  obtain ⟨m1, m2⟩ := calleeOf_mem hc
  refine .of_call hc ?_
  rw [h1 f m2, List.map_congr_left fun x hx => h1 x (m1 x hx)]
  exact h

/-! the checks -/

def dep (ops : Array Oper) (i j : Nat) : Bool :=
  match ops[i]? with
  | some o => o.after.any fun e => Region.binds .any e && e.on == j
  | none => false

/-- at once, or through others -/
def depN (ops : Array Oper) : Nat → Nat → Nat → Bool
  | 0, i, j => dep ops i j
  | n + 1, i, j => dep ops i j || (List.range ops.size).any fun k => dep ops i k && depN ops n k j
def dep2 (ops : Array Oper) (i j : Nat) : Bool := depN ops 4 i j

def dstIs (ops : Array Oper) (j t : Nat) : Bool :=
  match ops[j]? with
  | some o => o.dst == some t
  | none => false

abbrev Plan := List (Nat × Nat × Bool)

/-- in the plan each stands behind what it waits for; each that writes the store waits for those that did before; those that look at the store, and stand before one that writes it, are waited for by it; the first 'lo' of those that write are waited for -/
def ordOk (ops : Array Oper) : Plan → List Nat → List Nat → Bool
  | [], _, _ => true
  | (i, lo, ch) :: rest, done, chs =>
    match ops[i]? with
    | none => false
    | some o =>
      !done.contains i && (o.after.all fun e => !Region.binds .any e || done.contains e.on) &&
      (if ch then chs.all (fun j => dep2 ops i j) else (insens o || (decide (lo ≤ chs.length) && (chs.drop (chs.length - lo)).all (fun j => dep2 ops i j) && rest.all fun x => !x.2.2 || dep2 ops x.1 i))) &&
      ordOk ops rest (i :: done) (if ch then i :: chs else chs)

def looksOk (ops : Array Oper) : Bool :=
  (List.range ops.size).all fun i => match ops[i]? with
    | none => false
    | some o => (o.looksAt ops).all (fun t => (List.range ops.size).all fun j => !dstIs ops j t || (j != i && (dep ops i j || dep ops j i))) &&
        match o.dst with
        | none => true
        | some t => (List.range ops.size).all fun j => j == i || !dstIs ops j t

def planOk (n : Nat) (ops : Array Oper) (plan : Plan) : Bool :=
  dstOk n ops && looksOk ops && ordOk ops plan [] [] && (List.range ops.size).all fun i => plan.any fun x => x.1 == i

end
end Go.Bw

/- The framework, part 17: regions that draw their order, proved. -/
namespace Go.Bw
open Go

section
variable {P : Program} {GL : Nat → D} {n : Nat} {ops : Array Oper} {E0 : Nat → D}

def ov (ops : Array Oper) (E0 r : Nat → D) (dn : Nat → Bool) : Nat → D := fun t =>
  match (List.range ops.size).find? (fun j => dn j && dstIs ops j t) with
  | some j => r j
  | none => E0 t

theorem dstIs_lt {j t : Nat} (h : dstIs ops j t = true) : j < ops.size := by
  unfold dstIs at h
  split at h
  · rename_i o ho; exact (Array.getElem?_eq_some_iff.1 ho).1
  · cases h

def Distinct (ops : Array Oper) : Prop := ∀ i j t, dstIs ops i t = true → dstIs ops j t = true → i = j

theorem ov_of {r : Nat → D} {dn : Nat → Bool} (hd : Distinct ops) {j t : Nat} (h : dstIs ops j t = true) (hj : dn j = true) : ov ops E0 r dn t = r j := by
  unfold ov
  cases hf : (List.range ops.size).find? (fun j => dn j && dstIs ops j t) with
  | none =>
    rw [List.find?_eq_none] at hf
    have := hf j (List.mem_range.2 (dstIs_lt h))
    simp [hj, h] at this
  | some k =>
    have := List.find?_some hf
    simp only [Bool.and_eq_true] at this
    simp only
    rw [hd _ _ _ this.2 h]

theorem ov_not {r : Nat → D} {dn : Nat → Bool} {t : Nat} (h : ∀ j, dstIs ops j t = true → dn j = false) : ov ops E0 r dn t = E0 t := by
  unfold ov
  cases hf : (List.range ops.size).find? (fun j => dn j && dstIs ops j t) with
  | none => rfl
  | some k =>
    have := List.find?_some hf
    simp only [Bool.and_eq_true] at this
    rw [h k this.2] at this
    simp at this

theorem ov_same {r r' : Nat → D} {dn dn' : Nat → Bool} {t : Nat} (h : ∀ j, dstIs ops j t = true → dn j = dn' j ∧ (dn j = true → r j = r' j)) : ov ops E0 r dn t = ov ops E0 r' dn' t := by
  unfold ov
  have : (List.range ops.size).find? (fun j => dn j && dstIs ops j t) = (List.range ops.size).find? (fun j => dn' j && dstIs ops j t) := by
    congr 1
    funext j
    cases hj : dstIs ops j t with
    | false => simp
    | true => rw [(h j hj).1]
  rw [this]
  cases hf : (List.range ops.size).find? (fun j => dn' j && dstIs ops j t) with
  | none => rfl
  | some k =>
    have := List.find?_some hf
    simp only [Bool.and_eq_true] at this
    exact (h k this.2).2 (by rw [(h k this.2).1]; exact this.1)

theorem ov_add {r : Nat → D} {dn dn' : Nat → Bool} (hd : Distinct ops) {i : Nat} {o : Oper} (ho : ops[i]? = some o) (hi : dn' i = true) (hne : ∀ j, j ≠ i → dn' j = dn j) : ov ops E0 r dn' = updO (ov ops E0 r dn) o.dst (r i) := by
  funext t
  by_cases ht : dstIs ops i t = true
  · rw [ov_of hd ht hi]
    have : o.dst = some t := by unfold dstIs at ht; rw [ho] at ht; simpa using ht
    rw [this]
    simp [updO, upd]
  · have hs : ov ops E0 r dn' t = ov ops E0 r dn t := ov_same fun j hj => by
      have : j ≠ i := by rintro rfl; exact ht hj
      exact ⟨hne j this, fun _ => rfl⟩
    rw [hs]
    cases hdst : o.dst with
    | none => rfl
    | some t' =>
      have : t ≠ t' := by rintro rfl; apply ht; unfold dstIs; rw [ho]; simp [hdst]
      simp [updO, upd, this]

/-- what each operation comes to -/
def Cert (P : Program) (GL : Nat → D) (n : Nat) (ops : Array Oper) (E0 r : Nat → D) : Plan → List Nat → List St → List St → Prop
  | [], _, Ss, Sf => Sf = Ss
  | (i, lo, ch) :: rest, done, Ss, Sf => ∃ o, ops[i]? = some o ∧
    if ch = true then ∃ S0 Sr S', Ss = S0 :: Sr ∧ Step1 P GL n ops (ov ops E0 r (fun j => done.contains j)) S0 o (r i) S' ∧ Cert P GL n ops E0 r rest (i :: done) (S' :: Ss) Sf
    else (∀ S', (insens o = true ∨ S' ∈ Ss.take (Ss.length - lo)) → Step1 P GL n ops (ov ops E0 r (fun j => done.contains j)) S' o (r i) S') ∧ Cert P GL n ops E0 r rest (i :: done) Ss Sf

def chOf (plan : Plan) : List Nat := plan.filterMap fun x => if x.2.2 = true then some x.1 else none

/-- what is known of one operation of the plan -/
structure Fact (P : Program) (GL : Nat → D) (n : Nat) (ops : Array Oper) (E0 r : Nat → D) (chl : List Nat) (Sf : List St) (i : Nat) (o : Oper) (done : List Nat) (c : Nat) : Prop where
  ho : ops[i]? = some o
  hni : i ∉ done
  hcl : ∀ j ∈ done, ∀ k, dep ops j k = true → k ∈ done
  hdep : ∀ k, dep ops i k = true → k ∈ done
  hc : c < Sf.length
  step : (chl[c]? = some i ∧ (∀ (q k : Nat), q < c → chl[q]? = some k → dep2 ops i k = true) ∧ ∃ S S', Sf.reverse[c]? = some S ∧ Sf.reverse[c + 1]? = some S' ∧ Step1 P GL n ops (ov ops E0 r (fun j => done.contains j)) S o (r i) S') ∨
    ((∀ (q : Nat), chl[q]? ≠ some i) ∧ ∃ lo, (insens o = true ∨ ((∀ (q k : Nat), q < lo → chl[q]? = some k → dep2 ops i k = true) ∧ lo ≤ c ∧ ∀ (q k : Nat), c ≤ q → chl[q]? = some k → dep2 ops k i = true)) ∧
      ∀ (q : Nat) S, (insens o = true ∨ (lo ≤ q ∧ q ≤ c)) → Sf.reverse[q]? = some S → Step1 P GL n ops (ov ops E0 r (fun j => done.contains j)) S o (r i) S)

theorem dep_iff {i k : Nat} {o : Oper} (ho : ops[i]? = some o) : dep ops i k = true ↔ ∃ e ∈ o.after, Region.binds .any e = true ∧ e.on = k := by
  unfold dep
  rw [ho]
  simp only [Array.any_eq_true', Bool.and_eq_true, beq_iff_eq]

theorem cert_len {r : Nat → D} : ∀ (plan : Plan) (done : List Nat) (Ss Sf : List St), Cert P GL n ops E0 r plan done Ss Sf → ∃ T, Sf = T ++ Ss ∧ T.length = (chOf plan).length
  | [], _, Ss, Sf, h => ⟨[], by simpa [Cert] using h, rfl⟩
  | (i, lo, ch) :: rest, done, Ss, Sf, h => by
    obtain ⟨o, ho, h⟩ := h
    split at h
    · rename_i hch
      obtain ⟨S0, Sr, S', hS, _, h⟩ := h
      obtain ⟨T, h1, h2⟩ := cert_len rest _ _ _ h
      exact ⟨T ++ [S'], by rw [h1]; simp, by simp [chOf, hch] at h2 ⊢; omega⟩
    · rename_i hch
      obtain ⟨T, h1, h2⟩ := cert_len rest _ _ _ h.2
      exact ⟨T, h1, by simp [chOf, hch] at h2 ⊢; omega⟩

theorem facts {r : Nat → D} {chl : List Nat} {Sf : List St} : ∀ (plan : Plan) (done chs : List Nat) (Ss : List St), ordOk ops plan done chs = true → Cert P GL n ops E0 r plan done Ss Sf → (∀ j ∈ done, ∀ k, dep ops j k = true → k ∈ done) →
    chl = chs.reverse ++ chOf plan → Ss.length = chs.length + 1 → (∀ j ∈ chs, j ∈ done) → ∀ x ∈ plan, ∃ o done' c, Fact P GL n ops E0 r chl Sf x.1 o done' c
  | [], _, _, _, _, _, _, _, _, _, x, hx => by cases hx
  | (i, lo, ch) :: rest, done, chs, Ss, ho, hc, hcl, hch, hl, hsub, x, hx => by
    unfold ordOk at ho
    split at ho
    · cases ho
    rename_i o hoi
    simp only [Bool.and_eq_true, Bool.not_eq_true', Array.all_eq_true_iff_forall_mem, Bool.or_eq_true] at ho
    obtain ⟨⟨⟨h1, h2⟩, h3⟩, h4⟩ := ho
    have hni : i ∉ done := by simpa using h1
    have hdep : ∀ k, dep ops i k = true → k ∈ done := fun k hk => by
      obtain ⟨e, he, hb, rfl⟩ := (dep_iff hoi).1 hk
      rcases h2 e he with h | h
      · rw [hb] at h; simp at h
      · simpa using h
    have hcl' : ∀ j ∈ i :: done, ∀ k, dep ops j k = true → k ∈ i :: done := by
      intro j hj k hk
      rcases List.mem_cons.1 hj with rfl | hj
      · exact List.mem_cons_of_mem _ (hdep k hk)
      · exact List.mem_cons_of_mem _ (hcl j hj k hk)
    obtain ⟨o', ho', hc⟩ := hc
    rw [hoi] at ho'
    simp only [Option.some.injEq] at ho'
    subst ho'
    have hrevchs : ∀ (q k : Nat), q < chs.length → chl[q]? = some k → k ∈ chs := fun q k hq hk => by
      rw [hch, List.getElem?_append_left (by simpa using hq)] at hk
      simpa using List.mem_of_getElem? hk
    have hlater : ∀ (q k : Nat), chs.length ≤ q → chl[q]? = some k → k ∈ chOf ((i, lo, ch) :: rest) := fun q k hq hk => by
      rw [hch, List.getElem?_append_right (by simpa using hq)] at hk
      exact List.mem_of_getElem? hk
    have hmemrest : ∀ (pl : Plan) dn cs, ordOk ops pl dn cs = true → ∀ k ∈ chOf pl, k ∉ dn := by
      intro pl
      induction pl with
      | nil => intro dn cs _ k hk; simp [chOf] at hk
      | cons y pl ih =>
        intro dn cs ho k hk
        obtain ⟨i', lo', ch'⟩ := y
        unfold ordOk at ho
        split at ho
        · cases ho
        simp only [Bool.and_eq_true, Bool.not_eq_true'] at ho
        obtain ⟨⟨⟨g1, _⟩, _⟩, g4⟩ := ho
        simp only [chOf, List.filterMap_cons] at hk
        have g1' : i' ∉ dn := by simpa using g1
        split at hk
        · exact fun hh => ih _ _ g4 k hk (List.mem_cons_of_mem _ hh)
        · rename_i b hb
          split at hb
          · simp only [Option.some.injEq] at hb
            subst hb
            rcases List.mem_cons.1 hk with rfl | hk
            · exact g1'
            · exact fun hh => ih _ _ g4 k hk (List.mem_cons_of_mem _ hh)
          · cases hb
    cases ch with
    | true =>
      simp only [if_true] at hc h3 h4
      obtain ⟨S0, Sr, S', hS, hstep, hc⟩ := hc
      subst hS
      obtain ⟨T, hT, hTl⟩ := cert_len _ _ _ _ hc
      rcases List.mem_cons.1 hx with rfl | hx
      · have hS0 : Sf.reverse[chs.length]? = some S0 := by
          rw [hT]
          simp only [List.length_cons] at hl
          have e : (T ++ S' :: S0 :: Sr).reverse = Sr.reverse ++ (S0 :: S' :: T.reverse) := by simp
          rw [e, List.getElem?_append_right (by simp; omega)]
          have : chs.length - Sr.reverse.length = 0 := by simp; omega
          rw [this]; rfl
        have hS1 : Sf.reverse[chs.length + 1]? = some S' := by
          rw [hT]
          simp only [List.length_cons] at hl
          have e : (T ++ S' :: S0 :: Sr).reverse = Sr.reverse ++ (S0 :: S' :: T.reverse) := by simp
          rw [e, List.getElem?_append_right (by simp; omega)]
          have : chs.length + 1 - Sr.reverse.length = 1 := by simp; omega
          rw [this]; rfl
        refine ⟨o, done, chs.length, hoi, hni, hcl, hdep, by rw [hT]; simp at hl ⊢; omega, .inl ⟨?_, ?_, S0, S', hS0, hS1, hstep⟩⟩
        · rw [hch, List.getElem?_append_right (by simp)]; simp [chOf]
        · intro q k hq hk
          simp only [List.all_eq_true] at h3
          exact h3 k (hrevchs q k hq hk)
      · exact facts rest (i :: done) (i :: chs) (S' :: S0 :: Sr) h4 hc hcl' (by rw [hch]; simp [chOf]) (by simp at hl ⊢; omega) (fun j hj => by
          rcases List.mem_cons.1 hj with rfl | hj
          · exact List.mem_cons_self ..
          · exact List.mem_cons_of_mem _ (hsub j hj)) x hx
    | false =>
      simp only [Bool.false_eq_true, if_false] at hc h3 h4
      obtain ⟨hstep, hc⟩ := hc
      obtain ⟨T, hT, hTl⟩ := cert_len _ _ _ _ hc
      rcases List.mem_cons.1 hx with rfl | hx
      · refine ⟨o, done, chs.length, hoi, hni, hcl, hdep, by rw [hT]; simp; omega, .inr ⟨?_, lo, ?_, ?_⟩⟩
        · intro q hq
          rcases Nat.lt_or_ge q chs.length with hlt | hge
          · exact hni (hsub _ (hrevchs q _ hlt hq))
          · have hm := hlater q _ hge hq
            simp only [chOf, List.filterMap_cons, Bool.false_eq_true, if_false] at hm
            exact hmemrest rest _ _ h4 i hm (List.mem_cons_self ..)
        · rw [Bool.or_eq_true] at h3
          rcases h3 with h3 | h3
          · exact .inl h3
          · simp only [Bool.and_eq_true, decide_eq_true_eq, List.all_eq_true, Bool.or_eq_true, Bool.not_eq_true'] at h3
            refine .inr ⟨fun q k hq hk => ?_, h3.1.1, fun q k hq hk => ?_⟩
            · refine h3.1.2 k ?_
              rw [hch, List.getElem?_append_left (by simp; omega)] at hk
              have : chs.drop (chs.length - lo) = (chs.reverse.take lo).reverse := by
                rw [List.take_reverse]; simp
              rw [this, List.mem_reverse]
              exact List.mem_of_getElem? (i := q) (by rw [List.getElem?_take]; simp [hq, hk])
            · have hm := hlater q k hq hk
              simp only [chOf, List.filterMap_cons, Bool.false_eq_true, if_false, List.mem_filterMap] at hm
              obtain ⟨y, hy, hyk⟩ := hm
              split at hyk
              · rename_i hy2
                simp only [Option.some.injEq] at hyk
                subst hyk
                rcases h3.2 y hy with hh | hh
                · rw [hy2] at hh; cases hh
                · exact hh
              · cases hyk
        · intro q S hq hS
          refine hstep S (hq.imp id fun hq => ?_)
          have hrev : Sf.reverse = Ss.reverse ++ T.reverse := by rw [hT]; simp
          rw [hrev, List.getElem?_append_left (by simp; omega)] at hS
          have : Ss.take (Ss.length - lo) = (Ss.reverse.drop lo).reverse := by
            rw [List.drop_reverse]; simp
          rw [this, List.mem_reverse]
          exact List.mem_of_getElem? (i := q - lo) (by rw [List.getElem?_drop]; rw [show lo + (q - lo) = q by omega]; exact hS)
      · exact facts rest (i :: done) chs Ss h4 hc hcl' (by rw [hch]; simp [chOf]) hl (fun j hj => List.mem_cons_of_mem _ (hsub j hj)) x hx

end
end Go.Bw

/- The framework, part 18: regions that draw their order, any order. -/
namespace Go.Bw
open Go

section
variable {P : Program} {GL : Nat → D} {n mb : Nat} {ops : Array Oper} {E0 : Nat → D} {Q : Post}

theorem wp_sure {o : Oper} {a : Act} {w : World} {K K' : Act → World → Prop} {Q' : Exit → Act → World → Prop} (h : o.wp P a w K (fun _ _ _ => False)) (hk : ∀ a w, K a w → K' a w) : o.wp P a w K' Q' := by
  unfold Oper.wp at h ⊢
  generalize (execOp a.eval o).run P w = r at *
  cases r with
  | ok nx w' =>
    cases nx <;> simp only [Oper.upon] at h ⊢ <;> first
      | exact hk _ _ h
      | exact Calls.mono h (fun e w'' he => by
          cases e with
          | returned v => exact hk _ _ he
          | panicked c => exact he.elim
          | outgrown => obtain ⟨_, _, hh⟩ := he; exact hh.elim)
      | exact Rows.mono h (fun _ _ he => hk _ _ he)
  | halt x w' => cases x <;> simp only [Oper.upon] at h ⊢ <;> first | exact h.elim | exact h

theorem ord_nodup : ∀ (pl : Plan) (dn cs : List Nat), ordOk ops pl dn cs = true → (pl.map (·.1)).Nodup ∧ ∀ k ∈ pl.map (·.1), k ∉ dn
  | [], _, _, _ => ⟨List.nodup_nil, fun k hk => by cases hk⟩
  | (i, lo, ch) :: pl, dn, cs, h => by
    unfold ordOk at h
    split at h
    · cases h
    simp only [Bool.and_eq_true, Bool.not_eq_true'] at h
    obtain ⟨⟨⟨h1, _⟩, _⟩, h4⟩ := h
    obtain ⟨k1, k2⟩ := ord_nodup pl _ _ h4
    have h1' : i ∉ dn := by simpa using h1
    refine ⟨List.nodup_cons.2 ⟨fun hh => k2 i hh (List.mem_cons_self ..), k1⟩, fun k hk => ?_⟩
    rcases List.mem_cons.1 hk with rfl | hk
    · exact h1'
    · exact fun hh => k2 k hk (List.mem_cons_of_mem _ hh)

theorem chOf_sub (pl : Plan) : List.Sublist (chOf pl) (pl.map (·.1)) := by
  induction pl with
  | nil => exact List.Sublist.refl _
  | cons x pl ih =>
    simp only [chOf, List.filterMap_cons, List.map_cons]
    split
    · exact ih.cons _
    · rename_i b hb
      split at hb
      · simp only [Option.some.injEq] at hb; subst hb; exact ih.cons_cons _
      · cases hb

theorem ord_all {listed : Array Bool} (hsz : listed.size = ops.size) (hr : Region.ready .any ops listed = []) : ∀ (pl : Plan) (dn cs : List Nat), ordOk ops pl dn cs = true → (∀ j ∈ dn, listed.getD j false = true) → ∀ x ∈ pl, listed.getD x.1 false = true
  | [], _, _, _, _, x, hx => by cases hx
  | (i, lo, ch) :: pl, dn, cs, h, hd, x, hx => by
    unfold ordOk at h
    split at h
    · cases h
    rename_i o ho
    simp only [Bool.and_eq_true, Bool.not_eq_true', Array.all_eq_true_iff_forall_mem, Bool.or_eq_true] at h
    obtain ⟨⟨⟨h1, h2⟩, _⟩, h4⟩ := h
    have hi : i < listed.size := by rw [hsz]; exact (Array.getElem?_eq_some_iff.1 ho).1
    have hL : listed.getD i false = true := by
      cases hb : listed.getD i false with
      | true => rfl
      | false =>
        have : i ∈ Region.ready .any ops listed := by
          refine mem_ready.2 ⟨?_, o, ho, fun e he hbb => ?_⟩
          · simp [hi] at hb ⊢; exact hb
          · rcases h2 e he with h | h
            · rw [hbb] at h; cases h
            · exact hd _ (by simpa using h)
        rw [hr] at this
        cases this
    rcases List.mem_cons.1 hx with rfl | hx
    · exact hL
    · exact ord_all hsz hr pl _ _ h4 (fun j hj => by
        rcases List.mem_cons.1 hj with rfl | hj
        · exact hL
        · exact hd j hj) x hx

theorem guard_same {E E' : Nat → D} {o : Oper} (h : ∀ t ∈ o.looksAt ops, E' t = E t) : guardD ops E' o.guard = guardD ops E o.guard := by
  cases hg : o.guard with
  | none => rfl
  | some gw =>
    obtain ⟨j, want⟩ := gw
    simp only [guardD]
    cases ht : (ops[j]?).bind (·.dst) with
    | none => rfl
    | some t => simp only; rw [h t (by simp [Oper.looksAt, hg, ht])]

theorem looks_spec (h : looksOk ops = true) : Distinct ops ∧ ∀ (i : Nat) (o : Oper), ops[i]? = some o → ∀ t ∈ o.looksAt ops, ∀ j, dstIs ops j t = true → j ≠ i ∧ (dep ops i j = true ∨ dep ops j i = true) := by
  unfold looksOk at h
  simp only [List.all_eq_true, List.mem_range] at h
  constructor
  · intro i j t hi hj
    have hlt := dstIs_lt hi
    have h1 := h i hlt
    unfold dstIs at hi
    split at hi
    · rename_i o ho
      rw [ho] at h1
      have ht : o.dst = some t := by simpa using hi
      simp only [ht, Bool.and_eq_true, List.all_eq_true, List.mem_range, Bool.or_eq_true, beq_iff_eq, Bool.not_eq_true'] at h1
      rcases h1.2 j (dstIs_lt hj) with h2 | h2
      · exact h2.symm
      · rw [hj] at h2; cases h2
    · cases hi
  · intro i o ho t ht j hj
    have h1 := h i (Array.getElem?_eq_some_iff.1 ho).1
    rw [ho] at h1
    simp only [Bool.and_eq_true, List.all_eq_true, List.mem_range, Bool.or_eq_true, Bool.not_eq_true', bne_iff_ne, ne_eq] at h1
    rcases h1.1 t ht j (dstIs_lt hj) with h2 | h2
    · rw [hj] at h2; cases h2
    · exact h2

def unl (ops : Array Oper) (listed : Array Bool) : Nat := (List.range ops.size).countP (fun i => !listed.getD i false)

theorem countP_lt {α : Type} {p q : α → Bool} : ∀ {l : List α} {x : α}, x ∈ l → (∀ y, q y = true → p y = true) → p x = true → q x = false → l.countP q + 1 ≤ l.countP p
  | [], x, hx, _, _, _ => by cases hx
  | y :: l, x, hx, h, h1, h2 => by
    have hle : l.countP q ≤ l.countP p := List.countP_mono_left fun z _ => h z
    simp only [List.countP_cons]
    rcases List.mem_cons.1 hx with rfl | hx
    · simp [h1, h2]; omega
    · have := countP_lt hx h h1 h2
      cases hq : q y with
      | false => simp; omega
      | true => simp [h y hq]; omega

theorem unl_set {listed : Array Bool} (hsz : listed.size = ops.size) {i : Nat} (hi : i < ops.size) (hL : listed.getD i false = false) : unl ops (listed.setIfInBounds i true) + 1 ≤ unl ops listed := by
  unfold unl
  refine countP_lt (x := i) (List.mem_range.2 hi) ?_ (by rw [hL]; rfl) (by simp [hsz, hi])
  intro y hy
  by_cases h : i = y
  · subst h; simp [hsz, hi] at hy
  · rw [getD_set_ne false h] at hy; exact hy

theorem draw_wp {r : Nat → D} {plan : Plan} {Sf : List St} {g0 : G} {w0 : World} (hdst : dstOk n ops = true) (hlooks : looksOk ops = true) (hord : ordOk ops plan [] [] = true) (hall : ∀ i, i < ops.size → ∃ x ∈ plan, x.1 = i)
    (hlen : Sf.length = (chOf plan).length + 1) (hf : ∀ x ∈ plan, ∃ o done' c, Fact P GL n ops E0 r (chOf plan) Sf x.1 o done' c)
    (hK : ∀ S, Sf.reverse[(chOf plan).length]? = some S → Q .normal (ov ops E0 r (fun i => decide (i < ops.size))) S) :
    ∀ (fuel : Nat) (listed : Array Bool) (g : G) (a : Act) (w : World) (p : Nat) (S : St), listed.size = ops.size → (∀ i k, listed.getD i false = true → dep ops i k = true → listed.getD k false = true) →
      (∀ (q i : Nat), (chOf plan)[q]? = some i → (listed.getD i false = true ↔ q < p)) → p ≤ (chOf plan).length → Sf.reverse[p]? = some S → Sim g S w → Env g (ov ops E0 r (fun i => listed.getD i false)) a → Glob g GL →
      a.tmps.size = n → Mk mb g w a.defers → Keep g0 g w0 w → unl ops listed ≤ fuel → wpAny P .any ops (Lift n mb g0 w0 Q) fuel listed a w := by
  obtain ⟨hdist, hlook⟩ := looks_spec hlooks
  have hndp : (chOf plan).Nodup := List.Nodup.sublist (chOf_sub plan) (ord_nodup plan _ _ hord).1
  have finish : ∀ (listed : Array Bool) (g : G) (a : Act) (w : World) (p : Nat) (S : St), listed.size = ops.size → (∀ i, i < ops.size → listed.getD i false = true) →
      (∀ (q i : Nat), (chOf plan)[q]? = some i → (listed.getD i false = true ↔ q < p)) → p ≤ (chOf plan).length → Sf.reverse[p]? = some S → Sim g S w → Env g (ov ops E0 r (fun i => listed.getD i false)) a →
      a.tmps.size = n → Mk mb g w a.defers → Keep g0 g w0 w → Lift n mb g0 w0 Q .normal a w := by
    intro listed g a w p S hsz hL hch hp hS hs he hn hd hk
    have hp' : p = (chOf plan).length := by
      rcases Nat.lt_or_ge p (chOf plan).length with hlt | hge
      · have hget : (chOf plan)[p]? = some (chOf plan)[p] := by simp [hlt]
        have hm := (chOf_sub plan).subset (List.mem_of_getElem? hget)
        have hin : (chOf plan)[p] < ops.size := by
          simp only [List.mem_map] at hm
          obtain ⟨x, hx, hxe⟩ := hm
          obtain ⟨o, _, _, F⟩ := hf x hx
          rw [← hxe]; exact (Array.getElem?_eq_some_iff.1 F.ho).1
        have := (hch p _ hget).1 (hL _ hin)
        omega
      · omega
    subst hp'
    have hov : ov ops E0 r (fun i => listed.getD i false) = ov ops E0 r (fun i => decide (i < ops.size)) := by
      funext t
      exact ov_same fun j hj => ⟨by rw [hL j (dstIs_lt hj)]; simp [dstIs_lt hj], fun _ => rfl⟩
    exact ⟨g, _, S, .normal, hk, hs, hov ▸ he, hn, hd, trivial, hK S hS⟩
  intro fuel
  induction fuel with
  | zero =>
    intro listed g a w p S hsz hcl hch hp hS hs he hg hn hd hk hfu
    have hL : ∀ i, i < ops.size → listed.getD i false = true := by
      intro i hi
      cases hb : listed.getD i false with
      | true => rfl
      | false => have := unl_set hsz hi hb; omega
    refine ⟨?_, finish listed g a w p S hsz hL hch hp hS hs he hn hd hk⟩
    cases hr : Region.ready .any ops listed with
    | nil => rfl
    | cons x xs =>
      have hx : x ∈ Region.ready .any ops listed := by rw [hr]; exact List.mem_cons_self ..
      obtain ⟨h0, o, ho, _⟩ := mem_ready.1 hx
      have hlt := (Array.getElem?_eq_some_iff.1 ho).1
      have := hL x hlt
      simp [hsz, hlt] at h0 this
      rw [h0] at this
      cases this
  | succ fuel ih =>
    intro listed g a w p S hsz hcl hch hp hS hs he hg hn hd hk hfu
    refine ⟨fun hr => finish listed g a w p S hsz (fun i hi => by
      obtain ⟨x, hx, rfl⟩ := hall i hi
      exact ord_all hsz hr plan [] [] hord (fun j hj => by cases hj) x hx) hch hp hS hs he hn hd hk, fun i hi => ?_⟩
    obtain ⟨h0, o, ho, hready⟩ := mem_ready.1 hi
    have hlt := (Array.getElem?_eq_some_iff.1 ho).1
    have hLi : listed.getD i false = false := by simp [hsz, hlt] at h0 ⊢; exact h0
    have hdepL : ∀ k, dep ops i k = true → listed.getD k false = true := fun k hk => by
      obtain ⟨e, he, hb, rfl⟩ := (dep_iff ho).1 hk
      exact hready e he hb
    have hthruN : ∀ n j k, listed.getD j false = true → depN ops n j k = true → listed.getD k false = true := fun n => by
      induction n with
      | zero => intro j k hj hk; exact hcl j k hj hk
      | succ n ih =>
        intro j k hj hk
        simp only [depN, Bool.or_eq_true, List.any_eq_true, Bool.and_eq_true] at hk
        rcases hk with hk | ⟨m, _, h1, h2⟩
        · exact hcl j k hj hk
        · exact ih m k (hcl j m hj h1) h2
    have hthru : ∀ j k, listed.getD j false = true → dep2 ops j k = true → listed.getD k false = true := fun j k hj hk => hthruN 4 j k hj hk
    have hdep2L : ∀ k, dep2 ops i k = true → listed.getD k false = true := fun k hk => by
      unfold dep2 at hk
      simp only [depN, Bool.or_eq_true, List.any_eq_true, Bool.and_eq_true] at hk
      rcases hk with hk | ⟨m, _, h1, h2⟩
      · exact hdepL k hk
      · exact hthruN 3 m k (hdepL m h1) (by simp only [depN, Bool.or_eq_true, List.any_eq_true, Bool.and_eq_true]; exact h2)
    obtain ⟨x, hx, hxi⟩ := hall i hlt
    obtain ⟨o', done, c, F⟩ := hf x hx
    rw [hxi] at F
    have hoo : o' = o := by have := F.ho; rw [ho] at this; simpa using this.symm
    subst hoo
    -- what it looks at
    have hagree : ∀ t ∈ o'.looksAt ops, ov ops E0 r (fun i => listed.getD i false) t = ov ops E0 r (fun j => done.contains j) t := by
      intro t ht
      refine ov_same fun j hj => ⟨?_, fun _ => rfl⟩
      obtain ⟨hne, hdd⟩ := hlook i o' ho t ht j hj
      rcases hdd with hdd | hdd
      · rw [hdepL j hdd]; have := F.hdep j hdd; simp [this]
      · have h1 : listed.getD j false = false := by
          cases hb : listed.getD j false with
          | false => rfl
          | true => have := hcl j i hb hdd; rw [hLi] at this; cases this
        have h2 : j ∉ done := fun hjd => F.hni (F.hcl j hjd i hdd)
        rw [h1]; simp [h2]
    have hdo : ∀ t, o'.dst = some t → t < a.tmps.size := by
      intro t ht
      unfold dstOk at hdst
      rw [Array.all_eq_true_iff_forall_mem] at hdst
      have := hdst o' (Array.mem_of_getElem? ho)
      rw [ht] at this
      simpa [hn] using this
    have hset : ∀ k, (listed.setIfInBounds i true).getD k false = if k = i then true else listed.getD k false := by
      intro k
      by_cases h : k = i
      · subst h; simp [hsz, hlt]
      · rw [getD_set_ne false (Ne.symm h), if_neg h]
    have hcl' : ∀ j k, (listed.setIfInBounds i true).getD j false = true → dep ops j k = true → (listed.setIfInBounds i true).getD k false = true := by
      intro j k hj hjk
      rw [hset] at hj ⊢
      split
      · rfl
      · split at hj
        · rename_i h; subst h; exact hdepL k hjk
        · exact hcl j k hj hjk
    have hfu' : unl ops (listed.setIfInBounds i true) ≤ fuel := by have := unl_set hsz hlt hLi; omega
    -- what comes behind it
    have go : ∀ (S1 S' : St) (p' : Nat), S = S1 → Step1 P GL n ops (ov ops E0 r (fun j => done.contains j)) S1 o' (r i) S' → Sf.reverse[p']? = some S' → p' ≤ (chOf plan).length →
        (∀ (q k : Nat), (chOf plan)[q]? = some k → ((listed.setIfInBounds i true).getD k false = true ↔ q < p')) →
        wpOp P ops (Lift n mb g0 w0 Q) i (wpAny P .any ops (Lift n mb g0 w0 Q) fuel (listed.setIfInBounds i true)) a w := by
      intro S1 S' p' hSS hstep hS' hp' hch'
      subst hSS
      unfold wpOp
      simp only [ho]
      have hnext : ∀ g' w' v, Keep g g' w w' → Sim g' S' w' → V g' (r i) v → wpAny P .any ops (Lift n mb g0 w0 Q) fuel (listed.setIfInBounds i true) (a.put o'.dst v) w' := by
        intro g' w' v k1 k2 k3
        refine ih _ g' _ w' p' S' (by simp [hsz]) hcl' hch' hp' hS' k2 ?_ (hg.mono k1.le) (by rw [put_size]; exact hn) (by rw [put_defers]; exact hd.keep k1) (hk.trans k1) hfu'
        rw [ov_add (dn := fun k => listed.getD k false) hdist ho (by rw [hset]; simp) (fun j hj => by rw [hset, if_neg hj])]
        exact (he.mono k1.le).put k3 hdo
      unfold Step1 at hstep
      rw [← guard_same hagree] at hstep
      split at hstep
      · rename_i hgd
        rw [if_pos (guard_wanted he hgd)]
        exact .inl (wp_sure (hstep _ hagree g a w hs he hg hn hd) fun a' w' ⟨g', v, k1, k2, k3, k4⟩ => by rw [k4]; exact hnext g' w' v k1 k2 k3)
      · rename_i hgd
        have := guard_wanted he hgd
        rw [if_neg (by rw [this]; simp)]
        obtain ⟨h1, h2⟩ := hstep
        subst h2
        exact hnext g w undef (.refl _ _) hs (by rw [h1]; exact V_tup0 g)
      · exact hstep.elim
    rcases F.step with ⟨s1, s2, S1, S', s3, s4, s5⟩ | ⟨s1, lo, s2, s3⟩
    · -- one that writes the store
      have hpc : p = c := by
        have h1 : ¬ c < p := fun h => by have := (hch c i s1).2 h; rw [hLi] at this; cases this
        rcases Nat.lt_or_ge p c with h2 | h2
        · have hcl2 : c < (chOf plan).length := (List.getElem?_eq_some_iff.1 s1).1
          have hget : (chOf plan)[p]? = some ((chOf plan)[p]'(by omega)) := by simp
          have := (hch p _ hget).1 (hdep2L _ (s2 p _ h2 hget))
          omega
        · omega
      subst hpc
      have hSS : S = S1 := by rw [hS] at s3; simpa using s3
      have hcl2 : p < (chOf plan).length := (List.getElem?_eq_some_iff.1 s1).1
      refine go S1 S' (p + 1) hSS s5 s4 (by omega) fun q k hq => ?_
      rw [hset]
      split
      · rename_i hki
        subst hki
        have : q = p := by
          have e1 := List.getElem?_eq_some_iff.1 hq
          have e2 := List.getElem?_eq_some_iff.1 s1
          obtain ⟨l1, e1⟩ := e1
          obtain ⟨l2, e2⟩ := e2
          exact (List.getElem_inj hndp).1 (e1.trans e2.symm)
        subst this
        simp
      · rename_i hki
        rw [hch q k hq]
        have : q ≠ p := by rintro rfl; rw [hq] at s1; simp at s1; exact hki s1
        omega
    · -- one that does not
      refine go S S p rfl (s3 p S ?_ hS) hS hp fun q k hq => ?_
      · rcases s2 with s2 | ⟨t1, t2, t3⟩
        · exact .inl s2
        · have hcl2 := F.hc
          refine .inr ⟨?_, ?_⟩
          · rcases Nat.lt_or_ge p lo with h2 | h2
            · have hget : (chOf plan)[p]? = some ((chOf plan)[p]'(by omega)) := by simp
              have := (hch p _ hget).1 (hdep2L _ (t1 p _ h2 hget))
              omega
            · exact h2
          · rcases Nat.lt_or_ge c p with h2 | h2
            · have hget : (chOf plan)[c]? = some ((chOf plan)[c]'(by omega)) := by simp
              have h3 := (hch c _ hget).2 h2
              have := hthru _ _ h3 (t3 c _ (Nat.le_refl _) hget)
              rw [hLi] at this
              cases this
            · exact h2
      · rw [hset]
        split
        · rename_i hki; subst hki; exact absurd hq (s1 q)
        · exact hch q k hq

/-- in any order -/
def AnyT (P : Program) (GL : Nat → D) (n : Nat) (ops : Array Oper) (E : Nat → D) (S : St) (Q : Post) : Prop :=
  ∀ ⦃mb : Nat⦄ (g : G) (a : Act) (w : World), Sim g S w → Env g E a → Glob g GL → a.tmps.size = n → Mk mb g w a.defers → wpAny P .any ops (Lift n mb g w Q) ops.size (Array.replicate ops.size false) a { w with drawn := w.drawn + 1 }

/-- A REGION THAT DRAWS ITS ORDER, by what each operation comes to -/
theorem any_cert {r : Nat → D} {plan : Plan} {S : St} {Sf : List St} (hp : planOk n ops plan = true) (hc : Cert P GL n ops E0 r plan [] [S] Sf)
    (hK : ∀ S', Sf.head? = some S' → Q .normal (ov ops E0 r (fun i => decide (i < ops.size))) S') : AnyT P GL n ops E0 S Q := by
  unfold planOk at hp
  simp only [Bool.and_eq_true, List.all_eq_true, List.mem_range] at hp
  obtain ⟨⟨⟨h1, h2⟩, h3⟩, h4⟩ := hp
  intro mb g a w hs he hg hn hd
  obtain ⟨T, hT, hTl⟩ := cert_len _ _ _ _ hc
  have hlen : Sf.length = (chOf plan).length + 1 := by rw [hT]; simp [hTl]
  have hall : ∀ i, i < ops.size → ∃ x ∈ plan, x.1 = i := fun i hi => by
    have := h4 i hi
    simpa using this
  have hf0 : ∀ i, (Array.replicate ops.size false).getD i false = false := fun i => by
    by_cases h : i < ops.size <;> simp [h]
  refine draw_wp (g0 := g) (w0 := w) h1 h2 h3 hall hlen (facts plan [] [] [S] h3 hc (fun j hj => by cases hj) (by simp) rfl (fun j hj => by cases hj)) ?_ ops.size _ g a _ 0 S (by simp) ?_ ?_ (by omega) ?_ (hs.ofHeap rfl) ?_ hg hn hd ?_ ?_
  · intro S' hS'
    refine hK S' ?_
    rw [List.getElem?_reverse (by omega)] at hS'
    rw [List.head?_eq_getElem?, ← hS']
    congr 1
    omega
  · intro i k hi; rw [hf0] at hi; cases hi
  · intro q i _; rw [hf0]; simp
  · rw [hT]; simp
  · have : ov ops E0 r (fun i => (Array.replicate ops.size false).getD i false) = E0 := by
      funext t; exact ov_not fun j _ => hf0 j
    rw [this]; exact he
  · exact ⟨.refl _, Nat.le_refl _, fun _ _ _ => rfl, fun _ _ h => .inl h, fun i v _ n h => .inr ⟨i, v, n, h⟩, rfl, rfl, rfl⟩
  · unfold unl
    exact Nat.le_trans (List.countP_le_length) (by simp)


end
end Go.Bw
