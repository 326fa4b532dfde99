/- The evaluator, and that it is sound. -/
import Derived.Test.YtmhpipnapobbiaaGreatDoorRRRREval1
set_option linter.unusedSimpArgs false
set_option linter.unusedVariables false
/- The evaluator, part 11: the set of the walk. -/
namespace Go.Bw
open Go

theorem look_nil {α : Type} (i : Nat) : look ([] : List (Nat × α)) i = none := nr rfl
theorem look_cons {α : Type} (k : Nat) (x : α) (r : List (Nat × α)) (i : Nat) : look ((k, x) :: r) i = if i = k then some x else look r i := nr rfl
theorem tidyK_some {m0 : Nat} {ks : List Nat} {l : Fr} {es : Sto} : tidyK m0 (some ks) l es = tidy m0 ks l es := nr rfl
theorem tidyK_none {m0 : Nat} {l : Fr} {es : Sto} : tidyK m0 none l es = some (l, es) := nr rfl
theorem tidyR_some {ks : List Nat} {acc : List Nat} {ds : List D} {es : Sto} : tidyR ks (some (acc, ds, es)) = some (ks.zip ds, es) := nr rfl
theorem finR_some {mk : D → R} {acc : List Nat} {d : D} {ds : List D} {es : Sto} : finR mk (some (acc, d :: ds, es)) = some (mk d, es) := nr rfl
theorem finD_some {frz : Bool} {m0 : Nat} {es : Sto} {rs : List D} : finD frz m0 es (some rs) = finR .ret (finF frz m0 (retD rs) es) := nr rfl
theorem finF_false {m0 : Nat} {d : D} {es : Sto} : finF false m0 d es = gcA m0 [d] es := nr rfl
theorem finF_true {m0 : Nat} {d : D} {es : Sto} : finF true m0 d es = gcA m0 [(frzN es (fromB m0) 20 d).can] (frzSto es (fromB m0) 20) := nr rfl
theorem gdL_some {l : Fr} {w : Bool} {t : Tmp} : gdL l w (some t) = gv (ofL l t) w := nr rfl
theorem setO_some (l : Fr) (t : Tmp) (d : D) : setO l (some t) d = (t, d) :: l := nr rfl
theorem setO_none (l : Fr) (d : D) : setO l none d = l := nr rfl
theorem rOf_some (d : D) (es : Sto) : rOf (some (d, es)) = some (.ret d, es) := nr rfl
section
variable {P : Program} {GL : Nat → D} {C : Orc} {fz : List Nat} {E : Nat → D} {es : Sto} {dst : Option Tmp} {ty : TypeId} {ps : String} {af : Array Edge} {g : Option (Nat × Bool)}
theorem ex_call {f : Operand} {args : Array Operand} {ats : Array TypeId} : exOp P GL C [] E es ⟨dst, .call ⟨.value f, args, ats⟩, ty, ps, af, g⟩ = callV C (rhoD E GL f) (args.toList.map (rhoD E GL)) es := nr rfl
theorem ex_callF {f : Operand} {args : Array Operand} {ats : Array TypeId} {a : Nat} {l : List Nat} : exOp P GL C (a :: l) E es ⟨dst, .call ⟨.value f, args, ats⟩, ty, ps, af, g⟩ = callB C (brw (a :: l) dst) (rhoD E GL f) (args.toList.map (rhoD E GL)) es := nr rfl
theorem brw_nil (d : Option Tmp) : brw [] d = false := nr rfl
theorem brw_none (l : List Nat) : brw l none = false := nr (by cases l <;> rfl)
theorem brw_cons (a t : Nat) (l : List Nat) : brw (a :: l) (some t) = if t = a then true else brw l (some t) := nr rfl
theorem callB_false {fd : D} {ds : List D} : callB C false fd ds es = callV C fd ds es := nr rfl
theorem callB_true {fd : D} {ds : List D} : callB C true fd ds es = brwR es (callV C (frzN es allF 20 fd) (ds.map (frzN es allF 20)) (frzSto es allF 20)) := nr rfl
theorem callB_congr {b b' : Bool} {fd : D} {ds : List D} (h : b = b') : callB C b fd ds es = callB C b' fd ds es := by rw [h]
theorem brwR_some {d : D} {e1 : Sto} : brwR es (some (.ret d, e1)) = if d.mf = true then some (.ret d, es) else none := nr rfl
theorem allF_eq (i : Nat) : allF i = true := nr rfl
theorem ex_panic {x : Operand} : exOp P GL C fz E es ⟨dst, .panic x, ty, ps, af, g⟩ = panR (rhoD E GL x) es := nr rfl
theorem panR_ifc {t : TypeId} {d : D} : panR (.ifc t d) es = some (.pan (.ifc t d), es) := nr rfl
theorem udR_some (v : Nat) (ob : List D) : udR (some ⟨v, ob⟩) = some ⟨v, ob.map fun _ => .undef⟩ := nr rfl
theorem udR_none : udR none = none := nr rfl
theorem cnsR_pan {m0 : Nat} {d : D} {e1 : Sto} : cnsR m0 (some (.pan d, e1)) = some (.pan d, e1) := nr rfl
theorem cnsR_nils {m0 : Nat} {e1 : Sto} : cnsR m0 (some (.ret .nils, e1)) = some (.ret .nils, e1) := nr rfl
theorem cnsR_ref {m0 i v sz off n : Nat} {e1 : Sto} : cnsR m0 (some (.ret (.ref i v sz off n), e1)) = if m0 = 1 then cnsE sz off n i v (rowOf e1 i) else some (.ret (.ref i v sz off n), e1) := nr rfl
theorem cnsE_some {i v sz off n v' : Nat} {ob : List D} : cnsE sz off n i v (some ⟨v', ob⟩) = if v' = v ∧ D.refsL ob = [] then some (.ret (.ref 0 1 sz off n), [some ⟨1, ob⟩]) else none := nr rfl
theorem ex_box {t : TypeId} {x : Operand} {tm : Tmp} : exOp P GL C fz E es ⟨some tm, .box t x, ty, ps, af, g⟩ = if tm ∈ fz then (if (rhoD E GL x).cells.all D.one = true then some (.ret (.rp (rhoD E GL x).cells), es) else none) else (if (rhoD E GL x).cells.all D.one = true then some (.ret (.ptr es.length 0 0), es ++ [some ⟨0, (rhoD E GL x).cells⟩]) else none) := by
  unfold exOp
  simp only [calleeOf, panicOf, frozenOf, ownOp]
  by_cases h : tm ∈ fz
  · simp only [if_pos h]
  · simp only [if_neg h, opL, opD]
    by_cases h2 : (rhoD E GL x).cells.all D.one = true
    · simp only [if_pos h2, Option.map_some, rOf_some, stL_next, stL_new, toL_stL]
    · simp only [if_neg h2, Option.map_none]; rfl
theorem ex_alloc {t : TypeId} : exOp P GL C fz E es ⟨dst, .alloc t, ty, ps, af, g⟩ = (match zeroD P t with | some z => some (.ret (.ptr es.length 0 0), es ++ [some ⟨0, z⟩]) | none => none) := by
  unfold exOp
  simp only [calleeOf, panicOf, frozenOf, ownOp, opL, opD]
  cases zeroD P t with
  | none => rfl
  | some z => simp only [Option.map_some, rOf_some, stL_next, stL_new, toL_stL]
def pureO (es : Sto) (x : Option D) : Option (R × Sto) := match x with | some d => some (.ret d, es) | none => none
theorem pureO_some (es : Sto) (d : D) : pureO es (some d) = some (.ret d, es) := nr rfl
theorem rOf_map (x : Option D) : rOf ((x.map fun r => (r, stL es)).map fun x => (x.1, toL x.2)) = pureO es x := by
  cases x with
  | none => rfl
  | some d => simp only [Option.map_some, rOf_some, toL_stL, pureO]
theorem ex_look {t : TypeId} {x i : Operand} {ok : Bool} : exOp P GL C fz E es ⟨dst, .lookup t x i ok, ty, ps, af, g⟩ = pureO es (lookD P t (rhoD E GL x) (rhoD E GL i) ok) := by
  unfold exOp; simp only [calleeOf, panicOf, frozenOf, ownOp, opL, opD]
  cases lookD P t (rhoD E GL x) (rhoD E GL i) ok with
  | none => rfl
  | some d => simp only [Option.map_some, rOf_some, toL_stL, pureO]
theorem ex_move {x : Operand} : exOp P GL C fz E es ⟨dst, .move x, ty, ps, af, g⟩ = some (.ret (rhoD E GL x), es) := by
  unfold exOp; simp only [calleeOf, panicOf, frozenOf, ownOp, opL, opD, Option.map_some, rOf_some, toL_stL]
theorem ex_assign {x : Operand} : exOp P GL C fz E es ⟨dst, .assign x, ty, ps, af, g⟩ = some (.ret (rhoD E GL x), es) := by
  unfold exOp; simp only [calleeOf, panicOf, frozenOf, ownOp, opL, opD, Option.map_some, rOf_some, toL_stL]
def pickD (c a b : D) : Option D := match c with | .sc (.bool t) => some (if t = true then a else b) | _ => none
theorem pickD_true (a b : D) : pickD (.sc (.bool true)) a b = some a := nr rfl
theorem pickD_false (a b : D) : pickD (.sc (.bool false)) a b = some b := nr rfl
theorem pickD_sym (t : Bool) (a b : D) : pickD (.sc (.bool t)) a b = some (if t = true then a else b) := nr rfl
theorem ex_pick {c a b : Operand} : exOp P GL C fz E es ⟨dst, .pick c a b, ty, ps, af, g⟩ = pureO es (pickD (rhoD E GL c) (rhoD E GL a) (rhoD E GL b)) := by
  unfold exOp; simp only [calleeOf, panicOf, frozenOf, ownOp, opL, opD, pickD]
  generalize rhoD E GL c = dc
  cases dc <;> try rfl
  rename_i v
  cases v <;> first | rfl | (simp only [Option.map_some, rOf_some, toL_stL, pureO])
theorem ex_load {t : TypeId} {x : Operand} : exOp P GL C fz E es ⟨dst, .load t x, ty, ps, af, g⟩ = pureO es (ldD P (stL es) t (rhoD E GL x)) := by
  unfold exOp; simp only [calleeOf, panicOf, frozenOf, ownOp, opL, opD]; exact rOf_map _
theorem ex_store {t : TypeId} {x y : Operand} : exOp P GL C fz E es ⟨dst, .store t x y, ty, ps, af, g⟩ = (match stD P (stL es) t (rhoD E GL y) (rhoD E GL x) with | some S' => some (.ret .undef, toL S') | none => none) := by
  unfold exOp; simp only [calleeOf, panicOf, frozenOf, ownOp, opL, opD]
  cases stD P (stL es) t (rhoD E GL y) (rhoD E GL x) <;> rfl
theorem ex_bin {op : BinOp} {t : TypeId} {x y : Operand} {t2 : TypeId} : exOp P GL C fz E es ⟨dst, .binOp op t x y t2, ty, ps, af, g⟩ = pureO es (binD P op t x y (rhoD E GL x) (rhoD E GL y)) := by
  unfold exOp; simp only [calleeOf, panicOf, frozenOf, ownOp, opL, opD]; exact rOf_map _
theorem ex_un {op : UnOp} {t : TypeId} {x : Operand} : exOp P GL C fz E es ⟨dst, .unOp op t x, ty, ps, af, g⟩ = pureO es (unD P op (rhoD E GL x)) := by
  unfold exOp; simp only [calleeOf, panicOf, frozenOf, ownOp, opL, opD]; exact rOf_map _
theorem ex_fa {s : TypeId} {x : Operand} {f : Nat} : exOp P GL C fz E es ⟨dst, .fieldAddr s x f, ty, ps, af, g⟩ = pureO es (faD P s f (rhoD E GL x)) := by
  unfold exOp; simp only [calleeOf, panicOf, frozenOf, ownOp, opL, opD]; exact rOf_map _
theorem ex_fd {s : TypeId} {x : Operand} {f : Nat} : exOp P GL C fz E es ⟨dst, .field s x f, ty, ps, af, g⟩ = pureO es (fdD P s f (rhoD E GL x)) := by
  unfold exOp; simp only [calleeOf, panicOf, frozenOf, ownOp, opL, opD]; exact rOf_map _
theorem ex_ia {t : TypeId} {x i : Operand} : exOp P GL C fz E es ⟨dst, .indexAddr t x i, ty, ps, af, g⟩ = pureO es (iaD P t (rhoD E GL x) (rhoD E GL i)) := by
  unfold exOp; simp only [calleeOf, panicOf, frozenOf, ownOp, opL, opD]; exact rOf_map _
theorem ex_ix {t : TypeId} {x i : Operand} : exOp P GL C fz E es ⟨dst, .index t x i, ty, ps, af, g⟩ = pureO es (ixD P t (rhoD E GL x) (rhoD E GL i)) := by
  unfold exOp; simp only [calleeOf, panicOf, frozenOf, ownOp, opL, opD]; exact rOf_map _
theorem ex_ext {x : Operand} {i : Nat} : exOp P GL C fz E es ⟨dst, .extract x i, ty, ps, af, g⟩ = pureO es (exD (rhoD E GL x) i) := by
  unfold exOp; simp only [calleeOf, panicOf, frozenOf, ownOp, opL, opD]; exact rOf_map _
theorem ex_slice {t : TypeId} {x : Operand} {lo hi : Option Operand} : exOp P GL C fz E es ⟨dst, .slice t x lo hi none, ty, ps, af, g⟩ = pureO es (slD P t (rhoD E GL x) (lo.map (rhoD E GL)) (hi.map (rhoD E GL))) := by
  unfold exOp; simp only [calleeOf, panicOf, frozenOf, ownOp, opL, opD]; exact rOf_map _
theorem ex_fn {f : Fn} {a b : Array Operand} : exOp P GL C fz E es ⟨dst, .makeFunc f a b, ty, ps, af, g⟩ = some (.ret (.fn f (a.toList.map (rhoD E GL)) (b.toList.map (rhoD E GL))), es) := by
  unfold exOp; simp only [calleeOf, panicOf, frozenOf, ownOp, opL, opD, Option.map_some, rOf_some, toL_stL]
theorem ex_nil {x : Operand} : exOp P GL C fz E es ⟨dst, .nilCheck x, ty, ps, af, g⟩ = if nilOk (rhoD E GL x) = true then some (.ret (rhoD E GL x), es) else none := by
  unfold exOp; simp only [calleeOf, panicOf, frozenOf, ownOp, opL, opD]
  split <;> simp only [Option.map_some, Option.map_none, rOf_some, toL_stL] <;> rfl
theorem ex_bs {t : TypeId} {n : Nat} {pa : Array (Nat × Operand)} {tm : Tmp} : exOp P GL C fz E es ⟨some tm, .buildSlice t n pa, ty, ps, af, g⟩ = if tm ∈ fz then rOf ((bsRowD P (stL es) t n (pa.toList.map fun p => (p.1, rhoD E GL p.2))).map fun x => (x.1, toL x.2)) else pureO es (buildSliceD P t n (pa.toList.map fun p => (p.1, rhoD E GL p.2))) := by
  unfold exOp; simp only [calleeOf, panicOf, frozenOf, ownOp, opL, opD]
  by_cases h : tm ∈ fz
  · simp only [if_pos h]
  · simp only [if_neg h]; exact rOf_map _
theorem ex_build {t : TypeId} {pa : Array (Nat × Operand)} : exOp P GL C fz E es ⟨dst, .build t pa, ty, ps, af, g⟩ = if fieldsOk P t = true then pureO es (buildD P t (pa.toList.map fun p => (p.1, rhoD E GL p.2))) else none := by
  unfold exOp; simp only [calleeOf, panicOf, frozenOf, ownOp, opL, opD]
  split
  · exact rOf_map _
  · rfl
theorem ex_conv {s t : TypeId} {x : Operand} {tm : Tmp} : exOp P GL C fz E es ⟨some tm, .convert s t x, ty, ps, af, g⟩ = if tm ∈ fz then rOf ((cvRowD P (stL es) s t (rhoD E GL x)).map fun d => (d, es)) else rOf ((convD P (stL es) s t (rhoD E GL x)).map fun x => (x.1, toL x.2)) := by
  unfold exOp; simp only [calleeOf, panicOf, frozenOf, ownOp, opL, opD]
  by_cases h : tm ∈ fz
  · simp only [if_pos h]
  · simp only [if_neg h]
theorem ex_inv {recv : Operand} {name : String} {args : Array Operand} {ats : Array TypeId} {tm : Tmp} : exOp P GL C fz E es ⟨some tm, .call ⟨.invoke recv name, args, ats⟩, ty, ps, af, g⟩ = if tm ∈ fz then invD P C name (rhoD E GL recv) (args.toList.map (rhoD E GL)) es else rOf (opL P E GL es ⟨some tm, .call ⟨.invoke recv name, args, ats⟩, ty, ps, af, g⟩) := by
  unfold exOp; simp only [calleeOf, panicOf, frozenOf, ownOp]
  by_cases h : tm ∈ fz
  · simp only [h, if_true]
  · simp only [h, if_false]
theorem ex_ta {x : Operand} {xt t : TypeId} {ok : Bool} : exOp P GL C fz E es ⟨dst, .typeAssert x xt t ok, ty, ps, af, g⟩ = if zeroShape P t = true then pureO es (assertD P t ok (rhoD E GL x)) else none := by
  unfold exOp; simp only [calleeOf, panicOf, frozenOf, ownOp, opL, opD]
  split
  · exact rOf_map _
  · rfl
theorem retR_ret (d : D) (es : Sto) : retR (some (.ret d, es)) = some (.ret d, es) := nr rfl
theorem ex_mk {t : TypeId} {x y : Operand} : exOp P GL C fz E es ⟨dst, .makeSlice t x y, ty, ps, af, g⟩ = rOf ((makeSliceD P (stL es) t (rhoD E GL x) (rhoD E GL y)).map fun x => (x.1, toL x.2)) := by
  unfold exOp; simp only [calleeOf, panicOf, frozenOf, ownOp, opL, opD]
theorem ex_ifc {t : TypeId} {x : Operand} : exOp P GL C fz E es ⟨dst, .makeInterface t x, ty, ps, af, g⟩ = if nonIface P t = true then some (.ret (.ifc t (rhoD E GL x)), es) else none := by
  unfold exOp; simp only [calleeOf, panicOf, frozenOf, ownOp, opL, opD]
  split <;> simp only [Option.map_some, Option.map_none, rOf_some, toL_stL] <;> rfl
def lenM (P : Program) : List TypeId → List D → Option D
  | [t], [x] => lenD P t x
  | _, _ => none
theorem lenM_one (t : TypeId) (x : D) : lenM P [t] [x] = lenD P t x := nr rfl
theorem ex_len {args : Array Operand} {ats : Array TypeId} : exOp P GL C fz E es ⟨dst, .call ⟨.builtin .len, args, ats⟩, ty, ps, af, g⟩ = pureO es (lenM P ats.toList (args.toList.map (rhoD E GL))) := by
  unfold exOp; simp only [calleeOf, panicOf, frozenOf, ownOp, opL, opD, bltD]
  generalize ats.toList = al
  generalize args.toList.map (rhoD E GL) = xl
  match al, xl with
  | [t], [x] => exact rOf_map _
  | [], _ => rfl
  | _ :: _ :: _, _ => rfl
  | [_], [] => rfl
  | [_], _ :: _ :: _ => rfl
def appM (P : Program) (es : Sto) (ats : Array TypeId) : List D → Option (R × Sto)
  | [s, x] => if ats.size = 2 then rOf ((appendD P (stL es) ats[0]? ats[1]? s x).map fun x => (x.1, toL x.2)) else none
  | _ => none
theorem appM_two {ats : Array TypeId} {s x : D} : appM P es ats [s, x] = if ats.size = 2 then rOf ((appendD P (stL es) ats[0]? ats[1]? s x).map fun x => (x.1, toL x.2)) else none := nr rfl
theorem ex_app {args : Array Operand} {ats : Array TypeId} : exOp P GL C fz E es ⟨dst, .call ⟨.builtin .append, args, ats⟩, ty, ps, af, g⟩ = appM P es ats (args.toList.map (rhoD E GL)) := by
  unfold exOp; simp only [calleeOf, panicOf, frozenOf, ownOp, opL, opD, bltD]
  generalize args.toList.map (rhoD E GL) = xl
  match xl with
  | [s, x] =>
    simp only [appM]
    split
    · rfl
    · rfl
  | [] => rfl
  | [_] => rfl
  | _ :: _ :: _ :: _ => rfl
def bltM (P : Program) (f : Array Value → Sem Value) (xs : List D) : Option D := match toValL xs with | some l => pureD P (f l.toArray) | none => none
theorem blt_map (f : Array Value → Sem Value) (xs : List D) : rOf (Option.map (fun x => (x.1, toL x.2)) (match toValL xs with | some l => (pureD P (f l.toArray)).map fun r => (r, stL es) | none => none)) = pureO es (bltM P f xs) := by
  unfold bltM
  cases toValL xs with
  | none => rfl
  | some l => exact rOf_map _
theorem ex_max {args : Array Operand} {ats : Array TypeId} : exOp P GL C fz E es ⟨dst, .call ⟨.builtin .max, args, ats⟩, ty, ps, af, g⟩ = pureO es (bltM P (Builtin.max_ ats ty) (args.toList.map (rhoD E GL))) := by
  unfold exOp; simp only [calleeOf, panicOf, frozenOf, ownOp, opL, opD, bltD]; exact blt_map _ _
theorem ex_min {args : Array Operand} {ats : Array TypeId} : exOp P GL C fz E es ⟨dst, .call ⟨.builtin .min, args, ats⟩, ty, ps, af, g⟩ = pureO es (bltM P (Builtin.min_ ats ty) (args.toList.map (rhoD E GL))) := by
  unfold exOp; simp only [calleeOf, panicOf, frozenOf, ownOp, opL, opD, bltD]; exact blt_map _ _
theorem ex_cap {args : Array Operand} {ats : Array TypeId} : exOp P GL C fz E es ⟨dst, .call ⟨.builtin .cap, args, ats⟩, ty, ps, af, g⟩ = pureO es (bltM P (Builtin.cap_ ats ty) (args.toList.map (rhoD E GL))) := by
  unfold exOp; simp only [calleeOf, panicOf, frozenOf, ownOp, opL, opD, bltD]; exact blt_map _ _
theorem ex_complex {args : Array Operand} {ats : Array TypeId} : exOp P GL C fz E es ⟨dst, .call ⟨.builtin .complex, args, ats⟩, ty, ps, af, g⟩ = pureO es (bltM P (Builtin.complex_ ats ty) (args.toList.map (rhoD E GL))) := by
  unfold exOp; simp only [calleeOf, panicOf, frozenOf, ownOp, opL, opD, bltD]; exact blt_map _ _
theorem ex_real {args : Array Operand} {ats : Array TypeId} : exOp P GL C fz E es ⟨dst, .call ⟨.builtin .real, args, ats⟩, ty, ps, af, g⟩ = pureO es (bltM P (Builtin.real_ ats ty) (args.toList.map (rhoD E GL))) := by
  unfold exOp; simp only [calleeOf, panicOf, frozenOf, ownOp, opL, opD, bltD]; exact blt_map _ _
theorem ex_imag {args : Array Operand} {ats : Array TypeId} : exOp P GL C fz E es ⟨dst, .call ⟨.builtin .imag, args, ats⟩, ty, ps, af, g⟩ = pureO es (bltM P (Builtin.imag_ ats ty) (args.toList.map (rhoD E GL))) := by
  unfold exOp; simp only [calleeOf, panicOf, frozenOf, ownOp, opL, opD, bltD]; exact blt_map _ _
theorem callV_fn {f : FuncId} {a b ds : List D} : callV C (.fn (.func f) a b) ds es = callE C f (a ++ ds ++ b) es := nr rfl
theorem canO_def {nc : List Nat} {f : FuncId} {ds : List D} : canO nc C f ds es = C f (ds.map D.canA) (if f ∈ nc then es else es.map canRow) := nr rfl
theorem callE_def {f : FuncId} {ds : List D} : callE C f ds es = callG C f es (gcA 0 ds es) := nr rfl
theorem callG_some {f : FuncId} {ids : List Nat} {ds' : List D} {es' : Sto} : callG C f es (some (ids, ds', es')) = unpk es ids (C f ds' es') := nr rfl
theorem tidy_def {m0 : Nat} {ks : List Nat} {l : Fr} {es : Sto} : tidy m0 ks l es = tidyR ks (gcA m0 (ks.map (ofL l)) es) := nr rfl
theorem reach_nil {k m : Nat} {es : Sto} {acc : List Nat} : reach (k + 1) m es [] acc = acc := nr rfl
theorem reach_cons {k m : Nat} {es : Sto} {acc : List Nat} {x : Nat × Nat} {w : List (Nat × Nat)} : reach (k + 1) m es (x :: w) acc = if x.1 < m ∨ x.1 ∈ acc then reach k m es w acc else reach k m es (rowRefs es x.1 ++ w) (acc ++ [x.1]) := nr rfl
end
theorem refs_bytes (ex : Bool) (s : ByteArray) : (D.ro ex (bytesD s)).refs = [] := by
  simp only [D.refs, bytesD]
  induction s.data.toList with
  | nil => rfl
  | cons b l ih => simp only [List.map_cons, D.refsL, D.refs, ih, List.nil_append]
theorem refsL_map {α : Type} {f : α → D} (h : ∀ x, (f x).refs = []) (l : List α) : D.refsL (l.map f) = [] := by
  induction l with
  | nil => rfl
  | cons b l ih => simp only [List.map_cons, D.refsL, h, ih, List.nil_append]
theorem gcRoots_zero {ds : List D} {es : Sto} : gcRoots 0 ds es = D.refsL ds := by simp [gcRoots, upto]

end Go.Bw

/- The evaluator, part 12: what the walk rewrites with. -/
namespace Go.Bw
open Go

theorem ren_free' {ρ : Nat → Nat → Nat × Nat} {d : D} (h : d.refs = []) : d.ren ρ = d := D.ren_free d h
theorem frz_free {es : Sto} {F : Nat → Bool} {n : Nat} {d : D} (h : d.refs = []) : frzN es F n d = d := by
  cases n with
  | zero => exact D.sub_free d h
  | succ n => exact D.sub_free d h
theorem gcA_free {ds : List D} {es : Sto} (h : D.refsL ds = []) : gcA 0 ds es = some ([], ds, []) := by
  rw [gcA_eq, gcRoots_zero, h, reach_nil, gcB_nil]
  simp [gcRoots_zero, h]
theorem upto_zero : upto 0 = [] := nr rfl
theorem upto_succ (n : Nat) : upto (n + 1) = upto n ++ [n] := nr rfl
theorem refsL_nil : D.refsL [] = [] := nr rfl
theorem refsL_cons (d : D) (l : List D) : D.refsL (d :: l) = d.refs ++ D.refsL l := nr rfl

theorem if_cg {α : Type} {p q : Prop} {ip : Decidable p} {iq : Decidable q} {x y u v : α} (h : p ↔ q) (h1 : x = u) (h2 : y = v) : @ite α p ip x y = @ite α q iq u v := by
  subst h1 h2
  by_cases hp : p
  · rw [if_pos hp, if_pos (h.1 hp)]
  · rw [if_neg hp, if_neg (fun hq => hp (h.2 hq))]

/-! regions that draw their order -/
open Classical in
noncomputable def drF (ins : Bool) (es : Sto) (L : List Sto) (g : Sto → Option (R × Sto)) : Option (R × Sto) → Option D
  | some (.ret d, es') => if es' = es ∧ (ins = true ∨ ∀ e1 ∈ L, g e1 = some (.ret d, e1)) then some d else none
  | _ => none
theorem drF_nil {ins : Bool} {es : Sto} {g : Sto → Option (R × Sto)} {d : D} : drF ins es [] g (some (.ret d, es)) = some d := by simp [drF]
theorem drF_ins {es : Sto} {L : List Sto} {g : Sto → Option (R × Sto)} {d : D} : drF true es L g (some (.ret d, es)) = some d := by simp [drF]
theorem drF_all {ins : Bool} {es : Sto} {L : List Sto} {g : Sto → Option (R × Sto)} {d : D} (h : ∀ e1 ∈ L, g e1 = some (.ret d, e1)) : drF ins es L g (some (.ret d, es)) = some d := by
  simp only [drF]; rw [if_pos ⟨rfl, .inr h⟩]
theorem drF_congr {ins ins' : Bool} {es : Sto} {L L' : List Sto} {g : Sto → Option (R × Sto)} {x x' : Option (R × Sto)} (h1 : ins = ins') (h2 : L = L') (h3 : x = x') : drF ins es L g x = drF ins' es L' g x' := by rw [h1, h2, h3]

section
variable {P : Program} {GL : Nat → D} {C : Orc} {A : Ann} {m0 k : Nat} {K : List Kt} {l : Fr} {es : Sto}

theorem drOp_eq {lo : Nat} {E : Nat → D} {er : List Sto} {o : Oper} : drOp P GL C lo E es er o = drF (insens o) es (er.take (er.length - lo)) (fun e1 => exOp P GL C [] E e1 o) (exOp P GL C [] E es o) := by
  unfold drOp exOp
  cases hc : calleeOf o with
  | some fa =>
    obtain ⟨f, args⟩ := fa
    simp only [brw_nil, callB_false]
    have hi : insens o = false := by
      unfold calleeOf at hc
      unfold insens
      split at hc
      · rename_i c hop
        rw [hop]
        simp only
        split at hc
        · rename_i f' hcal; simp only [hcal]
        · cases hc
      · cases hc
    simp only [hi]
    cases callV C (rhoD E GL f) (args.map (rhoD E GL)) es with
    | none => rfl
    | some y =>
      obtain ⟨r, e⟩ := y
      cases r with
      | pan d => rfl
      | ret d => exact if_cg (by simp) rfl rfl
  | none =>
    have hz : frozenOf [] o = none := by
      unfold frozenOf
      split
      · simp
      · rfl
    have hpn : panicOf o = none ∨ ∃ x, o.op = .panic x := by
      unfold panicOf
      split
      · rename_i x hx; exact .inr ⟨x, hx⟩
      · exact .inl rfl
    rcases hpn with hpn | ⟨x, hx⟩
    case inr =>
      have h1 : ∀ e1, opL P E GL e1 o = none := fun e1 => by simp only [opL, opD, hx, Option.map_none]
      have h2 : panicOf o = some x := by unfold panicOf; rw [hx]
      simp only [h1, h2]
      unfold panR
      split <;> rfl
    simp only [hz, hpn, ownOp_nil]
    cases hop : opL P E GL es o with
    | none => rfl
    | some y =>
      obtain ⟨d, e⟩ := y
      have hr : ∀ e1, (rOf (opL P E GL e1 o) = some (.ret d, e1)) ↔ opL P E GL e1 o = some (d, e1) := fun e1 => by
        cases opL P E GL e1 o with
        | none => simp [rOf]
        | some z => obtain ⟨a, b⟩ := z; simp [rOf]
      by_cases hi : insens o = true
      · have he : e = es := by
          obtain ⟨S', h1, h2⟩ := opL_some hop
          have := (opD_insens (S' := stL es) hi h1).1
          rw [h2, this, toL_stL]
        exact if_cg (by simp [hi, he]) rfl rfl
      · exact if_cg (by simp only [hi, hr]; simp) rfl rfl

theorem drK_nil {ops : Array Oper} {er : List Sto} : drK P GL C A m0 K ops [] (es :: er) l = unw P GL C A m0 K .normal l es := nr rfl
noncomputable def drG (P : Program) (GL : Nat → D) (C : Orc) (A : Ann) (m0 : Nat) (K : List Kt) (ops : Array Oper) (rest : List (Oper × Nat × Bool)) (b : Bool) (x : Option D) (t : Option Tmp) (Ss : List Sto) (l : Fr) : Option (R × Sto) :=
  drS P GL C A m0 K ops rest (dsp b x) t Ss l
noncomputable def drGG (P : Program) (GL : Nat → D) (C : Orc) (A : Ann) (m0 : Nat) (K : List Kt) (ops : Array Oper) (rest : List (Oper × Nat × Bool)) (g : Option Bool) (x : Option D) (t : Option Tmp) (Ss : List Sto) (l : Fr) : Option (R × Sto) :=
  drS P GL C A m0 K ops rest (dsG g x) t Ss l
theorem drK_f {ops : Array Oper} {er : List Sto} {rest : List (Oper × Nat × Bool)} {lo : Nat} {dst : Option Tmp} {op : Op} {ty : TypeId} {ps : String} {af : Array Edge} :
    drK P GL C A m0 K ops ((⟨dst, op, ty, ps, af, none⟩, lo, false) :: rest) (es :: er) l = drG P GL C A m0 K ops rest true (drF (insens ⟨dst, op, ty, ps, af, none⟩) es (er.take (er.length - lo)) (fun e1 => exOp P GL C [] (ofL l) e1 ⟨dst, op, ty, ps, af, none⟩) (exOp P GL C [] (ofL l) es ⟨dst, op, ty, ps, af, none⟩)) dst (es :: er) l := by
  rw [← drOp_eq]; rfl
theorem drK_g {ops : List Oper} {er : List Sto} {rest : List (Oper × Nat × Bool)} {lo : Nat} {dst : Option Tmp} {op : Op} {ty : TypeId} {ps : String} {af : Array Edge} {j : Nat} {w : Bool} :
    drK P GL C A m0 K (List.toArray ops) ((⟨dst, op, ty, ps, af, some (j, w)⟩, lo, false) :: rest) (es :: er) l = drGG P GL C A m0 K (List.toArray ops) rest (gdL l w ((ops[j]?).bind (·.dst))) (drF (insens ⟨dst, op, ty, ps, af, some (j, w)⟩) es (er.take (er.length - lo)) (fun e1 => exOp P GL C [] (ofL l) e1 ⟨dst, op, ty, ps, af, some (j, w)⟩) (exOp P GL C [] (ofL l) es ⟨dst, op, ty, ps, af, some (j, w)⟩)) dst (es :: er) l := by
  rw [← drOp_eq]
  simp only [drK, evDraw, drGG, drS, guardD, List.getElem?_toArray]
  cases ops[j]?.bind (·.dst) <;> rfl
theorem drGG_some {ops : Array Oper} {rest : List (Oper × Nat × Bool)} {b : Bool} {x : Option D} {t : Option Tmp} {Ss : List Sto} : drGG P GL C A m0 K ops rest (some b) x t Ss l = drG P GL C A m0 K ops rest b x t Ss l := nr rfl
theorem drG_false {ops : Array Oper} {rest : List (Oper × Nat × Bool)} {x : Option D} {t : Option Tmp} {Ss : List Sto} : drG P GL C A m0 K ops rest false x t Ss l = drK P GL C A m0 K ops rest Ss (setO l t (.tup [])) := nr rfl
theorem drG_true {ops : Array Oper} {rest : List (Oper × Nat × Bool)} {d : D} {t : Option Tmp} {Ss : List Sto} : drG P GL C A m0 K ops rest true (some d) t Ss l = drK P GL C A m0 K ops rest Ss (setO l t d) := nr rfl
theorem drG_sym {ops : Array Oper} {rest : List (Oper × Nat × Bool)} {b : Bool} {d : D} {t : Option Tmp} {Ss : List Sto} : drG P GL C A m0 K ops rest b (some d) t Ss l = drK P GL C A m0 K ops rest Ss (setO l t (cond b d (.tup []))) := by
  cases b <;> rfl
theorem drG_congr {ops : Array Oper} {rest : List (Oper × Nat × Bool)} {b : Bool} {x x' : Option D} {t : Option Tmp} {Ss : List Sto} (h : b = true → x = x') : drG P GL C A m0 K ops rest b x t Ss l = drG P GL C A m0 K ops rest b x' t Ss l := by
  cases b with
  | true => rw [h rfl]
  | false => rfl
theorem drGG_congr {ops : Array Oper} {rest : List (Oper × Nat × Bool)} {g g' : Option Bool} {x : Option D} {t : Option Tmp} {Ss : List Sto} (h : g = g') : drGG P GL C A m0 K ops rest g x t Ss l = drGG P GL C A m0 K ops rest g' x t Ss l := by rw [h]
theorem drK_congr {ops : Array Oper} {plan : List (Oper × Nat × Bool)} {Ss Ss' : List Sto} {l' : Fr} (h1 : Ss = Ss') (h2 : l = l') : drK P GL C A m0 K ops plan Ss l = drK P GL C A m0 K ops plan Ss' l' := by rw [h1, h2]
theorem drK_t {ops : Array Oper} {er : List Sto} {rest : List (Oper × Nat × Bool)} {lo : Nat} {dst : Option Tmp} {op : Op} {ty : TypeId} {ps : String} {af : Array Edge} :
    drK P GL C A m0 K ops ((⟨dst, op, ty, ps, af, none⟩, lo, true) :: rest) (es :: er) l = drC P GL C A m0 K ops rest (some true) (exOp P GL C [] (ofL l) es ⟨dst, op, ty, ps, af, none⟩) dst es er l := nr rfl
theorem drK_tg {ops : List Oper} {er : List Sto} {rest : List (Oper × Nat × Bool)} {lo : Nat} {dst : Option Tmp} {op : Op} {ty : TypeId} {ps : String} {af : Array Edge} {j : Nat} {w : Bool} :
    drK P GL C A m0 K (List.toArray ops) ((⟨dst, op, ty, ps, af, some (j, w)⟩, lo, true) :: rest) (es :: er) l = drC P GL C A m0 K (List.toArray ops) rest (gdL l w ((ops[j]?).bind (·.dst))) (exOp P GL C [] (ofL l) es ⟨dst, op, ty, ps, af, some (j, w)⟩) dst es er l := by
  simp only [drK, evDraw, drC, guardD, List.getElem?_toArray]
  cases ops[j]?.bind (·.dst) <;> rfl
theorem drC_true {ops : Array Oper} {er : List Sto} {rest : List (Oper × Nat × Bool)} {d : D} {e' : Sto} {t : Option Tmp} : drC P GL C A m0 K ops rest (some true) (some (.ret d, e')) t es er l = drK P GL C A m0 K ops rest (e' :: es :: er) (setO l t d) := nr rfl
theorem drC_false {ops : Array Oper} {er : List Sto} {rest : List (Oper × Nat × Bool)} {x : Option (R × Sto)} {t : Option Tmp} : drC P GL C A m0 K ops rest (some false) x t es er l = drK P GL C A m0 K ops rest (es :: es :: er) (setO l t (.tup [])) := nr rfl
theorem drC_congr {ops : Array Oper} {er : List Sto} {rest : List (Oper × Nat × Bool)} {g g' : Option Bool} {x x' : Option (R × Sto)} {t : Option Tmp} (h1 : g = g') (h2 : x = x') : drC P GL C A m0 K ops rest g x t es er l = drC P GL C A m0 K ops rest g' x' t es er l := by rw [h1, h2]
end

theorem refs_sc (v : Value) : (D.sc v).refs = [] := nr rfl
theorem refs_nilp : D.nilp.refs = [] := nr rfl
theorem refs_ptr (a b c : Nat) : (D.ptr a b c).refs = [(a, b)] := nr rfl
theorem refs_rp (l : List D) : (D.rp l).refs = D.refsL l := nr rfl
theorem refs_nils : D.nils.refs = [] := nr rfl
theorem refs_ro (e : Bool) (l : List D) : (D.ro e l).refs = D.refsL l := nr rfl
theorem refs_ref (a b c d e : Nat) : (D.ref a b c d e).refs = [(a, b)] := nr rfl
theorem refs_fn (f : Fn) (a b : List D) : (D.fn f a b).refs = D.refsL a ++ D.refsL b := nr rfl
theorem refs_nilfn : D.nilfn.refs = [] := nr rfl
theorem refs_ifc (t : TypeId) (d : D) : (D.ifc t d).refs = d.refs := nr rfl
theorem refs_nilifc : D.nilifc.refs = [] := nr rfl
theorem refs_agg (l : List D) : (D.agg l).refs = D.refsL l := nr rfl
theorem refs_tup (l : List D) : (D.tup l).refs = D.refsL l := nr rfl
theorem refs_undef : D.undef.refs = [] := nr rfl
theorem canA_sc (v : Value) : (D.sc v).canA = .sc v := nr rfl
theorem canA_nilp : D.nilp.canA = .nilp := nr rfl
theorem canA_ptr (a b c : Nat) : (D.ptr a b c).canA = .ptr a b c := nr rfl
theorem canA_rp (l : List D) : (D.rp l).canA = .rp (D.canL l) := nr rfl
theorem canA_nils : D.nils.canA = .nils := nr rfl
theorem canA_ro (e : Bool) (l : List D) : (D.ro e l).canA = .ro false (D.canL l) := nr rfl
theorem canA_ref (a b c d e : Nat) : (D.ref a b c d e).canA = .ref a b c d e := nr rfl
theorem canA_fn (f : Fn) (a b : List D) : (D.fn f a b).canA = .fn f (D.canL a) (D.canL b) := nr rfl
theorem canA_nilfn : D.nilfn.canA = .nilfn := nr rfl
theorem canA_ifc (t : TypeId) (d : D) : (D.ifc t d).canA = .ifc t d.can := nr rfl
theorem canA_nilifc : D.nilifc.canA = .nilifc := nr rfl
theorem canA_agg (l : List D) : (D.agg l).canA = .agg (D.canL l) := nr rfl
theorem canA_undef : D.undef.canA = .undef := nr rfl

attribute [congr] paK_congr pxK_congr pcK_congr alK_congr cnsF_congr callB_congr rgnF_congr rgnD_congr drawK_congr cmT_congr eqT_congr rgOK_congr rgK_congr rgT_congr rgF_congr stK_congr stgK_congr cndK_congr thK_congr lpT_congr jpT_congr run_congr unw_congr opsK_congr lpK_congr jpK_congr fzK_congr drF_congr drG_congr drGG_congr drK_congr drC_congr

attribute [go_sem ↓] run_range run_skip run_region run_seq run_cond run_block run_exit run_ret run_label run_goto opsK_nil opsK_none opsK_some stK_false
  unw_sq unw_sq_ret unw_sq_exit unw_sq_goto unw_sq_pan unw_bk unw_bk_ret unw_bk_goto unw_bk_pan unw_lp unw_lp_ret unw_lp_exit unw_lp_goto unw_lp_pan unw_jp unw_jp_ret unw_jp_exit unw_jp_pan unw_jp_goto unw_fz unw_fz_pan
  ex_inv ex_ta retR_ret ex_call ex_callF ex_panic ex_look alK_two alK_one alK_zero ex_complex ex_real ex_imag ex_box ex_alloc ex_move ex_assign ex_pick ex_load ex_store ex_bin ex_un ex_fa ex_fd ex_ia ex_ix ex_ext ex_slice ex_fn ex_nil ex_bs ex_build ex_conv ex_mk ex_ifc ex_len ex_app ex_max ex_min ex_cap run_loop run_draw
  drTwo_none drTwo_some unw_cmp unw_eqo drK_nil drK_f drK_g drK_t drK_tg drG_false drC_false
attribute [go_sem] paK_none paK_some unw_pn pxK_some pcK_ret pcK_pan cnsF_none cnsF_some brw_nil brw_none brw_cons callB_false callB_true brwR_some allF_eq panR_ifc udR_some udR_none cnsR_pan cnsR_nils cnsR_ref cnsE_some D.mf D.mfL rgnF_none rgnF_some rgnD_none rgnD_some drawK_some cmT_some eqT_some unw_ra unw_rg unw_rg_ret unw_rg_exit rgOK_some rgF_some rgT_some setL_nil setL_cons unw_bk_exit unw_fn unw_fn_ret unw_fn_pan cnd_true cnd_false thK_some lpT_some jpT_some stgK_some stK_true stK_pan stK_sym fzK_none fzK_some
  look_nil look_cons tidyK_some tidyK_none tidyR_some finR_some finD_some finF_false finF_true gdL_some setO_some setO_none rOf_some pureO_some pickD_true pickD_false lenM_one appM_two callV_fn canO_def canRow canA_sc canA_nilp canA_ptr canA_rp canA_nils canA_ro canA_ref canA_fn canA_nilfn canA_ifc canA_nilifc canA_agg canA_undef D.can D.canL callE_def callG_some tidy_def
  argsL gcA_free refsL_nil refsL_cons refs_sc refs_nilp refs_ptr refs_rp refs_nils refs_ro refs_ref refs_fn refs_nilfn refs_ifc refs_nilifc refs_agg refs_tup refs_undef refs_bytes List.append_nil List.nil_append unpk_pure List.zip_cons_cons List.zip_nil_left List.map_cons List.map_nil frz_free drF_nil drF_ins drGG_some drG_true drG_sym drC_true
attribute [go_sem low] cnd_sym stK_sym2 pickD_sym

theorem renL_free' {ρ : Nat → Nat → Nat × Nat} {l : List D} (h : D.refsL l = []) : D.renL ρ l = l := D.renL_free l h
theorem ren_sc (ρ : Nat → Nat → Nat × Nat) (v : Value) : (D.sc v).ren ρ = .sc v := nr rfl
theorem ren_nilp (ρ : Nat → Nat → Nat × Nat) : D.nilp.ren ρ = .nilp := nr rfl
theorem ren_ptr (ρ : Nat → Nat → Nat × Nat) (a b c : Nat) : (D.ptr a b c).ren ρ = .ptr (ρ a b).1 (ρ a b).2 c := nr rfl
theorem ren_rp (ρ : Nat → Nat → Nat × Nat) (l : List D) : (D.rp l).ren ρ = .rp (D.renL ρ l) := nr rfl
theorem ren_nils (ρ : Nat → Nat → Nat × Nat) : D.nils.ren ρ = .nils := nr rfl
theorem ren_ref (ρ : Nat → Nat → Nat × Nat) (a b c d e : Nat) : (D.ref a b c d e).ren ρ = .ref (ρ a b).1 (ρ a b).2 c d e := nr rfl
theorem ren_fn (ρ : Nat → Nat → Nat × Nat) (f : Fn) (a b : List D) : (D.fn f a b).ren ρ = .fn f (D.renL ρ a) (D.renL ρ b) := nr rfl
theorem ren_nilfn (ρ : Nat → Nat → Nat × Nat) : D.nilfn.ren ρ = .nilfn := nr rfl
theorem ren_ifc (ρ : Nat → Nat → Nat × Nat) (t : TypeId) (d : D) : (D.ifc t d).ren ρ = .ifc t (d.ren ρ) := nr rfl
theorem ren_nilifc (ρ : Nat → Nat → Nat × Nat) : D.nilifc.ren ρ = .nilifc := nr rfl
theorem ren_agg (ρ : Nat → Nat → Nat × Nat) (l : List D) : (D.agg l).ren ρ = .agg (D.renL ρ l) := nr rfl
theorem ren_tup (ρ : Nat → Nat → Nat × Nat) (l : List D) : (D.tup l).ren ρ = .tup (D.renL ρ l) := nr rfl
theorem ren_undef (ρ : Nat → Nat → Nat × Nat) : D.undef.ren ρ = .undef := nr rfl
theorem renL_nil (ρ : Nat → Nat → Nat × Nat) : D.renL ρ [] = [] := nr rfl
theorem renL_cons (ρ : Nat → Nat → Nat × Nat) (d : D) (l : List D) : D.renL ρ (d :: l) = d.ren ρ :: D.renL ρ l := nr rfl
theorem gcMap_eq (m : Nat) (acc : List Nat) (i v : Nat) : gcMap m acc i v = if i < m then (i, v) else (m + pos acc i, 0) := nr rfl
theorem pos_cons (a i : Nat) (l : List Nat) : pos (a :: l) i = if a = i then 0 else pos l i + 1 := nr rfl
theorem gcRow_some (ρ : Nat → Nat → Nat × Nat) (low : Bool) (e : En) : gcRow ρ low (some e) = some ⟨if low = true then e.ver else 0, D.renL ρ e.ob⟩ := nr rfl
theorem gcRow_none (ρ : Nat → Nat → Nat × Nat) (low : Bool) : gcRow ρ low none = none := nr rfl
theorem rowOf_zero (o : Option En) (es : Sto) : rowOf (o :: es) 0 = o := nr rfl
theorem rowOf_succ (o : Option En) (es : Sto) (i : Nat) : rowOf (o :: es) (i + 1) = rowOf es i := nr rfl
def refsO (o : Option En) : List (Nat × Nat) := match o with | some e => D.refsL e.ob | none => []
theorem refsO_some (v : Nat) (ob : List D) : refsO (some ⟨v, ob⟩) = D.refsL ob := nr rfl
theorem refsO_none : refsO none = [] := nr rfl
theorem rowRefs_eq (es : Sto) (i : Nat) : rowRefs es i = refsO (rowOf es i) := nr rfl
def verO (o : Option En) : Nat := match o with | some e => e.ver | none => 0
theorem verO_some (v : Nat) (ob : List D) : verO (some ⟨v, ob⟩) = v := nr rfl
theorem verO_none : verO none = 0 := nr rfl
theorem verOf_eq (es : Sto) (i : Nat) : verOf es i = verO (rowOf es i) := nr rfl
theorem refsL_append : ∀ (a b : List D), D.refsL (a ++ b) = D.refsL a ++ D.refsL b
  | [], b => rfl
  | d :: a, b => by rw [List.cons_append, D.refsL, D.refsL, refsL_append a b, List.append_assoc]
theorem gcChk_eq (m : Nat) (es : Sto) (acc : List Nat) (rs : List (Nat × Nat)) : gcChk m es acc rs = (decide (m ≤ es.length) && acc.all (fun i => decide (m ≤ i) && (rowOf es i).isSome) && nodupB acc && rs.all (okRef m es acc)) := nr rfl
def okR (o : Option En) (v : Nat) : Bool := match o with | some e => decide (e.ver = v) | none => false
theorem okR_some (e : En) (v : Nat) : okR (some e) v = decide (e.ver = v) := nr rfl
theorem okRef_eq (m : Nat) (es : Sto) (acc : List Nat) (i v : Nat) : okRef m es acc (i, v) = (decide (i < m) || (acc.contains i && okR (rowOf es i) v)) := nr rfl
theorem nodupB_nil : nodupB [] = true := nr rfl
theorem nodupB_cons (a : Nat) (l : List Nat) : nodupB (a :: l) = (!l.contains a && nodupB l) := nr rfl
theorem contains_nil (i : Nat) : ([] : List Nat).contains i = false := nr rfl
theorem contains_cons (a : Nat) (l : List Nat) (i : Nat) : (a :: l).contains i = (i == a || l.contains i) := nr List.contains_cons
theorem mem_nil' (i : Nat) : (i ∈ ([] : List Nat)) = False := by simp
theorem gcSto_eq (m : Nat) (acc : List Nat) (es : Sto) : gcSto m acc es = (upto m).map (fun i => gcRow (gcMap m acc) true (rowOf es i)) ++ acc.map (fun i => gcRow (gcMap m acc) false (rowOf es i)) := nr rfl
theorem gcRoots_eq (m : Nat) (ds : List D) (es : Sto) : gcRoots m ds es = D.refsL ds ++ (upto m).flatMap (rowRefs es) := nr rfl
theorem gcB_eq (m : Nat) (ds : List D) (es : Sto) (a : Nat) (acc : List Nat) : gcB m ds es (a :: acc) = if gcChk m es (a :: acc) (gcRoots m ds es ++ (a :: acc).flatMap (rowRefs es)) = true then some (a :: acc, D.renL (gcMap m (a :: acc)) ds, gcSto m (a :: acc) es) else none := nr rfl
theorem unpk_some (es : Sto) (ids : List Nat) (r : R) (ts : Sto) : unpk es ids (some (r, ts)) = if ids.length ≤ ts.length then some (r.ren (backMap es ids), mergeS es ids ts) else none := nr rfl
theorem rren_ret (ρ : Nat → Nat → Nat × Nat) (d : D) : (R.ret d).ren ρ = .ret (d.ren ρ) := nr rfl
theorem rren_pan (ρ : Nat → Nat → Nat × Nat) (d : D) : (R.pan d).ren ρ = .pan (d.ren ρ) := nr rfl
def backM (es : Sto) (ids : List Nat) (j u : Nat) : Option Nat → Nat × Nat
  | some i => (i, verOf es i + u)
  | none => (es.length + (j - ids.length), u)
theorem backM_some (es : Sto) (ids : List Nat) (j u i : Nat) : backM es ids j u (some i) = (i, verOf es i + u) := nr rfl
theorem backM_none (es : Sto) (ids : List Nat) (j u : Nat) : backM es ids j u none = (es.length + (j - ids.length), u) := nr rfl
theorem backMap_eq (es : Sto) (ids : List Nat) (j u : Nat) : backMap es ids j u = backM es ids j u (ids[j]?) := by
  unfold backMap backM; cases ids[j]? <;> rfl
theorem mergeS_eq (es : Sto) (ids : List Nat) (ts : Sto) : mergeS es ids ts = setAll (backMap es ids) es ids ts es ++ (ts.drop ids.length).map (backRow (backMap es ids) 0) := nr rfl
theorem setAll_nil (β : Nat → Nat → Nat × Nat) (es0 ts es : Sto) : setAll β es0 [] ts es = es := nr rfl
theorem setAll_cons (β : Nat → Nat → Nat × Nat) (es0 : Sto) (i : Nat) (is : List Nat) (o : Option En) (ts es : Sto) : setAll β es0 (i :: is) (o :: ts) es = setAll β es0 is ts (es.set i (backRow β (verOf es0 i) o)) := nr rfl
theorem backRow_some (β : Nat → Nat → Nat × Nat) (k : Nat) (e : En) : backRow β k (some e) = some ⟨k + e.ver, D.renL β e.ob⟩ := nr rfl
theorem backRow_none (β : Nat → Nat → Nat × Nat) (k : Nat) : backRow β k none = none := nr rfl
theorem flat_nil {α β : Type} (f : α → List β) : List.flatMap f [] = [] := nr rfl
theorem flat_cons {α β : Type} (f : α → List β) (a : α) (l : List α) : List.flatMap f (a :: l) = f a ++ l.flatMap f := nr rfl
attribute [go_sem] renL_free' ren_sc ren_nilp ren_ptr ren_rp ren_nils ren_ref ren_fn ren_nilfn ren_ifc ren_nilifc ren_agg ren_tup ren_undef renL_nil renL_cons gcMap_eq pos_cons gcRow_some gcRow_none rowOf_zero rowOf_succ refsO_some refsO_none rowRefs_eq verO_some verO_none verOf_eq refsL_append gcChk_eq okR_some okRef_eq nodupB_nil nodupB_cons contains_nil contains_cons mem_nil' gcSto_eq gcRoots_zero gcB_nil gcB_eq
  reach_nil reach_cons upto_zero upto_succ unpk_some rren_ret rren_pan backM_some backM_none backMap_eq mergeS_eq setAll_nil setAll_cons backRow_some backRow_none flat_nil flat_cons ren_free' List.drop_nil Bool.true_and Bool.or_true Bool.true_or Bool.or_false Bool.false_or decide_true decide_false Nat.add_zero Nat.zero_add List.map_append List.length_append List.all_append List.flatMap_append Nat.not_lt_zero or_self toL_stL
attribute [go_sem low] gcA_eq gcRoots_eq
attribute [go_sem] Int.natCast_add Int.cast_ofNat_Int bltM appendD newCells sliceCells Nat.one_ne_zero if_false

/-! tests, as propositions -/
theorem ite_intro {p : Prop} [Decidable p] {α : Type} {a b r : α} (h1 : p → a = r) (h2 : ¬ p → b = r) : (if p then a else b) = r := by
  split
  · exact h1 (by assumption)
  · exact h2 (by assumption)

end Go.Bw

/- The evaluator, part 13: rows that are built one by one. -/
namespace Go.Bw
open Go

/-- how data stands as an abstract value, of so many cells -/
structure EncOk {α : Type} (f : α → D) (sz : Nat) : Prop where
  len : ∀ x, (f x).cells.length = sz
  pos : 0 < sz
  refs : ∀ x, (f x).refs = []
  can : ∀ x, (f x).can = f x
  one : ∀ x, (f x).cells.all D.one = true
  fold : ∀ x, (if decide (sz ≠ 1) = true then D.agg (f x).cells else (f x).cells.headD .undef) = f x

section
variable {α : Type} {f : α → D} {sz : Nat}

def rowE (f : α → D) (l : List α) : List D := (l.map f).flatMap D.cells
theorem rowE_nil : rowE f [] = [] := nr rfl
theorem rowE_snoc (l : List α) (x : α) : rowE f l ++ (f x).cells = rowE f (l ++ [x]) := by
  simp only [rowE, List.map_append, List.flatMap_append, List.map_cons, List.map_nil, List.flatMap_cons, List.flatMap_nil, List.append_nil]
theorem rowE_one (x : α) : (f x).cells = rowE f [x] := rowE_snoc [] x
theorem rowE_cons (x : α) (l : List α) : rowE f (x :: l) = (f x).cells ++ rowE f l := by simp only [rowE, List.map_cons, List.flatMap_cons]

theorem refsL_cells {d : D} (h : d.refs = []) : D.refsL d.cells = [] := by
  cases d with
  | agg cs => exact h
  | _ => simp only [D.cells, D.refsL, h, List.append_nil]
theorem EncOk.row_refs (h : EncOk f sz) (l : List α) : D.refsL (rowE f l) = [] := by
  induction l with
  | nil => rfl
  | cons v l ih => rw [rowE_cons, refsL_append, ih, refsL_cells (h.refs v)]; rfl
theorem EncOk.row_len (h : EncOk f sz) (l : List α) : (rowE f l).length = l.length * sz := by
  induction l with
  | nil => simp [rowE_nil]
  | cons v l ih => rw [rowE_cons, List.length_append, ih, h.len, List.length_cons, Nat.add_mul]; omega
theorem EncOk.row_one (h : EncOk f sz) (l : List α) : (rowE f l).all D.one = true := by
  induction l with
  | nil => rfl
  | cons v l ih => rw [rowE_cons, List.all_append, ih, h.one]; rfl
theorem EncOk.row_cut (h : EncOk f sz) (l : List α) : cutD sz (decide (sz ≠ 1)) l.length (rowE f l) = l.map f := by
  induction l with
  | nil => rfl
  | cons v l ih =>
    rw [rowE_cons, List.length_cons, cutD, List.map_cons]
    have e1 : ((f v).cells ++ rowE f l).take sz = (f v).cells := by rw [← h.len v]; simp
    have e2 : ((f v).cells ++ rowE f l).drop sz = rowE f l := by rw [← h.len v]; simp
    rw [e1, e2, ih]
    have e3 := h.fold v
    have hne : (f v).cells ≠ [] := by intro hh; have := h.len v; rw [hh] at this; have := h.pos; simp at *; omega
    have e4 : ((f v).cells ++ rowE f l).headD .undef = (f v).cells.headD .undef := by
      cases hc : (f v).cells with
      | nil => exact absurd hc hne
      | cons a r => rfl
    rw [e4, e3]
theorem EncOk.mapcan (h : EncOk f sz) (l : List α) : D.canL (l.map f) = l.map f := by
  rw [D.canL_map, List.map_map]
  exact List.map_congr_left fun x _ => h.can x

theorem map_free {g : D → D} {l : List D} (h : ∀ d, d.refs = [] → g d = d) (hl : D.refsL l = []) : l.map g = l := by
  induction l with
  | nil => rfl
  | cons a l ih =>
    simp only [D.refsL, List.append_eq_nil_iff] at hl
    simp only [List.map_cons, h a hl.1, ih hl.2]

/-- what has been built of a list, and the row that it stands in -/
def accE (sz : Nat) (l : List α) : D := match l with | [] => .nils | _ :: _ => .ref 0 0 sz 0 l.length
def stoE (f : α → D) (l : List α) : Sto := match l with | [] => [] | _ :: _ => [some ⟨0, rowE f l⟩]

theorem frz_row (h : EncOk f sz) (l : List α) (n : Nat) {es : Sto} {i : Nat} (hr : rowOf es i = some ⟨0, rowE f l⟩) (F : Nat → Bool) (hF : F i = true) : frzN es F (n + 1) (.ref i 0 sz 0 l.length) = .ro false (l.map f) := by
  have hm : (rowE f l).map (frzN es F n) = rowE f l := map_free (fun d hd => frz_free hd) (h.row_refs l)
  simp only [frzN, D.sub, frzS, hF, if_true, hr, hm]
  have h1 : 0 ≤ 0 + l.length * sz := by omega
  rw [if_pos ⟨trivial, h.pos, by rw [h.row_len]; omega, h.row_one l⟩]
  rw [List.drop_zero, List.take_of_length_le (by rw [h.row_len]; omega), h.row_cut]

theorem fin_acc (h : EncOk f sz) (l : List α) (n : Nat) : (frzN (stoE f l) (fromB 0) (n + 1) (accE sz l)).can = .ro false (l.map f) := by
  cases l with
  | nil => rfl
  | cons x l =>
    have := frz_row h (x :: l) n (es := [some ⟨0, rowE f (x :: l)⟩]) (i := 0) rfl (fromB 0) rfl
    simp only [stoE, accE, this, D.can, h.mapcan]
end

theorem take_snoc {α : Type} {l : List α} {i : Nat} {x : α} (h : l[i]? = some x) : l.take (i + 1) = l.take i ++ [x] := by
  rw [List.take_add_one, h]; rfl

theorem take_cons {α : Type} {l : List α} {i : Nat} (hi : i ≤ l.length) (hpos : 0 < i) : ∃ y t, l.take i = y :: t ∧ (y :: t).length = i := by
  cases h : l.take i with
  | nil =>
    have := congrArg List.length h
    simp only [List.length_take, List.length_nil] at this
    omega
  | cons y t => exact ⟨y, t, rfl, by rw [← h, List.length_take]; omega⟩

end Go.Bw

/- The evaluator, part 14: numbers that fit. -/
namespace Go.Bw
open Go

theorem wrap_u64 (n : Int) : IntKind.u64.wrap n = n % 18446744073709551616 := by
  simp [IntKind.wrap, IntKind.signed, IntKind.bits]
theorem wrap_u32 (n : Int) : IntKind.u32.wrap n = n % 4294967296 := by
  simp [IntKind.wrap, IntKind.signed, IntKind.bits]
theorem wrap_u16 (n : Int) : IntKind.u16.wrap n = n % 65536 := by
  simp [IntKind.wrap, IntKind.signed, IntKind.bits]
theorem wrap_u8 (n : Int) : IntKind.u8.wrap n = n % 256 := by
  simp [IntKind.wrap, IntKind.signed, IntKind.bits]
theorem wrap_i64_eq (n : Int) : IntKind.i64.wrap n = if n % 18446744073709551616 ≥ 9223372036854775808 then n % 18446744073709551616 - 18446744073709551616 else n % 18446744073709551616 := by
  simp [IntKind.wrap, IntKind.signed, IntKind.bits]
theorem wrap_i8_eq (n : Int) : IntKind.i8.wrap n = if n % 256 ≥ 128 then n % 256 - 256 else n % 256 := by
  simp [IntKind.wrap, IntKind.signed, IntKind.bits]
theorem fit_u64 {n : Int} (h : 0 ≤ n) (k : n ≤ 18446744073709551615) : IntKind.u64.wrap n = n := by rw [wrap_u64]; omega
theorem fit_u32 {n : Int} (h : 0 ≤ n) (k : n ≤ 4294967295) : IntKind.u32.wrap n = n := by rw [wrap_u32]; omega
theorem fit_u16 {n : Int} (h : 0 ≤ n) (k : n ≤ 65535) : IntKind.u16.wrap n = n := by rw [wrap_u16]; omega
theorem fit_u8 {n : Int} (h : 0 ≤ n) (k : n ≤ 255) : IntKind.u8.wrap n = n := by rw [wrap_u8]; omega
theorem fit_i64 {n : Int} (h : -9223372036854775808 ≤ n) (k : n ≤ 9223372036854775807) : IntKind.i64.wrap n = n := wrap_i64 h k
theorem un_neg {P : Program} {k : IntKind} {a : Int} : unD P .neg (.sc (.int k a)) = some (.sc (.int k (k.wrap (0 - a)))) := by cases k <;> rfl
attribute [go_sem] fit_u64 fit_u32 fit_u16 fit_u8 fit_i64 un_neg Nat.min_def
end Go.Bw

/- The evaluator, part 15: small rows, written no more. -/
namespace Go.Bw
open Go

theorem ev_x {P : Program} {GL : Nat → D} {An : FuncId → Ann} {nc : List Nat} {X : Orc} {f : FuncId} {ds : List D} {es : Sto} {r : R × Sto} (h : X f ds es = some r) : ev P GL An nc X f ds es = some r := by
  rw [ev_eq, evStep, h]


theorem jpK_go {P : Program} {GL : Nat → D} {C : Orc} {A : Ann} {m0 k : Nat} {K : List Kt} {l : Fr} {es : Sto} {lab : Nat} {ks : Option (List Nat)} {rest : Code} : jpK P GL C A m0 (k + 1) K lab ks rest l es = run P GL C A m0 k (.jp lab ks rest (k + 1) :: K) rest l es := by
  have key : jpK P GL C A m0 (k + 1) K lab ks rest l es = run P GL C A m0 k (.jp lab ks rest (k + 1) :: K) rest l es := by
    unfold jpK
    rw [evJ_eq]
    rfl
  exact key

theorem drF_same {ins : Bool} {es : Sto} {L : List Sto} {d : D} : drF ins es L (fun e1 => some (.ret d, e1)) (some (.ret d, es)) = some d := drF_all fun _ _ => rfl
attribute [go_sem] drF_same

def fpE (es : Sto) (F : Nat → Bool) (n i v o : Nat) : Bool → Option En → D
  | true, some e => if e.ver = v ∧ o ≤ e.ob.length then .rp ((e.ob.drop o).map (frzN es F n)) else .undef
  | true, none => .undef
  | false, _ => .ptr i v o
def fsE (es : Sto) (F : Nat → Bool) (n i v sz off len : Nat) : Bool → Option En → D
  | true, some e => if e.ver = v ∧ 0 < sz ∧ off + len * sz ≤ e.ob.length ∧ (e.ob.map (frzN es F n)).all D.one = true then .ro false (cutD sz (decide (sz ≠ 1)) len (((e.ob.map (frzN es F n)).drop off).take (len * sz))) else .undef
  | true, none => .undef
  | false, _ => .ref i v sz off len

section
variable {es : Sto} {F : Nat → Bool} {n i v sz off len o : Nat} {l : List D} {ex : Bool}
theorem fz_agg : frzN es F (n + 1) (.agg l) = .agg (l.map (frzN es F (n + 1))) := by simp only [frzN, D.sub, D.subL_map]
theorem fz_tup : frzN es F (n + 1) (.tup l) = .tup (l.map (frzN es F (n + 1))) := by simp only [frzN, D.sub, D.subL_map]
theorem fz_ro : frzN es F (n + 1) (.ro ex l) = .ro ex (l.map (frzN es F (n + 1))) := by simp only [frzN, D.sub, D.subL_map]
theorem fz_rp : frzN es F (n + 1) (.rp l) = .rp (l.map (frzN es F (n + 1))) := by simp only [frzN, D.sub, D.subL_map]
theorem fz_ptr : frzN es F (n + 1) (.ptr i v o) = fpE es F n i v o (F i) (rowOf es i) := by
  simp only [frzN, D.sub, frzP]
  cases F i <;> cases rowOf es i <;> rfl
theorem fz_ref : frzN es F (n + 1) (.ref i v sz off len) = fsE es F n i v sz off len (F i) (rowOf es i) := by
  simp only [frzN, D.sub, frzS]
  cases F i <;> cases rowOf es i <;> rfl
theorem fpE_f {e : Option En} : fpE es F n i v o false e = .ptr i v o := nr (by cases e <;> rfl)
theorem fsE_f {e : Option En} : fsE es F n i v sz off len false e = .ref i v sz off len := nr (by cases e <;> rfl)
theorem fpE_t {ob : List D} : fpE es F n i v 0 true (some ⟨v, ob⟩) = .rp (ob.map (frzN es F n)) := by
  simp only [fpE, List.drop_zero]; rw [if_pos ⟨trivial, by omega⟩]
theorem map_frz_free (h : D.refsL l = []) : l.map (frzN es F n) = l := map_free (fun _ hd => frz_free hd) h
theorem refsL_bytesD (s : ByteArray) : D.refsL (bytesD s) = [] := by
  have := refs_bytes false s
  simpa only [D.refs] using this
theorem fsE_bytes {s : ByteArray} : fsE es F n i v 1 0 s.size true (some ⟨v, bytesD s⟩) = .ro false (bytesD s) := by
  have hm : (bytesD s).map (frzN es F n) = bytesD s := map_frz_free (refsL_bytesD s)
  have hc : ∀ l : List D, cutD 1 false l.length l = l := by
    intro l
    induction l with
    | nil => rfl
    | cons a l ih => rw [List.length_cons, cutD]; simp only [List.drop_succ_cons, List.drop_zero, ih]; rfl
  simp only [fsE, hm]
  rw [if_pos ⟨trivial, by omega, by rw [bytesD_len]; omega, bytesD_one s⟩, List.drop_zero, List.take_of_length_le (by rw [bytesD_len]; omega)]
  have := hc (bytesD s)
  rw [bytesD_len] at this
  exact congrArg (D.ro false) this
theorem fromB_def (m i : Nat) : fromB m i = decide (m ≤ i) := nr rfl
theorem frzSto_eq : frzSto es F n = (upto es.length).map (frzRow es F n) := nr rfl
def frE (es : Sto) (F : Nat → Bool) (n : Nat) : Bool → Option En → Option En
  | true, _ => none
  | false, some e => some ⟨e.ver, e.ob.map (frzN es F n)⟩
  | false, none => none
theorem frzRow_eq : frzRow es F n i = frE es F n (F i) (rowOf es i) := by
  unfold frzRow; cases F i <;> cases rowOf es i <;> rfl
theorem frE_t {e : Option En} : frE es F n true e = none := nr (by cases e <;> rfl)
theorem frE_f {e : En} : frE es F n false (some e) = some ⟨e.ver, e.ob.map (frzN es F n)⟩ := nr rfl
theorem frE_n : frE es F n false none = none := nr rfl
theorem bytesD_nil : bytesD ⟨#[]⟩ = [] := nr rfl
theorem canL_bytesD (s : ByteArray) : D.canL (bytesD s) = bytesD s := by
  rw [D.canL_map, bytesD, List.map_map]; rfl
end
/-! bytes behind bytes -/
def apB (es : Sto) (id v n : Nat) (s : ByteArray) : Option En → Option (R × Sto)
  | some e => if e.ver = v ∧ e.ob.length = n ∧ n + s.size ≤ 140737488355328 then some (.ret (.ref id (v + 1) 1 0 (n + s.size)), es.set id (some ⟨v + 1, e.ob ++ bytesD s⟩)) else none
  | none => none
theorem apB_some {es : Sto} {id v n : Nat} {s : ByteArray} {v' : Nat} {ob : List D} : apB es id v n s (some ⟨v', ob⟩) = if v' = v ∧ ob.length = n ∧ n + s.size ≤ 140737488355328 then some (.ret (.ref id (v + 1) 1 0 (n + s.size)), es.set id (some ⟨v + 1, ob ++ bytesD s⟩)) else none := nr rfl
def ByteSlX (P : Program) (t1 t2 : TypeId) : Prop := ∃ e, ByteSl P t1 t2 e
section
variable {P : Program} {es : Sto} {t1 t2 : TypeId}
theorem app_ref (hb : ByteSlX P t1 t2) {id v n : Nat} {s : ByteArray} {ex : Bool} :
    appM P es #[t1, t2] [.ref id v 1 0 n, .ro ex (bytesD s)] = if s.size = 0 then some (.ret (.ref id v 1 0 n), es) else apB es id v n s (rowOf es id) := by
  obtain ⟨e, hb⟩ := hb
  rw [appM_two, if_pos (by rfl)]
  simp only [appendD, List.getElem?_toArray, List.getElem?_cons_zero, List.getElem?_cons_succ, hb.el, hb.ze, newCells, hb.ii, hb.un, and_self, if_true, sliceCells, bytesD_cells, bytesD_len, List.length_cons, List.length_nil, hb.by1, Nat.mul_one]
  rw [if_pos (by simp)]
  by_cases h0 : s.size = 0
  · rw [if_pos h0, if_pos h0]
    simp only [Option.map_some, toL_stL]; rfl
  · rw [if_neg h0, if_neg h0, stL_row]
    cases hr : rowOf es id with
    | none => rfl
    | some en =>
      simp only [Nat.zero_add, bytesD_one, and_true, true_and, apB]
      split
      · rw [stL_put _ _ _ (by
          unfold rowOf at hr
          cases he : es[id]? with
          | none => rw [he] at hr; cases hr
          | some x => rfl)]
        simp only [Option.map_some, toL_stL]; rfl
      · rfl
theorem app_nils (hb : ByteSlX P t1 t2) {s : ByteArray} {ex : Bool} :
    appM P es #[t1, t2] [.nils, .ro ex (bytesD s)] = if s.size = 0 then some (.ret .nils, es) else if s.size ≤ 140737488355328 then some (.ret (.ref es.length 0 1 0 s.size), es ++ [some ⟨0, bytesD s⟩]) else none := by
  obtain ⟨e, hb⟩ := hb
  rw [appM_two, if_pos (by rfl)]
  simp only [appendD, List.getElem?_toArray, List.getElem?_cons_zero, List.getElem?_cons_succ, hb.el, hb.ze, newCells, hb.ii, hb.un, and_self, if_true, sliceCells, bytesD_cells, bytesD_len, List.length_cons, List.length_nil, hb.by1, Nat.mul_one]
  rw [if_pos (by simp)]
  split
  · simp only [Option.map_some, toL_stL]; rfl
  · split
    · rw [stL_next, stL_new]; simp only [Option.map_some, toL_stL]; rfl
    · rfl
theorem app_ex (hb : ByteSlX P t1 t2) {b s : ByteArray} {ex : Bool} :
    appM P es #[t1, t2] [.ro true (bytesD b), .ro ex (bytesD s)] = if s.size = 0 then some (.ret (.ro true (bytesD b)), es) else if b.size + s.size ≤ 140737488355328 then some (.ret (.ref es.length 0 1 0 (b.size + s.size)), es ++ [some ⟨0, bytesD b ++ bytesD s⟩]) else none := by
  obtain ⟨e, hb⟩ := hb
  rw [appM_two, if_pos (by rfl)]
  simp only [appendD, List.getElem?_toArray, List.getElem?_cons_zero, List.getElem?_cons_succ, hb.el, hb.ze, newCells, hb.ii, hb.un, and_self, if_true, sliceCells, bytesD_cells, bytesD_len, List.length_cons, List.length_nil, hb.by1, Nat.mul_one]
  rw [if_pos (by simp)]
  split
  · simp only [Option.map_some, toL_stL]; rfl
  · simp only [true_and, and_true]
    split
    · rw [stL_next, stL_new]; simp only [Option.map_some, toL_stL]; rfl
    · rfl
theorem app_ex0 (hb : ByteSlX P t1 t2) {s : ByteArray} {ex : Bool} :
    appM P es #[t1, t2] [.ro true [], .ro ex (bytesD s)] = if s.size = 0 then some (.ret (.ro true []), es) else if s.size ≤ 140737488355328 then some (.ret (.ref es.length 0 1 0 s.size), es ++ [some ⟨0, bytesD s⟩]) else none := by
  have := app_ex (es := es) hb (b := ⟨#[]⟩) (s := s) (ex := ex)
  rw [bytesD_nil, List.nil_append] at this
  rw [this]
  have e0 : (⟨#[]⟩ : ByteArray).size = 0 := rfl
  rw [e0, Nat.zero_add]
end
attribute [go_sem high] app_ref app_nils app_ex app_ex0
attribute [go_sem] bytesD_cells apB_some bytesD_append bytesD_len
attribute [go_sem] fz_agg fz_tup fz_ro fz_rp fz_ptr fz_ref fpE_f fsE_f fpE_t map_frz_free refsL_bytesD fsE_bytes fromB_def frzSto_eq frzRow_eq frE_t frE_f frE_n bytesD_nil canL_bytesD
end Go.Bw

/- The evaluator, part 16: what a law is handed. -/
namespace Go.Bw
open Go

theorem refsL_all {l : List D} (h : ∀ d ∈ l, d.refs = []) : D.refsL l = [] := by
  induction l with
  | nil => rfl
  | cons a l ih => simp only [D.refsL, h a (by simp), ih fun d hd => h d (by simp [hd]), List.append_nil]
theorem refs_of_cells {d : D} (h : ∀ c ∈ d.cells, c.refs = []) : d.refs = [] := by
  cases d with
  | agg cs => exact refsL_all h
  | _ => exact h _ (by simp [D.cells])
theorem D.free.refs {d : D} (h : d.free) : d.refs = [] := by
  induction h with
  | rp _ ih => exact refsL_all ih
  | ro _ ih =>
    refine refsL_all fun d hd => refs_of_cells fun c hc => ih c (List.mem_flatMap.2 ⟨d, hd, hc⟩)
  | fn _ _ ih1 ih2 => simp only [D.refs, refsL_all ih1, refsL_all ih2, List.append_nil]
  | ifc _ ih => exact ih
  | mp _ _ ih1 ih2 => simp only [D.refs, refsL_all ih1, refsL_all ih2, List.append_nil]
  | agg _ ih => exact refsL_all ih
  | tup _ ih => exact refsL_all ih
  | _ => rfl

/-- a law whose evaluation answers true, on arguments of which these are weaker readings -/
theorem law_ev {P : Program} {GL : Nat → D} {An : FuncId → Ann} {nc : List Nat} {X : Orc} (hI : ∀ f, SoundI P (An f).its) (hX : SoundO P GL X) (hm : P.follows .mixedOrders = true) {f : FuncId} {ds ds' : List D} {ts : Sto} (hw : WkL ds ds') (h : ev P GL An nc X f ds' [] = some (.ret (.sc (.bool true)), ts)) :
    CallT P GL f ds St.empty (fun r _ => r = .ret (.sc (.bool true))) := by
  have k := ev_sound hI hX hm f ds' [] _ _ h
  have e : stL [] = St.empty := by unfold stL St.empty; congr
  rw [e] at k
  exact (k.weakArgs hw).mono fun r s ⟨h1, _⟩ => h1
end Go.Bw

/- The evaluator, part 17: bytes read as a text. -/
namespace Go.Bw
open Go
section
variable {P : Program} {S : St} {es : Sto} {src dst : TypeId}
theorem cv_nilstr (h1 : isBytes P src = true) (h2 : isStr P dst = true) : convD P S src dst .nils = some (.sc (.string ⟨#[]⟩), S) := by
  obtain ⟨e, q1, q2⟩ := isBytes_spec h1
  simp only [convD, toStrD, q1, h2, isU8, q2, and_self, if_true, sliceCells]
  rfl
theorem cv_ro0 {ex : Bool} (h1 : isBytes P src = true) (h2 : isStr P dst = true) : convD P S src dst (.ro ex []) = some (.sc (.string ⟨#[]⟩), S) :=
  cv_str (s := ⟨#[]⟩) h1 h2
theorem cv_ref {id v : Nat} {s : ByteArray} (h1 : isBytes P src = true) (h2 : isStr P dst = true) (h : rowOf es id = some ⟨v, bytesD s⟩) : convD P (stL es) src dst (.ref id v 1 0 s.size) = some (.sc (.string s), stL es) := by
  obtain ⟨e, q1, q2⟩ := isBytes_spec h1
  obtain ⟨l, p1, p2⟩ := strOf_bytesD s
  have hr : (stL es).tab id = some ⟨v, bytesD s⟩ := h
  simp only [convD, toStrD, q1, h2, isU8, q2, and_self, if_true, sliceCells, hr, bytesD_len, Nat.mul_one, Nat.zero_add, Nat.le_refl, List.drop_zero]
  rw [List.take_of_length_le (by rw [bytesD_len]; exact Nat.le_refl _), p1]
  simp only [Option.map_some, p2, bytesD_len, if_true]
end
attribute [go_sem] cv_nilstr cv_ro0 cv_ref
end Go.Bw

/- The evaluator, part 18: bytes that are all nought. -/
namespace Go.Bw
open Go
def zs (n : Nat) : ByteArray := ⟨Array.replicate n 0⟩
theorem zs_size (n : Nat) : (zs n).size = n := by simp [zs, ByteArray.size]
theorem zs_app (a b : Nat) : zs a ++ zs b = zs (a + b) := by
  apply ByteArray.ext
  rw [ByteArray.data_append]; simp [zs]
theorem rep_zs (n : Nat) : repD [.sc (.int .u8 0)] n = bytesD (zs n) := by
  have : ∀ k, repD [D.sc (.int .u8 0)] k = List.replicate k (.sc (.int .u8 0)) := fun k => by
    induction k with
    | zero => rfl
    | succ k ih => simp [repD, ih, List.replicate_succ]
  rw [this]
  simp [bytesD, zs]
theorem fsE_bytesn {es : Sto} {F : Nat → Bool} {n i v len : Nat} {s : ByteArray} (h : s.size = len) : fsE es F n i v 1 0 len true (some ⟨v, bytesD s⟩) = .ro false (bytesD s) := by
  subst h; exact fsE_bytes
attribute [go_sem] zs_size zs_app rep_zs fsE_bytesn
theorem frzL_eq (acc : List Nat) (l : Fr) (es : Sto) : frzL acc l es = (l.map (fun x => (x.1, frzN es (hasB acc) 20 x.2)), frzSto es (hasB acc) 20) := nr rfl
theorem hasB_eq (acc : List Nat) (i : Nat) : hasB acc i = acc.contains i := nr (by unfold hasB; first | rfl | simp)
attribute [go_sem] frzL_eq hasB_eq
end Go.Bw

/- The evaluator, part 19: orders, once more. -/
namespace Go.Bw
open Go
theorem drF_cons {ins : Bool} {es e0 : Sto} {L : List Sto} {g : Sto → Option (R × Sto)} {d : D} (h : g e0 = some (.ret d, e0)) : drF ins es (e0 :: L) g (some (.ret d, es)) = drF ins es L g (some (.ret d, es)) := by
  have e : (∀ e1 ∈ e0 :: L, g e1 = some (.ret d, e1)) ↔ ∀ e1 ∈ L, g e1 = some (.ret d, e1) := by
    constructor
    · exact fun hh e1 he => hh e1 (List.mem_cons_of_mem _ he)
    · intro hh e1 he
      rcases List.mem_cons.1 he with rfl | he
      · exact h
      · exact hh e1 he
  simp only [drF]
  by_cases hh : ∀ e1 ∈ L, g e1 = some (.ret d, e1)
  · have h2 := e.2 hh
    rw [if_pos ⟨rfl, .inr h2⟩, if_pos ⟨rfl, .inr hh⟩]
  · cases ins
    · rw [if_neg, if_neg]
      · rintro ⟨_, h1 | h1⟩
        · cases h1
        · exact hh h1
      · rintro ⟨_, h1 | h1⟩
        · cases h1
        · exact hh (e.1 h1)
    · rw [if_pos ⟨rfl, .inl rfl⟩, if_pos ⟨rfl, .inl rfl⟩]
attribute [go_sem] drF_cons
end Go.Bw

/- The evaluator, part 20: slices of slices; bytes behind bytes that stand in a row. -/
namespace Go.Bw
open Go
theorem ren_ro' {ρ : Nat → Nat → Nat × Nat} (ex : Bool) (l : List D) : (D.ro ex l).ren ρ = .ro ex (D.renL ρ l) := nr (by simp only [D.ren])
theorem app_src {P : Program} {es : Sto} {t1 t2 : TypeId} (hb : ByteSlX P t1 t2) {x : D} {id v : Nat} {s : ByteArray} (h : rowOf es id = some ⟨v, bytesD s⟩) : appM P es #[t1, t2] [x, .ref id v 1 0 s.size] = appM P es #[t1, t2] [x, .ro false (bytesD s)] := by
  obtain ⟨e, hb⟩ := hb
  have hr : (stL es).tab id = some ⟨v, bytesD s⟩ := h
  have e1 : newCells P (stL es) (some t2) [.sc (.int .u8 0)] (.ref id v 1 0 s.size) = newCells P (stL es) (some t2) [.sc (.int .u8 0)] (.ro false (bytesD s)) := by
    simp only [newCells, hb.ii, hb.un, sliceCells, hr, bytesD_cells, bytesD_len, Nat.mul_one, Nat.zero_add, Nat.le_refl, and_self, if_true, List.drop_zero]
    rw [List.take_of_length_le (by rw [bytesD_len]; exact Nat.le_refl _)]
  rw [appM_two, appM_two]
  simp only [appendD, List.getElem?_toArray, List.getElem?_cons_zero, List.getElem?_cons_succ, hb.el, hb.ze, e1]
attribute [go_sem] ren_ro'
attribute [go_sem high] app_src
end Go.Bw

/- The evaluator, part 21: bits of numbers. -/
namespace Go.Bw
open Go
theorem ofInt_nat {w n : Nat} (h : n < 2 ^ w) : (BitVec.ofInt w (n : Int)).toNat = n := by
  rw [BitVec.toNat_ofInt]
  have : ((n : Int) % ((2 ^ w : Nat) : Int)) = ((n % 2 ^ w : Nat) : Int) := by push_cast; rfl
  rw [this, Nat.mod_eq_of_lt h]; rfl
theorem bits_and {w : Nat} {x m : Int} {k : Nat} (hm : m = (2 ^ k : Nat) - 1) (h0 : 0 ≤ x) (h1 : x < (2 ^ w : Nat)) (hk : k ≤ w) : ((BitVec.ofInt w x &&& BitVec.ofInt w m).toNat : Int) = x % (2 ^ k : Nat) := by
  subst hm
  obtain ⟨n, rfl⟩ := Int.eq_ofNat_of_zero_le h0
  have hn : n < 2 ^ w := by exact_mod_cast h1
  have hp : 0 < 2 ^ k := Nat.two_pow_pos k
  have e : ((2 ^ k : Nat) - 1 : Int) = ((2 ^ k - 1 : Nat) : Int) := by omega
  have hlt : 2 ^ k - 1 < 2 ^ w := by have := Nat.pow_le_pow_right (n := 2) (by omega) hk; omega
  rw [e, BitVec.toNat_and, ofInt_nat hn, ofInt_nat hlt, Nat.and_two_pow_sub_one_eq_mod]
  push_cast; rfl
theorem bits_or {w : Nat} {x y : Int} {k : Nat} (h0 : 0 ≤ x) (h1 : x * (2 ^ k : Nat) + y < (2 ^ w : Nat)) (y0 : 0 ≤ y) (y1 : y < (2 ^ k : Nat)) : ((BitVec.ofInt w (x * (2 ^ k : Nat)) ||| BitVec.ofInt w y).toNat : Int) = x * (2 ^ k : Nat) + y := by
  obtain ⟨n, rfl⟩ := Int.eq_ofNat_of_zero_le h0
  obtain ⟨m, rfl⟩ := Int.eq_ofNat_of_zero_le y0
  have hm : m < 2 ^ k := by exact_mod_cast y1
  have hs : n * 2 ^ k + m < 2 ^ w := by exact_mod_cast h1
  have e : ((n : Int) * (2 ^ k : Nat)) = ((n * 2 ^ k : Nat) : Int) := by push_cast; rfl
  rw [e, BitVec.toNat_or, ofInt_nat (by omega), ofInt_nat (by omega)]
  have := Nat.two_pow_add_eq_or_of_lt hm n
  rw [Nat.mul_comm n (2 ^ k), ← this]
  push_cast; rfl
/-- and, or, of two numbers of a kind -/
def andB (k : IntKind) (a b : Int) : Int := k.wrap (BitVec.ofInt k.bits a &&& BitVec.ofInt k.bits b).toNat
def orB (k : IntKind) (a b : Int) : Int := k.wrap (BitVec.ofInt k.bits a ||| BitVec.ofInt k.bits b).toNat
section
variable {P : Program} {t : TypeId} {xo yo : Operand} {k : IntKind} {a b : Int}
theorem bin_andB : binD P .and t xo yo (.sc (.int k a)) (.sc (.int k b)) = some (.sc (.int k (andB k a b))) := by cases k <;> rfl
theorem bin_orB : binD P .or t xo yo (.sc (.int k a)) (.sc (.int k b)) = some (.sc (.int k (orB k a b))) := by cases k <;> rfl
end
attribute [go_sem high] bin_andB bin_orB
theorem mod_le {x : Int} {m : Nat} (hp : 0 < m) (h0 : 0 ≤ x) : 0 ≤ x % (m : Int) ∧ x % (m : Int) ≤ x := by
  obtain ⟨n, rfl⟩ := Int.eq_ofNat_of_zero_le h0
  have : ((n : Int) % (m : Int)) = ((n % m : Nat) : Int) := by push_cast; rfl
  rw [this]
  have := Nat.mod_le n m
  omega
theorem and_u8 {x m : Int} (j : Nat) (hm : m = (2 ^ j : Nat) - 1) (hj : j ≤ 8) (h0 : 0 ≤ x) (h1 : x < 256) : andB .u8 x m = x % (2 ^ j : Nat) := by
  have e : ((BitVec.ofInt IntKind.u8.bits x &&& BitVec.ofInt IntKind.u8.bits m).toNat : Int) = x % (2 ^ j : Nat) := bits_and (w := 8) hm h0 (by simpa using h1) hj
  unfold andB
  have := mod_le (Nat.two_pow_pos j) h0
  rw [e, fit_u8 this.1 (by omega)]
theorem or_u32 {x y z : Int} (j : Nat) (hz : z = x * (2 ^ j : Nat)) (h0 : 0 ≤ x) (h1 : x * (2 ^ j : Nat) + y < 4294967296) (y0 : 0 ≤ y) (y1 : y < (2 ^ j : Nat)) : orB .u32 z y = z + y := by
  subst hz
  have e : ((BitVec.ofInt IntKind.u32.bits (x * (2 ^ j : Nat)) ||| BitVec.ofInt IntKind.u32.bits y).toNat : Int) = x * (2 ^ j : Nat) + y := bits_or (w := 32) h0 (by simpa using h1) y0 y1
  unfold orB
  have := Int.mul_nonneg h0 (Int.natCast_nonneg (2 ^ j))
  rw [e, fit_u32 (by omega) (by omega)]
end Go.Bw

/- The evaluator, part 22: lists that are built behind other rows. -/
namespace Go.Bw
open Go
section
variable {α : Type} {f : α → D} {sz : Nat}
theorem fsE_rowE (h : EncOk f sz) {es : Sto} {F : Nat → Bool} {n i v len : Nat} {l : List α} (hl : l.length = len) : fsE es F n i v sz 0 len true (some ⟨v, rowE f l⟩) = .ro false (l.map f) := by
  subst hl
  have hm : (rowE f l).map (frzN es F n) = rowE f l := map_free (fun d hd => frz_free hd) (h.row_refs l)
  simp only [fsE, hm]
  rw [if_pos ⟨trivial, h.pos, by rw [h.row_len]; omega, h.row_one l⟩]
  rw [List.drop_zero, List.take_of_length_le (by rw [h.row_len]; omega), h.row_cut]
/-- what has been built of a list in row 'm' -/
def accB (m sz : Nat) (l : List α) : D := match l with | [] => .nils | _ :: _ => .ref m 0 sz 0 l.length
def stoB (f : α → D) (pre : Sto) (l : List α) : Sto := match l with | [] => pre | _ :: _ => pre ++ [some ⟨0, rowE f l⟩]
theorem accB_nil (m : Nat) : accB m sz ([] : List α) = .nils := rfl
theorem stoB_nil (pre : Sto) : stoB f pre ([] : List α) = pre := rfl
theorem accB_cons (m : Nat) (x : α) (l : List α) : accB m sz (x :: l) = .ref m 0 sz 0 (l.length + 1) := rfl
theorem stoB_cons (pre : Sto) (x : α) (l : List α) : stoB f pre (x :: l) = pre ++ [some ⟨0, rowE f (x :: l)⟩] := rfl
theorem accB_snoc (m : Nat) (x : α) (l : List α) : accB m sz (l ++ [x]) = .ref m 0 sz 0 (l.length + 1) := by cases l <;> simp [accB]
theorem stoB_snoc (pre : Sto) (x : α) (l : List α) : stoB f pre (l ++ [x]) = pre ++ [some ⟨0, rowE f l ++ (f x).cells⟩] := by
  rw [rowE_snoc]; cases l <;> rfl
end
theorem map_canB (s : ByteArray) : (bytesD s).map D.can = bytesD s := by rw [← D.canL_map]; exact canL_bytesD s
attribute [go_sem] map_canB
/-- numbers of a kind -/
def nums (k : IntKind) (n : Int) : D := .sc (.int k n)
theorem numsOk (k : IntKind) : EncOk (nums k) 1 := ⟨fun _ => rfl, by decide, fun _ => rfl, fun _ => rfl, fun _ => rfl, fun _ => rfl⟩
theorem nums_can (k : IntKind) (n : Int) : (nums k n).can = nums k n := nr rfl
theorem nums_refs (k : IntKind) (n : Int) : (nums k n).refs = [] := nr rfl
theorem nums_canL (k : IntKind) (l : List Int) : D.canL (l.map (nums k)) = l.map (nums k) := (numsOk k).mapcan l
theorem nums_refsL (k : IntKind) (l : List Int) : D.refsL (l.map (nums k)) = [] := by
  induction l with
  | nil => rfl
  | cons a l ih => simp only [List.map_cons, D.refsL, ih, nums_refs, List.nil_append]
theorem nums_row (k : IntKind) (l : List Int) : D.refsL (rowE (nums k) l) = [] := (numsOk k).row_refs l
theorem fsE_nums {k : IntKind} {es : Sto} {F : Nat → Bool} {n i v len : Nat} {l : List Int} (hl : l.length = len) : fsE es F n i v 1 0 len true (some ⟨v, rowE (nums k) l⟩) = .ro false (l.map (nums k)) := fsE_rowE (numsOk k) hl
theorem rowE_nums_len (k : IntKind) (l : List Int) : (rowE (nums k) l).length = l.length := by rw [(numsOk k).row_len]; omega
attribute [go_sem] nums_can nums_refs nums_canL nums_refsL nums_row fsE_nums rowE_nums_len
theorem rowE_nums (k : IntKind) : ∀ l : List Int, rowE (nums k) l = l.map (nums k)
  | [] => rfl
  | a :: l => by rw [rowE_cons, rowE_nums k l]; rfl
theorem nums_rowcan (k : IntKind) (l : List Int) : (rowE (nums k) l).map D.can = rowE (nums k) l := by rw [rowE_nums, ← D.canL_map]; exact nums_canL k l
attribute [go_sem] nums_rowcan
/-! texts in their order -/
def txtLe (a b : ByteArray) : Bool := Op.bytesLess a.toList b.toList || a.toList == b.toList
section
variable {P : Program} {t : TypeId} {xo yo : Operand} {a b : ByteArray}
theorem bin_sleq : binD P .leq t xo yo (.sc (.string a)) (.sc (.string b)) = some (.sc (.bool (txtLe a b))) := rfl
end
attribute [go_sem] bin_sleq Nat.mul_one Nat.zero_add Nat.add_zero
end Go.Bw

/- The evaluator, part 23: how much what is read of slices holds. -/
namespace Go.Bw
open Go
section
variable {P : Program}







end
end Go.Bw

/- The evaluator, part 24: slices against nil; one byte; a loop's first round; whole numbers as floating ones. -/
namespace Go.Bw
open Go
theorem lpK_go {P : Program} {GL : Nat → D} {C : Orc} {A : Ann} {m0 k : Nat} {K : List Kt} {l : Fr} {es : Sto} {ks : List Nat} {c : Code} : lpK P GL C A m0 k K ks c l es = run P GL C A m0 k (.lp ks c k :: K) c l es := by
  have key : lpK P GL C A m0 k K ks c l es = run P GL C A m0 k (.lp ks c k :: K) c l es := by
    unfold lpK
    rw [evL_eq]
    rfl
  exact key
section
variable {P : Program} {t : TypeId} {xo yo : Operand}
theorem isSl_spec {t : TypeId} (h : isSl P t = true) : ∃ e, P.underlying t = some (.slice e) := by
  unfold isSl at h; split at h
  · exact ⟨_, by assumption⟩
  · cases h
variable (h : isSl P t = true)
include h
theorem bin_ref_eql (i v a b c : Nat) : binD P .eql t xo yo (.ref i v a b c) .nils = some (.sc (.bool false)) := by obtain ⟨e, h⟩ := isSl_spec h; simp [binD, toVal, toVal1, unlikeNil, h]
theorem bin_ref_neq (i v a b c : Nat) : binD P .neq t xo yo (.ref i v a b c) .nils = some (.sc (.bool true)) := by obtain ⟨e, h⟩ := isSl_spec h; simp [binD, toVal, toVal1, unlikeNil, h]
theorem bin_roc_eql (ex : Bool) (d : D) (l : List D) : binD P .eql t xo yo (.ro ex (d :: l)) .nils = some (.sc (.bool false)) := by obtain ⟨e, h⟩ := isSl_spec h; simp [binD, toVal, toVal1, unlikeNil, h]
theorem bin_roc_neq (ex : Bool) (d : D) (l : List D) : binD P .neq t xo yo (.ro ex (d :: l)) .nils = some (.sc (.bool true)) := by obtain ⟨e, h⟩ := isSl_spec h; simp [binD, toVal, toVal1, unlikeNil, h]
theorem eq_nils : pureRun P (Op.equal t (.slice none 0 0) (.slice none 0 0)) = some true := by
  obtain ⟨e, h⟩ := isSl_spec h
  unfold Op.equal Op.maxDepth
  rw [show (10000 : Nat) = 9999 + 1 from rfl]
  unfold Op.equalIn
  rw [pureRun_bind, pureRun_underlying h]
  rfl
theorem bin_nils_eql : binD P .eql t xo yo .nils .nils = some (.sc (.bool true)) := by
  simp only [binD, toVal, toVal1, pureD, eqGuard, binOp]
  simp only [pureRun_bind, pureRun_pure, eq_nils h, Option.bind_some, resD]
  first | rfl | simp [pureRun_bind, pureRun_pure, eq_nils h, resD]
theorem bin_nils_neq : binD P .neq t xo yo .nils .nils = some (.sc (.bool false)) := by
  simp only [binD, toVal, toVal1, pureD, eqGuard, binOp]
  simp only [pureRun_bind, pureRun_pure, eq_nils h, Option.bind_some, resD]
  first | rfl | simp [pureRun_bind, pureRun_pure, eq_nils h, resD]
end
attribute [go_sem] bin_ref_eql bin_ref_neq bin_roc_eql bin_roc_neq bin_nils_eql bin_nils_neq
/-- one byte -/
def b1 (n : Int) : ByteArray := ⟨#[UInt8.ofNat n.toNat]⟩
theorem b1_size (n : Int) : (b1 n).size = 1 := nr rfl
theorem one_b1 {ex : Bool} {n : Int} (h0 : 0 ≤ n) (h1 : n ≤ 255) : D.ro ex [.sc (.int .u8 n)] = .ro ex (bytesD (b1 n)) := by
  have e : (((UInt8.ofNat n.toNat).toNat : Nat) : Int) = n := by
    rw [UInt8.toNat_ofNat']
    omega
  simp only [bytesD, b1, List.map_cons, List.map_nil, e]
theorem lo8_le (n : Int) : (0 ≤ n % 256) = True := by simp; omega
theorem lo8_lt (n : Int) : (n % 256 ≤ 255) = True := by simp; omega
attribute [go_sem] b1_size lo8_le lo8_lt wrap_u8
theorem conv_i2f {P : Program} {S : St} {s t : TypeId} {k : FloatKind} {n : Int} (h1 : P.underlying s = some (.int .i64)) (h2 : P.underlying t = some (.float k)) : convD P S s t (.sc (.int .i64 n)) = some (.sc (.float k (k.nearest n)), S) := by
  simp [convD, pureD, convert, pureRun_bind, pureRun_underlying h1, pureRun_underlying h2, Conv.intToFloat, pureRun_pure, resD]
theorem complex_b {P : Program} {ats : Array TypeId} {ty : TypeId} {k : FloatKind} {a b : Nat} : pureD P (Builtin.complex_ ats ty #[.float k a, .float k b]) = some (.sc (.complex k a b)) := by
  show pureD P (if k = k then pure (.complex k a b) else stuck "complex: parts of different kinds") = _
  rw [if_pos rfl]; rfl
theorem real_b {P : Program} {ats : Array TypeId} {ty : TypeId} {k : FloatKind} {a b : Nat} : pureD P (Builtin.real_ ats ty #[.complex k a b]) = some (.sc (.float k a)) := nr rfl
theorem imag_b {P : Program} {ats : Array TypeId} {ty : TypeId} {k : FloatKind} {a b : Nat} : pureD P (Builtin.imag_ ats ty #[.complex k a b]) = some (.sc (.float k b)) := nr rfl
theorem fleq_b {P : Program} {t : TypeId} {xo yo : Operand} {k : FloatKind} {a b : Nat} (h : P.underlying t = some (.float k)) : binD P .leq t xo yo (.sc (.float k a)) (.sc (.float k b)) = some (.sc (.bool (k.format.order a b == some .lt || k.format.order a b == some .eq))) := by
  simp only [binD, toVal, toVal1, pureD, eqGuard, binOp]
  simp [pureRun_bind, pureRun_underlying h, Op.floatCmp, pureRun_pure, resD]
theorem flss_b {P : Program} {t : TypeId} {xo yo : Operand} {k : FloatKind} {a b : Nat} (h : P.underlying t = some (.float k)) : binD P .lss t xo yo (.sc (.float k a)) (.sc (.float k b)) = some (.sc (.bool (k.format.order a b == some .lt))) := by
  simp only [binD, toVal, toVal1, pureD, eqGuard, binOp]
  simp [pureRun_bind, pureRun_underlying h, Op.floatCmp, pureRun_pure, resD]
end Go.Bw

/- The evaluator, part 25: a part of a row of bytes, read as a text. -/
namespace Go.Bw
open Go
theorem bytesD_part (s : ByteArray) (off n : Nat) : ((bytesD s).drop off).take n = bytesD (s.extract off (off + n)) := by
  unfold bytesD
  rw [← List.map_drop, ← List.map_take]
  congr 1
  rw [ByteArray.data_extract, Array.toList_extract]
  simp [List.extract_eq_take_drop]
section
variable {P : Program} {es : Sto} {src dst : TypeId}
end
end Go.Bw
attribute [go_sem_proc ↓] reduceIte
attribute [go_sem_proc] Nat.reduceEqDiff Nat.reduceAdd Nat.reduceSub Nat.reduceMul Nat.reduceLeDiff Nat.reduceLT Nat.reduceBEq Nat.reduceDiv Nat.reduceMod Int.reduceLE Int.reduceLT Int.reduceEq Int.reduceBEq Int.reduceBNe Int.reduceAdd Int.reduceSub Int.reduceNeg Int.reduceToNat Int.reduceMul Int.reducePow Nat.reducePow reduceCtorEq

/- The evaluator, part 26: closed runs, by fuel, for the kernel. -/
namespace Go.Bw
open Go

def lEq : List UInt8 → List UInt8 → Bool
  | [], [] => true
  | x :: a, y :: b => x.toNat == y.toNat && lEq a b
  | _, _ => false
theorem lEq_eq : ∀ {a b : List UInt8}, lEq a b = true → a = b
  | [], [], _ => rfl
  | x :: a, y :: b, h => by
    simp only [lEq, Bool.and_eq_true, beq_iff_eq] at h
    rw [UInt8.toNat_inj.1 h.1, lEq_eq h.2]
  | [], _ :: _, h => by cases h
  | _ :: _, [], h => by cases h
def vEq : Value → Value → Bool
  | .bool a, .bool b => a == b
  | .int k n, .int j m => decide (k = j) && decide (n = m)
  | .float k n, .float j m => decide (k = j) && n == m
  | .complex k a b, .complex j c d => decide (k = j) && a == c && b == d
  | .string a, .string b => lEq a.data.toList b.data.toList
  | _, _ => false
theorem vEq_eq : ∀ {a b : Value}, vEq a b = true → a = b := by
  intro a b h
  unfold vEq at h
  split at h
  · simp_all
  · simp_all
  · simp_all
  · simp_all
  · rename_i a b
    have := lEq_eq h
    rw [Array.toList_inj] at this
    rw [ByteArray.ext this]
  · cases h
mutual
def dEq : D → D → Bool
  | .sc a, .sc b => vEq a b
  | .nilp, .nilp => true
  | .ptr a b c, .ptr x y z => a == x && b == y && c == z
  | .rp l, .rp m => dEqL l m
  | .nils, .nils => true
  | .ro e l, .ro f m => e == f && dEqL l m
  | .ref a b c d e, .ref x y z u v => a == x && b == y && c == z && d == u && e == v
  | .fn f a b, .fn g x y => decide (f = g) && dEqL a x && dEqL b y
  | .nilfn, .nilfn => true
  | .ifc t d, .ifc u e => t == u && dEq d e
  | .nilifc, .nilifc => true
  | .mp a b, .mp x y => dEqL a x && dEqL b y
  | .agg l, .agg m => dEqL l m
  | .tup l, .tup m => dEqL l m
  | .undef, .undef => true
  | _, _ => false
def dEqL : List D → List D → Bool
  | [], [] => true
  | a :: l, b :: m => dEq a b && dEqL l m
  | _, _ => false
end
mutual
theorem dEq_eq : ∀ (a b : D), dEq a b = true → a = b := fun a b h => by
  cases a with
  | sc a => cases b <;> simp only [dEq] at h <;> first | cases h | rw [vEq_eq h]
  | rp l => cases b <;> simp only [dEq] at h <;> first | cases h | rw [dEqL_eq _ _ h]
  | agg l => cases b <;> simp only [dEq] at h <;> first | cases h | rw [dEqL_eq _ _ h]
  | tup l => cases b <;> simp only [dEq] at h <;> first | cases h | rw [dEqL_eq _ _ h]
  | ro e l =>
    cases b with
    | ro f m =>
      simp only [dEq, Bool.and_eq_true, beq_iff_eq] at h
      rw [h.1, dEqL_eq l m h.2]
    | _ => simp [dEq] at h
  | ifc t d =>
    cases b with
    | ifc u e =>
      simp only [dEq, Bool.and_eq_true, beq_iff_eq] at h
      rw [h.1, dEq_eq d e h.2]
    | _ => simp [dEq] at h
  | fn f x y =>
    cases b with
    | fn g u v =>
      simp only [dEq, Bool.and_eq_true, decide_eq_true_eq] at h
      rw [h.1.1, dEqL_eq x u h.1.2, dEqL_eq y v h.2]
    | _ => simp [dEq] at h
  | mp x y =>
    cases b with
    | mp u v =>
      simp only [dEq, Bool.and_eq_true] at h
      rw [dEqL_eq x u h.1, dEqL_eq y v h.2]
    | _ => simp [dEq] at h
  | ptr x y z =>
    cases b with
    | ptr u v t => simp only [dEq, Bool.and_eq_true, beq_iff_eq] at h; rw [h.1.1, h.1.2, h.2]
    | _ => simp [dEq] at h
  | ref x y z p q =>
    cases b with
    | ref u v t r s => simp only [dEq, Bool.and_eq_true, beq_iff_eq] at h; rw [h.1.1.1.1, h.1.1.1.2, h.1.1.2, h.1.2, h.2]
    | _ => simp [dEq] at h
  | nilp => cases b <;> first | rfl | (simp [dEq] at h)
  | nils => cases b <;> first | rfl | (simp [dEq] at h)
  | nilfn => cases b <;> first | rfl | (simp [dEq] at h)
  | nilifc => cases b <;> first | rfl | (simp [dEq] at h)
  | undef => cases b <;> first | rfl | (simp [dEq] at h)
theorem dEqL_eq : ∀ (a b : List D), dEqL a b = true → a = b
  | [], [], _ => rfl
  | a :: l, b :: m, h => by
    simp only [dEqL, Bool.and_eq_true] at h
    rw [dEq_eq a b h.1, dEqL_eq l m h.2]
  | [], _ :: _, h => by cases h
  | _ :: _, [], h => by cases h
end
def oEq : Option En → Option En → Bool
  | none, none => true
  | some a, some b => a.ver == b.ver && dEqL a.ob b.ob
  | _, _ => false
def sEq : Sto → Sto → Bool
  | [], [] => true
  | a :: l, b :: m => oEq a b && sEq l m
  | _, _ => false
theorem sEq_eq : ∀ {a b : Sto}, sEq a b = true → a = b
  | [], [], _ => rfl
  | a :: l, b :: m, h => by
    simp only [sEq, Bool.and_eq_true] at h
    have h1 : a = b := by
      have h0 := h.1
      cases a with
      | none => cases b with
        | none => rfl
        | some b => simp [oEq] at h0
      | some a => cases b with
        | none => simp [oEq] at h0
        | some b =>
          simp only [oEq, Bool.and_eq_true, beq_iff_eq] at h0
          obtain ⟨x, y⟩ := a; obtain ⟨u, v⟩ := b
          have h2 := dEqL_eq _ _ h0.2
          simp only at h0 h2
          rw [h0.1, h2]
    rw [h1, sEq_eq h.2]
  | [], _ :: _, h => by cases h
  | _ :: _, [], h => by cases h
def fEq : Fr → Fr → Bool
  | [], [] => true
  | (i, a) :: l, (j, b) :: m => i == j && dEq a b && fEq l m
  | _, _ => false
theorem fEq_eq : ∀ {a b : Fr}, fEq a b = true → a = b
  | [], [], _ => rfl
  | (i, a) :: l, (j, b) :: m, h => by
    simp only [fEq, Bool.and_eq_true, beq_iff_eq] at h
    rw [h.1.1, dEq_eq _ _ h.1.2, fEq_eq h.2]
  | [], _ :: _, h => by cases h
  | _ :: _, [], h => by cases h

section
variable (P : Program) (GL : Nat → D) (C : Orc)

def vCall (C : Orc) (fd : D) (ds : List D) (es : Sto) (er : List Sto) : Option D :=
  match fd with
  | .fn (.func f) first caps => match gcA 0 (first ++ ds ++ caps) es with
    | some (ids, ds1, es1) => match C f ds1 es1 with
      | some (r, ts) => match unpk es ids (some (r, ts)) with
        | some (.ret d, es') => if (sEq es' es && er.all fun e1 => match gcA 0 (first ++ ds ++ caps) e1 with
            | some (ids1, ds2, es2) => dEqL ds2 ds1 && sEq es2 es1 && (match unpk e1 ids1 (some (r, ts)) with
              | some (.ret d1, e2) => dEq d1 d && sEq e2 e1
              | _ => false)
            | none => false) = true then some d else none
        | _ => none
      | none => none
    | none => none
  | _ => none
theorem vCall_ok {C : Orc} {fd : D} {ds : List D} {es : Sto} {er : List Sto} {d : D} (h : vCall C fd ds es er = some d) : callV C fd ds es = some (.ret d, es) ∧ ∀ e1 ∈ er, callV C fd ds e1 = some (.ret d, e1) := by
  unfold vCall at h
  split at h
  case h_2 => cases h
  rename_i f first caps
  split at h
  case h_2 => cases h
  rename_i ids ds1 es1 hg
  split at h
  case h_2 => cases h
  rename_i r ts hc
  split at h
  case h_2 => cases h
  rename_i d0 es' hu
  split at h
  case isFalse => cases h
  rename_i hb
  simp only [Option.some.injEq] at h
  subst h
  simp only [Bool.and_eq_true, List.all_eq_true] at hb
  have e0 := sEq_eq hb.1
  subst e0
  refine ⟨?_, fun e1 he => ?_⟩
  · show callE C f _ _ = _
    unfold callE
    rw [hg]
    show unpk _ ids (C f ds1 es1) = _
    rw [hc, hu]
  · have h1 := hb.2 e1 he
    show callE C f _ _ = _
    unfold callE
    split at h1
    case h_2 => cases h1
    rename_i ids1 ds2 es2 hg1
    simp only [Bool.and_eq_true] at h1
    obtain ⟨⟨a1, a2⟩, a3⟩ := h1
    have b1 := dEqL_eq _ _ a1
    have b2 := sEq_eq a2
    subst b1 b2
    split at a3
    case h_2 => cases a3
    rename_i d1 e2 hu1
    simp only [Bool.and_eq_true] at a3
    have c1 := dEq_eq _ _ a3.1
    have c2 := sEq_eq a3.2
    subst c1 c2
    rw [hg1]
    show unpk _ ids1 (C f ds2 es2) = _
    rw [hc, hu1]

def drOpN (lo : Nat) (E : Nat → D) (es : Sto) (er : List Sto) (o : Oper) : Option D :=
  match calleeOf o with
  | some (f, args) => vCall C (rhoD E GL f) (args.map (rhoD E GL)) es (er.take (er.length - lo))
  | none => match opL P E GL es o with
    | some (d, es') => if (insens o || (sEq es' es && (er.take (er.length - lo)).all fun e1 => match opL P E GL e1 o with
        | some (d1, e2) => dEq d1 d && sEq e2 e1
        | none => false)) = true then some d else none
    | none => none
theorem drOpN_ok {lo : Nat} {E : Nat → D} {es : Sto} {er : List Sto} {o : Oper} {d : D} (h : drOpN P GL C lo E es er o = some d) : drOp P GL C lo E es er o = some d := by
  unfold drOpN at h
  unfold drOp
  split at h
  · rename_i f args hc
    obtain ⟨h1, h2⟩ := vCall_ok h
    rw [hc]
    dsimp only
    rw [h1]
    exact if_pos ⟨rfl, h2⟩
  · rename_i hc
    split at h
    · rename_i d0 es' ho
      split at h
      · rename_i hb
        simp only [Option.some.injEq] at h
        subst h
        simp only [Bool.or_eq_true, Bool.and_eq_true, List.all_eq_true] at hb
        rw [hc]
        dsimp only
        rw [ho]
        refine if_pos ?_
        rcases hb with hb | ⟨h1, h2⟩
        · exact .inl hb
        · refine .inr ⟨sEq_eq h1, fun e1 he => ?_⟩
          have := h2 e1 he
          split at this
          · rename_i d1 e2 hx
            simp only [Bool.and_eq_true] at this
            have c1 := dEq_eq _ _ this.1
            have c2 := sEq_eq this.2
            subst c1 c2
            exact hx
          · cases this
      · cases h
    · cases h

def evDrawN (ops : Array Oper) : List (Oper × Nat × Bool) → List Sto → Fr → Option Out
  | [], e :: _, l => some (.normal, l, e)
  | [], [], _ => none
  | _ :: _, [], _ => none
  | (o, lo, true) :: rest, e :: er, l => thC (stG (guardD ops (ofL l) o.guard) (exOp P GL C [] (ofL l) e o) o.dst l e) (fun l' e' => evDrawN ops rest (e' :: e :: er) l')
  | (o, lo, false) :: rest, e :: er, l => thD (dsG (guardD ops (ofL l) o.guard) (drOpN P GL C lo (ofL l) e er o)) o.dst l (evDrawN ops rest (e :: er))
theorem thC_imp {x y : Option Out} {k j : Fr → Sto → Option Out} {z : Out} (h : thC x k = some z) (hx : ∀ w, x = some w → y = some w) (hk : ∀ l es w, k l es = some w → j l es = some w) : thC y j = some z := by
  unfold thC at h
  split at h
  · rename_i l es hl
    rw [hx _ rfl]
    exact hk _ _ _ h
  · cases h
theorem evDrawN_ok (ops : Array Oper) : ∀ (plan : List (Oper × Nat × Bool)) (Ss : List Sto) (l : Fr) (x : Out), evDrawN P GL C ops plan Ss l = some x → evDraw P GL C ops plan Ss l = some x
  | [], e :: _, l, x, h => h
  | [], [], _, _, h => by cases h
  | _ :: _, [], _, _, h => by simp [evDrawN] at h
  | (o, lo, true) :: rest, e :: er, l, x, h => by
    simp only [evDrawN] at h
    simp only [evDraw]
    exact thC_imp h (fun _ hw => hw) fun l' e' w hw => evDrawN_ok ops rest _ l' w hw
  | (o, lo, false) :: rest, e :: er, l, x, h => by
    simp only [evDrawN] at h
    simp only [evDraw]
    unfold thD at h
    split at h
    · rename_i d hd
      have : dsG (guardD ops (ofL l) o.guard) (drOp P GL C lo (ofL l) e er o) = some d := by
        unfold dsG at hd ⊢
        split at hd
        · unfold dsp at hd ⊢
          split at hd
          · rename_i hb; rw [if_pos hb]; exact drOpN_ok P GL C hd
          · rename_i hb; rw [if_neg hb]; exact hd
        · cases hd
      rw [this]
      exact evDrawN_ok ops rest _ _ x h
    · cases h

def agrN (m0 : Nat) (o : Option (List Nat)) (y : Option Out) (l : Fr) (es : Sto) : Option Out :=
  thT (tidyK m0 o l es) fun l1 e1 => thC y fun l2 e2 => thT (tidyK m0 o l2 e2) fun l3 e3 => if (fEq l1 l3 && sEq e1 e3) = true then some (.normal, l1, e1) else none
theorem thT_imp {x : Option (Fr × Sto)} {k j : Fr → Sto → Option Out} {z : Out} (h : thT x k = some z) (hk : ∀ l es w, k l es = some w → j l es = some w) : thT x j = some z := by
  unfold thT at h ⊢
  split at h
  · exact hk _ _ _ h
  · cases h
theorem agrN_ok {m0 : Nat} {o : Option (List Nat)} {y y' : Option Out} {l : Fr} {es : Sto} {x : Out} (hy : ∀ w, y = some w → y' = some w) (h : agrN m0 o y l es = some x) : agr m0 o y' l es = some x := by
  unfold agrN at h
  unfold agr
  refine thT_imp h fun l1 e1 w hw => thC_imp hw hy fun l2 e2 w hw => thT_imp hw fun l3 e3 w hw => ?_
  split at hw
  · rename_i hb
    simp only [Bool.and_eq_true] at hb
    rw [if_pos ⟨fEq_eq hb.1, sEq_eq hb.2⟩]
    exact hw
  · cases hw
def evTwoN (ops : Array Oper) (m0 : Nat) (o : Option (List Nat)) (plan : Plan) (p2 : Option Plan) (l : Fr) (es : Sto) : Option Out :=
  match p2 with
  | none => evDrawN P GL C ops (planOps ops plan) [es] l
  | some [] => none
  | some (_ :: p2) => thC (evDrawN P GL C ops (planOps ops plan) [es] l) (agrN m0 o (evDrawN P GL C ops (planOps ops p2) [es] l))
theorem evTwoN_ok {ops : Array Oper} {m0 : Nat} {o : Option (List Nat)} {plan : Plan} {p2 : Option Plan} {l : Fr} {es : Sto} {x : Out} (h : evTwoN P GL C ops m0 o plan p2 l es = some x) : evTwo P GL C ops m0 o plan p2 l es = some x := by
  unfold evTwoN at h
  unfold evTwo
  split at h
  · exact evDrawN_ok P GL C _ _ _ _ _ h
  · cases h
  · exact thC_imp h (fun w hw => evDrawN_ok P GL C _ _ _ _ _ hw) fun l es w hw => agrN_ok (fun w hw => evDrawN_ok P GL C _ _ _ _ _ hw) hw
def evPanN (ops : Array Oper) (p : Option Plan) (l : Fr) (es : Sto) (k : Option Out) : Option Out :=
  match p with
  | none => k
  | some [] => none
  | some ((i, _, _) :: pre) => thC (evDrawN P GL C ops (planOps ops pre) [es] l) fun l1 e1 => panX P GL C ops ops[i]? l1 e1 k
theorem panX_imp {ops : Array Oper} {o : Option Oper} {l : Fr} {es : Sto} {k j : Option Out} {x : Out} (h : panX P GL C ops o l es k = some x) (hk : ∀ w, k = some w → j = some w) : panX P GL C ops o l es j = some x := by
  unfold panX at h ⊢
  split at h
  · unfold panC at h ⊢
    split at h
    · exact h
    · exact hk _ h
    · cases h
  · cases h
theorem evPanN_ok {ops : Array Oper} {p : Option Plan} {l : Fr} {es : Sto} {k j : Option Out} {x : Out} (h : evPanN P GL C ops p l es k = some x) (hk : ∀ w, k = some w → j = some w) : evPan P GL C ops p l es j = some x := by
  unfold evPanN at h
  unfold evPan
  split at h
  · exact hk _ h
  · cases h
  · exact thC_imp h (fun w hw => evDrawN_ok P GL C _ _ _ _ _ hw) fun l es w hw => panX_imp P GL C hw hk
def evAllN (ops : Array Oper) (m0 : Nat) (A : Ann) (id : Nat) (plan : Plan) (l : Fr) (es : Sto) : Option Out :=
  evPanN P GL C ops (look A.plan (4000000 + id)) l es (evPanN P GL C ops (look A.plan (5000000 + id)) l es (evTwoN P GL C ops m0 (look A.keep (2000000 + id)) plan (look A.plan (1000000 + id)) l es))
theorem evAllN_ok {ops : Array Oper} {m0 : Nat} {A : Ann} {id : Nat} {plan : Plan} {l : Fr} {es : Sto} {x : Out} (h : evAllN P GL C ops m0 A id plan l es = some x) : evAll P GL C ops m0 A id plan l es = some x :=
  evPanN_ok P GL C h fun _ h => evPanN_ok P GL C h fun _ h => evTwoN_ok P GL C h

def scpN (N m0 : Nat) (A : Ann) (c : Code) (rec : Nat → Code → Fr → Sto → Option Out) (x : Option Out) : Option Out :=
  match labelOf c with
  | some lab => match findLabel c lab with
    | some rest => jmp m0 lab (look A.keep (1000000 + lab)) x (jumps m0 lab (look A.keep (1000000 + lab)) (rec m0 rest) N)
    | none => none
  | none => none
def evRN (N : Nat) (A : Ann) (m0 : Nat) (rec : Nat → Code → Fr → Sto → Option Out) : Code → Fr → Sto → Option Out
  | .skip => fun l es => some (.normal, l, es)
  | .region id ops dr => fun l es => thO (frzK (look A.frzAt (3000000 + id)) l es) fun l es => match dr with
    | true => match look A.plan id with
      | some plan => thO (evAllN P GL C ops m0 A id plan l es) (frzK (look A.frzAt id))
      | none => none
    | false => thO (evOps P GL C A.froz ops ops.toList l es) (frzK (look A.frzAt id))
  | .seq a b => fun l es => thO (evRN N A m0 rec a l es) (evRN N A m0 rec b)
  | .cond c a b => fun l es => cnd (rhoD (ofL l) GL c) (evRN N A m0 rec a) (evRN N A m0 rec b) l es
  | .block id c => fun l es => blk id (thT (tidyK m0 (look A.keep id) l es) (evRN N A m0 rec c))
  | .loop c => fun l es => iter m0 (l.map Prod.fst) (evRN N A m0 rec c) N l es
  | .exit id => fun l es => some (.exit id, l, es)
  | .scope c => fun l es => scpN N m0 A c rec (evRN N A m0 rec c l es)
  | .label _ => fun l es => some (.normal, l, es)
  | .goto lab => fun l es => some (.goto lab, l, es)
  | .ret => fun l es => some (.ret, l, es)
  | .rangeFunc g ps a b => fun l es => rgO (A.its (rhoD (ofL l) GL g)) fun yss => rgL m0 ps.toList (rgB rec a b) yss l es
  | _ => fun _ _ => none
theorem thO_imp {x y : Option Out} {k j : Fr → Sto → Option Out} {z : Out} (h : thO x k = some z) (hx : ∀ w, x = some w → y = some w) (hk : ∀ l es w, k l es = some w → j l es = some w) : thO y j = some z := by
  unfold thO at h
  split at h
  · rw [hx _ rfl]; exact hk _ _ _ h
  · rename_i hn
    have := hx _ h
    rw [this]
    unfold thO
    split
    · rename_i l es hl
      simp only [Option.some.injEq] at hl
      subst hl
      exact absurd h (hn l es)
    · rfl
theorem rnd_imp {m0 : Nat} {ks : List Nat} {x y : Option Out} {k j : Fr → Sto → Option Out} {z : Out} (h : rnd m0 ks x k = some z) (hx : ∀ w, x = some w → y = some w) (hk : ∀ l es w, k l es = some w → j l es = some w) : rnd m0 ks y j = some z := by
  unfold rnd at h
  split at h
  · rw [hx _ rfl]; exact thT_imp h hk
  · rename_i hn
    have := hx _ h
    rw [this]
    unfold rnd
    split
    · rename_i l es hl
      simp only [Option.some.injEq] at hl
      subst hl
      exact absurd h (hn l es)
    · rfl
theorem jmp_imp {m0 lab : Nat} {ks : Option (List Nat)} {x y : Option Out} {k j : Fr → Sto → Option Out} {z : Out} (h : jmp m0 lab ks x k = some z) (hx : ∀ w, x = some w → y = some w) (hk : ∀ l es w, k l es = some w → j l es = some w) : jmp m0 lab ks y j = some z := by
  unfold jmp at h
  split at h
  · rw [hx _ rfl]
    unfold jmp
    simp only
    split at h
    · rename_i hl; rw [if_pos hl]; exact thT_imp h hk
    · cases h
  · rename_i hn
    have := hx _ h
    rw [this]
    unfold jmp
    split
    · rename_i l' l es hl
      simp only [Option.some.injEq] at hl
      subst hl
      exact absurd h (hn l' l es)
    · rfl
theorem iter_imp {m0 : Nat} {ks : List Nat} {g g' : Fr → Sto → Option Out} (hg : ∀ l es w, g l es = some w → g' l es = some w) : ∀ (n : Nat) (l : Fr) (es : Sto) (x : Out), iter m0 ks g n l es = some x → iter m0 ks g' n l es = some x
  | 0, _, _, _, h => by cases h
  | n + 1, l, es, x, h => rnd_imp h (hg l es) (iter_imp hg n)
theorem jumps_imp {m0 lab : Nat} {ks : Option (List Nat)} {g g' : Fr → Sto → Option Out} (hg : ∀ l es w, g l es = some w → g' l es = some w) : ∀ (n : Nat) (l : Fr) (es : Sto) (x : Out), jumps m0 lab ks g n l es = some x → jumps m0 lab ks g' n l es = some x
  | 0, _, _, _, h => by cases h
  | n + 1, l, es, x, h => jmp_imp h (hg l es) (jumps_imp hg n)
theorem rgL_imp {m0 : Nat} {ps : List Nat} {k k' : Nat → Fr → Sto → Option Out} (hk : ∀ m l es w, k m l es = some w → k' m l es = some w) : ∀ (yss : List (List D)) (l : Fr) (es : Sto) (x : Out), rgL m0 ps k yss l es = some x → rgL m0 ps k' yss l es = some x
  | [], _, _, _, h => h
  | ys :: r, l, es, x, h => by
    simp only [rgL] at h ⊢
    split at h
    · rename_i l1 hl
      unfold rgS at h
      split at h
      · rename_i l2 es2 hx
        rw [hk _ _ _ _ hx]
        unfold rgS
        exact thT_imp h (rgL_imp hk r)
      · rename_i l2 es2 hx
        rw [hk _ _ _ _ hx]; exact h
      · rename_i i l2 es2 hx
        rw [hk _ _ _ _ hx]; exact h
      · cases h
    · cases h
theorem evRN_ok {N : Nat} {A : Ann} {m0 : Nat} {rec rec' : Nat → Code → Fr → Sto → Option Out} (hr : ∀ m c l es w, rec m c l es = some w → rec' m c l es = some w) : ∀ (c : Code) (l : Fr) (es : Sto) (x : Out), evRN P GL C N A m0 rec c l es = some x → evR P GL C A m0 rec' c l es = some x := by
  intro c
  induction c with
  | skip => intro l es x h; exact h
  | region id ops dr =>
    intro l es x h
    refine thO_imp h (fun _ hw => hw) fun l es w hw => ?_
    cases dr with
    | true =>
      simp only at hw ⊢
      cases hp : look A.plan id with
      | some plan => rw [hp] at hw; exact thO_imp hw (fun _ hw => evAllN_ok P GL C hw) fun _ _ _ hw => hw
      | none => rw [hp] at hw; cases hw
    | false => exact hw
  | seq a b iha ihb => intro l es x h; exact thO_imp h (iha l es) ihb
  | cond c a b iha ihb =>
    intro l es x h
    simp only [evRN] at h
    simp only [evR]
    unfold cnd at h ⊢
    split at h
    · split at h
      · rename_i ht; rw [if_pos ht]; exact iha _ _ _ h
      · rename_i ht; rw [if_neg ht]; exact ihb _ _ _ h
    · cases h
  | block id c ih =>
    intro l es x h
    simp only [evRN] at h
    simp only [evR]
    cases ht : thT (tidyK m0 (look A.keep id) l es) (evRN P GL C N A m0 rec c) with
    | none => rw [ht] at h; cases h
    | some y =>
      rw [ht] at h
      rw [thT_imp ht ih]
      exact h
  | loop c ih =>
    intro l es x h
    simp only [evRN] at h
    simp only [evR]
    exact lim_of (s := fun n => iter m0 (l.map Prod.fst) (evR P GL C A m0 rec' c) n l es) (fun i j y hij hy => iter_mono i j l es y hij hy) (k := N) (iter_imp ih N l es x h)
  | exit id => intro l es x h; exact h
  | scope c ih =>
    intro l es x h
    simp only [evRN] at h
    simp only [evR]
    unfold scpN at h
    unfold scp
    split at h
    · rename_i lab hl
      simp only [hl]
      split at h
      · rename_i rest hf
        simp only [hf]
        refine jmp_imp h (ih l es) fun l es w hw => ?_
        exact lim_of (s := fun n => jumps m0 lab (look A.keep (1000000 + lab)) (rec' m0 rest) n l es) (fun i j y hij hy => jumps_mono i j l es y hij hy) (k := N) (jumps_imp (hr m0 rest) N l es w hw)
      · cases h
    · cases h
  | label _ => intro l es x h; exact h
  | goto _ => intro l es x h; exact h
  | ret => intro l es x h; exact h
  | rangeFunc g ps a b _ _ =>
    intro l es x h
    simp only [evRN] at h
    simp only [evR]
    unfold rgO at h ⊢
    split at h
    · refine rgL_imp (fun m l es w hw => ?_) _ _ _ _ h
      unfold rgB at hw ⊢
      exact thC_imp hw (hr m a l es) fun l1 e1 w hw => hr _ _ _ _ _ hw
    · cases h
  | _ => intro l es x h; cases h
def evCN (N : Nat) (A : Ann) (m0 : Nat) : Code → Fr → Sto → Option Out :=
  evRN P GL C N A m0 fun m1 => evRN P GL C N A m1 fun _ _ _ _ => none
theorem evCN_ok {N : Nat} {A : Ann} {m0 : Nat} {c : Code} {l : Fr} {es : Sto} {x : Out} (h : evCN P GL C N A m0 c l es = some x) : evC P GL C A m0 c l es = some x :=
  evRN_ok P GL C (fun m c l es w hw => evRN_ok P GL C (fun _ _ _ _ _ h => by cases h) c l es w hw) c l es x h
def evBN (N : Nat) (A : Ann) (fn : Func) (ds : List D) (es : Sto) : Option (R × Sto) :=
  match fn.body with
  | some c => fin P A.frz es.length fn.results.toList (evCN P GL C N A es.length c (argsL 0 ds) es)
  | none => none
theorem evBN_ok {N : Nat} {A : Ann} {fn : Func} {ds : List D} {es : Sto} {x : R × Sto} (h : evBN P GL C N A fn ds es = some x) : evB P GL C A fn ds es = some x := by
  unfold evBN at h
  unfold evB
  split at h
  · rename_i c hb
    simp only [hb]
    cases hc : evCN P GL C N A es.length c (argsL 0 ds) es with
    | none => rw [hc] at h; cases h
    | some y => rw [hc] at h; rw [evCN_ok P GL C hc]; exact h
  · cases h
def evStepN (N : Nat) (An : FuncId → Ann) (nc : List Nat) (XF : Orc → Orc) : Orc := fun f ds es =>
  match XF C f ds es with
  | some r => some r
  | none => match P.funcs[f]? with
    | some fn => if (okFn (An f) fn && decide (ds.length ≤ fn.ntmps) && cnsOk (An f) es) = true then cnsF (look (An f).keep 4000000) es.length (evBN P GL (canO nc C) N (An f) fn ds es) else none
    | none => none
/-- a closed run: so many calls deep, so many rounds -/
def evKN (N : Nat) (An : FuncId → Ann) (nc : List Nat) (XF : Orc → Orc) : Nat → Orc
  | 0 => fun _ _ _ => none
  | k + 1 => evStepN P GL (evKN N An nc XF k) N An nc XF
theorem cnsF_imp {b : Option (List Nat)} {m0 : Nat} {x y : Option (R × Sto)} {z : R × Sto} (h : cnsF b m0 x = some z) (hx : ∀ w, x = some w → y = some w) : cnsF b m0 y = some z := by
  cases x with
  | none => unfold cnsF at h; split at h <;> simp [cnsR] at h
  | some w => rw [hx w rfl]; exact h
end
section
variable {P : Program} {GL : Nat → D}
theorem evStepN_ok {C : Orc} {N : Nat} {An : FuncId → Ann} {nc : List Nat} {X : Orc} {f : FuncId} {ds : List D} {es : Sto} {r : R × Sto} (h : evStepN P GL C N An nc (fun _ => X) f ds es = some r) : evStep P GL An nc X C f ds es = some r := by
  unfold evStepN at h
  unfold evStep
  dsimp only at h ⊢
  cases hx : X f ds es with
  | some r' => rw [hx] at h; exact h
  | none =>
    rw [hx] at h
    simp only at h ⊢
    cases hf : P.funcs[f]? with
    | none => rw [hf] at h; cases h
    | some fn =>
      rw [hf] at h
      simp only at h ⊢
      split at h
      · rename_i hc
        simp only [Bool.and_eq_true, decide_eq_true_eq] at hc
        rw [if_pos ⟨hc.1.1, hc.1.2, hc.2⟩]
        exact cnsF_imp h fun w hw => evBN_ok _ _ _ hw
      · cases h
/-- a run by fuel is what calls come to -/
theorem evKN_le {N : Nat} {An : FuncId → Ann} {nc : List Nat} {X : Orc} : ∀ k, Le (evKN P GL N An nc (fun _ => X) k) (ev P GL An nc X)
  | 0 => fun f ds es r h => by simp [evKN] at h
  | k + 1 => fun f ds es r h => by
    rw [ev_eq]
    exact (cts_evStep An nc X f ds es).mono _ _ (evKN_le k) r (evStepN_ok h)
/-- the same, with more known of calls -/
theorem evKN_le2 {N : Nat} {An : FuncId → Ann} {nc : List Nat} {X K : Orc} (h1 : Le K (ev P GL An nc X)) (h2 : ∀ f ds es, K f ds es = none → X f ds es = none) : ∀ k, Le (evKN P GL N An nc (fun _ => K) k) (ev P GL An nc X)
  | 0 => fun f ds es r h => by simp [evKN] at h
  | k + 1 => fun f ds es r h => by
    cases hk : K f ds es with
    | some r' =>
      have e : evKN P GL N An nc (fun _ => K) (k + 1) f ds es = some r' := by
        simp only [evKN, evStepN]; rw [hk]
      rw [e] at h
      injection h with h
      subst h
      exact h1 f ds es _ hk
    | none =>
      rw [ev_eq]
      have h3 := (cts_evStep (P := P) (GL := GL) An nc K f ds es).mono _ _ (evKN_le2 h1 h2 k) r (evStepN_ok h)
      unfold evStep at h3 ⊢
      rw [hk] at h3
      rw [h2 f ds es hk]
      exact h3
end
end Go.Bw
