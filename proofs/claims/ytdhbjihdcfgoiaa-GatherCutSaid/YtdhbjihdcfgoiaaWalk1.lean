/- What the functions answer. -/
import Derived.Test.YtdhbjihdcfgoiaaEval2
import Derived.Test.YtdhbjihdcfgoiaaProg
import Derived.RangeFuncBox
import Derived.RangeFuncLeaves
import Derived.Shelf.Abstract
import Derived.WalkKit
import Derived.OwnWalkIn
import Derived.TacticsInMore
import Derived.LoopNIn
import Derived.LoopIn
import Derived.BigFrameIn
import Derived.RangeFuncCalls
import Derived.BigRegionIn
import Derived.Stop.RegionWithIn
import Derived.ProofKit
import Derived.OpenShut
set_option linter.unusedSimpArgs false
set_option linter.unusedVariables false
/- Facts on the seat's types. -/
namespace Go.Bw.R1
open Go Go.Bw Go.Proofs
theorem bytes_free (ex : Bool) (s : ByteArray) : (D.ro ex (bytesD s)).free := .ro (by rw [bytesD_cells]; intro d hd; simp only [bytesD, List.mem_map] at hd; obtain ⟨_, _, rfl⟩ := hd; exact .sc)
theorem strs_free (ex : Bool) (l : List ByteArray) : (D.ro ex (l.map fun s => .sc (.string s))).free := .ro (by intro d hd; simp only [List.mem_flatMap, List.mem_map] at hd; obtain ⟨_, ⟨y, _, rfl⟩, hd⟩ := hd; simp [D.cells] at hd; subst hd; exact .sc)
theorem ag2 : aggB Try.prog 2 = some false := by kernel_rfl
theorem ag3 : aggB Try.prog 3 = some false := by kernel_rfl
theorem ag30 : aggB Try.prog 30 = some false := by kernel_rfl
theorem ag31 : aggB Try.prog 31 = some false := by kernel_rfl
theorem ag33 : aggB Try.prog 33 = some false := by kernel_rfl
theorem ag35 : aggB Try.prog 35 = some true := by kernel_rfl
theorem ag36 : aggB Try.prog 36 = some false := by kernel_rfl
theorem ag38 : aggB Try.prog 38 = some true := by kernel_rfl
theorem ag4 : aggB Try.prog 4 = some false := by kernel_rfl
theorem ag40 : aggB Try.prog 40 = some true := by kernel_rfl
theorem ag43 : aggB Try.prog 43 = some true := by kernel_rfl
theorem ag5 : aggB Try.prog 5 = some false := by kernel_rfl
theorem ag54 : aggB Try.prog 54 = some false := by kernel_rfl
theorem ag56 : aggB Try.prog 56 = some true := by kernel_rfl
theorem ag78 : aggB Try.prog 78 = some true := by kernel_rfl
theorem ag80 : aggB Try.prog 80 = some true := by kernel_rfl
theorem ag9 : aggB Try.prog 9 = some false := by kernel_rfl
theorem by30 : Program.bytesOf Try.prog 30 = 4 := by kernel_rfl
theorem by5 : Program.bytesOf Try.prog 5 = 1 := by kernel_rfl
theorem by56 : Program.bytesOf Try.prog 56 = 56 := by kernel_rfl
theorem el22 : elOf Try.prog 22 = some (38, 38) := by kernel_rfl
theorem el23 : elOf Try.prog 23 = some (4, 1) := by kernel_rfl
theorem el36 : elOf Try.prog 36 = some (5, 1) := by kernel_rfl
theorem el48 : elOf Try.prog 48 = some (31, 1) := by kernel_rfl
theorem el52 : elOf Try.prog 52 = some (35, 4) := by kernel_rfl
theorem el54 : elOf Try.prog 54 = some (56, 4) := by kernel_rfl
theorem el74 : elOf Try.prog 74 = some (3, 1) := by kernel_rfl
theorem el88 : elOf Try.prog 88 = some (36, 1) := by kernel_rfl
theorem el94 : elOf Try.prog 94 = some (30, 1) := by kernel_rfl
theorem fk38 : fieldsOk Try.prog 38 = true := by kernel_rfl
theorem fk40 : fieldsOk Try.prog 40 = true := by kernel_rfl
theorem fk43 : fieldsOk Try.prog 43 = true := by kernel_rfl
theorem fk56 : fieldsOk Try.prog 56 = true := by kernel_rfl
theorem fk78 : fieldsOk Try.prog 78 = true := by kernel_rfl
theorem fk80 : fieldsOk Try.prog 80 = true := by kernel_rfl
theorem fo35_0 : fldOff Try.prog 35 0 = some 0 := by kernel_rfl
theorem fo38_0 : fldOff Try.prog 38 0 = some 0 := by kernel_rfl
theorem fo38_24 : fldOff Try.prog 38 24 = some 24 := by kernel_rfl
theorem fo38_26 : fldOff Try.prog 38 26 = some 26 := by kernel_rfl
theorem fo38_27 : fldOff Try.prog 38 27 = some 27 := by kernel_rfl
theorem fo38_28 : fldOff Try.prog 38 28 = some 28 := by kernel_rfl
theorem fo38_29 : fldOff Try.prog 38 29 = some 29 := by kernel_rfl
theorem fo38_30 : fldOff Try.prog 38 30 = some 30 := by kernel_rfl
theorem fo38_31 : fldOff Try.prog 38 31 = some 31 := by kernel_rfl
theorem fo38_32 : fldOff Try.prog 38 32 = some 35 := by kernel_rfl
theorem fo40_0 : fldOff Try.prog 40 0 = some 0 := by kernel_rfl
theorem fo40_1 : fldOff Try.prog 40 1 = some 1 := by kernel_rfl
theorem fo40_2 : fldOff Try.prog 40 2 = some 2 := by kernel_rfl
theorem fo40_3 : fldOff Try.prog 40 3 = some 3 := by kernel_rfl
theorem fo40_4 : fldOff Try.prog 40 4 = some 4 := by kernel_rfl
theorem fo40_5 : fldOff Try.prog 40 5 = some 8 := by kernel_rfl
theorem fo43_0 : fldOff Try.prog 43 0 = some 0 := by kernel_rfl
theorem fo43_1 : fldOff Try.prog 43 1 = some 1 := by kernel_rfl
theorem fo43_2 : fldOff Try.prog 43 2 = some 2 := by kernel_rfl
theorem fo43_3 : fldOff Try.prog 43 3 = some 3 := by kernel_rfl
theorem fo43_4 : fldOff Try.prog 43 4 = some 4 := by kernel_rfl
theorem fo43_5 : fldOff Try.prog 43 5 = some 8 := by kernel_rfl
theorem fo56_0 : fldOff Try.prog 56 0 = some 0 := by kernel_rfl
theorem fo56_1 : fldOff Try.prog 56 1 = some 1 := by kernel_rfl
theorem fo56_2 : fldOff Try.prog 56 2 = some 2 := by kernel_rfl
theorem fo56_3 : fldOff Try.prog 56 3 = some 3 := by kernel_rfl
theorem fo78_0 : fldOff Try.prog 78 0 = some 0 := by kernel_rfl
theorem fo78_1 : fldOff Try.prog 78 1 = some 1 := by kernel_rfl
theorem fo80_0 : fldOff Try.prog 80 0 = some 0 := by kernel_rfl
theorem fo80_1 : fldOff Try.prog 80 1 = some 1 := by kernel_rfl
theorem ii3 : isInt Try.prog 3 = true := by kernel_rfl
theorem ii36 : isInt Try.prog 36 = false := by kernel_rfl
theorem ii54 : isInt Try.prog 54 = false := by kernel_rfl
theorem ii94 : isInt Try.prog 94 = false := by kernel_rfl
theorem ni9 : nonIface Try.prog 9 = true := by kernel_rfl
theorem pl38_0 : placesD Try.prog 38 0 = some (0, 1) := by kernel_rfl
theorem pl38_24 : placesD Try.prog 38 24 = some (24, 1) := by kernel_rfl
theorem pl38_26 : placesD Try.prog 38 26 = some (26, 1) := by kernel_rfl
theorem pl38_27 : placesD Try.prog 38 27 = some (27, 1) := by kernel_rfl
theorem pl38_28 : placesD Try.prog 38 28 = some (28, 1) := by kernel_rfl
theorem pl38_29 : placesD Try.prog 38 29 = some (29, 1) := by kernel_rfl
theorem pl38_30 : placesD Try.prog 38 30 = some (30, 1) := by kernel_rfl
theorem pl38_31 : placesD Try.prog 38 31 = some (31, 4) := by kernel_rfl
theorem pl38_32 : placesD Try.prog 38 32 = some (35, 1) := by kernel_rfl
theorem pl40_0 : placesD Try.prog 40 0 = some (0, 1) := by kernel_rfl
theorem pl40_1 : placesD Try.prog 40 1 = some (1, 1) := by kernel_rfl
theorem pl43_0 : placesD Try.prog 43 0 = some (0, 1) := by kernel_rfl
theorem pl43_1 : placesD Try.prog 43 1 = some (1, 1) := by kernel_rfl
theorem pl56_0 : placesD Try.prog 56 0 = some (0, 1) := by kernel_rfl
theorem pl56_1 : placesD Try.prog 56 1 = some (1, 1) := by kernel_rfl
theorem pl56_2 : placesD Try.prog 56 2 = some (2, 1) := by kernel_rfl
theorem pl56_3 : placesD Try.prog 56 3 = some (3, 1) := by kernel_rfl
theorem st36 : isStr Try.prog 36 = false := by kernel_rfl
theorem st9 : isStr Try.prog 9 = true := by kernel_rfl
theorem sz2 : szOf Try.prog 2 = some 1 := by kernel_rfl
theorem sz3 : szOf Try.prog 3 = some 1 := by kernel_rfl
theorem sz30 : szOf Try.prog 30 = some 1 := by kernel_rfl
theorem sz31 : szOf Try.prog 31 = some 1 := by kernel_rfl
theorem sz33 : szOf Try.prog 33 = some 1 := by kernel_rfl
theorem sz35 : szOf Try.prog 35 = some 4 := by kernel_rfl
theorem sz36 : szOf Try.prog 36 = some 1 := by kernel_rfl
theorem sz38 : szOf Try.prog 38 = some 38 := by kernel_rfl
theorem sz4 : szOf Try.prog 4 = some 1 := by kernel_rfl
theorem sz40 : szOf Try.prog 40 = some 9 := by kernel_rfl
theorem sz43 : szOf Try.prog 43 = some 9 := by kernel_rfl
theorem sz5 : szOf Try.prog 5 = some 1 := by kernel_rfl
theorem sz54 : szOf Try.prog 54 = some 1 := by kernel_rfl
theorem sz56 : szOf Try.prog 56 = some 4 := by kernel_rfl
theorem sz78 : szOf Try.prog 78 = some 10 := by kernel_rfl
theorem sz80 : szOf Try.prog 80 = some 10 := by kernel_rfl
theorem sz9 : szOf Try.prog 9 = some 1 := by kernel_rfl
theorem u8_5 : isU8 Try.prog 5 = true := by kernel_rfl
theorem ze3 : zeroD Try.prog 3 = some [.sc (.int .i64 0)] := by kernel_rfl
theorem ze30 : zeroD Try.prog 30 = some [.sc (.int .u32 0)] := by kernel_rfl
theorem ze35 : zeroD Try.prog 35 = some [.sc (.int .u8 0), .sc (.int .u64 0), .sc (.int .u64 0), .sc (.string ⟨#[]⟩)] := by kernel_rfl
theorem ze36 : zeroD Try.prog 36 = some [.nils] := by kernel_rfl
theorem ze38 : zeroD Try.prog 38 = some [.sc (.int .u8 0), .sc (.string ⟨#[]⟩), .sc (.string ⟨#[]⟩), .sc (.int .u32 0), .sc (.int .u16 0), .sc (.int .u32 0), .sc (.int .i64 0), .sc (.int .u32 0), .sc (.int .u32 0), .sc (.int .u32 0), .sc (.int .u32 0), .sc (.string ⟨#[]⟩), .sc (.int .i64 0), .sc (.bool false), .sc (.int .u8 0), .sc (.int .u8 0), .sc (.string ⟨#[]⟩), .sc (.string ⟨#[]⟩), .nils, .sc (.int .u32 0), .sc (.int .i64 0), .sc (.int .u32 0), .sc (.bool false), .sc (.bool false), .sc (.int .i64 0), .sc (.int .u32 0), .sc (.string ⟨#[]⟩), .sc (.bool false), .sc (.bool false), .sc (.bool false), .sc (.bool false), .sc (.int .u8 0), .sc (.int .u64 0), .sc (.int .u64 0), .sc (.string ⟨#[]⟩), .nils, .sc (.bool false), .sc (.string ⟨#[]⟩)] := by kernel_rfl
theorem ze4 : zeroD Try.prog 4 = some [.sc (.bool false)] := by kernel_rfl
theorem ze40 : zeroD Try.prog 40 = some [.sc (.int .u32 0), .sc (.string ⟨#[]⟩), .sc (.bool false), .sc (.bool false), .sc (.int .u8 0), .sc (.int .u64 0), .sc (.int .u64 0), .sc (.string ⟨#[]⟩), .nils] := by kernel_rfl
theorem ze43 : zeroD Try.prog 43 = some [.sc (.int .u32 0), .sc (.string ⟨#[]⟩), .sc (.bool false), .sc (.bool false), .sc (.int .u8 0), .sc (.int .u64 0), .sc (.int .u64 0), .sc (.string ⟨#[]⟩), .nils] := by kernel_rfl
theorem ze5 : zeroD Try.prog 5 = some [.sc (.int .u8 0)] := by kernel_rfl
theorem ze54 : zeroD Try.prog 54 = some [.nils] := by kernel_rfl
theorem ze56 : zeroD Try.prog 56 = some [.sc (.int .u8 0), .sc (.int .u64 0), .sc (.string ⟨#[]⟩), .nils] := by kernel_rfl
theorem ze78 : zeroD Try.prog 78 = some [.sc (.bool false), .sc (.int .u32 0), .sc (.string ⟨#[]⟩), .sc (.bool false), .sc (.bool false), .sc (.int .u8 0), .sc (.int .u64 0), .sc (.int .u64 0), .sc (.string ⟨#[]⟩), .nils] := by kernel_rfl
theorem ze80 : zeroD Try.prog 80 = some [.sc (.bool false), .sc (.int .u32 0), .sc (.string ⟨#[]⟩), .sc (.bool false), .sc (.bool false), .sc (.int .u8 0), .sc (.int .u64 0), .sc (.int .u64 0), .sc (.string ⟨#[]⟩), .nils] := by kernel_rfl
attribute [go_sem] ag2 ag3 ag30 ag31 ag33 ag35 ag36 ag38 ag4 ag40 ag43 ag5 ag54 ag56 ag78 ag80 ag9 by30 by5 by56 el22 el23 el36 el48 el52 el54 el74 el88 el94 fk38 fk40 fk43 fk56 fk78 fk80 fo35_0 fo38_0 fo38_24 fo38_26 fo38_27 fo38_28 fo38_29 fo38_30 fo38_31 fo38_32 fo40_0 fo40_1 fo40_2 fo40_3 fo40_4 fo40_5 fo43_0 fo43_1 fo43_2 fo43_3 fo43_4 fo43_5 fo56_0 fo56_1 fo56_2 fo56_3 fo78_0 fo78_1 fo80_0 fo80_1 ii3 ii36 ii54 ii94 ni9 pl38_0 pl38_24 pl38_26 pl38_27 pl38_28 pl38_29 pl38_30 pl38_31 pl38_32 pl40_0 pl40_1 pl43_0 pl43_1 pl56_0 pl56_1 pl56_2 pl56_3 st36 st9 sz2 sz3 sz30 sz31 sz33 sz35 sz36 sz38 sz4 sz40 sz43 sz5 sz54 sz56 sz78 sz80 sz9 u8_5 Try.underlying2 Try.underlying22 Try.underlying23 Try.underlying26 Try.underlying28 Try.underlying3 Try.underlying30 Try.underlying31 Try.underlying33 Try.underlying36 Try.underlying4 Try.underlying48 Try.underlying5 Try.underlying52 Try.underlying54 Try.underlying74 Try.underlying75 Try.underlying88 Try.underlying9 Try.underlying94 ze3 ze30 ze35 ze36 ze38 ze4 ze40 ze43 ze5 ze54 ze56 ze78 ze80
structure Outc where
  kind : Int
  a : Int
  b : Int
  cond : ByteArray

def Outc.cs (x : Outc) : List D := [.sc (.int .u8 x.kind), .sc (.int .u64 x.a), .sc (.int .u64 x.b), .sc (.string x.cond)]
def Outc.d (x : Outc) : D := .agg x.cs
structure Outc.ok (x : Outc) : Prop where
  kind : 0 ≤ x.kind ∧ x.kind ≤ 255
  a : 0 ≤ x.a ∧ x.a ≤ 18446744073709551615
  b : 0 ≤ x.b ∧ x.b ≤ 18446744073709551615
  cond : x.cond.size ≤ 9223372036854775807

theorem Outc.fr {x : Outc} : ∀ d ∈ x.cs, d.free := by
  intro d hd
  simp only [Outc.cs, List.mem_cons, List.not_mem_nil, or_false] at hd
  rcases hd with rfl | rfl | rfl | rfl
  · exact .sc
  · exact .sc
  · exact .sc
  · exact .sc
theorem Outc.free {x : Outc} : x.d.free := .agg (Outc.fr)

theorem Outc.of_rd {cs : List D} (h : Rd Try.prog 35 cs) : ∃ x : Outc, x.ok ∧ WkL cs x.cs := by
  have h := Rd.fields Try.underlying35 h
  obtain ⟨a0, b0, rfl, h0, h⟩ := h
  obtain ⟨a1, b1, rfl, h1, h⟩ := h
  obtain ⟨a2, b2, rfl, h2, h⟩ := h
  obtain ⟨a3, b3, rfl, h3, h⟩ := h
  have h : _ = _ := h
  subst h
  obtain ⟨x0, rfl, k0⟩ := h0.int_inv Try.underlying5
  obtain ⟨x1, rfl, k1⟩ := h1.int_inv Try.underlying33
  obtain ⟨x2, rfl, k2⟩ := h2.int_inv Try.underlying33
  obtain ⟨x3, rfl, k3⟩ := h3.str_inv Try.underlying9
  refine ⟨⟨x0, x1, x2, x3⟩, ⟨k0, k1, k2, k3⟩, ?_⟩
  exact (WkL.append (.refl _) (WkL.append (.refl _) (WkL.append (.refl _) (WkL.append (.refl _) .nil))))

theorem Outc.of_arg {d : D} (h : Arg Try.prog 35 d) : ∃ x : Outc, x.ok ∧ Wk d x.d := Arg.agg (by kernel_rfl) Outc.ok Outc.cs (fun _ hd => Outc.of_rd hd) h
theorem Outc.d_cells (x : Outc) : x.d.cells = x.cs := rfl

structure Perf where
  kind : Int
  id : ByteArray
  host : ByteArray
  maxFrame : Int
  channels : Int
  idle : Int
  remote : Int
  nextOut : Int
  inWin : Int
  outWin : Int
  handles : Int
  name : ByteArray
  handle : Int
  role : Bool
  snd : Int
  rcv : Int
  source : ByteArray
  target : ByteArray
  marks : List D
  count : Int
  nextIn : Int
  credit : Int
  drain : Bool
  echo : Bool
  first0 : Int
  last0 : Int
  tag : ByteArray
  settled : Bool
  more : Bool
  aborted : Bool
  resume : Bool
  state : Outc
  payload : ByteArray
  closed : Bool
  cond : ByteArray

def Perf.cs (x : Perf) : List D := [.sc (.int .u8 x.kind), .sc (.string x.id), .sc (.string x.host), .sc (.int .u32 x.maxFrame), .sc (.int .u16 x.channels), .sc (.int .u32 x.idle), .sc (.int .i64 x.remote), .sc (.int .u32 x.nextOut), .sc (.int .u32 x.inWin), .sc (.int .u32 x.outWin), .sc (.int .u32 x.handles), .sc (.string x.name), .sc (.int .i64 x.handle), .sc (.bool x.role), .sc (.int .u8 x.snd), .sc (.int .u8 x.rcv), .sc (.string x.source), .sc (.string x.target), .ro false x.marks, .sc (.int .u32 x.count), .sc (.int .i64 x.nextIn), .sc (.int .u32 x.credit), .sc (.bool x.drain), .sc (.bool x.echo), .sc (.int .i64 x.first0), .sc (.int .u32 x.last0), .sc (.string x.tag), .sc (.bool x.settled), .sc (.bool x.more), .sc (.bool x.aborted), .sc (.bool x.resume), .sc (.int .u8 x.state.kind), .sc (.int .u64 x.state.a), .sc (.int .u64 x.state.b), .sc (.string x.state.cond), .ro false (bytesD x.payload), .sc (.bool x.closed), .sc (.string x.cond)]
def Perf.d (x : Perf) : D := .agg x.cs
structure Perf.ok (x : Perf) : Prop where
  kind : 0 ≤ x.kind ∧ x.kind ≤ 255
  id : x.id.size ≤ 9223372036854775807
  host : x.host.size ≤ 9223372036854775807
  maxFrame : 0 ≤ x.maxFrame ∧ x.maxFrame ≤ 4294967295
  channels : 0 ≤ x.channels ∧ x.channels ≤ 65535
  idle : 0 ≤ x.idle ∧ x.idle ≤ 4294967295
  remote : -9223372036854775808 ≤ x.remote ∧ x.remote ≤ 9223372036854775807
  nextOut : 0 ≤ x.nextOut ∧ x.nextOut ≤ 4294967295
  inWin : 0 ≤ x.inWin ∧ x.inWin ≤ 4294967295
  outWin : 0 ≤ x.outWin ∧ x.outWin ≤ 4294967295
  handles : 0 ≤ x.handles ∧ x.handles ≤ 4294967295
  name : x.name.size ≤ 9223372036854775807
  handle : -9223372036854775808 ≤ x.handle ∧ x.handle ≤ 9223372036854775807
  snd : 0 ≤ x.snd ∧ x.snd ≤ 255
  rcv : 0 ≤ x.rcv ∧ x.rcv ≤ 255
  source : x.source.size ≤ 9223372036854775807
  target : x.target.size ≤ 9223372036854775807
  marks : (D.ro false x.marks).free
  count : 0 ≤ x.count ∧ x.count ≤ 4294967295
  nextIn : -9223372036854775808 ≤ x.nextIn ∧ x.nextIn ≤ 9223372036854775807
  credit : 0 ≤ x.credit ∧ x.credit ≤ 4294967295
  first0 : -9223372036854775808 ≤ x.first0 ∧ x.first0 ≤ 9223372036854775807
  last0 : 0 ≤ x.last0 ∧ x.last0 ≤ 4294967295
  tag : x.tag.size ≤ 9223372036854775807
  state : x.state.ok
  cond : x.cond.size ≤ 9223372036854775807

theorem Perf.fr {x : Perf} (h : x.ok) : ∀ d ∈ x.cs, d.free := by
  intro d hd
  simp only [Perf.cs, List.mem_cons, List.not_mem_nil, or_false] at hd
  rcases hd with rfl | rfl | rfl | rfl | rfl | rfl | rfl | rfl | rfl | rfl | rfl | rfl | rfl | rfl | rfl | rfl | rfl | rfl | rfl | rfl | rfl | rfl | rfl | rfl | rfl | rfl | rfl | rfl | rfl | rfl | rfl | rfl | rfl | rfl | rfl | rfl | rfl | rfl
  · exact .sc
  · exact .sc
  · exact .sc
  · exact .sc
  · exact .sc
  · exact .sc
  · exact .sc
  · exact .sc
  · exact .sc
  · exact .sc
  · exact .sc
  · exact .sc
  · exact .sc
  · exact .sc
  · exact .sc
  · exact .sc
  · exact .sc
  · exact .sc
  · exact h.marks
  · exact .sc
  · exact .sc
  · exact .sc
  · exact .sc
  · exact .sc
  · exact .sc
  · exact .sc
  · exact .sc
  · exact .sc
  · exact .sc
  · exact .sc
  · exact .sc
  · exact .sc
  · exact .sc
  · exact .sc
  · exact .sc
  · exact bytes_free _ _
  · exact .sc
  · exact .sc
theorem Perf.free {x : Perf} (h : x.ok) : x.d.free := .agg (Perf.fr h)

theorem Perf.of_rd {cs : List D} (h : Rd Try.prog 38 cs) : ∃ x : Perf, x.ok ∧ WkL cs x.cs := by
  have h := Rd.fields Try.underlying38 h
  obtain ⟨a0, b0, rfl, h0, h⟩ := h
  obtain ⟨a1, b1, rfl, h1, h⟩ := h
  obtain ⟨a2, b2, rfl, h2, h⟩ := h
  obtain ⟨a3, b3, rfl, h3, h⟩ := h
  obtain ⟨a4, b4, rfl, h4, h⟩ := h
  obtain ⟨a5, b5, rfl, h5, h⟩ := h
  obtain ⟨a6, b6, rfl, h6, h⟩ := h
  obtain ⟨a7, b7, rfl, h7, h⟩ := h
  obtain ⟨a8, b8, rfl, h8, h⟩ := h
  obtain ⟨a9, b9, rfl, h9, h⟩ := h
  obtain ⟨a10, b10, rfl, h10, h⟩ := h
  obtain ⟨a11, b11, rfl, h11, h⟩ := h
  obtain ⟨a12, b12, rfl, h12, h⟩ := h
  obtain ⟨a13, b13, rfl, h13, h⟩ := h
  obtain ⟨a14, b14, rfl, h14, h⟩ := h
  obtain ⟨a15, b15, rfl, h15, h⟩ := h
  obtain ⟨a16, b16, rfl, h16, h⟩ := h
  obtain ⟨a17, b17, rfl, h17, h⟩ := h
  obtain ⟨a18, b18, rfl, h18, h⟩ := h
  obtain ⟨a19, b19, rfl, h19, h⟩ := h
  obtain ⟨a20, b20, rfl, h20, h⟩ := h
  obtain ⟨a21, b21, rfl, h21, h⟩ := h
  obtain ⟨a22, b22, rfl, h22, h⟩ := h
  obtain ⟨a23, b23, rfl, h23, h⟩ := h
  obtain ⟨a24, b24, rfl, h24, h⟩ := h
  obtain ⟨a25, b25, rfl, h25, h⟩ := h
  obtain ⟨a26, b26, rfl, h26, h⟩ := h
  obtain ⟨a27, b27, rfl, h27, h⟩ := h
  obtain ⟨a28, b28, rfl, h28, h⟩ := h
  obtain ⟨a29, b29, rfl, h29, h⟩ := h
  obtain ⟨a30, b30, rfl, h30, h⟩ := h
  obtain ⟨a31, b31, rfl, h31, h⟩ := h
  obtain ⟨a32, b32, rfl, h32, h⟩ := h
  obtain ⟨a33, b33, rfl, h33, h⟩ := h
  obtain ⟨a34, b34, rfl, h34, h⟩ := h
  have h : _ = _ := h
  subst h
  obtain ⟨x0, rfl, k0⟩ := h0.int_inv Try.underlying5
  obtain ⟨x1, rfl, k1⟩ := h1.str_inv Try.underlying9
  obtain ⟨x2, rfl, k2⟩ := h2.str_inv Try.underlying9
  obtain ⟨x3, rfl, k3⟩ := h3.int_inv Try.underlying30
  obtain ⟨x4, rfl, k4⟩ := h4.int_inv Try.underlying31
  obtain ⟨x5, rfl, k5⟩ := h5.int_inv Try.underlying30
  obtain ⟨x6, rfl, k6⟩ := h6.int_inv Try.underlying3
  obtain ⟨x7, rfl, k7⟩ := h7.int_inv Try.underlying30
  obtain ⟨x8, rfl, k8⟩ := h8.int_inv Try.underlying30
  obtain ⟨x9, rfl, k9⟩ := h9.int_inv Try.underlying30
  obtain ⟨x10, rfl, k10⟩ := h10.int_inv Try.underlying30
  obtain ⟨x11, rfl, k11⟩ := h11.str_inv Try.underlying9
  obtain ⟨x12, rfl, k12⟩ := h12.int_inv Try.underlying3
  obtain ⟨x13, rfl⟩ := h13.bool_inv Try.underlying4
  obtain ⟨x14, rfl, k14⟩ := h14.int_inv Try.underlying5
  obtain ⟨x15, rfl, k15⟩ := h15.int_inv Try.underlying5
  obtain ⟨x16, rfl, k16⟩ := h16.str_inv Try.underlying9
  obtain ⟨x17, rfl, k17⟩ := h17.str_inv Try.underlying9
  obtain ⟨x18, k18, w18⟩ := h18.slice_any Try.underlying32
  obtain ⟨x19, rfl, k19⟩ := h19.int_inv Try.underlying30
  obtain ⟨x20, rfl, k20⟩ := h20.int_inv Try.underlying2
  obtain ⟨x21, rfl, k21⟩ := h21.int_inv Try.underlying30
  obtain ⟨x22, rfl⟩ := h22.bool_inv Try.underlying4
  obtain ⟨x23, rfl⟩ := h23.bool_inv Try.underlying4
  obtain ⟨x24, rfl, k24⟩ := h24.int_inv Try.underlying2
  obtain ⟨x25, rfl, k25⟩ := h25.int_inv Try.underlying30
  obtain ⟨x26, rfl, k26⟩ := h26.str_inv Try.underlying9
  obtain ⟨x27, rfl⟩ := h27.bool_inv Try.underlying4
  obtain ⟨x28, rfl⟩ := h28.bool_inv Try.underlying4
  obtain ⟨x29, rfl⟩ := h29.bool_inv Try.underlying4
  obtain ⟨x30, rfl⟩ := h30.bool_inv Try.underlying4
  obtain ⟨x31, k31, w31⟩ := Outc.of_rd h31
  obtain ⟨x32, w32⟩ := h32.bytes_inv Try.underlying36 Try.underlying5
  obtain ⟨x33, rfl⟩ := h33.bool_inv Try.underlying4
  obtain ⟨x34, rfl, k34⟩ := h34.str_inv Try.underlying9
  refine ⟨⟨x0, x1, x2, x3, x4, x5, x6, x7, x8, x9, x10, x11, x12, x13, x14, x15, x16, x17, x18, x19, x20, x21, x22, x23, x24, x25, x26, x27, x28, x29, x30, x31, x32, x33, x34⟩, ⟨k0, k1, k2, k3, k4, k5, k6, k7, k8, k9, k10, k11, k12, k14, k15, k16, k17, k18, k19, k20, k21, k24, k25, k26, k31, k34⟩, ?_⟩
  exact (WkL.append (.refl _) (WkL.append (.refl _) (WkL.append (.refl _) (WkL.append (.refl _) (WkL.append (.refl _) (WkL.append (.refl _) (WkL.append (.refl _) (WkL.append (.refl _) (WkL.append (.refl _) (WkL.append (.refl _) (WkL.append (.refl _) (WkL.append (.refl _) (WkL.append (.refl _) (WkL.append (.refl _) (WkL.append (.refl _) (WkL.append (.refl _) (WkL.append (.refl _) (WkL.append (.refl _) (WkL.append w18 (WkL.append (.refl _) (WkL.append (.refl _) (WkL.append (.refl _) (WkL.append (.refl _) (WkL.append (.refl _) (WkL.append (.refl _) (WkL.append (.refl _) (WkL.append (.refl _) (WkL.append (.refl _) (WkL.append (.refl _) (WkL.append (.refl _) (WkL.append (.refl _) (WkL.append w31 (WkL.append w32 (WkL.append (.refl _) (WkL.append (.refl _) .nil)))))))))))))))))))))))))))))))))))

theorem Perf.of_arg {d : D} (h : Arg Try.prog 38 d) : ∃ x : Perf, x.ok ∧ Wk d x.d := Arg.agg (by kernel_rfl) Perf.ok Perf.cs (fun _ hd => Perf.of_rd hd) h
theorem Perf.d_cells (x : Perf) : x.d.cells = x.cs := rfl

structure InV where
  id : Int
  tag : ByteArray
  settled : Bool
  resume : Bool
  state : Outc
  payload : ByteArray

def InV.cs (x : InV) : List D := [.sc (.int .u32 x.id), .sc (.string x.tag), .sc (.bool x.settled), .sc (.bool x.resume), .sc (.int .u8 x.state.kind), .sc (.int .u64 x.state.a), .sc (.int .u64 x.state.b), .sc (.string x.state.cond), .ro false (bytesD x.payload)]
def InV.d (x : InV) : D := .agg x.cs
structure InV.ok (x : InV) : Prop where
  id : 0 ≤ x.id ∧ x.id ≤ 4294967295
  tag : x.tag.size ≤ 9223372036854775807
  state : x.state.ok

theorem InV.fr {x : InV} : ∀ d ∈ x.cs, d.free := by
  intro d hd
  simp only [InV.cs, List.mem_cons, List.not_mem_nil, or_false] at hd
  rcases hd with rfl | rfl | rfl | rfl | rfl | rfl | rfl | rfl | rfl
  · exact .sc
  · exact .sc
  · exact .sc
  · exact .sc
  · exact .sc
  · exact .sc
  · exact .sc
  · exact .sc
  · exact bytes_free _ _
theorem InV.free {x : InV} : x.d.free := .agg (InV.fr)

theorem InV.of_rd {cs : List D} (h : Rd Try.prog 40 cs) : ∃ x : InV, x.ok ∧ WkL cs x.cs := by
  have h := Rd.fields Try.underlying40 h
  obtain ⟨a0, b0, rfl, h0, h⟩ := h
  obtain ⟨a1, b1, rfl, h1, h⟩ := h
  obtain ⟨a2, b2, rfl, h2, h⟩ := h
  obtain ⟨a3, b3, rfl, h3, h⟩ := h
  obtain ⟨a4, b4, rfl, h4, h⟩ := h
  obtain ⟨a5, b5, rfl, h5, h⟩ := h
  have h : _ = _ := h
  subst h
  obtain ⟨x0, rfl, k0⟩ := h0.int_inv Try.underlying30
  obtain ⟨x1, rfl, k1⟩ := h1.str_inv Try.underlying9
  obtain ⟨x2, rfl⟩ := h2.bool_inv Try.underlying4
  obtain ⟨x3, rfl⟩ := h3.bool_inv Try.underlying4
  obtain ⟨x4, k4, w4⟩ := Outc.of_rd h4
  obtain ⟨x5, w5⟩ := h5.bytes_inv Try.underlying36 Try.underlying5
  refine ⟨⟨x0, x1, x2, x3, x4, x5⟩, ⟨k0, k1, k4⟩, ?_⟩
  exact (WkL.append (.refl _) (WkL.append (.refl _) (WkL.append (.refl _) (WkL.append (.refl _) (WkL.append w4 (WkL.append w5 .nil))))))

theorem InV.of_arg {d : D} (h : Arg Try.prog 40 d) : ∃ x : InV, x.ok ∧ Wk d x.d := Arg.agg (by kernel_rfl) InV.ok InV.cs (fun _ hd => InV.of_rd hd) h
theorem InV.d_cells (x : InV) : x.d.cells = x.cs := rfl

attribute [go_sem] Outc.cs Outc.d Perf.cs Perf.d InV.cs InV.d
end Go.Bw.R1

/- Seat r1: the iterator over a map's keys. -/
namespace Go.Bw.R1
set_option maxRecDepth 5000
open Go Go.Proofs Go.RowKit Go.Shelf
attribute [local go_sem] Oper.semAt_some
set_option maxRecDepth 100000 in
set_option maxHeartbeats 2000000 in
theorem keys1_walk (l B off b2 off2 n cap : Nat) (v : Nat → Nat → Value) (J : Nat → World → Prop) (Jx : World → Prop) (hn : n ≤ 4000000)
    (hc : ∀ i W, J i W → W.cell? ⟨B, off + 3, none⟩ = some (.slice (some ⟨b2, off2, none⟩) n cap))
    (hv : ∀ i W, J i W → ∀ j, j < n → ∀ q, q < 4 → W.cell? ⟨b2, off2 + j * 4 + q, none⟩ = some (v j q))
    (hd : ∀ i W, J i W → J i W.drew)
    (hY : ∀ k W, J k W → 2 * k + 1 < n → YieldAt Fence.wide 0 Try.prog l #[.agg #[v (2 * k) 0, v (2 * k) 1, v (2 * k) 2, v (2 * k) 3], .agg #[v (2 * k + 1) 0, v (2 * k + 1) 1, v (2 * k + 1) 2, v (2 * k + 1) 3]] W fun e W' => (e = .returned (.bool true) ∧ J (k + 1) W') ∨ (e = .returned (.bool false) ∧ Jx W'))
    (W : World) (h0 : J 0 W) : CallsIn Fence.wide 1 Try.prog 70 #[.func (.yield l) #[] #[], .pointer (some ⟨B, off, none⟩)] W fun e W' => (∃ v, e = .returned v) ∧ (J (n / 2) W' ∨ Jx W') := by
  refine callsIn_of_wp Try.func70 rfl trivial ?_ rfl
  simp only [Try.ntmps70, List.size_toArray, List.length_cons, List.length_nil, Nat.reduceAdd, Nat.reduceSub, Array.replicate_succ, Array.replicate_zero, List.push_toArray, List.append_toArray, List.nil_append, List.cons_append]
  gi_wp2
  gi_loopw [3] (fun iv wr => ∃ k i : Nat, i = 2 * k ∧ i ≤ n ∧ iv = .int .i64 i ∧ J k wr) (fun i _ => n + 2 - (intOf i).toNat)
  case atStart => exact ⟨0, 0, rfl, by omega, rfl, h0⟩
  case round =>
    obtain ⟨k, i, hik, hk, rfl, hJs⟩ := hrel
    have hcx := hc k wr hJs
    by_cases hlt : i + 1 < n
    · obtain ⟨fn, tmps, assign, body, hy, hR⟩ := hY k wr.drew (hd _ _ hJs) (by omega)
      rw [← hik] at hy
      have a0 := hv k wr hJs i (by omega) 0 (by omega)
      have a1 := hv k wr hJs i (by omega) 1 (by omega)
      have a2 := hv k wr hJs i (by omega) 2 (by omega)
      have a3 := hv k wr hJs i (by omega) 3 (by omega)
      have b0 := hv k wr hJs (i + 1) (by omega) 0 (by omega)
      have b1 := hv k wr hJs (i + 1) (by omega) 1 (by omega)
      have b2 := hv k wr hJs (i + 1) (by omega) 2 (by omega)
      have b3 := hv k wr hJs (i + 1) (by omega) 3 (by omega)
      simp only [Nat.add_zero] at a0 b0
      have hR' : RoundIn Fence.wide 0 Try.prog l fn tmps assign body wr.drew fun e W' => ∃ bb, e = .returned (.bool bb) ∧ ((bb = true ∧ J (k + 1) W') ∨ (bb = false ∧ Jx W')) := hR.mono (by
        rintro e W3 (⟨rfl, h⟩ | ⟨rfl, h⟩)
        · exact ⟨true, rfl, .inl ⟨rfl, h⟩⟩
        · exact ⟨false, rfl, .inr ⟨rfl, h⟩⟩)
      clear hR
      have c1 : (0 : Int) ≤ i := by omega
      have c2 : (i : Int) < n := by omega
      have c3 : (0 : Int) ≤ i + 1 := by omega
      have c4 : (i : Int) + 1 < n := by omega
      have c5 : (i : Int).toNat = i := by omega
      have c6 : ((i : Int) + 1).toNat = i + 1 := by omega
      have c7 : IntKind.i64.wrap ((i : Int) + 1) = i + 1 := Go.Bw.wrap_i64 (by omega) (by omega)
      have hik2 : 2 * k ≤ i ∧ i ≤ 2 * k := by omega
      clear hik
      gi_wp2
      gi_region_with (refine hR'.mono ?_; rintro _ W3 ⟨bb, rfl, hb⟩)
      all_goals (rcases hb with ⟨rfl, hJ3⟩ | ⟨rfl, hJx3⟩)
      all_goals first
        | (gi_wp2
           go_roundw
           case rel => exact ⟨k + 1, i + 2, by omega, by omega, by simp, hJ3⟩
           case measure => simp [intOf]; omega)
        | (gi_wp2
           refine bodyPost_ret (results_none rfl _ _ _) rfl ?_
           exact ⟨⟨_, rfl⟩, .inr hJx3⟩)
    · gi_wp2
      go_end0
      exact ⟨⟨_, rfl⟩, .inl (by have : n / 2 = k := by omega
                                rw [this]; exact hJs)⟩
set_option maxRecDepth 100000 in
set_option maxHeartbeats 2000000 in
theorem keys1_nil (l B off cap : Nat) (a : Option Addr) (J : Nat → World → Prop)
    (hc : ∀ i W, J i W → W.cell? ⟨B, off + 3, none⟩ = some (.slice a 0 cap))
    (W : World) (h0 : J 0 W) : CallsIn Fence.wide 1 Try.prog 70 #[.func (.yield l) #[] #[], .pointer (some ⟨B, off, none⟩)] W fun e W' => (∃ v, e = .returned v) ∧ J 0 W' := by
  refine callsIn_of_wp Try.func70 rfl trivial ?_ rfl
  simp only [Try.ntmps70, List.size_toArray, List.length_cons, List.length_nil, Nat.reduceAdd, Nat.reduceSub, Array.replicate_succ, Array.replicate_zero, List.push_toArray, List.append_toArray, List.nil_append, List.cons_append]
  gi_wp2
  gi_loopw [3] (fun iv wr => iv = .int .i64 0 ∧ J 0 wr) (fun i _ => 0)
  case atStart => exact ⟨rfl, h0⟩
  case round =>
    obtain ⟨rfl, hJs⟩ := hrel
    have hcx := hc 0 wr hJs
    gi_wp2
    go_end0
    exact ⟨⟨_, rfl⟩, hJs⟩

def pairsD : List D → List (List D)
  | a :: b :: r => [a, b] :: pairsD r
  | _ => []
theorem pairsD_len : ∀ l : List D, (pairsD l).length = l.length / 2
  | [] => rfl
  | [_] => by simp [pairsD]
  | a :: b :: r => by simp only [pairsD, List.length_cons, pairsD_len r]; omega
theorem pairsD_at : ∀ (l : List D) (i : Nat) (ys : List D), (pairsD l)[i]? = some ys → ∃ a b, l[2 * i]? = some a ∧ l[2 * i + 1]? = some b ∧ ys = [a, b]
  | [], i, ys, h => by simp [pairsD] at h
  | [_], i, ys, h => by simp [pairsD] at h
  | a :: b :: r, 0, ys, h => by simp only [pairsD, List.getElem?_cons_zero, Option.some.injEq] at h; exact ⟨a, b, rfl, rfl, h.symm⟩
  | a :: b :: r, i + 1, ys, h => by
    simp only [pairsD, List.getElem?_cons_succ] at h
    obtain ⟨x, y, h1, h2, h3⟩ := pairsD_at r i ys h
    exact ⟨x, y, by rw [show 2 * (i + 1) = (2 * i) + 1 + 1 by omega]; simpa using h1, by rw [show 2 * (i + 1) + 1 = (2 * i + 1) + 1 + 1 by omega]; simpa using h2, h3⟩
theorem pairsD_mem {l : List D} {ys : List D} (h : ys ∈ pairsD l) {y : D} (hy : y ∈ ys) : y ∈ l := by
  obtain ⟨i, hi⟩ := List.getElem?_of_mem h
  obtain ⟨a, b, h1, h2, rfl⟩ := pairsD_at l i ys hi
  rcases List.mem_cons.1 hy with rfl | hy
  · exact List.mem_of_getElem? h1
  · rcases List.mem_cons.1 hy with rfl | hy
    · exact List.mem_of_getElem? h2
    · cases hy

theorem flat_at {l : List D} {sz j q : Nat} {e : D} (hs : ∀ e ∈ l, e.cells.length = sz) (he : l[j]? = some e) (hq : q < sz) : (l.flatMap D.cells)[j * sz + q]? = e.cells[q]? := by
  induction l generalizing j with
  | nil => simp at he
  | cons a l ih =>
    cases j with
    | zero =>
      simp only [List.getElem?_cons_zero, Option.some.injEq] at he
      subst he
      rw [List.flatMap_cons, Nat.zero_mul, Nat.zero_add, List.getElem?_append_left (by rw [hs a (List.mem_cons_self ..)]; exact hq)]
    | succ j =>
      have ha := hs a (List.mem_cons_self ..)
      rw [List.flatMap_cons, List.getElem?_append_right (by rw [ha, Nat.succ_mul]; omega), ha, show (j + 1) * sz + q - sz = j * sz + q by rw [Nat.succ_mul]; omega]
      exact ih (fun e he' => hs e (List.mem_cons_of_mem _ he')) (by simpa using he)

theorem cell_of {W : World} {b o : Nat} {c : Array Value} {t : TypeId} {fz : Nat × Nat} (h : W.heap[b]? = some (.cells c t fz)) (ho : o < c.size) : W.cell? ⟨b, o, none⟩ = some (c.getD o undef) := by
  simp [World.cell?, h, Array.getD_eq_getD_getElem?, ho]

/-- what a map's keys hand on -/
theorem keys_iter (elems : List D) (hn : elems.length ≤ 4000000) (h4 : ∀ e ∈ elems, e.free ∧ ∃ cs, e = .agg cs ∧ cs.length = 4) (x y z : D) (ex : Bool) :
    IterT Try.prog (.fn (.func 70) [] [.rp [x, y, z, .ro ex elems]]) (pairsD elems) := by
  refine ⟨70, _, rfl, by kernel_rfl, fun ys hys e he => (h4 e (pairsD_mem hys he)).1, fun g w cs himm hVL => ?_⟩
  obtain ⟨c0, rfl⟩ : ∃ c0, cs = #[c0] := by
    have := hVL.1
    simp only [List.length_cons, List.length_nil] at this
    exact ⟨cs[0], by apply Array.ext; simp [this]; intro i h1 h2; have : i = 0 := by omega
                     subst this; rfl⟩
  have hv0 := hVL.2 0 _ rfl
  simp only [Array.getD_eq_getD_getElem?, List.getElem?_toArray, List.getElem?_cons_zero, Option.getD_some] at hv0
  cases hv0 with
  | @rp _ B off c t fz hm hl hcell =>
    have hk := hcell 3 _ rfl
    simp only [List.length_cons, List.length_nil] at hl
    have hkc : ∀ W : World, (∀ b o, g.m b = some o → W.heap[b]? = some o) → W.cell? ⟨B, off + 3, none⟩ = some (c.getD (off + 3) undef) := fun W hW => cell_of (hW _ _ hm) (by omega)
    generalize hsv : c.getD (off + 3) undef = sv at hk hkc
    have nilcase : ∀ (a : Option Addr) (cap : Nat), sv = .slice a 0 cap → elems = [] → ∃ vss : List (Array Value), vss.length = (pairsD elems).length ∧ (∀ (i : Nat) ys vs, (pairsD elems)[i]? = some ys → vss[i]? = some vs → VL g ys vs) ∧
        ∀ (l : Nat) (J : Nat → World → Prop) (Jx : World → Prop),
          (∀ i W, J i W → ∀ b o, g.m b = some o → W.heap[b]? = some o) → (∀ i W, J i W → J i W.drew) → (∀ W, Jx W → Jx W.drew) →
          (∀ (i : Nat) vs W, vss[i]? = some vs → J i W → YieldAt Fence.wide 0 Try.prog l vs W fun e W' => (e = .returned (.bool true) ∧ J (i + 1) W') ∨ (e = .returned (.bool false) ∧ Jx W')) →
          ∀ W, J 0 W → CallsIn Fence.wide 0 Try.prog 70 (#[.func (.yield l) #[] #[]] ++ #[.pointer (some ⟨B, off, none⟩)]) W fun e W' => (∃ v, e = .returned v) ∧ (J vss.length W' ∨ Jx W') := by
      rintro a cap rfl rfl
      refine ⟨[], rfl, fun i ys vs h => by simp [pairsD] at h, fun l J Jx hJ _ _ _ W h0 => ?_⟩
      refine (callsIn_wide (n := 0)).2 ((callsIn_wide (n := 1)).1 ((keys1_nil l B off cap a J (fun i W h => hkc W (hJ i W h)) W h0).mono ?_))
      exact fun e W' h => ⟨h.1, .inl h.2⟩
    cases hk with
    | roNil => exact nilcase none 0 rfl rfl
    | roNone h1 h2 => exact nilcase _ _ rfl rfl
    | @ro _ _ b2 off2 cap sz c2 t2 fz2 hm2 hs hl2 hcap hx he hcells =>
      have hsz : elems ≠ [] → sz = 4 := fun hne => by
        obtain ⟨e, r, rfl⟩ := List.exists_cons_of_ne_nil hne
        obtain ⟨_, cs, rfl, hcs⟩ := h4 e (List.mem_cons_self ..)
        have := hs _ (List.mem_cons_self ..)
        simp only [D.cells] at this
        omega
      have hval : ∀ j e, elems[j]? = some e → ∀ q, q < 4 → ∀ d, e.cells[q]? = some d → V g d (c2.getD (off2 + (j * 4 + q)) undef) := fun j e he q hq d hd => by
        obtain rfl : sz = 4 := hsz (by rintro rfl; simp at he)
        exact hcells _ _ (by rw [flat_at hs he hq]; exact hd)
      have hc2 : ∀ W : World, (∀ b o, g.m b = some o → W.heap[b]? = some o) → ∀ j, j < elems.length → ∀ q, q < 4 → W.cell? ⟨b2, off2 + j * 4 + q, none⟩ = some (c2.getD (off2 + (j * 4 + q)) undef) := fun W hW j hj q hq => by
        obtain rfl : sz = 4 := hsz (by rintro rfl; simp at hj)
        rw [Nat.add_assoc]
        exact cell_of (hW _ _ hm2) (by omega)
      refine ⟨(List.range (elems.length / 2)).map fun k => #[.agg #[c2.getD (off2 + (2 * k * 4 + 0)) undef, c2.getD (off2 + (2 * k * 4 + 1)) undef, c2.getD (off2 + (2 * k * 4 + 2)) undef, c2.getD (off2 + (2 * k * 4 + 3)) undef],
        .agg #[c2.getD (off2 + ((2 * k + 1) * 4 + 0)) undef, c2.getD (off2 + ((2 * k + 1) * 4 + 1)) undef, c2.getD (off2 + ((2 * k + 1) * 4 + 2)) undef, c2.getD (off2 + ((2 * k + 1) * 4 + 3)) undef]], by simp [pairsD_len], ?_, ?_⟩
      · intro i ys vs hys hvs
        obtain ⟨a, b, ha, hb, rfl⟩ := pairsD_at elems i ys hys
        obtain ⟨_, ca, rfl, hca⟩ := h4 a (List.mem_of_getElem? ha)
        obtain ⟨_, cb, rfl, hcb⟩ := h4 b (List.mem_of_getElem? hb)
        simp only [List.getElem?_map, Option.map_eq_some_iff] at hvs
        obtain ⟨k, hk, rfl⟩ := hvs
        obtain rfl : k = i := by
          obtain ⟨hlt, hh⟩ := List.getElem?_eq_some_iff.1 hk
          simpa using hh.symm
        have one : ∀ (j : Nat) (cs : List D), elems[j]? = some (.agg cs) → cs.length = 4 → V g (.agg cs) (.agg #[c2.getD (off2 + (j * 4 + 0)) undef, c2.getD (off2 + (j * 4 + 1)) undef, c2.getD (off2 + (j * 4 + 2)) undef, c2.getD (off2 + (j * 4 + 3)) undef]) := fun j cs hj hcs => by
          refine .agg (by simp [hcs]) fun q d hd => ?_
          have hq : q < 4 := by rw [← hcs]; exact (List.getElem?_eq_some_iff.1 hd).1
          have := hval j _ hj q hq d (by simpa using hd)
          match q, hq with
          | 0, _ => exact this
          | 1, _ => exact this
          | 2, _ => exact this
          | 3, _ => exact this
        refine ⟨rfl, fun q d hd => ?_⟩
        match q with
        | 0 => simp only [List.getElem?_cons_zero, Option.some.injEq] at hd; subst hd; exact one _ _ ha hca
        | 1 => simp only [List.getElem?_cons_succ, List.getElem?_cons_zero, Option.some.injEq] at hd; subst hd; exact one _ _ hb hcb
        | q + 2 => simp at hd
      · intro l J Jx hJ hJd _ hY W h0
        refine (callsIn_wide (n := 0)).2 ((callsIn_wide (n := 1)).1 ((keys1_walk l B off b2 off2 elems.length cap (fun j q => c2.getD (off2 + (j * 4 + q)) undef) J Jx hn (fun i W h => hkc W (hJ i W h)) (fun i W h => hc2 W (hJ i W h)) hJd (fun k W hj hlt => hY k _ W (by simp [List.getElem?_range, show k < elems.length / 2 by omega]) hj) W h0).mono ?_))
        exact fun e W' h => ⟨h.1, by simpa using h.2⟩
open Classical in
/-- the iterators of this seat -/
noncomputable def keysIt : D → Option (List (List D))
  | .fn (.func f) [] [.rp [_, _, _, .ro _ elems]] => if f = 70 ∧ elems.length ≤ 4000000 ∧ ∀ e ∈ elems, e.free ∧ ∃ cs, e = .agg cs ∧ cs.length = 4 then some (pairsD elems) else none
  | _ => none
theorem keysIt_sound : SoundI Try.prog keysIt := fun d yss h => by
  unfold keysIt at h
  split at h
  · split at h
    · rename_i hc
      simp only [Option.some.injEq] at h
      subst h
      obtain ⟨rfl, h1, h2⟩ := hc
      exact keys_iter _ h1 h2 _ _ _ _
    · cases h
  · cases h
end Go.Bw.R1

/- Seat r1: the evaluator's table; values. -/
namespace Go.Bw.R1
set_option maxRecDepth 5000
open Go Go.Bw Go.Proofs
def An1Tab : List (Nat × AnnB) := [
  (2, ⟨[], [], [], false, []⟩),
  (3, ⟨[], [(0, [0, 1, 5, 6, 7]), (2, [0, 1, 5, 6, 7, 8, 9, 10, 11, 12, 13]), (4, [0, 1, 5, 6, 7, 9, 14])], [], false, []⟩),
  (4, ⟨[], [(0, [0, 3, 4, 5])], [], false, []⟩),
  (5, ⟨[], [(0, [0, 1, 5, 6, 7, 8])], [], false, [(12, [42]), (22, [67])]⟩),
  (6, ⟨[1], [], [], false, []⟩),
  (7, ⟨[], [(0, [0, 1, 2, 3, 4, 5, 13, 14, 15, 16]), (2000012, [0, 1, 2, 3, 4, 5, 13, 14, 15, 16, 17, 18])], [(12, [(18, 0, false), (19, 0, false), (20, 0, false), (21, 0, false), (22, 0, false), (23, 0, true), (25, 0, true), (0, 0, false), (1, 0, false), (2, 0, false), (3, 0, false), (4, 0, false), (5, 0, false), (6, 0, false), (7, 0, false), (8, 0, false), (9, 0, false), (10, 0, false), (11, 0, false), (12, 0, false), (13, 0, false), (14, 0, false), (15, 0, false), (16, 0, false), (17, 0, false), (24, 1, false), (26, 0, true)]), (1000012, [(23, 25, false), (18, 0, false), (19, 0, false), (20, 0, false), (21, 0, false), (22, 0, false), (25, 0, true), (23, 0, true), (0, 0, false), (1, 0, false), (2, 0, false), (3, 0, false), (4, 0, false), (5, 0, false), (6, 0, false), (7, 0, false), (8, 0, false), (9, 0, false), (10, 0, false), (11, 0, false), (12, 0, false), (13, 0, false), (14, 0, false), (15, 0, false), (16, 0, false), (17, 0, false), (24, 0, false), (26, 0, true)])], false, [(3000019, [18])]⟩),
  (8, ⟨[1], [], [(4, [(0, 0, false), (1, 0, false), (2, 0, false), (3, 0, false), (4, 0, false), (5, 0, false), (6, 0, false), (7, 0, false), (8, 0, false), (9, 0, false), (10, 0, false), (11, 0, false), (12, 0, false), (13, 0, false)])], false, []⟩),
  (9, ⟨[], [], [(5, [(0, 0, false), (1, 0, false), (2, 0, false), (3, 0, false), (4, 0, false), (5, 0, false), (6, 0, false), (7, 0, false), (8, 0, false), (9, 0, false), (10, 0, false), (11, 0, false), (12, 0, false), (13, 0, false), (14, 0, false), (15, 0, false), (16, 0, false), (17, 0, false), (18, 0, false), (19, 0, false), (20, 0, false), (21, 0, false), (22, 0, false), (23, 0, false), (24, 0, false), (25, 0, false)]), (10, [(7, 0, true), (0, 0, false), (1, 0, false), (2, 0, false), (3, 0, false), (4, 0, false), (5, 0, false), (6, 0, false), (8, 0, true)]), (11, [(7, 0, true), (0, 0, false), (1, 0, false), (2, 0, false), (3, 0, false), (4, 0, false), (5, 0, false), (6, 0, false), (8, 0, true)]), (15, [(0, 0, false), (1, 0, false), (2, 0, false), (3, 0, false), (4, 0, false), (5, 0, false), (6, 0, false), (7, 0, false), (8, 0, false), (9, 0, false), (10, 0, false), (11, 0, false), (12, 0, false), (13, 0, false), (14, 0, false), (15, 0, false), (16, 0, false), (17, 0, false), (18, 0, false)])], false, []⟩),
  (10, ⟨[2, 3], [], [(4, [(0, 0, false), (1, 0, false), (2, 0, false), (3, 0, false), (4, 0, false), (5, 0, false), (6, 0, false), (7, 0, false), (8, 0, false), (9, 0, false), (10, 0, false), (11, 0, false), (12, 0, false), (13, 0, false), (14, 0, false), (15, 0, false), (16, 0, false), (17, 0, false), (18, 0, false), (19, 0, false), (20, 0, false), (21, 0, false), (22, 0, false), (23, 0, false), (24, 0, false), (25, 0, false), (26, 0, false)]), (8, [(0, 0, false), (1, 0, false), (2, 0, false), (3, 0, false), (4, 0, false), (5, 0, false), (6, 0, false), (7, 0, false), (8, 0, false), (9, 0, false), (10, 0, false), (11, 0, false), (12, 0, false), (13, 0, false), (14, 0, false), (15, 0, false)])], false, []⟩),
  (11, ⟨[2, 3], [], [], false, []⟩),
  (12, ⟨[], [(0, [0, 1, 5, 6, 7, 8, 9]), (2, [0, 1, 10])], [(18, [(7, 0, true), (0, 0, false), (1, 0, false), (2, 0, false), (3, 0, false), (4, 0, false), (5, 0, false), (6, 0, false), (8, 0, true)]), (19, [(0, 0, false), (1, 0, false), (2, 0, false), (3, 0, false), (4, 0, false), (5, 0, false), (6, 0, false), (7, 0, false), (8, 0, false), (9, 0, false), (10, 0, false), (11, 0, false), (12, 0, false), (13, 0, false), (14, 0, false), (15, 0, false), (16, 0, false), (17, 0, false), (18, 0, false), (19, 0, false), (20, 0, false), (21, 0, false), (22, 0, false), (23, 0, false)]), (21, [(0, 0, false), (1, 0, false), (2, 0, false), (3, 0, false), (4, 0, false), (5, 0, false), (6, 0, false)])], false, []⟩),
  (13, ⟨[], [(0, [0, 3, 4])], [], false, []⟩),
  (14, ⟨[], [(0, [0, 3, 4, 5]), (2, [0, 3, 4, 5, 6])], [(10, [(0, 0, false), (1, 0, false), (2, 0, false), (3, 0, false), (4, 0, false), (5, 0, false), (6, 0, false), (7, 0, false), (8, 0, false), (9, 0, false), (10, 0, false), (11, 0, false), (12, 0, false), (13, 0, false)]), (14, [(0, 0, false), (1, 0, false), (2, 0, false), (3, 0, false), (4, 0, false), (5, 0, false), (6, 0, false), (7, 0, false), (8, 0, false), (9, 0, false), (10, 0, false), (11, 0, false), (12, 0, false), (13, 0, false), (14, 0, false), (15, 0, false), (16, 0, false), (17, 0, false), (18, 0, false)])], false, []⟩),
  (15, ⟨[], [(0, [0, 3])], [], false, []⟩),
  (16, ⟨[], [], [], false, []⟩),
  (17, ⟨[], [], [], false, []⟩),
  (18, ⟨[], [], [], false, []⟩),
  (19, ⟨[], [], [], false, []⟩),
  (20, ⟨[], [], [], false, []⟩),
  (21, ⟨[3], [(1000000, [0, 4, 5])], [(4, [(0, 0, false), (8, 0, false), (9, 0, false), (10, 0, true), (1, 0, false), (3, 0, false), (4, 0, false), (5, 0, false), (11, 1, false), (12, 1, false), (13, 1, false), (14, 0, true), (2, 0, false), (6, 0, false), (7, 0, false), (15, 2, false), (16, 2, false), (17, 2, false), (18, 0, true)]), (5, [(0, 0, false), (1, 0, false), (2, 0, false), (3, 0, false), (4, 0, false), (5, 0, false), (6, 0, false), (7, 0, false), (8, 0, false), (9, 0, false), (10, 0, false), (11, 0, true)]), (8, [(0, 0, false), (1, 0, false), (2, 0, false), (3, 0, false), (4, 0, false), (5, 0, false), (6, 0, false), (7, 0, false), (8, 0, false), (9, 0, false), (10, 0, false)]), (10, [(0, 0, false), (1, 0, false), (2, 0, false), (3, 0, false), (4, 0, false), (5, 0, false), (6, 0, false), (7, 0, false), (8, 0, false), (9, 0, false), (10, 0, false), (11, 0, false), (12, 0, false), (13, 0, true)])], true, []⟩),
  (22, ⟨[3], [], [(5, [(0, 0, false), (1, 0, false), (2, 0, false), (3, 0, false), (4, 0, false), (5, 0, false), (6, 0, false), (7, 0, false), (8, 0, false), (9, 0, false), (10, 0, false), (11, 0, false), (12, 0, false), (13, 0, false), (14, 0, false), (15, 0, false), (16, 0, false), (17, 0, false), (18, 0, false), (19, 0, false), (20, 0, false), (21, 0, false), (22, 0, false), (23, 0, false), (24, 0, false), (25, 0, false), (26, 0, false), (27, 0, false), (28, 0, false), (29, 0, false), (30, 0, false), (31, 0, false), (32, 0, false), (33, 0, false), (34, 0, false)]), (10, [(11, 0, true), (0, 0, false), (1, 0, false), (2, 0, false), (3, 0, false), (4, 0, false), (5, 0, false), (6, 0, false), (7, 0, false), (8, 0, false), (9, 0, false), (10, 0, false), (12, 0, true)]), (14, [(0, 0, false), (1, 0, false), (2, 0, false), (3, 0, false), (4, 0, false), (5, 0, false), (6, 0, false), (7, 0, false), (8, 0, false), (9, 0, false), (10, 0, false)]), (17, [(1, 0, false), (2, 0, false), (3, 0, false), (4, 0, false), (5, 0, false), (6, 0, false), (7, 0, true), (8, 0, false), (9, 0, false), (10, 0, true), (0, 0, false), (11, 2, false), (12, 2, false), (13, 2, false), (14, 0, true)])], true, [(17, [137])]⟩),
  (23, ⟨[2, 3], [], [], false, []⟩),
  (24, ⟨[], [], [], false, []⟩),
  (25, ⟨[], [], [], false, []⟩),
  (26, ⟨[], [], [], true, []⟩),
  (27, ⟨[], [(0, [0, 3, 4])], [(5, [(0, 0, false), (1, 0, false), (2, 0, false), (3, 0, false), (4, 0, false), (5, 0, false), (6, 0, false), (7, 0, false), (8, 0, false), (9, 0, false), (10, 0, false), (11, 0, false), (12, 0, false), (13, 0, false), (14, 0, false), (15, 0, false)])], false, []⟩),
  (28, ⟨[], [], [(3, [(6, 0, true), (0, 0, false), (1, 0, false), (2, 0, false), (3, 0, false), (4, 0, false), (5, 0, false), (7, 0, true)]), (6, [(0, 0, false), (1, 0, false), (2, 0, false), (3, 0, false), (4, 0, false), (5, 0, false), (6, 0, false), (7, 0, false), (8, 0, false), (9, 0, false), (10, 0, false), (11, 0, false), (12, 0, false), (13, 0, false), (14, 0, false), (15, 0, false), (16, 0, false), (17, 0, false), (18, 0, false), (19, 0, false), (20, 0, false), (21, 0, false), (22, 0, false), (23, 0, false), (24, 0, false), (25, 0, false), (26, 0, false), (27, 0, false), (28, 0, false), (29, 0, false), (30, 0, false), (31, 0, false), (32, 0, false), (33, 0, false), (34, 0, false), (35, 0, false), (36, 0, false), (37, 0, false), (38, 0, false), (39, 0, false), (40, 0, false), (41, 0, false), (42, 0, false), (43, 0, false)])], false, []⟩),
  (29, ⟨[], [], [], true, []⟩),
  (30, ⟨[1], [], [], false, []⟩),
  (31, ⟨[1], [], [], false, []⟩),
  (32, ⟨[2, 3], [(0, [2, 3, 5])], [(6, [(0, 0, false), (1, 0, false), (2, 0, false), (3, 0, false), (4, 0, false), (5, 0, false), (6, 0, false), (7, 0, false), (8, 0, false), (9, 0, false), (10, 0, false), (11, 0, false)])], false, []⟩),
  (33, ⟨[], [(0, [0, 3, 4])], [], true, []⟩),
  (34, ⟨[], [], [], true, []⟩),
  (35, ⟨[2, 3], [], [], false, []⟩),
  (36, ⟨[], [], [], true, []⟩),
  (37, ⟨[], [], [], true, []⟩),
  (38, ⟨[], [], [], true, []⟩),
  (39, ⟨[], [], [], true, []⟩),
  (40, ⟨[], [], [], true, []⟩),
  (41, ⟨[2, 3], [], [], true, []⟩),
  (42, ⟨[2, 3], [], [(1, [(0, 0, false), (1, 0, false), (2, 0, false), (3, 0, false), (4, 0, false), (5, 0, false), (6, 0, true)])], true, []⟩),
  (43, ⟨[], [(0, [0, 2])], [], false, []⟩),
  (44, ⟨[], [], [], true, []⟩),
  (45, ⟨[1], [], [], false, []⟩),
  (46, ⟨[1], [(0, [1, 3, 4])], [], false, []⟩),
  (47, ⟨[1], [], [], false, []⟩),
  (48, ⟨[1], [(0, [1, 3, 4])], [], false, []⟩),
  (49, ⟨[2, 3], [], [], true, []⟩),
  (50, ⟨[2, 3], [(0, [2, 3, 4, 6])], [(6, [(0, 0, false), (1, 0, false), (2, 0, false), (3, 0, false), (4, 0, false), (5, 0, false), (6, 0, false)])], true, []⟩),
  (51, ⟨[3], [], [(5, [(0, 0, false), (1, 0, false), (2, 0, false), (3, 0, false), (4, 0, false), (5, 0, false), (6, 0, false), (7, 0, false), (8, 0, false), (9, 0, false), (10, 0, false), (11, 0, false), (12, 0, false), (13, 0, false), (14, 0, false), (15, 0, false), (16, 0, false), (17, 0, false), (18, 0, false), (19, 0, false), (20, 0, false), (21, 0, false), (22, 0, false), (23, 0, false), (24, 0, false), (25, 0, false), (26, 0, false), (27, 0, false), (28, 0, false), (29, 0, false)])], false, []⟩),
  (52, ⟨[], [(0, [0, 3, 9, 10, 11]), (2, [6, 25, 26, 27])], [], true, []⟩),
  (53, ⟨[1], [], [], false, []⟩),
  (54, ⟨[1], [(0, [1, 3]), (3, [1, 4, 5]), (5, [1, 4, 5, 6]), (7, [1, 4, 7])], [(19, [(0, 0, false), (1, 0, false), (2, 0, false), (3, 0, false), (4, 0, false), (5, 0, false), (6, 0, false), (7, 0, false), (8, 0, false), (9, 0, false), (10, 0, false)]), (25, [(0, 0, false), (1, 0, false), (2, 0, false), (3, 0, false), (4, 0, false), (5, 0, false), (6, 0, false), (7, 0, false), (8, 0, false), (9, 0, false), (10, 0, false)])], false, []⟩),
  (55, ⟨[], [(0, [2, 5, 6, 7])], [], true, []⟩),
  (56, ⟨[], [(0, [1, 2, 15, 16, 17])], [], false, []⟩),
  (57, ⟨[2], [(0, [1, 5, 9, 10, 11])], [], false, []⟩),
  (58, ⟨[], [], [], false, []⟩),
  (59, ⟨[], [], [], false, []⟩),
  (60, ⟨[1], [], [], true, []⟩),
  (61, ⟨[], [], [], true, []⟩),
  (62, ⟨[], [], [], false, []⟩),
  (63, ⟨[1], [], [], false, []⟩),
  (64, ⟨[1], [], [], false, []⟩),
  (65, ⟨[1], [], [], false, []⟩),
  (66, ⟨[1], [], [], false, []⟩),
  (67, ⟨[2, 3], [], [(3, [(0, 0, false), (1, 0, false), (2, 0, false), (3, 0, false), (4, 0, false), (5, 0, false), (6, 0, false), (7, 0, false), (8, 0, false), (9, 0, false), (10, 0, false), (11, 0, false), (12, 0, false), (13, 0, false), (14, 0, false), (15, 0, false), (16, 0, false), (17, 0, false), (18, 0, false), (19, 0, false), (20, 0, false), (21, 0, false), (22, 0, false), (23, 0, false), (24, 0, false), (25, 0, false)])], false, []⟩),
  (68, ⟨[1], [], [], false, []⟩),
  (69, ⟨[1], [], [], false, []⟩),
  (70, ⟨[], [(0, [0, 1, 3])], [(3, [(0, 0, false), (1, 0, false), (2, 0, false), (3, 0, false), (4, 0, false), (5, 0, false), (6, 0, false), (7, 0, false), (8, 0, false), (9, 0, false), (10, 0, false), (11, 0, false), (12, 0, false), (13, 0, false)])], false, []⟩),
  (71, ⟨[], [(0, [0, 1, 7, 8])], [], false, []⟩),
  (72, ⟨[], [], [], false, []⟩),
  (73, ⟨[], [], [], false, []⟩),
  (74, ⟨[], [], [], false, []⟩),
  (75, ⟨[], [(0, [5, 6, 7])], [], false, []⟩),
  (76, ⟨[1], [], [(6, [(0, 0, false), (1, 0, false), (2, 0, false), (3, 0, false), (4, 0, true), (5, 1, false), (6, 0, true), (7, 0, true)]), (1000006, [(6, 7, false), (0, 0, false), (1, 0, false), (2, 0, false), (3, 0, false), (4, 0, true), (5, 1, false), (7, 0, true), (6, 0, true)])], false, [(3, [4])]⟩),
  (77, ⟨[2], [], [(1, [(0, 0, false), (1, 0, false), (2, 0, false), (3, 0, false), (4, 0, false), (5, 0, false), (6, 0, false), (7, 0, false)])], false, []⟩),
  (78, ⟨[2, 3], [], [(3, [(0, 0, false), (1, 0, false), (2, 0, false), (3, 0, false), (4, 0, false), (5, 0, false), (6, 0, false), (7, 0, false), (8, 0, false), (9, 0, false), (10, 0, false), (11, 0, false), (12, 0, false), (13, 0, false), (14, 0, false), (15, 0, false), (16, 0, false), (17, 0, false), (18, 0, false), (19, 0, false), (20, 0, false)])], false, []⟩),
  (79, ⟨[], [], [], false, []⟩),
  (80, ⟨[], [], [], false, []⟩),
  (81, ⟨[], [], [], false, []⟩),
  (82, ⟨[], [(0, [0, 3])], [], false, []⟩),
  (83, ⟨[], [(0, [0, 4])], [], true, []⟩),
  (84, ⟨[2], [], [], false, []⟩),
  (85, ⟨[], [(0, [0, 4, 5]), (3, [0, 4, 5, 6, 7, 8])], [], true, []⟩),
  (86, ⟨[], [(1000000, [0, 4, 5, 7])], [], false, []⟩),
  (87, ⟨[], [(0, [0, 4, 5])], [], true, []⟩),
  (88, ⟨[], [], [], false, []⟩),
  (89, ⟨[], [], [], false, []⟩),
  (90, ⟨[], [], [], false, []⟩),
  (91, ⟨[], [], [], true, []⟩)]
noncomputable def An1Its (f : FuncId) : D → Option (List (List D)) := (look [(49, keysIt), (76, keysIt)] f).getD noIt
noncomputable def An1 (f : FuncId) : Ann := ((look An1Tab f).getD ⟨[], [], [], false, []⟩).with (An1Its f)

theorem an1_its : ∀ f, SoundI Try.prog (An1 f).its := fun f => by
  show SoundI Try.prog (An1Its f)
  unfold An1Its
  simp only [look]
  repeat' split
  all_goals first | exact keysIt_sound | exact soundI_no
def gl0 : Nat → D := fun _ => .undef
/-- what is shown beside: slices.Grow -/
def X1 : Orc := fun f ds es => if f = 61 then growO ds es else none
theorem X1_grow {ds : List D} {es : Sto} : X1 61 ds es = growO ds es := rfl
noncomputable abbrev EV : Orc := ev Try.prog gl0 An1 [] X1
abbrev I (n : Int) : D := .sc (.int .i64 n)
abbrev B (b : Bool) : D := .sc (.bool b)

/-- a value of the type system -/
inductive Val where
  | mk (kind num : Int) (text : ByteArray) (kids : List Val)
  deriving Inhabited

mutual
def Val.d : Val → D
  | .mk k n t l => .agg [.sc (.int .u8 k), .sc (.int .u64 n), .sc (.string t), .ro false (Val.dL l)]
def Val.dL : List Val → List D
  | [] => []
  | v :: l => v.d :: Val.dL l
end
theorem Val.dL_map : ∀ l, Val.dL l = l.map Val.d
  | [] => rfl
  | v :: l => by rw [Val.dL, Val.dL_map l]; rfl
mutual
theorem Val.refs : ∀ v : Val, v.d.refs = []
  | .mk k n t l => by simp only [Val.d, D.refs, D.refsL, Val.refsL l, List.append_nil]
theorem Val.refsL : ∀ l : List Val, D.refsL (Val.dL l) = []
  | [] => rfl
  | v :: l => by simp only [Val.dL, D.refsL, Val.refs v, Val.refsL l, List.append_nil]
end
theorem Val.refsM (l : List Val) : D.refsL (l.map Val.d) = [] := by rw [← Val.dL_map]; exact Val.refsL l
mutual
theorem Val.can : ∀ v : Val, v.d.can = v.d
  | .mk k n t l => by simp only [Val.d, D.can, D.canL, Val.canL l]
theorem Val.canL : ∀ l : List Val, D.canL (Val.dL l) = Val.dL l
  | [] => rfl
  | v :: l => by simp only [Val.dL, D.canL, Val.can v, Val.canL l]
end
theorem Val.canM (l : List Val) : D.canL (l.map Val.d) = l.map Val.d := by rw [← Val.dL_map]; exact Val.canL l
theorem Val.canA (v : Val) : v.d.canA = v.d := by have := Val.can v; cases v; exact this
def Val.kind : Val → Int | .mk k _ _ _ => k
def Val.num : Val → Int | .mk _ n _ _ => n
def Val.text : Val → ByteArray | .mk _ _ t _ => t
def Val.kids : Val → List Val | .mk _ _ _ l => l
theorem Val.kind_mk (k n : Int) (t : ByteArray) (l : List Val) : (Val.mk k n t l).kind = k := rfl
theorem Val.num_mk (k n : Int) (t : ByteArray) (l : List Val) : (Val.mk k n t l).num = n := rfl
theorem Val.text_mk (k n : Int) (t : ByteArray) (l : List Val) : (Val.mk k n t l).text = t := rfl
theorem Val.kids_mk (k n : Int) (t : ByteArray) (l : List Val) : (Val.mk k n t l).kids = l := rfl
theorem Val.eta (v : Val) : Val.mk v.kind v.num v.text v.kids = v := by cases v; rfl
theorem Val.cells (v : Val) : v.d.cells = [.sc (.int .u8 v.kind), .sc (.int .u64 v.num), .sc (.string v.text), .ro false (v.kids.map Val.d)] := by cases v; simp only [Val.d, Val.dL_map]; rfl
/-- its cells -/
abbrev Val.cs (v : Val) : List D := [.sc (.int .u8 v.kind), .sc (.int .u64 v.num), .sc (.string v.text), .ro false (v.kids.map Val.d)]
theorem Val.fold (k n : Int) (t : ByteArray) (l : List Val) : D.agg [.sc (.int .u8 k), .sc (.int .u64 n), .sc (.string t), .ro false (l.map Val.d)] = (Val.mk k n t l).d := by simp only [Val.d, Val.dL_map]
theorem Val.fold0 (k n : Int) (t : ByteArray) : D.agg [.sc (.int .u8 k), .sc (.int .u64 n), .sc (.string t), .ro false []] = (Val.mk k n t []).d := by simp only [Val.d, Val.dL]
theorem Val.fold1 (k n : Int) (t : ByteArray) (a : Val) : D.agg [.sc (.int .u8 k), .sc (.int .u64 n), .sc (.string t), .ro false [a.d]] = (Val.mk k n t [a]).d := Val.fold k n t [a]
theorem Val.fold2 (k n : Int) (t : ByteArray) (a b : Val) : D.agg [.sc (.int .u8 k), .sc (.int .u64 n), .sc (.string t), .ro false [a.d, b.d]] = (Val.mk k n t [a, b]).d := Val.fold k n t [a, b]
theorem Val.fold3 (k n : Int) (t : ByteArray) (a b c : Val) : D.agg [.sc (.int .u8 k), .sc (.int .u64 n), .sc (.string t), .ro false [a.d, b.d, c.d]] = (Val.mk k n t [a, b, c]).d := Val.fold k n t [a, b, c]
theorem Val.fold4 (k n : Int) (t : ByteArray) (a b c d : Val) : D.agg [.sc (.int .u8 k), .sc (.int .u64 n), .sc (.string t), .ro false [a.d, b.d, c.d, d.d]] = (Val.mk k n t [a, b, c, d]).d := Val.fold k n t [a, b, c, d]
theorem Val.fold5 (k n : Int) (t : ByteArray) (a b c d e : Val) : D.agg [.sc (.int .u8 k), .sc (.int .u64 n), .sc (.string t), .ro false [a.d, b.d, c.d, d.d, e.d]] = (Val.mk k n t [a, b, c, d, e]).d := Val.fold k n t [a, b, c, d, e]
theorem Val.fold6 (k n : Int) (t : ByteArray) (a b c d e f : Val) : D.agg [.sc (.int .u8 k), .sc (.int .u64 n), .sc (.string t), .ro false [a.d, b.d, c.d, d.d, e.d, f.d]] = (Val.mk k n t [a, b, c, d, e, f]).d := Val.fold k n t [a, b, c, d, e, f]
theorem can_bytes (ex : Bool) (s : ByteArray) : (D.ro ex (bytesD s)).can = .ro false (bytesD s) := by
  simp only [D.can, D.canL_map, bytesD, List.map_map]; rfl
theorem canA_bytes (ex : Bool) (s : ByteArray) : (D.ro ex (bytesD s)).canA = .ro false (bytesD s) := can_bytes ex s
attribute [go_sem] Val.refs Val.refsM Val.can Val.canM Val.canA Val.kind_mk Val.num_mk Val.text_mk Val.kids_mk Val.eta Val.cells Val.fold Val.fold0 Val.fold1 Val.fold2 Val.fold3 Val.fold4 Val.fold5 Val.fold6 can_bytes canA_bytes
theorem bsl : ByteSl Try.prog 36 36 5 := ⟨el36, ze5, by5, ii36, by rw [Try.underlying36]; rfl⟩
theorem bsl' : ByteSlX Try.prog 36 36 := ⟨5, bsl⟩
attribute [go_sem] bsl'
end Go.Bw.R1

namespace Go.Bw.R1
set_option maxRecDepth 5000
open Go Go.Bw Go.Proofs
set_option maxHeartbeats 1000000 in
theorem grow_w (S : St) (m : Int) (h0 : 0 < m) (hm : m ≤ 1099511627776) : CallT Try.prog gl0 61 [.nils, I m] S (fun r S1 => r = .ret (.ref S.next 0 1 0 0) ∧ S1 = S.new []) := by
  have hr : ∀ k, (repD [D.sc (.int .u8 0)] k).length = k := fun k => by induction k with
    | zero => rfl
    | succ k ih => simp [repD, ih]
  have hp : 0 ≤ m := by omega
  have hne : (m.toNat = 0) = False := by simp; omega
  have hle : m.toNat ≤ 140737488355328 := by omega
  refine callT_of Try.func61 rfl (by kernel_rfl) (by show 2 ≤ 27; decide) ?_
  refine step_region (by kernel_rfl) fun K hK => ?_
  simp only [go_sem, Nat.reduceEqDiff, Nat.reduceAdd, Nat.reduceLeDiff, Int.reduceLE, Int.reduceLT, Int.reduceToNat, reduceCtorEq]
  refine hK _ _ ?_
  clear hK K
  refine tri_seq ?_
  refine step_region (by kernel_rfl) fun K hK => ?_
  simp only [go_sem, Nat.reduceEqDiff, Nat.reduceAdd, Nat.reduceLeDiff, Int.reduceLE, Int.reduceLT, Int.reduceToNat, reduceCtorEq]
  refine hK _ _ ?_
  clear hK K
  refine tri_cond (by (try simp only [go_sem, Nat.reduceEqDiff, Nat.reduceAdd, Nat.reduceLeDiff, Int.reduceLE, Int.reduceLT, Int.reduceToNat, reduceCtorEq]); exact rfl) (fun hc1 => ?_) (fun hc1 => ?_)
  · exact absurd hc1 (by simp; omega)
  · refine tri_skip ?_
    refine nx_seq ?_
    refine tri_seq ?_
    refine step_region (by kernel_rfl) fun K hK => ?_
    simp only [go_sem, Nat.reduceEqDiff, Nat.reduceAdd, Nat.reduceLeDiff, Int.reduceLE, Int.reduceLT, Int.reduceToNat, reduceCtorEq]
    refine hK _ _ ?_
    clear hK K
    rw [show IntKind.i64.wrap (m - IntKind.i64.wrap (0 - 0)) = m by rw [wrap_i64 (n := 0 - 0) (by omega) (by omega), wrap_i64 (by omega) (by omega)]; omega]
    refine step_region (by kernel_rfl) fun K hK => ?_
    simp only [go_sem, Nat.reduceEqDiff, Nat.reduceAdd, Nat.reduceLeDiff, Int.reduceLE, Int.reduceLT, Int.reduceToNat, reduceCtorEq]
    refine hK _ _ ?_
    clear hK K
    refine tri_cond (by (try simp only [go_sem, Nat.reduceEqDiff, Nat.reduceAdd, Nat.reduceLeDiff, Int.reduceLE, Int.reduceLT, Int.reduceToNat, reduceCtorEq]); exact rfl) (fun hc2 => ?_) (fun hc2 => ?_)
    · refine last_region (by kernel_rfl) fun K hK => ?_
      simp only [go_sem, Nat.reduceEqDiff, Nat.reduceAdd, Nat.reduceLeDiff, Int.reduceLE, Int.reduceLT, Int.reduceToNat, reduceCtorEq, hr, hp, hm, hne, hle, Nat.mul_one, true_and, and_true, if_true, if_false]
      refine hK _ _ ?_
      clear hK K
      refine Tri.cut (id := S.next) (v := 0) 0 (by simp only [go_sem, Nat.reduceEqDiff, Nat.reduceAdd, Nat.reduceLeDiff, Int.reduceLE, Int.reduceLT, Int.reduceToNat, reduceCtorEq]; exact rfl) ?_
      refine nx_seq ?_
      refine step_region (by kernel_rfl) fun K hK => ?_
      simp only [go_sem, Nat.reduceEqDiff, Nat.reduceAdd, Nat.reduceLeDiff, Int.reduceLE, Int.reduceLT, Int.reduceToNat, reduceCtorEq]
      refine hK _ _ ?_
      clear hK K
      refine tri_ret ?_
      refine ⟨_, (show resultsD _ _ _ [.tmp 4] = some _ by (try simp only [go_sem, Nat.reduceEqDiff, Nat.reduceAdd, Nat.reduceLeDiff, Int.reduceLE, Int.reduceLT, Int.reduceToNat, reduceCtorEq]); exact rfl), ?_⟩
      simp only [go_sem, Nat.reduceEqDiff, Nat.reduceAdd, Nat.reduceLeDiff, Int.reduceLE, Int.reduceLT, Int.reduceToNat, reduceCtorEq]
      simp only [St.put, St.new, St.mk.injEq, true_and, List.take_zero]
      funext j
      split <;> simp_all
    · exact absurd hc2 (by simp; omega)

theorem grow_x {m : Int} (h0 : 0 < m) (h1 : m ≤ 1099511627776) : EV 61 [.nils, I m] [] = some (.ret (.ref 0 0 1 0 0), [some ⟨0, []⟩]) :=
  ev_x (X1_grow.trans (growO_ok h0 h1))
theorem soundX : SoundO Try.prog gl0 X1 := by
  intro f ds es r ts h
  unfold X1 at h
  split at h
  · rename_i hf
    subst hf
    obtain ⟨m, rfl, rfl, h0, h1, rfl, rfl⟩ := growO_inv h
    exact (grow_w (stL []) m h0 h1).mono fun r s ⟨h1, h2⟩ => ⟨h1, by
      rw [h2]; simp only [stL, St.new, St.mk.injEq]
      refine ⟨rfl, funext fun j => ?_⟩
      cases j with
      | zero => rfl
      | succ j => simp⟩
  · cases h
end Go.Bw.R1

namespace Go.Bw.R1
set_option maxRecDepth 5000
open Go Go.Bw Go.Proofs

theorem tyok : tyOk Try.prog = true := by kernel_rfl
theorem laid : laidOutB Try.prog = true := by kernel_rfl
theorem kids : Kids Try.prog (· < Try.prog.types.size) := kids_rows laid (by kernel_rfl)
theorem mixed : Try.prog.follows .mixedOrders = true := by kernel_rfl
/-- a law of this seat, by its evaluation -/
theorem law_run {f : FuncId} {ds ds' : List D} {ts : Sto} (hw : WkL ds ds') (h : EV f ds' [] = some (.ret (B true), ts)) : CallT Try.prog (fun _ => .undef) f ds St.empty (fun r _ => r = .ret (.sc (.bool true))) :=
  law_ev an1_its soundX mixed hw h
end Go.Bw.R1

namespace Go.Bw.R1
set_option maxRecDepth 5000
open Go Go.Bw Go.Proofs

/-- a gather's row -/
@[go_sem] def gcs (o : Bool) (x : InV) : List D := .sc (.bool o) :: x.cs
@[go_sem] def in0 : InV := ⟨0, ⟨#[]⟩, false, false, ⟨0, 0, 0, ⟨#[]⟩⟩, ⟨#[]⟩⟩
/-- an empty one, as it is made -/
@[go_sem] def gz : List D := [.sc (.bool false), .sc (.int .u32 0), .sc (.string ⟨#[]⟩), .sc (.bool false), .sc (.bool false), .sc (.int .u8 0), .sc (.int .u64 0), .sc (.int .u64 0), .sc (.string ⟨#[]⟩), .nils]
@[go_sem] def gRow (o : Bool) (x : InV) : Option En := some ⟨0, gcs o x⟩
@[go_sem] def pe0 : Perf := { kind := 0, id := ⟨#[]⟩, host := ⟨#[]⟩, maxFrame := 0, channels := 0, idle := 0, remote := 0, nextOut := 0, inWin := 0, outWin := 0, handles := 0, name := ⟨#[]⟩, handle := 0, role := false, snd := 0, rcv := 0, source := ⟨#[]⟩, target := ⟨#[]⟩, marks := [], count := 0, nextIn := 0, credit := 0, drain := false, echo := false, first0 := 0, last0 := 0, tag := ⟨#[]⟩, settled := false, more := false, aborted := false, resume := false, state := ⟨0, 0, 0, ⟨#[]⟩⟩, payload := ⟨#[]⟩, closed := false, cond := ⟨#[]⟩ }
@[go_sem] def tr (a : Int) (t : ByteArray) (m : Bool) (s : ByteArray) : Perf := { pe0 with kind := 5, first0 := a, tag := t, more := m, payload := s }

theorem new_c : EV 17 [] [] = some (.ret (.ptr 0 0 0), [some ⟨0, gz⟩]) := by
  refine (ev_body ⟨[], [], [], false, [], noIt⟩ [.tmp 0] rfl Try.func17 rfl rfl rfl (by kernel_rfl) (by show 0 ≤ 3; decide)).trans ?_
  simp +contextual (maxSteps := 10000000) only [↓reduceIte, go_sem, Nat.reduceEqDiff, Nat.reduceAdd, Nat.reduceSub, Nat.reduceMul, Nat.reduceLeDiff, Nat.reduceLT, Nat.reduceBEq, Nat.reduceDiv, Nat.reduceMod, Int.reduceLE, Int.reduceLT, Int.reduceEq, Int.reduceBEq, Int.reduceBNe, Int.reduceAdd, Int.reduceSub, Int.reduceNeg, Int.reduceToNat, Int.reduceMul, Int.reducePow, Nat.reducePow, reduceCtorEq]
theorem open_c (o : Bool) (x : InV) : EV 24 [.ptr 0 0 0] [gRow o x] = some (.ret (B o), [gRow o x]) := by
  refine (ev_body ⟨[], [], [], false, [], noIt⟩ [.tmp 2] rfl Try.func24 rfl rfl rfl (by kernel_rfl) (by show 1 ≤ 11; decide)).trans ?_
  simp +contextual (maxSteps := 10000000) only [↓reduceIte, go_sem, Nat.reduceEqDiff, Nat.reduceAdd, Nat.reduceSub, Nat.reduceMul, Nat.reduceLeDiff, Nat.reduceLT, Nat.reduceBEq, Nat.reduceDiv, Nat.reduceMod, Int.reduceLE, Int.reduceLT, Int.reduceEq, Int.reduceBEq, Int.reduceBNe, Int.reduceAdd, Int.reduceSub, Int.reduceNeg, Int.reduceToNat, Int.reduceMul, Int.reducePow, Nat.reducePow, reduceCtorEq]
theorem open_g (o : Bool) (cs : List D) (h : D.refsL cs = []) : EV 24 [.ptr 0 0 0] [some ⟨0, B o :: cs⟩] = some (.ret (B o), [some ⟨0, B o :: cs⟩]) := by
  refine (ev_body ⟨[], [], [], false, [], noIt⟩ [.tmp 2] rfl Try.func24 rfl rfl rfl (by kernel_rfl) (by show 1 ≤ 11; decide)).trans ?_
  simp +contextual (maxSteps := 10000000) only [↓reduceIte, go_sem, Nat.reduceEqDiff, Nat.reduceAdd, Nat.reduceSub, Nat.reduceMul, Nat.reduceLeDiff, Nat.reduceLT, Nat.reduceBEq, Nat.reduceDiv, Nat.reduceMod, Int.reduceLE, Int.reduceLT, Int.reduceEq, Int.reduceBEq, Int.reduceBNe, Int.reduceAdd, Int.reduceSub, Int.reduceNeg, Int.reduceToNat, Int.reduceMul, Int.reducePow, Nat.reducePow, reduceCtorEq, h]
theorem open_nil : EV 24 [.nilp] [] = some (.ret (B false), []) := by
  refine (ev_body ⟨[], [], [], false, [], noIt⟩ [.tmp 2] rfl Try.func24 rfl rfl rfl (by kernel_rfl) (by show 1 ≤ 11; decide)).trans ?_
  simp +contextual (maxSteps := 10000000) only [↓reduceIte, go_sem, Nat.reduceEqDiff, Nat.reduceAdd, Nat.reduceSub, Nat.reduceMul, Nat.reduceLeDiff, Nat.reduceLT, Nat.reduceBEq, Nat.reduceDiv, Nat.reduceMod, Int.reduceLE, Int.reduceLT, Int.reduceEq, Int.reduceBEq, Int.reduceBNe, Int.reduceAdd, Int.reduceSub, Int.reduceNeg, Int.reduceToNat, Int.reduceMul, Int.reducePow, Nat.reducePow, reduceCtorEq]
theorem drop_c (o : Bool) (x : InV) : EV 19 [.ptr 0 0 0] [gRow o x] = some (.ret (.tup []), [some ⟨0, gz⟩]) := by
  refine (ev_body ⟨[], [], [], false, [], noIt⟩ [] rfl Try.func19 rfl rfl rfl (by kernel_rfl) (by show 1 ≤ 7; decide)).trans ?_
  simp +contextual (maxSteps := 10000000) only [↓reduceIte, go_sem, Nat.reduceEqDiff, Nat.reduceAdd, Nat.reduceSub, Nat.reduceMul, Nat.reduceLeDiff, Nat.reduceLT, Nat.reduceBEq, Nat.reduceDiv, Nat.reduceMod, Int.reduceLE, Int.reduceLT, Int.reduceEq, Int.reduceBEq, Int.reduceBNe, Int.reduceAdd, Int.reduceSub, Int.reduceNeg, Int.reduceToNat, Int.reduceMul, Int.reducePow, Nat.reducePow, reduceCtorEq]
theorem drop_g (c0 c1 c2 c3 c4 c5 c6 c7 c8 c9 : D) : EV 19 [.ptr 0 0 0] [some ⟨0, [c0, c1, c2, c3, c4, c5, c6, c7, c8, c9]⟩] = some (.ret (.tup []), [some ⟨0, gz⟩]) := by
  refine (ev_body ⟨[], [], [], false, [], noIt⟩ [] rfl Try.func19 rfl rfl rfl (by kernel_rfl) (by show 1 ≤ 7; decide)).trans ?_
  simp +contextual (maxSteps := 10000000) only [↓reduceIte, go_sem, Nat.reduceEqDiff, Nat.reduceAdd, Nat.reduceSub, Nat.reduceMul, Nat.reduceLeDiff, Nat.reduceLT, Nat.reduceBEq, Nat.reduceDiv, Nat.reduceMod, Int.reduceLE, Int.reduceLT, Int.reduceEq, Int.reduceBEq, Int.reduceBNe, Int.reduceAdd, Int.reduceSub, Int.reduceNeg, Int.reduceToNat, Int.reduceMul, Int.reducePow, Nat.reducePow, reduceCtorEq]
theorem drop_nil : EV 19 [.nilp] [] = some (.ret (.tup []), []) := by
  refine (ev_body ⟨[], [], [], false, [], noIt⟩ [] rfl Try.func19 rfl rfl rfl (by kernel_rfl) (by show 1 ≤ 7; decide)).trans ?_
  simp +contextual (maxSteps := 10000000) only [↓reduceIte, go_sem, Nat.reduceEqDiff, Nat.reduceAdd, Nat.reduceSub, Nat.reduceMul, Nat.reduceLeDiff, Nat.reduceLT, Nat.reduceBEq, Nat.reduceDiv, Nat.reduceMod, Int.reduceLE, Int.reduceLT, Int.reduceEq, Int.reduceBEq, Int.reduceBNe, Int.reduceAdd, Int.reduceSub, Int.reduceNeg, Int.reduceToNat, Int.reduceMul, Int.reducePow, Nat.reducePow, reduceCtorEq]
theorem transfer_c (a : Int) (t : ByteArray) (m : Bool) (s : ByteArray) : EV 26 [.sc (.int .i64 a), .sc (.string t), B m, .sc (.string s)] [] = some (.ret (tr a t m s).d, []) := by
  refine (ev_body ⟨[], [], [], true, [], noIt⟩ [.cell 8 38] rfl Try.func26 rfl rfl rfl (by kernel_rfl) (by show 4 ≤ 15; decide)).trans ?_
  simp +contextual (maxSteps := 10000000) only [↓reduceIte, go_sem, Nat.reduceEqDiff, Nat.reduceAdd, Nat.reduceSub, Nat.reduceMul, Nat.reduceLeDiff, Nat.reduceLT, Nat.reduceBEq, Nat.reduceDiv, Nat.reduceMod, Int.reduceLE, Int.reduceLT, Int.reduceEq, Int.reduceBEq, Int.reduceBNe, Int.reduceAdd, Int.reduceSub, Int.reduceNeg, Int.reduceToNat, Int.reduceMul, Int.reducePow, Nat.reducePow, reduceCtorEq]
def takes (o : Bool) (x : InV) (p : Perf) : Bool :=
  if (p.kind != 5) = true then false
  else if (!o) = true then (decide (0 ≤ p.first0) && decide (p.first0 ≤ 4294967295) && !p.tag.toList == (⟨#[]⟩ : ByteArray).toList && decide ((p.tag.size : Int) ≤ 32))
  else ((p.first0 == -1 || p.first0 == IntKind.i64.wrap x.id) && (p.tag.toList == (⟨#[]⟩ : ByteArray).toList || p.tag.toList == x.tag.toList))
theorem takes_c (o : Bool) (x : InV) (p : Perf) : EV 51 [.ptr 0 0 0, p.d] [gRow o x] = some (.ret (B (takes o x p)), [gRow o x]) := by
  refine (ev_body ⟨[3], [], [(5, [(0, 0, false), (1, 0, false), (2, 0, false), (3, 0, false), (4, 0, false), (5, 0, false), (6, 0, false), (7, 0, false), (8, 0, false), (9, 0, false), (10, 0, false), (11, 0, false), (12, 0, false), (13, 0, false), (14, 0, false), (15, 0, false), (16, 0, false), (17, 0, false), (18, 0, false), (19, 0, false), (20, 0, false), (21, 0, false), (22, 0, false), (23, 0, false), (24, 0, false), (25, 0, false), (26, 0, false), (27, 0, false), (28, 0, false), (29, 0, false)])], false, [], noIt⟩ [.tmp 4] rfl Try.func51 rfl rfl rfl (by kernel_rfl) (by show 2 ≤ 61; decide)).trans ?_
  unfold takes
  simp +contextual (maxSteps := 10000000) only [↓reduceIte, go_sem, Nat.reduceEqDiff, Nat.reduceAdd, Nat.reduceSub, Nat.reduceMul, Nat.reduceLeDiff, Nat.reduceLT, Nat.reduceBEq, Nat.reduceDiv, Nat.reduceMod, Int.reduceLE, Int.reduceLT, Int.reduceEq, Int.reduceBEq, Int.reduceBNe, Int.reduceAdd, Int.reduceSub, Int.reduceNeg, Int.reduceToNat, Int.reduceMul, Int.reducePow, Nat.reducePow, reduceCtorEq]
  refine ite_intro (fun h => by rw [if_pos h]) (fun h => ?_)
  rw [if_neg h]
  refine ite_intro (fun h => by rw [if_pos h]) (fun h => ?_)
  rw [if_neg h]
end Go.Bw.R1

namespace Go.Bw.R1
set_option maxRecDepth 5000
open Go Go.Bw Go.Proofs

mutual
def Val.sz : Val → Nat
  | .mk _ _ t l => t.size + Val.szL l + 1
def Val.szL : List Val → Nat
  | [] => 0
  | v :: l => v.sz + Val.szL l
end
theorem Val.sz_eq (v : Val) : v.sz = v.text.size + Val.szL v.kids + 1 := by cases v; rfl
mutual
def same : Val → Val → Bool
  | .mk k n t l, .mk k' n' t' l' => k == k' && (n == n' && (decide (t = t') && sameL l l'))
def sameL : List Val → List Val → Bool
  | [], [] => true
  | a :: l, b :: m => same a b && sameL l m
  | _, _ => false
end
theorem same_eq (a b : Val) : same a b = (a.kind == b.kind && (a.num == b.num && (decide (a.text = b.text) && sameL a.kids b.kids))) := by cases a; cases b; simp only [same]; rfl
theorem szL_len : ∀ l : List Val, l.length ≤ Val.szL l
  | [] => Nat.le_refl _
  | v :: l => by have := szL_len l; have : 1 ≤ v.sz := by cases v; simp [Val.sz]
                 simp [Val.szL]; omega
theorem szL_mem : ∀ {l : List Val} {i : Nat} {x : Val}, l[i]? = some x → x.sz ≤ Val.szL l
  | [], i, x, h => by simp at h
  | v :: l, 0, x, h => by simp at h; subst h; simp [Val.szL]
  | v :: l, i + 1, x, h => by have := szL_mem (l := l) (i := i) (by simpa using h); simp [Val.szL]; omega
theorem sameL_len : ∀ {l m : List Val}, l.length ≠ m.length → sameL l m = false
  | [], [], h => absurd rfl h
  | a :: l, b :: m, h => by simp only [sameL]; rw [sameL_len (by simpa using h)]; simp
  | [], _ :: _, h => by simp [sameL]
  | _ :: _, [], h => by simp [sameL]
theorem sameL_drop {i : Nat} {l m : List Val} {x y : Val} (h1 : l[i]? = some x) (h2 : m[i]? = some y) : sameL (l.drop i) (m.drop i) = (same x y && sameL (l.drop (i + 1)) (m.drop (i + 1))) := by
    obtain ⟨p1, q1⟩ := List.getElem?_eq_some_iff.1 h1
    obtain ⟨p2, q2⟩ := List.getElem?_eq_some_iff.1 h2
    rw [List.drop_eq_getElem_cons p1, List.drop_eq_getElem_cons p2, sameL, q1, q2]
theorem sameL_end {i : Nat} {l m : List Val} (h1 : l.length ≤ i) (h2 : m.length ≤ i) : sameL (l.drop i) (m.drop i) = true := by
  rw [List.drop_eq_nil_of_le h1, List.drop_eq_nil_of_le h2]; rfl
theorem txt_eq (s t : ByteArray) : (s.toList == t.toList) = decide (s = t) := by
  rw [Bool.eq_iff_iff]
  simp only [beq_iff_eq, decide_eq_true_eq]
  constructor
  · intro h
    rw [ByteArray.toList_eq, ByteArray.toList_eq] at h
    exact ByteArray.ext (Array.toList_inj.1 h)
  · rintro rfl; rfl
attribute [go_sem] txt_eq
set_option maxHeartbeats 1000000 in
theorem same32 : ∀ (n : Nat) (a b : Val), a.sz ≤ n → n ≤ 4000000 → EV 32 [a.d, b.d] [] = some (.ret (B (same a b)), [])
  | 0, .mk .., _, h, _ => by simp [Val.sz] at h
  | n + 1, a, b, hn, hs => by
    rw [Val.sz_eq] at hn
    have hl := szL_len a.kids
    refine (ev_body ⟨[2, 3], [(0, [2, 3, 5])], [(6, [(0, 0, false), (1, 0, false), (2, 0, false), (3, 0, false), (4, 0, false), (5, 0, false), (6, 0, false), (7, 0, false), (8, 0, false), (9, 0, false), (10, 0, false), (11, 0, false)])], false, [], noIt⟩ [.tmp 4] rfl Try.func32 rfl rfl rfl (by kernel_rfl) (by show 2 ≤ 53; decide)).trans ?_
    simp +contextual (maxSteps := 10000000) only [↓reduceIte, go_sem, Nat.reduceEqDiff, Nat.reduceAdd, Nat.reduceSub, Nat.reduceMul, Nat.reduceLeDiff, Nat.reduceLT, Nat.reduceBEq, Nat.reduceDiv, Nat.reduceMod, Int.reduceLE, Int.reduceLT, Int.reduceEq, Int.reduceBEq, Int.reduceBNe, Int.reduceAdd, Int.reduceSub, Int.reduceNeg, Int.reduceToNat, Int.reduceMul, Int.reducePow, Nat.reducePow, reduceCtorEq]
    refine ite_intro (fun h => ?_) (fun h => ?_)
    · have hL : ((a.kids.length : Int) == b.kids.length) = false → sameL a.kids b.kids = false := fun h => sameL_len (by simp at h <;> omega)
      rw [same_eq]
      simp only [Bool.or_eq_true, bne, Bool.not_eq_true'] at h
      rcases h with ((h | h) | h) | h
      · simp [h]
      · simp [h]
      · simp [h]
      · simp [hL h]
    · simp only [Bool.or_eq_true, bne, Bool.not_eq_true', not_or] at h
      obtain ⟨⟨⟨h1, h2⟩, h3⟩, h4⟩ := h
      simp only [Bool.not_eq_false, beq_iff_eq, decide_eq_true_eq] at h1 h2 h3 h4
      have hsame : same a b = sameL a.kids b.kids := by simp [same_eq, h1, h2, h3]
      refine lpK_inv (fun m0 f es => ∃ (i : Nat) (j : Int), j = i ∧ m0 = a.kids.length - i ∧ i ≤ a.kids.length ∧ same a b = sameL (a.kids.drop i) (b.kids.drop i) ∧ f = [(2, .rp a.cs), (3, .rp b.cs), (5, I j)] ∧ es = []) a.kids.length ⟨0, _, rfl, rfl, Nat.zero_le _, hsame, rfl, rfl⟩ ?_
      rintro _ _ _ ⟨i, _, rfl, rfl, hi, hsm, rfl, rfl⟩ ih
      rcases Nat.lt_or_ge i a.kids.length with hlt | hge
      · obtain ⟨x, hx⟩ : ∃ x, a.kids[i]? = some x := ⟨_, List.getElem?_eq_getElem hlt⟩
        obtain ⟨y, hy⟩ : ∃ y, b.kids[i]? = some y := ⟨_, List.getElem?_eq_getElem (by omega)⟩
        have hxs := szL_mem hx
        have hlt' : decide ((i : Int) < a.kids.length) = true := by simpa using hlt
        simp +contextual (maxSteps := 10000000) only [↓reduceIte, go_sem, Nat.reduceEqDiff, Nat.reduceAdd, Nat.reduceSub, Nat.reduceMul, Nat.reduceLeDiff, Nat.reduceLT, Nat.reduceBEq, Nat.reduceDiv, Nat.reduceMod, Int.reduceLE, Int.reduceLT, Int.reduceEq, Int.reduceBEq, Int.reduceBNe, Int.reduceAdd, Int.reduceSub, Int.reduceNeg, Int.reduceToNat, Int.reduceMul, Int.reducePow, Nat.reducePow, reduceCtorEq, hx, hy, same32 n x y (by omega) (by omega), wrap_i64 (n := (i : Int) + 1) (by omega) (by omega), hlt']
        refine ite_intro (fun h => ?_) (fun h => ?_)
        · rw [hsm, sameL_drop hx hy]; simp at h; simp [h]
        · exact ih _ _ _ (by omega) ⟨i + 1, _, by omega, rfl, by omega, by rw [hsm, sameL_drop hx hy]; simp at h; simp [h], rfl, rfl⟩
      · have hlt' : decide ((i : Int) < a.kids.length) = false := by simpa using hge
        simp +contextual (maxSteps := 10000000) only [↓reduceIte, go_sem, Nat.reduceEqDiff, Nat.reduceAdd, Nat.reduceSub, Nat.reduceMul, Nat.reduceLeDiff, Nat.reduceLT, Nat.reduceBEq, Nat.reduceDiv, Nat.reduceMod, Int.reduceLE, Int.reduceLT, Int.reduceEq, Int.reduceBEq, Int.reduceBNe, Int.reduceAdd, Int.reduceSub, Int.reduceNeg, Int.reduceToNat, Int.reduceMul, Int.reducePow, Nat.reducePow, reduceCtorEq, hlt']
        rw [hsm, sameL_end hge (by omega)]
end Go.Bw.R1

namespace Go.Bw.R1
set_option maxRecDepth 5000
open Go Go.Bw Go.Proofs

theorem number_c (k n : Int) : EV 36 [.sc (.int .u8 k), .sc (.int .u64 n)] [] = some (.ret (Val.mk k n ⟨#[]⟩ []).d, []) := by
  refine (ev_body ⟨[], [], [], true, [], noIt⟩ [.cell 4 56] rfl Try.func36 rfl rfl rfl (by kernel_rfl) (by show 2 ≤ 8; decide)).trans ?_
  simp +contextual (maxSteps := 10000000) only [↓reduceIte, go_sem, Nat.reduceEqDiff, Nat.reduceAdd, Nat.reduceSub, Nat.reduceMul, Nat.reduceLeDiff, Nat.reduceLT, Nat.reduceBEq, Nat.reduceDiv, Nat.reduceMod, Int.reduceLE, Int.reduceLT, Int.reduceEq, Int.reduceBEq, Int.reduceBNe, Int.reduceAdd, Int.reduceSub, Int.reduceNeg, Int.reduceToNat, Int.reduceMul, Int.reducePow, Nat.reducePow, reduceCtorEq]
theorem text_c (k : Int) (s : ByteArray) : EV 37 [.sc (.int .u8 k), .sc (.string s)] [] = some (.ret (Val.mk k 0 s []).d, []) := by
  refine (ev_body ⟨[], [], [], true, [], noIt⟩ [.cell 4 56] rfl Try.func37 rfl rfl rfl (by kernel_rfl) (by show 2 ≤ 8; decide)).trans ?_
  simp +contextual (maxSteps := 10000000) only [↓reduceIte, go_sem, Nat.reduceEqDiff, Nat.reduceAdd, Nat.reduceSub, Nat.reduceMul, Nat.reduceLeDiff, Nat.reduceLT, Nat.reduceBEq, Nat.reduceDiv, Nat.reduceMod, Int.reduceLE, Int.reduceLT, Int.reduceEq, Int.reduceBEq, Int.reduceBNe, Int.reduceAdd, Int.reduceSub, Int.reduceNeg, Int.reduceToNat, Int.reduceMul, Int.reducePow, Nat.reducePow, reduceCtorEq]
theorem null_c : EV 39 [] [] = some (.ret (Val.mk 1 0 ⟨#[]⟩ []).d, []) := by
  refine (ev_body ⟨[], [], [], true, [], noIt⟩ [.cell 0 56] rfl Try.func39 rfl rfl rfl (by kernel_rfl) (by show 0 ≤ 2; decide)).trans ?_
  simp +contextual (maxSteps := 10000000) only [↓reduceIte, go_sem, Nat.reduceEqDiff, Nat.reduceAdd, Nat.reduceSub, Nat.reduceMul, Nat.reduceLeDiff, Nat.reduceLT, Nat.reduceBEq, Nat.reduceDiv, Nat.reduceMod, Int.reduceLE, Int.reduceLT, Int.reduceEq, Int.reduceBEq, Int.reduceBNe, Int.reduceAdd, Int.reduceSub, Int.reduceNeg, Int.reduceToNat, Int.reduceMul, Int.reducePow, Nat.reducePow, reduceCtorEq]
theorem bool_c (b : Bool) : EV 40 [B b] [] = some (.ret (Val.mk 2 (if b then 1 else 0) ⟨#[]⟩ []).d, []) := by
  refine (ev_body ⟨[], [], [], true, [], noIt⟩ [.cell 2 56] rfl Try.func40 rfl rfl rfl (by kernel_rfl) (by show 1 ≤ 8; decide)).trans ?_
  simp +contextual (maxSteps := 10000000) only [↓reduceIte, go_sem, Nat.reduceEqDiff, Nat.reduceAdd, Nat.reduceSub, Nat.reduceMul, Nat.reduceLeDiff, Nat.reduceLT, Nat.reduceBEq, Nat.reduceDiv, Nat.reduceMod, Int.reduceLE, Int.reduceLT, Int.reduceEq, Int.reduceBEq, Int.reduceBNe, Int.reduceAdd, Int.reduceSub, Int.reduceNeg, Int.reduceToNat, Int.reduceMul, Int.reducePow, Nat.reducePow, reduceCtorEq]
  cases b <;> rfl

theorem valOk : EncOk Val.d 4 := ⟨fun x => by rw [Val.cells]; rfl, by omega, Val.refs, Val.can, fun x => by rw [Val.cells]; rfl, fun x => by rw [Val.cells, if_pos (by decide), Val.fold, Val.eta]⟩
theorem rowV_snoc (l : List Val) (x : Val) : rowE Val.d l ++ [.sc (.int .u8 x.kind), .sc (.int .u64 x.num), .sc (.string x.text), .ro false (x.kids.map Val.d)] = rowE Val.d (l ++ [x]) := by rw [← rowE_snoc, Val.cells]
theorem rowV_one (x : Val) : [.sc (.int .u8 x.kind), .sc (.int .u64 x.num), .sc (.string x.text), .ro false (x.kids.map Val.d)] = rowE Val.d [x] := by rw [← Val.cells]; exact rowE_one x
theorem rowV_refs (l : List Val) : D.refsL (rowE Val.d l) = [] := valOk.row_refs l
theorem fin_vals (l : List Val) : (frzN (stoE Val.d l) (fromB 0) 20 (accE 4 l)).can = .ro false (l.map Val.d) := fin_acc valOk l 19
attribute [go_sem] rowV_refs fin_vals List.take_length

set_option maxHeartbeats 1000000 in
theorem copies_of (l : List Val) (hl : l.length ≤ 4000000) (hc : ∀ x ∈ l, EV 44 [x.d] [] = some (.ret x.d, [])) : EV 55 [.ro false (l.map Val.d)] [] = some (.ret (.ro false (l.map Val.d)), []) := by
  refine (ev_body ⟨[], [(0, [2, 5, 6, 7])], [], true, [], noIt⟩ [.tmp 2] rfl Try.func55 rfl rfl rfl (by kernel_rfl) (by show 1 ≤ 18; decide)).trans ?_
  simp +contextual (maxSteps := 10000000) only [↓reduceIte, go_sem, Nat.reduceEqDiff, Nat.reduceAdd, Nat.reduceSub, Nat.reduceMul, Nat.reduceLeDiff, Nat.reduceLT, Nat.reduceBEq, Nat.reduceDiv, Nat.reduceMod, Int.reduceLE, Int.reduceLT, Int.reduceEq, Int.reduceBEq, Int.reduceBNe, Int.reduceAdd, Int.reduceSub, Int.reduceNeg, Int.reduceToNat, Int.reduceMul, Int.reducePow, Nat.reducePow, reduceCtorEq]
  refine lpK_inv (fun m0 f es => ∃ (i : Nat) (j : Int) (A : D), j = i ∧ A = accE 4 (l.take i) ∧ m0 = l.length - i ∧ i ≤ l.length ∧ f = [(2, A), (5, .ro false (l.map Val.d)), (6, I l.length), (7, I j)] ∧ es = stoE Val.d (l.take i)) l.length ⟨0, _, _, rfl, rfl, rfl, Nat.zero_le _, rfl, rfl⟩ ?_
  rintro _ _ _ ⟨i, _, _, rfl, rfl, rfl, hi, rfl, rfl⟩ ih
  rcases Nat.lt_or_ge i l.length with hlt | hge
  · obtain ⟨x, hx⟩ : ∃ x, l[i]? = some x := ⟨_, List.getElem?_eq_getElem hlt⟩
    have hcx := hc x (List.mem_of_getElem? hx)
    have hlt' : decide ((i : Int) < l.length) = true := by simpa using hlt
    have hsn := take_snoc hx
    rcases Nat.eq_zero_or_pos i with rfl | hpos
    · simp only [List.take_zero, accE, stoE]
      have hlt0 : decide ((0 : Int) < l.length) = true := by simpa using hlt
      simp +contextual (maxSteps := 10000000) only [↓reduceIte, go_sem, Nat.reduceEqDiff, Nat.reduceAdd, Nat.reduceSub, Nat.reduceMul, Nat.reduceLeDiff, Nat.reduceLT, Nat.reduceBEq, Nat.reduceDiv, Nat.reduceMod, Int.reduceLE, Int.reduceLT, Int.reduceEq, Int.reduceBEq, Int.reduceBNe, Int.reduceAdd, Int.reduceSub, Int.reduceNeg, Int.reduceToNat, Int.reduceMul, Int.reducePow, Nat.reducePow, reduceCtorEq, hx, hcx, hlt0, wrap_i64 (n := 1) (by omega) (by omega)]
      refine ih (l.length - 1) _ _ (by omega) ⟨1, _, _, rfl, ?_, rfl, hlt, rfl, ?_⟩
      · rw [hsn]; rfl
      · rw [hsn, rowV_one]; rfl
    · obtain ⟨y, t, ht, hlen⟩ := take_cons hi hpos
      simp only [ht, accE, stoE, hlen]
      have hb : (i + 1) * 56 ≤ 140737488355328 := by omega
      have hr := valOk.row_len (y :: t)
      rw [hlen] at hr
      simp +contextual (maxSteps := 10000000) only [↓reduceIte, go_sem, Nat.reduceEqDiff, Nat.reduceAdd, Nat.reduceSub, Nat.reduceMul, Nat.reduceLeDiff, Nat.reduceLT, Nat.reduceBEq, Nat.reduceDiv, Nat.reduceMod, Int.reduceLE, Int.reduceLT, Int.reduceEq, Int.reduceBEq, Int.reduceBNe, Int.reduceAdd, Int.reduceSub, Int.reduceNeg, Int.reduceToNat, Int.reduceMul, Int.reducePow, Nat.reducePow, reduceCtorEq, hx, hcx, hlt', hb, hr, wrap_i64 (n := (i : Int) + 1) (by omega) (by omega)]
      refine ih (l.length - (i + 1)) _ _ (by omega) ⟨i + 1, _, _, by omega, ?_, rfl, hlt, rfl, ?_⟩
      · rw [hsn, ht]; simp only [List.cons_append, accE, List.length_cons, List.length_append, List.length_nil] at hlen ⊢; simp only [← hlen]
      · rw [hsn, ht, rowV_snoc]; rfl
  · have hlt' : decide ((i : Int) < l.length) = false := by simpa using hge
    obtain rfl : i = l.length := by omega
    simp +contextual (maxSteps := 10000000) only [↓reduceIte, go_sem, Nat.reduceEqDiff, Nat.reduceAdd, Nat.reduceSub, Nat.reduceMul, Nat.reduceLeDiff, Nat.reduceLT, Nat.reduceBEq, Nat.reduceDiv, Nat.reduceMod, Int.reduceLE, Int.reduceLT, Int.reduceEq, Int.reduceBEq, Int.reduceBNe, Int.reduceAdd, Int.reduceSub, Int.reduceNeg, Int.reduceToNat, Int.reduceMul, Int.reducePow, Nat.reducePow, reduceCtorEq, hlt']
set_option maxHeartbeats 1000000 in
theorem copyAll_of (l : List Val) (hl : l.length ≤ 4000000) (hc : ∀ x ∈ l, EV 29 [x.d] [] = some (.ret x.d, [])) : EV 33 [.ro false (l.map Val.d)] [] = some (.ret (.ro false (l.map Val.d)), []) := by
  refine (ev_body ⟨[], [(0, [0, 3, 4])], [], true, [], noIt⟩ [.tmp 2] rfl Try.func33 rfl rfl rfl (by kernel_rfl) (by show 1 ≤ 20; decide)).trans ?_
  simp +contextual (maxSteps := 10000000) only [↓reduceIte, go_sem, Nat.reduceEqDiff, Nat.reduceAdd, Nat.reduceSub, Nat.reduceMul, Nat.reduceLeDiff, Nat.reduceLT, Nat.reduceBEq, Nat.reduceDiv, Nat.reduceMod, Int.reduceLE, Int.reduceLT, Int.reduceEq, Int.reduceBEq, Int.reduceBNe, Int.reduceAdd, Int.reduceSub, Int.reduceNeg, Int.reduceToNat, Int.reduceMul, Int.reducePow, Nat.reducePow, reduceCtorEq]
  refine lpK_inv (fun m0 f es => ∃ (i : Nat) (j : Int) (A : D), j = i ∧ A = accE 4 (l.take i) ∧ m0 = l.length - i ∧ i ≤ l.length ∧ f = [(0, .ro false (l.map Val.d)), (3, A), (4, I j)] ∧ es = stoE Val.d (l.take i)) l.length ⟨0, _, _, rfl, rfl, rfl, Nat.zero_le _, rfl, rfl⟩ ?_
  rintro _ _ _ ⟨i, _, _, rfl, rfl, rfl, hi, rfl, rfl⟩ ih
  rcases Nat.lt_or_ge i l.length with hlt | hge
  · obtain ⟨x, hx⟩ : ∃ x, l[i]? = some x := ⟨_, List.getElem?_eq_getElem hlt⟩
    have hcx := hc x (List.mem_of_getElem? hx)
    have hlt' : decide ((i : Int) < l.length) = true := by simpa using hlt
    have hsn := take_snoc hx
    rcases Nat.eq_zero_or_pos i with rfl | hpos
    · simp only [List.take_zero, accE, stoE]
      have hlt0 : decide ((0 : Int) < l.length) = true := by simpa using hlt
      simp +contextual (maxSteps := 10000000) only [↓reduceIte, go_sem, Nat.reduceEqDiff, Nat.reduceAdd, Nat.reduceSub, Nat.reduceMul, Nat.reduceLeDiff, Nat.reduceLT, Nat.reduceBEq, Nat.reduceDiv, Nat.reduceMod, Int.reduceLE, Int.reduceLT, Int.reduceEq, Int.reduceBEq, Int.reduceBNe, Int.reduceAdd, Int.reduceSub, Int.reduceNeg, Int.reduceToNat, Int.reduceMul, Int.reducePow, Nat.reducePow, reduceCtorEq, hx, hcx, hlt0, wrap_i64 (n := 1) (by omega) (by omega)]
      refine ih (l.length - 1) _ _ (by omega) ⟨1, _, _, rfl, ?_, rfl, hlt, rfl, ?_⟩
      · rw [hsn]; rfl
      · rw [hsn, rowV_one]; rfl
    · obtain ⟨y, t, ht, hlen⟩ := take_cons hi hpos
      simp only [ht, accE, stoE, hlen]
      have hb : (i + 1) * 56 ≤ 140737488355328 := by omega
      have hr := valOk.row_len (y :: t)
      rw [hlen] at hr
      simp +contextual (maxSteps := 10000000) only [↓reduceIte, go_sem, Nat.reduceEqDiff, Nat.reduceAdd, Nat.reduceSub, Nat.reduceMul, Nat.reduceLeDiff, Nat.reduceLT, Nat.reduceBEq, Nat.reduceDiv, Nat.reduceMod, Int.reduceLE, Int.reduceLT, Int.reduceEq, Int.reduceBEq, Int.reduceBNe, Int.reduceAdd, Int.reduceSub, Int.reduceNeg, Int.reduceToNat, Int.reduceMul, Int.reducePow, Nat.reducePow, reduceCtorEq, hx, hcx, hlt', hb, hr, wrap_i64 (n := (i : Int) + 1) (by omega) (by omega)]
      refine ih (l.length - (i + 1)) _ _ (by omega) ⟨i + 1, _, _, by omega, ?_, rfl, hlt, rfl, ?_⟩
      · rw [hsn, ht]; simp only [List.cons_append, accE, List.length_cons, List.length_append, List.length_nil] at hlen ⊢; simp only [← hlen]
      · rw [hsn, ht, rowV_snoc]; rfl
  · have hlt' : decide ((i : Int) < l.length) = false := by simpa using hge
    obtain rfl : i = l.length := by omega
    simp +contextual (maxSteps := 10000000) only [↓reduceIte, go_sem, Nat.reduceEqDiff, Nat.reduceAdd, Nat.reduceSub, Nat.reduceMul, Nat.reduceLeDiff, Nat.reduceLT, Nat.reduceBEq, Nat.reduceDiv, Nat.reduceMod, Int.reduceLE, Int.reduceLT, Int.reduceEq, Int.reduceBEq, Int.reduceBNe, Int.reduceAdd, Int.reduceSub, Int.reduceNeg, Int.reduceToNat, Int.reduceMul, Int.reducePow, Nat.reducePow, reduceCtorEq, hlt']
theorem szL_in {l : List Val} {x : Val} (h : x ∈ l) : x.sz ≤ Val.szL l := by
  obtain ⟨i, hi⟩ := List.getElem?_of_mem h
  exact szL_mem hi
theorem copy_c : ∀ (n : Nat) (v : Val), v.sz ≤ n → n ≤ 4000000 → EV 44 [v.d] [] = some (.ret v.d, [])
  | 0, .mk .., h, _ => by simp [Val.sz] at h
  | n + 1, v, hn, hs => by
    rw [Val.sz_eq] at hn
    have hl := szL_len v.kids
    have hc := copies_of v.kids (by omega) fun x hx => copy_c n x (by have := szL_in hx; omega) (by omega)
    refine (ev_body ⟨[], [], [], true, [], noIt⟩ [.cell 2 56] rfl Try.func44 rfl rfl rfl (by kernel_rfl) (by show 1 ≤ 8; decide)).trans ?_
    simp +contextual (maxSteps := 10000000) only [↓reduceIte, go_sem, Nat.reduceEqDiff, Nat.reduceAdd, Nat.reduceSub, Nat.reduceMul, Nat.reduceLeDiff, Nat.reduceLT, Nat.reduceBEq, Nat.reduceDiv, Nat.reduceMod, Int.reduceLE, Int.reduceLT, Int.reduceEq, Int.reduceBEq, Int.reduceBNe, Int.reduceAdd, Int.reduceSub, Int.reduceNeg, Int.reduceToNat, Int.reduceMul, Int.reducePow, Nat.reducePow, reduceCtorEq, hc]
theorem rcopy_c : ∀ (n : Nat) (v : Val), v.sz ≤ n → n ≤ 4000000 → EV 29 [v.d] [] = some (.ret v.d, [])
  | 0, .mk .., h, _ => by simp [Val.sz] at h
  | n + 1, v, hn, hs => by
    rw [Val.sz_eq] at hn
    have hl := szL_len v.kids
    have hc := copyAll_of v.kids (by omega) fun x hx => rcopy_c n x (by have := szL_in hx; omega) (by omega)
    refine (ev_body ⟨[], [], [], true, [], noIt⟩ [.cell 2 56] rfl Try.func29 rfl rfl rfl (by kernel_rfl) (by show 1 ≤ 8; decide)).trans ?_
    simp +contextual (maxSteps := 10000000) only [↓reduceIte, go_sem, Nat.reduceEqDiff, Nat.reduceAdd, Nat.reduceSub, Nat.reduceMul, Nat.reduceLeDiff, Nat.reduceLT, Nat.reduceBEq, Nat.reduceDiv, Nat.reduceMod, Int.reduceLE, Int.reduceLT, Int.reduceEq, Int.reduceBEq, Int.reduceBNe, Int.reduceAdd, Int.reduceSub, Int.reduceNeg, Int.reduceToNat, Int.reduceMul, Int.reducePow, Nat.reducePow, reduceCtorEq, hc]
theorem copies_c (l : List Val) (h : Val.szL l ≤ 4000000) : EV 55 [.ro false (l.map Val.d)] [] = some (.ret (.ro false (l.map Val.d)), []) :=
  copies_of l (by have := szL_len l; omega) fun x hx => copy_c _ x (szL_in hx) h
theorem copyAll_c (l : List Val) (h : Val.szL l ≤ 4000000) : EV 33 [.ro false (l.map Val.d)] [] = some (.ret (.ro false (l.map Val.d)), []) :=
  copyAll_of l (by have := szL_len l; omega) fun x hx => rcopy_c _ x (szL_in hx) h
theorem many_c (k : Int) (l : List Val) (h : Val.szL l ≤ 4000000) : EV 34 [.sc (.int .u8 k), .ro false (l.map Val.d)] [] = some (.ret (Val.mk k 0 ⟨#[]⟩ l).d, []) := by
  refine (ev_body ⟨[], [], [], true, [], noIt⟩ [.cell 4 56] rfl Try.func34 rfl rfl rfl (by kernel_rfl) (by show 2 ≤ 9; decide)).trans ?_
  simp +contextual (maxSteps := 10000000) only [↓reduceIte, go_sem, Nat.reduceEqDiff, Nat.reduceAdd, Nat.reduceSub, Nat.reduceMul, Nat.reduceLeDiff, Nat.reduceLT, Nat.reduceBEq, Nat.reduceDiv, Nat.reduceMod, Int.reduceLE, Int.reduceLT, Int.reduceEq, Int.reduceBEq, Int.reduceBNe, Int.reduceAdd, Int.reduceSub, Int.reduceNeg, Int.reduceToNat, Int.reduceMul, Int.reducePow, Nat.reducePow, reduceCtorEq, copies_c l h]
theorem rmany_c (k : Int) (l : List Val) (h : Val.szL l ≤ 4000000) : EV 38 [.sc (.int .u8 k), .ro false (l.map Val.d)] [] = some (.ret (Val.mk k 0 ⟨#[]⟩ l).d, []) := by
  refine (ev_body ⟨[], [], [], true, [], noIt⟩ [.cell 4 56] rfl Try.func38 rfl rfl rfl (by kernel_rfl) (by show 2 ≤ 9; decide)).trans ?_
  simp +contextual (maxSteps := 10000000) only [↓reduceIte, go_sem, Nat.reduceEqDiff, Nat.reduceAdd, Nat.reduceSub, Nat.reduceMul, Nat.reduceLeDiff, Nat.reduceLT, Nat.reduceBEq, Nat.reduceDiv, Nat.reduceMod, Int.reduceLE, Int.reduceLT, Int.reduceEq, Int.reduceBEq, Int.reduceBNe, Int.reduceAdd, Int.reduceSub, Int.reduceNeg, Int.reduceToNat, Int.reduceMul, Int.reducePow, Nat.reducePow, reduceCtorEq, copyAll_c l h]
theorem desc_c (a b : Val) (h : a.sz + b.sz ≤ 4000000) : EV 41 [a.d, b.d] [] = some (.ret (Val.mk 25 0 ⟨#[]⟩ [a, b]).d, []) := by
  refine (ev_body ⟨[2, 3], [], [], true, [], noIt⟩ [.cell 4 56] rfl Try.func41 rfl rfl rfl (by kernel_rfl) (by show 2 ≤ 9; decide)).trans ?_
  have hm := many_c 25 [a, b] (by simp [Val.szL]; omega)
  simp only [List.map_cons, List.map_nil] at hm
  simp +contextual (maxSteps := 10000000) only [↓reduceIte, go_sem, Nat.reduceEqDiff, Nat.reduceAdd, Nat.reduceSub, Nat.reduceMul, Nat.reduceLeDiff, Nat.reduceLT, Nat.reduceBEq, Nat.reduceDiv, Nat.reduceMod, Int.reduceLE, Int.reduceLT, Int.reduceEq, Int.reduceBEq, Int.reduceBNe, Int.reduceAdd, Int.reduceSub, Int.reduceNeg, Int.reduceToNat, Int.reduceMul, Int.reducePow, Nat.reducePow, reduceCtorEq, hm]
theorem rdesc_c (a b : Val) (h : a.sz + b.sz ≤ 4000000) : EV 42 [a.d, b.d] [] = some (.ret (Val.mk 25 0 ⟨#[]⟩ [a, b]).d, []) := by
  refine (ev_body ⟨[2, 3], [], [(1, [(0, 0, false), (1, 0, false), (2, 0, false), (3, 0, false), (4, 0, false), (5, 0, false), (6, 0, true)])], true, [], noIt⟩ [.cell 4 56] rfl Try.func42 rfl rfl rfl (by kernel_rfl) (by show 2 ≤ 11; decide)).trans ?_
  simp +contextual (maxSteps := 10000000) only [↓reduceIte, go_sem, Nat.reduceEqDiff, Nat.reduceAdd, Nat.reduceSub, Nat.reduceMul, Nat.reduceLeDiff, Nat.reduceLT, Nat.reduceBEq, Nat.reduceDiv, Nat.reduceMod, Int.reduceLE, Int.reduceLT, Int.reduceEq, Int.reduceBEq, Int.reduceBNe, Int.reduceAdd, Int.reduceSub, Int.reduceNeg, Int.reduceToNat, Int.reduceMul, Int.reducePow, Nat.reducePow, reduceCtorEq, rcopy_c _ a (Nat.le_refl _) (by omega), rcopy_c _ b (Nat.le_refl _) (by omega)]
end Go.Bw.R1

namespace Go.Bw.R1
set_option maxRecDepth 5000
open Go Go.Bw Go.Proofs

mutual
def Val.items : Val → Nat
  | .mk _ _ _ l => Val.itemsL l + 1
def Val.itemsL : List Val → Nat
  | [] => 0
  | v :: l => v.items + Val.itemsL l
end
mutual
def Val.depth : Val → Nat
  | .mk _ _ _ l => Val.depthL l + 1
def Val.depthL : List Val → Nat
  | [] => 0
  | v :: l => max v.depth (Val.depthL l)
end
theorem Val.items_eq (v : Val) : v.items = Val.itemsL v.kids + 1 := by cases v; rfl
theorem Val.depth_eq (v : Val) : v.depth = Val.depthL v.kids + 1 := by cases v; rfl
mutual
theorem items_sz : ∀ v : Val, v.items ≤ v.sz
  | .mk _ _ t l => by have := itemsL_sz l; simp [Val.items, Val.sz]; omega
theorem itemsL_sz : ∀ l : List Val, Val.itemsL l ≤ Val.szL l
  | [] => Nat.le_refl _
  | v :: l => by have := items_sz v; have := itemsL_sz l; simp [Val.itemsL, Val.szL]; omega
end
mutual
theorem depth_items : ∀ v : Val, v.depth ≤ v.items
  | .mk _ _ t l => by have := depthL_items l; simp only [Val.items, Val.depth]; omega
theorem depthL_items : ∀ l : List Val, Val.depthL l ≤ Val.itemsL l
  | [] => Nat.le_refl _
  | v :: l => by have := depth_items v; have := depthL_items l; simp only [Val.itemsL, Val.depthL]; omega
end
theorem itemsL_app : ∀ (l m : List Val), Val.itemsL (l ++ m) = Val.itemsL l + Val.itemsL m
  | [], m => by simp [Val.itemsL]
  | v :: l, m => by simp [Val.itemsL, itemsL_app l m]; omega
theorem depthL_app : ∀ (l m : List Val), Val.depthL (l ++ m) = max (Val.depthL l) (Val.depthL m)
  | [], m => by simp [Val.depthL]
  | v :: l, m => by simp only [List.cons_append, Val.depthL, depthL_app l m]; omega
theorem szL_app : ∀ (l m : List Val), Val.szL (l ++ m) = Val.szL l + Val.szL m
  | [], m => by simp [Val.szL]
  | v :: l, m => by simp [Val.szL, szL_app l m]; omega
theorem szL_take (l : List Val) (i : Nat) : Val.szL (l.take i) ≤ Val.szL l := by
  have := szL_app (l.take i) (l.drop i)
  rw [List.take_append_drop] at this; omega
theorem get_lt {α : Type} {l : List α} {i : Nat} (h : i < l.length) : ∃ x, l[i]? = some x := ⟨_, List.getElem?_eq_getElem h⟩

set_option maxHeartbeats 1000000 in
theorem ritems_c : ∀ (n : Nat) (v : Val), v.sz ≤ n → n ≤ 4000000 → EV 48 [v.d] [] = some (.ret (I v.items), [])
  | 0, .mk .., h, _ => by simp [Val.sz] at h
  | n + 1, v, hn, hs => by
    rw [Val.sz_eq] at hn
    have hl := szL_len v.kids
    refine (ev_body ⟨[1], [(0, [1, 3, 4])], [], false, [], noIt⟩ [.tmp 2] rfl Try.func48 rfl rfl rfl (by kernel_rfl) (by show 1 ≤ 21; decide)).trans ?_
    simp +contextual (maxSteps := 10000000) only [↓reduceIte, go_sem, Nat.reduceEqDiff, Nat.reduceAdd, Nat.reduceSub, Nat.reduceMul, Nat.reduceLeDiff, Nat.reduceLT, Nat.reduceBEq, Nat.reduceDiv, Nat.reduceMod, Int.reduceLE, Int.reduceLT, Int.reduceEq, Int.reduceBEq, Int.reduceBNe, Int.reduceAdd, Int.reduceSub, Int.reduceNeg, Int.reduceToNat, Int.reduceMul, Int.reducePow, Nat.reducePow, reduceCtorEq]
    refine lpK_inv (fun m0 f es => ∃ (i : Nat) (a j : Int), a = Val.itemsL (v.kids.take i) + 1 ∧ j = i ∧ m0 = v.kids.length - i ∧ i ≤ v.kids.length ∧ f = [(1, .rp v.cs), (3, I a), (4, I j)] ∧ es = []) v.kids.length ⟨0, 1, 0, rfl, rfl, rfl, Nat.zero_le _, rfl, rfl⟩ ?_
    rintro _ _ _ ⟨i, _, _, rfl, rfl, rfl, hi, rfl, rfl⟩ ih
    rcases Nat.lt_or_ge i v.kids.length with hlt | hge
    · obtain ⟨x, hx⟩ := get_lt hlt
      have hxs := szL_mem hx
      have b1 := items_sz x
      have b2 := itemsL_sz (v.kids.take i)
      have b3 := szL_take v.kids i
      have e1 : Val.itemsL (v.kids.take (i + 1)) = Val.itemsL (v.kids.take i) + x.items := by rw [take_snoc hx, itemsL_app]; simp [Val.itemsL]
      have hlt' : decide ((i : Int) < v.kids.length) = true := by simpa using hlt
      simp +contextual (maxSteps := 10000000) only [↓reduceIte, go_sem, Nat.reduceEqDiff, Nat.reduceAdd, Nat.reduceSub, Nat.reduceMul, Nat.reduceLeDiff, Nat.reduceLT, Nat.reduceBEq, Nat.reduceDiv, Nat.reduceMod, Int.reduceLE, Int.reduceLT, Int.reduceEq, Int.reduceBEq, Int.reduceBNe, Int.reduceAdd, Int.reduceSub, Int.reduceNeg, Int.reduceToNat, Int.reduceMul, Int.reducePow, Nat.reducePow, reduceCtorEq, hx, ritems_c n x (by omega) (by omega), hlt', wrap_i64 (n := (Val.itemsL (v.kids.take i) : Int) + 1 + x.items) (by omega) (by omega), wrap_i64 (n := (i : Int) + 1) (by omega) (by omega)]
      exact ih _ _ _ (by omega) ⟨i + 1, _, _, by omega, by omega, rfl, hlt, rfl, rfl⟩
    · have hlt' : decide ((i : Int) < v.kids.length) = false := by simpa using hge
      obtain rfl : i = v.kids.length := by omega
      simp +contextual (maxSteps := 10000000) only [↓reduceIte, go_sem, Nat.reduceEqDiff, Nat.reduceAdd, Nat.reduceSub, Nat.reduceMul, Nat.reduceLeDiff, Nat.reduceLT, Nat.reduceBEq, Nat.reduceDiv, Nat.reduceMod, Int.reduceLE, Int.reduceLT, Int.reduceEq, Int.reduceBEq, Int.reduceBNe, Int.reduceAdd, Int.reduceSub, Int.reduceNeg, Int.reduceToNat, Int.reduceMul, Int.reducePow, Nat.reducePow, reduceCtorEq, hlt', Val.items_eq]
set_option maxHeartbeats 1000000 in
theorem rdepth_c : ∀ (n : Nat) (v : Val), v.sz ≤ n → n ≤ 4000000 → EV 46 [v.d] [] = some (.ret (I v.depth), [])
  | 0, .mk .., h, _ => by simp [Val.sz] at h
  | n + 1, v, hn, hs => by
    rw [Val.sz_eq] at hn
    have hl := szL_len v.kids
    refine (ev_body ⟨[1], [(0, [1, 3, 4])], [], false, [], noIt⟩ [.tmp 2] rfl Try.func46 rfl rfl rfl (by kernel_rfl) (by show 1 ≤ 22; decide)).trans ?_
    simp +contextual (maxSteps := 10000000) only [↓reduceIte, go_sem, Nat.reduceEqDiff, Nat.reduceAdd, Nat.reduceSub, Nat.reduceMul, Nat.reduceLeDiff, Nat.reduceLT, Nat.reduceBEq, Nat.reduceDiv, Nat.reduceMod, Int.reduceLE, Int.reduceLT, Int.reduceEq, Int.reduceBEq, Int.reduceBNe, Int.reduceAdd, Int.reduceSub, Int.reduceNeg, Int.reduceToNat, Int.reduceMul, Int.reducePow, Nat.reducePow, reduceCtorEq]
    refine lpK_inv (fun m0 f es => ∃ (i : Nat) (a j : Int), a = Val.depthL (v.kids.take i) ∧ j = i ∧ m0 = v.kids.length - i ∧ i ≤ v.kids.length ∧ f = [(1, .rp v.cs), (3, I a), (4, I j)] ∧ es = []) v.kids.length ⟨0, 0, 0, rfl, rfl, rfl, Nat.zero_le _, rfl, rfl⟩ ?_
    rintro _ _ _ ⟨i, _, _, rfl, rfl, rfl, hi, rfl, rfl⟩ ih
    rcases Nat.lt_or_ge i v.kids.length with hlt | hge
    · obtain ⟨x, hx⟩ := get_lt hlt
      have hxs := szL_mem hx
      have e1 : Val.depthL (v.kids.take (i + 1)) = max (Val.depthL (v.kids.take i)) x.depth := by rw [take_snoc hx, depthL_app]; simp [Val.depthL]
      have hlt' : decide ((i : Int) < v.kids.length) = true := by simpa using hlt
      simp +contextual (maxSteps := 10000000) only [↓reduceIte, go_sem, Nat.reduceEqDiff, Nat.reduceAdd, Nat.reduceSub, Nat.reduceMul, Nat.reduceLeDiff, Nat.reduceLT, Nat.reduceBEq, Nat.reduceDiv, Nat.reduceMod, Int.reduceLE, Int.reduceLT, Int.reduceEq, Int.reduceBEq, Int.reduceBNe, Int.reduceAdd, Int.reduceSub, Int.reduceNeg, Int.reduceToNat, Int.reduceMul, Int.reducePow, Nat.reducePow, reduceCtorEq, hx, rdepth_c n x (by omega) (by omega), hlt', wrap_i64 (n := (i : Int) + 1) (by omega) (by omega)]
      exact ih _ _ _ (by omega) ⟨i + 1, _, _, by omega, by omega, rfl, hlt, rfl, rfl⟩
    · have hlt' : decide ((i : Int) < v.kids.length) = false := by simpa using hge
      obtain rfl : i = v.kids.length := by omega
      have b1 := depthL_items v.kids
      have b2 := itemsL_sz v.kids
      simp +contextual (maxSteps := 10000000) only [↓reduceIte, go_sem, Nat.reduceEqDiff, Nat.reduceAdd, Nat.reduceSub, Nat.reduceMul, Nat.reduceLeDiff, Nat.reduceLT, Nat.reduceBEq, Nat.reduceDiv, Nat.reduceMod, Int.reduceLE, Int.reduceLT, Int.reduceEq, Int.reduceBEq, Int.reduceBNe, Int.reduceAdd, Int.reduceSub, Int.reduceNeg, Int.reduceToNat, Int.reduceMul, Int.reducePow, Nat.reducePow, reduceCtorEq, hlt', Val.depth_eq, wrap_i64 (n := (Val.depthL v.kids : Int) + 1) (by omega) (by omega)]
end Go.Bw.R1

namespace Go.Bw.R1
set_option maxRecDepth 5000
open Go Go.Bw Go.Proofs
theorem grow0_c : EV 61 [.nils, I 0] [] = some (.ret (.ro false []), []) := by
  refine (ev_body ⟨[], [], [], true, [], noIt⟩ [.tmp 4] rfl Try.func61 rfl rfl rfl (by kernel_rfl) (by show 2 ≤ 27; decide)).trans ?_
  simp +contextual (maxSteps := 10000000) only [↓reduceIte, go_sem, Nat.reduceEqDiff, Nat.reduceAdd, Nat.reduceSub, Nat.reduceMul, Nat.reduceLeDiff, Nat.reduceLT, Nat.reduceBEq, Nat.reduceDiv, Nat.reduceMod, Int.reduceLE, Int.reduceLT, Int.reduceEq, Int.reduceBEq, Int.reduceBNe, Int.reduceAdd, Int.reduceSub, Int.reduceNeg, Int.reduceToNat, Int.reduceMul, Int.reducePow, Nat.reducePow, reduceCtorEq, wrap_i64 (n := 0 - 0) (by omega) (by omega)]
def cat (l : List ByteArray) : ByteArray := l.foldl (· ++ ·) ⟨#[]⟩
theorem cat_snoc (l : List ByteArray) (s : ByteArray) : cat (l ++ [s]) = cat l ++ s := by simp [cat, List.foldl_append]
theorem cat_take {l : List ByteArray} {i : Nat} {s : ByteArray} (h : l[i]? = some s) : cat (l.take (i + 1)) = cat (l.take i) ++ s := by
  rw [List.take_add_one, h]; exact cat_snoc _ _
theorem cat_le (l : List ByteArray) (i : Nat) : (cat (l.take i)).size ≤ (cat l).size := by
  have h : ∀ (a : ByteArray) (m : List ByteArray), a.size ≤ (m.foldl (· ++ ·) a).size := by
    intro a m
    induction m generalizing a with
    | nil => simp
    | cons x m ih => simp only [List.foldl_cons]; have := ih (a ++ x); rw [bsize_append] at this; omega
  have e : cat l = (l.drop i).foldl (· ++ ·) (cat (l.take i)) := by
    unfold cat; rw [← List.foldl_append, List.take_append_drop]
  rw [e]; exact h _ _
abbrev bd (s : ByteArray) : D := .ro false (bytesD s)
theorem bds_refs (l : List ByteArray) : D.refsL (l.map bd) = [] := refsL_map (fun x => refs_bytes false x) l
theorem bds_can (l : List ByteArray) : D.canL (l.map bd) = l.map bd := by
  rw [D.canL_map, List.map_map]
  exact List.map_congr_left fun x _ => can_bytes false x
attribute [go_sem] bds_refs bds_can
set_option maxHeartbeats 1000000 in
theorem concat_c (ss : List ByteArray) (hl : ss.length ≤ 1099511627776) (h0 : 0 < (cat ss).size) (hm : (cat ss).size ≤ 1099511627776) : EV 52 [.ro false (ss.map bd)] [] = some (.ret (bd (cat ss)), []) := by
  refine (ev_body ⟨[], [(0, [0, 3, 9, 10, 11]), (2, [6, 25, 26, 27])], [], true, [], noIt⟩ [.tmp 2] rfl Try.func52 rfl rfl rfl (by kernel_rfl) (by show 1 ≤ 36; decide)).trans ?_
  simp +contextual (maxSteps := 10000000) only [↓reduceIte, go_sem, Nat.reduceEqDiff, Nat.reduceAdd, Nat.reduceSub, Nat.reduceMul, Nat.reduceLeDiff, Nat.reduceLT, Nat.reduceBEq, Nat.reduceDiv, Nat.reduceMod, Int.reduceLE, Int.reduceLT, Int.reduceEq, Int.reduceBEq, Int.reduceBNe, Int.reduceAdd, Int.reduceSub, Int.reduceNeg, Int.reduceToNat, Int.reduceMul, Int.reducePow, Nat.reducePow, reduceCtorEq]
  refine lpK_inv (fun m0 f es => ∃ (i : Nat) (a j : Int), a = (cat (ss.take i)).size ∧ j = i ∧ m0 = ss.length - i ∧ i ≤ ss.length ∧ f = [(0, .ro false (ss.map bd)), (3, I a), (9, .ro false (ss.map bd)), (10, I ss.length), (11, I j)] ∧ es = []) ss.length ⟨0, _, _, rfl, rfl, rfl, Nat.zero_le _, rfl, rfl⟩ ?_
  rintro _ _ _ ⟨i, _, _, rfl, rfl, rfl, hi, rfl, rfl⟩ ih
  rcases Nat.lt_or_ge i ss.length with hlt | hge
  · obtain ⟨x, hx⟩ := get_lt hlt
    have hlt' : decide ((i : Int) < ss.length) = true := by simpa using hlt
    have hle := cat_le ss (i + 1)
    have hct := cat_take hx
    rw [hct, bsize_append] at hle
    have hneg : decide (((cat (ss.take i)).size : Int) + x.size < 0) = false := by simp; omega
    simp +contextual (maxSteps := 10000000) only [↓reduceIte, go_sem, Nat.reduceEqDiff, Nat.reduceAdd, Nat.reduceSub, Nat.reduceMul, Nat.reduceLeDiff, Nat.reduceLT, Nat.reduceBEq, Nat.reduceDiv, Nat.reduceMod, Int.reduceLE, Int.reduceLT, Int.reduceEq, Int.reduceBEq, Int.reduceBNe, Int.reduceAdd, Int.reduceSub, Int.reduceNeg, Int.reduceToNat, Int.reduceMul, Int.reducePow, Nat.reducePow, reduceCtorEq, hx, hlt', hneg, wrap_i64 (n := ((cat (ss.take i)).size : Int) + x.size) (by omega) (by omega), wrap_i64 (n := (i : Int) + 1) (by omega) (by omega)]
    refine ih (ss.length - (i + 1)) _ _ (by omega) ⟨i + 1, _, _, ?_, rfl, rfl, hlt, rfl, rfl⟩
    rw [hct, bsize_append]; rfl
  · have hlt' : decide ((i : Int) < ss.length) = false := by simpa using hge
    obtain rfl : i = ss.length := by omega
    simp +contextual (maxSteps := 10000000) only [↓reduceIte, go_sem, Nat.reduceEqDiff, Nat.reduceAdd, Nat.reduceSub, Nat.reduceMul, Nat.reduceLeDiff, Nat.reduceLT, Nat.reduceBEq, Nat.reduceDiv, Nat.reduceMod, Int.reduceLE, Int.reduceLT, Int.reduceEq, Int.reduceBEq, Int.reduceBNe, Int.reduceAdd, Int.reduceSub, Int.reduceNeg, Int.reduceToNat, Int.reduceMul, Int.reducePow, Nat.reducePow, reduceCtorEq, hlt', grow_x (m := ((cat ss).size : Int)) (by omega) (by omega)]
    refine lpK_inv (fun m0 f es => ∃ (i : Nat) (j : Int) (n : Nat) (row : List D), j = i ∧ n = (cat (ss.take i)).size ∧ row = bytesD (cat (ss.take i)) ∧ m0 = ss.length - i ∧ i ≤ ss.length ∧ f = [(6, .ref 0 0 1 0 n), (25, .ro false (ss.map bd)), (26, I ss.length), (27, I j)] ∧ es = [some ⟨0, row⟩]) ss.length ⟨0, _, _, _, rfl, rfl, rfl, rfl, Nat.zero_le _, rfl, rfl⟩ ?_
    rintro _ _ _ ⟨i, _, _, _, rfl, rfl, rfl, rfl, hi, rfl, rfl⟩ ih
    rcases Nat.lt_or_ge i ss.length with hlt | hge
    · obtain ⟨x, hx⟩ := get_lt hlt
      have hlt' : decide ((i : Int) < ss.length) = true := by simpa using hlt
      have hle := cat_le ss (i + 1)
      have hct := cat_take hx
      rw [hct, bsize_append] at hle
      by_cases hz : x.size = 0
      · have hct0 : cat (ss.take (i + 1)) = cat (ss.take i) := by rw [hct]; exact bytes_nil hz _
        simp +contextual (maxSteps := 10000000) only [↓reduceIte, go_sem, Nat.reduceEqDiff, Nat.reduceAdd, Nat.reduceSub, Nat.reduceMul, Nat.reduceLeDiff, Nat.reduceLT, Nat.reduceBEq, Nat.reduceDiv, Nat.reduceMod, Int.reduceLE, Int.reduceLT, Int.reduceEq, Int.reduceBEq, Int.reduceBNe, Int.reduceAdd, Int.reduceSub, Int.reduceNeg, Int.reduceToNat, Int.reduceMul, Int.reducePow, Nat.reducePow, reduceCtorEq, hx, hlt', hz, wrap_i64 (n := (i : Int) + 1) (by omega) (by omega)]
        exact ih (ss.length - (i + 1)) _ _ (by omega) ⟨i + 1, _, _, _, rfl, by rw [hct0], by rw [hct0], rfl, hlt, rfl, rfl⟩
      · have hb : (cat (ss.take i)).size + x.size ≤ 140737488355328 := by omega
        simp +contextual (maxSteps := 10000000) only [↓reduceIte, go_sem, Nat.reduceEqDiff, Nat.reduceAdd, Nat.reduceSub, Nat.reduceMul, Nat.reduceLeDiff, Nat.reduceLT, Nat.reduceBEq, Nat.reduceDiv, Nat.reduceMod, Int.reduceLE, Int.reduceLT, Int.reduceEq, Int.reduceBEq, Int.reduceBNe, Int.reduceAdd, Int.reduceSub, Int.reduceNeg, Int.reduceToNat, Int.reduceMul, Int.reducePow, Nat.reducePow, reduceCtorEq, hx, hlt', hz, hb, wrap_i64 (n := (i : Int) + 1) (by omega) (by omega)]
        exact ih (ss.length - (i + 1)) _ _ (by omega) ⟨i + 1, _, _, _, rfl, by rw [hct, bsize_append], by rw [hct], rfl, hlt, rfl, rfl⟩
    · have hlt' : decide ((i : Int) < ss.length) = false := by simpa using hge
      obtain rfl : i = ss.length := by omega
      simp +contextual (maxSteps := 10000000) only [↓reduceIte, go_sem, Nat.reduceEqDiff, Nat.reduceAdd, Nat.reduceSub, Nat.reduceMul, Nat.reduceLeDiff, Nat.reduceLT, Nat.reduceBEq, Nat.reduceDiv, Nat.reduceMod, Int.reduceLE, Int.reduceLT, Int.reduceEq, Int.reduceBEq, Int.reduceBNe, Int.reduceAdd, Int.reduceSub, Int.reduceNeg, Int.reduceToNat, Int.reduceMul, Int.reducePow, Nat.reducePow, reduceCtorEq, hlt']
theorem bytesD_empty {s : ByteArray} (h : s.size = 0) : bytesD s = [] := by
  have : s.data = #[] := Array.eq_empty_of_size_eq_zero h
  simp [bytesD, this]
set_option maxHeartbeats 1000000 in
theorem concat0_c (ss : List ByteArray) (hl : ss.length ≤ 1099511627776) (h0 : (cat ss).size = 0) : EV 52 [.ro false (ss.map bd)] [] = some (.ret (bd (cat ss)), []) := by
  refine (ev_body ⟨[], [(0, [0, 3, 9, 10, 11]), (2, [6, 25, 26, 27])], [], true, [], noIt⟩ [.tmp 2] rfl Try.func52 rfl rfl rfl (by kernel_rfl) (by show 1 ≤ 36; decide)).trans ?_
  simp +contextual (maxSteps := 10000000) only [↓reduceIte, go_sem, Nat.reduceEqDiff, Nat.reduceAdd, Nat.reduceSub, Nat.reduceMul, Nat.reduceLeDiff, Nat.reduceLT, Nat.reduceBEq, Nat.reduceDiv, Nat.reduceMod, Int.reduceLE, Int.reduceLT, Int.reduceEq, Int.reduceBEq, Int.reduceBNe, Int.reduceAdd, Int.reduceSub, Int.reduceNeg, Int.reduceToNat, Int.reduceMul, Int.reducePow, Nat.reducePow, reduceCtorEq]
  refine lpK_inv (fun m0 f es => ∃ (i : Nat) (j : Int), j = i ∧ m0 = ss.length - i ∧ i ≤ ss.length ∧ f = [(0, .ro false (ss.map bd)), (3, I 0), (9, .ro false (ss.map bd)), (10, I ss.length), (11, I j)] ∧ es = []) ss.length ⟨0, _, rfl, rfl, Nat.zero_le _, rfl, rfl⟩ ?_
  rintro _ _ _ ⟨i, _, rfl, rfl, hi, rfl, rfl⟩ ih
  rcases Nat.lt_or_ge i ss.length with hlt | hge
  · obtain ⟨x, hx⟩ := get_lt hlt
    have hlt' : decide ((i : Int) < ss.length) = true := by simpa using hlt
    have hle := cat_le ss (i + 1)
    have hct := cat_take hx
    rw [hct, bsize_append] at hle
    have hz : x.size = 0 := by omega
    simp +contextual (maxSteps := 10000000) only [↓reduceIte, go_sem, Nat.reduceEqDiff, Nat.reduceAdd, Nat.reduceSub, Nat.reduceMul, Nat.reduceLeDiff, Nat.reduceLT, Nat.reduceBEq, Nat.reduceDiv, Nat.reduceMod, Int.reduceLE, Int.reduceLT, Int.reduceEq, Int.reduceBEq, Int.reduceBNe, Int.reduceAdd, Int.reduceSub, Int.reduceNeg, Int.reduceToNat, Int.reduceMul, Int.reducePow, Nat.reducePow, reduceCtorEq, hx, hlt', hz, wrap_i64 (n := 0 + ((0 : Nat) : Int)) (by omega) (by omega), wrap_i64 (n := (i : Int) + 1) (by omega) (by omega)]
    exact ih (ss.length - (i + 1)) _ _ (by omega) ⟨i + 1, _, rfl, rfl, hlt, rfl, rfl⟩
  · have hlt' : decide ((i : Int) < ss.length) = false := by simpa using hge
    obtain rfl : i = ss.length := by omega
    simp +contextual (maxSteps := 10000000) only [↓reduceIte, go_sem, Nat.reduceEqDiff, Nat.reduceAdd, Nat.reduceSub, Nat.reduceMul, Nat.reduceLeDiff, Nat.reduceLT, Nat.reduceBEq, Nat.reduceDiv, Nat.reduceMod, Int.reduceLE, Int.reduceLT, Int.reduceEq, Int.reduceBEq, Int.reduceBNe, Int.reduceAdd, Int.reduceSub, Int.reduceNeg, Int.reduceToNat, Int.reduceMul, Int.reducePow, Nat.reducePow, reduceCtorEq, hlt', grow0_c]
    refine lpK_inv (fun m0 f es => ∃ (i : Nat) (j : Int), j = i ∧ m0 = ss.length - i ∧ i ≤ ss.length ∧ f = [(6, .ro false []), (25, .ro false (ss.map bd)), (26, I ss.length), (27, I j)] ∧ es = []) ss.length ⟨0, _, rfl, rfl, Nat.zero_le _, rfl, rfl⟩ ?_
    rintro _ _ _ ⟨i, _, rfl, rfl, hi, rfl, rfl⟩ ih
    rcases Nat.lt_or_ge i ss.length with hlt | hge
    · obtain ⟨x, hx⟩ := get_lt hlt
      have hlt' : decide ((i : Int) < ss.length) = true := by simpa using hlt
      have hle := cat_le ss (i + 1)
      have hct := cat_take hx
      rw [hct, bsize_append] at hle
      have hz : x.size = 0 := by omega
      have hz' : (bytesD x).length = 0 := by rw [bytesD_len]; exact hz
      simp +contextual (maxSteps := 10000000) only [↓reduceIte, go_sem, Nat.reduceEqDiff, Nat.reduceAdd, Nat.reduceSub, Nat.reduceMul, Nat.reduceLeDiff, Nat.reduceLT, Nat.reduceBEq, Nat.reduceDiv, Nat.reduceMod, Int.reduceLE, Int.reduceLT, Int.reduceEq, Int.reduceBEq, Int.reduceBNe, Int.reduceAdd, Int.reduceSub, Int.reduceNeg, Int.reduceToNat, Int.reduceMul, Int.reducePow, Nat.reducePow, reduceCtorEq, hx, hlt', hz, hz', wrap_i64 (n := (i : Int) + 1) (by omega) (by omega)]
      exact ih (ss.length - (i + 1)) _ _ (by omega) ⟨i + 1, _, rfl, rfl, hlt, rfl, rfl⟩
    · have hlt' : decide ((i : Int) < ss.length) = false := by simpa using hge
      obtain rfl : i = ss.length := by omega
      simp +contextual (maxSteps := 10000000) only [↓reduceIte, go_sem, Nat.reduceEqDiff, Nat.reduceAdd, Nat.reduceSub, Nat.reduceMul, Nat.reduceLeDiff, Nat.reduceLT, Nat.reduceBEq, Nat.reduceDiv, Nat.reduceMod, Int.reduceLE, Int.reduceLT, Int.reduceEq, Int.reduceBEq, Int.reduceBNe, Int.reduceAdd, Int.reduceSub, Int.reduceNeg, Int.reduceToNat, Int.reduceMul, Int.reducePow, Nat.reducePow, reduceCtorEq, hlt']
      show some (R.ret (D.ro false []), ([] : Sto)) = some (R.ret (.ro false (bytesD (cat ss))), [])
      rw [bytesD_empty h0]
theorem cat2 (a b : ByteArray) : cat [a, b] = a ++ b := by
  show (ByteArray.mk #[] ++ a) ++ b = a ++ b
  have : ByteArray.mk #[] ++ a = a := by apply ByteArray.ext; rw [ByteArray.data_append]; simp
  rw [this]
theorem concat2 (a b : ByteArray) (hm : a.size + b.size ≤ 1099511627776) : EV 52 [.ro false [.ro false (bytesD a), .ro false (bytesD b)]] [] = some (.ret (.ro false (bytesD (a ++ b))), []) := by
  have e : (cat [a, b]).size = a.size + b.size := by rw [cat2, bsize_append]
  rcases Nat.eq_zero_or_pos (cat [a, b]).size with h0 | h0
  · have := concat0_c [a, b] (by simp) h0
    rwa [cat2] at this
  · have := concat_c [a, b] (by simp) h0 (by omega)
    rwa [cat2] at this

end Go.Bw.R1

namespace Go.Bw.R1
set_option maxRecDepth 5000
open Go Go.Bw Go.Proofs
@[go_sem] def heads (x : InV) : InV := ⟨x.id, x.tag, false, false, ⟨0, 0, 0, ⟨#[]⟩⟩, ⟨#[]⟩⟩
@[go_sem] def joinS (x : InV) (p : Perf) : InV := ⟨x.id, x.tag, x.settled || p.settled, x.resume || p.resume, p.state, x.payload ++ p.payload⟩
@[go_sem] def joinN (x : InV) (p : Perf) : InV := ⟨x.id, x.tag, x.settled || p.settled, x.resume || p.resume, x.state, x.payload ++ p.payload⟩
@[go_sem] def opened (x : InV) (p : Perf) : InV := ⟨IntKind.u32.wrap p.first0, p.tag, x.settled, x.resume, x.state, x.payload⟩
def putE (o : Bool) (x1 x : InV) (p : Perf) : Option (R × Sto) :=
  if (!takes o x p) = true then some (.ret (.tup [in0.d, I 3]), [gRow o x])
  else if p.aborted = true then some (.ret (.tup [(heads x1).d, I 2]), [some ⟨0, gz⟩])
  else if decide ((4096 : Int) < x.payload.size + p.payload.size) = true then some (.ret (.tup [(heads x1).d, I 4]), [some ⟨0, gz⟩])
  else if (p.state.kind != 0) = true then
    (if p.more = true then some (.ret (.tup [in0.d, I 0]), [gRow true (joinS x1 p)]) else some (.ret (.tup [(joinS x1 p).d, I 1]), [some ⟨0, gz⟩]))
  else
    (if p.more = true then some (.ret (.tup [in0.d, I 0]), [gRow true (joinN x1 p)]) else some (.ret (.tup [(joinN x1 p).d, I 1]), [some ⟨0, gz⟩]))
theorem drop_r (o : Bool) (i : Int) (t : ByteArray) (s r : Bool) (k a b : Int) (c pl : ByteArray) : EV 19 [.ptr 0 0 0] [some ⟨0, [B o, .sc (.int .u32 i), .sc (.string t), B s, B r, .sc (.int .u8 k), .sc (.int .u64 a), .sc (.int .u64 b), .sc (.string c), .ro false (bytesD pl)]⟩] = some (.ret (.tup []), [some ⟨0, gz⟩]) :=
  drop_c o ⟨i, t, s, r, ⟨k, a, b, c⟩, pl⟩

set_option maxRecDepth 10000 in
set_option maxHeartbeats 4000000 in
theorem put_e (o : Bool) (x : InV) (p : Perf) (h1 : x.payload.size ≤ 8192) (h2 : p.payload.size ≤ 8192) (hr : D.refsL p.marks = []) (hk : D.canL p.marks = p.marks) : EV 21 [.ptr 0 0 0, p.d] [gRow o x] = putE o (if o then x else opened x p) x p := by
  refine (ev_body ⟨[3], [(1000000, [0, 4, 5])], [(4, [(0, 0, false), (8, 0, false), (9, 0, false), (10, 0, true), (1, 0, false), (3, 0, false), (4, 0, false), (5, 0, false), (11, 1, false), (12, 1, false), (13, 1, false), (14, 0, true), (2, 0, false), (6, 0, false), (7, 0, false), (15, 2, false), (16, 2, false), (17, 2, false), (18, 0, true)]), (5, [(0, 0, false), (1, 0, false), (2, 0, false), (3, 0, false), (4, 0, false), (5, 0, false), (6, 0, false), (7, 0, false), (8, 0, false), (9, 0, false), (10, 0, false), (11, 0, true)]), (8, [(0, 0, false), (1, 0, false), (2, 0, false), (3, 0, false), (4, 0, false), (5, 0, false), (6, 0, false), (7, 0, false), (8, 0, false), (9, 0, false), (10, 0, false)]), (10, [(0, 0, false), (1, 0, false), (2, 0, false), (3, 0, false), (4, 0, false), (5, 0, false), (6, 0, false), (7, 0, false), (8, 0, false), (9, 0, false), (10, 0, false), (11, 0, false), (12, 0, false), (13, 0, true)])], true, [], noIt⟩ [.cell 4 40, .tmp 5] rfl Try.func21 rfl rfl rfl (by kernel_rfl) (by show 2 ≤ 120; decide)).trans ?_
  have ht := takes_c o x p
  simp only [Perf.d, Perf.cs, gRow, gcs, InV.cs] at ht
  have hc := concat2 x.payload p.payload (by omega)
  unfold putE
  simp +contextual (maxSteps := 10000000) only [↓reduceIte, go_sem, Nat.reduceEqDiff, Nat.reduceAdd, Nat.reduceSub, Nat.reduceMul, Nat.reduceLeDiff, Nat.reduceLT, Nat.reduceBEq, Nat.reduceDiv, Nat.reduceMod, Int.reduceLE, Int.reduceLT, Int.reduceEq, Int.reduceBEq, Int.reduceBNe, Int.reduceAdd, Int.reduceSub, Int.reduceNeg, Int.reduceToNat, Int.reduceMul, Int.reducePow, Nat.reducePow, reduceCtorEq, ht]
  refine (run_scope 0 rfl rfl).trans ?_
  cases o
  · simp +contextual (maxSteps := 10000000) only [↓reduceIte, go_sem, Nat.reduceEqDiff, Nat.reduceAdd, Nat.reduceSub, Nat.reduceMul, Nat.reduceLeDiff, Nat.reduceLT, Nat.reduceBEq, Nat.reduceDiv, Nat.reduceMod, Int.reduceLE, Int.reduceLT, Int.reduceEq, Int.reduceBEq, Int.reduceBNe, Int.reduceAdd, Int.reduceSub, Int.reduceNeg, Int.reduceToNat, Int.reduceMul, Int.reducePow, Nat.reducePow, reduceCtorEq, ht, hr, hk, hc, jpK_go, drop_r, wrap_i64 (n := (x.payload.size : Int) + p.payload.size) (by omega) (by omega)]
  · simp +contextual (maxSteps := 10000000) only [↓reduceIte, go_sem, Nat.reduceEqDiff, Nat.reduceAdd, Nat.reduceSub, Nat.reduceMul, Nat.reduceLeDiff, Nat.reduceLT, Nat.reduceBEq, Nat.reduceDiv, Nat.reduceMod, Int.reduceLE, Int.reduceLT, Int.reduceEq, Int.reduceBEq, Int.reduceBNe, Int.reduceAdd, Int.reduceSub, Int.reduceNeg, Int.reduceToNat, Int.reduceMul, Int.reducePow, Nat.reducePow, reduceCtorEq, ht, hr, hk, hc, jpK_go, drop_r, wrap_i64 (n := (x.payload.size : Int) + p.payload.size) (by omega) (by omega)]
theorem put_nil (p : Perf) (hr : D.refsL p.marks = []) (hk : D.canL p.marks = p.marks) : EV 21 [.nilp, p.d] [] = some (.ret (.tup [in0.d, I 3]), []) := by
  refine (ev_body ⟨[3], [(1000000, [0, 4, 5])], [(4, [(0, 0, false), (8, 0, false), (9, 0, false), (10, 0, true), (1, 0, false), (3, 0, false), (4, 0, false), (5, 0, false), (11, 1, false), (12, 1, false), (13, 1, false), (14, 0, true), (2, 0, false), (6, 0, false), (7, 0, false), (15, 2, false), (16, 2, false), (17, 2, false), (18, 0, true)]), (5, [(0, 0, false), (1, 0, false), (2, 0, false), (3, 0, false), (4, 0, false), (5, 0, false), (6, 0, false), (7, 0, false), (8, 0, false), (9, 0, false), (10, 0, false), (11, 0, true)]), (8, [(0, 0, false), (1, 0, false), (2, 0, false), (3, 0, false), (4, 0, false), (5, 0, false), (6, 0, false), (7, 0, false), (8, 0, false), (9, 0, false), (10, 0, false)]), (10, [(0, 0, false), (1, 0, false), (2, 0, false), (3, 0, false), (4, 0, false), (5, 0, false), (6, 0, false), (7, 0, false), (8, 0, false), (9, 0, false), (10, 0, false), (11, 0, false), (12, 0, false), (13, 0, true)])], true, [], noIt⟩ [.cell 4 40, .tmp 5] rfl Try.func21 rfl rfl rfl (by kernel_rfl) (by show 2 ≤ 120; decide)).trans ?_
  simp +contextual (maxSteps := 10000000) only [↓reduceIte, go_sem, Nat.reduceEqDiff, Nat.reduceAdd, Nat.reduceSub, Nat.reduceMul, Nat.reduceLeDiff, Nat.reduceLT, Nat.reduceBEq, Nat.reduceDiv, Nat.reduceMod, Int.reduceLE, Int.reduceLT, Int.reduceEq, Int.reduceBEq, Int.reduceBNe, Int.reduceAdd, Int.reduceSub, Int.reduceNeg, Int.reduceToNat, Int.reduceMul, Int.reducePow, Nat.reducePow, reduceCtorEq]
  refine (run_scope 0 rfl rfl).trans ?_
  simp +contextual (maxSteps := 10000000) only [↓reduceIte, go_sem, Nat.reduceEqDiff, Nat.reduceAdd, Nat.reduceSub, Nat.reduceMul, Nat.reduceLeDiff, Nat.reduceLT, Nat.reduceBEq, Nat.reduceDiv, Nat.reduceMod, Int.reduceLE, Int.reduceLT, Int.reduceEq, Int.reduceBEq, Int.reduceBNe, Int.reduceAdd, Int.reduceSub, Int.reduceNeg, Int.reduceToNat, Int.reduceMul, Int.reducePow, Nat.reducePow, reduceCtorEq, hr, hk]
end Go.Bw.R1

namespace Go.Bw.R1
set_option maxRecDepth 5000
open Go Go.Bw Go.Proofs
abbrev ou0 : Outc := ⟨0, 0, 0, ⟨#[]⟩⟩
theorem put_at (o : Bool) (x : InV) (p : Perf) {r : Option (R × Sto)} (h1 : x.payload.size ≤ 8192) (h2 : p.payload.size ≤ 8192) (hr : D.refsL p.marks = []) (hk : D.canL p.marks = p.marks) (h : putE o (if o then x else opened x p) x p = r) : EV 21 [.ptr 0 0 0, p.d] [gRow o x] = r := (put_e o x p h1 h2 hr hk).trans h
def w1 : InV := ⟨3, ⟨#[97]⟩, false, false, ou0, ⟨#[104, 101]⟩⟩
def w2 : InV := ⟨3, ⟨#[97]⟩, false, false, ou0, ⟨#[104, 101, 108, 108, 111]⟩⟩
def w3 : InV := ⟨4, ⟨#[98]⟩, false, false, ou0, ⟨#[121]⟩⟩
def w4 : InV := ⟨4, ⟨#[98]⟩, false, false, ou0, ⟨#[]⟩⟩
set_option maxRecDepth 10000 in
set_option maxHeartbeats 4000000 in
theorem works_c : EV 16 [] [] = some (.ret (B true), []) := by
  refine (ev_body ⟨[], [], [], false, [], noIt⟩ [.tmp 0] rfl Try.func16 rfl rfl rfl (by kernel_rfl) (by show 0 ≤ 98; decide)).trans ?_
  have p1 := put_at false in0 (tr 3 ⟨#[97]⟩ true ⟨#[104, 101]⟩) (r := some (.ret (.tup [in0.d, I 0]), [gRow true w1])) (by decide) (by decide) rfl rfl (by kernel_rfl)
  have p2 := put_at true w1 (tr (-1) ⟨#[]⟩ false ⟨#[108, 108, 111]⟩) (r := some (.ret (.tup [w2.d, I 1]), [some ⟨0, gz⟩])) (by decide) (by decide) rfl rfl (by kernel_rfl)
  have p3 := put_at false in0 (tr (-1) ⟨#[]⟩ false ⟨#[120]⟩) (r := some (.ret (.tup [in0.d, I 3]), [gRow false in0])) (by decide) (by decide) rfl rfl (by kernel_rfl)
  have p4 := put_at false in0 (tr 4 ⟨#[98]⟩ true ⟨#[121]⟩) (r := some (.ret (.tup [in0.d, I 0]), [gRow true w3])) (by decide) (by decide) rfl rfl (by kernel_rfl)
  have p5 := put_at true w3 { pe0 with kind := 5, first0 := -1, aborted := true } (r := some (.ret (.tup [w4.d, I 2]), [some ⟨0, gz⟩])) (by decide) (by decide) rfl rfl (by kernel_rfl)
  simp only [Perf.d, Perf.cs, InV.d, InV.cs, tr, pe0, gRow, gcs, in0, w1, w2, w3, w4, ou0, bytesD_nil] at p1 p2 p3 p4 p5
  simp +contextual (maxSteps := 10000000) only [↓reduceIte, go_sem, Nat.reduceEqDiff, Nat.reduceAdd, Nat.reduceSub, Nat.reduceMul, Nat.reduceLeDiff, Nat.reduceLT, Nat.reduceBEq, Nat.reduceDiv, Nat.reduceMod, Int.reduceLE, Int.reduceLT, Int.reduceEq, Int.reduceBEq, Int.reduceBNe, Int.reduceAdd, Int.reduceSub, Int.reduceNeg, Int.reduceToNat, Int.reduceMul, Int.reducePow, Nat.reducePow, reduceCtorEq, new_c, transfer_c, p1, p2, p3, p4, p5, open_g]
end Go.Bw.R1

namespace Go.Bw.R1
set_option maxRecDepth 5000
open Go Go.Bw Go.Proofs
structure Perf.fine (p : Perf) : Prop where
  refs : D.refsL p.marks = []
  can : D.canL p.marks = p.marks
theorem Perf.refs_d {p : Perf} (h : p.fine) : p.d.refs = [] := by
  simp only [Perf.d, Perf.cs, D.refs, D.refsL, h.refs, refsL_bytesD, List.append_nil]
theorem Perf.can_d {p : Perf} (h : p.fine) : p.d.can = p.d := by
  simp only [Perf.d, Perf.cs, D.can, D.canL, h.can, canL_bytesD]
theorem perfs_refs : ∀ {l : List Perf}, (∀ p ∈ l, p.fine) → D.refsL (l.map Perf.d) = []
  | [], _ => rfl
  | p :: l, h => by
    simp only [List.map_cons, D.refsL, Perf.refs_d (h p (by simp)), perfs_refs (l := l) (fun q hq => h q (by simp [hq])), List.append_nil]
theorem perfs_can {l : List Perf} (h : ∀ p ∈ l, p.fine) : D.canL (l.map Perf.d) = l.map Perf.d := by
  rw [D.canL_map, List.map_map]
  exact List.map_congr_left fun p hp => Perf.can_d (h p hp)
def big (p : Perf) : Bool := decide (8192 < (p.payload.size : Int)) || decide (1024 < (p.tag.size : Int))
def vast (l : List Perf) : Bool := if decide (100 < (l.length : Int)) = true then true else l.any big
set_option maxRecDepth 10000 in
set_option maxHeartbeats 1000000 in
theorem vast_c (l : List Perf) (hf : ∀ p ∈ l, p.fine) : EV 15 [.ro false (l.map Perf.d)] [] = some (.ret (B (vast l)), []) := by
  refine (ev_body ⟨[], [(0, [0, 3])], [], false, [], noIt⟩ [.tmp 2] rfl Try.func15 rfl rfl rfl (by kernel_rfl) (by show 1 ≤ 29; decide)).trans ?_
  have hR := perfs_refs hf
  have hC := perfs_can hf
  simp +contextual (maxSteps := 10000000) only [↓reduceIte, go_sem, Nat.reduceEqDiff, Nat.reduceAdd, Nat.reduceSub, Nat.reduceMul, Nat.reduceLeDiff, Nat.reduceLT, Nat.reduceBEq, Nat.reduceDiv, Nat.reduceMod, Int.reduceLE, Int.reduceLT, Int.reduceEq, Int.reduceBEq, Int.reduceBNe, Int.reduceAdd, Int.reduceSub, Int.reduceNeg, Int.reduceToNat, Int.reduceMul, Int.reducePow, Nat.reducePow, reduceCtorEq, hR, hC]
  unfold vast
  refine ite_intro (fun h => by rw [if_pos h]) (fun h => ?_)
  rw [if_neg h]
  have hlen : l.length ≤ 100 := by simp at h; omega
  refine lpK_inv (fun m0 f es => ∃ (i : Nat) (j : Int), j = i ∧ (l.take i).any big = false ∧ m0 = l.length - i ∧ i ≤ l.length ∧ f = [(0, .ro false (l.map Perf.d)), (3, I j)] ∧ es = []) l.length ⟨0, _, rfl, rfl, rfl, Nat.zero_le _, rfl, rfl⟩ ?_
  rintro _ _ _ ⟨i, _, rfl, hb, rfl, hi, rfl, rfl⟩ ih
  rcases Nat.lt_or_ge i l.length with hlt | hge
  · obtain ⟨x, hx⟩ := get_lt hlt
    have hlt' : decide ((i : Int) < l.length) = true := by simpa using hlt
    have e1 : (l.take (i + 1)).any big = big x := by rw [take_snoc hx, List.any_append, hb]; simp
    have e2 : big x = true → l.any big = true := fun h => List.any_eq_true.2 ⟨x, List.mem_of_getElem? hx, h⟩
    simp +contextual (maxSteps := 10000000) only [↓reduceIte, go_sem, Nat.reduceEqDiff, Nat.reduceAdd, Nat.reduceSub, Nat.reduceMul, Nat.reduceLeDiff, Nat.reduceLT, Nat.reduceBEq, Nat.reduceDiv, Nat.reduceMod, Int.reduceLE, Int.reduceLT, Int.reduceEq, Int.reduceBEq, Int.reduceBNe, Int.reduceAdd, Int.reduceSub, Int.reduceNeg, Int.reduceToNat, Int.reduceMul, Int.reducePow, Nat.reducePow, reduceCtorEq, hx, hR, hC, hlt', wrap_i64 (n := (i : Int) + 1) (by omega) (by omega)]
    refine ite_intro (fun h => by rw [e2 h]) (fun h => ?_)
    exact ih (l.length - (i + 1)) _ _ (by omega) ⟨i + 1, _, rfl, by rw [e1]; simpa [big] using h, rfl, hlt, rfl, rfl⟩
  · have hlt' : decide ((i : Int) < l.length) = false := by simpa using hge
    obtain rfl : i = l.length := by omega
    rw [List.take_length] at hb
    simp +contextual (maxSteps := 10000000) only [↓reduceIte, go_sem, Nat.reduceEqDiff, Nat.reduceAdd, Nat.reduceSub, Nat.reduceMul, Nat.reduceLeDiff, Nat.reduceLT, Nat.reduceBEq, Nat.reduceDiv, Nat.reduceMod, Int.reduceLE, Int.reduceLT, Int.reduceEq, Int.reduceBEq, Int.reduceBNe, Int.reduceAdd, Int.reduceSub, Int.reduceNeg, Int.reduceToNat, Int.reduceMul, Int.reducePow, Nat.reducePow, reduceCtorEq, hlt', hb]
theorem nil_law (p : Perf) (hf : p.fine) : EV 6 [p.d] [] = some (.ret (B true), []) := by
  refine (ev_body ⟨[1], [], [], false, [], noIt⟩ [.tmp 2] rfl Try.func6 rfl rfl rfl (by kernel_rfl) (by show 1 ≤ 39; decide)).trans ?_
  have hv := vast_c [p] (by simpa using hf)
  have hp := put_nil p hf.refs hf.can
  simp only [List.map_cons, List.map_nil, Perf.d, Perf.cs] at hv hp
  simp +contextual (maxSteps := 10000000) only [↓reduceIte, go_sem, Nat.reduceEqDiff, Nat.reduceAdd, Nat.reduceSub, Nat.reduceMul, Nat.reduceLeDiff, Nat.reduceLT, Nat.reduceBEq, Nat.reduceDiv, Nat.reduceMod, Int.reduceLE, Int.reduceLT, Int.reduceEq, Int.reduceBEq, Int.reduceBNe, Int.reduceAdd, Int.reduceSub, Int.reduceNeg, Int.reduceToNat, Int.reduceMul, Int.reducePow, Nat.reducePow, reduceCtorEq, hv, hp, works_c, open_nil, drop_nil, hf.refs, hf.can]
  exact ite_intro (fun _ => rfl) (fun _ => rfl)
end Go.Bw.R1

namespace Go.Bw.R1
set_option maxRecDepth 5000
open Go Go.Bw Go.Proofs
theorem own : ownKnob Try.prog.godebug = none := by kernel_rfl
theorem wk_can (d : D) : Wk d d.can := fun _ _ h => h.can
def canP (p : Perf) : Perf := { p with marks := D.canL p.marks }
theorem canP_fine {p : Perf} (h : p.ok) : (canP p).fine := by
  have hr := h.marks.refs
  simp only [D.refs] at hr
  exact ⟨by show D.refsL (D.canL p.marks) = []; rw [D.refsL_canL, hr], D.canL_canL _⟩
theorem canP_d (p : Perf) : (canP p).d = p.d.can := by
  simp only [Perf.d, Perf.cs, canP, D.can, D.canL, canL_bytesD]
theorem perf_arg {d : D} (h : Arg Try.prog 38 d) : ∃ p : Perf, p.fine ∧ Wk d p.d := by
  obtain ⟨p, hp, hw⟩ := Perf.of_arg h
  exact ⟨canP p, canP_fine hp, hw.trans (by rw [canP_d]; exact wk_can _)⟩
theorem perfs_arg {d : D} (h : Arg Try.prog 22 d) : ∃ l : List Perf, (∀ p ∈ l, p.fine) ∧ Wk d (.ro false (l.map Perf.d)) := by
  obtain ⟨l, hl, hw⟩ := Arg.one (by kernel_rfl) (fun l : List Perf => ∀ p ∈ l, p.ok) (fun l => .ro false (l.map Perf.d)) (fun ds hd => Rd.slice_agg Try.underlying22 (by kernel_rfl) Perf.ok Perf.cs (fun ds hd => Perf.of_rd hd) hd) h
  refine ⟨l.map canP, fun p hp => ?_, hw.trans ?_⟩
  · obtain ⟨q, hq, rfl⟩ := List.mem_map.1 hp
    exact canP_fine (hl q hq)
  · have e : D.ro false ((l.map canP).map Perf.d) = (D.ro false (l.map Perf.d)).can := by
      simp only [D.can, D.canL_map, List.map_map]
      congr 1
      exact List.map_congr_left fun p _ => canP_d p
    rw [e]; exact wk_can _
theorem bools_arg {d : D} (h : Arg Try.prog 23 d) : ∃ l : List Bool, Wk d (.ro false (l.map B)) := by
  obtain ⟨l, _, hw⟩ := Arg.one (by kernel_rfl) (fun _ : List Bool => True) (fun l => .ro false (l.map B)) (fun ds hd => by
    obtain ⟨bs, h⟩ := Rd.bools_inv Try.underlying23 Try.underlying4 hd
    exact ⟨bs, trivial, h⟩) h
  exact ⟨l, hw⟩
theorem u16s_arg {d : D} (h : Arg Try.prog 48 d) : ∃ l : List Int, (∀ n ∈ l, 0 ≤ n ∧ n ≤ 65535) ∧ Wk d (.ro false (l.map fun n => .sc (.int .u16 n))) := by
  exact Arg.one (by kernel_rfl) (fun l : List Int => ∀ n ∈ l, 0 ≤ n ∧ n ≤ 65535) (fun l => .ro false (l.map fun n => .sc (.int .u16 n))) (fun ds hd => Rd.ints_inv Try.underlying48 Try.underlying31 hd) h
theorem bool_arg {d : D} (h : Arg Try.prog 4 d) : ∃ b : Bool, Wk d (B b) := by
  obtain ⟨b, _, hw⟩ := Arg.one (by kernel_rfl) (fun _ : Bool => True) (fun b => B b) (fun ds hd => by
    obtain ⟨b, rfl⟩ := Rd.bool_inv Try.underlying4 hd
    exact ⟨b, trivial, .refl _⟩) h
  exact ⟨b, hw⟩
theorem Args.end_ {dl : List D} (h : Args Try.prog [] dl) : dl = [] := List.length_eq_zero_iff.1 h.1
end Go.Bw.R1

namespace Go.Bw.R1
set_option maxRecDepth 5000
open Go Go.Bw Go.Proofs
/-- a gather's row, as the laws meet it -/
def GSt (o : Bool) (x : InV) (row : List D) : Prop := (o = false ∧ x = in0 ∧ (row = gz ∨ row = gcs false in0)) ∨ (o = true ∧ row = gcs true x)
theorem GSt.can {o : Bool} {x : InV} {row : List D} (h : GSt o x row) : D.canL row = gcs o x := by
  rcases h with ⟨rfl, rfl, rfl | rfl⟩ | ⟨rfl, rfl⟩
  · rfl
  · rfl
  · simp only [gcs, InV.cs, D.canL, D.can, canL_bytesD]
theorem GSt.refs {o : Bool} {x : InV} {row : List D} (h : GSt o x row) : D.refsL row = [] := by
  rcases h with ⟨rfl, rfl, rfl | rfl⟩ | ⟨rfl, rfl⟩
  · rfl
  · rfl
  · simp only [gcs, InV.cs, D.refsL, D.refs, refsL_bytesD, List.append_nil]
theorem GSt.closed : GSt false in0 gz := .inl ⟨rfl, rfl, .inl rfl⟩
theorem GSt.same {o : Bool} {x : InV} {row : List D} (h : GSt o x row) : GSt o x (gcs o x) := by
  rcases h with ⟨rfl, rfl, _⟩ | ⟨rfl, _⟩
  · exact .inl ⟨rfl, rfl, .inr rfl⟩
  · exact .inr ⟨rfl, rfl⟩

theorem put_cases (o : Bool) (x : InV) (p : Perf) (h1 : x.payload.size ≤ 4096) (h2 : p.payload.size ≤ 8192) (hf : p.fine) :
    (takes o x p = false ∧ EV 21 [.ptr 0 0 0, p.d] [gRow o x] = some (.ret (.tup [in0.d, I 3]), [gRow o x])) ∨
    (takes o x p = true ∧ p.aborted = true ∧ ∃ id tag, EV 21 [.ptr 0 0 0, p.d] [gRow o x] = some (.ret (.tup [(InV.mk id tag false false ⟨0, 0, 0, ⟨#[]⟩⟩ ⟨#[]⟩).d, I 2]), [some ⟨0, gz⟩])) ∨
    (takes o x p = true ∧ ∃ id tag, EV 21 [.ptr 0 0 0, p.d] [gRow o x] = some (.ret (.tup [(InV.mk id tag false false ⟨0, 0, 0, ⟨#[]⟩⟩ ⟨#[]⟩).d, I 4]), [some ⟨0, gz⟩])) ∨
    (takes o x p = true ∧ p.more = true ∧ x.payload.size + p.payload.size ≤ 4096 ∧ ∃ id tag s r st, EV 21 [.ptr 0 0 0, p.d] [gRow o x] = some (.ret (.tup [in0.d, I 0]), [gRow true (InV.mk id tag s r st (x.payload ++ p.payload))])) ∨
    (takes o x p = true ∧ p.more = false ∧ x.payload.size + p.payload.size ≤ 4096 ∧ ∃ id tag s r st, EV 21 [.ptr 0 0 0, p.d] [gRow o x] = some (.ret (.tup [(InV.mk id tag s r st (x.payload ++ p.payload)).d, I 1]), [some ⟨0, gz⟩])) := by
  have e := put_e o x p (by omega) h2 hf.refs hf.can
  rw [e]
  unfold putE
  have hpl : (if o then x else opened x p).payload = x.payload := by cases o <;> rfl
  generalize (if o then x else opened x p) = x1 at hpl
  cases ht : takes o x p
  · exact .inl ⟨rfl, by rw [if_pos (by rfl)]⟩
  refine .inr ?_
  rw [if_neg (by decide)]
  cases ha : p.aborted
  case true => exact .inl ⟨rfl, rfl, _, _, by rw [if_pos rfl]; rfl⟩
  refine .inr ?_
  rw [if_neg (by decide)]
  by_cases hl : decide ((4096 : Int) < x.payload.size + p.payload.size) = true
  · exact .inl ⟨rfl, _, _, by rw [if_pos hl]; rfl⟩
  refine .inr ?_
  rw [if_neg hl]
  have hs : x.payload.size + p.payload.size ≤ 4096 := by simp at hl; omega
  by_cases hk : (p.state.kind != 0) = true
  · rw [if_pos hk]
    cases hm : p.more
    · exact .inr ⟨rfl, rfl, hs, _, _, _, _, _, by rw [if_neg (by decide), joinS, hpl]⟩
    · exact .inl ⟨rfl, rfl, hs, _, _, _, _, _, by rw [if_pos rfl, joinS, hpl]⟩
  · rw [if_neg hk]
    cases hm : p.more
    · exact .inr ⟨rfl, rfl, hs, _, _, _, _, _, by rw [if_neg (by decide), joinN, hpl]⟩
    · exact .inl ⟨rfl, rfl, hs, _, _, _, _, _, by rw [if_pos rfl, joinN, hpl]⟩
end Go.Bw.R1

namespace Go.Bw.R1
set_option maxRecDepth 5000
open Go Go.Bw Go.Proofs
theorem vast_at {l : List Perf} (h : vast l = false) : l.length ≤ 100 ∧ ∀ p ∈ l, p.payload.size ≤ 8192 ∧ p.tag.size ≤ 1024 := by
  unfold vast at h
  split at h
  · cases h
  · rename_i h1
    have h1 : l.length ≤ 100 := by simp at h1; omega
    refine ⟨h1, fun p hp => ?_⟩
    have := List.any_eq_false.1 h p hp
    simp [big] at this
    omega
theorem GSt.shut : GSt false in0 (gcs false in0) := .inl ⟨rfl, rfl, .inr rfl⟩
theorem GSt.open (x : InV) : GSt true x (gcs true x) := .inr ⟨rfl, rfl⟩
theorem GSt.none {x : InV} {row : List D} (h : GSt false x row) : x.payload = ⟨#[]⟩ := by
  rcases h with ⟨_, rfl, _⟩ | ⟨h, _⟩
  · rfl
  · cases h
theorem bytes_empty {s : ByteArray} (h : s.size = 0) : s = ⟨#[]⟩ := by
  apply ByteArray.ext
  exact Array.eq_empty_of_size_eq_zero h
theorem nil_bytes (s : ByteArray) : (⟨#[]⟩ : ByteArray) ++ s = s := by
  apply ByteArray.ext
  rw [ByteArray.data_append]; simp
/-- what is gathered, and what has come -/
def OnceI (l : List Perf) (m0 : Nat) (f : Fr) (es : Sto) : Prop := ∃ (i : Nat) (j : Int) (o : Bool) (x : InV) (row : List D) (b : ByteArray), j = i ∧ m0 = l.length - i ∧ i ≤ l.length ∧ GSt o x row ∧ x.payload.size ≤ 4096 ∧ (o = true → b = x.payload) ∧
  ((f = [(0, .ro false (l.map Perf.d)), (3, .ptr 0 0 0), (4, .nils), (5, I j)] ∧ es = [some ⟨0, row⟩] ∧ b = ⟨#[]⟩) ∨ (f = [(0, .ro false (l.map Perf.d)), (3, .ptr 0 0 0), (4, .ref 1 0 1 0 b.size), (5, I j)] ∧ es = [some ⟨0, row⟩, some ⟨0, bytesD b⟩]))
set_option maxRecDepth 10000 in
set_option maxHeartbeats 8000000 in
theorem once_law (l : List Perf) (hf : ∀ p ∈ l, p.fine) : EV 4 [.ro false (l.map Perf.d)] [] = some (.ret (B true), []) := by
  refine (ev_body ⟨[], [(0, [0, 3, 4, 5])], [], false, [], noIt⟩ [.tmp 2] rfl Try.func4 rfl rfl rfl (by kernel_rfl) (by show 1 ≤ 121; decide)).trans ?_
  have hR := perfs_refs hf
  have hC := perfs_can hf
  simp +contextual (maxSteps := 10000000) only [↓reduceIte, go_sem, Nat.reduceEqDiff, Nat.reduceAdd, Nat.reduceSub, Nat.reduceMul, Nat.reduceLeDiff, Nat.reduceLT, Nat.reduceBEq, Nat.reduceDiv, Nat.reduceMod, Int.reduceLE, Int.reduceLT, Int.reduceEq, Int.reduceBEq, Int.reduceBNe, Int.reduceAdd, Int.reduceSub, Int.reduceNeg, Int.reduceToNat, Int.reduceMul, Int.reducePow, Nat.reducePow, reduceCtorEq, hR, hC, vast_c l hf, works_c, new_c]
  refine ite_intro (fun h => rfl) (fun h => ?_)
  have hv := vast_at (by simpa using h)
  clear h
  refine lpK_inv (OnceI l) l.length ⟨0, _, false, in0, gz, ⟨#[]⟩, rfl, rfl, Nat.zero_le _, GSt.closed, by decide, (fun h => absurd h (by decide)), .inl ⟨rfl, rfl, rfl⟩⟩ ?_
  rintro _ _ _ ⟨i, _, o, x, row, b, rfl, rfl, hi, hg, hxs, hb, hcase⟩ ih
  have hgc := hg.can
  rw [D.canL_map] at hgc
  have hgr := hg.refs
  rcases Nat.lt_or_ge i l.length with hlt | hge
  · obtain ⟨p, hp⟩ := get_lt hlt
    have hpm := List.mem_of_getElem? hp
    have hlt' : decide ((i : Int) < l.length) = true := by simpa using hlt
    obtain ⟨hps, _⟩ := hv.2 p hpm
    rcases put_cases o x p hxs hps (hf p hpm) with ⟨ht, he⟩ | ⟨ht, ha, id, tag, he⟩ | ⟨ht, id, tag, he⟩ | ⟨ht, hm, hs, id, tag, s, r, st, he⟩ | ⟨ht, hm, hs, id, tag, s, r, st, he⟩
    · simp only [Perf.d, Perf.cs, InV.d, InV.cs, gRow, gcs, in0] at he hgc
      rcases hcase with ⟨rfl, rfl, rfl⟩ | ⟨rfl, rfl⟩
      · simp +contextual (maxSteps := 10000000) only [↓reduceIte, go_sem, Nat.reduceEqDiff, Nat.reduceAdd, Nat.reduceSub, Nat.reduceMul, Nat.reduceLeDiff, Nat.reduceLT, Nat.reduceBEq, Nat.reduceDiv, Nat.reduceMod, Int.reduceLE, Int.reduceLT, Int.reduceEq, Int.reduceBEq, Int.reduceBNe, Int.reduceAdd, Int.reduceSub, Int.reduceNeg, Int.reduceToNat, Int.reduceMul, Int.reducePow, Nat.reducePow, reduceCtorEq, hp, he, hR, hC, hgc, hgr, hlt', open_g, beq_self_eq_true, Bool.not_true, Bool.not_false, works_c, (hf p hpm).refs, (hf p hpm).can, wrap_i64 (n := (i : Int) + 1) (by omega) (by omega)]
        exact ih (l.length - (i + 1)) _ _ (by omega) ⟨i + 1, _, o, x, _, _, rfl, rfl, hlt, hg.same, hxs, hb, .inl ⟨rfl, rfl, rfl⟩⟩
      · simp +contextual (maxSteps := 10000000) only [↓reduceIte, go_sem, Nat.reduceEqDiff, Nat.reduceAdd, Nat.reduceSub, Nat.reduceMul, Nat.reduceLeDiff, Nat.reduceLT, Nat.reduceBEq, Nat.reduceDiv, Nat.reduceMod, Int.reduceLE, Int.reduceLT, Int.reduceEq, Int.reduceBEq, Int.reduceBNe, Int.reduceAdd, Int.reduceSub, Int.reduceNeg, Int.reduceToNat, Int.reduceMul, Int.reducePow, Nat.reducePow, reduceCtorEq, hp, he, hR, hC, hgc, hgr, hlt', open_g, beq_self_eq_true, Bool.not_true, Bool.not_false, works_c, (hf p hpm).refs, (hf p hpm).can, wrap_i64 (n := (i : Int) + 1) (by omega) (by omega)]
        exact ih (l.length - (i + 1)) _ _ (by omega) ⟨i + 1, _, o, x, _, b, rfl, rfl, hlt, hg.same, hxs, hb, .inr ⟨rfl, rfl⟩⟩
    · simp only [Perf.d, Perf.cs, InV.d, InV.cs, gRow, gcs, in0, ha] at he hgc
      rcases hcase with ⟨rfl, rfl, rfl⟩ | ⟨rfl, rfl⟩
      · simp +contextual (maxSteps := 10000000) only [↓reduceIte, go_sem, Nat.reduceEqDiff, Nat.reduceAdd, Nat.reduceSub, Nat.reduceMul, Nat.reduceLeDiff, Nat.reduceLT, Nat.reduceBEq, Nat.reduceDiv, Nat.reduceMod, Int.reduceLE, Int.reduceLT, Int.reduceEq, Int.reduceBEq, Int.reduceBNe, Int.reduceAdd, Int.reduceSub, Int.reduceNeg, Int.reduceToNat, Int.reduceMul, Int.reducePow, Nat.reducePow, reduceCtorEq, hp, he, hR, hC, hgc, hgr, hlt', open_g, beq_self_eq_true, Bool.not_true, Bool.not_false, works_c, (hf p hpm).refs, (hf p hpm).can, wrap_i64 (n := (i : Int) + 1) (by omega) (by omega), ha]
        exact ih (l.length - (i + 1)) _ _ (by omega) ⟨i + 1, _, false, in0, _, ⟨#[]⟩, rfl, rfl, hlt, GSt.shut, by decide, (fun h => absurd h (by decide)), .inl ⟨rfl, rfl, rfl⟩⟩
      · simp +contextual (maxSteps := 10000000) only [↓reduceIte, go_sem, Nat.reduceEqDiff, Nat.reduceAdd, Nat.reduceSub, Nat.reduceMul, Nat.reduceLeDiff, Nat.reduceLT, Nat.reduceBEq, Nat.reduceDiv, Nat.reduceMod, Int.reduceLE, Int.reduceLT, Int.reduceEq, Int.reduceBEq, Int.reduceBNe, Int.reduceAdd, Int.reduceSub, Int.reduceNeg, Int.reduceToNat, Int.reduceMul, Int.reducePow, Nat.reducePow, reduceCtorEq, hp, he, hR, hC, hgc, hgr, hlt', open_g, beq_self_eq_true, Bool.not_true, Bool.not_false, works_c, (hf p hpm).refs, (hf p hpm).can, wrap_i64 (n := (i : Int) + 1) (by omega) (by omega), ha]
        exact ih (l.length - (i + 1)) _ _ (by omega) ⟨i + 1, _, false, in0, _, b, rfl, rfl, hlt, GSt.shut, by decide, (fun h => absurd h (by decide)), .inr ⟨rfl, rfl⟩⟩
    · simp only [Perf.d, Perf.cs, InV.d, InV.cs, gRow, gcs, in0] at he hgc
      rcases hcase with ⟨rfl, rfl, rfl⟩ | ⟨rfl, rfl⟩
      · simp +contextual (maxSteps := 10000000) only [↓reduceIte, go_sem, Nat.reduceEqDiff, Nat.reduceAdd, Nat.reduceSub, Nat.reduceMul, Nat.reduceLeDiff, Nat.reduceLT, Nat.reduceBEq, Nat.reduceDiv, Nat.reduceMod, Int.reduceLE, Int.reduceLT, Int.reduceEq, Int.reduceBEq, Int.reduceBNe, Int.reduceAdd, Int.reduceSub, Int.reduceNeg, Int.reduceToNat, Int.reduceMul, Int.reducePow, Nat.reducePow, reduceCtorEq, hp, he, hR, hC, hgc, hgr, hlt', open_g, beq_self_eq_true, Bool.not_true, Bool.not_false, works_c, (hf p hpm).refs, (hf p hpm).can, wrap_i64 (n := (i : Int) + 1) (by omega) (by omega)]
        exact ih (l.length - (i + 1)) _ _ (by omega) ⟨i + 1, _, false, in0, _, ⟨#[]⟩, rfl, rfl, hlt, GSt.shut, by decide, (fun h => absurd h (by decide)), .inl ⟨rfl, rfl, rfl⟩⟩
      · simp +contextual (maxSteps := 10000000) only [↓reduceIte, go_sem, Nat.reduceEqDiff, Nat.reduceAdd, Nat.reduceSub, Nat.reduceMul, Nat.reduceLeDiff, Nat.reduceLT, Nat.reduceBEq, Nat.reduceDiv, Nat.reduceMod, Int.reduceLE, Int.reduceLT, Int.reduceEq, Int.reduceBEq, Int.reduceBNe, Int.reduceAdd, Int.reduceSub, Int.reduceNeg, Int.reduceToNat, Int.reduceMul, Int.reducePow, Nat.reducePow, reduceCtorEq, hp, he, hR, hC, hgc, hgr, hlt', open_g, beq_self_eq_true, Bool.not_true, Bool.not_false, works_c, (hf p hpm).refs, (hf p hpm).can, wrap_i64 (n := (i : Int) + 1) (by omega) (by omega)]
        exact ih (l.length - (i + 1)) _ _ (by omega) ⟨i + 1, _, false, in0, _, b, rfl, rfl, hlt, GSt.shut, by decide, (fun h => absurd h (by decide)), .inr ⟨rfl, rfl⟩⟩
    · simp only [Perf.d, Perf.cs, InV.d, InV.cs, gRow, gcs, in0, hm] at he hgc
      by_cases hz : p.payload.size = 0
      · have hap := bytes_nil hz x.payload
        cases o
        · have hap : x.payload ++ p.payload = ⟨#[]⟩ := hap.trans hg.none
          rcases hcase with ⟨rfl, rfl, rfl⟩ | ⟨rfl, rfl⟩
          all_goals simp +contextual (maxSteps := 10000000) only [↓reduceIte, go_sem, Nat.reduceEqDiff, Nat.reduceAdd, Nat.reduceSub, Nat.reduceMul, Nat.reduceLeDiff, Nat.reduceLT, Nat.reduceBEq, Nat.reduceDiv, Nat.reduceMod, Int.reduceLE, Int.reduceLT, Int.reduceEq, Int.reduceBEq, Int.reduceBNe, Int.reduceAdd, Int.reduceSub, Int.reduceNeg, Int.reduceToNat, Int.reduceMul, Int.reducePow, Nat.reducePow, reduceCtorEq, hp, he, hR, hC, hgc, hgr, hlt', open_g, beq_self_eq_true, Bool.not_true, Bool.not_false, works_c, (hf p hpm).refs, (hf p hpm).can, wrap_i64 (n := (i : Int) + 1) (by omega) (by omega), hm, hz, hap]
          all_goals exact ih (l.length - (i + 1)) _ _ (by omega) ⟨i + 1, _, true, ⟨id, tag, s, r, st, ⟨#[]⟩⟩, _, ⟨#[]⟩, rfl, rfl, hlt, GSt.open _, (Nat.zero_le _), (fun _ => rfl), .inl ⟨rfl, rfl, rfl⟩⟩
        · rcases hcase with ⟨rfl, rfl, rfl⟩ | ⟨rfl, rfl⟩
          · have hap : x.payload ++ p.payload = ⟨#[]⟩ := hap.trans (hb rfl).symm
            simp +contextual (maxSteps := 10000000) only [↓reduceIte, go_sem, Nat.reduceEqDiff, Nat.reduceAdd, Nat.reduceSub, Nat.reduceMul, Nat.reduceLeDiff, Nat.reduceLT, Nat.reduceBEq, Nat.reduceDiv, Nat.reduceMod, Int.reduceLE, Int.reduceLT, Int.reduceEq, Int.reduceBEq, Int.reduceBNe, Int.reduceAdd, Int.reduceSub, Int.reduceNeg, Int.reduceToNat, Int.reduceMul, Int.reducePow, Nat.reducePow, reduceCtorEq, hp, he, hR, hC, hgc, hgr, hlt', open_g, beq_self_eq_true, Bool.not_true, Bool.not_false, works_c, (hf p hpm).refs, (hf p hpm).can, wrap_i64 (n := (i : Int) + 1) (by omega) (by omega), hm, hz, hap]
            exact ih (l.length - (i + 1)) _ _ (by omega) ⟨i + 1, _, true, ⟨id, tag, s, r, st, ⟨#[]⟩⟩, _, ⟨#[]⟩, rfl, rfl, hlt, GSt.open _, (Nat.zero_le _), (fun _ => rfl), .inl ⟨rfl, rfl, rfl⟩⟩
          · obtain rfl := hb rfl
            have hlen : decide ((4096 : Int) < x.payload.size) = false := by simp; omega
            simp +contextual (maxSteps := 10000000) only [↓reduceIte, go_sem, Nat.reduceEqDiff, Nat.reduceAdd, Nat.reduceSub, Nat.reduceMul, Nat.reduceLeDiff, Nat.reduceLT, Nat.reduceBEq, Nat.reduceDiv, Nat.reduceMod, Int.reduceLE, Int.reduceLT, Int.reduceEq, Int.reduceBEq, Int.reduceBNe, Int.reduceAdd, Int.reduceSub, Int.reduceNeg, Int.reduceToNat, Int.reduceMul, Int.reducePow, Nat.reducePow, reduceCtorEq, hp, he, hR, hC, hgc, hgr, hlt', open_g, beq_self_eq_true, Bool.not_true, Bool.not_false, works_c, (hf p hpm).refs, (hf p hpm).can, wrap_i64 (n := (i : Int) + 1) (by omega) (by omega), hm, hz, hap, hlen]
            exact ih (l.length - (i + 1)) _ _ (by omega) ⟨i + 1, _, true, ⟨id, tag, s, r, st, x.payload⟩, _, x.payload, rfl, rfl, hlt, GSt.open _, hxs, (fun _ => rfl), .inr ⟨rfl, rfl⟩⟩
      · have hbd : p.payload.size ≤ 140737488355328 := by omega
        have hlen : decide ((4096 : Int) < p.payload.size) = false := by simp; omega
        cases o
        · have hx0 : x.payload = ⟨#[]⟩ := hg.none
          have hap : x.payload ++ p.payload = p.payload := by rw [hx0]; exact nil_bytes _
          rcases hcase with ⟨rfl, rfl, rfl⟩ | ⟨rfl, rfl⟩
          all_goals simp +contextual (maxSteps := 10000000) only [↓reduceIte, go_sem, Nat.reduceEqDiff, Nat.reduceAdd, Nat.reduceSub, Nat.reduceMul, Nat.reduceLeDiff, Nat.reduceLT, Nat.reduceBEq, Nat.reduceDiv, Nat.reduceMod, Int.reduceLE, Int.reduceLT, Int.reduceEq, Int.reduceBEq, Int.reduceBNe, Int.reduceAdd, Int.reduceSub, Int.reduceNeg, Int.reduceToNat, Int.reduceMul, Int.reducePow, Nat.reducePow, reduceCtorEq, hp, he, hR, hC, hgc, hgr, hlt', open_g, beq_self_eq_true, Bool.not_true, Bool.not_false, works_c, (hf p hpm).refs, (hf p hpm).can, wrap_i64 (n := (i : Int) + 1) (by omega) (by omega), hm, hz, hap, hbd, hlen]
          all_goals exact ih (l.length - (i + 1)) _ _ (by omega) ⟨i + 1, _, true, ⟨id, tag, s, r, st, p.payload⟩, _, p.payload, rfl, rfl, hlt, GSt.open _, (by show p.payload.size ≤ 4096; omega), (fun _ => rfl), .inr ⟨rfl, rfl⟩⟩
        · rcases hcase with ⟨rfl, rfl, rfl⟩ | ⟨rfl, rfl⟩
          · have hap : x.payload ++ p.payload = p.payload := by rw [← hb rfl]; exact nil_bytes _
            simp +contextual (maxSteps := 10000000) only [↓reduceIte, go_sem, Nat.reduceEqDiff, Nat.reduceAdd, Nat.reduceSub, Nat.reduceMul, Nat.reduceLeDiff, Nat.reduceLT, Nat.reduceBEq, Nat.reduceDiv, Nat.reduceMod, Int.reduceLE, Int.reduceLT, Int.reduceEq, Int.reduceBEq, Int.reduceBNe, Int.reduceAdd, Int.reduceSub, Int.reduceNeg, Int.reduceToNat, Int.reduceMul, Int.reducePow, Nat.reducePow, reduceCtorEq, hp, he, hR, hC, hgc, hgr, hlt', open_g, beq_self_eq_true, Bool.not_true, Bool.not_false, works_c, (hf p hpm).refs, (hf p hpm).can, wrap_i64 (n := (i : Int) + 1) (by omega) (by omega), hm, hz, hap, hbd, hlen]
            exact ih (l.length - (i + 1)) _ _ (by omega) ⟨i + 1, _, true, ⟨id, tag, s, r, st, p.payload⟩, _, p.payload, rfl, rfl, hlt, GSt.open _, (by show p.payload.size ≤ 4096; omega), (fun _ => rfl), .inr ⟨rfl, rfl⟩⟩
          · obtain rfl := hb rfl
            have hlen : decide ((4096 : Int) < (x.payload.size : Int) + p.payload.size) = false := by simp; omega
            have hbd : x.payload.size + p.payload.size ≤ 140737488355328 := by omega
            simp +contextual (maxSteps := 10000000) only [↓reduceIte, go_sem, Nat.reduceEqDiff, Nat.reduceAdd, Nat.reduceSub, Nat.reduceMul, Nat.reduceLeDiff, Nat.reduceLT, Nat.reduceBEq, Nat.reduceDiv, Nat.reduceMod, Int.reduceLE, Int.reduceLT, Int.reduceEq, Int.reduceBEq, Int.reduceBNe, Int.reduceAdd, Int.reduceSub, Int.reduceNeg, Int.reduceToNat, Int.reduceMul, Int.reducePow, Nat.reducePow, reduceCtorEq, hp, he, hR, hC, hgc, hgr, hlt', open_g, beq_self_eq_true, Bool.not_true, Bool.not_false, works_c, (hf p hpm).refs, (hf p hpm).can, wrap_i64 (n := (i : Int) + 1) (by omega) (by omega), hm, hz, hbd, hlen]
            exact ih (l.length - (i + 1)) _ _ (by omega) ⟨i + 1, _, true, ⟨id, tag, s, r, st, x.payload ++ p.payload⟩, _, x.payload ++ p.payload, rfl, rfl, hlt, GSt.open _, (by show (x.payload ++ p.payload).size ≤ 4096; rw [bsize_append]; exact hs), (fun _ => rfl), .inr ⟨by rw [bsize_append]; rfl, rfl⟩⟩
    · simp only [Perf.d, Perf.cs, InV.d, InV.cs, gRow, gcs, in0, hm] at he hgc
      by_cases hz : p.payload.size = 0
      · have hap := bytes_nil hz x.payload
        cases o
        · have hap : x.payload ++ p.payload = ⟨#[]⟩ := hap.trans hg.none
          rcases hcase with ⟨rfl, rfl, rfl⟩ | ⟨rfl, rfl⟩
          all_goals simp +contextual (maxSteps := 10000000) only [↓reduceIte, go_sem, Nat.reduceEqDiff, Nat.reduceAdd, Nat.reduceSub, Nat.reduceMul, Nat.reduceLeDiff, Nat.reduceLT, Nat.reduceBEq, Nat.reduceDiv, Nat.reduceMod, Int.reduceLE, Int.reduceLT, Int.reduceEq, Int.reduceBEq, Int.reduceBNe, Int.reduceAdd, Int.reduceSub, Int.reduceNeg, Int.reduceToNat, Int.reduceMul, Int.reducePow, Nat.reducePow, reduceCtorEq, hp, he, hR, hC, hgc, hgr, hlt', open_g, beq_self_eq_true, Bool.not_true, Bool.not_false, works_c, (hf p hpm).refs, (hf p hpm).can, wrap_i64 (n := (i : Int) + 1) (by omega) (by omega), hm, hz, hap]
          all_goals exact ih (l.length - (i + 1)) _ _ (by omega) ⟨i + 1, _, false, in0, _, ⟨#[]⟩, rfl, rfl, hlt, GSt.shut, by decide, (fun h => absurd h (by decide)), .inl ⟨rfl, rfl, rfl⟩⟩
        · rcases hcase with ⟨rfl, rfl, rfl⟩ | ⟨rfl, rfl⟩
          · have hap : x.payload ++ p.payload = ⟨#[]⟩ := hap.trans (hb rfl).symm
            simp +contextual (maxSteps := 10000000) only [↓reduceIte, go_sem, Nat.reduceEqDiff, Nat.reduceAdd, Nat.reduceSub, Nat.reduceMul, Nat.reduceLeDiff, Nat.reduceLT, Nat.reduceBEq, Nat.reduceDiv, Nat.reduceMod, Int.reduceLE, Int.reduceLT, Int.reduceEq, Int.reduceBEq, Int.reduceBNe, Int.reduceAdd, Int.reduceSub, Int.reduceNeg, Int.reduceToNat, Int.reduceMul, Int.reducePow, Nat.reducePow, reduceCtorEq, hp, he, hR, hC, hgc, hgr, hlt', open_g, beq_self_eq_true, Bool.not_true, Bool.not_false, works_c, (hf p hpm).refs, (hf p hpm).can, wrap_i64 (n := (i : Int) + 1) (by omega) (by omega), hm, hz, hap]
            exact ih (l.length - (i + 1)) _ _ (by omega) ⟨i + 1, _, false, in0, _, ⟨#[]⟩, rfl, rfl, hlt, GSt.shut, by decide, (fun h => absurd h (by decide)), .inl ⟨rfl, rfl, rfl⟩⟩
          · obtain rfl := hb rfl
            simp +contextual (maxSteps := 10000000) only [↓reduceIte, go_sem, Nat.reduceEqDiff, Nat.reduceAdd, Nat.reduceSub, Nat.reduceMul, Nat.reduceLeDiff, Nat.reduceLT, Nat.reduceBEq, Nat.reduceDiv, Nat.reduceMod, Int.reduceLE, Int.reduceLT, Int.reduceEq, Int.reduceBEq, Int.reduceBNe, Int.reduceAdd, Int.reduceSub, Int.reduceNeg, Int.reduceToNat, Int.reduceMul, Int.reducePow, Nat.reducePow, reduceCtorEq, hp, he, hR, hC, hgc, hgr, hlt', open_g, beq_self_eq_true, Bool.not_true, Bool.not_false, works_c, (hf p hpm).refs, (hf p hpm).can, wrap_i64 (n := (i : Int) + 1) (by omega) (by omega), hm, hz, hap]
            exact ih (l.length - (i + 1)) _ _ (by omega) ⟨i + 1, _, false, in0, _, ⟨#[]⟩, rfl, rfl, hlt, GSt.shut, by decide, (fun h => absurd h (by decide)), .inl ⟨rfl, rfl, rfl⟩⟩
      · have hbd : p.payload.size ≤ 140737488355328 := by omega
        cases o
        · have hx0 : x.payload = ⟨#[]⟩ := hg.none
          have hap : x.payload ++ p.payload = p.payload := by rw [hx0]; exact nil_bytes _
          rcases hcase with ⟨rfl, rfl, rfl⟩ | ⟨rfl, rfl⟩
          all_goals simp +contextual (maxSteps := 10000000) only [↓reduceIte, go_sem, Nat.reduceEqDiff, Nat.reduceAdd, Nat.reduceSub, Nat.reduceMul, Nat.reduceLeDiff, Nat.reduceLT, Nat.reduceBEq, Nat.reduceDiv, Nat.reduceMod, Int.reduceLE, Int.reduceLT, Int.reduceEq, Int.reduceBEq, Int.reduceBNe, Int.reduceAdd, Int.reduceSub, Int.reduceNeg, Int.reduceToNat, Int.reduceMul, Int.reducePow, Nat.reducePow, reduceCtorEq, hp, he, hR, hC, hgc, hgr, hlt', open_g, beq_self_eq_true, Bool.not_true, Bool.not_false, works_c, (hf p hpm).refs, (hf p hpm).can, wrap_i64 (n := (i : Int) + 1) (by omega) (by omega), hm, hz, hap, hbd]
          all_goals exact ih (l.length - (i + 1)) _ _ (by omega) ⟨i + 1, _, false, in0, _, ⟨#[]⟩, rfl, rfl, hlt, GSt.shut, by decide, (fun h => absurd h (by decide)), .inl ⟨rfl, rfl, rfl⟩⟩
        · rcases hcase with ⟨rfl, rfl, rfl⟩ | ⟨rfl, rfl⟩
          · have hap : x.payload ++ p.payload = p.payload := by rw [← hb rfl]; exact nil_bytes _
            simp +contextual (maxSteps := 10000000) only [↓reduceIte, go_sem, Nat.reduceEqDiff, Nat.reduceAdd, Nat.reduceSub, Nat.reduceMul, Nat.reduceLeDiff, Nat.reduceLT, Nat.reduceBEq, Nat.reduceDiv, Nat.reduceMod, Int.reduceLE, Int.reduceLT, Int.reduceEq, Int.reduceBEq, Int.reduceBNe, Int.reduceAdd, Int.reduceSub, Int.reduceNeg, Int.reduceToNat, Int.reduceMul, Int.reducePow, Nat.reducePow, reduceCtorEq, hp, he, hR, hC, hgc, hgr, hlt', open_g, beq_self_eq_true, Bool.not_true, Bool.not_false, works_c, (hf p hpm).refs, (hf p hpm).can, wrap_i64 (n := (i : Int) + 1) (by omega) (by omega), hm, hz, hap, hbd]
            exact ih (l.length - (i + 1)) _ _ (by omega) ⟨i + 1, _, false, in0, _, ⟨#[]⟩, rfl, rfl, hlt, GSt.shut, by decide, (fun h => absurd h (by decide)), .inl ⟨rfl, rfl, rfl⟩⟩
          · obtain rfl := hb rfl
            have hbd : x.payload.size + p.payload.size ≤ 140737488355328 := by omega
            simp +contextual (maxSteps := 10000000) only [↓reduceIte, go_sem, Nat.reduceEqDiff, Nat.reduceAdd, Nat.reduceSub, Nat.reduceMul, Nat.reduceLeDiff, Nat.reduceLT, Nat.reduceBEq, Nat.reduceDiv, Nat.reduceMod, Int.reduceLE, Int.reduceLT, Int.reduceEq, Int.reduceBEq, Int.reduceBNe, Int.reduceAdd, Int.reduceSub, Int.reduceNeg, Int.reduceToNat, Int.reduceMul, Int.reducePow, Nat.reducePow, reduceCtorEq, hp, he, hR, hC, hgc, hgr, hlt', open_g, beq_self_eq_true, Bool.not_true, Bool.not_false, works_c, (hf p hpm).refs, (hf p hpm).can, wrap_i64 (n := (i : Int) + 1) (by omega) (by omega), hm, hz, hbd, cv_refn (P := Try.prog) (n := x.payload.size + p.payload.size) (s := x.payload ++ p.payload) (bsize_append _ _).symm]
            exact ih (l.length - (i + 1)) _ _ (by omega) ⟨i + 1, _, false, in0, _, ⟨#[]⟩, rfl, rfl, hlt, GSt.shut, by decide, (fun h => absurd h (by decide)), .inl ⟨rfl, rfl, rfl⟩⟩
  · have hlt' : decide ((i : Int) < l.length) = false := by simpa using hge
    rcases hcase with ⟨rfl, rfl, rfl⟩ | ⟨rfl, rfl⟩
    · simp +contextual (maxSteps := 10000000) only [↓reduceIte, go_sem, Nat.reduceEqDiff, Nat.reduceAdd, Nat.reduceSub, Nat.reduceMul, Nat.reduceLeDiff, Nat.reduceLT, Nat.reduceBEq, Nat.reduceDiv, Nat.reduceMod, Int.reduceLE, Int.reduceLT, Int.reduceEq, Int.reduceBEq, Int.reduceBNe, Int.reduceAdd, Int.reduceSub, Int.reduceNeg, Int.reduceToNat, Int.reduceMul, Int.reducePow, Nat.reducePow, reduceCtorEq, hlt', works_c]
    · simp +contextual (maxSteps := 10000000) only [↓reduceIte, go_sem, Nat.reduceEqDiff, Nat.reduceAdd, Nat.reduceSub, Nat.reduceMul, Nat.reduceLeDiff, Nat.reduceLT, Nat.reduceBEq, Nat.reduceDiv, Nat.reduceMod, Int.reduceLE, Int.reduceLT, Int.reduceEq, Int.reduceBEq, Int.reduceBNe, Int.reduceAdd, Int.reduceSub, Int.reduceNeg, Int.reduceToNat, Int.reduceMul, Int.reducePow, Nat.reducePow, reduceCtorEq, hlt', works_c]
end Go.Bw.R1

namespace Go.Bw.R1
set_option maxRecDepth 5000
open Go Go.Bw Go.Proofs
def tn (a : Int) (t : ByteArray) (m : Bool) (n : Nat) : Perf := { pe0 with kind := 5, first0 := a, tag := t, more := m, payload := zs n }
def st5 (k : Nat) : InV := ⟨5, ⟨#[116]⟩, false, false, ⟨0, 0, 0, ⟨#[]⟩⟩, zs k⟩
theorem takes_first (m : Bool) (n : Nat) : takes false in0 (tn 5 ⟨#[116]⟩ m n) = true := by
  have h : takes false in0 (tn 5 ⟨#[116]⟩ m 0) = true := by cases m <;> kernel_rfl
  exact h
theorem takes_next (m : Bool) (n k : Nat) : takes true (st5 k) (tn (-1) ⟨#[]⟩ m n) = true := by
  have h : takes true (st5 0) (tn (-1) ⟨#[]⟩ m 0) = true := by cases m <;> kernel_rfl
  exact h
theorem putE_val {o : Bool} {x1 x : InV} {p : Perf} (h1 : takes o x p = true) (h2 : p.aborted = false) (h3 : p.state.kind = 0) : putE o x1 x p =
    if 4096 < x.payload.size + p.payload.size then some (.ret (.tup [(heads x1).d, I 4]), [some ⟨0, gz⟩])
    else if p.more = true then some (.ret (.tup [in0.d, I 0]), [gRow true (joinN x1 p)]) else some (.ret (.tup [(joinN x1 p).d, I 1]), [some ⟨0, gz⟩]) := by
  have e1 : (decide ((4096 : Int) < (x.payload.size : Int) + (p.payload.size : Int)) = true) = (4096 < x.payload.size + p.payload.size) := by
    simp; omega
  unfold putE
  have n1 : ¬ (!takes o x p) = true := by rw [h1]; decide
  have n2 : ¬ p.aborted = true := by rw [h2]; decide
  have n3 : ¬ (p.state.kind != 0) = true := by rw [h3]; decide
  rw [if_neg n1, if_neg n2]
  simp only [e1]
  rw [if_neg n3]
theorem put_first (m : Bool) (n : Nat) (hn : n ≤ 4097) : EV 21 [.ptr 0 0 0, (tn 5 ⟨#[116]⟩ m n).d] [gRow false in0] =
    if 4096 < n then some (.ret (.tup [(InV.mk 5 ⟨#[116]⟩ false false ⟨0, 0, 0, ⟨#[]⟩⟩ ⟨#[]⟩).d, I 4]), [some ⟨0, gz⟩])
    else if m = true then some (.ret (.tup [in0.d, I 0]), [gRow true (st5 n)])
    else some (.ret (.tup [(st5 n).d, I 1]), [some ⟨0, gz⟩]) := by
  have e := put_e false in0 (tn 5 ⟨#[116]⟩ m n) (by decide) (by show (zs n).size ≤ 8192; rw [zs_size]; omega) rfl rfl
  have e4 : joinN (opened in0 (tn 5 ⟨#[116]⟩ m n)) (tn 5 ⟨#[116]⟩ m n) = st5 n := by
    have h5 : IntKind.u32.wrap 5 = 5 := by decide
    have e3 : (⟨#[]⟩ : ByteArray) ++ zs n = zs n := nil_bytes _
    simp only [joinN, opened, tn, in0, pe0, st5, h5, e3, Bool.or_false]
  have e5 : heads (opened in0 (tn 5 ⟨#[116]⟩ m n)) = InV.mk 5 ⟨#[116]⟩ false false ⟨0, 0, 0, ⟨#[]⟩⟩ ⟨#[]⟩ := by
    have h5 : IntKind.u32.wrap 5 = 5 := by decide
    simp only [heads, opened, tn, h5]
  have e6 : in0.payload.size + (tn 5 ⟨#[116]⟩ m n).payload.size = n := by
    show 0 + (zs n).size = n
    rw [zs_size, Nat.zero_add]
  refine e.trans ((putE_val (takes_first m n) rfl rfl).trans ?_)
  simp only [Bool.false_eq_true, if_false, e4, e5, e6]
  rfl
theorem put_next (m : Bool) (n k : Nat) (hk : k ≤ 4096) (hn : n ≤ 4097) : EV 21 [.ptr 0 0 0, (tn (-1) ⟨#[]⟩ m n).d] [gRow true (st5 k)] =
    if 4096 < k + n then some (.ret (.tup [(InV.mk 5 ⟨#[116]⟩ false false ⟨0, 0, 0, ⟨#[]⟩⟩ ⟨#[]⟩).d, I 4]), [some ⟨0, gz⟩])
    else if m = true then some (.ret (.tup [in0.d, I 0]), [gRow true (st5 (k + n))])
    else some (.ret (.tup [(st5 (k + n)).d, I 1]), [some ⟨0, gz⟩]) := by
  have e := put_e true (st5 k) (tn (-1) ⟨#[]⟩ m n) (by show (zs k).size ≤ 8192; rw [zs_size]; omega) (by show (zs n).size ≤ 8192; rw [zs_size]; omega) rfl rfl
  have e4 : joinN (st5 k) (tn (-1) ⟨#[]⟩ m n) = st5 (k + n) := by
    simp only [joinN, tn, pe0, st5, zs_app, Bool.or_false]
  have e5 : heads (st5 k) = InV.mk 5 ⟨#[116]⟩ false false ⟨0, 0, 0, ⟨#[]⟩⟩ ⟨#[]⟩ := rfl
  have e6 : (st5 k).payload.size + (tn (-1) ⟨#[]⟩ m n).payload.size = k + n := by
    show (zs k).size + (zs n).size = k + n
    rw [zs_size, zs_size]
  refine e.trans ((putE_val (takes_next m n k) rfl rfl).trans ?_)
  simp only [if_true, e4, e5, e6]
  rfl
def LimI (l : List Int) (more : Bool) (tot : Nat) (m0 : Nat) (f : Fr) (es : Sto) : Prop := ∃ (i : Nat) (j a : Int) (all : Nat), j = i ∧ a = all ∧ m0 = l.length - i ∧ i ≤ l.length ∧
  f = [(0, .ro false (l.map fun n => .sc (.int .u16 n))), (1, B more), (5, .ptr 0 0 0), (6, I a), (7, .ptr 1 0 0), (8, I j)] ∧
  ((all = tot ∧ es = [some ⟨0, gz⟩, some ⟨0, (tn 5 ⟨#[116]⟩ true 0).cs⟩]) ∨
   (∃ k, 0 < all ∧ k + all = tot ∧ es = [some ⟨0, gcs true (st5 k)⟩, some ⟨0, (tn (-1) ⟨#[]⟩ true 0).cs⟩]) ∨
   (all = 0 ∧ ∃ row, (GSt false in0 row ∨ ∃ k, GSt true (st5 k) row) ∧ es = [some ⟨0, row⟩, some ⟨0, (tn (-1) ⟨#[]⟩ true 0).cs⟩]))
set_option maxRecDepth 10000 in
set_option maxHeartbeats 3000000 in
theorem limits_law (l : List Int) (hl : ∀ n ∈ l, 0 ≤ n ∧ n ≤ 65535) (more : Bool) : EV 5 [.ro false (l.map fun n => .sc (.int .u16 n)), B more] [] = some (.ret (B true), []) := by
  refine (ev_body ⟨[], [(0, [0, 1, 5, 6, 7, 8])], [], false, [(12, [42]), (22, [67])], noIt⟩ [.tmp 4] rfl Try.func5 rfl rfl rfl (by kernel_rfl) (by show 2 ≤ 114; decide)).trans ?_
  have hR : D.refsL (l.map fun n => D.sc (.int .u16 n)) = [] := refsL_map (fun _ => rfl) l
  have hC : D.canL (l.map fun n => D.sc (.int .u16 n)) = l.map fun n => D.sc (.int .u16 n) := by rw [D.canL_map, List.map_map]; rfl
  simp +contextual (maxSteps := 10000000) only [↓reduceIte, go_sem, Nat.reduceEqDiff, Nat.reduceAdd, Nat.reduceSub, Nat.reduceMul, Nat.reduceLeDiff, Nat.reduceLT, Nat.reduceBEq, Nat.reduceDiv, Nat.reduceMod, Int.reduceLE, Int.reduceLT, Int.reduceEq, Int.reduceBEq, Int.reduceBNe, Int.reduceAdd, Int.reduceSub, Int.reduceNeg, Int.reduceToNat, Int.reduceMul, Int.reducePow, Nat.reducePow, reduceCtorEq, hR, hC, works_c, new_c, transfer_c]
  refine ite_intro (fun h => rfl) (fun h => ?_)
  have hlen : l.length ≤ 100 := by simp at h; omega
  clear h
  have p6 := put_at false in0 (tr 6 ⟨#[117]⟩ false ⟨#[122]⟩) (r := some (.ret (.tup [(InV.mk 6 ⟨#[117]⟩ false false ⟨0, 0, 0, ⟨#[]⟩⟩ ⟨#[122]⟩).d, I 1]), [some ⟨0, gz⟩])) (by decide) (by decide) rfl rfl (by kernel_rfl)
  simp only [Perf.d, Perf.cs, InV.d, InV.cs, tr, pe0, gRow, gcs, in0, bytesD_nil] at p6
  refine ite_intro (fun hm => ?_) (fun hm => ?_)
  · subst hm
    refine lpK_inv (LimI l true 4097) l.length ⟨0, _, _, 4097, rfl, rfl, rfl, Nat.zero_le _, rfl, .inl ⟨rfl, rfl⟩⟩ ?_
    rintro _ _ _ ⟨i, _, _, all, rfl, rfl, rfl, hi, rfl, hcase⟩ ih
    have hall : all ≤ 4097 := by rcases hcase with ⟨h, _⟩ | ⟨k, _, h, _⟩ | ⟨h, _⟩ <;> omega
    rcases Nat.lt_or_ge i l.length with hlt | hge
    · obtain ⟨x, hx⟩ := get_lt hlt
      have hlt' : decide ((i : Int) < l.length) = true := by simpa using hlt
      obtain ⟨hx0, hx1⟩ := hl x (List.mem_of_getElem? hx)
      have hw : IntKind.i64.wrap x = x := wrap_i64 (by omega) (by omega)
      obtain ⟨q, hq, hq1, hq2⟩ : ∃ q : Nat, (if (all : Int) < (IntKind.i64.wrap x).tmod 2000 then (all : Int) else (IntKind.i64.wrap x).tmod 2000) = (q : Int) ∧ q ≤ all ∧ q ≤ 1999 := by
        rw [hw, Int.tmod_eq_emod_of_nonneg hx0]
        split
        · exact ⟨all, rfl, by omega, by omega⟩
        · exact ⟨(x % 2000).toNat, by omega, by omega, by omega⟩
      obtain ⟨b, hb⟩ : ∃ b, all = q + b := ⟨all - q, by omega⟩
      have hsub : IntKind.i64.wrap ((all : Int) - (q : Int)) = (b : Int) := by rw [wrap_i64 (by omega) (by omega)]; omega
      have hqm : q ≤ 140737488355328 := by omega
      rcases hcase with ⟨hat, rfl⟩ | ⟨k, h0, hk, rfl⟩ | ⟨h0, row, hrow, rfl⟩
      · have hap : decide (0 < (all : Int)) = true := by simp; omega
        have hbp : decide (0 < (b : Int)) = true := by simp; omega
        have hput := put_first true q (by omega)
        rw [if_neg (by omega), if_pos rfl] at hput
        simp only [tn, pe0, Perf.d, Perf.cs, gRow, gcs, InV.d, InV.cs, in0, st5, bytesD_nil] at hput
        simp only [tn, pe0, Perf.cs]
        simp +contextual (maxSteps := 10000000) only [↓reduceIte, go_sem, Nat.reduceEqDiff, Nat.reduceAdd, Nat.reduceSub, Nat.reduceMul, Nat.reduceLeDiff, Nat.reduceLT, Nat.reduceBEq, Nat.reduceDiv, Nat.reduceMod, Int.reduceLE, Int.reduceLT, Int.reduceEq, Int.reduceBEq, Int.reduceBNe, Int.reduceAdd, Int.reduceSub, Int.reduceNeg, Int.reduceToNat, Int.reduceMul, Int.reducePow, Nat.reducePow, reduceCtorEq, hx, hR, hC, open_g, works_c, transfer_c, hlt', hap, hq, hbp, hput, hsub, mk_bytes (n := q) bsl' hqm, wrap_i64 (n := (i : Int) + 1) (by omega) (by omega)]
        exact ih (l.length - (i + 1)) _ _ (by omega) ⟨i + 1, _, _, b, rfl, rfl, rfl, hlt, rfl, .inr (.inl ⟨q, by omega, by omega, rfl⟩)⟩
      · have hap : decide (0 < (all : Int)) = true := by simp; omega
        have hput := put_next true q k (by omega) (by omega)
        rcases Nat.eq_zero_or_pos b with rfl | hb0
        · rw [if_pos (by omega)] at hput
          simp only [tn, pe0, Perf.d, Perf.cs, gRow, gcs, InV.d, InV.cs, in0, st5, bytesD_nil] at hput
          simp only [tn, pe0, Perf.cs, st5, gcs, InV.cs]
          simp +contextual (maxSteps := 10000000) only [↓reduceIte, go_sem, Nat.reduceEqDiff, Nat.reduceAdd, Nat.reduceSub, Nat.reduceMul, Nat.reduceLeDiff, Nat.reduceLT, Nat.reduceBEq, Nat.reduceDiv, Nat.reduceMod, Int.reduceLE, Int.reduceLT, Int.reduceEq, Int.reduceBEq, Int.reduceBNe, Int.reduceAdd, Int.reduceSub, Int.reduceNeg, Int.reduceToNat, Int.reduceMul, Int.reducePow, Nat.reducePow, reduceCtorEq, hx, hR, hC, open_g, works_c, transfer_c, hlt', hap, hq, hput, hsub, mk_bytes (n := q) bsl' hqm, wrap_i64 (n := (i : Int) + 1) (by omega) (by omega)]
          exact ih (l.length - (i + 1)) _ _ (by omega) ⟨i + 1, _, _, 0, rfl, rfl, rfl, hlt, rfl, .inr (.inr ⟨rfl, _, .inl GSt.closed, rfl⟩)⟩
        · have hbp : decide (0 < (b : Int)) = true := by simp; omega
          rw [if_neg (by omega), if_pos rfl] at hput
          simp only [tn, pe0, Perf.d, Perf.cs, gRow, gcs, InV.d, InV.cs, in0, st5, bytesD_nil] at hput
          simp only [tn, pe0, Perf.cs, st5, gcs, InV.cs]
          simp +contextual (maxSteps := 10000000) only [↓reduceIte, go_sem, Nat.reduceEqDiff, Nat.reduceAdd, Nat.reduceSub, Nat.reduceMul, Nat.reduceLeDiff, Nat.reduceLT, Nat.reduceBEq, Nat.reduceDiv, Nat.reduceMod, Int.reduceLE, Int.reduceLT, Int.reduceEq, Int.reduceBEq, Int.reduceBNe, Int.reduceAdd, Int.reduceSub, Int.reduceNeg, Int.reduceToNat, Int.reduceMul, Int.reducePow, Nat.reducePow, reduceCtorEq, hx, hR, hC, open_g, works_c, transfer_c, hlt', hap, hq, hbp, hput, hsub, mk_bytes (n := q) bsl' hqm, wrap_i64 (n := (i : Int) + 1) (by omega) (by omega)]
          exact ih (l.length - (i + 1)) _ _ (by omega) ⟨i + 1, _, _, b, rfl, rfl, rfl, hlt, rfl, .inr (.inl ⟨k + q, by omega, by omega, rfl⟩)⟩
      · subst h0
        rcases hrow with (⟨_, _, rfl | rfl⟩ | ⟨h, _⟩) | ⟨k, ⟨h, _⟩ | ⟨_, rfl⟩⟩
        any_goals (cases h; done)
        all_goals simp only [tn, pe0, Perf.cs, st5, gcs, InV.cs]
        all_goals simp +contextual (maxSteps := 10000000) only [↓reduceIte, go_sem, Nat.reduceEqDiff, Nat.reduceAdd, Nat.reduceSub, Nat.reduceMul, Nat.reduceLeDiff, Nat.reduceLT, Nat.reduceBEq, Nat.reduceDiv, Nat.reduceMod, Int.reduceLE, Int.reduceLT, Int.reduceEq, Int.reduceBEq, Int.reduceBNe, Int.reduceAdd, Int.reduceSub, Int.reduceNeg, Int.reduceToNat, Int.reduceMul, Int.reducePow, Nat.reducePow, reduceCtorEq, hx, hR, hC, open_g, works_c, transfer_c, hlt', drop_g, p6]
    · have hlt' : decide ((i : Int) < l.length) = false := by simpa using hge
      have hqm : all ≤ 140737488355328 := by omega
      rcases hcase with ⟨hat, rfl⟩ | ⟨k, h0, hk, rfl⟩ | ⟨h0, row, hrow, rfl⟩
      · have hap : decide (0 < (all : Int)) = true := by simp; omega
        have hput := put_first false all (by omega)
        rw [if_pos (by omega)] at hput
        simp only [tn, pe0, Perf.d, Perf.cs, gRow, gcs, InV.d, InV.cs, in0, st5, bytesD_nil] at hput
        simp only [tn, pe0, Perf.cs]
        simp +contextual (maxSteps := 10000000) only [↓reduceIte, go_sem, Nat.reduceEqDiff, Nat.reduceAdd, Nat.reduceSub, Nat.reduceMul, Nat.reduceLeDiff, Nat.reduceLT, Nat.reduceBEq, Nat.reduceDiv, Nat.reduceMod, Int.reduceLE, Int.reduceLT, Int.reduceEq, Int.reduceBEq, Int.reduceBNe, Int.reduceAdd, Int.reduceSub, Int.reduceNeg, Int.reduceToNat, Int.reduceMul, Int.reducePow, Nat.reducePow, reduceCtorEq, hR, hC, open_g, works_c, transfer_c, hlt', hap, hput, drop_g, p6, mk_bytes (n := all) bsl' hqm]
      · have hap : decide (0 < (all : Int)) = true := by simp; omega
        have hput := put_next false all k (by omega) (by omega)
        rw [if_pos (by omega)] at hput
        simp only [tn, pe0, Perf.d, Perf.cs, gRow, gcs, InV.d, InV.cs, in0, st5, bytesD_nil] at hput
        simp only [tn, pe0, Perf.cs, st5, gcs, InV.cs]
        simp +contextual (maxSteps := 10000000) only [↓reduceIte, go_sem, Nat.reduceEqDiff, Nat.reduceAdd, Nat.reduceSub, Nat.reduceMul, Nat.reduceLeDiff, Nat.reduceLT, Nat.reduceBEq, Nat.reduceDiv, Nat.reduceMod, Int.reduceLE, Int.reduceLT, Int.reduceEq, Int.reduceBEq, Int.reduceBNe, Int.reduceAdd, Int.reduceSub, Int.reduceNeg, Int.reduceToNat, Int.reduceMul, Int.reducePow, Nat.reducePow, reduceCtorEq, hR, hC, open_g, works_c, transfer_c, hlt', hap, hput, drop_g, p6, mk_bytes (n := all) bsl' hqm]
      · subst h0
        rcases hrow with (⟨_, _, rfl | rfl⟩ | ⟨h, _⟩) | ⟨k, ⟨h, _⟩ | ⟨_, rfl⟩⟩
        any_goals (cases h; done)
        all_goals simp only [tn, pe0, Perf.cs, st5, gcs, InV.cs]
        all_goals simp +contextual (maxSteps := 10000000) only [↓reduceIte, go_sem, Nat.reduceEqDiff, Nat.reduceAdd, Nat.reduceSub, Nat.reduceMul, Nat.reduceLeDiff, Nat.reduceLT, Nat.reduceBEq, Nat.reduceDiv, Nat.reduceMod, Int.reduceLE, Int.reduceLT, Int.reduceEq, Int.reduceBEq, Int.reduceBNe, Int.reduceAdd, Int.reduceSub, Int.reduceNeg, Int.reduceToNat, Int.reduceMul, Int.reducePow, Nat.reducePow, reduceCtorEq, hR, hC, open_g, works_c, transfer_c, hlt', drop_g, p6]
  · have hm : more = false := by simpa using hm
    subst hm
    refine lpK_inv (LimI l false 4096) l.length ⟨0, _, _, 4096, rfl, rfl, rfl, Nat.zero_le _, rfl, .inl ⟨rfl, rfl⟩⟩ ?_
    rintro _ _ _ ⟨i, _, _, all, rfl, rfl, rfl, hi, rfl, hcase⟩ ih
    have hall : all ≤ 4096 := by rcases hcase with ⟨h, _⟩ | ⟨k, _, h, _⟩ | ⟨h, _⟩ <;> omega
    rcases Nat.lt_or_ge i l.length with hlt | hge
    · obtain ⟨x, hx⟩ := get_lt hlt
      have hlt' : decide ((i : Int) < l.length) = true := by simpa using hlt
      obtain ⟨hx0, hx1⟩ := hl x (List.mem_of_getElem? hx)
      have hw : IntKind.i64.wrap x = x := wrap_i64 (by omega) (by omega)
      obtain ⟨q, hq, hq1, hq2⟩ : ∃ q : Nat, (if (all : Int) < (IntKind.i64.wrap x).tmod 2000 then (all : Int) else (IntKind.i64.wrap x).tmod 2000) = (q : Int) ∧ q ≤ all ∧ q ≤ 1999 := by
        rw [hw, Int.tmod_eq_emod_of_nonneg hx0]
        split
        · exact ⟨all, rfl, by omega, by omega⟩
        · exact ⟨(x % 2000).toNat, by omega, by omega, by omega⟩
      obtain ⟨b, hb⟩ : ∃ b, all = q + b := ⟨all - q, by omega⟩
      have hsub : IntKind.i64.wrap ((all : Int) - (q : Int)) = (b : Int) := by rw [wrap_i64 (by omega) (by omega)]; omega
      have hqm : q ≤ 140737488355328 := by omega
      rcases hcase with ⟨hat, rfl⟩ | ⟨k, h0, hk, rfl⟩ | ⟨h0, row, hrow, rfl⟩
      · have hap : decide (0 < (all : Int)) = true := by simp; omega
        have hbp : decide (0 < (b : Int)) = true := by simp; omega
        have hput := put_first true q (by omega)
        rw [if_neg (by omega), if_pos rfl] at hput
        simp only [tn, pe0, Perf.d, Perf.cs, gRow, gcs, InV.d, InV.cs, in0, st5, bytesD_nil] at hput
        simp only [tn, pe0, Perf.cs]
        simp +contextual (maxSteps := 10000000) only [↓reduceIte, go_sem, Nat.reduceEqDiff, Nat.reduceAdd, Nat.reduceSub, Nat.reduceMul, Nat.reduceLeDiff, Nat.reduceLT, Nat.reduceBEq, Nat.reduceDiv, Nat.reduceMod, Int.reduceLE, Int.reduceLT, Int.reduceEq, Int.reduceBEq, Int.reduceBNe, Int.reduceAdd, Int.reduceSub, Int.reduceNeg, Int.reduceToNat, Int.reduceMul, Int.reducePow, Nat.reducePow, reduceCtorEq, hx, hR, hC, open_g, works_c, transfer_c, hlt', hap, hq, hbp, hput, hsub, mk_bytes (n := q) bsl' hqm, wrap_i64 (n := (i : Int) + 1) (by omega) (by omega)]
        exact ih (l.length - (i + 1)) _ _ (by omega) ⟨i + 1, _, _, b, rfl, rfl, rfl, hlt, rfl, .inr (.inl ⟨q, by omega, by omega, rfl⟩)⟩
      · have hap : decide (0 < (all : Int)) = true := by simp; omega
        have hput := put_next true q k (by omega) (by omega)
        rcases Nat.eq_zero_or_pos b with rfl | hb0
        · rw [if_neg (by omega), if_pos rfl] at hput
          simp only [tn, pe0, Perf.d, Perf.cs, gRow, gcs, InV.d, InV.cs, in0, st5, bytesD_nil] at hput
          simp only [tn, pe0, Perf.cs, st5, gcs, InV.cs]
          simp +contextual (maxSteps := 10000000) only [↓reduceIte, go_sem, Nat.reduceEqDiff, Nat.reduceAdd, Nat.reduceSub, Nat.reduceMul, Nat.reduceLeDiff, Nat.reduceLT, Nat.reduceBEq, Nat.reduceDiv, Nat.reduceMod, Int.reduceLE, Int.reduceLT, Int.reduceEq, Int.reduceBEq, Int.reduceBNe, Int.reduceAdd, Int.reduceSub, Int.reduceNeg, Int.reduceToNat, Int.reduceMul, Int.reducePow, Nat.reducePow, reduceCtorEq, hx, hR, hC, open_g, works_c, transfer_c, hlt', hap, hq, hput, hsub, mk_bytes (n := q) bsl' hqm, wrap_i64 (n := (i : Int) + 1) (by omega) (by omega)]
          exact ih (l.length - (i + 1)) _ _ (by omega) ⟨i + 1, _, _, 0, rfl, rfl, rfl, hlt, rfl, .inr (.inr ⟨rfl, _, .inr ⟨k + q, GSt.open _⟩, rfl⟩)⟩
        · have hbp : decide (0 < (b : Int)) = true := by simp; omega
          rw [if_neg (by omega), if_pos rfl] at hput
          simp only [tn, pe0, Perf.d, Perf.cs, gRow, gcs, InV.d, InV.cs, in0, st5, bytesD_nil] at hput
          simp only [tn, pe0, Perf.cs, st5, gcs, InV.cs]
          simp +contextual (maxSteps := 10000000) only [↓reduceIte, go_sem, Nat.reduceEqDiff, Nat.reduceAdd, Nat.reduceSub, Nat.reduceMul, Nat.reduceLeDiff, Nat.reduceLT, Nat.reduceBEq, Nat.reduceDiv, Nat.reduceMod, Int.reduceLE, Int.reduceLT, Int.reduceEq, Int.reduceBEq, Int.reduceBNe, Int.reduceAdd, Int.reduceSub, Int.reduceNeg, Int.reduceToNat, Int.reduceMul, Int.reducePow, Nat.reducePow, reduceCtorEq, hx, hR, hC, open_g, works_c, transfer_c, hlt', hap, hq, hbp, hput, hsub, mk_bytes (n := q) bsl' hqm, wrap_i64 (n := (i : Int) + 1) (by omega) (by omega)]
          exact ih (l.length - (i + 1)) _ _ (by omega) ⟨i + 1, _, _, b, rfl, rfl, rfl, hlt, rfl, .inr (.inl ⟨k + q, by omega, by omega, rfl⟩)⟩
      · subst h0
        rcases hrow with (⟨_, _, rfl | rfl⟩ | ⟨h, _⟩) | ⟨k, ⟨h, _⟩ | ⟨_, rfl⟩⟩
        any_goals (cases h; done)
        all_goals simp only [tn, pe0, Perf.cs, st5, gcs, InV.cs]
        all_goals simp +contextual (maxSteps := 10000000) only [↓reduceIte, go_sem, Nat.reduceEqDiff, Nat.reduceAdd, Nat.reduceSub, Nat.reduceMul, Nat.reduceLeDiff, Nat.reduceLT, Nat.reduceBEq, Nat.reduceDiv, Nat.reduceMod, Int.reduceLE, Int.reduceLT, Int.reduceEq, Int.reduceBEq, Int.reduceBNe, Int.reduceAdd, Int.reduceSub, Int.reduceNeg, Int.reduceToNat, Int.reduceMul, Int.reducePow, Nat.reducePow, reduceCtorEq, hx, hR, hC, open_g, works_c, transfer_c, hlt', drop_g, p6]
    · have hlt' : decide ((i : Int) < l.length) = false := by simpa using hge
      have hqm : all ≤ 140737488355328 := by omega
      rcases hcase with ⟨hat, rfl⟩ | ⟨k, h0, hk, rfl⟩ | ⟨h0, row, hrow, rfl⟩
      · have hap : decide (0 < (all : Int)) = true := by simp; omega
        have hput := put_first false all (by omega)
        rw [if_neg (by omega), if_neg Bool.false_ne_true] at hput
        simp only [tn, pe0, Perf.d, Perf.cs, gRow, gcs, InV.d, InV.cs, in0, st5, bytesD_nil] at hput
        simp only [tn, pe0, Perf.cs]
        simp +contextual (maxSteps := 10000000) only [↓reduceIte, go_sem, Nat.reduceEqDiff, Nat.reduceAdd, Nat.reduceSub, Nat.reduceMul, Nat.reduceLeDiff, Nat.reduceLT, Nat.reduceBEq, Nat.reduceDiv, Nat.reduceMod, Int.reduceLE, Int.reduceLT, Int.reduceEq, Int.reduceBEq, Int.reduceBNe, Int.reduceAdd, Int.reduceSub, Int.reduceNeg, Int.reduceToNat, Int.reduceMul, Int.reducePow, Nat.reducePow, reduceCtorEq, hR, hC, open_g, works_c, transfer_c, hlt', hap, hput, drop_g, p6, mk_bytes (n := all) bsl' hqm]
        try (simp [hat]; done)
      · have hap : decide (0 < (all : Int)) = true := by simp; omega
        have hput := put_next false all k (by omega) (by omega)
        rw [if_neg (by omega), if_neg Bool.false_ne_true] at hput
        simp only [tn, pe0, Perf.d, Perf.cs, gRow, gcs, InV.d, InV.cs, in0, st5, bytesD_nil] at hput
        simp only [tn, pe0, Perf.cs, st5, gcs, InV.cs]
        simp +contextual (maxSteps := 10000000) only [↓reduceIte, go_sem, Nat.reduceEqDiff, Nat.reduceAdd, Nat.reduceSub, Nat.reduceMul, Nat.reduceLeDiff, Nat.reduceLT, Nat.reduceBEq, Nat.reduceDiv, Nat.reduceMod, Int.reduceLE, Int.reduceLT, Int.reduceEq, Int.reduceBEq, Int.reduceBNe, Int.reduceAdd, Int.reduceSub, Int.reduceNeg, Int.reduceToNat, Int.reduceMul, Int.reducePow, Nat.reducePow, reduceCtorEq, hR, hC, open_g, works_c, transfer_c, hlt', hap, hput, drop_g, p6, mk_bytes (n := all) bsl' hqm]
        try (simp; omega)
      · subst h0
        rcases hrow with (⟨_, _, rfl | rfl⟩ | ⟨h, _⟩) | ⟨k, ⟨h, _⟩ | ⟨_, rfl⟩⟩
        any_goals (cases h; done)
        all_goals simp only [tn, pe0, Perf.cs, st5, gcs, InV.cs]
        all_goals simp +contextual (maxSteps := 10000000) only [↓reduceIte, go_sem, Nat.reduceEqDiff, Nat.reduceAdd, Nat.reduceSub, Nat.reduceMul, Nat.reduceLeDiff, Nat.reduceLT, Nat.reduceBEq, Nat.reduceDiv, Nat.reduceMod, Int.reduceLE, Int.reduceLT, Int.reduceEq, Int.reduceBEq, Int.reduceBNe, Int.reduceAdd, Int.reduceSub, Int.reduceNeg, Int.reduceToNat, Int.reduceMul, Int.reducePow, Nat.reducePow, reduceCtorEq, hR, hC, open_g, works_c, transfer_c, hlt', drop_g, p6]
end Go.Bw.R1

/- Seat r1: outcomes that are the same. -/
namespace Go.Bw
set_option maxRecDepth 5000
open Go
theorem eqIn_int {P : Program} {d : Nat} {t : TypeId} {k : IntKind} (h : P.underlying t = some (.int k)) (a b : Int) : pureRun P (Op.equalIn (d + 1) t (.int k a) (.int k b)) = some (a == b) := by
  unfold Op.equalIn
  rw [pureRun_bind, pureRun_underlying h]
  simp only [Option.bind_some, if_true]; rfl
theorem eqIn_str {P : Program} {d : Nat} {t : TypeId} (h : P.underlying t = some .string) (a b : ByteArray) : pureRun P (Op.equalIn (d + 1) t (.string a) (.string b)) = some (a == b) := by
  unfold Op.equalIn
  rw [pureRun_bind, pureRun_underlying h]
  rfl
theorem pureRun_ite {P : Program} {α : Type} {c : Prop} [Decidable c] {x y : Sem α} : pureRun P (if c then x else y) = if c then pureRun P x else pureRun P y := by split <;> rfl
end Go.Bw
namespace Go.Bw.R1
open Go Go.Bw Go.Proofs
theorem stood35 : Try.prog.stoodInHeld 35 = false := by kernel_rfl
section
variable (k a b : Int) (c : ByteArray)
theorem pa0 : pureRun Try.prog (part 5 #[.int .u8 k, .int .u64 a, .int .u64 b, .string c] 0) = some (.int .u8 k) := by kernel_rfl
theorem pa1 : pureRun Try.prog (part 33 #[.int .u8 k, .int .u64 a, .int .u64 b, .string c] 1) = some (.int .u64 a) := by kernel_rfl
theorem pa2 : pureRun Try.prog (part 33 #[.int .u8 k, .int .u64 a, .int .u64 b, .string c] 2) = some (.int .u64 b) := by kernel_rfl
theorem pa3 : pureRun Try.prog (part 9 #[.int .u8 k, .int .u64 a, .int .u64 b, .string c] 3) = some (.string c) := by kernel_rfl
end
theorem eq35 (k a b k' a' b' : Int) (c c' : ByteArray) : pureRun Try.prog (Op.equal 35 (.agg #[.int .u8 k, .int .u64 a, .int .u64 b, .string c]) (.agg #[.int .u8 k', .int .u64 a', .int .u64 b', .string c'])) = some (k == k' && a == a' && b == b' && c == c') := by
  unfold Op.equal Op.maxDepth
  rw [show (10000 : Nat) = 9999 + 1 from rfl]
  rw [Op.equalIn.eq_def]
  simp only [pureRun_bind, pureRun_underlying Try.underlying35, Option.bind_some]
  rw [show (program : Sem Program) = .program .pure from rfl]
  have q0 : ∀ x y, pureRun Try.prog (Op.equalIn 9999 5 (.int .u8 x) (.int .u8 y)) = some (x == y) := fun x y => eqIn_int (d := 9998) Try.underlying5 x y
  have q1 : ∀ x y, pureRun Try.prog (Op.equalIn 9999 33 (.int .u64 x) (.int .u64 y)) = some (x == y) := fun x y => eqIn_int (d := 9998) Try.underlying33 x y
  have q3 : ∀ x y, pureRun Try.prog (Op.equalIn 9999 9 (.string x) (.string y)) = some (x == y) := fun x y => eqIn_str (d := 9998) Try.underlying9 x y
  simp only [pureRun, Option.bind_some, stood35, Bool.false_eq_true, if_false, pureRun_bind, List.forIn_toArray, List.forIn_cons, List.forIn_nil, pa0, pa1, pa2, pa3, q0, q1, q3, ne_eq, String.reduceEq, not_false_eq_true, if_true, pureRun_ite, pureRun_pure]
  cases k == k'
  · simp only [pureRun, Option.bind_some, pureRun_bind, pa0, pa1, pa2, pa3, q0, q1, q3, ne_eq, String.reduceEq, not_false_eq_true, if_true, if_false, pureRun_ite, pureRun_pure, Bool.not_true, Bool.not_false, Bool.false_eq_true, Bool.false_and, Bool.true_and, Bool.and_true, Bool.and_false]
  simp only [pureRun, Option.bind_some, pureRun_bind, pa0, pa1, pa2, pa3, q0, q1, q3, ne_eq, String.reduceEq, not_false_eq_true, if_true, if_false, pureRun_ite, pureRun_pure, Bool.not_true, Bool.not_false, Bool.false_eq_true, Bool.false_and, Bool.true_and, Bool.and_true, Bool.and_false]
  cases a == a'
  · simp only [pureRun, Option.bind_some, pureRun_bind, pa0, pa1, pa2, pa3, q0, q1, q3, ne_eq, String.reduceEq, not_false_eq_true, if_true, if_false, pureRun_ite, pureRun_pure, Bool.not_true, Bool.not_false, Bool.false_eq_true, Bool.false_and, Bool.true_and, Bool.and_true, Bool.and_false]
  simp only [pureRun, Option.bind_some, pureRun_bind, pa0, pa1, pa2, pa3, q0, q1, q3, ne_eq, String.reduceEq, not_false_eq_true, if_true, if_false, pureRun_ite, pureRun_pure, Bool.not_true, Bool.not_false, Bool.false_eq_true, Bool.false_and, Bool.true_and, Bool.and_true, Bool.and_false]
  cases b == b'
  · simp only [pureRun, Option.bind_some, pureRun_bind, pa0, pa1, pa2, pa3, q0, q1, q3, ne_eq, String.reduceEq, not_false_eq_true, if_true, if_false, pureRun_ite, pureRun_pure, Bool.not_true, Bool.not_false, Bool.false_eq_true, Bool.false_and, Bool.true_and, Bool.and_true, Bool.and_false]
  simp only [pureRun, Option.bind_some, pureRun_bind, pa0, pa1, pa2, pa3, q0, q1, q3, ne_eq, String.reduceEq, not_false_eq_true, if_true, if_false, pureRun_ite, pureRun_pure, Bool.not_true, Bool.not_false, Bool.false_eq_true, Bool.false_and, Bool.true_and, Bool.and_true, Bool.and_false]
  cases c == c'
  · simp only [pureRun, Option.bind_some, pureRun_bind, pa0, pa1, pa2, pa3, q0, q1, q3, ne_eq, String.reduceEq, not_false_eq_true, if_true, if_false, pureRun_ite, pureRun_pure, Bool.not_true, Bool.not_false, Bool.false_eq_true, Bool.false_and, Bool.true_and, Bool.and_true, Bool.and_false]
  simp only [pureRun, Option.bind_some, pureRun_bind, pa0, pa1, pa2, pa3, q0, q1, q3, ne_eq, String.reduceEq, not_false_eq_true, if_true, if_false, pureRun_ite, pureRun_pure, Bool.not_true, Bool.not_false, Bool.false_eq_true, Bool.false_and, Bool.true_and, Bool.and_true, Bool.and_false]
theorem beql35 {xo yo : Operand} (k a b k' a' b' : Int) (c c' : ByteArray) : binD Try.prog .eql 35 xo yo (.agg [.sc (.int .u8 k), .sc (.int .u64 a), .sc (.int .u64 b), .sc (.string c)]) (.agg [.sc (.int .u8 k'), .sc (.int .u64 a'), .sc (.int .u64 b'), .sc (.string c')]) = some (.sc (.bool (k == k' && a == a' && b == b' && c == c'))) := by
  have hg : Try.prog.eqGuardType Try.prog.depth 35 = false := by kernel_rfl
  have hv : ∀ (k a b : Int) (c : ByteArray), toVals [D.sc (.int .u8 k), .sc (.int .u64 a), .sc (.int .u64 b), .sc (.string c)] = some [.int .u8 k, .int .u64 a, .int .u64 b, .string c] := fun _ _ _ _ => rfl
  simp only [binD, toVal, toVal1, hv, Option.map_some, pureD, eqGuard, binOp]
  rw [show (program : Sem Program) = .program .pure from rfl]
  simp only [pureRun, pureRun_bind, pureRun_pure, hg, Bool.not_true, Bool.not_false, Bool.false_eq_true, if_false, if_true, pureRun_ite, Option.bind_some, eq35, resD]
theorem bneq35 {xo yo : Operand} (k a b k' a' b' : Int) (c c' : ByteArray) : binD Try.prog .neq 35 xo yo (.agg [.sc (.int .u8 k), .sc (.int .u64 a), .sc (.int .u64 b), .sc (.string c)]) (.agg [.sc (.int .u8 k'), .sc (.int .u64 a'), .sc (.int .u64 b'), .sc (.string c')]) = some (.sc (.bool (!(k == k' && a == a' && b == b' && c == c')))) := by
  have hg : Try.prog.eqGuardType Try.prog.depth 35 = false := by kernel_rfl
  have hv : ∀ (k a b : Int) (c : ByteArray), toVals [D.sc (.int .u8 k), .sc (.int .u64 a), .sc (.int .u64 b), .sc (.string c)] = some [.int .u8 k, .int .u64 a, .int .u64 b, .string c] := fun _ _ _ _ => rfl
  simp only [binD, toVal, toVal1, hv, Option.map_some, pureD, eqGuard, binOp]
  rw [show (program : Sem Program) = .program .pure from rfl]
  simp only [pureRun, pureRun_bind, pureRun_pure, hg, Bool.not_true, Bool.not_false, Bool.false_eq_true, if_false, if_true, pureRun_ite, Option.bind_some, eq35, resD]
attribute [go_sem] beql35 bneq35
end Go.Bw.R1

namespace Go.Bw.R1
set_option maxRecDepth 5000
open Go Go.Bw Go.Proofs
theorem bytes_slice (b : ByteArray) (l h : Nat) : ((bytesD b).take h).drop l = bytesD (b.extract l h) := by
  unfold bytesD
  rw [← List.map_take, ← List.map_drop]
  congr 1
  show _ = (b.extract l h).data.toList
  rw [ByteArray.data_extract, Array.toList_extract]
  simp [List.extract, List.drop_take]
theorem out_refs (l : List Outc) : D.refsL (l.map Outc.d) = [] := refsL_map (fun _ => rfl) l
theorem out_can (l : List Outc) : D.canL (l.map Outc.d) = l.map Outc.d := by rw [D.canL_map, List.map_map]; rfl
theorem bool_refs (l : List Bool) : D.refsL (l.map B) = [] := refsL_map (fun _ => rfl) l
theorem bool_can (l : List Bool) : D.canL (l.map B) = l.map B := by rw [D.canL_map, List.map_map]; rfl
theorem u16_refs (l : List Int) : D.refsL (l.map fun n => D.sc (.int .u16 n)) = [] := refsL_map (fun _ => rfl) l
theorem u16_can (l : List Int) : D.canL (l.map fun n => D.sc (.int .u16 n)) = l.map fun n => D.sc (.int .u16 n) := by rw [D.canL_map, List.map_map]; rfl
def tagB : ByteArray := ⟨#[116, 97, 103]⟩
def o0 : Outc := ⟨0, 0, 0, ⟨#[]⟩⟩
/-- what has been gathered, behind 'i' cuts -/
def xI (b : ByteArray) (at0 : Nat) (w : Outc) (s r : Bool) : InV := ⟨9, tagB, s, r, w, b.extract 0 at0⟩
/-- the transfer -/
def pI (a : Int) (t : ByteArray) (m s r : Bool) (st : Outc) (pl : ByteArray) : Perf := { pe0 with kind := 5, first0 := a, tag := t, more := m, settled := s, resume := r, state := st, payload := pl }
def nextW (w st : Outc) : Outc := if (st.kind != 0) = true then st else w
theorem ext_app (b : ByteArray) (l h : Nat) (h1 : l ≤ h) (h2 : h ≤ b.size) : b.extract 0 l ++ b.extract l h = b.extract 0 h := by
  apply ByteArray.ext
  rw [ByteArray.data_append, ByteArray.data_extract, ByteArray.data_extract, ByteArray.data_extract]
  rw [Array.extract_append_extract, show min 0 l = 0 by omega, show max l h = h by omega]
/-- a transfer that is taken -/
theorem cut_put (o : Bool) (w : Outc) (b : ByteArray) (l h : Nat) (h1 : l ≤ h) (h2 : h ≤ b.size) (hb : b.size ≤ 2000) (a : Int) (t : ByteArray) (m s r s0 r0 : Bool) (st : Outc)
    (hc : (o = false ∧ a = 9 ∧ t = tagB ∧ s0 = false ∧ r0 = false ∧ w = o0 ∧ l = 0) ∨ (o = true ∧ ((a = 9 ∧ t = tagB) ∨ (a = -1 ∧ t = ⟨#[]⟩)))) :
    EV 21 [.ptr 0 0 0, (pI a t m s r st (b.extract l h)).d] [gRow o (if o then xI b l w s0 r0 else in0)] =
      if m = true then some (.ret (.tup [in0.d, I 0]), [gRow true (xI b h (nextW w st) (s0 || s) (r0 || r))]) else some (.ret (.tup [(xI b h (nextW w st) (s0 || s) (r0 || r)).d, I 1]), [some ⟨0, gz⟩]) := by
  have hs1 : (b.extract 0 l).size = l := by rw [ByteArray.size_extract]; omega
  have hs2 : (b.extract l h).size = h - l := by rw [ByteArray.size_extract]; omega
  have ht : takes o (if o then xI b l w s0 r0 else in0) (pI a t m s r st (b.extract l h)) = true := by
    rcases hc with ⟨rfl, rfl, rfl, _⟩ | ⟨rfl, ⟨rfl, rfl⟩ | ⟨rfl, rfl⟩⟩ <;> kernel_rfl
  have e := put_e o (if o then xI b l w s0 r0 else in0) (pI a t m s r st (b.extract l h)) (by cases o <;> simp only [Bool.false_eq_true, if_true, if_false, xI, in0] <;> first | (rw [hs1]; omega) | decide) (by show (b.extract l h).size ≤ _; omega) rfl rfl
  rw [e]
  unfold putE
  rw [ht]
  have n1 : ¬ (!true) = true := by decide
  rw [if_neg n1, if_neg (show ¬ (pI a t m s r st (b.extract l h)).aborted = true from Bool.false_ne_true)]
  have hx : (if o then xI b l w s0 r0 else in0).payload.size = l := by
    rcases hc with ⟨rfl, _, _, _, _, _, rfl⟩ | ⟨rfl, _⟩
    · rfl
    · exact hs1
  rw [if_neg (by simp only [hx, decide_eq_true_eq]; show ¬ (4096 : Int) < l + ((b.extract l h).size : Int); omega)]
  have hj : ∀ st', (⟨9, tagB, s0 || s, r0 || r, st', b.extract 0 l ++ b.extract l h⟩ : InV) = xI b h st' (s0 || s) (r0 || r) := fun st' => by rw [ext_app b l h h1 h2]; rfl
  have hN : joinN (if o then (if o then xI b l w s0 r0 else in0) else opened (if o then xI b l w s0 r0 else in0) (pI a t m s r st (b.extract l h))) (pI a t m s r st (b.extract l h)) = xI b h w (s0 || s) (r0 || r) := by
    rcases hc with ⟨rfl, rfl, rfl, rfl, rfl, rfl, rfl⟩ | ⟨rfl, _⟩
    · rw [← hj]; simp only [joinN, opened, in0, pI, Bool.false_eq_true, if_false, Bool.false_or, o0]
      rw [show IntKind.u32.wrap 9 = 9 by decide, show b.extract 0 0 = ⟨#[]⟩ by apply ByteArray.ext; simp]
    · rw [← hj]; simp only [joinN, xI, pI, if_true]
  have hS : joinS (if o then (if o then xI b l w s0 r0 else in0) else opened (if o then xI b l w s0 r0 else in0) (pI a t m s r st (b.extract l h))) (pI a t m s r st (b.extract l h)) = xI b h st (s0 || s) (r0 || r) := by
    rcases hc with ⟨rfl, rfl, rfl, rfl, rfl, rfl, rfl⟩ | ⟨rfl, _⟩
    · rw [← hj]; simp only [joinS, opened, in0, pI, Bool.false_eq_true, if_false, Bool.false_or]
      rw [show IntKind.u32.wrap 9 = 9 by decide, show b.extract 0 0 = ⟨#[]⟩ by apply ByteArray.ext; simp]
    · rw [← hj]; simp only [joinS, xI, pI, if_true]
  have q1 : (pI a t m s r st (b.extract l h)).state.kind = st.kind := rfl
  have q2 : (pI a t m s r st (b.extract l h)).more = m := rfl
  simp only [hN, hS, q1, q2]
  unfold nextW
  by_cases hk : (st.kind != 0) = true
  · rw [if_pos hk, if_pos hk]
  · rw [if_neg hk, if_neg hk]
end Go.Bw.R1

namespace Go.Bw.R1
set_option maxRecDepth 5000
open Go Go.Bw Go.Proofs
theorem bytes_all1 (b : ByteArray) : ((bytesD b).all fun e => e.cells.length == 1) = true := by
  rw [List.all_eq_true]
  intro e he
  simp only [bytesD, List.mem_map] at he
  obtain ⟨x, _, rfl⟩ := he
  rfl
def CutI (b : ByteArray) (cuts : List Int) (says : List Bool) (se re : Int) (sts : List Outc) (m0 : Nat) (f : Fr) (es : Sto) : Prop := ∃ (i l : Nat) (j a : Int) (w : Outc) (row : List D) (s0 r0 : Bool), j = i ∧ a = l ∧ i + m0 = cuts.length + 1 ∧ i ≤ cuts.length + 1 ∧ l ≤ b.size ∧
  s0 = decide (se.tmod 40 < i) ∧ r0 = decide (re.tmod 40 < i) ∧
  f = [(0, .ro false (bytesD b)), (1, .ro false (cuts.map fun n => .sc (.int .u16 n))), (2, .ro false (says.map B)), (3, .sc (.int .u8 se)), (4, .sc (.int .u8 re)), (5, .ro false (sts.map Outc.d)), (13, .ptr 0 0 0), (14, I a), (15, .ptr 1 0 0), (16, I j)] ∧
  es = [some ⟨0, row⟩, some ⟨0, w.cs⟩] ∧ ((i = 0 ∧ l = 0 ∧ w = o0 ∧ row = gz) ∨ (0 < i ∧ row = gcs true (xI b l w s0 r0)) ∨ i = cuts.length + 1)
theorem tm_next (q : Int) (i : Nat) : (decide (q < i) || (q == (i : Int))) = decide (q < ((i + 1 : Nat) : Int)) := by
  rw [Bool.eq_iff_iff]; simp only [Bool.or_eq_true, decide_eq_true_eq, beq_iff_eq]; omega
set_option maxRecDepth 10000 in
set_option maxHeartbeats 32000000 in
theorem cut_law (b : ByteArray) (cuts : List Int) (hc : ∀ n ∈ cuts, 0 ≤ n ∧ n ≤ 65535) (says : List Bool) (se re : Int) (hse : 0 ≤ se ∧ se ≤ 255) (hre : 0 ≤ re ∧ re ≤ 255) (sts : List Outc) :
    EV 7 [.ro false (bytesD b), .ro false (cuts.map fun n => .sc (.int .u16 n)), .ro false (says.map B), .sc (.int .u8 se), .sc (.int .u8 re), .ro false (sts.map Outc.d)] [] = some (.ret (B true), []) := by
  refine (ev_body ⟨[], [(0, [0, 1, 2, 3, 4, 5, 13, 14, 15, 16]), (2000012, [0, 1, 2, 3, 4, 5, 13, 14, 15, 16, 17, 18])], [(12, [(18, 0, false), (19, 0, false), (20, 0, false), (21, 0, false), (22, 0, false), (23, 0, true), (25, 0, true), (0, 0, false), (1, 0, false), (2, 0, false), (3, 0, false), (4, 0, false), (5, 0, false), (6, 0, false), (7, 0, false), (8, 0, false), (9, 0, false), (10, 0, false), (11, 0, false), (12, 0, false), (13, 0, false), (14, 0, false), (15, 0, false), (16, 0, false), (17, 0, false), (24, 1, false), (26, 0, true)]), (1000012, [(23, 25, false), (18, 0, false), (19, 0, false), (20, 0, false), (21, 0, false), (22, 0, false), (25, 0, true), (23, 0, true), (0, 0, false), (1, 0, false), (2, 0, false), (3, 0, false), (4, 0, false), (5, 0, false), (6, 0, false), (7, 0, false), (8, 0, false), (9, 0, false), (10, 0, false), (11, 0, false), (12, 0, false), (13, 0, false), (14, 0, false), (15, 0, false), (16, 0, false), (17, 0, false), (24, 0, false), (26, 0, true)])], false, [(3000019, [18])], noIt⟩ [.tmp 12] rfl Try.func7 rfl rfl rfl (by kernel_rfl) (by show 6 ≤ 177; decide)).trans ?_
  cases g1 : decide (2000 < (b.size : Int))
  case true => simp +contextual (maxSteps := 10000000) only [↓reduceIte, go_sem, Nat.reduceEqDiff, Nat.reduceAdd, Nat.reduceSub, Nat.reduceMul, Nat.reduceLeDiff, Nat.reduceLT, Nat.reduceBEq, Nat.reduceDiv, Nat.reduceMod, Int.reduceLE, Int.reduceLT, Int.reduceEq, Int.reduceBEq, Int.reduceBNe, Int.reduceAdd, Int.reduceSub, Int.reduceNeg, Int.reduceToNat, Int.reduceMul, Int.reducePow, Nat.reducePow, reduceCtorEq, g1, works_c, out_refs, out_can, bool_refs, bool_can, u16_refs, u16_can]
  cases g2 : decide (20 < (cuts.length : Int))
  case true => simp +contextual (maxSteps := 10000000) only [↓reduceIte, go_sem, Nat.reduceEqDiff, Nat.reduceAdd, Nat.reduceSub, Nat.reduceMul, Nat.reduceLeDiff, Nat.reduceLT, Nat.reduceBEq, Nat.reduceDiv, Nat.reduceMod, Int.reduceLE, Int.reduceLT, Int.reduceEq, Int.reduceBEq, Int.reduceBNe, Int.reduceAdd, Int.reduceSub, Int.reduceNeg, Int.reduceToNat, Int.reduceMul, Int.reducePow, Nat.reducePow, reduceCtorEq, g1, g2, works_c, out_refs, out_can, bool_refs, bool_can, u16_refs, u16_can]
  cases g3 : decide ((says.length : Int) < cuts.length)
  case true => simp +contextual (maxSteps := 10000000) only [↓reduceIte, go_sem, Nat.reduceEqDiff, Nat.reduceAdd, Nat.reduceSub, Nat.reduceMul, Nat.reduceLeDiff, Nat.reduceLT, Nat.reduceBEq, Nat.reduceDiv, Nat.reduceMod, Int.reduceLE, Int.reduceLT, Int.reduceEq, Int.reduceBEq, Int.reduceBNe, Int.reduceAdd, Int.reduceSub, Int.reduceNeg, Int.reduceToNat, Int.reduceMul, Int.reducePow, Nat.reducePow, reduceCtorEq, g1, g2, g3, works_c, out_refs, out_can, bool_refs, bool_can, u16_refs, u16_can]
  have k2 : (cuts.length : Int) ≤ 20 := by have := of_decide_eq_false g2; omega
  have w1 := wrap_i64 (n := (cuts.length : Int) + 1) (by omega) (by omega)
  cases g4 : decide ((sts.length : Int) < cuts.length + 1)
  case true => simp +contextual (maxSteps := 10000000) only [↓reduceIte, go_sem, Nat.reduceEqDiff, Nat.reduceAdd, Nat.reduceSub, Nat.reduceMul, Nat.reduceLeDiff, Nat.reduceLT, Nat.reduceBEq, Nat.reduceDiv, Nat.reduceMod, Int.reduceLE, Int.reduceLT, Int.reduceEq, Int.reduceBEq, Int.reduceBNe, Int.reduceAdd, Int.reduceSub, Int.reduceNeg, Int.reduceToNat, Int.reduceMul, Int.reducePow, Nat.reducePow, reduceCtorEq, g1, g2, g3, g4, w1, works_c, out_refs, out_can, bool_refs, bool_can, u16_refs, u16_can]
  have k1 : b.size ≤ 2000 := by have := of_decide_eq_false g1; omega
  have k3 : cuts.length ≤ says.length := by have := of_decide_eq_false g3; omega
  have k4 : cuts.length + 1 ≤ sts.length := by have := of_decide_eq_false g4; omega
  simp +contextual (maxSteps := 10000000) only [↓reduceIte, go_sem, Nat.reduceEqDiff, Nat.reduceAdd, Nat.reduceSub, Nat.reduceMul, Nat.reduceLeDiff, Nat.reduceLT, Nat.reduceBEq, Nat.reduceDiv, Nat.reduceMod, Int.reduceLE, Int.reduceLT, Int.reduceEq, Int.reduceBEq, Int.reduceBNe, Int.reduceAdd, Int.reduceSub, Int.reduceNeg, Int.reduceToNat, Int.reduceMul, Int.reducePow, Nat.reducePow, reduceCtorEq, g1, g2, g3, g4, w1, works_c, new_c, out_refs, out_can, bool_refs, bool_can, u16_refs, u16_can]
  have q0 : 0 ≤ se.tmod 40 := Int.tmod_nonneg 40 hse.1
  have q1 : 0 ≤ re.tmod 40 := Int.tmod_nonneg 40 hre.1
  refine lpK_inv (CutI b cuts says se re sts) (cuts.length + 1) ⟨0, 0, 0, 0, o0, gz, false, false, rfl, rfl, by omega, by omega, by omega, by simp; omega, by simp; omega, rfl, rfl, .inl ⟨rfl, rfl, rfl, rfl⟩⟩ ?_
  rintro m0 _ _ ⟨i, l, _, _, w, row, s0, r0, rfl, rfl, hm, hi, hl, hs0, hr0, rfl, rfl, hrow⟩ ih
  by_cases hE : i = cuts.length + 1
  · have d1 : decide ((i : Int) ≤ (cuts.length : Int)) = false := by simp; omega
    simp +contextual (maxSteps := 10000000) only [↓reduceIte, go_sem, Nat.reduceEqDiff, Nat.reduceAdd, Nat.reduceSub, Nat.reduceMul, Nat.reduceLeDiff, Nat.reduceLT, Nat.reduceBEq, Nat.reduceDiv, Nat.reduceMod, Int.reduceLE, Int.reduceLT, Int.reduceEq, Int.reduceBEq, Int.reduceBNe, Int.reduceAdd, Int.reduceSub, Int.reduceNeg, Int.reduceToNat, Int.reduceMul, Int.reducePow, Nat.reducePow, reduceCtorEq, d1, works_c, out_refs, out_can, bool_refs, bool_can, u16_refs, u16_can]
  replace hi : i ≤ cuts.length := by omega
  replace hrow : (i = 0 ∧ l = 0 ∧ w = o0 ∧ row = gz) ∨ (0 < i ∧ row = gcs true (xI b l w s0 r0)) := by
    rcases hrow with h | h | h
    · exact .inl h
    · exact .inr h
    · exact absurd h hE
  have d1 : decide ((i : Int) ≤ (cuts.length : Int)) = true := by simp; omega
  obtain ⟨st, hst⟩ := get_lt (l := sts) (i := i) (by omega)
  have j1 : (i : Int) < sts.length := by omega
  have wse := wrap_i64 (n := se) (by omega) (by omega)
  have wre := wrap_i64 (n := re) (by omega) (by omega)
  have win := wrap_i64 (n := (i : Int) + 1) (by omega) (by omega)
  have hall := bytes_all1 b
  obtain ⟨q, hq⟩ : ∃ q, q = (se.tmod 40 == (i : Int)) := ⟨_, rfl⟩
  obtain ⟨p, hp0⟩ : ∃ p, p = (re.tmod 40 == (i : Int)) := ⟨_, rfl⟩
  have hs1 : (s0 || q) = decide (se.tmod 40 < ((i + 1 : Nat) : Int)) := by rw [hs0, hq, tm_next]
  have hr1 : (r0 || p) = decide (re.tmod 40 < ((i + 1 : Nat) : Int)) := by rw [hr0, hp0, tm_next]
  have hbt : ∀ a : ByteArray, (a == a) = true := fun a => by
    cases a with | mk d => show (d == d) = true; exact beq_self_eq_true d

  rcases Nat.lt_or_ge i cuts.length with hlt | hge
  · skip
    obtain ⟨n, hn⟩ := get_lt hlt
    have d2 : decide ((i : Int) < (cuts.length : Int)) = true := by simp; omega
    have j2 : (i : Int) < (cuts.length : Int) := by omega
    have hnb := hc n (List.mem_of_getElem? hn)
    have wn := wrap_i64 (n := n) (by omega) (by omega)
    have t0 : 0 ≤ n.tmod 300 := Int.tmod_nonneg 300 hnb.1
    have t1 : n.tmod 300 < 300 := Int.tmod_lt_of_pos n (by decide)
    have wa := wrap_i64 (n := (l : Int) + n.tmod 300) (by omega) (by omega)
    obtain ⟨h, hh⟩ : ∃ h : Nat, (if (b.size : Int) < (l : Int) + n.tmod 300 then (b.size : Int) else (l : Int) + n.tmod 300) = (h : Int) := by
      split
      · exact ⟨b.size, rfl⟩
      · exact ⟨l + (n.tmod 300).toNat, by omega⟩
    have h1 : l ≤ h ∧ h ≤ b.size := by split at hh <;> omega
    obtain ⟨h1, h2⟩ := h1
    have hsl := bytes_slice b l h
    have hsz : (b.extract l h).size = h - l := by rw [ByteArray.size_extract]; omega
    have big : (b.extract l h).size ≤ 140737488355328 := by omega
    obtain ⟨pl, hpl⟩ : ∃ pl, pl = b.extract l h := ⟨_, rfl⟩
    rw [← hpl] at hsl hsz big
    rcases hrow with ⟨hi0, rfl, rfl, rfl⟩ | ⟨hpos, rfl⟩
    · have e0 : ((i : Int) == 0) = true := by simp; omega
      have z1 : s0 = false := by rw [hs0]; simp; omega
      have z2 : r0 = false := by rw [hr0]; simp; omega
      have hput := cut_put false o0 b 0 h h1 h2 k1 9 tagB true q p s0 r0 st (.inl ⟨rfl, rfl, rfl, z1, z2, rfl, rfl⟩)
      rw [show ((0 : Nat) : Int) = 0 from rfl] at wa hh
      rw [← hpl] at hput
      simp only [if_true, Bool.false_eq_true, if_false, pI, pe0, Perf.d, Perf.cs, gRow, gcs, gz, InV.d, InV.cs, in0, xI, bytesD_nil, o0, tagB] at hput
      by_cases hz : pl.size = 0 <;> cases hk : (st.kind != 0) <;> simp only [nextW, hk, if_true, Bool.false_eq_true, if_false] at hput
      all_goals try rw [bytesD_empty hz] at hput
      all_goals
        simp +contextual (maxSteps := 10000000) only [↓reduceIte, go_sem, Nat.reduceEqDiff, Nat.reduceAdd, Nat.reduceSub, Nat.reduceMul, Nat.reduceLeDiff, Nat.reduceLT, Nat.reduceBEq, Nat.reduceDiv, Nat.reduceMod, Int.reduceLE, Int.reduceLT, Int.reduceEq, Int.reduceBEq, Int.reduceBNe, Int.reduceAdd, Int.reduceSub, Int.reduceNeg, Int.reduceToNat, Int.reduceMul, Int.reducePow, Nat.reducePow, reduceCtorEq, d2, j2, hn, wn, wa, hh, h1, h2, and_self, true_and, Bool.false_and, e0, out_refs, out_can, bool_refs, bool_can, u16_refs, u16_can, wse, wre, ← hq, ← hp0, hst, j1, hall, d1, hsl, hz, big, hput, hk, xI, gcs, gz, InV.cs, o0, tagB, bytesD_nil, bne_self_eq_false, win]
        first | exact ih (m0 - 1) _ _ (by omega) ⟨i + 1, h, (i : Int) + 1, (h : Int), st, _, (s0 || q), (r0 || p), by omega, rfl, by omega, by omega, by omega, hs1, hr1, rfl, rfl, .inr (.inl ⟨by omega, rfl⟩)⟩ | exact ih (m0 - 1) _ _ (by omega) ⟨i + 1, h, (i : Int) + 1, (h : Int), o0, _, (s0 || q), (r0 || p), by omega, rfl, by omega, by omega, by omega, hs1, hr1, rfl, rfl, .inr (.inl ⟨by omega, rfl⟩)⟩
    · have e0 : ((i : Int) == 0) = false := by simp; omega
      have wi := wrap_i64 (n := (i : Int) - 1) (by omega) (by omega)
      obtain ⟨sy, hsy⟩ := get_lt (l := says) (i := i - 1) (by omega)
      have gsy : says[((i : Int) - 1).toNat]? = some sy := by rw [show ((i : Int) - 1).toNat = i - 1 by omega]; exact hsy
      have y0 : 0 ≤ (i : Int) - 1 := by omega
      have y1 : (i : Int) - 1 < says.length := by omega
      cases sy
      · have hput := cut_put true w b l h h1 h2 k1 (-1) ⟨#[]⟩ true q p s0 r0 st (.inr ⟨rfl, .inr ⟨rfl, rfl⟩⟩)
        rw [← hpl] at hput
        simp only [if_true, Bool.false_eq_true, if_false, pI, pe0, Perf.d, Perf.cs, gRow, gcs, gz, InV.d, InV.cs, in0, xI, bytesD_nil, o0, tagB] at hput
        by_cases hz : pl.size = 0 <;> cases hk : (st.kind != 0) <;> simp only [nextW, hk, if_true, Bool.false_eq_true, if_false] at hput
        all_goals try rw [bytesD_empty hz] at hput
        all_goals
          simp +contextual (maxSteps := 10000000) only [↓reduceIte, go_sem, Nat.reduceEqDiff, Nat.reduceAdd, Nat.reduceSub, Nat.reduceMul, Nat.reduceLeDiff, Nat.reduceLT, Nat.reduceBEq, Nat.reduceDiv, Nat.reduceMod, Int.reduceLE, Int.reduceLT, Int.reduceEq, Int.reduceBEq, Int.reduceBNe, Int.reduceAdd, Int.reduceSub, Int.reduceNeg, Int.reduceToNat, Int.reduceMul, Int.reducePow, Nat.reducePow, reduceCtorEq, d2, j2, hn, wn, wa, hh, h1, h2, and_self, true_and, Bool.false_and, e0, wi, gsy, y0, y1, out_refs, out_can, bool_refs, bool_can, u16_refs, u16_can, wse, wre, ← hq, ← hp0, hst, j1, hall, d1, hsl, hz, big, hput, hk, xI, gcs, gz, InV.cs, o0, tagB, bytesD_nil, bne_self_eq_false, win]
          first | exact ih (m0 - 1) _ _ (by omega) ⟨i + 1, h, (i : Int) + 1, (h : Int), st, _, (s0 || q), (r0 || p), by omega, rfl, by omega, by omega, by omega, hs1, hr1, rfl, rfl, .inr (.inl ⟨by omega, rfl⟩)⟩ | exact ih (m0 - 1) _ _ (by omega) ⟨i + 1, h, (i : Int) + 1, (h : Int), w, _, (s0 || q), (r0 || p), by omega, rfl, by omega, by omega, by omega, hs1, hr1, rfl, rfl, .inr (.inl ⟨by omega, rfl⟩)⟩
      · have hput := cut_put true w b l h h1 h2 k1 9 tagB true q p s0 r0 st (.inr ⟨rfl, .inl ⟨rfl, rfl⟩⟩)
        rw [← hpl] at hput
        simp only [if_true, Bool.false_eq_true, if_false, pI, pe0, Perf.d, Perf.cs, gRow, gcs, gz, InV.d, InV.cs, in0, xI, bytesD_nil, o0, tagB] at hput
        by_cases hz : pl.size = 0 <;> cases hk : (st.kind != 0) <;> simp only [nextW, hk, if_true, Bool.false_eq_true, if_false] at hput
        all_goals try rw [bytesD_empty hz] at hput
        all_goals
          simp +contextual (maxSteps := 10000000) only [↓reduceIte, go_sem, Nat.reduceEqDiff, Nat.reduceAdd, Nat.reduceSub, Nat.reduceMul, Nat.reduceLeDiff, Nat.reduceLT, Nat.reduceBEq, Nat.reduceDiv, Nat.reduceMod, Int.reduceLE, Int.reduceLT, Int.reduceEq, Int.reduceBEq, Int.reduceBNe, Int.reduceAdd, Int.reduceSub, Int.reduceNeg, Int.reduceToNat, Int.reduceMul, Int.reducePow, Nat.reducePow, reduceCtorEq, d2, j2, hn, wn, wa, hh, h1, h2, and_self, true_and, Bool.false_and, e0, wi, gsy, y0, y1, out_refs, out_can, bool_refs, bool_can, u16_refs, u16_can, wse, wre, ← hq, ← hp0, hst, j1, hall, d1, hsl, hz, big, hput, hk, xI, gcs, gz, InV.cs, o0, tagB, bytesD_nil, bne_self_eq_false, win]
          first | exact ih (m0 - 1) _ _ (by omega) ⟨i + 1, h, (i : Int) + 1, (h : Int), st, _, (s0 || q), (r0 || p), by omega, rfl, by omega, by omega, by omega, hs1, hr1, rfl, rfl, .inr (.inl ⟨by omega, rfl⟩)⟩ | exact ih (m0 - 1) _ _ (by omega) ⟨i + 1, h, (i : Int) + 1, (h : Int), w, _, (s0 || q), (r0 || p), by omega, rfl, by omega, by omega, by omega, hs1, hr1, rfl, rfl, .inr (.inl ⟨by omega, rfl⟩)⟩
  · skip
    have d2 : decide ((i : Int) < (cuts.length : Int)) = false := by simp; omega
    have hi2 : i = cuts.length := by omega
    obtain ⟨h, hh⟩ : ∃ h, h = b.size := ⟨_, rfl⟩
    have h1 : l ≤ h ∧ h ≤ b.size := by omega
    have hext : b.extract 0 b.size = b := by simp
    have s2 : (s0 || q) = decide (se.tmod 40 ≤ (cuts.length : Int)) := by rw [hs1, decide_eq_decide]; omega
    have r2 : (r0 || p) = decide (re.tmod 40 ≤ (cuts.length : Int)) := by rw [hr1, decide_eq_decide]; omega
    obtain ⟨h1, h2⟩ := h1
    have hsl := bytes_slice b l h
    have hsz : (b.extract l h).size = h - l := by rw [ByteArray.size_extract]; omega
    rw [hh] at hsl hsz h1 h2
    have big : (b.extract l b.size).size ≤ 140737488355328 := by omega
    obtain ⟨pl, hpl⟩ : ∃ pl, pl = b.extract l b.size := ⟨_, rfl⟩
    rw [← hpl] at hsl hsz big
    rcases hrow with ⟨hi0, rfl, rfl, rfl⟩ | ⟨hpos, rfl⟩
    · have e0 : ((i : Int) == 0) = true := by simp; omega
      have z1 : s0 = false := by rw [hs0]; simp; omega
      have z2 : r0 = false := by rw [hr0]; simp; omega
      have hput := cut_put false o0 b 0 b.size h1 h2 k1 9 tagB false q p s0 r0 st (.inl ⟨rfl, rfl, rfl, z1, z2, rfl, rfl⟩)
      rw [← hpl] at hput
      simp only [if_true, Bool.false_eq_true, if_false, pI, pe0, Perf.d, Perf.cs, gRow, gcs, gz, InV.d, InV.cs, in0, xI, bytesD_nil, o0, tagB] at hput
      by_cases hz : pl.size = 0 <;> cases hk : (st.kind != 0) <;> simp only [nextW, hk, if_true, Bool.false_eq_true, if_false] at hput
      all_goals try rw [bytesD_empty hz] at hput
      all_goals
        simp +contextual (maxSteps := 10000000) only [↓reduceIte, go_sem, Nat.reduceEqDiff, Nat.reduceAdd, Nat.reduceSub, Nat.reduceMul, Nat.reduceLeDiff, Nat.reduceLT, Nat.reduceBEq, Nat.reduceDiv, Nat.reduceMod, Int.reduceLE, Int.reduceLT, Int.reduceEq, Int.reduceBEq, Int.reduceBNe, Int.reduceAdd, Int.reduceSub, Int.reduceNeg, Int.reduceToNat, Int.reduceMul, Int.reducePow, Nat.reducePow, reduceCtorEq, d2, h1, h2, Nat.le_refl, and_self, true_and, Bool.false_and, e0, out_refs, out_can, bool_refs, bool_can, u16_refs, u16_can, wse, wre, ← hq, ← hp0, hst, j1, hall, d1, hsl, hz, big, hput, hk, xI, gcs, gz, InV.cs, o0, tagB, bytesD_nil, bne_self_eq_false, beq_self_eq_true, hbt, win, works_c, hext, s2, r2, Bool.and_self, Bool.not_true, Bool.or_self]
        first | exact ih (m0 - 1) _ _ (by omega) ⟨i + 1, b.size, (i : Int) + 1, _, st, _, (s0 || q), (r0 || p), by omega, rfl, by omega, by omega, Nat.le_refl _, hs1, hr1, rfl, rfl, .inr (.inr (by omega))⟩ | exact ih (m0 - 1) _ _ (by omega) ⟨i + 1, b.size, (i : Int) + 1, _, o0, _, (s0 || q), (r0 || p), by omega, rfl, by omega, by omega, Nat.le_refl _, hs1, hr1, rfl, rfl, .inr (.inr (by omega))⟩
    · have e0 : ((i : Int) == 0) = false := by simp; omega
      have wi := wrap_i64 (n := (i : Int) - 1) (by omega) (by omega)
      obtain ⟨sy, hsy⟩ := get_lt (l := says) (i := i - 1) (by omega)
      have gsy : says[((i : Int) - 1).toNat]? = some sy := by rw [show ((i : Int) - 1).toNat = i - 1 by omega]; exact hsy
      have y0 : 0 ≤ (i : Int) - 1 := by omega
      have y1 : (i : Int) - 1 < says.length := by omega
      cases sy
      · have hput := cut_put true w b l b.size h1 h2 k1 (-1) ⟨#[]⟩ false q p s0 r0 st (.inr ⟨rfl, .inr ⟨rfl, rfl⟩⟩)
        rw [← hpl] at hput
        simp only [if_true, Bool.false_eq_true, if_false, pI, pe0, Perf.d, Perf.cs, gRow, gcs, gz, InV.d, InV.cs, in0, xI, bytesD_nil, o0, tagB] at hput
        by_cases hz : pl.size = 0 <;> cases hk : (st.kind != 0) <;> simp only [nextW, hk, if_true, Bool.false_eq_true, if_false] at hput
        all_goals try rw [bytesD_empty hz] at hput
        all_goals
          simp +contextual (maxSteps := 10000000) only [↓reduceIte, go_sem, Nat.reduceEqDiff, Nat.reduceAdd, Nat.reduceSub, Nat.reduceMul, Nat.reduceLeDiff, Nat.reduceLT, Nat.reduceBEq, Nat.reduceDiv, Nat.reduceMod, Int.reduceLE, Int.reduceLT, Int.reduceEq, Int.reduceBEq, Int.reduceBNe, Int.reduceAdd, Int.reduceSub, Int.reduceNeg, Int.reduceToNat, Int.reduceMul, Int.reducePow, Nat.reducePow, reduceCtorEq, d2, h1, h2, Nat.le_refl, and_self, true_and, Bool.false_and, e0, wi, gsy, y0, y1, out_refs, out_can, bool_refs, bool_can, u16_refs, u16_can, wse, wre, ← hq, ← hp0, hst, j1, hall, d1, hsl, hz, big, hput, hk, xI, gcs, gz, InV.cs, o0, tagB, bytesD_nil, bne_self_eq_false, beq_self_eq_true, hbt, win, works_c, hext, s2, r2, Bool.and_self, Bool.not_true, Bool.or_self]
          first | exact ih (m0 - 1) _ _ (by omega) ⟨i + 1, b.size, (i : Int) + 1, _, st, _, (s0 || q), (r0 || p), by omega, rfl, by omega, by omega, Nat.le_refl _, hs1, hr1, rfl, rfl, .inr (.inr (by omega))⟩ | exact ih (m0 - 1) _ _ (by omega) ⟨i + 1, b.size, (i : Int) + 1, _, w, _, (s0 || q), (r0 || p), by omega, rfl, by omega, by omega, Nat.le_refl _, hs1, hr1, rfl, rfl, .inr (.inr (by omega))⟩
      · have hput := cut_put true w b l b.size h1 h2 k1 9 tagB false q p s0 r0 st (.inr ⟨rfl, .inl ⟨rfl, rfl⟩⟩)
        rw [← hpl] at hput
        simp only [if_true, Bool.false_eq_true, if_false, pI, pe0, Perf.d, Perf.cs, gRow, gcs, gz, InV.d, InV.cs, in0, xI, bytesD_nil, o0, tagB] at hput
        by_cases hz : pl.size = 0 <;> cases hk : (st.kind != 0) <;> simp only [nextW, hk, if_true, Bool.false_eq_true, if_false] at hput
        all_goals try rw [bytesD_empty hz] at hput
        all_goals
          simp +contextual (maxSteps := 10000000) only [↓reduceIte, go_sem, Nat.reduceEqDiff, Nat.reduceAdd, Nat.reduceSub, Nat.reduceMul, Nat.reduceLeDiff, Nat.reduceLT, Nat.reduceBEq, Nat.reduceDiv, Nat.reduceMod, Int.reduceLE, Int.reduceLT, Int.reduceEq, Int.reduceBEq, Int.reduceBNe, Int.reduceAdd, Int.reduceSub, Int.reduceNeg, Int.reduceToNat, Int.reduceMul, Int.reducePow, Nat.reducePow, reduceCtorEq, d2, h1, h2, Nat.le_refl, and_self, true_and, Bool.false_and, e0, wi, gsy, y0, y1, out_refs, out_can, bool_refs, bool_can, u16_refs, u16_can, wse, wre, ← hq, ← hp0, hst, j1, hall, d1, hsl, hz, big, hput, hk, xI, gcs, gz, InV.cs, o0, tagB, bytesD_nil, bne_self_eq_false, beq_self_eq_true, hbt, win, works_c, hext, s2, r2, Bool.and_self, Bool.not_true, Bool.or_self]
          first | exact ih (m0 - 1) _ _ (by omega) ⟨i + 1, b.size, (i : Int) + 1, _, st, _, (s0 || q), (r0 || p), by omega, rfl, by omega, by omega, Nat.le_refl _, hs1, hr1, rfl, rfl, .inr (.inr (by omega))⟩ | exact ih (m0 - 1) _ _ (by omega) ⟨i + 1, b.size, (i : Int) + 1, _, w, _, (s0 || q), (r0 || p), by omega, rfl, by omega, by omega, Nat.le_refl _, hs1, hr1, rfl, rfl, .inr (.inr (by omega))⟩
end Go.Bw.R1
