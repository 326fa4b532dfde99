/- What the functions answer. -/
import Derived.Test.YtffifncopceefaaGreatDoorEval2
import Derived.Test.YtffifncopceefaaGreatDoorProg
import Ieee.Arith
import Derived.RangeFuncBox
import Derived.RangeFuncLeaves
import Derived.Shelf.Abstract
import Derived.WalkKit
import Derived.OwnWalkIn
import Derived.TacticsInMore
import Derived.LoopNIn
import Derived.LoopIn
import Derived.BigFrameIn
import Derived.RangeFuncCalls
import Derived.BigRegionIn
import Derived.Stop.RegionWithIn
import Derived.Test.YtffifncopceefaaGreatDoorCards
import Derived.ProofKit
import Derived.OpenShut
import Derived.Deep.DeepHandedRow
set_option linter.unusedSimpArgs false
set_option linter.unusedVariables false
/- Facts on the seat's types. -/
namespace Go.Bw.R1
open Go Go.Bw Go.Proofs
theorem bytes_free (ex : Bool) (s : ByteArray) : (D.ro ex (bytesD s)).free := .ro (by rw [bytesD_cells]; intro d hd; simp only [bytesD, List.mem_map] at hd; obtain ⟨_, _, rfl⟩ := hd; exact .sc)
theorem ag112 : aggB Tryz.prog 112 = some true := by kernel_rfl
theorem ag116 : aggB Tryz.prog 116 = some false := by kernel_rfl
theorem ag134 : aggB Tryz.prog 134 = some true := by kernel_rfl
theorem ag141 : aggB Tryz.prog 141 = some true := by kernel_rfl
theorem ag159 : aggB Tryz.prog 159 = some true := by kernel_rfl
theorem ag22 : aggB Tryz.prog 22 = some false := by kernel_rfl
theorem ag23 : aggB Tryz.prog 23 = some false := by kernel_rfl
theorem ag25 : aggB Tryz.prog 25 = some true := by kernel_rfl
theorem ag29 : aggB Tryz.prog 29 = some false := by kernel_rfl
theorem ag3 : aggB Tryz.prog 3 = some false := by kernel_rfl
theorem ag4 : aggB Tryz.prog 4 = some false := by kernel_rfl
theorem ag43 : aggB Tryz.prog 43 = some false := by kernel_rfl
theorem ag44 : aggB Tryz.prog 44 = some false := by kernel_rfl
theorem ag46 : aggB Tryz.prog 46 = some true := by kernel_rfl
theorem ag5 : aggB Tryz.prog 5 = some false := by kernel_rfl
theorem ag58 : aggB Tryz.prog 58 = some false := by kernel_rfl
theorem ag74 : aggB Tryz.prog 74 = some false := by kernel_rfl
theorem ag76 : aggB Tryz.prog 76 = some true := by kernel_rfl
theorem ag80 : aggB Tryz.prog 80 = some true := by kernel_rfl
theorem ag89 : aggB Tryz.prog 89 = some true := by kernel_rfl
theorem ag9 : aggB Tryz.prog 9 = some false := by kernel_rfl
theorem ar112 : arOf Tryz.prog 112 = some (6, 3, 1) := by kernel_rfl
theorem ar89 : arOf Tryz.prog 89 = some (9, 9, 1) := by kernel_rfl
theorem by22 : Program.bytesOf Tryz.prog 22 = 4 := by kernel_rfl
theorem by46 : Program.bytesOf Tryz.prog 46 = 56 := by kernel_rfl
theorem by5 : Program.bytesOf Tryz.prog 5 = 1 := by kernel_rfl
theorem el130 : elOf Tryz.prog 130 = some (3, 1) := by kernel_rfl
theorem el138 : elOf Tryz.prog 138 = some (141, 2) := by kernel_rfl
theorem el23 : elOf Tryz.prog 23 = some (5, 1) := by kernel_rfl
theorem el34 : elOf Tryz.prog 34 = some (23, 1) := by kernel_rfl
theorem el44 : elOf Tryz.prog 44 = some (46, 4) := by kernel_rfl
theorem el82 : elOf Tryz.prog 82 = some (22, 1) := by kernel_rfl
theorem el88 : elOf Tryz.prog 88 = some (9, 1) := by kernel_rfl
theorem fd46_3 : fldD Tryz.prog 46 3 = some (3, 1, false) := by kernel_rfl
theorem fd80_1 : fldD Tryz.prog 80 1 = some (1, 1, false) := by kernel_rfl
theorem fk112 : fieldsOk Tryz.prog 112 = true := by kernel_rfl
theorem fk134 : fieldsOk Tryz.prog 134 = true := by kernel_rfl
theorem fk141 : fieldsOk Tryz.prog 141 = true := by kernel_rfl
theorem fk159 : fieldsOk Tryz.prog 159 = true := by kernel_rfl
theorem fk25 : fieldsOk Tryz.prog 25 = true := by kernel_rfl
theorem fk46 : fieldsOk Tryz.prog 46 = true := by kernel_rfl
theorem fk76 : fieldsOk Tryz.prog 76 = true := by kernel_rfl
theorem fk89 : fieldsOk Tryz.prog 89 = true := by kernel_rfl
theorem fo134_0 : fldOff Tryz.prog 134 0 = some 0 := by kernel_rfl
theorem fo134_1 : fldOff Tryz.prog 134 1 = some 1 := by kernel_rfl
theorem fo141_0 : fldOff Tryz.prog 141 0 = some 0 := by kernel_rfl
theorem fo141_1 : fldOff Tryz.prog 141 1 = some 1 := by kernel_rfl
theorem fo159_0 : fldOff Tryz.prog 159 0 = some 0 := by kernel_rfl
theorem fo159_1 : fldOff Tryz.prog 159 1 = some 1 := by kernel_rfl
theorem fo25_0 : fldOff Tryz.prog 25 0 = some 0 := by kernel_rfl
theorem fo25_1 : fldOff Tryz.prog 25 1 = some 1 := by kernel_rfl
theorem fo25_2 : fldOff Tryz.prog 25 2 = some 2 := by kernel_rfl
theorem fo25_3 : fldOff Tryz.prog 25 3 = some 3 := by kernel_rfl
theorem fo25_4 : fldOff Tryz.prog 25 4 = some 4 := by kernel_rfl
theorem fo42_0 : fldOff Tryz.prog 42 0 = some 0 := by kernel_rfl
theorem fo42_1 : fldOff Tryz.prog 42 1 = some 1 := by kernel_rfl
theorem fo42_2 : fldOff Tryz.prog 42 2 = some 2 := by kernel_rfl
theorem fo46_0 : fldOff Tryz.prog 46 0 = some 0 := by kernel_rfl
theorem fo46_1 : fldOff Tryz.prog 46 1 = some 1 := by kernel_rfl
theorem fo46_2 : fldOff Tryz.prog 46 2 = some 2 := by kernel_rfl
theorem fo46_3 : fldOff Tryz.prog 46 3 = some 3 := by kernel_rfl
theorem fo54_0 : fldOff Tryz.prog 54 0 = some 0 := by kernel_rfl
theorem fo54_1 : fldOff Tryz.prog 54 1 = some 1 := by kernel_rfl
theorem fo54_2 : fldOff Tryz.prog 54 2 = some 2 := by kernel_rfl
theorem fo54_3 : fldOff Tryz.prog 54 3 = some 3 := by kernel_rfl
theorem fo54_4 : fldOff Tryz.prog 54 4 = some 4 := by kernel_rfl
theorem fo76_0 : fldOff Tryz.prog 76 0 = some 0 := by kernel_rfl
theorem fo76_1 : fldOff Tryz.prog 76 1 = some 1 := by kernel_rfl
theorem fo80_0 : fldOff Tryz.prog 80 0 = some 0 := by kernel_rfl
theorem fo80_1 : fldOff Tryz.prog 80 1 = some 1 := by kernel_rfl
theorem ii23 : isInt Tryz.prog 23 = false := by kernel_rfl
theorem ii44 : isInt Tryz.prog 44 = false := by kernel_rfl
theorem ii82 : isInt Tryz.prog 82 = false := by kernel_rfl
theorem ii9 : isInt Tryz.prog 9 = false := by kernel_rfl
theorem ni29 : nonIface Tryz.prog 29 = true := by kernel_rfl
theorem pl112_0 : placesD Tryz.prog 112 0 = some (0, 1) := by kernel_rfl
theorem pl112_1 : placesD Tryz.prog 112 1 = some (1, 1) := by kernel_rfl
theorem pl112_2 : placesD Tryz.prog 112 2 = some (2, 1) := by kernel_rfl
theorem pl112_3 : placesD Tryz.prog 112 3 = some (3, 1) := by kernel_rfl
theorem pl112_4 : placesD Tryz.prog 112 4 = some (4, 1) := by kernel_rfl
theorem pl112_5 : placesD Tryz.prog 112 5 = some (5, 1) := by kernel_rfl
theorem pl134_0 : placesD Tryz.prog 134 0 = some (0, 1) := by kernel_rfl
theorem pl141_0 : placesD Tryz.prog 141 0 = some (0, 1) := by kernel_rfl
theorem pl141_1 : placesD Tryz.prog 141 1 = some (1, 1) := by kernel_rfl
theorem pl159_0 : placesD Tryz.prog 159 0 = some (0, 1) := by kernel_rfl
theorem pl25_0 : placesD Tryz.prog 25 0 = some (0, 1) := by kernel_rfl
theorem pl25_1 : placesD Tryz.prog 25 1 = some (1, 1) := by kernel_rfl
theorem pl25_2 : placesD Tryz.prog 25 2 = some (2, 1) := by kernel_rfl
theorem pl25_3 : placesD Tryz.prog 25 3 = some (3, 1) := by kernel_rfl
theorem pl25_4 : placesD Tryz.prog 25 4 = some (4, 1) := by kernel_rfl
theorem pl46_0 : placesD Tryz.prog 46 0 = some (0, 1) := by kernel_rfl
theorem pl46_1 : placesD Tryz.prog 46 1 = some (1, 1) := by kernel_rfl
theorem pl46_2 : placesD Tryz.prog 46 2 = some (2, 1) := by kernel_rfl
theorem pl46_3 : placesD Tryz.prog 46 3 = some (3, 1) := by kernel_rfl
theorem pl76_0 : placesD Tryz.prog 76 0 = some (0, 1) := by kernel_rfl
theorem pl89_0 : placesD Tryz.prog 89 0 = some (0, 1) := by kernel_rfl
theorem pl89_1 : placesD Tryz.prog 89 1 = some (1, 1) := by kernel_rfl
theorem pl89_2 : placesD Tryz.prog 89 2 = some (2, 1) := by kernel_rfl
theorem pl89_3 : placesD Tryz.prog 89 3 = some (3, 1) := by kernel_rfl
theorem pl89_4 : placesD Tryz.prog 89 4 = some (4, 1) := by kernel_rfl
theorem pl89_5 : placesD Tryz.prog 89 5 = some (5, 1) := by kernel_rfl
theorem pl89_6 : placesD Tryz.prog 89 6 = some (6, 1) := by kernel_rfl
theorem pl89_7 : placesD Tryz.prog 89 7 = some (7, 1) := by kernel_rfl
theorem pl89_8 : placesD Tryz.prog 89 8 = some (8, 1) := by kernel_rfl
theorem st23 : isStr Tryz.prog 23 = false := by kernel_rfl
theorem st9 : isStr Tryz.prog 9 = true := by kernel_rfl
theorem sz116 : szOf Tryz.prog 116 = some 1 := by kernel_rfl
theorem sz141 : szOf Tryz.prog 141 = some 2 := by kernel_rfl
theorem sz22 : szOf Tryz.prog 22 = some 1 := by kernel_rfl
theorem sz23 : szOf Tryz.prog 23 = some 1 := by kernel_rfl
theorem sz25 : szOf Tryz.prog 25 = some 5 := by kernel_rfl
theorem sz29 : szOf Tryz.prog 29 = some 1 := by kernel_rfl
theorem sz3 : szOf Tryz.prog 3 = some 1 := by kernel_rfl
theorem sz4 : szOf Tryz.prog 4 = some 1 := by kernel_rfl
theorem sz43 : szOf Tryz.prog 43 = some 1 := by kernel_rfl
theorem sz44 : szOf Tryz.prog 44 = some 1 := by kernel_rfl
theorem sz46 : szOf Tryz.prog 46 = some 4 := by kernel_rfl
theorem sz5 : szOf Tryz.prog 5 = some 1 := by kernel_rfl
theorem sz58 : szOf Tryz.prog 58 = some 1 := by kernel_rfl
theorem sz74 : szOf Tryz.prog 74 = some 1 := by kernel_rfl
theorem sz80 : szOf Tryz.prog 80 = some 2 := by kernel_rfl
theorem sz89 : szOf Tryz.prog 89 = some 9 := by kernel_rfl
theorem sz9 : szOf Tryz.prog 9 = some 1 := by kernel_rfl
theorem u8_5 : isU8 Tryz.prog 5 = true := by kernel_rfl
theorem ze112 : zeroD Tryz.prog 112 = some [.sc (.int .i64 0), .sc (.int .i64 0), .sc (.int .i64 0), .sc (.int .i64 0), .sc (.int .i64 0), .sc (.int .i64 0)] := by kernel_rfl
theorem ze134 : zeroD Tryz.prog 134 = some [.nils, .sc (.bool false)] := by kernel_rfl
theorem ze141 : zeroD Tryz.prog 141 = some [.sc (.int .u8 0), .nilfn] := by kernel_rfl
theorem ze159 : zeroD Tryz.prog 159 = some [.nils, .sc (.bool false)] := by kernel_rfl
theorem ze22 : zeroD Tryz.prog 22 = some [.sc (.int .u32 0)] := by kernel_rfl
theorem ze23 : zeroD Tryz.prog 23 = some [.nils] := by kernel_rfl
theorem ze25 : zeroD Tryz.prog 25 = some [.sc (.int .u8 0), .sc (.int .u32 0), .sc (.int .u32 0), .sc (.string ⟨#[]⟩), .nils] := by kernel_rfl
theorem ze29 : zeroD Tryz.prog 29 = some [.sc (.int .i64 0)] := by kernel_rfl
theorem ze3 : zeroD Tryz.prog 3 = some [.sc (.int .i64 0)] := by kernel_rfl
theorem ze4 : zeroD Tryz.prog 4 = some [.sc (.bool false)] := by kernel_rfl
theorem ze44 : zeroD Tryz.prog 44 = some [.nils] := by kernel_rfl
theorem ze46 : zeroD Tryz.prog 46 = some [.sc (.int .u8 0), .sc (.int .u64 0), .sc (.string ⟨#[]⟩), .nils] := by kernel_rfl
theorem ze5 : zeroD Tryz.prog 5 = some [.sc (.int .u8 0)] := by kernel_rfl
theorem ze74 : zeroD Tryz.prog 74 = some [.nilp] := by kernel_rfl
theorem ze76 : zeroD Tryz.prog 76 = some [.nils, .sc (.int .i64 0)] := by kernel_rfl
theorem ze80 : zeroD Tryz.prog 80 = some [.nils, .sc (.int .u8 0)] := by kernel_rfl
theorem ze89 : zeroD Tryz.prog 89 = some [.sc (.string ⟨#[]⟩), .sc (.string ⟨#[]⟩), .sc (.string ⟨#[]⟩), .sc (.string ⟨#[]⟩), .sc (.string ⟨#[]⟩), .sc (.string ⟨#[]⟩), .sc (.string ⟨#[]⟩), .sc (.string ⟨#[]⟩), .sc (.string ⟨#[]⟩)] := by kernel_rfl
theorem ze9 : zeroD Tryz.prog 9 = some [.sc (.string ⟨#[]⟩)] := by kernel_rfl
theorem zs29 : zeroShape Tryz.prog 29 = true := by kernel_rfl
attribute [go_sem] ag112 ag116 ag134 ag141 ag159 ag22 ag23 ag25 ag29 ag3 ag4 ag43 ag44 ag46 ag5 ag58 ag74 ag76 ag80 ag89 ag9 ar112 ar89 by22 by46 by5 el130 el138 el23 el34 el44 el82 el88 fd46_3 fd80_1 fk112 fk134 fk141 fk159 fk25 fk46 fk76 fk89 fo134_0 fo134_1 fo141_0 fo141_1 fo159_0 fo159_1 fo25_0 fo25_1 fo25_2 fo25_3 fo25_4 fo42_0 fo42_1 fo42_2 fo46_0 fo46_1 fo46_2 fo46_3 fo54_0 fo54_1 fo54_2 fo54_3 fo54_4 fo76_0 fo76_1 fo80_0 fo80_1 ii23 ii44 ii82 ii9 ni29 pl112_0 pl112_1 pl112_2 pl112_3 pl112_4 pl112_5 pl134_0 pl141_0 pl141_1 pl159_0 pl25_0 pl25_1 pl25_2 pl25_3 pl25_4 pl46_0 pl46_1 pl46_2 pl46_3 pl76_0 pl89_0 pl89_1 pl89_2 pl89_3 pl89_4 pl89_5 pl89_6 pl89_7 pl89_8 st23 st9 sz116 sz141 sz22 sz23 sz25 sz29 sz3 sz4 sz43 sz44 sz46 sz5 sz58 sz74 sz80 sz89 sz9 u8_5 Tryz.underlying112 Tryz.underlying113 Tryz.underlying124 Tryz.underlying130 Tryz.underlying138 Tryz.underlying166 Tryz.underlying176 Tryz.underlying177 Tryz.underlying182 Tryz.underlying2 Tryz.underlying22 Tryz.underlying23 Tryz.underlying29 Tryz.underlying3 Tryz.underlying34 Tryz.underlying4 Tryz.underlying43 Tryz.underlying44 Tryz.underlying5 Tryz.underlying60 Tryz.underlying82 Tryz.underlying88 Tryz.underlying89 Tryz.underlying9 ze112 ze134 ze141 ze159 ze22 ze23 ze25 ze29 ze3 ze4 ze44 ze46 ze5 ze74 ze76 ze80 ze89 ze9 zs29
structure MsgG where
  priority : Int
  ttl : Int
  count : Int
  id : ByteArray
  body : ByteArray

def MsgG.cs (x : MsgG) : List D := [.sc (.int .u8 x.priority), .sc (.int .u32 x.ttl), .sc (.int .u32 x.count), .sc (.string x.id), .ro false (bytesD x.body)]
def MsgG.d (x : MsgG) : D := .agg x.cs
structure MsgG.ok (x : MsgG) : Prop where
  priority : 0 ≤ x.priority ∧ x.priority ≤ 255
  ttl : 0 ≤ x.ttl ∧ x.ttl ≤ 4294967295
  count : 0 ≤ x.count ∧ x.count ≤ 4294967295
  id : x.id.size ≤ 9223372036854775807

theorem MsgG.fr {x : MsgG} : ∀ d ∈ x.cs, d.free := by
  intro d hd
  simp only [MsgG.cs, List.mem_cons, List.not_mem_nil, or_false] at hd
  rcases hd with rfl | rfl | rfl | rfl | rfl
  · exact .sc
  · exact .sc
  · exact .sc
  · exact .sc
  · exact bytes_free _ _
theorem MsgG.free {x : MsgG} : x.d.free := .agg (MsgG.fr)

theorem MsgG.of_rd {cs : List D} (h : Rd Tryz.prog 25 cs) : ∃ x : MsgG, x.ok ∧ WkL cs x.cs := by
  have h := Rd.fields Tryz.underlying25 h
  obtain ⟨a0, b0, rfl, h0, h⟩ := h
  obtain ⟨a1, b1, rfl, h1, h⟩ := h
  obtain ⟨a2, b2, rfl, h2, h⟩ := h
  obtain ⟨a3, b3, rfl, h3, h⟩ := h
  obtain ⟨a4, b4, rfl, h4, h⟩ := h
  have h : _ = _ := h
  subst h
  obtain ⟨x0, rfl, k0⟩ := h0.int_inv Tryz.underlying5
  obtain ⟨x1, rfl, k1⟩ := h1.int_inv Tryz.underlying22
  obtain ⟨x2, rfl, k2⟩ := h2.int_inv Tryz.underlying22
  obtain ⟨x3, rfl, k3⟩ := h3.str_inv Tryz.underlying9
  obtain ⟨x4, w4⟩ := h4.bytes_inv Tryz.underlying23 Tryz.underlying5
  refine ⟨⟨x0, x1, x2, x3, x4⟩, ⟨k0, k1, k2, k3⟩, ?_⟩
  exact (WkL.append (.refl _) (WkL.append (.refl _) (WkL.append (.refl _) (WkL.append (.refl _) (WkL.append w4 .nil)))))

theorem MsgG.of_arg {d : D} (h : Arg Tryz.prog 25 d) : ∃ x : MsgG, x.ok ∧ Wk d x.d := Arg.agg (by kernel_rfl) MsgG.ok MsgG.cs (fun _ hd => MsgG.of_rd hd) h

attribute [go_sem] MsgG.cs MsgG.d
end Go.Bw.R1

/- Own: the two tables of codes and kinds, as maps that nobody writes. -/
namespace Go.Bw
open Go
def e0 : ByteArray := ⟨#[]⟩
def tabS : List (Int × Int) → Int → Int
  | [], _ => 0
  | (a, b) :: r, k => if a = k then b else tabS r k
def tabK (l : List (Int × Int)) : List D := l.map fun p => .sc (.int .u8 p.1)
def tabV (l : List (Int × Int)) : List D := l.map fun p => .sc (.int .u8 p.2)
def codesTab : List (Int × Int) := [(1, 64), (3, 80), (4, 96), (7, 81), (8, 97), (11, 114), (12, 130), (13, 115), (14, 131), (15, 152), (16, 116), (17, 132), (18, 148)]
def kindsTab : List (Int × Int) := [(64, 1), (65, 2), (66, 2), (67, 5), (68, 6), (69, 22), (80, 3), (81, 7), (82, 5), (83, 6), (84, 9), (85, 10), (86, 2), (96, 4), (97, 8), (112, 5), (113, 9), (114, 11), (115, 13), (116, 16), (128, 6), (129, 10), (130, 12), (131, 14), (132, 17), (148, 18), (152, 15), (160, 19), (161, 20), (163, 21), (176, 19), (177, 20), (179, 21), (192, 22), (193, 23), (208, 22), (209, 23), (224, 24), (240, 24)]
def codesD : D := .mp (tabK codesTab) (tabV codesTab)
def kindsD : D := .mp (tabK kindsTab) (tabV kindsTab)
theorem tabK_refs (l : List (Int × Int)) : D.refsL (tabK l) = [] := refsL_map (fun _ => rfl) l
theorem tabV_refs (l : List (Int × Int)) : D.refsL (tabV l) = [] := refsL_map (fun _ => rfl) l
theorem codesD_refs : codesD.refs = [] := by unfold codesD; simp only [D.refs, tabK_refs, tabV_refs, List.append_nil]
theorem kindsD_refs : kindsD.refs = [] := by unfold kindsD; simp only [D.refs, tabK_refs, tabV_refs, List.append_nil]
theorem codesD_cells : codesD.cells = [codesD] := nr rfl
theorem kindsD_cells : kindsD.cells = [kindsD] := nr rfl
theorem tabK_free {l : List (Int × Int)} : ∀ d ∈ tabK l, d.free := fun d hd => by obtain ⟨_, _, rfl⟩ := List.mem_map.1 hd; exact .sc
theorem tabV_free {l : List (Int × Int)} : ∀ d ∈ tabV l, d.free := fun d hd => by obtain ⟨_, _, rfl⟩ := List.mem_map.1 hd; exact .sc
/-- tables that a map may be read as -/
structure MapT (P : Program) (t : TypeId) : Prop where
  h : ∃ kt e, P.underlying t = some (.map kt e) ∧ P.underlying kt = some (.int .u8) ∧ zeroD P e = some [.sc (.int .u8 0)] ∧ aggB P e = some false ∧ zeroShape P e = true
theorem find_tab : ∀ (l : List (Int × Int)) (k : Int), lookR false (.sc (.int .u8 0)) (findK .u8 k (tabK l) (tabV l)) = .sc (.int .u8 (tabS l k))
  | [], k => rfl
  | (a, b) :: r, k => by
    have ih := find_tab r k
    simp only [tabK, tabV, List.map_cons, findK, keyOf, if_true, Option.some.injEq, tabS] at ih ⊢
    by_cases h : a = k
    · rw [if_pos h, if_pos h]; rfl
    · rw [if_neg h, if_neg h]; exact ih
theorem look_tab {P : Program} {t : TypeId} (h : MapT P t) (l : List (Int × Int)) (hd : mpOk .u8 (tabK l) = true) (k : Int) : lookD P t (.mp (tabK l) (tabV l)) (.sc (.int .u8 k)) false = some (.sc (.int .u8 (tabS l k))) := by
  obtain ⟨kt, e, h1, h2, h3, h4, h5⟩ := h.h
  simp only [lookD, h1, h2, h3, h4, hd, h5, and_self, if_true, find_tab]
def codeK (k : Int) : Int := tabS codesTab k
def kindC (c : Int) : Int := tabS kindsTab c
theorem look_codes {P : Program} {t : TypeId} (h : MapT P t) (k : Int) : lookD P t codesD (.sc (.int .u8 k)) false = some (.sc (.int .u8 (codeK k))) := look_tab h codesTab (by decide) k
theorem look_kinds {P : Program} {t : TypeId} (h : MapT P t) (k : Int) : lookD P t kindsD (.sc (.int .u8 k)) false = some (.sc (.int .u8 (kindC k))) := look_tab h kindsTab (by decide) k
attribute [go_sem] codesD_refs kindsD_refs codesD_cells kindsD_cells
/-- the names of sections -/
abbrev nmB0 : ByteArray := ⟨#[97, 109, 113, 112, 58, 104, 101, 97, 100, 101, 114, 58, 108, 105, 115, 116]⟩
abbrev nmB1 : ByteArray := ⟨#[97, 109, 113, 112, 58, 100, 101, 108, 105, 118, 101, 114, 121, 45, 97, 110, 110, 111, 116, 97, 116, 105, 111, 110, 115, 58, 109, 97, 112]⟩
abbrev nmB2 : ByteArray := ⟨#[97, 109, 113, 112, 58, 109, 101, 115, 115, 97, 103, 101, 45, 97, 110, 110, 111, 116, 97, 116, 105, 111, 110, 115, 58, 109, 97, 112]⟩
abbrev nmB3 : ByteArray := ⟨#[97, 109, 113, 112, 58, 112, 114, 111, 112, 101, 114, 116, 105, 101, 115, 58, 108, 105, 115, 116]⟩
abbrev nmB4 : ByteArray := ⟨#[97, 109, 113, 112, 58, 97, 112, 112, 108, 105, 99, 97, 116, 105, 111, 110, 45, 112, 114, 111, 112, 101, 114, 116, 105, 101, 115, 58, 109, 97, 112]⟩
abbrev nmB5 : ByteArray := ⟨#[97, 109, 113, 112, 58, 100, 97, 116, 97, 58, 98, 105, 110, 97, 114, 121]⟩
abbrev nmB6 : ByteArray := ⟨#[97, 109, 113, 112, 58, 97, 109, 113, 112, 45, 115, 101, 113, 117, 101, 110, 99, 101, 58, 108, 105, 115, 116]⟩
abbrev nmB7 : ByteArray := ⟨#[97, 109, 113, 112, 58, 97, 109, 113, 112, 45, 118, 97, 108, 117, 101, 58, 42]⟩
abbrev nmB8 : ByteArray := ⟨#[97, 109, 113, 112, 58, 102, 111, 111, 116, 101, 114, 58, 109, 97, 112]⟩
def nmT : List ByteArray := [nmB0, nmB1, nmB2, nmB3, nmB4, nmB5, nmB6, nmB7, nmB8]
def namesL : List D := nmT.map fun s => .sc (.string s)
end Go.Bw

/- Plain: texts as characters and as bytes. -/
namespace Go.Bw.U
def chr (n : Int) : Bool := decide (n ≤ 1114111) && (decide (n < 55296) || decide (57343 < n))
def one (n : Int) : List Int :=
  if n < 128 then [n] else if n < 2048 then [192 + n / 64, 128 + n % 64] else if n < 65536 then [224 + n / 4096, 128 + n / 64 % 64, 128 + n % 64]
  else [240 + n / 262144, 128 + n / 4096 % 64, 128 + n / 64 % 64, 128 + n % 64]
def byteB (x : Int) : Prop := 0 ≤ x ∧ x < 256
/-- what a first byte tells -/
def first (x : Int) : Int × Nat × Bool :=
  if x < 128 then (x, 0, true) else if 248 ≤ x ∨ x < 192 then (0, 0, false) else if 240 ≤ x then (x % 8, 3, true) else if 224 ≤ x then (x % 16, 2, true) else (x % 32, 1, true)
def cont : Nat → Int → List Int → Option Int
  | 0, c, _ => some c
  | _ + 1, _, [] => none
  | n + 1, c, y :: r => if y / 64 = 2 then cont n (c * 64 + y % 64) r else none
def more (c : Int) : Nat := if c ≤ 127 then 0 else if c ≤ 2047 then 1 else if c ≤ 65535 then 2 else 3
def char (l : List Int) : Int × Nat :=
  match l with
  | [] => (0, 0)
  | x :: r => if (first x).2.2 = false ∨ r.length < (first x).2.1 then (0, 0) else
    match cont (first x).2.1 (first x).1 r with
    | none => (0, 0)
    | some c => if chr c = false ∨ more c ≠ (first x).2.1 then (0, 0) else (c, (first x).2.1 + 1)
def chars : Nat → List Int → Option (List Int)
  | _, [] => some []
  | 0, _ :: _ => none
  | k + 1, x :: r => if (char (x :: r)).2 = 0 then none else (chars k ((x :: r).drop (char (x :: r)).2)).map ((char (x :: r)).1 :: ·)

theorem first1 {x : Int} (h : x < 128) : first x = (x, 0, true) := by unfold first; rw [if_pos h]
theorem first0 {x : Int} (h : 128 ≤ x) (k : 248 ≤ x ∨ x < 192) : first x = (0, 0, false) := by unfold first; rw [if_neg (by omega), if_pos k]
theorem first4 {x : Int} (h : 240 ≤ x) (k : x < 248) : first x = (x % 8, 3, true) := by unfold first; rw [if_neg (by omega), if_neg (by omega), if_pos h]
theorem first3 {x : Int} (h : 224 ≤ x) (k : x < 240) : first x = (x % 16, 2, true) := by unfold first; rw [if_neg (by omega), if_neg (by omega), if_neg (by omega), if_pos h]
theorem first2 {x : Int} (h : 192 ≤ x) (k : x < 224) : first x = (x % 32, 1, true) := by unfold first; rw [if_neg (by omega), if_neg (by omega), if_neg (by omega), if_neg (by omega)]





def right (l : List Int) : Bool := (chars l.length l).isSome
def text (cs : List Int) : List Int := cs.flatMap one




end Go.Bw.U

/- Own: floating numbers that are small whole numbers, and how they stand to each other. -/
namespace Go.Bw
open Go Ieee
/-- what a word stands for is a whole number -/
def Tells (d : Datum) (n : Nat) : Prop := ∃ m p, d = .number false m p ∧ p ≤ 0 ∧ m = n * 2 ^ (-p).toNat

theorem Tells.order {a b : Datum} {n m : Nat} (ha : Tells a n) (hb : Tells b m) : a.order b = some (compare (n : Int) (m : Int)) := by
  obtain ⟨x, p, rfl, hp, rfl⟩ := ha
  obtain ⟨y, q, rfl, hq, rfl⟩ := hb
  have hs : ∀ (k : Nat) (r base : Int), base ≤ r → r ≤ 0 → signed false (k * 2 ^ (-r).toNat) (r - base).toNat = ((k * 2 ^ (-base).toNat : Nat) : Int) := by
    intro k r base h1 h2
    simp only [signed, Bool.false_eq_true, if_false]
    rw [Nat.shiftLeft_eq, Nat.mul_assoc, ← Nat.pow_add, show (-r).toNat + (r - base).toNat = (-base).toNat by omega]
  simp only [Datum.order]
  rw [hs _ _ _ (by omega) hp, hs _ _ _ (by omega) hq]
  congr 1
  have hpos : 0 < 2 ^ (-(min p q)).toNat := Nat.pow_pos (by decide)
  generalize 2 ^ (-(min p q)).toNat = k at hpos
  simp only [compare, compareOfLessAndEq]
  have e1 : (((n * k : Nat) : Int) < ((m * k : Nat) : Int)) ↔ ((n : Int) < m) := by
    rw [Int.ofNat_lt, Int.ofNat_lt]; exact Nat.mul_lt_mul_right hpos
  have e2 : (((n * k : Nat) : Int) = ((m * k : Nat) : Int)) ↔ ((n : Int) = m) := by
    rw [Int.ofNat_inj, Int.ofNat_inj]; exact Nat.mul_left_inj (Nat.pos_iff_ne_zero.1 hpos)
  simp only [e1, e2]

theorem tells_near (n : Nat) (h : n < 9007199254740992) : Tells (double.read (double.nearest false n 0)) n := by
  rcases Nat.eq_zero_or_pos n with rfl | h0
  · exact ⟨0, -1074, by decide, by decide, (Nat.zero_mul _).symm⟩
  have hn : n ≠ 0 := by omega
  obtain ⟨L, hL⟩ : ∃ L, L = n.log2 := ⟨_, rfl⟩
  have h1 : 2 ^ L ≤ n := by rw [hL]; exact Nat.log2_self_le hn
  have h2 : n < 2 ^ (L + 1) := by rw [hL]; exact Nat.lt_log2_self
  have h3 : L ≤ 52 := by
    rcases Nat.lt_or_ge 52 L with h4 | h4
    · have : 2 ^ 53 ≤ 2 ^ L := Nat.pow_le_pow_right (by decide) h4
      omega
    · exact h4
  have hb : 2 ^ L * 2 ^ (52 - L) = 4503599627370496 := by rw [← Nat.pow_add, show L + (52 - L) = 52 by omega]
  have hb2 : 2 ^ (L + 1) * 2 ^ (52 - L) = 9007199254740992 := by rw [← Nat.pow_add, show L + 1 + (52 - L) = 53 by omega]
  have hpos : 0 < 2 ^ (52 - L) := Nat.pow_pos (by decide)
  obtain ⟨k, hk⟩ : ∃ k, k = n * 2 ^ (52 - L) := ⟨_, rfl⟩
  have k1 : 4503599627370496 ≤ k := by rw [hk, ← hb]; exact Nat.mul_le_mul_right _ h1
  have k2 : k < 9007199254740992 := by rw [hk, ← hb2]; exact Nat.mul_lt_mul_of_pos_right h2 hpos
  have hlp : double.leastPlace = -1074 := by decide
  have hbn : double.binade = 4503599627370496 := by decide
  have hir : double.infRung = 9218868437227405312 := by decide
  have hsw : double.signWeight = 9223372036854775808 := by decide
  have hlt : (L + 1022) * 4503599627370496 + k < 9218868437227405312 := by omega
  have hw : double.nearest false n 0 = (L + 1022) * 4503599627370496 + k := by
    unfold Format.nearest
    rw [if_neg hn, hlp, hbn, hir, ← hL]
    have e1 : max ((0 : Int) + (L : Int) - ((double.fractionBits : Nat) : Int)) (-1074) = (L : Int) - 52 := by
      rw [show ((double.fractionBits : Nat) : Int) = 52 by decide]; omega
    simp only [e1]
    rw [show ((L : Int) - 52 - 0).toNat = 0 by omega, show ((0 : Int) - ((L : Int) - 52)).toNat = 52 - L by omega, show ((L : Int) - 52 - -1074).toNat = L + 1022 by omega]
    have e2 : Toward.even.cut false (n <<< (52 - L)) 0 = k := by
      unfold Toward.cut
      simp only [Nat.zero_min, Nat.shiftLeft_zero, Nat.div_one, Nat.mod_one, Nat.mul_zero]
      rw [Nat.shiftLeft_eq, ← hk]
      simp
    rw [e2]
    simp only [Format.word, Bool.false_eq_true, if_false]
    exact Nat.min_eq_left (Nat.le_of_lt hlt)
  rw [hw]
  refine ⟨k, (L : Int) - 52, ?_, by omega, by rw [hk, show (-((L : Int) - 52)).toNat = 52 - L by omega]⟩
  unfold Format.read
  simp only [hsw, hbn, hir, hlp]
  rw [Nat.div_eq_of_lt (by omega), Nat.mod_eq_of_lt (by omega : (L + 1022) * 4503599627370496 + k < 9223372036854775808)]
  rw [if_neg (by omega), if_pos hlt]
  have d1 : ((L + 1022) * 4503599627370496 + k) % 4503599627370496 = k - 4503599627370496 := by omega
  have d2 : ((L + 1022) * 4503599627370496 + k) / 4503599627370496 = L + 1023 := by omega
  rw [d1, d2, show 4503599627370496 + (k - 4503599627370496) = k by omega, show (-1074 : Int) + ((L + 1023 - 1 : Nat) : Int) = (L : Int) - 52 by omega]
  rfl

/-- small whole numbers stand to each other as floating numbers as they do -/
theorem order_near (n m : Int) (hn : 0 ≤ n) (hn2 : n < 9007199254740992) (hm : 0 ≤ m) (hm2 : m < 9007199254740992) : FloatKind.f64.format.order (FloatKind.f64.nearest n) (FloatKind.f64.nearest m) = some (compare n m) := by
  obtain ⟨a, rfl⟩ := Int.eq_ofNat_of_zero_le hn
  obtain ⟨b, rfl⟩ := Int.eq_ofNat_of_zero_le hm
  have e : ∀ k : Nat, FloatKind.f64.nearest (k : Int) = double.nearest false k 0 := fun k => by
    unfold FloatKind.nearest FloatKind.encode Format.write
    simp only [Int.natAbs_natCast]
    rw [show decide ((k : Int) < 0) = false by simp]
    rfl
  rw [e, e]
  exact (tells_near a (by omega)).order (tells_near b (by omega))
theorem near_255 : FloatKind.f64.nearest 255 = 4643176031446892544 := by decide
end Go.Bw

/- Seat r1: the iterator over a map's keys. -/
namespace Go.Bw.R1
set_option maxRecDepth 5000
open Go Go.Proofs Go.RowKit Go.Shelf
attribute [local go_sem] Oper.semAt_some
set_option maxRecDepth 100000 in
set_option maxHeartbeats 2000000 in
theorem keys1_walk (l B off b2 off2 n cap : Nat) (v : Nat → Nat → Value) (J : Nat → World → Prop) (Jx : World → Prop) (hn : n ≤ 40000000000)
    (hc : ∀ i W, J i W → W.cell? ⟨B, off + 3, none⟩ = some (.slice (some ⟨b2, off2, none⟩) n cap))
    (hv : ∀ i W, J i W → ∀ j, j < n → ∀ q, q < 4 → W.cell? ⟨b2, off2 + j * 4 + q, none⟩ = some (v j q))
    (hd : ∀ i W, J i W → J i W.drew)
    (hY : ∀ k W, J k W → 2 * k + 1 < n → YieldAt Fence.wide 0 Tryz.prog l #[.agg #[v (2 * k) 0, v (2 * k) 1, v (2 * k) 2, v (2 * k) 3], .agg #[v (2 * k + 1) 0, v (2 * k + 1) 1, v (2 * k + 1) 2, v (2 * k + 1) 3]] W fun e W' => (e = .returned (.bool true) ∧ J (k + 1) W') ∨ (e = .returned (.bool false) ∧ Jx W'))
    (W : World) (h0 : J 0 W) : CallsIn Fence.wide 1 Tryz.prog 180 #[.func (.yield l) #[] #[], .pointer (some ⟨B, off, none⟩)] W fun e W' => (∃ v, e = .returned v) ∧ (J (n / 2) W' ∨ Jx W') := by
  refine callsIn_of_wp Tryz.func180 rfl trivial ?_ rfl
  simp only [Tryz.ntmps180, List.size_toArray, List.length_cons, List.length_nil, Nat.reduceAdd, Nat.reduceSub, Array.replicate_succ, Array.replicate_zero, List.push_toArray, List.append_toArray, List.nil_append, List.cons_append]
  gi_wp2
  gi_loopw [3] (fun iv wr => ∃ k i : Nat, i = 2 * k ∧ i ≤ n ∧ iv = .int .i64 i ∧ J k wr) (fun i _ => n + 2 - (intOf i).toNat)
  case atStart => exact ⟨0, 0, rfl, by omega, rfl, h0⟩
  case round =>
    obtain ⟨k, i, hik, hk, rfl, hJs⟩ := hrel
    have hcx := hc k wr hJs
    by_cases hlt : i + 1 < n
    · obtain ⟨fn, tmps, assign, body, hy, hR⟩ := hY k wr.drew (hd _ _ hJs) (by omega)
      rw [← hik] at hy
      have a0 := hv k wr hJs i (by omega) 0 (by omega)
      have a1 := hv k wr hJs i (by omega) 1 (by omega)
      have a2 := hv k wr hJs i (by omega) 2 (by omega)
      have a3 := hv k wr hJs i (by omega) 3 (by omega)
      have b0 := hv k wr hJs (i + 1) (by omega) 0 (by omega)
      have b1 := hv k wr hJs (i + 1) (by omega) 1 (by omega)
      have b2 := hv k wr hJs (i + 1) (by omega) 2 (by omega)
      have b3 := hv k wr hJs (i + 1) (by omega) 3 (by omega)
      simp only [Nat.add_zero] at a0 b0
      have hR' : RoundIn Fence.wide 0 Tryz.prog l fn tmps assign body wr.drew fun e W' => ∃ bb, e = .returned (.bool bb) ∧ ((bb = true ∧ J (k + 1) W') ∨ (bb = false ∧ Jx W')) := hR.mono (by
        rintro e W3 (⟨rfl, h⟩ | ⟨rfl, h⟩)
        · exact ⟨true, rfl, .inl ⟨rfl, h⟩⟩
        · exact ⟨false, rfl, .inr ⟨rfl, h⟩⟩)
      clear hR
      have c1 : (0 : Int) ≤ i := by omega
      have c2 : (i : Int) < n := by omega
      have c3 : (0 : Int) ≤ i + 1 := by omega
      have c4 : (i : Int) + 1 < n := by omega
      have c5 : (i : Int).toNat = i := by omega
      have c6 : ((i : Int) + 1).toNat = i + 1 := by omega
      have c7 : IntKind.i64.wrap ((i : Int) + 1) = i + 1 := Go.Bw.wrap_i64 (by omega) (by omega)
      have hik2 : 2 * k ≤ i ∧ i ≤ 2 * k := by omega
      clear hik
      gi_wp2
      gi_region_with (refine hR'.mono ?_; rintro _ W3 ⟨bb, rfl, hb⟩)
      all_goals (rcases hb with ⟨rfl, hJ3⟩ | ⟨rfl, hJx3⟩)
      all_goals first
        | (gi_wp2
           go_roundw
           case rel => exact ⟨k + 1, i + 2, by omega, by omega, by simp, hJ3⟩
           case measure => simp [intOf]; omega)
        | (gi_wp2
           refine bodyPost_ret (results_none rfl _ _ _) rfl ?_
           exact ⟨⟨_, rfl⟩, .inr hJx3⟩)
    · gi_wp2
      go_end0
      exact ⟨⟨_, rfl⟩, .inl (by have : n / 2 = k := by omega
                                rw [this]; exact hJs)⟩
set_option maxRecDepth 100000 in
set_option maxHeartbeats 2000000 in
theorem keys1_nil (l B off cap : Nat) (a : Option Addr) (J : Nat → World → Prop)
    (hc : ∀ i W, J i W → W.cell? ⟨B, off + 3, none⟩ = some (.slice a 0 cap))
    (W : World) (h0 : J 0 W) : CallsIn Fence.wide 1 Tryz.prog 180 #[.func (.yield l) #[] #[], .pointer (some ⟨B, off, none⟩)] W fun e W' => (∃ v, e = .returned v) ∧ J 0 W' := by
  refine callsIn_of_wp Tryz.func180 rfl trivial ?_ rfl
  simp only [Tryz.ntmps180, List.size_toArray, List.length_cons, List.length_nil, Nat.reduceAdd, Nat.reduceSub, Array.replicate_succ, Array.replicate_zero, List.push_toArray, List.append_toArray, List.nil_append, List.cons_append]
  gi_wp2
  gi_loopw [3] (fun iv wr => iv = .int .i64 0 ∧ J 0 wr) (fun i _ => 0)
  case atStart => exact ⟨rfl, h0⟩
  case round =>
    obtain ⟨rfl, hJs⟩ := hrel
    have hcx := hc 0 wr hJs
    gi_wp2
    go_end0
    exact ⟨⟨_, rfl⟩, hJs⟩

def pairsD : List D → List (List D)
  | a :: b :: r => [a, b] :: pairsD r
  | _ => []
theorem pairsD_len : ∀ l : List D, (pairsD l).length = l.length / 2
  | [] => rfl
  | [_] => by simp [pairsD]
  | a :: b :: r => by simp only [pairsD, List.length_cons, pairsD_len r]; omega
theorem pairsD_at : ∀ (l : List D) (i : Nat) (ys : List D), (pairsD l)[i]? = some ys → ∃ a b, l[2 * i]? = some a ∧ l[2 * i + 1]? = some b ∧ ys = [a, b]
  | [], i, ys, h => by simp [pairsD] at h
  | [_], i, ys, h => by simp [pairsD] at h
  | a :: b :: r, 0, ys, h => by simp only [pairsD, List.getElem?_cons_zero, Option.some.injEq] at h; exact ⟨a, b, rfl, rfl, h.symm⟩
  | a :: b :: r, i + 1, ys, h => by
    simp only [pairsD, List.getElem?_cons_succ] at h
    obtain ⟨x, y, h1, h2, h3⟩ := pairsD_at r i ys h
    exact ⟨x, y, by rw [show 2 * (i + 1) = (2 * i) + 1 + 1 by omega]; simpa using h1, by rw [show 2 * (i + 1) + 1 = (2 * i + 1) + 1 + 1 by omega]; simpa using h2, h3⟩
theorem pairsD_mem {l : List D} {ys : List D} (h : ys ∈ pairsD l) {y : D} (hy : y ∈ ys) : y ∈ l := by
  obtain ⟨i, hi⟩ := List.getElem?_of_mem h
  obtain ⟨a, b, h1, h2, rfl⟩ := pairsD_at l i ys hi
  rcases List.mem_cons.1 hy with rfl | hy
  · exact List.mem_of_getElem? h1
  · rcases List.mem_cons.1 hy with rfl | hy
    · exact List.mem_of_getElem? h2
    · cases hy

theorem flat_at {l : List D} {sz j q : Nat} {e : D} (hs : ∀ e ∈ l, e.cells.length = sz) (he : l[j]? = some e) (hq : q < sz) : (l.flatMap D.cells)[j * sz + q]? = e.cells[q]? := by
  induction l generalizing j with
  | nil => simp at he
  | cons a l ih =>
    cases j with
    | zero =>
      simp only [List.getElem?_cons_zero, Option.some.injEq] at he
      subst he
      rw [List.flatMap_cons, Nat.zero_mul, Nat.zero_add, List.getElem?_append_left (by rw [hs a (List.mem_cons_self ..)]; exact hq)]
    | succ j =>
      have ha := hs a (List.mem_cons_self ..)
      rw [List.flatMap_cons, List.getElem?_append_right (by rw [ha, Nat.succ_mul]; omega), ha, show (j + 1) * sz + q - sz = j * sz + q by rw [Nat.succ_mul]; omega]
      exact ih (fun e he' => hs e (List.mem_cons_of_mem _ he')) (by simpa using he)

theorem cell_of {W : World} {b o : Nat} {c : Array Value} {t : TypeId} {fz : Nat × Nat} (h : W.heap[b]? = some (.cells c t fz)) (ho : o < c.size) : W.cell? ⟨b, o, none⟩ = some (c.getD o undef) := by
  simp [World.cell?, h, Array.getD_eq_getD_getElem?, ho]

/-- what a map's keys hand on -/
theorem keys_iter (elems : List D) (hn : elems.length ≤ 40000000000) (h4 : ∀ e ∈ elems, e.free ∧ ∃ cs, e = .agg cs ∧ cs.length = 4) (x y z : D) (ex : Bool) :
    IterT Tryz.prog (.fn (.func 180) [] [.rp [x, y, z, .ro ex elems]]) (pairsD elems) := by
  refine ⟨180, _, rfl, by kernel_rfl, fun ys hys e he => (h4 e (pairsD_mem hys he)).1, fun g w cs himm hVL => ?_⟩
  obtain ⟨c0, rfl⟩ : ∃ c0, cs = #[c0] := by
    have := hVL.1
    simp only [List.length_cons, List.length_nil] at this
    exact ⟨cs[0], by apply Array.ext; simp [this]; intro i h1 h2; have : i = 0 := by omega
                     subst this; rfl⟩
  have hv0 := hVL.2 0 _ rfl
  simp only [Array.getD_eq_getD_getElem?, List.getElem?_toArray, List.getElem?_cons_zero, Option.getD_some] at hv0
  cases hv0 with
  | @rp _ B off c t fz hm hl hcell =>
    have hk := hcell 3 _ rfl
    simp only [List.length_cons, List.length_nil] at hl
    have hkc : ∀ W : World, (∀ b o, g.m b = some o → W.heap[b]? = some o) → W.cell? ⟨B, off + 3, none⟩ = some (c.getD (off + 3) undef) := fun W hW => cell_of (hW _ _ hm) (by omega)
    generalize hsv : c.getD (off + 3) undef = sv at hk hkc
    have nilcase : ∀ (a : Option Addr) (cap : Nat), sv = .slice a 0 cap → elems = [] → ∃ vss : List (Array Value), vss.length = (pairsD elems).length ∧ (∀ (i : Nat) ys vs, (pairsD elems)[i]? = some ys → vss[i]? = some vs → VL g ys vs) ∧
        ∀ (l : Nat) (J : Nat → World → Prop) (Jx : World → Prop),
          (∀ i W, J i W → ∀ b o, g.m b = some o → W.heap[b]? = some o) → (∀ i W, J i W → J i W.drew) → (∀ W, Jx W → Jx W.drew) →
          (∀ (i : Nat) vs W, vss[i]? = some vs → J i W → YieldAt Fence.wide 0 Tryz.prog l vs W fun e W' => (e = .returned (.bool true) ∧ J (i + 1) W') ∨ (e = .returned (.bool false) ∧ Jx W')) →
          ∀ W, J 0 W → CallsIn Fence.wide 0 Tryz.prog 180 (#[.func (.yield l) #[] #[]] ++ #[.pointer (some ⟨B, off, none⟩)]) W fun e W' => (∃ v, e = .returned v) ∧ (J vss.length W' ∨ Jx W') := by
      rintro a cap rfl rfl
      refine ⟨[], rfl, fun i ys vs h => by simp [pairsD] at h, fun l J Jx hJ _ _ _ W h0 => ?_⟩
      refine (callsIn_wide (n := 0)).2 ((callsIn_wide (n := 1)).1 ((keys1_nil l B off cap a J (fun i W h => hkc W (hJ i W h)) W h0).mono ?_))
      exact fun e W' h => ⟨h.1, .inl h.2⟩
    cases hk with
    | roNil => exact nilcase none 0 rfl rfl
    | roNone h1 h2 => exact nilcase _ _ rfl rfl
    | @ro _ _ b2 off2 cap sz c2 t2 fz2 hm2 hs hl2 hcap hx he hcells =>
      have hsz : elems ≠ [] → sz = 4 := fun hne => by
        obtain ⟨e, r, rfl⟩ := List.exists_cons_of_ne_nil hne
        obtain ⟨_, cs, rfl, hcs⟩ := h4 e (List.mem_cons_self ..)
        have := hs _ (List.mem_cons_self ..)
        simp only [D.cells] at this
        omega
      have hval : ∀ j e, elems[j]? = some e → ∀ q, q < 4 → ∀ d, e.cells[q]? = some d → V g d (c2.getD (off2 + (j * 4 + q)) undef) := fun j e he q hq d hd => by
        obtain rfl : sz = 4 := hsz (by rintro rfl; simp at he)
        exact hcells _ _ (by rw [flat_at hs he hq]; exact hd)
      have hc2 : ∀ W : World, (∀ b o, g.m b = some o → W.heap[b]? = some o) → ∀ j, j < elems.length → ∀ q, q < 4 → W.cell? ⟨b2, off2 + j * 4 + q, none⟩ = some (c2.getD (off2 + (j * 4 + q)) undef) := fun W hW j hj q hq => by
        obtain rfl : sz = 4 := hsz (by rintro rfl; simp at hj)
        rw [Nat.add_assoc]
        exact cell_of (hW _ _ hm2) (by omega)
      refine ⟨(List.range (elems.length / 2)).map fun k => #[.agg #[c2.getD (off2 + (2 * k * 4 + 0)) undef, c2.getD (off2 + (2 * k * 4 + 1)) undef, c2.getD (off2 + (2 * k * 4 + 2)) undef, c2.getD (off2 + (2 * k * 4 + 3)) undef],
        .agg #[c2.getD (off2 + ((2 * k + 1) * 4 + 0)) undef, c2.getD (off2 + ((2 * k + 1) * 4 + 1)) undef, c2.getD (off2 + ((2 * k + 1) * 4 + 2)) undef, c2.getD (off2 + ((2 * k + 1) * 4 + 3)) undef]], by simp [pairsD_len], ?_, ?_⟩
      · intro i ys vs hys hvs
        obtain ⟨a, b, ha, hb, rfl⟩ := pairsD_at elems i ys hys
        obtain ⟨_, ca, rfl, hca⟩ := h4 a (List.mem_of_getElem? ha)
        obtain ⟨_, cb, rfl, hcb⟩ := h4 b (List.mem_of_getElem? hb)
        simp only [List.getElem?_map, Option.map_eq_some_iff] at hvs
        obtain ⟨k, hk, rfl⟩ := hvs
        obtain rfl : k = i := by
          obtain ⟨hlt, hh⟩ := List.getElem?_eq_some_iff.1 hk
          simpa using hh.symm
        have one : ∀ (j : Nat) (cs : List D), elems[j]? = some (.agg cs) → cs.length = 4 → V g (.agg cs) (.agg #[c2.getD (off2 + (j * 4 + 0)) undef, c2.getD (off2 + (j * 4 + 1)) undef, c2.getD (off2 + (j * 4 + 2)) undef, c2.getD (off2 + (j * 4 + 3)) undef]) := fun j cs hj hcs => by
          refine .agg (by simp [hcs]) fun q d hd => ?_
          have hq : q < 4 := by rw [← hcs]; exact (List.getElem?_eq_some_iff.1 hd).1
          have := hval j _ hj q hq d (by simpa using hd)
          match q, hq with
          | 0, _ => exact this
          | 1, _ => exact this
          | 2, _ => exact this
          | 3, _ => exact this
        refine ⟨rfl, fun q d hd => ?_⟩
        match q with
        | 0 => simp only [List.getElem?_cons_zero, Option.some.injEq] at hd; subst hd; exact one _ _ ha hca
        | 1 => simp only [List.getElem?_cons_succ, List.getElem?_cons_zero, Option.some.injEq] at hd; subst hd; exact one _ _ hb hcb
        | q + 2 => simp at hd
      · intro l J Jx hJ hJd _ hY W h0
        refine (callsIn_wide (n := 0)).2 ((callsIn_wide (n := 1)).1 ((keys1_walk l B off b2 off2 elems.length cap (fun j q => c2.getD (off2 + (j * 4 + q)) undef) J Jx hn (fun i W h => hkc W (hJ i W h)) (fun i W h => hc2 W (hJ i W h)) hJd (fun k W hj hlt => hY k _ W (by simp [List.getElem?_range, show k < elems.length / 2 by omega]) hj) W h0).mono ?_))
        exact fun e W' h => ⟨h.1, by simpa using h.2⟩
open Classical in
/-- the iterators of this seat -/
noncomputable def keysIt : D → Option (List (List D))
  | .fn (.func f) [] [.rp [_, _, _, .ro _ elems]] => if f = 180 ∧ elems.length ≤ 40000000000 ∧ ∀ e ∈ elems, e.free ∧ ∃ cs, e = .agg cs ∧ cs.length = 4 then some (pairsD elems) else none
  | _ => none
theorem keysIt_sound : SoundI Tryz.prog keysIt := fun d yss h => by
  unfold keysIt at h
  split at h
  · split at h
    · rename_i hc
      simp only [Option.some.injEq] at h
      subst h
      obtain ⟨rfl, h1, h2⟩ := hc
      exact keys_iter _ h1 h2 _ _ _ _
    · cases h
  · cases h
end Go.Bw.R1

/- The iterator over a slice from its end. -/
namespace Go.Bw.R1
set_option maxRecDepth 5000
open Go Go.Proofs Go.RowKit Go.Shelf
attribute [local go_sem] Oper.semAt_some
set_option maxRecDepth 100000 in
set_option maxHeartbeats 2000000 in
theorem back1_walk (l B off b2 off2 n cap : Nat) (v : Nat → Nat → Value) (J : Nat → World → Prop) (Jx : World → Prop) (hn : n ≤ 40000000000)
    (hc : ∀ i W, J i W → W.cell? ⟨B, off, none⟩ = some (.slice (some ⟨b2, off2, none⟩) n cap))
    (hv : ∀ i W, J i W → ∀ j, j < n → ∀ q, q < 4 → W.cell? ⟨b2, off2 + j * 4 + q, none⟩ = some (v j q))
    (hd : ∀ i W, J i W → J i W.drew)
    (hY : ∀ k m W, J k W → m + 1 + k = n → YieldAt Fence.wide 0 Tryz.prog l #[.int .i64 (m : Int), .agg #[v m 0, v m 1, v m 2, v m 3]] W fun e W' => (e = .returned (.bool true) ∧ J (k + 1) W') ∨ (e = .returned (.bool false) ∧ Jx W'))
    (W : World) (h0 : J 0 W) : CallsIn Fence.wide 1 Tryz.prog 168 #[.func (.yield l) #[] #[], .pointer (some ⟨B, off, none⟩)] W fun e W' => (∃ v, e = .returned v) ∧ (J n W' ∨ Jx W') := by
  have hc0 := hc 0 W h0
  have hw : IntKind.i64.wrap ((n : Int) - 1) = (n : Int) - 1 := Go.Bw.wrap_i64 (by omega) (by omega)
  refine callsIn_of_wp Tryz.func168 rfl trivial ?_ rfl
  simp only [Tryz.ntmps168, List.size_toArray, List.length_cons, List.length_nil, Nat.reduceAdd, Nat.reduceSub, Array.replicate_succ, Array.replicate_zero, List.push_toArray, List.append_toArray, List.nil_append, List.cons_append]
  gi_wp2
  gi_loopw [3] (fun iv wr => ∃ k : Nat, ∃ j : Int, k ≤ n ∧ j = (n : Int) - 1 - k ∧ iv = .int .i64 j ∧ J k wr) (fun i _ => (intOf i + 1).toNat)
  case atStart => exact ⟨0, (n : Int) - 1, by omega, by omega, rfl, h0⟩
  case round =>
    obtain ⟨k, j, hk, hj, rfl, hJs⟩ := hrel
    have hcx := hc k wr hJs
    by_cases hlt : k < n
    · obtain ⟨m, hm⟩ : ∃ m, m + 1 + k = n := ⟨n - 1 - k, by omega⟩
      obtain rfl : j = (m : Int) := by omega
      clear hj
      obtain ⟨fn, tmps, assign, body, hy, hR⟩ := hY k m wr hJs hm
      have a0 := hv k wr hJs m (by omega) 0 (by omega)
      have a1 := hv k wr hJs m (by omega) 1 (by omega)
      have a2 := hv k wr hJs m (by omega) 2 (by omega)
      have a3 := hv k wr hJs m (by omega) 3 (by omega)
      simp only [Nat.add_zero] at a0
      have hR' : RoundIn Fence.wide 0 Tryz.prog l fn tmps assign body wr fun e W' => ∃ bb, e = .returned (.bool bb) ∧ ((bb = true ∧ J (k + 1) W') ∨ (bb = false ∧ Jx W')) := hR.mono (by
        rintro e W3 (⟨rfl, h⟩ | ⟨rfl, h⟩)
        · exact ⟨true, rfl, .inl ⟨rfl, h⟩⟩
        · exact ⟨false, rfl, .inr ⟨rfl, h⟩⟩)
      clear hR
      have c1 : (0 : Int) ≤ m := by omega
      have c2 : (m : Int) < n := by omega
      have c5 : (m : Int).toNat = m := by omega
      have c7 : IntKind.i64.wrap ((m : Int) - 1) = (m : Int) - 1 := Go.Bw.wrap_i64 (by omega) (by omega)
      have c8 : decide ((0 : Int) ≤ m) = true := by simp
      gi_wp2
      refine hR'.mono ?_
      rintro _ W3 ⟨bb, rfl, hb⟩
      rcases hb with ⟨rfl, hJ3⟩ | ⟨rfl, hJx3⟩
      · gi_wp2
        go_roundw
        case rel => exact ⟨k + 1, (m : Int) - 1, by omega, by omega, rfl, hJ3⟩
        case measure => simp [intOf]
      · gi_wp2
        refine bodyPost_ret (results_none rfl _ _ _) rfl ?_
        exact ⟨⟨_, rfl⟩, .inr hJx3⟩
    · have hkn : k = n := by omega
      subst hkn
      have c1 : ¬ (0 : Int) ≤ j := by omega
      gi_wp2
      go_end0
      exact ⟨⟨_, rfl⟩, .inl hJs⟩
set_option maxRecDepth 100000 in
set_option maxHeartbeats 2000000 in
theorem back1_nil (l B off cap : Nat) (a : Option Addr) (J : Nat → World → Prop)
    (hc : ∀ i W, J i W → W.cell? ⟨B, off, none⟩ = some (.slice a 0 cap))
    (W : World) (h0 : J 0 W) : CallsIn Fence.wide 1 Tryz.prog 168 #[.func (.yield l) #[] #[], .pointer (some ⟨B, off, none⟩)] W fun e W' => (∃ v, e = .returned v) ∧ J 0 W' := by
  have hc0 := hc 0 W h0
  have hw : IntKind.i64.wrap (-1) = -1 := Go.Bw.wrap_i64 (by omega) (by omega)
  refine callsIn_of_wp Tryz.func168 rfl trivial ?_ rfl
  simp only [Tryz.ntmps168, List.size_toArray, List.length_cons, List.length_nil, Nat.reduceAdd, Nat.reduceSub, Array.replicate_succ, Array.replicate_zero, List.push_toArray, List.append_toArray, List.nil_append, List.cons_append]
  gi_wp2
  gi_loopw [3] (fun iv wr => iv = .int .i64 (-1) ∧ J 0 wr) (fun i _ => 0)
  case atStart => exact ⟨by simp [hw], h0⟩
  case round =>
    obtain ⟨rfl, hJs⟩ := hrel
    have hcx := hc 0 wr hJs
    gi_wp2
    go_end0
    exact ⟨⟨_, rfl⟩, hJs⟩

/-- places and elements, from the end -/
def backD (l : List D) : List (List D) := (List.range l.length).map fun k => [.sc (.int .i64 ((l.length - 1 - k : Nat) : Int)), l.getD (l.length - 1 - k) .undef]
theorem backD_len (l : List D) : (backD l).length = l.length := by simp [backD]
theorem backD_at {l : List D} {i : Nat} {ys : List D} (h : (backD l)[i]? = some ys) : ∃ m a, m + 1 + i = l.length ∧ l[m]? = some a ∧ ys = [.sc (.int .i64 (m : Int)), a] := by
  unfold backD at h
  rw [List.getElem?_map, Option.map_eq_some_iff] at h
  obtain ⟨k, hk, rfl⟩ := h
  obtain ⟨hlt, hh⟩ := List.getElem?_eq_some_iff.1 hk
  obtain rfl : i = k := by simpa using hh
  simp only [List.length_range] at hlt
  refine ⟨l.length - 1 - i, l[l.length - 1 - i]'(by omega), by omega, by simp, ?_⟩
  simp [List.getD_eq_getElem?_getD, List.getElem?_eq_getElem (show l.length - 1 - i < l.length by omega)]

theorem back_iter (elems : List D) (hn : elems.length ≤ 40000000000) (h4 : ∀ e ∈ elems, e.free ∧ ∃ cs, e = .agg cs ∧ cs.length = 4) (ex : Bool) :
    IterT Tryz.prog (.fn (.func 168) [] [.rp [.ro ex elems]]) (backD elems) := by
  refine ⟨168, _, rfl, by kernel_rfl, fun ys hys e he => ?_, fun g w cs himm hVL => ?_⟩
  · obtain ⟨i, hi⟩ := List.getElem?_of_mem hys
    obtain ⟨m, a, -, ha, rfl⟩ := backD_at hi
    rcases List.mem_cons.1 he with rfl | he
    · exact .sc
    · rcases List.mem_cons.1 he with rfl | he
      · exact (h4 _ (List.mem_of_getElem? ha)).1
      · cases he
  obtain ⟨c0, rfl⟩ : ∃ c0, cs = #[c0] := by
    have := hVL.1
    simp only [List.length_cons, List.length_nil] at this
    exact ⟨cs[0], by apply Array.ext; simp [this]; intro i h1 h2; have : i = 0 := by omega
                     subst this; rfl⟩
  have hv0 := hVL.2 0 _ rfl
  simp only [Array.getD_eq_getD_getElem?, List.getElem?_toArray, List.getElem?_cons_zero, Option.getD_some] at hv0
  cases hv0 with
  | @rp _ B off c t fz hm hl hcell =>
    have hk := hcell 0 _ rfl
    simp only [List.length_cons, List.length_nil] at hl
    have hkc : ∀ W : World, (∀ b o, g.m b = some o → W.heap[b]? = some o) → W.cell? ⟨B, off, none⟩ = some (c.getD (off + 0) undef) := fun W hW => by
      rw [Nat.add_zero]; exact cell_of (hW _ _ hm) (by omega)
    generalize hsv : c.getD (off + 0) undef = sv at hk hkc
    have nilcase : ∀ (a : Option Addr) (cap : Nat), sv = .slice a 0 cap → elems = [] → ∃ vss : List (Array Value), vss.length = (backD elems).length ∧ (∀ (i : Nat) ys vs, (backD elems)[i]? = some ys → vss[i]? = some vs → VL g ys vs) ∧
        ∀ (l : Nat) (J : Nat → World → Prop) (Jx : World → Prop),
          (∀ i W, J i W → ∀ b o, g.m b = some o → W.heap[b]? = some o) → (∀ i W, J i W → J i W.drew) → (∀ W, Jx W → Jx W.drew) →
          (∀ (i : Nat) vs W, vss[i]? = some vs → J i W → YieldAt Fence.wide 0 Tryz.prog l vs W fun e W' => (e = .returned (.bool true) ∧ J (i + 1) W') ∨ (e = .returned (.bool false) ∧ Jx W')) →
          ∀ W, J 0 W → CallsIn Fence.wide 0 Tryz.prog 168 (#[.func (.yield l) #[] #[]] ++ #[.pointer (some ⟨B, off, none⟩)]) W fun e W' => (∃ v, e = .returned v) ∧ (J vss.length W' ∨ Jx W') := by
      rintro a cap rfl rfl
      refine ⟨[], rfl, fun i ys vs h => by simp [backD] at h, fun l J Jx hJ _ _ _ W h0 => ?_⟩
      refine (callsIn_wide (n := 0)).2 ((callsIn_wide (n := 1)).1 ((back1_nil l B off cap a J (fun i W h => hkc W (hJ i W h)) W h0).mono ?_))
      exact fun e W' h => ⟨h.1, .inl h.2⟩
    cases hk with
    | roNil => exact nilcase none 0 rfl rfl
    | roNone h1 h2 => exact nilcase _ _ rfl rfl
    | @ro _ _ b2 off2 cap sz c2 t2 fz2 hm2 hs hl2 hcap hx he hcells =>
      have hsz : elems ≠ [] → sz = 4 := fun hne => by
        obtain ⟨e, r, rfl⟩ := List.exists_cons_of_ne_nil hne
        obtain ⟨_, cs, rfl, hcs⟩ := h4 e (List.mem_cons_self ..)
        have := hs _ (List.mem_cons_self ..)
        simp only [D.cells] at this
        omega
      have hval : ∀ j e, elems[j]? = some e → ∀ q, q < 4 → ∀ d, e.cells[q]? = some d → V g d (c2.getD (off2 + (j * 4 + q)) undef) := fun j e he q hq d hd => by
        obtain rfl : sz = 4 := hsz (by rintro rfl; simp at he)
        exact hcells _ _ (by rw [flat_at hs he hq]; exact hd)
      have hc2 : ∀ W : World, (∀ b o, g.m b = some o → W.heap[b]? = some o) → ∀ j, j < elems.length → ∀ q, q < 4 → W.cell? ⟨b2, off2 + j * 4 + q, none⟩ = some (c2.getD (off2 + (j * 4 + q)) undef) := fun W hW j hj q hq => by
        obtain rfl : sz = 4 := hsz (by rintro rfl; simp at hj)
        rw [Nat.add_assoc]
        exact cell_of (hW _ _ hm2) (by omega)
      refine ⟨(List.range elems.length).map fun k => #[.int .i64 ((elems.length - 1 - k : Nat) : Int), .agg #[c2.getD (off2 + ((elems.length - 1 - k) * 4 + 0)) undef, c2.getD (off2 + ((elems.length - 1 - k) * 4 + 1)) undef, c2.getD (off2 + ((elems.length - 1 - k) * 4 + 2)) undef, c2.getD (off2 + ((elems.length - 1 - k) * 4 + 3)) undef]], by simp [backD_len], ?_, ?_⟩
      · intro i ys vs hys hvs
        obtain ⟨m, a, hmi, ha, rfl⟩ := backD_at hys
        obtain ⟨_, ca, rfl, hca⟩ := h4 a (List.mem_of_getElem? ha)
        simp only [List.getElem?_map, Option.map_eq_some_iff] at hvs
        obtain ⟨k, hk, rfl⟩ := hvs
        obtain rfl : k = i := by
          obtain ⟨hlt, hh⟩ := List.getElem?_eq_some_iff.1 hk
          simpa using hh.symm
        obtain rfl : m = elems.length - 1 - k := by omega
        refine ⟨rfl, fun q d hd => ?_⟩
        match q with
        | 0 => simp only [List.getElem?_cons_zero, Option.some.injEq] at hd; subst hd; exact .sc trivial
        | 1 =>
          simp only [List.getElem?_cons_succ, List.getElem?_cons_zero, Option.some.injEq] at hd
          subst hd
          refine .agg (by simp [hca]) fun q d hd => ?_
          have hq : q < 4 := by rw [← hca]; exact (List.getElem?_eq_some_iff.1 hd).1
          have := hval _ _ ha q hq d (by simpa using hd)
          match q, hq with
          | 0, _ => exact this
          | 1, _ => exact this
          | 2, _ => exact this
          | 3, _ => exact this
        | q + 2 => simp at hd
      · intro l J Jx hJ hJd _ hY W h0
        refine (callsIn_wide (n := 0)).2 ((callsIn_wide (n := 1)).1 ((back1_walk l B off b2 off2 elems.length cap (fun j q => c2.getD (off2 + (j * 4 + q)) undef) J Jx hn (fun i W h => hkc W (hJ i W h)) (fun i W h => hc2 W (hJ i W h)) hJd (fun k m W hj hlt => hY k _ W (by
          obtain rfl : m = elems.length - 1 - k := by omega
          simp [List.getElem?_range, show k < elems.length by omega]) hj) W h0).mono ?_))
        exact fun e W' h => ⟨h.1, by simpa using h.2⟩
open Classical in
noncomputable def backIt : D → Option (List (List D))
  | .fn (.func f) [] [.rp [.ro _ elems]] => if f = 168 ∧ elems.length ≤ 40000000000 ∧ ∀ e ∈ elems, e.free ∧ ∃ cs, e = .agg cs ∧ cs.length = 4 then some (backD elems) else none
  | _ => none
theorem backIt_sound : SoundI Tryz.prog backIt := fun d yss h => by
  unfold backIt at h
  split at h
  · split at h
    · rename_i hc
      simp only [Option.some.injEq] at h
      subst h
      obtain ⟨rfl, h1, h2⟩ := hc
      exact back_iter _ h1 h2 _
    · cases h
  · cases h
end Go.Bw.R1

/- Seat r1: the evaluator's table; values. -/
namespace Go.Bw.R1
set_option maxRecDepth 5000
open Go Go.Bw Go.Proofs
def An1Tab : List (Nat × AnnB) := [
  (2, ⟨[], [], [], false, []⟩),
  (3, ⟨[1], [], [], false, []⟩),
  (4, ⟨[], [], [], false, []⟩),
  (5, ⟨[2], [], [], false, []⟩),
  (6, ⟨[], [(0, [0, 1, 5, 6, 7])], [], false, []⟩),
  (7, ⟨[1], [(0, [1, 3, 4, 5, 6, 7]), (3, [1, 3, 4, 5, 12, 13])], [(22, [(0, 0, false), (1, 0, false), (2, 0, false), (3, 0, false), (4, 0, false), (5, 0, false), (6, 0, true), (7, 1, false), (8, 0, false), (9, 0, false), (10, 1, false), (11, 1, false)])], false, []⟩),
  (8, ⟨[2], [(0, [1, 2, 11, 12, 13])], [(6, [(0, 0, false), (1, 0, false), (2, 0, false), (3, 0, false), (4, 0, false), (5, 0, false), (6, 0, false), (7, 0, false), (8, 0, false), (9, 0, false), (10, 0, false), (11, 0, false), (12, 0, false), (13, 0, false), (14, 0, false), (15, 0, false)]), (12, [(0, 0, false), (1, 0, false), (5, 0, false), (8, 0, false), (9, 0, false), (11, 0, false), (2, 0, false), (3, 0, false), (4, 0, false), (6, 0, false), (7, 0, false), (10, 0, false), (12, 0, false), (13, 0, false), (14, 0, true), (15, 1, false)])], false, []⟩),
  (9, ⟨[3], [(0, [2, 7, 9, 10, 11])], [], false, []⟩),
  (10, ⟨[1], [], [], false, []⟩),
  (11, ⟨[8, 9], [], [], false, [(3000002, [9])]⟩),
  (12, ⟨[], [(0, [0, 3, 4, 5])], [], true, []⟩),
  (13, ⟨[1], [(0, [5, 93, 94, 95])], [(5, [(0, 0, false), (1, 0, false), (2, 0, false), (3, 0, false), (4, 0, false), (5, 0, false), (6, 0, false), (7, 0, false), (8, 0, false), (9, 0, false), (10, 0, false), (11, 0, false), (12, 0, false), (13, 0, false), (14, 0, false), (15, 0, false), (16, 0, false), (17, 0, false), (18, 0, false), (19, 0, false), (20, 0, false), (21, 0, false), (22, 0, false), (23, 0, false), (24, 0, false), (25, 0, false), (26, 0, false), (27, 0, true), (28, 1, false)]), (8, [(0, 0, false), (1, 0, false), (2, 0, false), (3, 0, false), (4, 0, false), (5, 0, false), (6, 0, false), (7, 0, false), (8, 0, true), (9, 1, false)])], true, []⟩),
  (14, ⟨[1], [(0, [4, 6, 7])], [(6, [(0, 0, false), (2, 0, false), (3, 0, false), (4, 0, false), (5, 0, false), (6, 0, false), (7, 0, false), (8, 0, false), (9, 0, false), (10, 0, false), (11, 0, false), (12, 0, false), (13, 0, false), (14, 0, false), (15, 0, false), (17, 0, false), (18, 0, false), (19, 0, false), (20, 0, false), (21, 0, false), (22, 0, false), (23, 0, false), (1, 0, false), (16, 0, false), (24, 0, false), (25, 0, false), (26, 0, false), (27, 0, true), (28, 1, false)]), (9, [(0, 0, false), (1, 0, false), (2, 0, false), (3, 0, false), (4, 0, false), (5, 0, false), (6, 0, false), (7, 0, false), (8, 0, true), (9, 1, false)])], true, []⟩),
  (15, ⟨[], [], [], false, []⟩),
  (16, ⟨[], [(0, [0, 5])], [], false, []⟩),
  (17, ⟨[], [(0, [0, 3]), (2, [0, 3, 4])], [(7, [(0, 0, false), (1, 0, false), (2, 0, false), (3, 0, false), (4, 0, false), (5, 0, false), (6, 0, false), (7, 0, false), (8, 0, false), (9, 0, false), (10, 0, false), (11, 0, false), (12, 0, false), (13, 0, false), (14, 0, false), (15, 0, false), (16, 0, false), (17, 0, false), (18, 0, true), (19, 1, false)])], false, []⟩),
  (18, ⟨[], [(0, [0, 2, 4, 5, 6]), (1000000, [0, 2, 4, 5, 6])], [(15, [(0, 0, false), (1, 0, false), (2, 0, false), (3, 0, false), (4, 0, false), (5, 0, false)])], true, []⟩),
  (19, ⟨[], [(0, [0, 2, 4, 5, 6, 7])], [], true, []⟩),
  (20, ⟨[2, 3], [], [], false, []⟩),
  (21, ⟨[], [], [(1, [(0, 0, false), (1, 0, false), (2, 0, false), (3, 0, false), (4, 0, false), (5, 0, true), (6, 1, false), (7, 0, false), (8, 0, false), (9, 1, false), (10, 1, false)])], true, []⟩),
  (22, ⟨[], [], [], true, []⟩),
  (23, ⟨[], [], [], true, []⟩),
  (24, ⟨[], [], [], true, []⟩),
  (25, ⟨[1], [], [], false, []⟩),
  (26, ⟨[2, 3], [], [], true, []⟩),
  (27, ⟨[], [], [], true, []⟩),
  (28, ⟨[], [], [], true, []⟩),
  (29, ⟨[], [(0, [0, 1, 4, 5])], [(4, [(0, 0, false), (1, 0, false), (2, 0, false), (3, 0, false), (4, 0, false), (5, 0, false), (6, 0, false), (7, 0, true)])], true, []⟩),
  (30, ⟨[1], [], [], false, []⟩),
  (31, ⟨[], [], [(9, [(0, 0, false), (5, 0, true), (1, 0, false), (2, 0, false), (3, 0, false), (4, 0, false), (6, 1, false), (7, 1, false)])], true, []⟩),
  (32, ⟨[], [], [], false, []⟩),
  (33, ⟨[], [], [], true, []⟩),
  (34, ⟨[1], [], [], false, []⟩),
  (35, ⟨[], [], [], true, []⟩),
  (36, ⟨[], [(0, [0, 1, 4, 5])], [(4, [(0, 0, false), (1, 0, false), (2, 0, false), (3, 0, false), (4, 0, false), (5, 0, false), (6, 0, false), (7, 0, true)])], true, []⟩),
  (37, ⟨[], [], [], true, []⟩),
  (38, ⟨[], [], [], true, []⟩),
  (39, ⟨[2, 3], [], [(1, [(0, 0, false), (1, 0, false), (2, 0, false), (3, 0, false), (4, 0, false), (5, 0, false), (6, 0, true)])], true, []⟩),
  (40, ⟨[], [], [], true, []⟩),
  (41, ⟨[1], [], [], false, []⟩),
  (42, ⟨[], [(0, [0, 1, 5, 6]), (2, [0, 7, 8])], [], false, []⟩),
  (43, ⟨[1], [], [(5, [(0, 0, false), (1, 0, false), (2, 0, false), (3, 0, false), (4, 0, false)])], false, []⟩),
  (44, ⟨[5], [], [(7, [(1, 0, false), (2, 0, false), (3, 0, false), (4, 0, false), (5, 0, false), (6, 0, false), (7, 0, false), (8, 0, false), (9, 0, false), (10, 0, true), (0, 0, false), (11, 1, false), (12, 1, false), (13, 0, true)])], false, []⟩),
  (45, ⟨[], [], [], true, []⟩),
  (46, ⟨[1], [(0, [1, 3, 5, 6])], [(8, [(0, 0, false), (1, 0, false), (2, 0, false), (3, 0, false), (4, 0, false), (5, 0, false), (6, 0, false), (7, 0, false), (8, 0, false), (9, 0, false), (10, 0, false), (11, 0, false), (12, 0, false), (13, 0, false), (14, 0, false), (15, 0, false), (16, 0, false), (17, 0, false), (18, 0, false), (19, 0, false), (20, 0, false), (21, 0, false), (22, 0, false), (23, 0, false), (24, 0, false)]), (9, [(0, 0, false), (1, 0, false), (2, 0, false), (3, 0, false), (4, 0, false), (5, 0, false), (6, 0, false), (7, 0, false), (8, 0, true), (9, 1, false)])], true, []⟩),
  (47, ⟨[3], [], [], false, []⟩),
  (48, ⟨[3], [], [], false, []⟩),
  (49, ⟨[], [(0, [2, 5, 6, 7])], [], true, []⟩),
  (50, ⟨[3], [(4000000, [])], [(3, [(0, 0, false), (1, 0, false), (2, 0, true), (3, 0, false), (4, 1, false), (5, 0, false), (6, 0, false), (7, 0, false), (8, 0, true), (9, 2, false)])], false, []⟩),
  (51, ⟨[1], [], [], false, []⟩),
  (52, ⟨[1], [], [], false, []⟩),
  (53, ⟨[1], [], [], false, []⟩),
  (54, ⟨[], [], [], false, []⟩),
  (55, ⟨[], [], [(0, [(1, 0, false), (2, 0, true), (0, 0, false), (3, 1, false), (4, 0, true)]), (4000000, [(2, 0, false), (0, 0, false), (1, 0, false)]), (5000000, [(4, 0, false), (1, 0, false), (2, 0, true), (0, 0, false), (3, 1, false)])], false, []⟩),
  (56, ⟨[], [], [(6, [(0, 0, false), (1, 0, false), (2, 0, false), (3, 0, false), (4, 0, false), (5, 0, false), (6, 0, false), (7, 0, false), (8, 0, false), (9, 0, false), (10, 0, false)])], true, []⟩),
  (57, ⟨[], [(0, [0, 2])], [(7, [(3, 0, false), (4, 0, false), (5, 0, true), (2, 0, false), (6, 0, true), (0, 0, false), (1, 0, false), (7, 0, false), (8, 0, true), (9, 3, false), (10, 0, true)]), (4000007, [(5, 0, false), (0, 0, false), (1, 0, false), (2, 0, false), (3, 0, false), (4, 0, false)])], true, []⟩),
  (58, ⟨[], [], [], false, []⟩),
  (59, ⟨[], [], [(2, [(4, 0, false), (5, 0, false), (6, 0, false), (7, 0, true), (2, 0, false), (3, 0, false), (8, 0, true), (0, 0, false), (1, 0, false), (9, 0, true), (10, 0, true)]), (4000002, [(7, 0, false), (0, 0, false), (1, 0, false), (2, 0, false), (3, 0, false), (4, 0, false), (5, 0, false), (6, 0, false)]), (5000002, [(8, 0, false), (4, 0, false), (5, 0, false), (6, 0, false), (7, 0, true), (0, 0, false), (1, 0, false), (2, 0, false), (3, 0, false)])], true, []⟩),
  (60, ⟨[], [(0, [0, 4])], [], true, []⟩),
  (61, ⟨[], [], [], false, []⟩),
  (62, ⟨[], [], [], true, []⟩),
  (63, ⟨[], [], [], true, []⟩),
  (64, ⟨[1], [], [], false, []⟩),
  (65, ⟨[1], [], [], false, []⟩),
  (66, ⟨[], [(0, [0, 1, 7, 8])], [], false, []⟩),
  (67, ⟨[3], [], [], false, []⟩),
  (68, ⟨[3], [(0, [0, 5, 7, 10, 40, 41, 42])], [], false, []⟩),
  (69, ⟨[], [(0, [0, 6, 7])], [(12, [(0, 0, false), (1, 0, false), (2, 0, false), (3, 0, false), (4, 0, false), (5, 0, false), (6, 0, false), (7, 0, false), (8, 0, false), (9, 0, false), (10, 0, false), (11, 0, false), (12, 0, false), (13, 0, false)]), (15, [(0, 0, false), (1, 0, false), (2, 0, false), (3, 0, false), (4, 0, false), (5, 0, false), (6, 0, false), (7, 0, false), (8, 0, false), (9, 0, false), (10, 0, false), (11, 0, false), (12, 0, true), (16, 0, true), (13, 1, false), (14, 0, false), (17, 0, true), (15, 0, false), (18, 3, false)]), (1000015, [(12, 16, false), (0, 0, false), (1, 0, false), (2, 0, false), (3, 0, false), (4, 0, false), (5, 0, false), (6, 0, false), (7, 0, false), (8, 0, false), (9, 0, false), (10, 0, false), (11, 0, false), (16, 0, true), (12, 0, true), (13, 0, false), (14, 0, false), (17, 0, true), (15, 0, false), (18, 3, false)]), (20, [(0, 0, false), (1, 0, false), (2, 0, false), (3, 0, false), (4, 0, false), (5, 0, false), (6, 0, false), (7, 0, false), (8, 0, false), (9, 0, false), (10, 0, false)])], true, []⟩),
  (70, ⟨[], [], [], false, []⟩),
  (71, ⟨[], [], [], true, []⟩),
  (72, ⟨[3], [], [], false, []⟩),
  (73, ⟨[], [], [], false, []⟩),
  (74, ⟨[], [], [], false, []⟩),
  (75, ⟨[], [], [], false, []⟩),
  (76, ⟨[], [(0, [0, 2, 6, 7, 9, 10])], [(8, [(0, 0, false), (1, 0, false), (2, 0, false), (3, 0, false), (4, 0, false), (5, 0, false), (6, 0, false), (7, 0, false), (8, 0, false), (9, 0, false), (10, 0, false)])], true, []⟩),
  (77, ⟨[], [], [], false, []⟩),
  (78, ⟨[], [], [], true, []⟩),
  (79, ⟨[], [(0, [0]), (2, [3, 14, 15, 16])], [], true, [(8, [0])]⟩),
  (80, ⟨[5], [(4000000, [])], [], false, []⟩),
  (81, ⟨[], [(0, [0, 1, 5]), (4000000, [])], [(4, [(0, 0, false), (1, 0, false), (2, 0, true), (3, 0, false), (4, 0, false), (5, 0, false), (6, 0, false), (7, 0, true), (8, 2, false)])], false, []⟩),
  (82, ⟨[], [(0, [0, 12, 13, 14]), (2, [0, 4, 5, 12, 13, 14, 18, 19, 20])], [], false, []⟩),
  (83, ⟨[2], [(0, [1, 5, 9, 10, 11])], [], false, []⟩),
  (84, ⟨[], [], [], false, []⟩),
  (85, ⟨[], [], [], false, []⟩),
  (86, ⟨[], [], [], false, []⟩),
  (87, ⟨[1], [], [], false, []⟩),
  (88, ⟨[1], [], [], false, []⟩),
  (89, ⟨[1], [], [], false, []⟩),
  (90, ⟨[1], [], [], false, []⟩),
  (91, ⟨[], [], [], false, []⟩),
  (92, ⟨[], [], [(1, [(0, 0, false), (1, 0, false), (2, 0, false), (3, 0, false), (4, 0, false), (5, 0, false), (6, 0, false), (7, 0, false), (8, 0, false), (9, 0, false), (10, 0, false), (11, 0, false)]), (4, [(0, 0, false), (1, 0, false), (2, 0, false), (3, 0, false), (4, 0, false), (5, 0, false), (6, 0, false), (7, 0, false), (8, 0, false), (9, 0, false), (10, 0, false), (11, 0, false), (12, 0, false), (13, 0, false), (14, 0, false), (15, 0, false)])], true, []⟩),
  (93, ⟨[], [], [], false, []⟩),
  (94, ⟨[], [], [], false, []⟩),
  (95, ⟨[], [], [], true, []⟩),
  (96, ⟨[], [], [], true, []⟩),
  (97, ⟨[], [(1000000, [0, 4, 5, 7])], [], false, []⟩),
  (98, ⟨[], [(0, [0, 4, 5]), (3, [0, 4, 5, 6, 7, 8])], [], true, []⟩),
  (99, ⟨[], [(0, [0, 3, 4])], [], true, []⟩),
  (100, ⟨[1], [(0, [1, 3, 4])], [], false, []⟩),
  (101, ⟨[1], [(0, [1, 3, 4])], [], false, []⟩),
  (102, ⟨[1], [(0, [1, 3]), (3, [1, 4, 5]), (5, [1, 4, 5, 6]), (7, [1, 4, 7])], [(19, [(0, 0, false), (1, 0, false), (2, 0, false), (3, 0, false), (4, 0, false), (5, 0, false), (6, 0, false), (7, 0, false), (8, 0, false), (9, 0, false), (10, 0, false)]), (25, [(0, 0, false), (1, 0, false), (2, 0, false), (3, 0, false), (4, 0, false), (5, 0, false), (6, 0, false), (7, 0, false), (8, 0, false), (9, 0, false), (10, 0, false)])], false, []⟩),
  (103, ⟨[], [(0, [0, 4, 5]), (2, [0, 4, 6, 7]), (4, [0, 4, 6, 7, 8, 9])], [(15, [(0, 0, false), (1, 0, false), (2, 0, false), (3, 0, false), (4, 0, false), (5, 0, false), (6, 0, false), (7, 0, false), (8, 0, false), (9, 0, false), (10, 0, false), (11, 0, false), (12, 0, false), (13, 0, false)]), (17, [(0, 0, false), (1, 0, false), (2, 0, false), (3, 0, false), (4, 0, false), (5, 0, false), (6, 0, true), (7, 0, false), (8, 0, false), (9, 0, false), (10, 0, false), (11, 1, false), (12, 1, false)])], false, []⟩),
  (104, ⟨[3], [], [(15, [(3, 0, false), (4, 0, true), (0, 0, false), (1, 0, false), (2, 0, false), (5, 0, true), (6, 2, false)]), (18, [(3, 0, false), (4, 0, true), (0, 0, false), (1, 0, false), (2, 0, false), (5, 0, true), (6, 2, false)]), (21, [(0, 0, false), (1, 0, false), (2, 0, false), (3, 0, false), (4, 0, false), (5, 0, false), (6, 0, false), (7, 0, false), (8, 0, true), (9, 1, false)])], false, []⟩),
  (105, ⟨[], [(0, [1, 2])], [], true, []⟩),
  (106, ⟨[3], [], [], false, []⟩),
  (107, ⟨[], [], [], false, []⟩),
  (108, ⟨[], [], [], false, []⟩),
  (109, ⟨[], [], [], false, []⟩),
  (110, ⟨[], [], [], true, []⟩),
  (111, ⟨[], [(0, [0, 3]), (2, [0, 3, 4, 5])], [], false, []⟩),
  (112, ⟨[], [], [], true, []⟩),
  (113, ⟨[], [(0, [0, 4, 5, 6])], [], false, []⟩),
  (114, ⟨[], [(0, [0, 3, 4, 5])], [(4, [(0, 0, false), (1, 0, false), (2, 0, false), (3, 0, false), (4, 0, false), (5, 0, false), (6, 0, false), (7, 0, true)])], true, []⟩),
  (115, ⟨[], [], [], true, []⟩),
  (116, ⟨[], [(0, [1, 7, 8])], [], false, []⟩),
  (117, ⟨[], [], [], false, []⟩),
  (118, ⟨[1], [(1, [2, 14, 15, 16]), (3, [2, 6, 40, 41, 42])], [], false, []⟩),
  (119, ⟨[], [], [], true, []⟩),
  (120, ⟨[], [(0, [0, 1, 7, 8])], [], false, []⟩),
  (121, ⟨[], [], [], false, []⟩),
  (122, ⟨[], [], [], false, []⟩),
  (123, ⟨[], [(0, [5, 6, 7])], [], false, []⟩),
  (124, ⟨[1], [], [(6, [(0, 0, false), (1, 0, false), (2, 0, false), (3, 0, false), (4, 0, true), (5, 1, false), (6, 0, true), (7, 0, true)]), (1000006, [(6, 7, false), (0, 0, false), (1, 0, false), (2, 0, false), (3, 0, false), (4, 0, true), (5, 1, false), (7, 0, true), (6, 0, true)])], false, [(3, [4])]⟩),
  (125, ⟨[2], [], [(1, [(0, 0, false), (1, 0, false), (2, 0, false), (3, 0, false), (4, 0, false), (5, 0, false), (6, 0, false), (7, 0, false)])], false, []⟩),
  (126, ⟨[2, 3], [], [(3, [(0, 0, false), (1, 0, false), (2, 0, false), (3, 0, false), (4, 0, false), (5, 0, false), (6, 0, false), (7, 0, false), (8, 0, false), (9, 0, false), (10, 0, false), (11, 0, false), (12, 0, false), (13, 0, false), (14, 0, false), (15, 0, false), (16, 0, false), (17, 0, false), (18, 0, false), (19, 0, false), (20, 0, false)])], false, []⟩),
  (127, ⟨[], [(0, [2, 9, 10, 11])], [], false, []⟩),
  (128, ⟨[], [(0, [1, 4, 5, 6, 8, 36, 37])], [(3, [(0, 0, false), (1, 0, false), (2, 0, false), (3, 0, true)]), (4000003, [(3, 0, false), (0, 0, false), (1, 0, false), (2, 0, false)]), (4, [(0, 0, false), (1, 0, false), (2, 0, false), (3, 0, true), (4, 1, false)]), (4000004, [(3, 0, false), (0, 0, false), (1, 0, false), (2, 0, false)]), (13, [(2, 0, false), (3, 0, true), (0, 0, false), (1, 0, false), (4, 1, false), (5, 0, true), (6, 2, false), (7, 0, true)]), (4000013, [(3, 0, false), (0, 0, false), (1, 0, false), (2, 0, false)])], true, []⟩),
  (129, ⟨[], [], [], false, []⟩),
  (130, ⟨[1], [], [], true, []⟩),
  (131, ⟨[], [], [], false, []⟩),
  (132, ⟨[], [], [], false, []⟩),
  (133, ⟨[], [(0, [0, 4, 5])], [], true, []⟩),
  (134, ⟨[2, 3], [(0, [2, 3, 5])], [(6, [(0, 0, false), (1, 0, false), (2, 0, false), (3, 0, false), (4, 0, false), (5, 0, false), (6, 0, false), (7, 0, false), (8, 0, false), (9, 0, false), (10, 0, false), (11, 0, false)])], false, []⟩),
  (135, ⟨[2, 3], [], [(3, [(0, 0, false), (1, 0, false), (2, 0, false), (3, 0, false), (4, 0, false), (5, 0, false), (6, 0, false), (7, 0, false), (8, 0, false), (9, 0, false), (10, 0, false), (11, 0, false), (12, 0, false), (13, 0, false), (14, 0, false), (15, 0, false), (16, 0, false), (17, 0, false), (18, 0, false), (19, 0, false), (20, 0, false), (21, 0, false), (22, 0, false), (23, 0, false), (24, 0, false), (25, 0, false)])], false, []⟩),
  (136, ⟨[1], [], [], false, []⟩),
  (137, ⟨[1], [], [], false, []⟩),
  (138, ⟨[], [], [], true, []⟩),
  (139, ⟨[3], [], [], false, []⟩),
  (140, ⟨[], [], [], false, []⟩),
  (141, ⟨[], [], [], false, []⟩),
  (142, ⟨[1], [(0, [1, 3, 4]), (2, [1, 3, 6, 7])], [], false, []⟩),
  (143, ⟨[], [(0, [1, 2, 7, 8]), (2, [1, 2, 7, 8, 9, 10])], [], false, []⟩),
  (144, ⟨[3], [], [], false, []⟩),
  (145, ⟨[], [], [], false, []⟩),
  (146, ⟨[1], [], [], true, []⟩),
  (147, ⟨[1], [], [], false, []⟩),
  (148, ⟨[1], [], [], false, []⟩),
  (149, ⟨[9], [], [], true, []⟩),
  (150, ⟨[], [(0, [0, 1, 5, 6])], [], false, []⟩),
  (151, ⟨[], [(0, [3, 6, 8, 9, 11])], [], true, []⟩),
  (152, ⟨[], [(0, [3, 6, 8, 9, 11, 12, 15])], [(17, [(0, 0, false), (1, 0, false), (2, 0, false), (3, 0, false), (4, 0, false), (5, 0, false), (6, 0, true), (7, 1, false), (8, 0, true)])], true, []⟩),
  (153, ⟨[], [], [], false, []⟩),
  (154, ⟨[], [], [], false, []⟩),
  (155, ⟨[], [], [], false, []⟩),
  (156, ⟨[1], [], [], false, []⟩),
  (157, ⟨[1], [], [], false, []⟩),
  (158, ⟨[1], [], [], false, []⟩),
  (159, ⟨[1], [], [], false, []⟩),
  (160, ⟨[1], [], [], false, []⟩),
  (161, ⟨[1], [], [], false, []⟩),
  (162, ⟨[1], [], [], false, []⟩),
  (163, ⟨[1], [], [(1, [(3, 0, false), (4, 0, true), (0, 0, false), (1, 0, false), (2, 0, false), (5, 1, false), (6, 1, false), (7, 0, false), (8, 1, false)])], false, []⟩),
  (164, ⟨[1], [], [], true, []⟩),
  (165, ⟨[2], [], [], false, []⟩),
  (166, ⟨[2, 3], [], [], false, []⟩),
  (167, ⟨[], [], [(1, [(4, 0, false), (5, 0, false), (6, 0, false), (7, 0, true), (2, 0, false), (3, 0, false), (8, 0, true), (0, 0, false), (1, 0, false), (9, 0, true), (10, 0, true)]), (4000001, [(7, 0, false), (0, 0, false), (1, 0, false), (2, 0, false), (3, 0, false), (4, 0, false), (5, 0, false), (6, 0, false)]), (5000001, [(8, 0, false), (4, 0, false), (5, 0, false), (6, 0, false), (7, 0, true), (0, 0, false), (1, 0, false), (2, 0, false), (3, 0, false)])], true, []⟩),
  (168, ⟨[], [(0, [0, 1, 3])], [], false, []⟩),
  (169, ⟨[], [], [], false, []⟩),
  (170, ⟨[], [], [], true, []⟩),
  (171, ⟨[], [], [], false, []⟩),
  (172, ⟨[], [(0, [0, 3])], [], false, []⟩),
  (173, ⟨[], [], [], true, []⟩),
  (174, ⟨[], [], [], false, []⟩),
  (175, ⟨[2], [], [], false, []⟩),
  (176, ⟨[], [], [], false, []⟩),
  (177, ⟨[], [], [(9, [(0, 0, false), (1, 0, false), (2, 0, false), (3, 0, false), (4, 0, false), (5, 0, false), (6, 0, false), (7, 0, false), (8, 0, false)])], true, []⟩),
  (178, ⟨[], [], [], false, []⟩),
  (179, ⟨[], [], [], false, []⟩),
  (180, ⟨[], [(0, [0, 1, 3])], [(3, [(0, 0, false), (1, 0, false), (2, 0, false), (3, 0, false), (4, 0, false), (5, 0, false), (6, 0, false), (7, 0, false), (8, 0, false), (9, 0, false), (10, 0, false), (11, 0, false), (12, 0, false), (13, 0, false)])], false, []⟩),
  (181, ⟨[], [(0, [1, 2, 15, 16, 17])], [], false, []⟩),
  (182, ⟨[], [(0, [0, 1, 7, 8])], [], false, []⟩),
  (206, ⟨[], [], [], false, []⟩)]
noncomputable def An1Its (f : FuncId) : D → Option (List (List D)) := (look [(96, backIt), (124, keysIt)] f).getD noIt
noncomputable def An1 (f : FuncId) : Ann := ((look An1Tab f).getD ⟨[], [], [], false, []⟩).with (An1Its f)

theorem an1_its : ∀ f, SoundI Tryz.prog (An1 f).its := fun f => by
  show SoundI Tryz.prog (An1Its f)
  unfold An1Its
  simp only [look]
  repeat' split
  all_goals first | exact keysIt_sound | exact backIt_sound | exact soundI_no
def gl0 : Nat → D := fun i => if i = 1 then .rp [kindsD] else if i = 2 then .rp [codesD] else if i = 0 then .rp namesL else .undef
/-- nothing is shown beside -/
def X1 : Orc := fun _ _ _ => none
noncomputable abbrev EV : Orc := ev Tryz.prog gl0 An1 [] X1
abbrev I (n : Int) : D := .sc (.int .i64 n)
abbrev B (b : Bool) : D := .sc (.bool b)

/-- a value of the type system -/
inductive Val where
  | mk (kind num : Int) (text : ByteArray) (kids : List Val)
  deriving Inhabited

mutual
def Val.d : Val → D
  | .mk k n t l => .agg [.sc (.int .u8 k), .sc (.int .u64 n), .sc (.string t), .ro false (Val.dL l)]
def Val.dL : List Val → List D
  | [] => []
  | v :: l => v.d :: Val.dL l
end
theorem Val.dL_map : ∀ l, Val.dL l = l.map Val.d
  | [] => rfl
  | v :: l => by rw [Val.dL, Val.dL_map l]; rfl
mutual
theorem Val.refs : ∀ v : Val, v.d.refs = []
  | .mk k n t l => by simp only [Val.d, D.refs, D.refsL, Val.refsL l, List.append_nil]
theorem Val.refsL : ∀ l : List Val, D.refsL (Val.dL l) = []
  | [] => rfl
  | v :: l => by simp only [Val.dL, D.refsL, Val.refs v, Val.refsL l, List.append_nil]
end
theorem Val.refsM (l : List Val) : D.refsL (l.map Val.d) = [] := by rw [← Val.dL_map]; exact Val.refsL l
mutual
theorem Val.can : ∀ v : Val, v.d.can = v.d
  | .mk k n t l => by simp only [Val.d, D.can, D.canL, Val.canL l]
theorem Val.canL : ∀ l : List Val, D.canL (Val.dL l) = Val.dL l
  | [] => rfl
  | v :: l => by simp only [Val.dL, D.canL, Val.can v, Val.canL l]
end
theorem Val.canM (l : List Val) : D.canL (l.map Val.d) = l.map Val.d := by rw [← Val.dL_map]; exact Val.canL l
theorem Val.canA (v : Val) : v.d.canA = v.d := by have := Val.can v; cases v; exact this
def Val.kind : Val → Int | .mk k _ _ _ => k
def Val.num : Val → Int | .mk _ n _ _ => n
def Val.text : Val → ByteArray | .mk _ _ t _ => t
def Val.kids : Val → List Val | .mk _ _ _ l => l
theorem Val.kind_mk (k n : Int) (t : ByteArray) (l : List Val) : (Val.mk k n t l).kind = k := rfl
theorem Val.num_mk (k n : Int) (t : ByteArray) (l : List Val) : (Val.mk k n t l).num = n := rfl
theorem Val.text_mk (k n : Int) (t : ByteArray) (l : List Val) : (Val.mk k n t l).text = t := rfl
theorem Val.kids_mk (k n : Int) (t : ByteArray) (l : List Val) : (Val.mk k n t l).kids = l := rfl
theorem Val.eta (v : Val) : Val.mk v.kind v.num v.text v.kids = v := by cases v; rfl
theorem Val.cells (v : Val) : v.d.cells = [.sc (.int .u8 v.kind), .sc (.int .u64 v.num), .sc (.string v.text), .ro false (v.kids.map Val.d)] := by cases v; simp only [Val.d, Val.dL_map]; rfl
/-- its cells -/
abbrev Val.cs (v : Val) : List D := [.sc (.int .u8 v.kind), .sc (.int .u64 v.num), .sc (.string v.text), .ro false (v.kids.map Val.d)]
theorem Val.fold (k n : Int) (t : ByteArray) (l : List Val) : D.agg [.sc (.int .u8 k), .sc (.int .u64 n), .sc (.string t), .ro false (l.map Val.d)] = (Val.mk k n t l).d := by simp only [Val.d, Val.dL_map]
theorem Val.fold0 (k n : Int) (t : ByteArray) : D.agg [.sc (.int .u8 k), .sc (.int .u64 n), .sc (.string t), .ro false []] = (Val.mk k n t []).d := by simp only [Val.d, Val.dL]
theorem Val.fold1 (k n : Int) (t : ByteArray) (a : Val) : D.agg [.sc (.int .u8 k), .sc (.int .u64 n), .sc (.string t), .ro false [a.d]] = (Val.mk k n t [a]).d := Val.fold k n t [a]
theorem Val.fold2 (k n : Int) (t : ByteArray) (a b : Val) : D.agg [.sc (.int .u8 k), .sc (.int .u64 n), .sc (.string t), .ro false [a.d, b.d]] = (Val.mk k n t [a, b]).d := Val.fold k n t [a, b]
theorem Val.fold3 (k n : Int) (t : ByteArray) (a b c : Val) : D.agg [.sc (.int .u8 k), .sc (.int .u64 n), .sc (.string t), .ro false [a.d, b.d, c.d]] = (Val.mk k n t [a, b, c]).d := Val.fold k n t [a, b, c]
theorem Val.fold4 (k n : Int) (t : ByteArray) (a b c d : Val) : D.agg [.sc (.int .u8 k), .sc (.int .u64 n), .sc (.string t), .ro false [a.d, b.d, c.d, d.d]] = (Val.mk k n t [a, b, c, d]).d := Val.fold k n t [a, b, c, d]
theorem Val.fold5 (k n : Int) (t : ByteArray) (a b c d e : Val) : D.agg [.sc (.int .u8 k), .sc (.int .u64 n), .sc (.string t), .ro false [a.d, b.d, c.d, d.d, e.d]] = (Val.mk k n t [a, b, c, d, e]).d := Val.fold k n t [a, b, c, d, e]
theorem Val.fold6 (k n : Int) (t : ByteArray) (a b c d e f : Val) : D.agg [.sc (.int .u8 k), .sc (.int .u64 n), .sc (.string t), .ro false [a.d, b.d, c.d, d.d, e.d, f.d]] = (Val.mk k n t [a, b, c, d, e, f]).d := Val.fold k n t [a, b, c, d, e, f]
theorem can_bytes (ex : Bool) (s : ByteArray) : (D.ro ex (bytesD s)).can = .ro false (bytesD s) := by
  simp only [D.can, D.canL_map, bytesD, List.map_map]; rfl
theorem canA_bytes (ex : Bool) (s : ByteArray) : (D.ro ex (bytesD s)).canA = .ro false (bytesD s) := can_bytes ex s
attribute [go_sem] Val.refs Val.refsM Val.can Val.canM Val.canA Val.kind_mk Val.num_mk Val.text_mk Val.kids_mk Val.eta Val.cells Val.fold Val.fold0 Val.fold1 Val.fold2 Val.fold3 Val.fold4 Val.fold5 Val.fold6 can_bytes canA_bytes
theorem bsl : ByteSl Tryz.prog 23 23 5 := ⟨el23, ze5, by5, ii23, by rw [Tryz.underlying23]; rfl⟩
theorem bsl' : ByteSlX Tryz.prog 23 23 := ⟨5, bsl⟩
attribute [go_sem] bsl'
end Go.Bw.R1

namespace Go.Bw.R1
set_option maxRecDepth 5000
open Go Go.Bw Go.Proofs
theorem soundX : SoundO Tryz.prog gl0 X1 := fun f ds es r ts h => by cases h
end Go.Bw.R1

/- Own: a law over laid tables: what the list of a row gives, and a world that holds it. -/
namespace Go.Bw.R1
set_option maxRecDepth 5000
open Go Go.Bw Go.Proofs

theorem tyok : tyOk Tryz.prog = true := by kernel_rfl
theorem laid : laidOutB Tryz.prog = true := by kernel_rfl
theorem kids : Kids Tryz.prog (· < Tryz.prog.types.size) := kids_rows laid (by kernel_rfl)
theorem mixed : Tryz.prog.follows .mixedOrders = true := by kernel_rfl
theorem own : ownKnob Tryz.prog.godebug = none := by kernel_rfl
theorem Args.end_ {dl : List D} (h : Args Tryz.prog [] dl) : dl = [] := List.length_eq_zero_iff.1 h.1
theorem tab_free (l : List (Int × Int)) : (D.rp [.mp (tabK l) (tabV l)]).free :=
  .rp fun d hd => by rcases List.mem_singleton.1 hd with rfl; exact .mp tabK_free tabV_free
/-- the first of a row's list: a map of bytes -/
theorem laid_tab {W : World} {name : String} {g : Nat} {l : List (Int × Int)} {r : List (String × DataW Unit)} {ps : List MemPlace} (hg : Tryz.prog.globalNamed name = some g) (hty : (Tryz.prog.globals[g]?).map (·.type) = some 116)
    (h : DataW.LaidVars Tryz.prog W ((name, bytesTab l) :: r) ps) : V (g0 W) (.rp [.mp (tabK l) (tabV l)]) (.pointer (some ⟨g, 0, none⟩)) ∧ ∃ q, DataW.LaidVars Tryz.prog W r q := by
  obtain ⟨g', t', cs, fuel, p, q, h1, h2, h3, h4, h5, _⟩ := h
  obtain rfl := Option.some.inj (hg.symm.trans h1)
  obtain rfl := Option.some.inj (hty.symm.trans h2)
  obtain ⟨b, hb, hv⟩ := map_of_trod Tryz.underlying116 Tryz.underlying5 Tryz.underlying5 h4
  obtain ⟨fz, t, hc⟩ : ∃ fz t, W.heap[g]? = some (.cells cs t fz) := by
    unfold World.var? at h3
    rw [hg] at h3
    simp only [Option.bind_some] at h3
    split at h3
    · rename_i c t fz hh; obtain rfl := Option.some.inj h3; exact ⟨fz, t, hh⟩
    · cases h3
  have hcs : cs = #[.map (some b)] := by
    have := congrArg List.toArray hb
    simpa using this
  subst hcs
  refine ⟨.rp (c := #[.map (some b)]) hc (by simp) fun j d hd => ?_, q, h5⟩
  cases j with
  | zero => simp only [List.getElem?_cons_zero, Option.some.injEq] at hd; subst hd; exact hv
  | succ j => simp at hd
def strsTab (l : List ByteArray) : DataW Unit := .agg (l.map fun s : ByteArray => .lit (.string s.data.toList))
abbrev namesT0 : List ByteArray := nmT
theorem names_ok : ∀ s ∈ namesT0, scalarOk (.string s) := by
  intro s hs
  simp only [namesT0, nmT, List.mem_cons, List.not_mem_nil, or_false] at hs
  rcases hs with rfl | rfl | rfl | rfl | rfl | rfl | rfl | rfl | rfl <;> exact (by show ByteArray.size _ ≤ 9223372036854775807; decide)
theorem lstrs_free (l : List ByteArray) : (D.rp (l.map fun s => D.sc (.string s))).free :=
  .rp fun d hd => by obtain ⟨s, _, rfl⟩ := List.mem_map.1 hd; exact .sc
theorem laid_strs {W : World} {name : String} {g : Nat} {l : List ByteArray} {r : List (String × DataW Unit)} {ps : List MemPlace} (hg : Tryz.prog.globalNamed name = some g) (hty : (Tryz.prog.globals[g]?).map (·.type) = some 89) (hok : ∀ s ∈ l, scalarOk (.string s))
    (h : DataW.LaidVars Tryz.prog W ((name, strsTab l) :: r) ps) : V (g0 W) (.rp (l.map fun s => D.sc (.string s))) (.pointer (some ⟨g, 0, none⟩)) ∧ ∃ q, DataW.LaidVars Tryz.prog W r q := by
  obtain ⟨g', t', cs, fuel, p, q, h1, h2, h3, h4, h5, _⟩ := h
  obtain rfl := Option.some.inj (hg.symm.trans h1)
  obtain rfl := Option.some.inj (hty.symm.trans h2)
  have hb := strs_of_trod Tryz.underlying89 Tryz.underlying9 (by kernel_rfl) (by kernel_rfl) h4
  obtain ⟨fz, t, hc⟩ : ∃ fz t, W.heap[g]? = some (.cells cs t fz) := by
    unfold World.var? at h3
    rw [hg] at h3
    simp only [Option.bind_some] at h3
    split at h3
    · rename_i c t fz hh; obtain rfl := Option.some.inj h3; exact ⟨fz, t, hh⟩
    · cases h3
  have hcs : cs = (l.map Value.string).toArray := by
    have := congrArg List.toArray hb
    simpa using this
  subst hcs
  refine ⟨.rp (c := (l.map Value.string).toArray) hc (by simp) fun j d hd => ?_, q, h5⟩
  rw [List.getElem?_map] at hd
  cases hj : l[j]? with
  | none => rw [hj] at hd; cases hd
  | some s =>
    rw [hj] at hd
    obtain rfl := Option.some.inj hd
    have e : (l.map Value.string).toArray.getD (0 + j) undef = .string s := by
      rw [Nat.zero_add, Array.getD_eq_getD_getElem?, List.getElem?_toArray, List.getElem?_map, hj]; rfl
    rw [e]
    exact .sc (hok s (List.mem_of_getElem? hj))
theorem nil_tab {W : World} (g : Nat) : D.undef.free ∧ V (g0 W) .undef (.pointer (some ⟨g, 0, none⟩)) := ⟨.undef, .undef⟩
theorem glob_laid {W : World} (h : laidMetH Tryz.prog [("bellwether/decode.kinds", Go.Proofs.YtffifncopceefaaGreatDoor.Rows.laid_bellwether_decode_kinds), ("bellwether/encode.codes", Go.Proofs.YtffifncopceefaaGreatDoor.Rows.laid_bellwether_encode_codes), ("bellwether/message.names", Go.Proofs.YtffifncopceefaaGreatDoor.Rows.laid_bellwether_message_names)] W) : Glob (g0 W) gl0 := by
  obtain ⟨ps, hv, _⟩ := (show laidMet Tryz.prog [("bellwether/decode.kinds", bytesTab kindsTab), ("bellwether/encode.codes", bytesTab codesTab), ("bellwether/message.names", strsTab namesT0)] W from h)
  obtain ⟨hkinds, qkinds, hv⟩ := laid_tab (g := 1) (by kernel_rfl) (by kernel_rfl) hv
  obtain ⟨hcodes, qcodes, hv⟩ := laid_tab (g := 2) (by kernel_rfl) (by kernel_rfl) hv
  obtain ⟨hnames, qnames, hv⟩ := laid_strs (g := 0) (by kernel_rfl) (by kernel_rfl) names_ok hv
  intro i
  unfold gl0
  by_cases hkindsi : i = 1
  · subst hkindsi; exact ⟨tab_free kindsTab, hkinds⟩
  rw [if_neg hkindsi]
  by_cases hcodesi : i = 2
  · subst hcodesi; exact ⟨tab_free codesTab, hcodes⟩
  rw [if_neg hcodesi]
  by_cases hnamesi : i = 0
  · subst hnamesi; exact ⟨lstrs_free namesT0, hnames⟩
  rw [if_neg hnamesi]
  exact nil_tab i
/-- a world for the witness: the tables hold what they are laid with -/
noncomputable def laidWorld (os : Os) : World :=
  let w := World.holding Tryz.prog os ⟨#[], #[], []⟩
  { w with heap := ((((((w.heap.push (.map ((kindsTab.map fun p => (⟨.int .u8 p.1, .int .u8 p.2, 0⟩ : MapEntry)).toArray.mapIdx fun i x => { x with born := i }) kindsTab.length)).push (.map ((codesTab.map fun p => (⟨.int .u8 p.1, .int .u8 p.2, 0⟩ : MapEntry)).toArray.mapIdx fun i x => { x with born := i }) codesTab.length))).modify 0 fun | .cells _ t z => .cells (namesT0.map Value.string).toArray t z | o => o).modify 1 fun | .cells _ t z => .cells #[.map (some (w.heap.size + 0))] t z | o => o).modify 2 fun | .cells _ t z => .cells #[.map (some (w.heap.size + 1))] t z | o => o) }
end Go.Bw.R1

namespace Go.Bw.R1
set_option maxRecDepth 5000
open Go Go.Bw Go.Proofs

mutual
def Val.sz : Val → Nat
  | .mk _ _ t l => t.size + Val.szL l + 1
def Val.szL : List Val → Nat
  | [] => 0
  | v :: l => v.sz + Val.szL l
end
theorem Val.sz_eq (v : Val) : v.sz = v.text.size + Val.szL v.kids + 1 := by cases v; rfl
mutual
def same : Val → Val → Bool
  | .mk k n t l, .mk k' n' t' l' => k == k' && (n == n' && (decide (t = t') && sameL l l'))
def sameL : List Val → List Val → Bool
  | [], [] => true
  | a :: l, b :: m => same a b && sameL l m
  | _, _ => false
end
theorem same_eq (a b : Val) : same a b = (a.kind == b.kind && (a.num == b.num && (decide (a.text = b.text) && sameL a.kids b.kids))) := by cases a; cases b; simp only [same]; rfl
theorem szL_len : ∀ l : List Val, l.length ≤ Val.szL l
  | [] => Nat.le_refl _
  | v :: l => by have := szL_len l; have : 1 ≤ v.sz := by cases v; simp [Val.sz]
                 simp [Val.szL]; omega
theorem szL_mem : ∀ {l : List Val} {i : Nat} {x : Val}, l[i]? = some x → x.sz ≤ Val.szL l
  | [], i, x, h => by simp at h
  | v :: l, 0, x, h => by simp at h; subst h; simp [Val.szL]
  | v :: l, i + 1, x, h => by have := szL_mem (l := l) (i := i) (by simpa using h); simp [Val.szL]; omega
theorem sameL_len : ∀ {l m : List Val}, l.length ≠ m.length → sameL l m = false
  | [], [], h => absurd rfl h
  | a :: l, b :: m, h => by simp only [sameL]; rw [sameL_len (by simpa using h)]; simp
  | [], _ :: _, h => by simp [sameL]
  | _ :: _, [], h => by simp [sameL]
theorem sameL_drop {i : Nat} {l m : List Val} {x y : Val} (h1 : l[i]? = some x) (h2 : m[i]? = some y) : sameL (l.drop i) (m.drop i) = (same x y && sameL (l.drop (i + 1)) (m.drop (i + 1))) := by
    obtain ⟨p1, q1⟩ := List.getElem?_eq_some_iff.1 h1
    obtain ⟨p2, q2⟩ := List.getElem?_eq_some_iff.1 h2
    rw [List.drop_eq_getElem_cons p1, List.drop_eq_getElem_cons p2, sameL, q1, q2]
theorem sameL_end {i : Nat} {l m : List Val} (h1 : l.length ≤ i) (h2 : m.length ≤ i) : sameL (l.drop i) (m.drop i) = true := by
  rw [List.drop_eq_nil_of_le h1, List.drop_eq_nil_of_le h2]; rfl
theorem txt_eq (s t : ByteArray) : (s.toList == t.toList) = decide (s = t) := by
  rw [Bool.eq_iff_iff]
  simp only [beq_iff_eq, decide_eq_true_eq]
  constructor
  · intro h
    rw [ByteArray.toList_eq, ByteArray.toList_eq] at h
    exact ByteArray.ext (Array.toList_inj.1 h)
  · rintro rfl; rfl
attribute [go_sem] txt_eq
end Go.Bw.R1

namespace Go.Bw.R1
set_option maxRecDepth 5000
open Go Go.Bw Go.Proofs

theorem number_c (k n : Int) : EV 24 [.sc (.int .u8 k), .sc (.int .u64 n)] [] = some (.ret (Val.mk k n ⟨#[]⟩ []).d, []) := by
  refine (ev_body ⟨[], [], [], true, [], noIt⟩ [.cell 4 46] rfl Tryz.func24 rfl rfl rfl (by kernel_rfl) (by show 2 ≤ 8; decide) (by kernel_rfl)).trans ?_
  simp +contextual (maxSteps := 10000000) only [go_sem]
theorem text_c (k : Int) (s : ByteArray) : EV 23 [.sc (.int .u8 k), .sc (.string s)] [] = some (.ret (Val.mk k 0 s []).d, []) := by
  refine (ev_body ⟨[], [], [], true, [], noIt⟩ [.cell 4 46] rfl Tryz.func23 rfl rfl rfl (by kernel_rfl) (by show 2 ≤ 8; decide) (by kernel_rfl)).trans ?_
  simp +contextual (maxSteps := 10000000) only [go_sem]
theorem null_c : EV 27 [] [] = some (.ret (Val.mk 1 0 ⟨#[]⟩ []).d, []) := by
  refine (ev_body ⟨[], [], [], true, [], noIt⟩ [.cell 0 46] rfl Tryz.func27 rfl rfl rfl (by kernel_rfl) (by show 0 ≤ 2; decide) (by kernel_rfl)).trans ?_
  simp +contextual (maxSteps := 10000000) only [go_sem]
theorem bool_c (b : Bool) : EV 28 [B b] [] = some (.ret (Val.mk 2 (if b then 1 else 0) ⟨#[]⟩ []).d, []) := by
  refine (ev_body ⟨[], [], [], true, [], noIt⟩ [.cell 2 46] rfl Tryz.func28 rfl rfl rfl (by kernel_rfl) (by show 1 ≤ 8; decide) (by kernel_rfl)).trans ?_
  simp +contextual (maxSteps := 10000000) only [go_sem]
  cases b <;> rfl

theorem valOk : EncOk Val.d 4 := ⟨fun x => by rw [Val.cells]; rfl, by omega, Val.refs, Val.can, fun x => by rw [Val.cells]; rfl, fun x => by rw [Val.cells, if_pos (by decide), Val.fold, Val.eta]⟩
theorem rowV_snoc (l : List Val) (x : Val) : rowE Val.d l ++ [.sc (.int .u8 x.kind), .sc (.int .u64 x.num), .sc (.string x.text), .ro false (x.kids.map Val.d)] = rowE Val.d (l ++ [x]) := by rw [← rowE_snoc, Val.cells]
theorem rowV_one (x : Val) : [.sc (.int .u8 x.kind), .sc (.int .u64 x.num), .sc (.string x.text), .ro false (x.kids.map Val.d)] = rowE Val.d [x] := by rw [← Val.cells]; exact rowE_one x
theorem rowV_refs (l : List Val) : D.refsL (rowE Val.d l) = [] := valOk.row_refs l
theorem fin_vals (l : List Val) : (frzN (stoE Val.d l) (fromB 0) 20 (accE 4 l)).can = .ro false (l.map Val.d) := fin_acc valOk l 19
attribute [go_sem] rowV_refs fin_vals List.take_length

set_option maxHeartbeats 1000000 in
theorem copies_of (l : List Val) (hl : l.length ≤ 40000000000) (hc : ∀ x ∈ l, EV 78 [x.d] [] = some (.ret x.d, [])) : EV 49 [.ro false (l.map Val.d)] [] = some (.ret (.ro false (l.map Val.d)), []) := by
  refine (ev_body ⟨[], [(0, [2, 5, 6, 7])], [], true, [], noIt⟩ [.tmp 2] rfl Tryz.func49 rfl rfl rfl (by kernel_rfl) (by show 1 ≤ 18; decide) (by kernel_rfl)).trans ?_
  simp +contextual (maxSteps := 10000000) only [go_sem]
  refine lpK_inv (fun m0 f es => ∃ (i : Nat) (j : Int) (A : D), j = i ∧ A = accE 4 (l.take i) ∧ m0 = l.length - i ∧ i ≤ l.length ∧ f = [(2, A), (5, .ro false (l.map Val.d)), (6, I l.length), (7, I j)] ∧ es = stoE Val.d (l.take i)) l.length ⟨0, _, _, rfl, rfl, rfl, Nat.zero_le _, rfl, rfl⟩ ?_
  rintro _ _ _ ⟨i, _, _, rfl, rfl, rfl, hi, rfl, rfl⟩ ih
  rcases Nat.lt_or_ge i l.length with hlt | hge
  · obtain ⟨x, hx⟩ : ∃ x, l[i]? = some x := ⟨_, List.getElem?_eq_getElem hlt⟩
    have hcx := hc x (List.mem_of_getElem? hx)
    have hlt' : decide ((i : Int) < l.length) = true := by simpa using hlt
    have hsn := take_snoc hx
    rcases Nat.eq_zero_or_pos i with rfl | hpos
    · simp only [List.take_zero, accE, stoE]
      have hlt0 : decide ((0 : Int) < l.length) = true := by simpa using hlt
      simp +contextual (maxSteps := 10000000) only [go_sem, hx, hcx, hlt0, wrap_i64 (n := 1) (by omega) (by omega)]
      refine ih (l.length - 1) _ _ (by omega) ⟨1, _, _, rfl, ?_, rfl, hlt, rfl, ?_⟩
      · rw [hsn]; rfl
      · rw [hsn, rowV_one]; rfl
    · obtain ⟨y, t, ht, hlen⟩ := take_cons hi hpos
      simp only [ht, accE, stoE, hlen]
      have hb : (i + 1) * 56 ≤ 140737488355328 := by omega
      have hr := valOk.row_len (y :: t)
      rw [hlen] at hr
      simp +contextual (maxSteps := 10000000) only [go_sem, hx, hcx, hlt', hb, hr, wrap_i64 (n := (i : Int) + 1) (by omega) (by omega)]
      refine ih (l.length - (i + 1)) _ _ (by omega) ⟨i + 1, _, _, by omega, ?_, rfl, hlt, rfl, ?_⟩
      · rw [hsn, ht]; simp only [List.cons_append, accE, List.length_cons, List.length_append, List.length_nil] at hlen ⊢; simp only [← hlen]
      · rw [hsn, ht, rowV_snoc]; rfl
  · have hlt' : decide ((i : Int) < l.length) = false := by simpa using hge
    obtain rfl : i = l.length := by omega
    simp +contextual (maxSteps := 10000000) only [go_sem, hlt']
theorem szL_in {l : List Val} {x : Val} (h : x ∈ l) : x.sz ≤ Val.szL l := by
  obtain ⟨i, hi⟩ := List.getElem?_of_mem h
  exact szL_mem hi
theorem copy_c : ∀ (n : Nat) (v : Val), v.sz ≤ n → n ≤ 40000000000 → EV 78 [v.d] [] = some (.ret v.d, [])
  | 0, .mk .., h, _ => by simp [Val.sz] at h
  | n + 1, v, hn, hs => by
    rw [Val.sz_eq] at hn
    have hl := szL_len v.kids
    have hc := copies_of v.kids (by omega) fun x hx => copy_c n x (by have := szL_in hx; omega) (by omega)
    refine (ev_body ⟨[], [], [], true, [], noIt⟩ [.cell 2 46] rfl Tryz.func78 rfl rfl rfl (by kernel_rfl) (by show 1 ≤ 8; decide) (by kernel_rfl)).trans ?_
    simp +contextual (maxSteps := 10000000) only [go_sem, hc]
theorem copies_c (l : List Val) (h : Val.szL l ≤ 40000000000) : EV 49 [.ro false (l.map Val.d)] [] = some (.ret (.ro false (l.map Val.d)), []) :=
  copies_of l (by have := szL_len l; omega) fun x hx => copy_c _ x (szL_in hx) h
theorem many_c (k : Int) (l : List Val) (h : Val.szL l ≤ 40000000000) : EV 22 [.sc (.int .u8 k), .ro false (l.map Val.d)] [] = some (.ret (Val.mk k 0 ⟨#[]⟩ l).d, []) := by
  refine (ev_body ⟨[], [], [], true, [], noIt⟩ [.cell 4 46] rfl Tryz.func22 rfl rfl rfl (by kernel_rfl) (by show 2 ≤ 9; decide) (by kernel_rfl)).trans ?_
  simp +contextual (maxSteps := 10000000) only [go_sem, copies_c l h]
theorem desc_c (a b : Val) (h : a.sz + b.sz ≤ 40000000000) : EV 26 [a.d, b.d] [] = some (.ret (Val.mk 25 0 ⟨#[]⟩ [a, b]).d, []) := by
  refine (ev_body ⟨[2, 3], [], [], true, [], noIt⟩ [.cell 4 46] rfl Tryz.func26 rfl rfl rfl (by kernel_rfl) (by show 2 ≤ 9; decide) (by kernel_rfl)).trans ?_
  have hm := many_c 25 [a, b] (by simp [Val.szL]; omega)
  simp only [List.map_cons, List.map_nil] at hm
  simp +contextual (maxSteps := 10000000) only [go_sem, hm]
end Go.Bw.R1

namespace Go.Bw.R1
set_option maxRecDepth 5000
open Go Go.Bw Go.Proofs

mutual
def Val.items : Val → Nat
  | .mk _ _ _ l => Val.itemsL l + 1
def Val.itemsL : List Val → Nat
  | [] => 0
  | v :: l => v.items + Val.itemsL l
end
mutual
def Val.depth : Val → Nat
  | .mk _ _ _ l => Val.depthL l + 1
def Val.depthL : List Val → Nat
  | [] => 0
  | v :: l => max v.depth (Val.depthL l)
end
theorem Val.items_eq (v : Val) : v.items = Val.itemsL v.kids + 1 := by cases v; rfl
theorem Val.depth_eq (v : Val) : v.depth = Val.depthL v.kids + 1 := by cases v; rfl
mutual
theorem items_sz : ∀ v : Val, v.items ≤ v.sz
  | .mk _ _ t l => by have := itemsL_sz l; simp [Val.items, Val.sz]; omega
theorem itemsL_sz : ∀ l : List Val, Val.itemsL l ≤ Val.szL l
  | [] => Nat.le_refl _
  | v :: l => by have := items_sz v; have := itemsL_sz l; simp [Val.itemsL, Val.szL]; omega
end
mutual
theorem depth_items : ∀ v : Val, v.depth ≤ v.items
  | .mk _ _ t l => by have := depthL_items l; simp only [Val.items, Val.depth]; omega
theorem depthL_items : ∀ l : List Val, Val.depthL l ≤ Val.itemsL l
  | [] => Nat.le_refl _
  | v :: l => by have := depth_items v; have := depthL_items l; simp only [Val.itemsL, Val.depthL]; omega
end
theorem itemsL_app : ∀ (l m : List Val), Val.itemsL (l ++ m) = Val.itemsL l + Val.itemsL m
  | [], m => by simp [Val.itemsL]
  | v :: l, m => by simp [Val.itemsL, itemsL_app l m]; omega
theorem depthL_app : ∀ (l m : List Val), Val.depthL (l ++ m) = max (Val.depthL l) (Val.depthL m)
  | [], m => by simp [Val.depthL]
  | v :: l, m => by simp only [List.cons_append, Val.depthL, depthL_app l m]; omega
theorem szL_app : ∀ (l m : List Val), Val.szL (l ++ m) = Val.szL l + Val.szL m
  | [], m => by simp [Val.szL]
  | v :: l, m => by simp [Val.szL, szL_app l m]; omega
theorem szL_take (l : List Val) (i : Nat) : Val.szL (l.take i) ≤ Val.szL l := by
  have := szL_app (l.take i) (l.drop i)
  rw [List.take_append_drop] at this; omega
theorem get_lt {α : Type} {l : List α} {i : Nat} (h : i < l.length) : ∃ x, l[i]? = some x := ⟨_, List.getElem?_eq_getElem h⟩

end Go.Bw.R1

namespace Go.Bw.R1
set_option maxRecDepth 5000
open Go Go.Bw Go.Proofs
theorem char_c (n : Int) : EV 122 [.sc (.int .u64 n)] [] = some (.ret (B (U.chr n)), []) := by
  refine (ev_body ⟨[], [], [], false, [], noIt⟩ [.tmp 2] rfl Tryz.func122 rfl rfl rfl (by kernel_rfl) (by show 1 ≤ 13; decide) (by kernel_rfl)).trans ?_
  simp +contextual (maxSteps := 10000000) only [go_sem]
  rfl
theorem more_c (n : Int) : EV 132 [.sc (.int .u32 n)] [] = some (.ret (I (U.more n)), []) := by
  refine (ev_body ⟨[], [], [], false, [], noIt⟩ [.tmp 2] rfl Tryz.func132 rfl rfl rfl (by kernel_rfl) (by show 1 ≤ 12; decide) (by kernel_rfl)).trans ?_
  simp +contextual (maxSteps := 10000000) only [go_sem]
  unfold U.more
  simp only [decide_eq_true_eq]
  split
  · rfl
  · split
    · rfl
    · split <;> rfl
theorem first_c (n : Int) (h : U.byteB n) : EV 131 [.sc (.int .u8 n)] [] = some (.ret (.tup [.sc (.int .u32 (U.first n).1), I (U.first n).2.1, B (U.first n).2.2]), []) := by
  refine (ev_body ⟨[], [], [], false, [], noIt⟩ [.tmp 2, .tmp 3, .tmp 4] rfl Tryz.func131 rfl rfl rfl (by kernel_rfl) (by show 1 ≤ 32; decide) (by kernel_rfl)).trans ?_
  obtain ⟨h0, h1⟩ := h
  have a1 : andB .u8 n 7 = n % 8 := and_u8 3 (by decide) (by decide) h0 h1
  have a2 : andB .u8 n 15 = n % 16 := and_u8 4 (by decide) (by decide) h0 h1
  have a3 : andB .u8 n 31 = n % 32 := and_u8 5 (by decide) (by decide) h0 h1
  simp +contextual (maxSteps := 10000000) only [go_sem, a1, a2, a3, fit_u32 (n := n) h0 (by omega), fit_u32 (n := n % 8) (by omega) (by omega), fit_u32 (n := n % 16) (by omega) (by omega), fit_u32 (n := n % 32) (by omega) (by omega)]
  unfold U.first
  simp only [decide_eq_true_eq, Bool.or_eq_true]
  split
  · rfl
  · split
    · rfl
    · split
      · rfl
      · split <;> rfl
def bl (s : ByteArray) : List Int := s.data.toList.map fun b => (b.toNat : Int)
theorem bl_len (s : ByteArray) : (bl s).length = s.size := by rw [bl, List.length_map]; rfl
theorem bl_byte {s : ByteArray} {x : Int} (h : x ∈ bl s) : U.byteB x := by
  obtain ⟨b, _, rfl⟩ := List.mem_map.1 h
  have := b.toNat_lt
  exact ⟨by omega, by omega⟩
theorem bl_at {s : ByteArray} {i : Nat} {x : Int} (h : (bl s)[i]? = some x) : (bytesD s)[i]? = some (.sc (.int .u8 x)) := by
  unfold bl at h
  rw [List.getElem?_map, Option.map_eq_some_iff] at h
  obtain ⟨b, h1, rfl⟩ := h
  unfold bytesD
  rw [List.getElem?_map, h1]; rfl
theorem bl_hd {s : ByteArray} {i : Nat} {x : Int} (h : (bl s)[i]? = some x) : i + 1 ≤ s.size ∧ ((bytesD s).drop i |>.take 1).head? = some (.sc (.int .u8 x)) := by
  have h1 := bl_at h
  obtain ⟨hl, _⟩ := List.getElem?_eq_some_iff.1 h1
  rw [bytesD_len] at hl
  refine ⟨hl, ?_⟩
  rw [List.head?_take]
  simp only [Nat.one_ne_zero, if_false]
  rw [List.head?_drop]; exact h1
theorem drop_at {α : Type} {l r : List α} {x : α} {off : Nat} (h : l.drop off = x :: r) : l[off]? = some x ∧ l.drop (off + 1) = r := by
  have h1 : (l.drop off)[0]? = some x := by rw [h]; rfl
  rw [List.getElem?_drop] at h1
  refine ⟨by simpa using h1, ?_⟩
  rw [← List.drop_drop, h]; rfl
/-- a slice's rest -/
structure Sl (s : ByteArray) (off len : Nat) (l : List Int) : Prop where
  all : off + len = s.size
  rest : (bl s).drop off = l
theorem Sl.len {s : ByteArray} {off len : Nat} {l : List Int} (h : Sl s off len l) : l.length = len := by
  rw [← h.rest, List.length_drop, bl_len]; have := h.all; omega
theorem Sl.byte {s : ByteArray} {off len : Nat} {l : List Int} (h : Sl s off len l) : ∀ x ∈ l, U.byteB x := fun x hx => by
  rw [← h.rest] at hx; exact bl_byte (List.mem_of_mem_drop hx)
/-- what char tells, by its first byte -/
def charK (len k : Nat) (o : Option Int) : Int × Nat :=
  if len ≤ k then (0, 0) else match o with
    | none => (0, 0)
    | some c => if U.chr c = false ∨ U.more c ≠ k then (0, 0) else (c, k + 1)
theorem char_eqK {x : Int} {r : List Int} {b : Int} {k : Nat} (hf : U.first x = (b, k, true)) : U.char (x :: r) = charK (r.length + 1) k (U.cont k b r) := by
  simp only [U.char, hf, charK]
  by_cases h : r.length < k
  · rw [if_pos (.inr h), if_pos (by omega)]
  · rw [if_neg (by simp <;> omega), if_neg (by omega)]
    all_goals (cases U.cont k b r <;> rfl)
abbrev chZ (es : Sto) : Option (R × Sto) := some (.ret (.tup [.sc (.int .u32 0), I 0]), es)
abbrev chR (p : Int × Nat) (es : Sto) : Option (R × Sto) := some (.ret (.tup [.sc (.int .u32 p.1), I p.2]), es)
theorem chk_end {len k : Nat} {c m : Int} {es : Sto} (hl : k < len) (hm : m = (k : Int) + 1) : (if (!U.chr c || (U.more c : Int) != (k : Int)) = true then chZ es else some (.ret (.tup [.sc (.int .u32 c), I m]), es)) = chR (charK len k (some c)) es := by
  subst hm
  have e : charK len k (some c) = if U.chr c = false ∨ U.more c ≠ k then (0, 0) else (c, k + 1) := by
    unfold charK; rw [if_neg (by omega)]
  rw [e]
  by_cases h : U.chr c = false ∨ U.more c ≠ k
  · rw [if_pos h, if_pos]
    · rfl
    · rcases h with h | h
      · simp [h]
      · simp only [Bool.or_eq_true, bne_iff_ne, ne_eq]; right; omega
  · rw [if_neg h, if_neg]
    · rfl
    · simp only [not_or, Bool.not_eq_false, ne_eq, Decidable.not_not] at h
      simp [h.1, h.2]
theorem chk_none {len k : Nat} {es : Sto} : chZ es = chR (charK len k none) es := by
  have e : charK len k none = (0, 0) := by unfold charK; split <;> rfl
  rw [e]; rfl
theorem chk_cont {len k n : Nat} {y c : Int} {r : List Int} {es : Sto} {z : Option (R × Sto)} (h : z = chR (charK len k (U.cont n (c * 64 + y % 64) r)) es) : (if (y / 64 != 2) = true then chZ es else z) = chR (charK len k (U.cont (n + 1) c (y :: r))) es := by
  rw [U.cont]
  by_cases hy : y / 64 = 2
  · rw [if_pos hy, if_neg (by simp [hy])]; exact h
  · rw [if_neg hy, if_pos (by simpa using hy)]; exact chk_none
theorem fd64 {y : Int} (h : 0 ≤ y) : y.fdiv 64 = y / 64 := Int.fdiv_eq_ediv_of_nonneg y (by decide)
theorem chk_short {len k : Nat} {o : Option Int} {es : Sto} (h : len ≤ k) : chZ es = chR (charK len k o) es := by
  have e : charK len k o = (0, 0) := by unfold charK; rw [if_pos h]
  rw [e]; rfl
set_option maxHeartbeats 1000000 in
theorem uchar_c (s : ByteArray) (off len : Nat) (l : List Int) (hs : Sl s off len l) (hpos : 0 < len) : EV 97 [.ref 0 0 1 off len] [some ⟨0, bytesD s⟩] = some (.ret (.tup [.sc (.int .u32 (U.char l).1), I (U.char l).2]), [some ⟨0, bytesD s⟩]) := by
  refine (ev_body ⟨[], [(1000000, [0, 4, 5, 7])], [], false, [], noIt⟩ [.tmp 2, .tmp 3] rfl Tryz.func97 rfl rfl rfl (by kernel_rfl) (by show 1 ≤ 57; decide) (by kernel_rfl)).trans ?_
  simp +contextual (maxSteps := 10000000) only [go_sem]
  refine (run_scope 0 rfl rfl).trans ?_
  have hlen := hs.len
  cases l with
  | nil => simp at hlen; omega
  | cons x r =>
    have hx := hs.byte x (List.mem_cons_self ..)
    obtain ⟨d0, d1⟩ := drop_at hs.rest
    have hb := bl_at d0
    have hf := first_c x hx
    have h0 : (0 : Int) < len := by omega
    have h0' : off < (bytesD s).length := by rw [bytesD_len]; have := hs.all; omega
    obtain ⟨c0, c1⟩ := bl_hd d0
    obtain ⟨hx0, hx1⟩ := hx
    rcases (by omega : x < 128 ∨ (128 ≤ x ∧ (248 ≤ x ∨ x < 192)) ∨ (192 ≤ x ∧ x < 224) ∨ (224 ≤ x ∧ x < 240) ∨ (240 ≤ x ∧ x < 248)) with k | ⟨k, k'⟩ | ⟨k, k'⟩ | ⟨k, k'⟩ | ⟨k, k'⟩
    · have hfx := U.first1 k
      rw [char_eqK hfx]
      rw [hfx] at hf
      simp +contextual (maxSteps := 10000000) only [go_sem, hf, h0, c0, c1, char_c, more_c, jpK_go, fit_u64 hx0 (by omega)]
      rw [if_neg (by simp <;> omega)]
      exact chk_end (k := 0) (by simp) rfl
    · have hfx := U.first0 k k'
      rw [hfx] at hf
      have e : U.char (x :: r) = (0, 0) := by simp [U.char, hfx]
      rw [e]
      simp +contextual (maxSteps := 10000000) only [go_sem, hf, h0, c0, c1]
    · have hfx := U.first2 k k'
      rw [char_eqK hfx]
      rw [hfx] at hf
      cases r with
      | nil =>
        have hl1 : decide ((len : Int) ≤ 1) = true := by simp at hlen; simp; omega
        simp +contextual (maxSteps := 10000000) only [go_sem, hf, h0, c0, c1, hl1]
        exact chk_short (by simp)
      | cons y r =>
        have hl1 : decide ((len : Int) ≤ 1) = false := by simp at hlen; simp; omega
        have i1 : (1 : Int) < len := by simp at hlen; omega
        obtain ⟨e0, e1⟩ := drop_at d1
        obtain ⟨g0, g1⟩ := bl_hd e0
        obtain ⟨hy0, hy1⟩ := hs.byte y (by simp)
        have m1 : andB .u8 y 63 = y % 64 := and_u8 6 (by decide) (by decide) hy0 hy1
        have w1 : IntKind.u32.wrap (x % 32 * 64) = x % 32 * 64 := fit_u32 (by omega) (by omega)
        have o1 : orB .u32 (x % 32 * 64) (y % 64) = x % 32 * 64 + y % 64 := or_u32 6 rfl (by omega) (by omega) (by omega) (by omega)
        simp +contextual (maxSteps := 10000000) only [go_sem, hf, h0, c0, c1, hl1, char_c, more_c, jpK_go, i1, g0, g1, m1, w1, o1, fd64 hy0, fit_u32 (n := y % 64) (by omega) (by omega), fit_u64 (n := x % 32 * 64 + y % 64) (by omega) (by omega)]
        exact chk_cont (chk_end (k := 1) (by simp) rfl)
    · have hfx := U.first3 k k'
      rw [char_eqK hfx]
      rw [hfx] at hf
      match r, hs, d1, hlen with
      | [], hs, d1, hlen =>
        have hl1 : decide ((len : Int) ≤ 2) = true := by simp at hlen; simp; omega
        simp +contextual (maxSteps := 10000000) only [go_sem, hf, h0, c0, c1, hl1]
        exact chk_short (by simp)
      | [y], hs, d1, hlen =>
        have hl1 : decide ((len : Int) ≤ 2) = true := by simp at hlen; simp; omega
        simp +contextual (maxSteps := 10000000) only [go_sem, hf, h0, c0, c1, hl1]
        exact chk_short (by simp)
      | y :: z :: r, hs, d1, hlen =>
        have hl1 : decide ((len : Int) ≤ 2) = false := by simp at hlen; simp; omega
        have i1 : (1 : Int) < len := by simp at hlen; omega
        have i2 : (2 : Int) < len := by simp at hlen; omega
        obtain ⟨e0, e1⟩ := drop_at d1
        obtain ⟨g0, g1⟩ := bl_hd e0
        obtain ⟨e2, e3⟩ := drop_at e1
        obtain ⟨g2, g3⟩ := bl_hd e2
        obtain ⟨hy0, hy1⟩ := hs.byte y (by simp)
        obtain ⟨hz0, hz1⟩ := hs.byte z (by simp)
        have m1 : andB .u8 y 63 = y % 64 := and_u8 6 (by decide) (by decide) hy0 hy1
        have m2 : andB .u8 z 63 = z % 64 := and_u8 6 (by decide) (by decide) hz0 hz1
        have w1 : IntKind.u32.wrap (x % 16 * 64) = x % 16 * 64 := fit_u32 (by omega) (by omega)
        have o1 : orB .u32 (x % 16 * 64) (y % 64) = x % 16 * 64 + y % 64 := or_u32 6 rfl (by omega) (by omega) (by omega) (by omega)
        have w2 : IntKind.u32.wrap ((x % 16 * 64 + y % 64) * 64) = (x % 16 * 64 + y % 64) * 64 := fit_u32 (by omega) (by omega)
        have o2 : orB .u32 ((x % 16 * 64 + y % 64) * 64) (z % 64) = (x % 16 * 64 + y % 64) * 64 + z % 64 := or_u32 6 rfl (by omega) (by omega) (by omega) (by omega)
        simp +contextual (maxSteps := 10000000) only [go_sem, hf, h0, c0, c1, hl1, char_c, more_c, jpK_go, i1, i2, g0, g1, g2, g3, m1, w1, o1, m2, w2, o2, fd64 hy0, fd64 hz0, fit_u32 (n := y % 64) (by omega) (by omega), fit_u32 (n := z % 64) (by omega) (by omega), fit_u64 (n := (x % 16 * 64 + y % 64) * 64 + z % 64) (by omega) (by omega)]
        exact chk_cont (chk_cont (chk_end (k := 2) (by simp) rfl))
    · have hfx := U.first4 k k'
      rw [char_eqK hfx]
      rw [hfx] at hf
      match r, hs, d1, hlen with
      | [], hs, d1, hlen =>
        have hl1 : decide ((len : Int) ≤ 3) = true := by simp at hlen; simp; omega
        simp +contextual (maxSteps := 10000000) only [go_sem, hf, h0, c0, c1, hl1]
        exact chk_short (by simp)
      | [y], hs, d1, hlen =>
        have hl1 : decide ((len : Int) ≤ 3) = true := by simp at hlen; simp; omega
        simp +contextual (maxSteps := 10000000) only [go_sem, hf, h0, c0, c1, hl1]
        exact chk_short (by simp)
      | [y, z], hs, d1, hlen =>
        have hl1 : decide ((len : Int) ≤ 3) = true := by simp at hlen; simp; omega
        simp +contextual (maxSteps := 10000000) only [go_sem, hf, h0, c0, c1, hl1]
        exact chk_short (by simp)
      | y :: z :: u :: r, hs, d1, hlen =>
        have hl1 : decide ((len : Int) ≤ 3) = false := by simp at hlen; simp; omega
        have i1 : (1 : Int) < len := by simp at hlen; omega
        have i2 : (2 : Int) < len := by simp at hlen; omega
        have i3 : (3 : Int) < len := by simp at hlen; omega
        obtain ⟨e0, e1⟩ := drop_at d1
        obtain ⟨g0, g1⟩ := bl_hd e0
        obtain ⟨e2, e3⟩ := drop_at e1
        obtain ⟨g2, g3⟩ := bl_hd e2
        obtain ⟨e4, e5⟩ := drop_at e3
        obtain ⟨g4, g5⟩ := bl_hd e4
        obtain ⟨hy0, hy1⟩ := hs.byte y (by simp)
        obtain ⟨hz0, hz1⟩ := hs.byte z (by simp)
        obtain ⟨hu0, hu1⟩ := hs.byte u (by simp)
        have m1 : andB .u8 y 63 = y % 64 := and_u8 6 (by decide) (by decide) hy0 hy1
        have m2 : andB .u8 z 63 = z % 64 := and_u8 6 (by decide) (by decide) hz0 hz1
        have m3 : andB .u8 u 63 = u % 64 := and_u8 6 (by decide) (by decide) hu0 hu1
        have w1 : IntKind.u32.wrap (x % 8 * 64) = x % 8 * 64 := fit_u32 (by omega) (by omega)
        have o1 : orB .u32 (x % 8 * 64) (y % 64) = x % 8 * 64 + y % 64 := or_u32 6 rfl (by omega) (by omega) (by omega) (by omega)
        have w2 : IntKind.u32.wrap ((x % 8 * 64 + y % 64) * 64) = (x % 8 * 64 + y % 64) * 64 := fit_u32 (by omega) (by omega)
        have o2 : orB .u32 ((x % 8 * 64 + y % 64) * 64) (z % 64) = (x % 8 * 64 + y % 64) * 64 + z % 64 := or_u32 6 rfl (by omega) (by omega) (by omega) (by omega)
        have w3 : IntKind.u32.wrap (((x % 8 * 64 + y % 64) * 64 + z % 64) * 64) = ((x % 8 * 64 + y % 64) * 64 + z % 64) * 64 := fit_u32 (by omega) (by omega)
        have o3 : orB .u32 (((x % 8 * 64 + y % 64) * 64 + z % 64) * 64) (u % 64) = ((x % 8 * 64 + y % 64) * 64 + z % 64) * 64 + u % 64 := or_u32 6 rfl (by omega) (by omega) (by omega) (by omega)
        simp +contextual (maxSteps := 10000000) only [go_sem, hf, h0, c0, c1, hl1, char_c, more_c, jpK_go, i1, i2, i3, g0, g1, g2, g3, g4, g5, m1, w1, o1, m2, w2, o2, m3, w3, o3, fd64 hy0, fd64 hz0, fd64 hu0, fit_u32 (n := y % 64) (by omega) (by omega), fit_u32 (n := z % 64) (by omega) (by omega), fit_u32 (n := u % 64) (by omega) (by omega), fit_u64 (n := ((x % 8 * 64 + y % 64) * 64 + z % 64) * 64 + u % 64) (by omega) (by omega)]
        exact chk_cont (chk_cont (chk_cont (chk_end (k := 3) (by simp) rfl)))
end Go.Bw.R1

namespace Go.Bw.R1
set_option maxRecDepth 5000
open Go Go.Bw Go.Proofs
theorem chars_fuel : ∀ (k : Nat) (l : List Int), l.length ≤ k → U.chars k l = U.chars l.length l
  | 0, [], _ => rfl
  | 0, _ :: _, h => by simp at h
  | k + 1, [], _ => rfl
  | k + 1, x :: r, h => by
    have hl : r.length ≤ k := by simpa using h
    rw [List.length_cons, U.chars, U.chars]
    by_cases hn : (U.char (x :: r)).2 = 0
    · rw [if_pos hn, if_pos hn]
    · rw [if_neg hn, if_neg hn]
      have hd : ((x :: r).drop (U.char (x :: r)).2).length ≤ r.length := by rw [List.length_drop, List.length_cons]; omega
      rw [chars_fuel k _ (by omega), chars_fuel r.length _ hd]
termination_by k l => k
theorem char_le (l : List Int) : (U.char l).2 ≤ l.length := by
  cases l with
  | nil => simp [U.char]
  | cons x r =>
    simp only [U.char]
    split
    · exact Nat.zero_le _
    · rename_i h
      split
      · exact Nat.zero_le _
      · split
        · exact Nat.zero_le _
        · simp at h ⊢; omega
/-- the characters of a text -/
def charsA (l : List Int) : Option (List Int) := U.chars l.length l
theorem charsA_cons {x : Int} {r : List Int} {c : Int} {n : Nat} (h : U.char (x :: r) = (c, n)) : charsA (x :: r) = if n = 0 then none else (charsA ((x :: r).drop n)).map (c :: ·) := by
  unfold charsA
  rw [List.length_cons, U.chars, h]
  simp only
  by_cases hn : n = 0
  · rw [if_pos hn, if_pos hn]
  · rw [if_neg hn, if_neg hn, chars_fuel _ _ (by rw [List.length_drop, List.length_cons]; omega)]
def chU (o : Option (List Int)) : D := .tup [.ro false ((o.getD []).map (nums .u32)), B o.isSome]
theorem Sl.next {s : ByteArray} {off len n : Nat} {l : List Int} (h : Sl s off len l) (hn : n ≤ len) : Sl s (off + n) (len - n) (l.drop n) :=
  ⟨by have := h.all; omega, by rw [← List.drop_drop, h.rest]⟩
def ChI (s : ByteArray) (m : Nat) (f : Fr) (es : Sto) : Prop := ∃ (off : Nat) (l acc : List Int) (b0 : D), Sl s off m l ∧ acc.length ≤ off ∧ charsA (bl s) = (charsA l).map (acc ++ ·) ∧ (b0 = .ref 0 0 1 off m ∨ (m = 0 ∧ b0 = .ro false [])) ∧ f = [(0, b0), (4, accB 1 1 acc)] ∧ es = stoB (nums .u32) [some ⟨0, bytesD s⟩] acc
set_option maxHeartbeats 1000000 in
theorem uchars_c (s : ByteArray) (hs : s.size ≤ 40000000000) : EV 60 [.ref 0 0 1 0 s.size] [some ⟨0, bytesD s⟩] = some (.ret (chU (charsA (bl s))), [some ⟨0, bytesD s⟩]) := by
  refine (ev_body ⟨[], [(0, [0, 4])], [], true, [], noIt⟩ [.tmp 2, .tmp 3] rfl Tryz.func60 rfl rfl rfl (by kernel_rfl) (by show 1 ≤ 25; decide) (by kernel_rfl)).trans ?_
  simp +contextual (maxSteps := 10000000) only [go_sem]
  refine lpK_inv (ChI s) s.size ⟨0, bl s, [], _, ⟨Nat.zero_add _, rfl⟩, Nat.zero_le _, by cases charsA (bl s) <;> rfl, .inl rfl, rfl, rfl⟩ ?_
  rintro len f es ⟨off, l, acc, b0, hl, ha, hc, hb0, rfl, rfl⟩ ih
  have hlen := hl.len
  cases l with
  | nil =>
    obtain rfl : len = 0 := by simpa using hlen.symm
    have e : charsA (bl s) = some acc := by rw [hc]; simp [charsA, U.chars]
    rw [e]
    rcases hb0 with rfl | ⟨-, rfl⟩
    · rcases acc with _ | ⟨y, t⟩
      · simp only [accB_nil, stoB_nil]
        simp +contextual (maxSteps := 10000000) only [go_sem, chU]
      · simp only [accB_cons, stoB_cons, List.cons_append, List.nil_append]
        simp +contextual (maxSteps := 10000000) only [go_sem, chU, nums_refs, nums_refsL, nums_can, nums_canL]
    · rcases acc with _ | ⟨y, t⟩
      · simp only [accB_nil, stoB_nil]
        simp +contextual (maxSteps := 10000000) only [go_sem, chU]
      · simp only [accB_cons, stoB_cons, List.cons_append, List.nil_append]
        simp +contextual (maxSteps := 10000000) only [go_sem, chU, nums_refs, nums_refsL, nums_can, nums_canL]
  | cons x r =>
    obtain ⟨c, n, hcn⟩ : ∃ c n, U.char (x :: r) = (c, n) := ⟨_, _, rfl⟩
    have hu := uchar_c s off len (x :: r) hl (by simp at hlen; omega)
    rw [hcn] at hu
    have h0 : (0 : Int) < len := by simp at hlen; omega
    have hn := char_le (x :: r)
    rw [hcn] at hn
    rw [hlen] at hn
    simp only at hn
    obtain rfl : b0 = .ref 0 0 1 off len := by
      rcases hb0 with rfl | ⟨rfl, rfl⟩
      · rfl
      · simp at hlen
    have hsz := hl.all
    by_cases hn0 : n = 0
    · subst hn0
      have e : charsA (bl s) = none := by rw [hc, charsA_cons hcn, if_pos rfl]; rfl
      rw [e]
      rcases acc with _ | ⟨y, t⟩
      · simp only [accB_nil, stoB_nil]
        simp +contextual (maxSteps := 10000000) only [go_sem, hu, h0, chU]
        rfl
      · simp only [accB_cons, stoB_cons, List.cons_append, List.nil_append]
        simp +contextual (maxSteps := 10000000) only [go_sem, hu, h0, chU]
        rfl
    · have hnz : ((n : Int) == 0) = false := by simp <;> omega
      have hnx : charsA (bl s) = (charsA ((x :: r).drop n)).map ((acc ++ [c]) ++ ·) := by
        rw [hc, charsA_cons hcn, if_neg hn0, Option.map_map]; congr 1; funext z; simp
      have hac : (acc ++ [c]).length ≤ off + n := by simp <;> omega
      by_cases hnl : n = len
      · subst hnl
        rcases acc with _ | ⟨y, t⟩
        · simp only [accB_nil, stoB_nil]
          simp +contextual (maxSteps := 10000000) only [go_sem, hu, h0, hnz, hn0]
          refine ih 0 _ _ (by omega) ⟨off + n, _, [] ++ [c], _, by simpa using hl.next (Nat.le_refl n), hac, hnx, .inr ⟨rfl, rfl⟩, rfl, rfl⟩
        · simp only [accB_cons, stoB_cons, List.cons_append, List.nil_append]
          have hcap : (t.length + 1 + 1) * 4 ≤ 140737488355328 := by simp at ha; omega
          simp +contextual (maxSteps := 10000000) only [go_sem, hu, h0, hnz, hn0, hcap, Nat.mul_one, List.length_cons]
          refine ih 0 _ _ (by omega) ⟨off + n, _, (y :: t) ++ [c], _, by simpa using hl.next (Nat.le_refl n), hac, hnx, .inr ⟨rfl, rfl⟩, by rw [accB_snoc]; rfl, by rw [stoB_snoc]; rfl⟩
      · rcases acc with _ | ⟨y, t⟩
        · simp only [accB_nil, stoB_nil]
          simp +contextual (maxSteps := 10000000) only [go_sem, hu, h0, hnz, hn0, hn, hnl, Nat.mul_one]
          refine ih (len - n) _ _ (by omega) ⟨off + n, _, [] ++ [c], _, hl.next hn, hac, hnx, .inl rfl, rfl, rfl⟩
        · simp only [accB_cons, stoB_cons, List.cons_append, List.nil_append]
          have hcap : (t.length + 1 + 1) * 4 ≤ 140737488355328 := by simp at ha; omega
          simp +contextual (maxSteps := 10000000) only [go_sem, hu, h0, hnz, hn0, hn, hnl, hcap, Nat.mul_one, List.length_cons]
          refine ih (len - n) _ _ (by omega) ⟨off + n, _, (y :: t) ++ [c], _, hl.next hn, hac, hnx, .inl rfl, by rw [accB_snoc]; rfl, by rw [stoB_snoc]; rfl⟩
end Go.Bw.R1

namespace Go.Bw.R1
set_option maxRecDepth 5000
open Go Go.Bw Go.Proofs
theorem uright_c (s : ByteArray) (hs : s.size ≤ 40000000000) : EV 32 [.ref 0 0 1 0 s.size] [some ⟨0, bytesD s⟩] = some (.ret (B (charsA (bl s)).isSome), [some ⟨0, bytesD s⟩]) := by
  refine (ev_body ⟨[], [], [], false, [], noIt⟩ [.tmp 2] rfl Tryz.func32 rfl rfl rfl (by kernel_rfl) (by show 1 ≤ 11; decide) (by kernel_rfl)).trans ?_
  have h := uchars_c s hs
  simp only [chU] at h
  simp +contextual (maxSteps := 10000000) only [go_sem, h]
def asc (l : List Int) : Bool := l.all fun x => decide (x < 128)
theorem asc_cons (x : Int) (l : List Int) : asc (x :: l) = (decide (x < 128) && asc l) := rfl
set_option maxHeartbeats 1000000 in
theorem uascii_c (s : ByteArray) (hs : s.size ≤ 40000000000) : EV 123 [.ref 0 0 1 0 s.size] [some ⟨0, bytesD s⟩] = some (.ret (B (asc (bl s))), [some ⟨0, bytesD s⟩]) := by
  refine (ev_body ⟨[], [(0, [5, 6, 7])], [], false, [], noIt⟩ [.tmp 2] rfl Tryz.func123 rfl rfl rfl (by kernel_rfl) (by show 1 ≤ 14; decide) (by kernel_rfl)).trans ?_
  simp +contextual (maxSteps := 10000000) only [go_sem]
  refine lpK_inv (fun m f es => ∃ (i : Nat) (l : List Int), i + m = s.size ∧ (bl s).drop i = l ∧ asc (bl s) = asc l ∧ f = [(5, .ref 0 0 1 0 s.size), (6, I s.size), (7, I i)] ∧ es = [some ⟨0, bytesD s⟩]) s.size ⟨0, _, Nat.zero_add _, rfl, rfl, rfl, rfl⟩ ?_
  rintro m f es ⟨i, l, hi, hl, ha, rfl, rfl⟩ ih
  have hlen := congrArg List.length hl
  rw [List.length_drop, bl_len] at hlen
  cases l with
  | nil =>
    have hlt : decide ((i : Int) < s.size) = false := by simp at hlen; simp; omega
    rw [ha]
    simp +contextual (maxSteps := 10000000) only [go_sem, hlt]
    rfl
  | cons x r =>
    have hlt : decide ((i : Int) < s.size) = true := by simp at hlen; simp; omega
    have hlt' : (i : Int) < s.size := by simp at hlen; omega
    obtain ⟨d0, d1⟩ := drop_at hl
    obtain ⟨c0, c1⟩ := bl_hd d0
    rw [ha, asc_cons]
    simp +contextual (maxSteps := 10000000) only [go_sem, hlt, hlt', c0, c1, Nat.zero_add, wrap_i64 (n := (i : Int) + 1) (by omega) (by omega)]
    refine ite_intro (fun h => ?_) (fun h => ?_)
    · have : decide (x < 128) = false := by simp at h; simp; omega
      rw [this]; rfl
    · have : decide (x < 128) = true := by simp at h; simp; omega
      have ht : asc (bl s) = asc r := by rw [ha, asc_cons, this]; rfl
      rw [this, Bool.true_and, ← ht]
      exact ih (m - 1) _ _ (by omega) ⟨i + 1, r, by omega, d1, ht, by simp only [Int.natCast_add, Int.cast_ofNat_Int], rfl⟩
end Go.Bw.R1

namespace Go.Bw.R1
set_option maxRecDepth 5000
open Go Go.Bw Go.Proofs
end Go.Bw.R1

namespace Go.Bw.R1
set_option maxRecDepth 5000
open Go Go.Bw Go.Proofs
end Go.Bw.R1

namespace Go.Bw.R1
set_option maxRecDepth 5000
open Go Go.Bw Go.Proofs
theorem ite_ret {p : Prop} [Decidable p] {a b : Bool} {es : Sto} : (if p then some (R.ret (D.sc (.bool a)), es) else some (R.ret (D.sc (.bool b)), es)) = some (R.ret (D.sc (.bool (if p then a else b))), es) := by split <;> rfl
/-- a number with a sign, of so many bits -/
def sg (lo n : Int) : Bool := decide (-lo ≤ IntKind.i64.wrap n) && decide (IntKind.i64.wrap n < lo)
theorem sg_eq {lo c n : Int} (hl : lo * c = 9223372036854775808) (hc : c = 72057594037927936 ∨ c = 281474976710656 ∨ c = 4294967296) : ((IntKind.i64.wrap (IntKind.i64.wrap n * c)).fdiv c == IntKind.i64.wrap n) = sg lo n := by
  have hr : -9223372036854775808 ≤ IntKind.i64.wrap n ∧ IntKind.i64.wrap n ≤ 9223372036854775807 := by rw [wrap_i64_eq]; split <;> omega
  unfold sg
  generalize IntKind.i64.wrap n = x at *
  have hp : 0 ≤ c := by omega
  rw [Int.fdiv_eq_ediv_of_nonneg _ hp, Bool.eq_iff_iff]
  simp only [beq_iff_eq, Bool.and_eq_true, decide_eq_true_eq]
  rw [wrap_i64_eq]
  rcases hc with rfl | rfl | rfl
  · obtain rfl : lo = 128 := by omega
    split <;> omega
  · obtain rfl : lo = 32768 := by omega
    split <;> omega
  · obtain rfl : lo = 2147483648 := by omega
    split <;> omega
theorem signed8 (n : Int) : EV 121 [.sc (.int .u64 n), I 8] [] = some (.ret (B (sg 128 n)), []) := by
  refine (ev_body ⟨[], [], [], false, [], noIt⟩ [.tmp 4] rfl Tryz.func121 rfl rfl rfl (by kernel_rfl) (by show 2 ≤ 17; decide) (by kernel_rfl)).trans ?_
  simp +contextual (maxSteps := 10000000) only [go_sem]
  rw [sg_eq (lo := 128) rfl (.inl rfl)]
theorem signed16 (n : Int) : EV 121 [.sc (.int .u64 n), I 16] [] = some (.ret (B (sg 32768 n)), []) := by
  refine (ev_body ⟨[], [], [], false, [], noIt⟩ [.tmp 4] rfl Tryz.func121 rfl rfl rfl (by kernel_rfl) (by show 2 ≤ 17; decide) (by kernel_rfl)).trans ?_
  simp +contextual (maxSteps := 10000000) only [go_sem]
  rw [sg_eq (lo := 32768) rfl (.inr (.inl rfl))]
theorem signed32 (n : Int) : EV 121 [.sc (.int .u64 n), I 32] [] = some (.ret (B (sg 2147483648 n)), []) := by
  refine (ev_body ⟨[], [], [], false, [], noIt⟩ [.tmp 4] rfl Tryz.func121 rfl rfl rfl (by kernel_rfl) (by show 2 ≤ 17; decide) (by kernel_rfl)).trans ?_
  simp +contextual (maxSteps := 10000000) only [go_sem]
  rw [sg_eq (lo := 2147483648) rfl (.inr (.inr rfl))]
def numS (k n : Int) : Bool :=
  if (k == 2) = true then decide (n ≤ 1) else if (k == 3) = true then decide (n < 256) else if (k == 4) = true then decide (n < 65536)
  else if (k == 5) = true then decide (n < 4294967296) else if (k == 11) = true then decide (n < 4294967296) else if (k == 7) = true then sg 128 n else if (k == 8) = true then sg 32768 n
  else if (k == 9) = true then sg 2147483648 n else if (k == 13) = true then U.chr n else if (k == 6) = true then true else if (k == 10) = true then true else if (k == 14) = true then true else if (k == 12) = true then true else (n == 0)
theorem fd0 {n c : Int} (h : 0 ≤ n) (hc : 0 < c) : (n.fdiv c == 0) = decide (n < c) := by
  rw [Int.fdiv_eq_ediv_of_nonneg _ (by omega), Bool.eq_iff_iff]
  simp only [beq_iff_eq, decide_eq_true_eq]
  constructor
  · intro hh
    have := Int.emod_lt_of_pos n hc
    have h2 := Int.emod_add_mul_ediv n c
    rw [hh] at h2; omega
  · intro hh; exact Int.ediv_eq_zero_of_lt h hh
set_option maxHeartbeats 2000000 in
theorem num_c (v : Val) (h : 0 ≤ v.num) : EV 88 [v.d] [] = some (.ret (B (numS v.kind v.num)), []) := by
  refine (ev_body ⟨[1], [], [], false, [], noIt⟩ [.tmp 2] rfl Tryz.func88 rfl rfl rfl (by kernel_rfl) (by show 1 ≤ 51; decide) (by kernel_rfl)).trans ?_
  simp +contextual (maxSteps := 10000000) only [go_sem, char_c, signed8, signed16, signed32, fd0 (c := 256) h (by decide), fd0 (c := 65536) h (by decide), fd0 (c := 4294967296) h (by decide)]
  simp only [ite_ret]
  rfl
def textS (k : Int) (t : ByteArray) : Bool :=
  if (k == 15) = true then ((t.size : Int) == 16) else if (k == 18) = true then ((t.size : Int) == 16) else if (k == 17) = true then ((t.size : Int) == 8) else if (k == 16) = true then ((t.size : Int) == 4) else if (k == 19) = true then true
  else if (k == 20) = true then (charsA (bl t)).isSome else if (k == 21) = true then asc (bl t) else decide (t = ⟨#[]⟩)
set_option maxHeartbeats 2000000 in
theorem txt_c (v : Val) (h : v.text.size ≤ 40000000000) : EV 89 [v.d] [] = some (.ret (B (textS v.kind v.text)), []) := by
  refine (ev_body ⟨[1], [], [], false, [], noIt⟩ [.tmp 2] rfl Tryz.func89 rfl rfl rfl (by kernel_rfl) (by show 1 ≤ 41; decide) (by kernel_rfl)).trans ?_
  simp +contextual (maxSteps := 10000000) only [go_sem, uright_c v.text h, uascii_c v.text h]
  simp only [ite_ret]
  rfl
end Go.Bw.R1

namespace Go.Bw.R1
set_option maxRecDepth 5000
open Go Go.Bw Go.Proofs
theorem fb {k j : Int} (h : k ≠ j) : (k == j) = false := by simpa using h
end Go.Bw.R1

namespace Go.Bw.R1
set_option maxRecDepth 5000
open Go Go.Bw Go.Proofs
set_option maxHeartbeats 1000000 in
theorem eqfunc_of (l m : List Val) (hl : l.length ≤ 40000000000) (hs : ∀ x ∈ l, ∀ y, EV 166 [x.d, y.d] [] = some (.ret (B (same x y)), [])) : EV 181 [.ro false (l.map Val.d), .ro false (m.map Val.d), .fn (.func 166) [] []] [] = some (.ret (B (sameL l m)), []) := by
  refine (ev_body ⟨[], [(0, [1, 2, 15, 16, 17])], [], false, [], noIt⟩ [.tmp 6] rfl Tryz.func181 rfl rfl rfl (by kernel_rfl) (by show 3 ≤ 32; decide) (by kernel_rfl)).trans ?_
  simp +contextual (maxSteps := 10000000) only [go_sem]
  refine ite_intro (fun h => ?_) (fun h => ?_)
  · have : sameL l m = false := sameL_len (by simp at h <;> omega)
    rw [this]
  · have hlen : l.length = m.length := by simp at h <;> omega
    refine lpK_inv (fun m0 f es => ∃ (i : Nat), i + m0 = l.length ∧ sameL l m = sameL (l.drop i) (m.drop i) ∧ f = [(1, .ro false (m.map Val.d)), (2, .fn (.func 166) [] []), (15, .ro false (l.map Val.d)), (16, I l.length), (17, I i)] ∧ es = []) l.length ⟨0, Nat.zero_add _, rfl, rfl, rfl⟩ ?_
    rintro m0 _ _ ⟨i, hi, hsm, rfl, rfl⟩ ih
    rcases Nat.lt_or_ge i l.length with hlt | hge
    · obtain ⟨x, hx⟩ := get_lt hlt
      obtain ⟨y, hy⟩ : ∃ y, m[i]? = some y := get_lt (by omega)
      have hlt' : decide ((i : Int) < l.length) = true := by simpa using hlt
      have hlt2 : (i : Int) < l.length := by omega
      have hlt3 : (i : Int) < m.length := by omega
      simp +contextual (maxSteps := 10000000) only [go_sem, hx, hy, hs x (List.mem_of_getElem? hx) y, hlt', hlt2, hlt3, wrap_i64 (n := (i : Int) + 1) (by omega) (by omega)]
      refine ite_intro (fun h => ?_) (fun h => ?_)
      · rw [hsm, sameL_drop hx hy]; simp at h; simp [h]
      · exact ih (m0 - 1) _ _ (by omega) ⟨i + 1, by omega, by rw [hsm, sameL_drop hx hy]; simp at h; simp [h], by simp only [Int.natCast_add, Int.cast_ofNat_Int], rfl⟩
    · have hlt' : decide ((i : Int) < l.length) = false := by simpa using hge
      simp +contextual (maxSteps := 10000000) only [go_sem, hlt']
      rw [hsm, sameL_end hge (by omega)]
theorem same_c : ∀ (n : Nat) (a b : Val), a.sz ≤ n → n ≤ 40000000000 → EV 166 [a.d, b.d] [] = some (.ret (B (same a b)), [])
  | 0, .mk .., _, h, _ => by simp [Val.sz] at h
  | n + 1, a, b, hn, hs => by
    rw [Val.sz_eq] at hn
    have hl := szL_len a.kids
    have hc := eqfunc_of a.kids b.kids (by omega) fun x hx y => same_c n x y (by have := szL_in hx; omega) (by omega)
    refine (ev_body ⟨[2, 3], [], [], false, [], noIt⟩ [.tmp 4] rfl Tryz.func166 rfl rfl rfl (by kernel_rfl) (by show 2 ≤ 31; decide) (by kernel_rfl)).trans ?_
    simp +contextual (maxSteps := 10000000) only [go_sem, hc]
    rw [same_eq, Bool.and_assoc, Bool.and_assoc]
theorem depth2_c (a b : Int) (h0 : 0 ≤ a) (h1 : a ≤ 40000000000) (k0 : 0 ≤ b) (k1 : b ≤ 40000000000) : EV 84 [I a, I b] [] = some (.ret (I (max a b)), []) := by
  refine (ev_body ⟨[], [], [], false, [], noIt⟩ [.tmp 4] rfl Tryz.func84 rfl rfl rfl (by kernel_rfl) (by show 2 ≤ 8; decide) (by kernel_rfl)).trans ?_
  simp +contextual (maxSteps := 10000000) only [go_sem]
  have e : (if b > a then b else a) = max a b := by split <;> omega
  rw [e]
theorem depthL_snoc (l : List Val) (x : Val) : Val.depthL (l ++ [x]) = max (Val.depthL l) x.depth := by rw [depthL_app]; simp [Val.depthL]
set_option maxHeartbeats 1000000 in
theorem depthf_c : ∀ (n : Nat) (v : Val), v.sz ≤ n → n ≤ 40000000000 → EV 83 [v.d, .fn (.func 84) [] []] [] = some (.ret (I v.depth), [])
  | 0, .mk .., h, _ => by simp [Val.sz] at h
  | n + 1, v, hn, hs => by
    rw [Val.sz_eq] at hn
    have hl := szL_len v.kids
    refine (ev_body ⟨[2], [(0, [1, 5, 9, 10, 11])], [], false, [], noIt⟩ [.tmp 4] rfl Tryz.func83 rfl rfl rfl (by kernel_rfl) (by show 2 ≤ 24; decide) (by kernel_rfl)).trans ?_
    simp +contextual (maxSteps := 10000000) only [go_sem]
    refine lpK_inv (fun m0 f es => ∃ (i : Nat) (a : Int), i + m0 = v.kids.length ∧ a = Val.depthL (v.kids.take i) ∧ f = [(1, .fn (.func 84) [] []), (5, I a), (9, .ro false (v.kids.map Val.d)), (10, I v.kids.length), (11, I i)] ∧ es = []) v.kids.length ⟨0, 0, Nat.zero_add _, rfl, rfl, rfl⟩ ?_
    rintro m0 _ _ ⟨i, a, hi, ha, rfl, rfl⟩ ih
    have hb := szL_take v.kids i
    have hb2 : Val.depthL (v.kids.take i) ≤ Val.szL (v.kids.take i) := Nat.le_trans (depthL_items _) (itemsL_sz _)
    rcases Nat.lt_or_ge i v.kids.length with hlt | hge
    · obtain ⟨x, hx⟩ := get_lt hlt
      have hlt' : decide ((i : Int) < v.kids.length) = true := by simpa using hlt
      have hlt2 : (i : Int) < v.kids.length := by omega
      have hxs := szL_in (List.mem_of_getElem? hx)
      have hc := depthf_c n x (by omega) (by omega)
      have hxi : x.depth ≤ x.sz := Nat.le_trans (depth_items x) (items_sz x)
      have h2 := depth2_c a x.depth (by omega) (by omega) (by omega) (by omega)
      simp +contextual (maxSteps := 10000000) only [go_sem, hx, hc, h2, hlt', hlt2, wrap_i64 (n := (i : Int) + 1) (by omega) (by omega)]
      refine ih (m0 - 1) _ _ (by omega) ⟨i + 1, _, by omega, ?_, by simp only [Int.natCast_add, Int.cast_ofNat_Int]; rfl, rfl⟩
      rw [take_snoc hx, depthL_snoc, ha]
      omega
    · have hlt' : decide ((i : Int) < v.kids.length) = false := by simpa using hge
      rw [List.take_of_length_le hge] at ha hb2
      simp +contextual (maxSteps := 10000000) only [go_sem, hlt', ha, wrap_i64 (n := (Val.depthL v.kids : Int) + 1) (by omega) (by omega)]
      rw [Val.depth_eq]
      rfl
theorem depth_c (v : Val) (h : v.sz ≤ 40000000000) : EV 51 [v.d] [] = some (.ret (I v.depth), []) := by
  refine (ev_body ⟨[1], [], [], false, [], noIt⟩ [.tmp 2] rfl Tryz.func51 rfl rfl rfl (by kernel_rfl) (by show 1 ≤ 5; decide) (by kernel_rfl)).trans ?_
  simp +contextual (maxSteps := 10000000) only [go_sem, depthf_c _ v (Nat.le_refl _) h]
theorem items2_c (a b : Int) (h0 : 0 ≤ a) (h1 : a ≤ 40000000000) (k0 : 0 ≤ b) (k1 : b ≤ 40000000000) : EV 85 [I a, I b] [] = some (.ret (I (a + b)), []) := by
  refine (ev_body ⟨[], [], [], false, [], noIt⟩ [.tmp 4] rfl Tryz.func85 rfl rfl rfl (by kernel_rfl) (by show 2 ≤ 8; decide) (by kernel_rfl)).trans ?_
  simp +contextual (maxSteps := 10000000) only [go_sem, wrap_i64 (n := a + b) (by omega) (by omega)]
theorem itemsL_snoc (l : List Val) (x : Val) : Val.itemsL (l ++ [x]) = Val.itemsL l + x.items := by rw [itemsL_app]; simp [Val.itemsL]
set_option maxHeartbeats 1000000 in
theorem itemsf_c : ∀ (n : Nat) (v : Val), v.sz ≤ n → n ≤ 40000000000 → EV 83 [v.d, .fn (.func 85) [] []] [] = some (.ret (I v.items), [])
  | 0, .mk .., h, _ => by simp [Val.sz] at h
  | n + 1, v, hn, hs => by
    rw [Val.sz_eq] at hn
    have hl := szL_len v.kids
    refine (ev_body ⟨[2], [(0, [1, 5, 9, 10, 11])], [], false, [], noIt⟩ [.tmp 4] rfl Tryz.func83 rfl rfl rfl (by kernel_rfl) (by show 2 ≤ 24; decide) (by kernel_rfl)).trans ?_
    simp +contextual (maxSteps := 10000000) only [go_sem]
    refine lpK_inv (fun m0 f es => ∃ (i : Nat) (a : Int), i + m0 = v.kids.length ∧ a = Val.itemsL (v.kids.take i) ∧ f = [(1, .fn (.func 85) [] []), (5, I a), (9, .ro false (v.kids.map Val.d)), (10, I v.kids.length), (11, I i)] ∧ es = []) v.kids.length ⟨0, 0, Nat.zero_add _, rfl, rfl, rfl⟩ ?_
    rintro m0 _ _ ⟨i, a, hi, ha, rfl, rfl⟩ ih
    have hb := szL_take v.kids i
    have hb2 : Val.itemsL (v.kids.take i) ≤ Val.szL (v.kids.take i) := itemsL_sz _
    rcases Nat.lt_or_ge i v.kids.length with hlt | hge
    · obtain ⟨x, hx⟩ := get_lt hlt
      have hlt' : decide ((i : Int) < v.kids.length) = true := by simpa using hlt
      have hlt2 : (i : Int) < v.kids.length := by omega
      have hxs := szL_in (List.mem_of_getElem? hx)
      have hc := itemsf_c n x (by omega) (by omega)
      have hxi : x.items ≤ x.sz := items_sz x
      have h2 := items2_c a x.items (by omega) (by omega) (by omega) (by omega)
      simp +contextual (maxSteps := 10000000) only [go_sem, hx, hc, h2, hlt', hlt2, wrap_i64 (n := (i : Int) + 1) (by omega) (by omega)]
      refine ih (m0 - 1) _ _ (by omega) ⟨i + 1, _, by omega, ?_, by simp only [Int.natCast_add, Int.cast_ofNat_Int]; rfl, rfl⟩
      rw [take_snoc hx, itemsL_snoc, ha]
      rfl
    · have hlt' : decide ((i : Int) < v.kids.length) = false := by simpa using hge
      rw [List.take_of_length_le hge] at ha hb2
      simp +contextual (maxSteps := 10000000) only [go_sem, hlt', ha, wrap_i64 (n := (Val.itemsL v.kids : Int) + 1) (by omega) (by omega)]
      rw [Val.items_eq]
      rfl
theorem items_c (v : Val) (h : v.sz ≤ 40000000000) : EV 52 [v.d] [] = some (.ret (I v.items), []) := by
  refine (ev_body ⟨[1], [], [], false, [], noIt⟩ [.tmp 2] rfl Tryz.func52 rfl rfl rfl (by kernel_rfl) (by show 1 ≤ 5; decide) (by kernel_rfl)).trans ?_
  simp +contextual (maxSteps := 10000000) only [go_sem, itemsf_c _ v (Nat.le_refl _) h]
end Go.Bw.R1

namespace Go.Bw.R1
set_option maxRecDepth 5000
open Go Go.Bw Go.Proofs
def alikeF : Nat → Val → Val → Bool
  | 0, _, _ => false
  | n + 1, a, b => if (a.kind != 25 || b.kind != 25) = true then a.kind == b.kind else match a.kids, b.kids with
    | [x0, x1], [y0, y1] => same x0 y0 && alikeF n x1 y1
    | _, _ => false
def alike (a b : Val) : Bool := alikeF a.sz a b
/-- a map's keys -/
def keyL : List Val → List Val
  | a :: _ :: r => a :: keyL r
  | _ => []
def noSame : List Val → List Val → Bool
  | _, [] => true
  | seen, k :: r => if (seen.any fun s => same s k) = true then false else noSame (seen ++ [k]) r
def famS (k : Int) (l : List Val) : Bool :=
  if (k == 22) = true then true else if (k == 23) = true then ((l.length % 2 == 0) && noSame [] (keyL l)) else if (k == 24) = true then (l.all fun x => match l with | [] => true | y :: _ => alike y x)
  else if (k == 25) = true then (match l with | [x, _] => x.kind == 6 || x.kind == 21 | _ => false) else l.isEmpty
mutual
def mayS : Val → Bool
  | .mk k n t l => (decide (1 ≤ k) && decide (k ≤ 25)) && mayL l && (numS k n && textS k t && famS k l)
def mayL : List Val → Bool
  | [] => true
  | v :: l => mayS v && mayL l
end
theorem mayS_eq (v : Val) : mayS v = ((decide (1 ≤ v.kind) && decide (v.kind ≤ 25)) && mayL v.kids && (numS v.kind v.num && textS v.kind v.text && famS v.kind v.kids)) := by cases v; rfl
theorem mayL_all : ∀ l : List Val, mayL l = l.all mayS
  | [] => rfl
  | v :: l => by rw [mayL, mayL_all l]; rfl
/-- what is called something has two kids that may be -/
theorem may_desc {v : Val} (h : mayS v = true) (hk : v.kind = 25) : ∃ x y, v.kids = [x, y] ∧ mayS x = true ∧ mayS y = true := by
  rw [mayS_eq] at h
  simp only [Bool.and_eq_true] at h
  have hf := h.2.2
  rw [hk] at hf
  simp only [famS] at hf
  rw [if_neg (by decide), if_neg (by decide), if_neg (by decide), if_pos (by decide)] at hf
  split at hf
  · rename_i x y hxy
    rw [hxy] at h
    simp only [mayL, Bool.and_eq_true] at h
    exact ⟨x, y, hxy, h.1.2.1, h.1.2.2.1⟩
  · cases hf
set_option maxHeartbeats 1000000 in
theorem alike_c : ∀ (n : Nat) (a b : Val), a.sz ≤ n → n ≤ 40000000000 → mayS a = true → mayS b = true → EV 126 [a.d, b.d] [] = some (.ret (B (alikeF n a b)), [])
  | 0, .mk .., _, h, _, _, _ => by simp [Val.sz] at h
  | n + 1, a, b, hn, hs, ha, hb => by
    refine (ev_body ⟨[2, 3], [], [(3, [(0, 0, false), (1, 0, false), (2, 0, false), (3, 0, false), (4, 0, false), (5, 0, false), (6, 0, false), (7, 0, false), (8, 0, false), (9, 0, false), (10, 0, false), (11, 0, false), (12, 0, false), (13, 0, false), (14, 0, false), (15, 0, false), (16, 0, false), (17, 0, false), (18, 0, false), (19, 0, false), (20, 0, false)])], false, [], noIt⟩ [.tmp 4] rfl Tryz.func126 rfl rfl rfl (by kernel_rfl) (by show 2 ≤ 38; decide) (by kernel_rfl)).trans ?_
    by_cases hk : a.kind = 25
    · by_cases hk' : b.kind = 25
      · obtain ⟨x0, x1, hx, mx0, mx1⟩ := may_desc ha hk
        obtain ⟨y0, y1, hy, my0, my1⟩ := may_desc hb hk'
        rw [Val.sz_eq, hx] at hn
        simp only [Val.szL] at hn
        have h1 := same_c _ x0 y0 (Nat.le_refl _) (by omega)
        have h2 := alike_c n x1 y1 (by omega) (by omega) mx1 my1
        simp +contextual (maxSteps := 10000000) only [go_sem, hk, hk', hx, hy, List.map_cons, List.map_nil, h1, h2, alikeF, bne_self_eq_false, Bool.or_self, List.length_cons, List.length_nil]
      · have e : (b.kind != 25) = true := by simpa using hk'
        simp +contextual (maxSteps := 10000000) only [go_sem, hk, e, alikeF, Bool.or_true, bne_self_eq_false]
    · have e : (a.kind != 25) = true := by simpa using hk
      simp +contextual (maxSteps := 10000000) only [go_sem, e, alikeF, Bool.true_or]
def idxS (p : Val → Bool) : List Val → Nat → Int
  | [], _ => -1
  | x :: l, i => if p x = true then i else idxS p l (i + 1)
theorem idxS_ge (p : Val → Bool) : ∀ (l : List Val) (i : Nat), (decide (0 ≤ idxS p l i)) = l.any p
  | [], i => rfl
  | x :: l, i => by
    rw [idxS, List.any_cons]
    cases h : p x
    · simp only [Bool.false_eq_true, if_false, Bool.false_or]; exact idxS_ge p l (i + 1)
    · simp
theorem idxS_drop {p : Val → Bool} {l : List Val} {i : Nat} {x : Val} (h : l[i]? = some x) : idxS p (l.drop i) i = if p x = true then (i : Int) else idxS p (l.drop (i + 1)) (i + 1) := by
  obtain ⟨hl, rfl⟩ := List.getElem?_eq_some_iff.1 h
  rw [List.drop_eq_getElem_cons hl, idxS]

set_option maxHeartbeats 1000000 in
theorem may_idx (p : Val → Bool) (l : List Val) (hl : l.length ≤ 40000000000) (hp : ∀ x ∈ l, EV 87 [x.d] [] = some (.ret (B (p x)), [])) : EV 120 [.ro false (l.map Val.d), .fn (.func 87) [] []] [] = some (.ret (I (idxS p l 0)), []) := by
  refine (ev_body ⟨[], [(0, [0, 1, 7, 8])], [], false, [], noIt⟩ [.tmp 4] rfl Tryz.func120 rfl rfl rfl (by kernel_rfl) (by show 2 ≤ 19; decide) (by kernel_rfl)).trans ?_
  simp +contextual (maxSteps := 10000000) only [go_sem]
  refine lpK_inv (fun m0 f es => ∃ (i : Nat), i + m0 = l.length ∧ idxS p l 0 = idxS p (l.drop i) i ∧ f = [(0, .ro false (l.map Val.d)), (1, .fn (.func 87) [] []), (7, I l.length), (8, I i)] ∧ es = []) l.length ⟨0, Nat.zero_add _, rfl, rfl, rfl⟩ ?_
  rintro m0 _ _ ⟨i, hi, hsm, rfl, rfl⟩ ih
  rcases Nat.lt_or_ge i l.length with hlt | hge
  · obtain ⟨x, hx⟩ := get_lt hlt
    have hlt' : decide ((i : Int) < l.length) = true := by simpa using hlt
    have hlt2 : (i : Int) < l.length := by omega
    have hpx := hp x (List.mem_of_getElem? hx)
    simp +contextual (maxSteps := 10000000) only [go_sem, hx, hpx, hlt', hlt2, wrap_i64 (n := (i : Int) + 1) (by omega) (by omega)]
    rw [hsm, idxS_drop hx]
    refine ite_intro (fun h => ?_) (fun h => ?_)
    · rw [if_pos h]
    · rw [if_neg h]
      have hsm' : idxS p l 0 = idxS p (l.drop (i + 1)) (i + 1) := by rw [hsm, idxS_drop hx, if_neg h]
      rw [← hsm']
      exact ih (m0 - 1) _ _ (by omega) ⟨i + 1, by omega, hsm', by simp only [Int.natCast_add, Int.cast_ofNat_Int], rfl⟩
  · have hlt' : decide ((i : Int) < l.length) = false := by simpa using hge
    simp +contextual (maxSteps := 10000000) only [go_sem, hlt']
    rw [hsm, List.drop_eq_nil_of_le hge]; rfl
theorem may_has (p : Val → Bool) (l : List Val) (hl : l.length ≤ 40000000000) (hp : ∀ x ∈ l, EV 87 [x.d] [] = some (.ret (B (p x)), [])) : EV 86 [.ro false (l.map Val.d), .fn (.func 87) [] []] [] = some (.ret (B (l.any p)), []) := by
  refine (ev_body ⟨[], [], [], false, [], noIt⟩ [.tmp 4] rfl Tryz.func86 rfl rfl rfl (by kernel_rfl) (by show 2 ≤ 9; decide) (by kernel_rfl)).trans ?_
  simp +contextual (maxSteps := 10000000) only [go_sem, may_idx p l hl hp, idxS_ge]

set_option maxHeartbeats 1000000 in
theorem fam_idx (u : Val) (p : Val → Bool) (l : List Val) (hl : l.length ≤ 40000000000) (hp : ∀ x ∈ l, EV 125 [x.d, .rp u.cs] [] = some (.ret (B (p x)), [])) : EV 120 [.ro false (l.map Val.d), .fn (.func 125) [] [.rp u.cs]] [] = some (.ret (I (idxS p l 0)), []) := by
  refine (ev_body ⟨[], [(0, [0, 1, 7, 8])], [], false, [], noIt⟩ [.tmp 4] rfl Tryz.func120 rfl rfl rfl (by kernel_rfl) (by show 2 ≤ 19; decide) (by kernel_rfl)).trans ?_
  simp +contextual (maxSteps := 10000000) only [go_sem]
  refine lpK_inv (fun m0 f es => ∃ (i : Nat), i + m0 = l.length ∧ idxS p l 0 = idxS p (l.drop i) i ∧ f = [(0, .ro false (l.map Val.d)), (1, .fn (.func 125) [] [.rp u.cs]), (7, I l.length), (8, I i)] ∧ es = []) l.length ⟨0, Nat.zero_add _, rfl, rfl, rfl⟩ ?_
  rintro m0 _ _ ⟨i, hi, hsm, rfl, rfl⟩ ih
  rcases Nat.lt_or_ge i l.length with hlt | hge
  · obtain ⟨x, hx⟩ := get_lt hlt
    have hlt' : decide ((i : Int) < l.length) = true := by simpa using hlt
    have hlt2 : (i : Int) < l.length := by omega
    have hpx := hp x (List.mem_of_getElem? hx)
    simp +contextual (maxSteps := 10000000) only [go_sem, hx, hpx, hlt', hlt2, wrap_i64 (n := (i : Int) + 1) (by omega) (by omega)]
    rw [hsm, idxS_drop hx]
    refine ite_intro (fun h => ?_) (fun h => ?_)
    · rw [if_pos h]
    · rw [if_neg h]
      have hsm' : idxS p l 0 = idxS p (l.drop (i + 1)) (i + 1) := by rw [hsm, idxS_drop hx, if_neg h]
      rw [← hsm']
      exact ih (m0 - 1) _ _ (by omega) ⟨i + 1, by omega, hsm', by simp only [Int.natCast_add, Int.cast_ofNat_Int], rfl⟩
  · have hlt' : decide ((i : Int) < l.length) = false := by simpa using hge
    simp +contextual (maxSteps := 10000000) only [go_sem, hlt']
    rw [hsm, List.drop_eq_nil_of_le hge]; rfl
theorem fam_has (u : Val) (p : Val → Bool) (l : List Val) (hl : l.length ≤ 40000000000) (hp : ∀ x ∈ l, EV 125 [x.d, .rp u.cs] [] = some (.ret (B (p x)), [])) : EV 86 [.ro false (l.map Val.d), .fn (.func 125) [] [.rp u.cs]] [] = some (.ret (B (l.any p)), []) := by
  refine (ev_body ⟨[], [], [], false, [], noIt⟩ [.tmp 4] rfl Tryz.func86 rfl rfl rfl (by kernel_rfl) (by show 2 ≤ 9; decide) (by kernel_rfl)).trans ?_
  simp +contextual (maxSteps := 10000000) only [go_sem, fam_idx u p l hl hp, idxS_ge]

theorem rowV_len (l : List Val) : (rowE Val.d l).length = l.length * 4 := valOk.row_len l
theorem rowV_can : ∀ l : List Val, (rowE Val.d l).map D.can = rowE Val.d l
  | [] => rfl
  | v :: l => by
    have h : v.d.cells.map D.can = v.d.cells := by rw [Val.cells]; simp only [List.map_cons, List.map_nil, D.can, Val.canM]
    rw [rowE_cons, List.map_append, rowV_can l, h]
attribute [go_sem] rowV_can
theorem rowV_at {l : List Val} {i : Nat} {x : Val} (h : l[i]? = some x) : i * 4 + 4 ≤ l.length * 4 ∧ ((rowE Val.d l).drop (i * 4) |>.take 4) = x.cs := by
  obtain ⟨hl, rfl⟩ := List.getElem?_eq_some_iff.1 h
  refine ⟨by omega, ?_⟩
  have e : l = l.take i ++ l[i] :: l.drop (i + 1) := by rw [← List.drop_eq_getElem_cons hl, List.take_append_drop]
  have e2 : rowE Val.d l = rowE Val.d (l.take i) ++ (Val.cs l[i] ++ rowE Val.d (l.drop (i + 1))) := by
    conv => lhs; rw [e]
    simp only [rowE, List.map_append, List.flatMap_append, List.map_cons, List.flatMap_cons, Val.cells]
  rw [e2, List.drop_append_of_le_length (by rw [rowV_len, List.length_take]; omega)]
  rw [List.drop_eq_nil_of_le (by rw [rowV_len, List.length_take]; omega), List.nil_append]
  rfl

set_option maxHeartbeats 1000000 in
theorem unl_idx (u : Val) (p : Val → Bool) (l : List Val) (hl : l.length ≤ 40000000000) (hp : ∀ x ∈ l, EV 165 [x.d, .rp u.cs] [] = some (.ret (B (p x)), [])) : EV 120 [.ref 0 0 4 0 l.length, .fn (.func 165) [] [.rp u.cs]] [some ⟨0, rowE Val.d l⟩] = some (.ret (I (idxS p l 0)), [some ⟨0, rowE Val.d l⟩]) := by
  refine (ev_body ⟨[], [(0, [0, 1, 7, 8])], [], false, [], noIt⟩ [.tmp 4] rfl Tryz.func120 rfl rfl rfl (by kernel_rfl) (by show 2 ≤ 19; decide) (by kernel_rfl)).trans ?_
  simp +contextual (maxSteps := 10000000) only [go_sem]
  refine lpK_inv (fun m0 f es => ∃ (i : Nat), i + m0 = l.length ∧ idxS p l 0 = idxS p (l.drop i) i ∧ f = [(0, .ref 0 0 4 0 l.length), (1, .fn (.func 165) [] [.rp u.cs]), (7, I l.length), (8, I i)] ∧ es = [some ⟨0, rowE Val.d l⟩]) l.length ⟨0, Nat.zero_add _, rfl, rfl, rfl⟩ ?_
  rintro m0 _ _ ⟨i, hi, hsm, rfl, rfl⟩ ih
  rcases Nat.lt_or_ge i l.length with hlt | hge
  · obtain ⟨x, hx⟩ := get_lt hlt
    have hlt' : decide ((i : Int) < l.length) = true := by simpa using hlt
    have hlt2 : (i : Int) < l.length := by omega
    have hpx := hp x (List.mem_of_getElem? hx)
    obtain ⟨g0, g1⟩ := rowV_at hx
    simp +contextual (maxSteps := 10000000) only [go_sem, g0, g1, rowV_len, Nat.succ_mul, hpx, hlt', hlt2, wrap_i64 (n := (i : Int) + 1) (by omega) (by omega)]
    rw [hsm, idxS_drop hx]
    refine ite_intro (fun h => ?_) (fun h => ?_)
    · rw [if_pos h]
    · rw [if_neg h]
      have hsm' : idxS p l 0 = idxS p (l.drop (i + 1)) (i + 1) := by rw [hsm, idxS_drop hx, if_neg h]
      rw [← hsm']
      exact ih (m0 - 1) _ _ (by omega) ⟨i + 1, by omega, hsm', by simp only [Int.natCast_add, Int.cast_ofNat_Int], rfl⟩
  · have hlt' : decide ((i : Int) < l.length) = false := by simpa using hge
    simp +contextual (maxSteps := 10000000) only [go_sem, hlt']
    rw [hsm, List.drop_eq_nil_of_le hge]; rfl
theorem unl_has (u : Val) (p : Val → Bool) (l : List Val) (hl : l.length ≤ 40000000000) (hp : ∀ x ∈ l, EV 165 [x.d, .rp u.cs] [] = some (.ret (B (p x)), [])) : EV 86 [.ref 0 0 4 0 l.length, .fn (.func 165) [] [.rp u.cs]] [some ⟨0, rowE Val.d l⟩] = some (.ret (B (l.any p)), [some ⟨0, rowE Val.d l⟩]) := by
  refine (ev_body ⟨[], [], [], false, [], noIt⟩ [.tmp 4] rfl Tryz.func86 rfl rfl rfl (by kernel_rfl) (by show 2 ≤ 9; decide) (by kernel_rfl)).trans ?_
  simp +contextual (maxSteps := 10000000) only [go_sem, unl_idx u p l hl hp, idxS_ge]
end Go.Bw.R1

namespace Go.Bw.R1
set_option maxRecDepth 5000
open Go Go.Bw Go.Proofs
theorem keys_c (m : Val) : EV 164 [m.d] [] = some (.ret (.fn (.func 180) [] [.rp m.cs]), []) := by
  refine (ev_body ⟨[1], [], [], true, [], noIt⟩ [.tmp 2] rfl Tryz.func164 rfl rfl rfl (by kernel_rfl) (by show 1 ≤ 4; decide) (by kernel_rfl)).trans ?_
  simp +contextual (maxSteps := 10000000) only [go_sem]
theorem keysIt_val (m : Val) (h : m.kids.length ≤ 40000000000) : keysIt (.fn (.func 180) [] [.rp m.cs]) = some (pairsD (m.kids.map Val.d)) := by
  unfold keysIt
  simp only
  rw [if_pos]
  refine ⟨rfl, by simpa using h, fun e he => ?_⟩
  obtain ⟨v, _, rfl⟩ := List.mem_map.1 he
  exact ⟨D.free_refs (Val.refs v), v.cs, by rw [Val.fold, Val.eta], rfl⟩
theorem unl1_c (u x : Val) (h : x.sz ≤ 40000000000) : EV 165 [x.d, .rp u.cs] [] = some (.ret (B (same x u)), []) := by
  refine (ev_body ⟨[2], [], [], false, [], noIt⟩ [.tmp 3] rfl Tryz.func165 rfl rfl rfl (by kernel_rfl) (by show 2 ≤ 7; decide) (by kernel_rfl)).trans ?_
  simp +contextual (maxSteps := 10000000) only [go_sem, same_c _ x u (Nat.le_refl _) h]
/-- pairs of values -/
def pairL : List Val → List (Val × Val)
  | a :: b :: r => (a, b) :: pairL r
  | _ => []
theorem pairsD_map : ∀ l : List Val, pairsD (l.map Val.d) = (pairL l).map fun p => [p.1.d, p.2.d]
  | [] => rfl
  | [_] => rfl
  | a :: b :: r => by simp only [List.map_cons, pairsD, pairL, pairsD_map r]
theorem keyL_pair : ∀ l : List Val, keyL l = (pairL l).map Prod.fst
  | [] => rfl
  | [_] => rfl
  | a :: b :: r => by simp only [keyL, pairL, List.map_cons, keyL_pair r]
theorem pair_mem : ∀ {l : List Val} {p : Val × Val}, p ∈ pairL l → p.1 ∈ l ∧ p.2 ∈ l
  | [], p, h => by simp [pairL] at h
  | [_], p, h => by simp [pairL] at h
  | a :: b :: r, p, h => by
    rcases List.mem_cons.1 h with rfl | h
    · simp
    · obtain ⟨h1, h2⟩ := pair_mem h
      exact ⟨List.mem_cons_of_mem _ (List.mem_cons_of_mem _ h1), List.mem_cons_of_mem _ (List.mem_cons_of_mem _ h2)⟩
theorem pair_len : ∀ l : List Val, (pairL l).length ≤ l.length
  | [] => Nat.le_refl _
  | [_] => by simp [pairL]
  | a :: b :: r => by have := pair_len r; simp only [pairL, List.length_cons]; omega
theorem unl_nil (u : Val) : EV 86 [.nils, .fn (.func 165) [] [.rp u.cs]] [] = some (.ret (B false), []) := by
  have h : EV 120 [.nils, .fn (.func 165) [] [.rp u.cs]] [] = some (.ret (I (-1)), []) := by
    refine (ev_body ⟨[], [(0, [0, 1, 7, 8])], [], false, [], noIt⟩ [.tmp 4] rfl Tryz.func120 rfl rfl rfl (by kernel_rfl) (by show 2 ≤ 19; decide) (by kernel_rfl)).trans ?_
    simp +contextual (maxSteps := 10000000) only [go_sem]
    refine lpK_inv (fun m0 f es => f = [(0, .nils), (1, .fn (.func 165) [] [.rp u.cs]), (7, I 0), (8, I 0)] ∧ es = []) 0 ⟨rfl, rfl⟩ ?_
    rintro m0 _ _ ⟨rfl, rfl⟩ ih
    simp +contextual (maxSteps := 10000000) only [go_sem]
  refine (ev_body ⟨[], [], [], false, [], noIt⟩ [.tmp 4] rfl Tryz.func86 rfl rfl rfl (by kernel_rfl) (by show 2 ≤ 9; decide) (by kernel_rfl)).trans ?_
  simp +contextual (maxSteps := 10000000) only [go_sem, h]
def Pd (p : Val × Val) : List D := [p.1.d, p.2.d]
/-- how the loop's rounds begin -/
def UnI (m : Val) (yss : List (List D)) (l : Fr) (es : Sto) : Prop :=
  ∃ (seen : List Val) (rest : List (Val × Val)), yss = rest.map Pd ∧ noSame [] (keyL m.kids) = noSame seen (rest.map Prod.fst) ∧ seen.length + rest.length ≤ 40000000000 ∧ (∀ x ∈ seen, x.sz ≤ 40000000000) ∧ (∀ p ∈ rest, p.1.sz ≤ 40000000000) ∧
    ((seen = [] ∧ l = [(6, .fn (.func 180) [] [.rp m.cs]), (5, m.d), (3, .ptr 1 0 0), (2, .ptr 0 0 0), (1, .rp m.cs), (0, m.d)] ∧ es = [some ⟨0, [B false]⟩, some ⟨0, [.nils]⟩]) ∨
     (l = [(6, .fn (.func 180) [] [.rp m.cs]), (5, m.d), (3, .ptr 0 0 0), (2, .ptr 2 0 0), (1, .rp m.cs), (0, m.d)] ∧ es = [some ⟨0, [.ref 1 0 4 0 seen.length]⟩, some ⟨0, rowE Val.d seen⟩, some ⟨0, [B false]⟩]))
set_option maxHeartbeats 1000000 in
theorem unlike_c (m : Val) (hs : m.sz ≤ 40000000000) : EV 124 [m.d] [] = some (.ret (B (noSame [] (keyL m.kids))), []) := by
  refine (ev_body ⟨[1], [], [(6, [(0, 0, false), (1, 0, false), (2, 0, false), (3, 0, false), (4, 0, true), (5, 1, false), (6, 0, true), (7, 0, true)]), (1000006, [(6, 7, false), (0, 0, false), (1, 0, false), (2, 0, false), (3, 0, false), (4, 0, true), (5, 1, false), (7, 0, true), (6, 0, true)])], false, [(3, [4])], keysIt⟩ [.cell 2 4] rfl Tryz.func124 rfl rfl rfl (by kernel_rfl) (by show 1 ≤ 18; decide) (by kernel_rfl)).trans ?_
  have hl := szL_len m.kids
  have hz := Val.sz_eq m
  simp +contextual (maxSteps := 10000000) only [go_sem, keys_c, keysIt_val m (by omega)]
  refine rgK_inv (UnI m) ⟨[], pairL m.kids, pairsD_map _, by rw [keyL_pair], by have := pair_len m.kids; simp only [List.length_nil]; omega, fun x hx => (by simp at hx), fun p hp => by have := szL_in (pair_mem hp).1; omega, .inl ⟨rfl, rfl, rfl⟩⟩ ?_ ?_
  · rintro l es ⟨seen, rest, hy, hn, _, _, _, h⟩
    have hr : rest = [] := by simpa using hy.symm
    subst hr
    rw [hn]
    rcases h with ⟨rfl, rfl, rfl⟩ | ⟨rfl, rfl⟩
    · simp +contextual (maxSteps := 10000000) only [go_sem, List.map_nil, noSame]
    · simp +contextual (maxSteps := 10000000) only [go_sem, List.map_nil, noSame]
  · rintro ys yss l es ⟨seen, rest, hy, hn, hln, hsz, hps, h⟩ ih
    cases rest with
    | nil => cases hy
    | cons p rest =>
      simp only [List.map_cons, List.cons.injEq, Pd] at hy
      obtain ⟨rfl, rfl⟩ := hy
      simp only [List.map_cons, List.length_cons, noSame] at hn hln
      rw [hn]
      rcases h with ⟨rfl, rfl, rfl⟩ | ⟨rfl, rfl⟩
      · simp +contextual (maxSteps := 10000000) only [go_sem, unl_nil]
        rw [rowV_one]
        refine (ih _ _ ⟨[p.1], rest, rfl, by rw [hn]; rfl, by simpa [Nat.add_comm] using hln, fun x hx => by rw [List.mem_singleton.1 hx]; exact hps p (List.mem_cons_self ..), fun q hq => hps q (List.mem_cons_of_mem _ hq), .inr ⟨rfl, rfl⟩⟩).trans ?_
        · rw [hn]; rfl
      · have hu := unl_has p.1 (fun s => same s p.1) seen (by omega) fun x hx => unl1_c p.1 x (by have := hsz x hx; omega)
        have hb : (seen.length + 1) * 56 ≤ 140737488355328 := by omega
        have hr := rowV_len seen
        have hs1 : (seen.length : Int) < seen.length + 1 := by omega
        have hd : ∀ a b c d : D, List.drop (seen.length * 4 + 4) (rowE Val.d seen ++ [a, b, c, d]) = [] := fun a b c d => List.drop_eq_nil_of_le (by simp [hr])
        simp +contextual (maxSteps := 10000000) only [go_sem, hu, hr, hb, hs1, hd, List.take_left' hr]
        refine ite_intro (fun h => ?_) (fun h => ?_)
        · rw [if_pos h]
        · rw [if_neg h, rowV_snoc]
          refine (ih _ _ ⟨seen ++ [p.1], rest, rfl, by rw [hn, if_neg h], by simp only [List.length_append, List.length_cons, List.length_nil]; omega, fun x hx => (List.mem_append.1 hx).elim (hsz x) fun hx => by rw [List.mem_singleton.1 hx]; exact hps p (List.mem_cons_self ..), fun q hq => hps q (List.mem_cons_of_mem _ hq), .inr ⟨rfl, ?_⟩⟩).trans ?_
          · simp only [List.length_append, List.length_cons, List.length_nil, Nat.zero_add]
          · rw [hn, if_neg h]
end Go.Bw.R1

namespace Go.Bw.R1
set_option maxRecDepth 5000
open Go Go.Bw Go.Proofs
mutual
def Val.wf : Val → Prop
  | .mk k n _ l => (0 ≤ k ∧ k < 256 ∧ 0 ≤ n ∧ n < 18446744073709551616) ∧ Val.wfL l
def Val.wfL : List Val → Prop
  | [] => True
  | v :: l => Val.wf v ∧ Val.wfL l
end
theorem wfL_mem : ∀ {l : List Val}, Val.wfL l → ∀ x ∈ l, x.wf
  | v :: l, h, x, hx => by
    rcases List.mem_cons.1 hx with rfl | hx
    · exact h.1
    · exact wfL_mem h.2 x hx
theorem Val.wf.num {v : Val} (h : v.wf) : 0 ≤ v.num := by cases v; exact h.1.2.2.1
theorem Val.wf.numU {v : Val} (h : v.wf) : v.num < 18446744073709551616 := by cases v; exact h.1.2.2.2
theorem Val.wf.kids {v : Val} (h : v.wf) : Val.wfL v.kids := by cases v; exact h.2
theorem fam1_c (u x y : Val) (r : List Val) (hu : u.kids = y :: r) (hs : y.sz ≤ 40000000000) (hx : mayS x = true) (hy : mayS y = true) : EV 125 [x.d, .rp u.cs] [] = some (.ret (B (!alike y x)), []) := by
  refine (ev_body ⟨[2], [], [(1, [(0, 0, false), (1, 0, false), (2, 0, false), (3, 0, false), (4, 0, false), (5, 0, false), (6, 0, false), (7, 0, false)])], false, [], noIt⟩ [.tmp 3] rfl Tryz.func125 rfl rfl rfl (by kernel_rfl) (by show 2 ≤ 11; decide) (by kernel_rfl)).trans ?_
  simp +contextual (maxSteps := 10000000) only [go_sem, hu, List.map_cons, alike_c y.sz y x (Nat.le_refl _) hs hy hx, List.length_cons]
  rfl
theorem mod2 (n : Nat) : (((n : Int).tmod 2) == 0) = (n % 2 == 0) := by
  rw [Int.tmod_eq_emod_of_nonneg (by omega), Bool.eq_iff_iff]
  simp only [beq_iff_eq]
  omega
set_option maxHeartbeats 2000000 in
theorem fam22 (v : Val) (hk : v.kind = 22) : EV 90 [v.d] [] = some (.ret (B (famS v.kind v.kids)), []) := by
  refine (ev_body ⟨[1], [], [], false, [], noIt⟩ [.tmp 2] rfl Tryz.func90 rfl rfl rfl (by kernel_rfl) (by show 1 ≤ 49; decide) (by kernel_rfl)).trans ?_
  simp +contextual (maxSteps := 10000000) only [go_sem, hk, famS]
set_option maxHeartbeats 2000000 in
theorem fam23 (n : Int) (t : ByteArray) (l : List Val) (hs : (Val.mk 23 n t l).sz ≤ 40000000000) : EV 90 [(Val.mk 23 n t l).d] [] = some (.ret (B (famS 23 l)), []) := by
  refine (ev_body ⟨[1], [], [], false, [], noIt⟩ [.tmp 2] rfl Tryz.func90 rfl rfl rfl (by kernel_rfl) (by show 1 ≤ 49; decide) (by kernel_rfl)).trans ?_
  have hu := unlike_c _ hs
  simp only [Val.kids_mk] at hu
  cases h : (l.length % 2 == 0)
  · simp +contextual (maxSteps := 10000000) only [go_sem, famS, mod2, h, Bool.false_and]
  · simp +contextual (maxSteps := 10000000) only [go_sem, famS, mod2, h, hu]
def ar0 : List Val → Val → Bool
  | [], _ => false
  | y :: _, x => !alike y x
theorem ar0_all (l : List Val) : (!l.any (ar0 l)) = famS 24 l := by
  cases l with
  | nil => rfl
  | cons y r =>
    have h : famS 24 (y :: r) = (y :: r).all fun x => alike y x := rfl
    rw [h, List.all_eq_not_any_not]
    rfl
set_option maxHeartbeats 2000000 in
theorem fam24 (n : Int) (t : ByteArray) (l : List Val) (hs : (Val.mk 24 n t l).sz ≤ 40000000000) (hm : mayL l = true) : EV 90 [(Val.mk 24 n t l).d] [] = some (.ret (B (famS 24 l)), []) := by
  have hl := szL_len l
  have hz := Val.sz_eq (Val.mk 24 n t l)
  simp only [Val.kids_mk] at hz
  have hf := fam_has (Val.mk 24 n t l) (ar0 l) l (by omega) (by
    intro x hx
    rw [mayL_all, List.all_eq_true] at hm
    match l, hs, hm, hl, hx with
    | y :: r, hs, hm, hl, hx =>
      have hy : y ∈ y :: r := List.mem_cons_self ..
      exact fam1_c _ x y r rfl (by have := szL_in hy; omega) (hm x hx) (hm y hy))
  simp only [Val.cs, Val.kind_mk, Val.num_mk, Val.text_mk, Val.kids_mk] at hf
  refine (ev_body ⟨[1], [], [], false, [], noIt⟩ [.tmp 2] rfl Tryz.func90 rfl rfl rfl (by kernel_rfl) (by show 1 ≤ 49; decide) (by kernel_rfl)).trans ?_
  simp +contextual (maxSteps := 10000000) only [go_sem, hf, ar0_all]
set_option maxHeartbeats 2000000 in
theorem fam25 (n : Int) (t : ByteArray) (l : List Val) (hl : l.length ≤ 40000000000) : EV 90 [(Val.mk 25 n t l).d] [] = some (.ret (B (famS 25 l)), []) := by
  refine (ev_body ⟨[1], [], [], false, [], noIt⟩ [.tmp 2] rfl Tryz.func90 rfl rfl rfl (by kernel_rfl) (by show 1 ≤ 49; decide) (by kernel_rfl)).trans ?_
  match l, hl with
  | [], _ => simp +contextual (maxSteps := 10000000) only [go_sem, famS, List.map_nil, List.length_nil]
  | [x], _ => simp +contextual (maxSteps := 10000000) only [go_sem, famS, List.map_nil, List.length_nil, List.map_cons, List.length_cons]
  | [x, y], _ =>
    cases h : (x.kind == 6)
    · simp +contextual (maxSteps := 10000000) only [go_sem, famS, List.map_nil, List.length_nil, List.map_cons, List.length_cons, h]
    · simp +contextual (maxSteps := 10000000) only [go_sem, famS, List.map_nil, List.length_nil, List.map_cons, List.length_cons, h]
  | x :: y :: z :: r, hl =>
    have h : (((r.length + 1 + 1 + 1 : Nat) : Int) == 2) = false := by simp <;> omega
    simp +contextual (maxSteps := 10000000) only [go_sem, famS, List.map_cons, List.length_cons]
    rw [show ((r.length : Int) + 1 + 1 + 1 == 2) = false by simp <;> omega]
    rfl
set_option maxHeartbeats 2000000 in
theorem fam_no (v : Val) (h2 : v.kind ≠ 22) (h3 : v.kind ≠ 23) (h4 : v.kind ≠ 24) (h5 : v.kind ≠ 25) : EV 90 [v.d] [] = some (.ret (B (famS v.kind v.kids)), []) := by
  refine (ev_body ⟨[1], [], [], false, [], noIt⟩ [.tmp 2] rfl Tryz.func90 rfl rfl rfl (by kernel_rfl) (by show 1 ≤ 49; decide) (by kernel_rfl)).trans ?_
  simp +contextual (maxSteps := 10000000) only [go_sem, fb h2, fb h3, fb h4, fb h5, famS]
  cases v.kids with
  | nil => rfl
  | cons x r =>
    have h : (((x :: r).length : Int) == 0) = false := by simp <;> omega
    rw [h]; rfl
end Go.Bw.R1

namespace Go.Bw.R1
set_option maxRecDepth 5000
open Go Go.Bw Go.Proofs
theorem family_c (v : Val) (hs : v.sz ≤ 40000000000) (hm : mayL v.kids = true) : EV 90 [v.d] [] = some (.ret (B (famS v.kind v.kids)), []) := by
  by_cases h2 : v.kind = 22
  · exact fam22 v h2
  by_cases h3 : v.kind = 23
  · cases v; simp only [Val.kind_mk] at h3; subst h3; exact fam23 _ _ _ hs
  by_cases h4 : v.kind = 24
  · cases v; simp only [Val.kind_mk] at h4; subst h4; exact fam24 _ _ _ hs hm
  by_cases h5 : v.kind = 25
  · have hl := szL_len v.kids
    have hz := Val.sz_eq v
    cases v; simp only [Val.kind_mk, Val.kids_mk] at h5 hl hz; subst h5; exact fam25 _ _ _ (by omega)
  exact fam_no v h2 h3 h4 h5
theorem any_not (l : List Val) : (l.any fun x => !mayS x) = !mayL l := by
  rw [mayL_all, List.all_eq_not_any_not, Bool.not_not]
set_option maxHeartbeats 2000000 in
theorem may_c : ∀ (n : Nat) (v : Val), v.sz ≤ n → n ≤ 40000000000 → v.wf → EV 53 [v.d] [] = some (.ret (B (mayS v)), [])
  | 0, .mk .., h, _, _ => by simp [Val.sz] at h
  | n + 1, v, hs, hn, hw => by
    have hl := szL_len v.kids
    have hz := Val.sz_eq v
    have h1 : ∀ x ∈ v.kids, EV 87 [x.d] [] = some (.ret (B (!mayS x)), []) := fun x hx => by
      refine (ev_body ⟨[1], [], [], false, [], noIt⟩ [.tmp 2] rfl Tryz.func87 rfl rfl rfl (by kernel_rfl) (by show 1 ≤ 6; decide) (by kernel_rfl)).trans ?_
      simp +contextual (maxSteps := 10000000) only [go_sem, may_c n x (by have := szL_in hx; omega) (by omega) (wfL_mem hw.kids x hx)]
    have h2 := may_has (fun x => !mayS x) v.kids (by omega) h1
    rw [any_not] at h2
    refine (ev_body ⟨[1], [], [], false, [], noIt⟩ [.tmp 2] rfl Tryz.func53 rfl rfl rfl (by kernel_rfl) (by show 1 ≤ 26; decide) (by kernel_rfl)).trans ?_
    rw [mayS_eq]
    by_cases k1 : 1 ≤ v.kind
    · have e1 : decide (v.kind < 1) = false := by simp <;> omega
      have f1 : decide (1 ≤ v.kind) = true := by simpa using k1
      by_cases k2 : v.kind ≤ 25
      · have e2 : decide (25 < v.kind) = false := by simp <;> omega
        have f2 : decide (v.kind ≤ 25) = true := by simpa using k2
        cases hm : mayL v.kids
        · rw [hm] at h2
          simp +contextual (maxSteps := 10000000) only [go_sem, h2, e1, e2, f1, f2, Bool.not_false, Bool.and_false, Bool.false_and, Bool.and_true]
        · rw [hm] at h2
          have h3 := num_c v hw.num
          have h4 := txt_c v (by omega)
          have h5 := family_c v (by omega) hm
          cases hn : numS v.kind v.num
          · rw [hn] at h3
            simp +contextual (maxSteps := 10000000) only [go_sem, h2, h3, e1, e2, f1, f2, Bool.not_true, Bool.and_false, Bool.false_and, Bool.and_true]
          · rw [hn] at h3
            cases ht : textS v.kind v.text
            · rw [ht] at h4
              simp +contextual (maxSteps := 10000000) only [go_sem, h2, h3, h4, e1, e2, f1, f2, Bool.not_true, Bool.and_false, Bool.false_and, Bool.and_true]
            · rw [ht] at h4
              simp +contextual (maxSteps := 10000000) only [go_sem, h2, h3, h4, h5, e1, e2, f1, f2, Bool.not_true, Bool.and_false, Bool.false_and, Bool.and_true, Bool.true_and]
      · have e2 : decide (25 < v.kind) = true := by simp <;> omega
        have f2 : decide (v.kind ≤ 25) = false := by simp <;> omega
        simp +contextual (maxSteps := 10000000) only [go_sem, e1, e2, f1, f2, Bool.and_false, Bool.false_and]
    · have e1 : decide (v.kind < 1) = true := by simp <;> omega
      have f1 : decide (1 ≤ v.kind) = false := by simp <;> omega
      simp +contextual (maxSteps := 10000000) only [go_sem, e1, f1, Bool.false_and]
def rightS (v : Val) : Bool := decide (v.depth ≤ 16) && decide (v.items ≤ 1024) && mayS v
set_option maxHeartbeats 2000000 in
theorem right_c (v : Val) (h : v.sz ≤ 40000000000) (hw : v.wf) : EV 30 [v.d] [] = some (.ret (B (rightS v)), []) := by
  refine (ev_body ⟨[1], [], [], false, [], noIt⟩ [.tmp 2] rfl Tryz.func30 rfl rfl rfl (by kernel_rfl) (by show 1 ≤ 15; decide) (by kernel_rfl)).trans ?_
  have h1 := depth_c v (by omega)
  have h2 := items_c v (by omega)
  have h3 := may_c _ v (Nat.le_refl _) h hw
  by_cases k1 : v.depth ≤ 16
  · have e1 : decide ((v.depth : Int) ≤ 16) = true := by simp <;> omega
    have f1 : decide (v.depth ≤ 16) = true := by simpa using k1
    by_cases k2 : v.items ≤ 1024
    · have e2 : decide ((v.items : Int) ≤ 1024) = true := by simp <;> omega
      have f2 : decide (v.items ≤ 1024) = true := by simpa using k2
      simp +contextual (maxSteps := 10000000) only [go_sem, h1, h2, h3, e1, e2, rightS, f1, f2, Bool.true_and]
    · have e2 : decide ((v.items : Int) ≤ 1024) = false := by simp <;> omega
      have f2 : decide (v.items ≤ 1024) = false := by simp <;> omega
      simp +contextual (maxSteps := 10000000) only [go_sem, h1, h2, e1, e2, rightS, f1, f2, Bool.true_and, Bool.false_and]
  · have e1 : decide ((v.depth : Int) ≤ 16) = false := by simp <;> omega
    have f1 : decide (v.depth ≤ 16) = false := by simp <;> omega
    simp +contextual (maxSteps := 10000000) only [go_sem, h1, e1, rightS, f1, Bool.false_and]
end Go.Bw.R1

namespace Go.Bw.R1
set_option maxRecDepth 5000
open Go Go.Bw Go.Proofs
mutual
theorem same_refl : ∀ a : Val, same a a = true
  | .mk k n t l => by rw [same, sameL_refl l]; simp
theorem sameL_refl : ∀ a : List Val, sameL a a = true
  | [] => rfl
  | a :: l => by rw [sameL, same_refl a, sameL_refl l]; rfl
end
theorem alikeF_refl : ∀ (n : Nat) (a : Val), a.sz ≤ n → mayS a = true → alikeF n a a = true
  | 0, .mk .., h, _ => by simp [Val.sz] at h
  | n + 1, a, hn, hm => by
    by_cases hk : a.kind = 25
    · obtain ⟨x, y, hx, _, my⟩ := may_desc hm hk
      rw [Val.sz_eq, hx] at hn
      simp only [Val.szL] at hn
      simp only [alikeF, hk, bne_self_eq_false, Bool.or_self, Bool.false_eq_true, if_false, hx, same_refl, alikeF_refl n y (by omega) my, Bool.and_self]
    · have e : (a.kind != 25) = true := by simpa using hk
      simp only [alikeF, e, Bool.true_or, if_true, beq_self_eq_true]
end Go.Bw.R1

namespace Go.Bw
set_option maxRecDepth 5000
open Go
theorem Arg.cells {P : Program} {t : TypeId} {d : D} {ag : Bool} (ha : aggB P t = some ag) (h : Arg P t d) : ∃ cs, Rd P t cs ∧ d = (whole ag cs).getD .undef := by
  obtain ⟨cs, h1, _, h3⟩ := h
  rw [ha] at h3
  exact ⟨cs, h1, h3⟩
end Go.Bw
namespace Go.Bw.R1
open Go Go.Bw Go.Proofs
end Go.Bw.R1

namespace Go.Bw.R1
set_option maxRecDepth 5000
open Go Go.Bw Go.Proofs
end Go.Bw.R1

/- Own: arguments. -/
namespace Go.Bw.R1
set_option maxRecDepth 5000
open Go Go.Bw Go.Proofs
theorem int_arg {d : D} (h : Arg Tryz.prog 3 d) : ∃ n : Int, (-9223372036854775808 ≤ n ∧ n ≤ 9223372036854775807) ∧ Wk d (.sc (.int .i64 n)) := by
  obtain ⟨n, h, hw⟩ := Arg.one (by kernel_rfl) (fun n : Int => IntKind.i64.min ≤ n ∧ n ≤ IntKind.i64.max) (fun n => .sc (.int .i64 n)) (fun ds hd => by
    obtain ⟨n, rfl, h1, h2⟩ := Rd.int_inv Tryz.underlying3 hd
    exact ⟨n, ⟨h1, h2⟩, .refl _⟩) h
  simp [IntKind.min, IntKind.max, IntKind.signed, IntKind.bits] at h
  exact ⟨n, by omega, hw⟩
end Go.Bw.R1

/- Plain: what bytes tell: the decoder. -/
namespace Go.Bw.R1
set_option maxRecDepth 5000
open Go Go.Bw
def toL (s : ByteArray) : List UInt8 := s.data.toList
def mkT (l : List UInt8) : ByteArray := ⟨l.toArray⟩
theorem toL_app (a b : ByteArray) : toL (a ++ b) = toL a ++ toL b := by unfold toL; rw [ByteArray.data_append, Array.toList_append]
theorem toL_len (s : ByteArray) : (toL s).length = s.size := rfl
theorem toL_e0 : toL e0 = [] := rfl
theorem toL_e : toL ⟨#[]⟩ = [] := rfl
theorem mkT_toL (s : ByteArray) : mkT (toL s) = s := by unfold mkT toL; rw [Array.toArray_toList]
theorem toL_b1 (n : Int) : toL (b1 n) = [UInt8.ofNat n.toNat] := rfl
theorem toL_inj {a b : ByteArray} (h : toL a = toL b) : a = b := by rw [← mkT_toL a, h, mkT_toL]
def u8I (x : UInt8) : Int := x.toNat
theorem u8I_of {c : Int} (h0 : 0 ≤ c) (h1 : c ≤ 255) : u8I (UInt8.ofNat c.toNat) = c := by
  unfold u8I; rw [UInt8.toNat_ofNat']; omega
def takeL (n : Nat) (l : List UInt8) : Except Int (List UInt8 × List UInt8) := if l.length < n then .error 7 else .ok (l.take n, l.drop n)
def beN (l : List UInt8) : Nat := l.foldl (fun a x => a * 256 + x.toNat) 0
def wideC (c : Int) : Nat := if c / 16 % 2 = 1 then 4 else 1
def fixC (c : Int) : Nat := if c / 16 = 4 then 0 else if c / 16 = 5 then 1 else if c / 16 = 6 then 2 else if c / 16 = 7 then 4 else if c / 16 = 8 then 8 else 16
def dataL (c : Int) (l : List UInt8) : Except Int (List UInt8 × List UInt8) :=
  if c < 160 then takeL (fixC c) l else
  match takeL (wideC c) l with
  | .error e => .error e
  | .ok (h, l1) => match takeL (beN h) l1 with
    | .error e => .error e
    | .ok (d, l2) => .ok (h ++ d, l2)
/-- a number of some bytes, with its sign, as one of 64 bits -/
def sgnX (x : Int) (w : Nat) : Int := if w < 1 ∨ 8 ≤ w then x else if x < 2 ^ (8 * w - 1) then x else x + (2 ^ 64 - 2 ^ (8 * w))
def leafV (c : Int) (d : List UInt8) : Val :=
  if c = 65 then .mk 2 1 e0 [] else if c = 66 ∨ c = 67 ∨ c = 68 ∨ c = 69 ∨ c = 64 then .mk (kindC c) 0 e0 []
  else if c / 16 = 9 ∨ kindC c = 16 ∨ kindC c = 17 then .mk (kindC c) 0 (mkT d) []
  else if 160 ≤ c then .mk (kindC c) 0 (mkT (d.drop (wideC c))) []
  else if kindC c = 7 ∨ kindC c = 8 ∨ kindC c = 9 ∨ kindC c = 10 ∨ kindC c = 14 then .mk (kindC c) (sgnX (beN d) d.length) e0 []
  else .mk (kindC c) (beN d) e0 []
/-- what is told ahead of a value -/
def nameS (go : List UInt8 → Except Int ((List Val × Int) × List UInt8)) (k : Int) (r2 : List UInt8) : Except Int ((List Val × Int) × List UInt8) :=
  if kindC k ≠ 6 ∧ kindC k ≠ 21 then .error 6 else match dataL k r2 with
    | .error e => .error e
    | .ok (d, r3) => match go r3 with
      | .error e => .error e
      | .ok ((ns, C), r4) => .ok ((leafV k d :: ns, C), r4)
def consS (go : List UInt8 → Except Int ((List Val × Int) × List UInt8)) : List UInt8 → Except Int ((List Val × Int) × List UInt8)
  | [] => .error 7
  | c :: r =>
    if u8I c = 0 then
      match r with
      | [] => .error 7
      | k :: r2 => nameS go (u8I k) r2
    else if kindC (u8I c) = 0 then .error 6 else .ok (([], u8I c), r)
def consL : Nat → List UInt8 → Except Int ((List Val × Int) × List UInt8)
  | 0, _ => .error 7
  | n + 1, l => consS (consL n) l
theorem consL_succ (n : Nat) (l : List UInt8) : consL (n + 1) l = consS (consL n) l := rfl
def callV (ns : List Val) (v : Val) : Val := ns.foldr (fun n x => .mk 25 0 e0 [n, x]) v
def manyF (step : List UInt8 → Except Int (Val × List UInt8)) : Nat → List UInt8 → Except Int (List Val × List UInt8)
  | 0, l => .ok ([], l)
  | n + 1, l => match step l with
    | .error e => .error e
    | .ok (v, l1) => match manyF step n l1 with
      | .error e => .error e
      | .ok (vs, l2) => .ok (v :: vs, l2)
def itemF (rd : Int → List UInt8 → Except Int Val) (ns : List Val) (c : Int) (l : List UInt8) : Except Int (Val × List UInt8) :=
  match dataL c l with
  | .error e => .error e
  | .ok (d, r) => match rd c d with
    | .error e => .error e
    | .ok v => .ok (callV ns v, r)
def valF (rd : Int → List UInt8 → Except Int Val) (l : List UInt8) : Except Int (Val × List UInt8) :=
  match consL (l.length + 1) l with
  | .error e => .error e
  | .ok ((ns, c), r) => itemF rd ns c r
def endF (k : Int) : Except Int (List Val × List UInt8) → Except Int Val
  | .error e => .error e
  | .ok (vs, r) => if r.isEmpty = true then .ok (.mk k 0 e0 vs) else .error 6
def bodyF (rd : Int → List UInt8 → Except Int Val) (c : Int) (m : Nat) (r1 : List UInt8) : Except Int Val :=
  if 1024 < m then .error 6 else
  if kindC c = 24 then
    match consL (r1.length + 1) r1 with
    | .error e => .error e
    | .ok ((ns, C), r2) => endF (kindC c) (manyF (itemF rd ns C) m r2)
  else endF (kindC c) (manyF (valF rd) m r1)
def readS (rd : Int → List UInt8 → Except Int Val) (c : Int) (d : List UInt8) : Except Int Val :=
  if c < 192 then .ok (leafV c d) else
  match takeL (wideC c) d with
  | .error e => .error e
  | .ok (_, r) => match takeL (wideC c) r with
    | .error e => .error e
    | .ok (h, r1) => bodyF rd c (beN h) r1
def readF : Nat → Int → List UInt8 → Except Int Val
  | 0, _, _ => .error 6
  | n + 1, c, d => readS (readF n) c d
theorem readF_succ (n : Nat) (c : Int) (d : List UInt8) : readF (n + 1) c d = readS (readF n) c d := rfl
end Go.Bw.R1

/- Plain: the decoder, by places. -/
namespace Go.Bw.R1
set_option maxRecDepth 5000
open Go Go.Bw
theorem toL_ext (s : ByteArray) (a b : Nat) : toL (s.extract a b) = ((toL s).drop a).take (b - a) := by
  unfold toL
  rw [ByteArray.data_extract, Array.toList_extract, List.extract_eq_take_drop]
theorem takeL_at (s : ByteArray) (at_ n : Nat) : takeL n ((toL s).drop at_) = if s.size - at_ < n then .error 7 else .ok (toL (s.extract at_ (at_ + n)), (toL s).drop (at_ + n)) := by
  unfold takeL
  rw [List.length_drop, toL_len, toL_ext, Nat.add_sub_cancel_left, List.drop_drop]
theorem ext_join (s : ByteArray) (a b c : Nat) (h1 : a ≤ b) (h2 : b ≤ c) : toL (s.extract a b) ++ toL (s.extract b c) = toL (s.extract a c) := by
  rw [toL_ext, toL_ext, toL_ext]
  have : (toL s).drop b = ((toL s).drop a).drop (b - a) := by rw [List.drop_drop]; congr 1; omega
  rw [this, ← List.take_append_drop (b - a) (((toL s).drop a).take (c - a)), List.take_take, List.drop_take]
  congr 2
  · omega
  · omega
theorem mkT_ext (s : ByteArray) (a b : Nat) : mkT (toL (s.extract a b)) = s.extract a b := mkT_toL _
theorem toL_mkT (l : List UInt8) : toL (mkT l) = l := by unfold toL mkT; rfl
theorem beN_snoc (l : List UInt8) (x : UInt8) : beN (l ++ [x]) = beN l * 256 + x.toNat := by unfold beN; rw [List.foldl_append]; rfl
theorem beN_lt : ∀ (n : Nat) (l : List UInt8), l.length = n → beN l < 256 ^ n
  | 0, l, h => by rw [List.length_eq_zero_iff.1 h]; decide
  | n + 1, l, h => by
    obtain ⟨a, x, rfl⟩ : ∃ a x, l = a ++ [x] := ⟨l.dropLast, l.getLast (by intro hh; rw [hh] at h; cases h), (List.dropLast_concat_getLast _).symm⟩
    have := beN_lt n a (by rw [List.length_append] at h; simpa using h)
    have := x.toNat_lt
    rw [beN_snoc, Nat.pow_succ]; omega
/-- data, by places -/
theorem dataL_short {c : Int} (s : ByteArray) (at_ : Nat) (hc : c < 160) : dataL c ((toL s).drop at_) = if s.size - at_ < fixC c then .error 7 else .ok (toL (s.extract at_ (at_ + fixC c)), (toL s).drop (at_ + fixC c)) := by
  unfold dataL; rw [if_pos hc, takeL_at]
theorem dataL_long {c : Int} (s : ByteArray) (at_ : Nat) (hc : ¬ c < 160) : dataL c ((toL s).drop at_) = if s.size - at_ < wideC c then .error 7 else
    if s.size - (at_ + wideC c) < beN (toL (s.extract at_ (at_ + wideC c))) then .error 7 else
    .ok (toL (s.extract at_ (at_ + wideC c + beN (toL (s.extract at_ (at_ + wideC c))))), (toL s).drop (at_ + wideC c + beN (toL (s.extract at_ (at_ + wideC c))))) := by
  unfold dataL
  rw [if_neg hc, takeL_at]
  by_cases h : s.size - at_ < wideC c
  · rw [if_pos h, if_pos h]
  · rw [if_neg h, if_neg h]
    dsimp only
    rw [takeL_at]
    by_cases h2 : s.size - (at_ + wideC c) < beN (toL (s.extract at_ (at_ + wideC c)))
    · rw [if_pos h2, if_pos h2]
    · rw [if_neg h2, if_neg h2]
      dsimp only
      rw [ext_join _ _ _ _ (by omega) (by omega)]
end Go.Bw.R1

/- decode: the reader. -/
namespace Go.Bw.R1
set_option maxRecDepth 5000
open Go Go.Bw Go.Proofs
/-- a reader, and what it throws -/
abbrev rdr (s : ByteArray) (at_ : Nat) : List D := [.ro false (bytesD s), I at_]
abbrev thr (e : Int) : R := .pan (.ifc 29 (I e))
theorem all1 (s : ByteArray) : ((bytesD s).all fun e => e.cells.length == 1) = true := by
  rw [List.all_eq_true]
  intro x hx
  obtain ⟨_, _, rfl⟩ := List.mem_map.1 hx; rfl
theorem cutB (s : ByteArray) (a b : Nat) : (List.take b (bytesD s)).drop a = bytesD (s.extract a b) := by
  unfold bytesD
  rw [← List.map_take, ← List.map_drop]
  congr 1
  rw [ByteArray.data_extract, Array.toList_extract, List.extract_eq_take_drop, List.drop_take]
theorem take_ok (s : ByteArray) (at_ n : Nat) (h : at_ + n ≤ s.size) (hs : s.size ≤ 100000000000) : EV 92 [.ptr 0 0 0, I n] [some ⟨0, rdr s at_⟩] = some (.ret (.ro false (bytesD (s.extract at_ (at_ + n)))), [some ⟨0, rdr s (at_ + n)⟩]) := by
  refine (ev_body ⟨[], [], [(1, [(0, 0, false), (1, 0, false), (2, 0, false), (3, 0, false), (4, 0, false), (5, 0, false), (6, 0, false), (7, 0, false), (8, 0, false), (9, 0, false), (10, 0, false), (11, 0, false)]), (4, [(0, 0, false), (1, 0, false), (2, 0, false), (3, 0, false), (4, 0, false), (5, 0, false), (6, 0, false), (7, 0, false), (8, 0, false), (9, 0, false), (10, 0, false), (11, 0, false), (12, 0, false), (13, 0, false), (14, 0, false), (15, 0, false)])], true, [], noIt⟩ [.tmp 4] rfl Tryz.func92 rfl rfl rfl (by kernel_rfl) (by show 2 ≤ 41; decide) (by kernel_rfl)).trans ?_
  have hgt : decide ((n : Int) > (s.size : Int) - at_) = false := decide_eq_false (by omega)
  simp +contextual (maxSteps := 10000000) only [go_sem, wrap_i64 (n := (s.size : Int) - at_) (by omega) (by omega), wrap_i64 (n := (at_ : Int) + n) (by omega) (by omega), show ((at_ : Int) + n).toNat = at_ + n by omega, show (0 ≤ (at_ : Int) + n) = True from eq_true (by omega), show IntKind.i64.wrap ((at_ : Int) + n - n) = at_ by rw [wrap_i64 (by omega) (by omega)]; omega,
    show (at_ ≤ at_ + n) = True from eq_true (by omega), show (at_ + n ≤ s.size) = True from eq_true h, all1, cutB, Bool.false_and, hgt]
  rfl
theorem take_no (s : ByteArray) (at_ n : Nat) (ha : at_ ≤ s.size) (h : s.size < at_ + n) (hs : s.size ≤ 100000000000) : EV 92 [.ptr 0 0 0, I n] [some ⟨0, rdr s at_⟩] = some (thr 7, [some ⟨0, [.undef, .undef]⟩]) := by
  refine (ev_body ⟨[], [], [(1, [(0, 0, false), (1, 0, false), (2, 0, false), (3, 0, false), (4, 0, false), (5, 0, false), (6, 0, false), (7, 0, false), (8, 0, false), (9, 0, false), (10, 0, false), (11, 0, false)]), (4, [(0, 0, false), (1, 0, false), (2, 0, false), (3, 0, false), (4, 0, false), (5, 0, false), (6, 0, false), (7, 0, false), (8, 0, false), (9, 0, false), (10, 0, false), (11, 0, false), (12, 0, false), (13, 0, false), (14, 0, false), (15, 0, false)])], true, [], noIt⟩ [.tmp 4] rfl Tryz.func92 rfl rfl rfl (by kernel_rfl) (by show 2 ≤ 41; decide) (by kernel_rfl)).trans ?_
  have hgt : decide ((s.size : Int) - at_ < n) = true := decide_eq_true (by omega)
  simp +contextual (maxSteps := 10000000) only [go_sem, wrap_i64 (n := (s.size : Int) - at_) (by omega) (by omega), hgt]
theorem fde (n c : Int) (hc : 0 ≤ c) : n.fdiv c = n / c := Int.fdiv_eq_ediv_of_nonneg _ hc
theorem wide_c (c : Int) (h0 : 0 ≤ c) (h1 : c ≤ 255) : EV 94 [.sc (.int .u8 c)] [] = some (.ret (I (wideC c)), []) := by
  refine (ev_body ⟨[], [], [], false, [], noIt⟩ [.tmp 2] rfl Tryz.func94 rfl rfl rfl (by kernel_rfl) (by show 1 ≤ 7; decide) (by kernel_rfl)).trans ?_
  simp +contextual (maxSteps := 10000000) only [go_sem]
  have e : andB .u8 (c.fdiv 16) 1 = c / 16 % 2 := by rw [fde c 16 (by decide)]; exact and_u8 1 rfl (by decide) (by omega) (by omega)
  rw [e]
  unfold wideC
  split <;> rename_i h
  · rw [if_pos (by simpa using h)]; rfl
  · rw [if_neg (by simpa using h)]; rfl
theorem tell_c (d : ByteArray) (hd : d.size ≤ 8) : EV 127 [.ro false (bytesD d)] [] = some (.ret (.tup [.sc (.int .u64 (beN (toL d))), B true]), []) := by
  refine (ev_body ⟨[], [(0, [2, 9, 10, 11])], [], false, [], noIt⟩ [.tmp 2, .tmp 3] rfl Tryz.func127 rfl rfl rfl (by kernel_rfl) (by show 1 ≤ 22; decide) (by kernel_rfl)).trans ?_
  have h8 : decide ((8 : Int) < d.size) = false := decide_eq_false (by omega)
  simp +contextual (maxSteps := 10000000) only [go_sem, h8]
  refine lpK_inv (fun m0 f es => ∃ (i : Nat), i + m0 = d.size ∧ f = [(2, .sc (.int .u64 (beN ((toL d).take i)))), (9, .ro false (bytesD d)), (10, I d.size), (11, I i)] ∧ es = []) d.size ⟨0, Nat.zero_add _, rfl, rfl⟩ ?_
  rintro m0 _ _ ⟨i, hi, rfl, rfl⟩ ih
  rcases Nat.lt_or_ge i d.size with hlt | hge
  · obtain ⟨x, hx⟩ := get_lt (l := toL d) (i := i) hlt
    have hlt' : decide ((i : Int) < d.size) = true := decide_eq_true (by omega)
    have hx2 : (bytesD d)[i]? = some (.sc (.int .u8 x.toNat)) := by
      unfold bytesD; rw [List.getElem?_map]; unfold toL at hx; rw [hx]; rfl
    have hsn := take_snoc hx
    simp +contextual (maxSteps := 10000000) only [go_sem, hlt', hx2, wrap_i64 (n := (i : Int) + 1) (by omega) (by omega)]
    have hb := beN_lt _ ((toL d).take i) rfl
    have hle : 256 ^ ((toL d).take i).length ≤ 256 ^ 7 := Nat.pow_le_pow_right (by decide) (by rw [List.length_take]; omega)
    have hx8 := x.toNat_lt
    have hb2 : beN ((toL d).take i) < 72057594037927936 := Nat.lt_of_lt_of_le hb hle
    rw [fit_u64 (n := (beN ((toL d).take i) : Int) * 256) (by omega) (by omega), fit_u64 (n := (x.toNat : Int)) (by omega) (by omega), fit_u64 (by omega) (by omega)]
    refine ih (m0 - 1) _ _ (by omega) ⟨i + 1, by omega, ?_, rfl⟩
    rw [hsn, beN_snoc]; rfl
  · have hlt' : decide ((i : Int) < d.size) = false := decide_eq_false (by omega)
    have e : (toL d).take i = toL d := List.take_of_length_le (by rw [toL_len]; omega)
    rw [e]
    simp +contextual (maxSteps := 10000000) only [go_sem, hlt']
/-- what a reading function answers: a reader further on, or what it throws -/
def numR (s : ByteArray) (at_ w : Nat) : R × Sto := if s.size - at_ < w then (thr 7, [some ⟨0, [.undef, .undef]⟩]) else (.ret (I (beN (toL (s.extract at_ (at_ + w))))), [some ⟨0, rdr s (at_ + w)⟩])
theorem number_c' (s : ByteArray) (at_ w : Nat) (ha : at_ ≤ s.size) (hs : s.size ≤ 100000000000) (hw : w ≤ 4) : EV 93 [.ptr 0 0 0, I w] [some ⟨0, rdr s at_⟩] = some (numR s at_ w) := by
  refine (ev_body ⟨[], [], [], false, [], noIt⟩ [.tmp 4] rfl Tryz.func93 rfl rfl rfl (by kernel_rfl) (by show 2 ≤ 16; decide) (by kernel_rfl)).trans ?_
  unfold numR
  by_cases h : s.size - at_ < w
  · rw [if_pos h]
    have ht := take_no s at_ w ha (by omega) hs
    simp +contextual (maxSteps := 10000000) only [go_sem, ht]
  · rw [if_neg h]
    have ht := take_ok s at_ w (by omega) hs
    have hz : (s.extract at_ (at_ + w)).size = w := by rw [ByteArray.size_extract]; omega
    have htl := tell_c (s.extract at_ (at_ + w)) (by omega)
    have hb := beN_lt _ (toL (s.extract at_ (at_ + w))) rfl
    have hle : 256 ^ (toL (s.extract at_ (at_ + w))).length ≤ 256 ^ 4 := Nat.pow_le_pow_right (by decide) (by rw [toL_len]; omega)
    simp +contextual (maxSteps := 10000000) only [go_sem, ht, htl, wrap_i64 (n := (beN (toL (s.extract at_ (at_ + w))) : Int)) (by omega) (by omega)]
def datR (c : Int) (s : ByteArray) (at_ : Nat) : R × Sto := match dataL c ((toL s).drop at_) with
  | .error e => (thr e, [some ⟨0, [.undef, .undef]⟩])
  | .ok (d, r) => (.ret (.ro false (bytesD (mkT d))), [some ⟨0, rdr s (s.size - r.length)⟩])
set_option maxHeartbeats 2000000 in
theorem data_c' (c : Int) (s : ByteArray) (at_ : Nat) (ha : at_ ≤ s.size) (hs : s.size ≤ 100000000000) (h0 : 64 ≤ c) (h1 : c ≤ 255) : EV 56 [.ptr 0 0 0, .sc (.int .u8 c)] [some ⟨0, rdr s at_⟩] = some (datR c s at_) := by
  refine (ev_body ⟨[], [], [(6, [(0, 0, false), (1, 0, false), (2, 0, false), (3, 0, false), (4, 0, false), (5, 0, false), (6, 0, false), (7, 0, false), (8, 0, false), (9, 0, false), (10, 0, false)])], true, [], noIt⟩ [.tmp 4] rfl Tryz.func56 rfl rfl rfl (by kernel_rfl) (by show 2 ≤ 37; decide) (by kernel_rfl)).trans ?_
  unfold datR
  have hb1 : ∀ n, at_ + n ≤ s.size → s.size - ((toL s).drop (at_ + n)).length = at_ + n := fun n hn => by rw [List.length_drop, toL_len]; omega
  by_cases hc : c < 160
  · have hcd : decide (c < 160) = true := decide_eq_true hc
    rw [dataL_short s at_ hc]
    have hq : (c / 16 = 4 ∧ fixC c = 0) ∨ (c / 16 = 5 ∧ fixC c = 1) ∨ (c / 16 = 6 ∧ fixC c = 2) ∨ (c / 16 = 7 ∧ fixC c = 4) ∨ (c / 16 = 8 ∧ fixC c = 8) ∨ (c / 16 = 9 ∧ fixC c = 16) := by
      unfold fixC
      rcases (show c / 16 = 4 ∨ c / 16 = 5 ∨ c / 16 = 6 ∨ c / 16 = 7 ∨ c / 16 = 8 ∨ c / 16 = 9 by omega) with h | h | h | h | h | h <;> rw [h] <;> simp
    rcases hq with ⟨hq, hf⟩ | ⟨hq, hf⟩ | ⟨hq, hf⟩ | ⟨hq, hf⟩ | ⟨hq, hf⟩ | ⟨hq, hf⟩
    · have hi : (c.fdiv 16 - 4) % 256 = 0 := by rw [fde c 16 (by decide)]; omega
      rw [hf]
      by_cases h : s.size - at_ < 0
      · rw [if_pos h]
        have ht := take_no s at_ 0 ha (by omega) hs
        simp only [Int.cast_ofNat_Int] at ht
        simp +contextual (maxSteps := 10000000) only [go_sem, hcd, ht, hi]
      · rw [if_neg h]
        have ht := take_ok s at_ 0 (by omega) hs
        simp only [Int.cast_ofNat_Int] at ht
        have e := hb1 0 (by omega)
        simp +contextual (maxSteps := 10000000) only [go_sem, hcd, ht, hi]
        rw [mkT_ext, show s.size - (List.drop at_ (toL s)).length = at_ from e]
    · have hi : (c.fdiv 16 - 4) % 256 = 1 := by rw [fde c 16 (by decide)]; omega
      rw [hf]
      by_cases h : s.size - at_ < 1
      · rw [if_pos h]
        have ht := take_no s at_ 1 ha (by omega) hs
        simp only [Int.cast_ofNat_Int] at ht
        simp +contextual (maxSteps := 10000000) only [go_sem, hcd, ht, hi]
      · rw [if_neg h]
        have ht := take_ok s at_ 1 (by omega) hs
        simp only [Int.cast_ofNat_Int] at ht
        have e := hb1 1 (by omega)
        simp +contextual (maxSteps := 10000000) only [go_sem, hcd, ht, hi]
        rw [mkT_ext, e]; rfl
    · have hi : (c.fdiv 16 - 4) % 256 = 2 := by rw [fde c 16 (by decide)]; omega
      rw [hf]
      by_cases h : s.size - at_ < 2
      · rw [if_pos h]
        have ht := take_no s at_ 2 ha (by omega) hs
        simp only [Int.cast_ofNat_Int] at ht
        simp +contextual (maxSteps := 10000000) only [go_sem, hcd, ht, hi]
      · rw [if_neg h]
        have ht := take_ok s at_ 2 (by omega) hs
        simp only [Int.cast_ofNat_Int] at ht
        have e := hb1 2 (by omega)
        simp +contextual (maxSteps := 10000000) only [go_sem, hcd, ht, hi]
        rw [mkT_ext, e]; rfl
    · have hi : (c.fdiv 16 - 4) % 256 = 3 := by rw [fde c 16 (by decide)]; omega
      rw [hf]
      by_cases h : s.size - at_ < 4
      · rw [if_pos h]
        have ht := take_no s at_ 4 ha (by omega) hs
        simp only [Int.cast_ofNat_Int] at ht
        simp +contextual (maxSteps := 10000000) only [go_sem, hcd, ht, hi]
      · rw [if_neg h]
        have ht := take_ok s at_ 4 (by omega) hs
        simp only [Int.cast_ofNat_Int] at ht
        have e := hb1 4 (by omega)
        simp +contextual (maxSteps := 10000000) only [go_sem, hcd, ht, hi]
        rw [mkT_ext, e]; rfl
    · have hi : (c.fdiv 16 - 4) % 256 = 4 := by rw [fde c 16 (by decide)]; omega
      rw [hf]
      by_cases h : s.size - at_ < 8
      · rw [if_pos h]
        have ht := take_no s at_ 8 ha (by omega) hs
        simp only [Int.cast_ofNat_Int] at ht
        simp +contextual (maxSteps := 10000000) only [go_sem, hcd, ht, hi]
      · rw [if_neg h]
        have ht := take_ok s at_ 8 (by omega) hs
        simp only [Int.cast_ofNat_Int] at ht
        have e := hb1 8 (by omega)
        simp +contextual (maxSteps := 10000000) only [go_sem, hcd, ht, hi]
        rw [mkT_ext, e]; rfl
    · have hi : (c.fdiv 16 - 4) % 256 = 5 := by rw [fde c 16 (by decide)]; omega
      rw [hf]
      by_cases h : s.size - at_ < 16
      · rw [if_pos h]
        have ht := take_no s at_ 16 ha (by omega) hs
        simp only [Int.cast_ofNat_Int] at ht
        simp +contextual (maxSteps := 10000000) only [go_sem, hcd, ht, hi]
      · rw [if_neg h]
        have ht := take_ok s at_ 16 (by omega) hs
        simp only [Int.cast_ofNat_Int] at ht
        have e := hb1 16 (by omega)
        simp +contextual (maxSteps := 10000000) only [go_sem, hcd, ht, hi]
        rw [mkT_ext, e]; rfl
  · have hcd : decide (c < 160) = false := decide_eq_false hc
    rw [dataL_long s at_ hc]
    have hwd := wide_c c (by omega) h1
    have hw4 : wideC c ≤ 4 := by unfold wideC; split <;> omega
    have hn := number_c' s at_ (wideC c) ha hs hw4
    unfold numR at hn
    by_cases h : s.size - at_ < wideC c
    · rw [if_pos h] at hn ⊢
      simp +contextual (maxSteps := 10000000) only [go_sem, hcd, hwd, hn]
    · rw [if_neg h] at hn ⊢
      generalize hN : beN (toL (s.extract at_ (at_ + wideC c))) = N at *
      by_cases h2 : s.size - (at_ + wideC c) < N
      · rw [if_pos h2]
        have ht := take_no s (at_ + wideC c) N (by omega) (by omega) hs
        simp only [rdr, Int.natCast_add] at ht
        simp +contextual (maxSteps := 10000000) only [go_sem, hcd, hwd, hn, ht]
      · rw [if_neg h2]
        have ht := take_ok s (at_ + wideC c) N (by omega) hs
        simp only [rdr, Int.natCast_add] at ht
        simp +contextual (maxSteps := 10000000) only [go_sem, hcd, hwd, hn, ht, show ((at_ : Int) + wideC c + N).toNat = at_ + wideC c + N by omega, show (0 ≤ (at_ : Int) + wideC c + N) = True from eq_true (by omega), show (at_ ≤ at_ + wideC c + N) = True from eq_true (by omega), show (at_ + wideC c + N ≤ s.size) = True from eq_true (by omega), all1, cutB, Bool.false_and]
        have e := hb1 (wideC c + N) (by omega)
        rw [← Nat.add_assoc] at e
        rw [mkT_ext, e]; rfl
end Go.Bw.R1

/- decode.read, of what has no kids. -/
namespace Go.Bw.R1
set_option maxRecDepth 5000
open Go Go.Bw Go.Proofs
theorem mapTk : MapT Tryz.prog 116 := ⟨5, 5, by rw [Tryz.underlying116], by rw [Tryz.underlying5], ze5, by kernel_rfl, by kernel_rfl⟩
theorem gl_kinds : gl0 1 = .rp [kindsD] := nr rfl
theorem sgn_8 (x : Int) : EV 129 [.sc (.int .u64 x), I 8] [] = some (.ret (.sc (.int .u64 x)), []) := by
  refine (ev_body ⟨[], [], [], false, [], noIt⟩ [.tmp 4] rfl Tryz.func129 rfl rfl rfl (by kernel_rfl) (by show 2 ≤ 23; decide) (by kernel_rfl)).trans ?_
  simp +contextual (maxSteps := 10000000) only [go_sem]
theorem sgn_1 (x : Int) (h0 : 0 ≤ x) (h1 : x < 256) : EV 129 [.sc (.int .u64 x), I 1] [] = some (.ret (.sc (.int .u64 (sgnX x 1))), []) := by
  refine (ev_body ⟨[], [], [], false, [], noIt⟩ [.tmp 4] rfl Tryz.func129 rfl rfl rfl (by kernel_rfl) (by show 2 ≤ 23; decide) (by kernel_rfl)).trans ?_
  have e : IntKind.u64.wrap ((IntKind.i64.wrap (IntKind.u64.wrap (x * 72057594037927936))).fdiv 72057594037927936) = sgnX x 1 := by
    have s1 : sgnX x 1 = if x < 128 then x else x + 18446744073709551360 := by
      unfold sgnX; rw [if_neg (by decide), show (2 : Int) ^ (8 * 1 - 1) = 128 from rfl, show (2 : Int) ^ 64 - 2 ^ (8 * 1) = 18446744073709551360 from rfl]
    rw [fit_u64 (n := x * 72057594037927936) (by omega) (by omega), fde _ _ (by decide), wrap_i64_eq, s1, wrap_u64]
    split <;> split <;> omega
  simp +contextual (maxSteps := 10000000) only [go_sem, e]
theorem sgn_2 (x : Int) (h0 : 0 ≤ x) (h1 : x < 65536) : EV 129 [.sc (.int .u64 x), I 2] [] = some (.ret (.sc (.int .u64 (sgnX x 2))), []) := by
  refine (ev_body ⟨[], [], [], false, [], noIt⟩ [.tmp 4] rfl Tryz.func129 rfl rfl rfl (by kernel_rfl) (by show 2 ≤ 23; decide) (by kernel_rfl)).trans ?_
  have e : IntKind.u64.wrap ((IntKind.i64.wrap (IntKind.u64.wrap (x * 281474976710656))).fdiv 281474976710656) = sgnX x 2 := by
    have s1 : sgnX x 2 = if x < 32768 then x else x + 18446744073709486080 := by
      unfold sgnX; rw [if_neg (by decide), show (2 : Int) ^ (8 * 2 - 1) = 32768 from rfl, show (2 : Int) ^ 64 - 2 ^ (8 * 2) = 18446744073709486080 from rfl]
    rw [fit_u64 (n := x * 281474976710656) (by omega) (by omega), fde _ _ (by decide), wrap_i64_eq, s1, wrap_u64]
    split <;> split <;> omega
  simp +contextual (maxSteps := 10000000) only [go_sem, e]
theorem sgn_4 (x : Int) (h0 : 0 ≤ x) (h1 : x < 4294967296) : EV 129 [.sc (.int .u64 x), I 4] [] = some (.ret (.sc (.int .u64 (sgnX x 4))), []) := by
  refine (ev_body ⟨[], [], [], false, [], noIt⟩ [.tmp 4] rfl Tryz.func129 rfl rfl rfl (by kernel_rfl) (by show 2 ≤ 23; decide) (by kernel_rfl)).trans ?_
  have e : IntKind.u64.wrap ((IntKind.i64.wrap (IntKind.u64.wrap (x * 4294967296))).fdiv 4294967296) = sgnX x 4 := by
    have s1 : sgnX x 4 = if x < 2147483648 then x else x + 18446744069414584320 := by
      unfold sgnX; rw [if_neg (by decide), show (2 : Int) ^ (8 * 4 - 1) = 2147483648 from rfl, show (2 : Int) ^ 64 - 2 ^ (8 * 4) = 18446744069414584320 from rfl]
    rw [fit_u64 (n := x * 4294967296) (by omega) (by omega), fde _ _ (by decide), wrap_i64_eq, s1, wrap_u64]
    split <;> split <;> omega
  simp +contextual (maxSteps := 10000000) only [go_sem, e]
theorem dropB (s : ByteArray) (a : Nat) (h : a ≤ s.size) : List.drop a (bytesD s) = bytesD (mkT ((toL s).drop a)) := by
  unfold bytesD toL mkT; rw [List.map_drop]
set_option maxHeartbeats 1000000 in
theorem read_64 (d : ByteArray) (h : d.size = 0) : EV 95 [.sc (.int .u8 64), .ro false (bytesD d)] [] = some (.ret (leafV 64 (toL d)).d, []) := by
  have hk : kindC 64 = 1 := by decide
  refine (ev_body ⟨[], [], [], true, [], noIt⟩ [.cell 4 46] rfl Tryz.func95 rfl rfl rfl (by kernel_rfl) (by show 2 ≤ 75; decide) (by kernel_rfl)).trans ?_
  simp +contextual (maxSteps := 10000000) only [go_sem, look_kinds mapTk, gl_kinds, hk, number_c]
  rfl
set_option maxHeartbeats 1000000 in
theorem read_65 (d : ByteArray) (h : d.size = 0) : EV 95 [.sc (.int .u8 65), .ro false (bytesD d)] [] = some (.ret (leafV 65 (toL d)).d, []) := by
  have hk : kindC 65 = 2 := by decide
  refine (ev_body ⟨[], [], [], true, [], noIt⟩ [.cell 4 46] rfl Tryz.func95 rfl rfl rfl (by kernel_rfl) (by show 2 ≤ 75; decide) (by kernel_rfl)).trans ?_
  simp +contextual (maxSteps := 10000000) only [go_sem, look_kinds mapTk, gl_kinds, hk, bool_c]
  rfl
set_option maxHeartbeats 1000000 in
theorem read_66 (d : ByteArray) (h : d.size = 0) : EV 95 [.sc (.int .u8 66), .ro false (bytesD d)] [] = some (.ret (leafV 66 (toL d)).d, []) := by
  have hk : kindC 66 = 2 := by decide
  refine (ev_body ⟨[], [], [], true, [], noIt⟩ [.cell 4 46] rfl Tryz.func95 rfl rfl rfl (by kernel_rfl) (by show 2 ≤ 75; decide) (by kernel_rfl)).trans ?_
  simp +contextual (maxSteps := 10000000) only [go_sem, look_kinds mapTk, gl_kinds, hk, number_c]
  rfl
set_option maxHeartbeats 1000000 in
theorem read_67 (d : ByteArray) (h : d.size = 0) : EV 95 [.sc (.int .u8 67), .ro false (bytesD d)] [] = some (.ret (leafV 67 (toL d)).d, []) := by
  have hk : kindC 67 = 5 := by decide
  refine (ev_body ⟨[], [], [], true, [], noIt⟩ [.cell 4 46] rfl Tryz.func95 rfl rfl rfl (by kernel_rfl) (by show 2 ≤ 75; decide) (by kernel_rfl)).trans ?_
  simp +contextual (maxSteps := 10000000) only [go_sem, look_kinds mapTk, gl_kinds, hk, number_c]
  rfl
set_option maxHeartbeats 1000000 in
theorem read_68 (d : ByteArray) (h : d.size = 0) : EV 95 [.sc (.int .u8 68), .ro false (bytesD d)] [] = some (.ret (leafV 68 (toL d)).d, []) := by
  have hk : kindC 68 = 6 := by decide
  refine (ev_body ⟨[], [], [], true, [], noIt⟩ [.cell 4 46] rfl Tryz.func95 rfl rfl rfl (by kernel_rfl) (by show 2 ≤ 75; decide) (by kernel_rfl)).trans ?_
  simp +contextual (maxSteps := 10000000) only [go_sem, look_kinds mapTk, gl_kinds, hk, number_c]
  rfl
set_option maxHeartbeats 1000000 in
theorem read_69 (d : ByteArray) (h : d.size = 0) : EV 95 [.sc (.int .u8 69), .ro false (bytesD d)] [] = some (.ret (leafV 69 (toL d)).d, []) := by
  have hk : kindC 69 = 22 := by decide
  refine (ev_body ⟨[], [], [], true, [], noIt⟩ [.cell 4 46] rfl Tryz.func95 rfl rfl rfl (by kernel_rfl) (by show 2 ≤ 75; decide) (by kernel_rfl)).trans ?_
  simp +contextual (maxSteps := 10000000) only [go_sem, look_kinds mapTk, gl_kinds, hk, number_c]
  rfl
set_option maxHeartbeats 1000000 in
theorem read_80 (d : ByteArray) (h : d.size = 1) : EV 95 [.sc (.int .u8 80), .ro false (bytesD d)] [] = some (.ret (leafV 80 (toL d)).d, []) := by
  have hk : kindC 80 = 3 := by decide
  refine (ev_body ⟨[], [], [], true, [], noIt⟩ [.cell 4 46] rfl Tryz.func95 rfl rfl rfl (by kernel_rfl) (by show 2 ≤ 75; decide) (by kernel_rfl)).trans ?_
  have ht := tell_c d (by omega)
  have hb := beN_lt _ (toL d) rfl
  rw [toL_len, h] at hb
  rw [show leafV 80 (toL d) = .mk 3 (beN (toL d)) ⟨#[]⟩ [] from rfl]
  simp +contextual (maxSteps := 10000000) only [go_sem, look_kinds mapTk, gl_kinds, hk, show (Int.fdiv 80 16 == 9) = false from rfl, ht, number_c, h]
set_option maxHeartbeats 1000000 in
theorem read_81 (d : ByteArray) (h : d.size = 1) : EV 95 [.sc (.int .u8 81), .ro false (bytesD d)] [] = some (.ret (leafV 81 (toL d)).d, []) := by
  have hk : kindC 81 = 7 := by decide
  refine (ev_body ⟨[], [], [], true, [], noIt⟩ [.cell 4 46] rfl Tryz.func95 rfl rfl rfl (by kernel_rfl) (by show 2 ≤ 75; decide) (by kernel_rfl)).trans ?_
  have ht := tell_c d (by omega)
  have hb := beN_lt _ (toL d) rfl
  rw [toL_len, h] at hb
  have hsg := sgn_1 (beN (toL d)) (by omega) (by omega)
  rw [show leafV 81 (toL d) = .mk 7 (sgnX (beN (toL d)) (toL d).length) ⟨#[]⟩ [] from rfl, toL_len, h]
  obtain ⟨S, hS⟩ : ∃ S, sgnX (beN (toL d)) 1 = S := ⟨_, rfl⟩
  rw [hS] at hsg ⊢
  simp +contextual (maxSteps := 10000000) only [go_sem, look_kinds mapTk, gl_kinds, hk, show (Int.fdiv 81 16 == 9) = false from rfl, ht, number_c, h, hsg]
set_option maxHeartbeats 1000000 in
theorem read_82 (d : ByteArray) (h : d.size = 1) : EV 95 [.sc (.int .u8 82), .ro false (bytesD d)] [] = some (.ret (leafV 82 (toL d)).d, []) := by
  have hk : kindC 82 = 5 := by decide
  refine (ev_body ⟨[], [], [], true, [], noIt⟩ [.cell 4 46] rfl Tryz.func95 rfl rfl rfl (by kernel_rfl) (by show 2 ≤ 75; decide) (by kernel_rfl)).trans ?_
  have ht := tell_c d (by omega)
  have hb := beN_lt _ (toL d) rfl
  rw [toL_len, h] at hb
  rw [show leafV 82 (toL d) = .mk 5 (beN (toL d)) ⟨#[]⟩ [] from rfl]
  simp +contextual (maxSteps := 10000000) only [go_sem, look_kinds mapTk, gl_kinds, hk, show (Int.fdiv 82 16 == 9) = false from rfl, ht, number_c, h]
set_option maxHeartbeats 1000000 in
theorem read_83 (d : ByteArray) (h : d.size = 1) : EV 95 [.sc (.int .u8 83), .ro false (bytesD d)] [] = some (.ret (leafV 83 (toL d)).d, []) := by
  have hk : kindC 83 = 6 := by decide
  refine (ev_body ⟨[], [], [], true, [], noIt⟩ [.cell 4 46] rfl Tryz.func95 rfl rfl rfl (by kernel_rfl) (by show 2 ≤ 75; decide) (by kernel_rfl)).trans ?_
  have ht := tell_c d (by omega)
  have hb := beN_lt _ (toL d) rfl
  rw [toL_len, h] at hb
  rw [show leafV 83 (toL d) = .mk 6 (beN (toL d)) ⟨#[]⟩ [] from rfl]
  simp +contextual (maxSteps := 10000000) only [go_sem, look_kinds mapTk, gl_kinds, hk, show (Int.fdiv 83 16 == 9) = false from rfl, ht, number_c, h]
set_option maxHeartbeats 1000000 in
theorem read_84 (d : ByteArray) (h : d.size = 1) : EV 95 [.sc (.int .u8 84), .ro false (bytesD d)] [] = some (.ret (leafV 84 (toL d)).d, []) := by
  have hk : kindC 84 = 9 := by decide
  refine (ev_body ⟨[], [], [], true, [], noIt⟩ [.cell 4 46] rfl Tryz.func95 rfl rfl rfl (by kernel_rfl) (by show 2 ≤ 75; decide) (by kernel_rfl)).trans ?_
  have ht := tell_c d (by omega)
  have hb := beN_lt _ (toL d) rfl
  rw [toL_len, h] at hb
  have hsg := sgn_1 (beN (toL d)) (by omega) (by omega)
  rw [show leafV 84 (toL d) = .mk 9 (sgnX (beN (toL d)) (toL d).length) ⟨#[]⟩ [] from rfl, toL_len, h]
  obtain ⟨S, hS⟩ : ∃ S, sgnX (beN (toL d)) 1 = S := ⟨_, rfl⟩
  rw [hS] at hsg ⊢
  simp +contextual (maxSteps := 10000000) only [go_sem, look_kinds mapTk, gl_kinds, hk, show (Int.fdiv 84 16 == 9) = false from rfl, ht, number_c, h, hsg]
set_option maxHeartbeats 1000000 in
theorem read_85 (d : ByteArray) (h : d.size = 1) : EV 95 [.sc (.int .u8 85), .ro false (bytesD d)] [] = some (.ret (leafV 85 (toL d)).d, []) := by
  have hk : kindC 85 = 10 := by decide
  refine (ev_body ⟨[], [], [], true, [], noIt⟩ [.cell 4 46] rfl Tryz.func95 rfl rfl rfl (by kernel_rfl) (by show 2 ≤ 75; decide) (by kernel_rfl)).trans ?_
  have ht := tell_c d (by omega)
  have hb := beN_lt _ (toL d) rfl
  rw [toL_len, h] at hb
  have hsg := sgn_1 (beN (toL d)) (by omega) (by omega)
  rw [show leafV 85 (toL d) = .mk 10 (sgnX (beN (toL d)) (toL d).length) ⟨#[]⟩ [] from rfl, toL_len, h]
  obtain ⟨S, hS⟩ : ∃ S, sgnX (beN (toL d)) 1 = S := ⟨_, rfl⟩
  rw [hS] at hsg ⊢
  simp +contextual (maxSteps := 10000000) only [go_sem, look_kinds mapTk, gl_kinds, hk, show (Int.fdiv 85 16 == 9) = false from rfl, ht, number_c, h, hsg]
set_option maxHeartbeats 1000000 in
theorem read_86 (d : ByteArray) (h : d.size = 1) : EV 95 [.sc (.int .u8 86), .ro false (bytesD d)] [] = some (.ret (leafV 86 (toL d)).d, []) := by
  have hk : kindC 86 = 2 := by decide
  refine (ev_body ⟨[], [], [], true, [], noIt⟩ [.cell 4 46] rfl Tryz.func95 rfl rfl rfl (by kernel_rfl) (by show 2 ≤ 75; decide) (by kernel_rfl)).trans ?_
  have ht := tell_c d (by omega)
  have hb := beN_lt _ (toL d) rfl
  rw [toL_len, h] at hb
  rw [show leafV 86 (toL d) = .mk 2 (beN (toL d)) ⟨#[]⟩ [] from rfl]
  simp +contextual (maxSteps := 10000000) only [go_sem, look_kinds mapTk, gl_kinds, hk, show (Int.fdiv 86 16 == 9) = false from rfl, ht, number_c, h]
set_option maxHeartbeats 1000000 in
theorem read_96 (d : ByteArray) (h : d.size = 2) : EV 95 [.sc (.int .u8 96), .ro false (bytesD d)] [] = some (.ret (leafV 96 (toL d)).d, []) := by
  have hk : kindC 96 = 4 := by decide
  refine (ev_body ⟨[], [], [], true, [], noIt⟩ [.cell 4 46] rfl Tryz.func95 rfl rfl rfl (by kernel_rfl) (by show 2 ≤ 75; decide) (by kernel_rfl)).trans ?_
  have ht := tell_c d (by omega)
  have hb := beN_lt _ (toL d) rfl
  rw [toL_len, h] at hb
  rw [show leafV 96 (toL d) = .mk 4 (beN (toL d)) ⟨#[]⟩ [] from rfl]
  simp +contextual (maxSteps := 10000000) only [go_sem, look_kinds mapTk, gl_kinds, hk, show (Int.fdiv 96 16 == 9) = false from rfl, ht, number_c, h]
set_option maxHeartbeats 1000000 in
theorem read_97 (d : ByteArray) (h : d.size = 2) : EV 95 [.sc (.int .u8 97), .ro false (bytesD d)] [] = some (.ret (leafV 97 (toL d)).d, []) := by
  have hk : kindC 97 = 8 := by decide
  refine (ev_body ⟨[], [], [], true, [], noIt⟩ [.cell 4 46] rfl Tryz.func95 rfl rfl rfl (by kernel_rfl) (by show 2 ≤ 75; decide) (by kernel_rfl)).trans ?_
  have ht := tell_c d (by omega)
  have hb := beN_lt _ (toL d) rfl
  rw [toL_len, h] at hb
  have hsg := sgn_2 (beN (toL d)) (by omega) (by omega)
  rw [show leafV 97 (toL d) = .mk 8 (sgnX (beN (toL d)) (toL d).length) ⟨#[]⟩ [] from rfl, toL_len, h]
  obtain ⟨S, hS⟩ : ∃ S, sgnX (beN (toL d)) 2 = S := ⟨_, rfl⟩
  rw [hS] at hsg ⊢
  simp +contextual (maxSteps := 10000000) only [go_sem, look_kinds mapTk, gl_kinds, hk, show (Int.fdiv 97 16 == 9) = false from rfl, ht, number_c, h, hsg]
set_option maxHeartbeats 1000000 in
theorem read_112 (d : ByteArray) (h : d.size = 4) : EV 95 [.sc (.int .u8 112), .ro false (bytesD d)] [] = some (.ret (leafV 112 (toL d)).d, []) := by
  have hk : kindC 112 = 5 := by decide
  refine (ev_body ⟨[], [], [], true, [], noIt⟩ [.cell 4 46] rfl Tryz.func95 rfl rfl rfl (by kernel_rfl) (by show 2 ≤ 75; decide) (by kernel_rfl)).trans ?_
  have ht := tell_c d (by omega)
  have hb := beN_lt _ (toL d) rfl
  rw [toL_len, h] at hb
  rw [show leafV 112 (toL d) = .mk 5 (beN (toL d)) ⟨#[]⟩ [] from rfl]
  simp +contextual (maxSteps := 10000000) only [go_sem, look_kinds mapTk, gl_kinds, hk, show (Int.fdiv 112 16 == 9) = false from rfl, ht, number_c, h]
set_option maxHeartbeats 1000000 in
theorem read_113 (d : ByteArray) (h : d.size = 4) : EV 95 [.sc (.int .u8 113), .ro false (bytesD d)] [] = some (.ret (leafV 113 (toL d)).d, []) := by
  have hk : kindC 113 = 9 := by decide
  refine (ev_body ⟨[], [], [], true, [], noIt⟩ [.cell 4 46] rfl Tryz.func95 rfl rfl rfl (by kernel_rfl) (by show 2 ≤ 75; decide) (by kernel_rfl)).trans ?_
  have ht := tell_c d (by omega)
  have hb := beN_lt _ (toL d) rfl
  rw [toL_len, h] at hb
  have hsg := sgn_4 (beN (toL d)) (by omega) (by omega)
  rw [show leafV 113 (toL d) = .mk 9 (sgnX (beN (toL d)) (toL d).length) ⟨#[]⟩ [] from rfl, toL_len, h]
  obtain ⟨S, hS⟩ : ∃ S, sgnX (beN (toL d)) 4 = S := ⟨_, rfl⟩
  rw [hS] at hsg ⊢
  simp +contextual (maxSteps := 10000000) only [go_sem, look_kinds mapTk, gl_kinds, hk, show (Int.fdiv 113 16 == 9) = false from rfl, ht, number_c, h, hsg]
set_option maxHeartbeats 1000000 in
theorem read_114 (d : ByteArray) (h : d.size = 4) : EV 95 [.sc (.int .u8 114), .ro false (bytesD d)] [] = some (.ret (leafV 114 (toL d)).d, []) := by
  have hk : kindC 114 = 11 := by decide
  refine (ev_body ⟨[], [], [], true, [], noIt⟩ [.cell 4 46] rfl Tryz.func95 rfl rfl rfl (by kernel_rfl) (by show 2 ≤ 75; decide) (by kernel_rfl)).trans ?_
  have ht := tell_c d (by omega)
  have hb := beN_lt _ (toL d) rfl
  rw [toL_len, h] at hb
  rw [show leafV 114 (toL d) = .mk 11 (beN (toL d)) ⟨#[]⟩ [] from rfl]
  simp +contextual (maxSteps := 10000000) only [go_sem, look_kinds mapTk, gl_kinds, hk, show (Int.fdiv 114 16 == 9) = false from rfl, ht, number_c, h]
set_option maxHeartbeats 1000000 in
theorem read_115 (d : ByteArray) (h : d.size = 4) : EV 95 [.sc (.int .u8 115), .ro false (bytesD d)] [] = some (.ret (leafV 115 (toL d)).d, []) := by
  have hk : kindC 115 = 13 := by decide
  refine (ev_body ⟨[], [], [], true, [], noIt⟩ [.cell 4 46] rfl Tryz.func95 rfl rfl rfl (by kernel_rfl) (by show 2 ≤ 75; decide) (by kernel_rfl)).trans ?_
  have ht := tell_c d (by omega)
  have hb := beN_lt _ (toL d) rfl
  rw [toL_len, h] at hb
  rw [show leafV 115 (toL d) = .mk 13 (beN (toL d)) ⟨#[]⟩ [] from rfl]
  simp +contextual (maxSteps := 10000000) only [go_sem, look_kinds mapTk, gl_kinds, hk, show (Int.fdiv 115 16 == 9) = false from rfl, ht, number_c, h]
set_option maxHeartbeats 1000000 in
theorem read_116 (d : ByteArray) (h : d.size = 4) : EV 95 [.sc (.int .u8 116), .ro false (bytesD d)] [] = some (.ret (leafV 116 (toL d)).d, []) := by
  have hk : kindC 116 = 16 := by decide
  refine (ev_body ⟨[], [], [], true, [], noIt⟩ [.cell 4 46] rfl Tryz.func95 rfl rfl rfl (by kernel_rfl) (by show 2 ≤ 75; decide) (by kernel_rfl)).trans ?_
  simp +contextual (maxSteps := 10000000) only [go_sem, look_kinds mapTk, gl_kinds, hk, show (Int.fdiv 116 16 == 9) = false from rfl, text_c]
  rw [show leafV 116 (toL d) = .mk 16 0 (mkT (toL d)) [] from rfl, mkT_toL]
set_option maxHeartbeats 1000000 in
theorem read_128 (d : ByteArray) (h : d.size = 8) : EV 95 [.sc (.int .u8 128), .ro false (bytesD d)] [] = some (.ret (leafV 128 (toL d)).d, []) := by
  have hk : kindC 128 = 6 := by decide
  refine (ev_body ⟨[], [], [], true, [], noIt⟩ [.cell 4 46] rfl Tryz.func95 rfl rfl rfl (by kernel_rfl) (by show 2 ≤ 75; decide) (by kernel_rfl)).trans ?_
  have ht := tell_c d (by omega)
  have hb := beN_lt _ (toL d) rfl
  rw [toL_len, h] at hb
  rw [show leafV 128 (toL d) = .mk 6 (beN (toL d)) ⟨#[]⟩ [] from rfl]
  simp +contextual (maxSteps := 10000000) only [go_sem, look_kinds mapTk, gl_kinds, hk, show (Int.fdiv 128 16 == 9) = false from rfl, ht, number_c, h]
set_option maxHeartbeats 1000000 in
theorem read_129 (d : ByteArray) (h : d.size = 8) : EV 95 [.sc (.int .u8 129), .ro false (bytesD d)] [] = some (.ret (leafV 129 (toL d)).d, []) := by
  have hk : kindC 129 = 10 := by decide
  refine (ev_body ⟨[], [], [], true, [], noIt⟩ [.cell 4 46] rfl Tryz.func95 rfl rfl rfl (by kernel_rfl) (by show 2 ≤ 75; decide) (by kernel_rfl)).trans ?_
  have ht := tell_c d (by omega)
  have hb := beN_lt _ (toL d) rfl
  rw [toL_len, h] at hb
  have hsg := sgn_8 (beN (toL d)) 
  rw [show leafV 129 (toL d) = .mk 10 (sgnX (beN (toL d)) (toL d).length) ⟨#[]⟩ [] from rfl, toL_len, h, show sgnX (beN (toL d)) 8 = beN (toL d) from rfl]
  simp +contextual (maxSteps := 10000000) only [go_sem, look_kinds mapTk, gl_kinds, hk, show (Int.fdiv 129 16 == 9) = false from rfl, ht, number_c, h, hsg]
set_option maxHeartbeats 1000000 in
theorem read_130 (d : ByteArray) (h : d.size = 8) : EV 95 [.sc (.int .u8 130), .ro false (bytesD d)] [] = some (.ret (leafV 130 (toL d)).d, []) := by
  have hk : kindC 130 = 12 := by decide
  refine (ev_body ⟨[], [], [], true, [], noIt⟩ [.cell 4 46] rfl Tryz.func95 rfl rfl rfl (by kernel_rfl) (by show 2 ≤ 75; decide) (by kernel_rfl)).trans ?_
  have ht := tell_c d (by omega)
  have hb := beN_lt _ (toL d) rfl
  rw [toL_len, h] at hb
  rw [show leafV 130 (toL d) = .mk 12 (beN (toL d)) ⟨#[]⟩ [] from rfl]
  simp +contextual (maxSteps := 10000000) only [go_sem, look_kinds mapTk, gl_kinds, hk, show (Int.fdiv 130 16 == 9) = false from rfl, ht, number_c, h]
set_option maxHeartbeats 1000000 in
theorem read_131 (d : ByteArray) (h : d.size = 8) : EV 95 [.sc (.int .u8 131), .ro false (bytesD d)] [] = some (.ret (leafV 131 (toL d)).d, []) := by
  have hk : kindC 131 = 14 := by decide
  refine (ev_body ⟨[], [], [], true, [], noIt⟩ [.cell 4 46] rfl Tryz.func95 rfl rfl rfl (by kernel_rfl) (by show 2 ≤ 75; decide) (by kernel_rfl)).trans ?_
  have ht := tell_c d (by omega)
  have hb := beN_lt _ (toL d) rfl
  rw [toL_len, h] at hb
  have hsg := sgn_8 (beN (toL d)) 
  rw [show leafV 131 (toL d) = .mk 14 (sgnX (beN (toL d)) (toL d).length) ⟨#[]⟩ [] from rfl, toL_len, h, show sgnX (beN (toL d)) 8 = beN (toL d) from rfl]
  simp +contextual (maxSteps := 10000000) only [go_sem, look_kinds mapTk, gl_kinds, hk, show (Int.fdiv 131 16 == 9) = false from rfl, ht, number_c, h, hsg]
set_option maxHeartbeats 1000000 in
theorem read_132 (d : ByteArray) (h : d.size = 8) : EV 95 [.sc (.int .u8 132), .ro false (bytesD d)] [] = some (.ret (leafV 132 (toL d)).d, []) := by
  have hk : kindC 132 = 17 := by decide
  refine (ev_body ⟨[], [], [], true, [], noIt⟩ [.cell 4 46] rfl Tryz.func95 rfl rfl rfl (by kernel_rfl) (by show 2 ≤ 75; decide) (by kernel_rfl)).trans ?_
  simp +contextual (maxSteps := 10000000) only [go_sem, look_kinds mapTk, gl_kinds, hk, show (Int.fdiv 132 16 == 9) = false from rfl, text_c]
  rw [show leafV 132 (toL d) = .mk 17 0 (mkT (toL d)) [] from rfl, mkT_toL]
set_option maxHeartbeats 1000000 in
theorem read_148 (d : ByteArray) (h : d.size = 16) : EV 95 [.sc (.int .u8 148), .ro false (bytesD d)] [] = some (.ret (leafV 148 (toL d)).d, []) := by
  have hk : kindC 148 = 18 := by decide
  refine (ev_body ⟨[], [], [], true, [], noIt⟩ [.cell 4 46] rfl Tryz.func95 rfl rfl rfl (by kernel_rfl) (by show 2 ≤ 75; decide) (by kernel_rfl)).trans ?_
  simp +contextual (maxSteps := 10000000) only [go_sem, look_kinds mapTk, gl_kinds, hk, show (Int.fdiv 148 16 == 9) = true from rfl, text_c]
  rw [show leafV 148 (toL d) = .mk 18 0 (mkT (toL d)) [] from rfl, mkT_toL]
set_option maxHeartbeats 1000000 in
theorem read_152 (d : ByteArray) (h : d.size = 16) : EV 95 [.sc (.int .u8 152), .ro false (bytesD d)] [] = some (.ret (leafV 152 (toL d)).d, []) := by
  have hk : kindC 152 = 15 := by decide
  refine (ev_body ⟨[], [], [], true, [], noIt⟩ [.cell 4 46] rfl Tryz.func95 rfl rfl rfl (by kernel_rfl) (by show 2 ≤ 75; decide) (by kernel_rfl)).trans ?_
  simp +contextual (maxSteps := 10000000) only [go_sem, look_kinds mapTk, gl_kinds, hk, show (Int.fdiv 152 16 == 9) = true from rfl, text_c]
  rw [show leafV 152 (toL d) = .mk 15 0 (mkT (toL d)) [] from rfl, mkT_toL]
set_option maxHeartbeats 1000000 in
theorem read_160 (d : ByteArray) (h : 1 ≤ d.size) (hs : d.size ≤ 100000000000) : EV 95 [.sc (.int .u8 160), .ro false (bytesD d)] [] = some (.ret (leafV 160 (toL d)).d, []) := by
  have hk : kindC 160 = 19 := by decide
  refine (ev_body ⟨[], [], [], true, [], noIt⟩ [.cell 4 46] rfl Tryz.func95 rfl rfl rfl (by kernel_rfl) (by show 2 ≤ 75; decide) (by kernel_rfl)).trans ?_
  have hw := wide_c 160 (by decide) (by decide)
  rw [show wideC 160 = 1 from rfl] at hw
  simp only [Int.cast_ofNat_Int] at hw
  simp +contextual (maxSteps := 10000000) only [go_sem, look_kinds mapTk, gl_kinds, hk, show (Int.fdiv 160 16 == 9) = false from rfl, text_c, hw, show (1 ≤ d.size) = True from eq_true h, all1, dropB d 1 h, List.take_of_length_le (Nat.le_of_eq (bytesD_len d))]
  rfl
set_option maxHeartbeats 1000000 in
theorem read_161 (d : ByteArray) (h : 1 ≤ d.size) (hs : d.size ≤ 100000000000) : EV 95 [.sc (.int .u8 161), .ro false (bytesD d)] [] = some (.ret (leafV 161 (toL d)).d, []) := by
  have hk : kindC 161 = 20 := by decide
  refine (ev_body ⟨[], [], [], true, [], noIt⟩ [.cell 4 46] rfl Tryz.func95 rfl rfl rfl (by kernel_rfl) (by show 2 ≤ 75; decide) (by kernel_rfl)).trans ?_
  have hw := wide_c 161 (by decide) (by decide)
  rw [show wideC 161 = 1 from rfl] at hw
  simp only [Int.cast_ofNat_Int] at hw
  simp +contextual (maxSteps := 10000000) only [go_sem, look_kinds mapTk, gl_kinds, hk, show (Int.fdiv 161 16 == 9) = false from rfl, text_c, hw, show (1 ≤ d.size) = True from eq_true h, all1, dropB d 1 h, List.take_of_length_le (Nat.le_of_eq (bytesD_len d))]
  rfl
set_option maxHeartbeats 1000000 in
theorem read_163 (d : ByteArray) (h : 1 ≤ d.size) (hs : d.size ≤ 100000000000) : EV 95 [.sc (.int .u8 163), .ro false (bytesD d)] [] = some (.ret (leafV 163 (toL d)).d, []) := by
  have hk : kindC 163 = 21 := by decide
  refine (ev_body ⟨[], [], [], true, [], noIt⟩ [.cell 4 46] rfl Tryz.func95 rfl rfl rfl (by kernel_rfl) (by show 2 ≤ 75; decide) (by kernel_rfl)).trans ?_
  have hw := wide_c 163 (by decide) (by decide)
  rw [show wideC 163 = 1 from rfl] at hw
  simp only [Int.cast_ofNat_Int] at hw
  simp +contextual (maxSteps := 10000000) only [go_sem, look_kinds mapTk, gl_kinds, hk, show (Int.fdiv 163 16 == 9) = false from rfl, text_c, hw, show (1 ≤ d.size) = True from eq_true h, all1, dropB d 1 h, List.take_of_length_le (Nat.le_of_eq (bytesD_len d))]
  rfl
set_option maxHeartbeats 1000000 in
theorem read_176 (d : ByteArray) (h : 4 ≤ d.size) (hs : d.size ≤ 100000000000) : EV 95 [.sc (.int .u8 176), .ro false (bytesD d)] [] = some (.ret (leafV 176 (toL d)).d, []) := by
  have hk : kindC 176 = 19 := by decide
  refine (ev_body ⟨[], [], [], true, [], noIt⟩ [.cell 4 46] rfl Tryz.func95 rfl rfl rfl (by kernel_rfl) (by show 2 ≤ 75; decide) (by kernel_rfl)).trans ?_
  have hw := wide_c 176 (by decide) (by decide)
  rw [show wideC 176 = 4 from rfl] at hw
  simp only [Int.cast_ofNat_Int] at hw
  simp +contextual (maxSteps := 10000000) only [go_sem, look_kinds mapTk, gl_kinds, hk, show (Int.fdiv 176 16 == 9) = false from rfl, text_c, hw, show (4 ≤ d.size) = True from eq_true h, all1, dropB d 4 h, List.take_of_length_le (Nat.le_of_eq (bytesD_len d))]
  rfl
set_option maxHeartbeats 1000000 in
theorem read_177 (d : ByteArray) (h : 4 ≤ d.size) (hs : d.size ≤ 100000000000) : EV 95 [.sc (.int .u8 177), .ro false (bytesD d)] [] = some (.ret (leafV 177 (toL d)).d, []) := by
  have hk : kindC 177 = 20 := by decide
  refine (ev_body ⟨[], [], [], true, [], noIt⟩ [.cell 4 46] rfl Tryz.func95 rfl rfl rfl (by kernel_rfl) (by show 2 ≤ 75; decide) (by kernel_rfl)).trans ?_
  have hw := wide_c 177 (by decide) (by decide)
  rw [show wideC 177 = 4 from rfl] at hw
  simp only [Int.cast_ofNat_Int] at hw
  simp +contextual (maxSteps := 10000000) only [go_sem, look_kinds mapTk, gl_kinds, hk, show (Int.fdiv 177 16 == 9) = false from rfl, text_c, hw, show (4 ≤ d.size) = True from eq_true h, all1, dropB d 4 h, List.take_of_length_le (Nat.le_of_eq (bytesD_len d))]
  rfl
set_option maxHeartbeats 1000000 in
theorem read_179 (d : ByteArray) (h : 4 ≤ d.size) (hs : d.size ≤ 100000000000) : EV 95 [.sc (.int .u8 179), .ro false (bytesD d)] [] = some (.ret (leafV 179 (toL d)).d, []) := by
  have hk : kindC 179 = 21 := by decide
  refine (ev_body ⟨[], [], [], true, [], noIt⟩ [.cell 4 46] rfl Tryz.func95 rfl rfl rfl (by kernel_rfl) (by show 2 ≤ 75; decide) (by kernel_rfl)).trans ?_
  have hw := wide_c 179 (by decide) (by decide)
  rw [show wideC 179 = 4 from rfl] at hw
  simp only [Int.cast_ofNat_Int] at hw
  simp +contextual (maxSteps := 10000000) only [go_sem, look_kinds mapTk, gl_kinds, hk, show (Int.fdiv 179 16 == 9) = false from rfl, text_c, hw, show (4 ≤ d.size) = True from eq_true h, all1, dropB d 4 h, List.take_of_length_le (Nat.le_of_eq (bytesD_len d))]
  rfl
end Go.Bw.R1

/- decode: constructors. -/
namespace Go.Bw.R1
set_option maxRecDepth 5000
open Go Go.Bw Go.Proofs
theorem tabS_in : ∀ (l : List (Int × Int)) (k : Int), tabS l k = 0 ∨ ∃ p ∈ l, p.1 = k
  | [], _ => .inl rfl
  | (a, b) :: r, k => by
    by_cases h : a = k
    · exact .inr ⟨(a, b), by simp, h⟩
    · rcases tabS_in r k with h1 | ⟨p, h1, h2⟩
      · left; rw [tabS, if_neg h, h1]
      · exact .inr ⟨p, by simp [h1], h2⟩
theorem code_in {c : Int} (h : kindC c ≠ 0) : c ∈ ([64, 65, 66, 67, 68, 69, 80, 81, 82, 83, 84, 85, 86, 96, 97, 112, 113, 114, 115, 116, 128, 129, 130, 131, 132, 148, 152, 160, 161, 163, 176, 177, 179, 192, 193, 208, 209, 224, 240] : List Int) := by
  rcases tabS_in kindsTab c with h1 | ⟨p, h1, h2⟩
  · exact absurd h1 h
  · have : ∀ p ∈ kindsTab, p.1 ∈ ([64, 65, 66, 67, 68, 69, 80, 81, 82, 83, 84, 85, 86, 96, 97, 112, 113, 114, 115, 116, 128, 129, 130, 131, 132, 148, 152, 160, 161, 163, 176, 177, 179, 192, 193, 208, 209, 224, 240] : List Int) := by decide
    rw [← h2]; exact this p h1
theorem code_byte {c : Int} (h : kindC c ≠ 0) : 64 ≤ c ∧ c ≤ 255 := by
  have : ∀ c ∈ ([64, 65, 66, 67, 68, 69, 80, 81, 82, 83, 84, 85, 86, 96, 97, 112, 113, 114, 115, 116, 128, 129, 130, 131, 132, 148, 152, 160, 161, 163, 176, 177, 179, 192, 193, 208, 209, 224, 240] : List Int), 64 ≤ c ∧ c ≤ 255 := by decide
  exact this c (code_in h)
/-- read, of a leaf's code -/
theorem read_leaf {c : Int} (h : kindC c ≠ 0) (hc : c < 192) (d : ByteArray) (h1 : c < 160 → d.size = fixC c) (h2 : 160 ≤ c → wideC c ≤ d.size) (hs : d.size ≤ 100000000000) : EV 95 [.sc (.int .u8 c), .ro false (bytesD d)] [] = some (.ret (leafV c (toL d)).d, []) := by
  have hin := code_in h
  simp only [List.mem_cons, List.not_mem_nil, or_false] at hin
  rcases hin with rfl | rfl | rfl | rfl | rfl | rfl | rfl | rfl | rfl | rfl | rfl | rfl | rfl | rfl | rfl | rfl | rfl | rfl | rfl | rfl | rfl | rfl | rfl | rfl | rfl | rfl | rfl | rfl | rfl | rfl | rfl | rfl | rfl | rfl | rfl | rfl | rfl | rfl | rfl
  · exact read_64 d (h1 (by decide))
  · exact read_65 d (h1 (by decide))
  · exact read_66 d (h1 (by decide))
  · exact read_67 d (h1 (by decide))
  · exact read_68 d (h1 (by decide))
  · exact read_69 d (h1 (by decide))
  · exact read_80 d (h1 (by decide))
  · exact read_81 d (h1 (by decide))
  · exact read_82 d (h1 (by decide))
  · exact read_83 d (h1 (by decide))
  · exact read_84 d (h1 (by decide))
  · exact read_85 d (h1 (by decide))
  · exact read_86 d (h1 (by decide))
  · exact read_96 d (h1 (by decide))
  · exact read_97 d (h1 (by decide))
  · exact read_112 d (h1 (by decide))
  · exact read_113 d (h1 (by decide))
  · exact read_114 d (h1 (by decide))
  · exact read_115 d (h1 (by decide))
  · exact read_116 d (h1 (by decide))
  · exact read_128 d (h1 (by decide))
  · exact read_129 d (h1 (by decide))
  · exact read_130 d (h1 (by decide))
  · exact read_131 d (h1 (by decide))
  · exact read_132 d (h1 (by decide))
  · exact read_148 d (h1 (by decide))
  · exact read_152 d (h1 (by decide))
  · exact read_160 d (h2 (by decide)) hs
  · exact read_161 d (h2 (by decide)) hs
  · exact read_163 d (h2 (by decide)) hs
  · exact read_176 d (h2 (by decide)) hs
  · exact read_177 d (h2 (by decide)) hs
  · exact read_179 d (h2 (by decide)) hs
  all_goals exact absurd hc (by decide)
/-- what data hands over is long enough -/
theorem dataL_len {c : Int} {l d r : List UInt8} (h : dataL c l = .ok (d, r)) : (c < 160 → d.length = fixC c) ∧ (160 ≤ c → wideC c ≤ d.length) ∧ d.length + r.length = l.length ∧ l = d ++ r := by
  have tk : ∀ {n : Nat} {l a b : List UInt8}, takeL n l = .ok (a, b) → a.length = n ∧ l = a ++ b := fun {n l a b} h => by
    unfold takeL at h
    split at h
    · cases h
    · injection h with h
      injection h with h1 h2
      subst h1 h2
      exact ⟨by rw [List.length_take]; omega, (List.take_append_drop _ _).symm⟩
  unfold dataL at h
  split at h
  · rename_i hc
    obtain ⟨a, b⟩ := tk h
    exact ⟨fun _ => a, fun h => by omega, by rw [b, List.length_append], b⟩
  · rename_i hc
    split at h
    · cases h
    · rename_i hh l1 h1
      obtain ⟨a1, b1⟩ := tk h1
      split at h
      · cases h
      · rename_i d' l2 h2
        obtain ⟨a2, b2⟩ := tk h2
        injection h with h
        injection h with e1 e2
        subst e1 e2
        exact ⟨fun h => absurd h hc, fun _ => by rw [List.length_append]; omega, by rw [b1, b2]; simp only [List.length_append]; omega, by rw [b1, b2, List.append_assoc]⟩
theorem consL_code' {n : Nat} {c : UInt8} {r : List UInt8} (h : u8I c ≠ 0) (hk : kindC (u8I c) ≠ 0) : consL (n + 1) (c :: r) = .ok (([], u8I c), r) := by
  rw [consL_succ]; unfold consS; dsimp only; rw [if_neg h, if_neg hk]
theorem consL_fuel : ∀ (n m : Nat) (l : List UInt8), l.length < n → l.length < m → consL n l = consL m l
  | 0, _, _, h, _ => by omega
  | _ + 1, 0, _, _, h => by omega
  | n + 1, m + 1, l, h1, h2 => by
    rw [consL_succ, consL_succ]
    unfold consS
    match l, h1, h2 with
    | [], _, _ => rfl
    | c :: [], _, _ => rfl
    | c :: k :: r2, h1, h2 =>
      dsimp only
      split
      · unfold nameS
        split
        · rfl
        · cases hd : dataL (u8I k) r2 with
          | error e => rfl
          | ok x =>
            obtain ⟨d, r3⟩ := x
            have hl := (dataL_len hd).2.2.1
            simp only [List.length_cons] at h1 h2
            dsimp only
            rw [consL_fuel n m r3 (by omega) (by omega)]
      · rfl
end Go.Bw.R1

/- decode.reader.constructor. -/
namespace Go.Bw.R1
set_option maxRecDepth 5000
open Go Go.Bw Go.Proofs
def conR (s : ByteArray) (x : Except Int ((List Val × Int) × List UInt8)) : R × Sto := match x with
  | .error e => (thr e, [some ⟨0, [.undef, .undef]⟩])
  | .ok ((ns, C), r) => (.ret (.agg [.ro false (ns.map Val.d), .sc (.int .u8 C)]), [some ⟨0, rdr s (s.size - r.length)⟩])
def addN (ns : List Val) : Except Int ((List Val × Int) × List UInt8) → Except Int ((List Val × Int) × List UInt8)
  | .error e => .error e
  | .ok ((ms, C), r) => .ok ((ns ++ ms, C), r)
theorem addN_nil (x : Except Int ((List Val × Int) × List UInt8)) : addN [] x = x := by
  cases x with
  | error e => rfl
  | ok y => rfl
theorem addN_add (a b : List Val) (x : Except Int ((List Val × Int) × List UInt8)) : addN a (addN b x) = addN (a ++ b) x := by
  cases x with
  | error e => rfl
  | ok y => obtain ⟨⟨ms, C⟩, r⟩ := y; simp only [addN, List.append_assoc]
theorem drop_cons' (s : ByteArray) (p : Nat) (h : p < s.size) : ∃ x, (toL s)[p]? = some x ∧ (toL s).drop p = x :: (toL s).drop (p + 1) := by
  obtain ⟨x, hx⟩ := get_lt (l := toL s) (i := p) h
  refine ⟨x, hx, ?_⟩
  obtain ⟨h1, h2⟩ := List.getElem?_eq_some_iff.1 hx
  rw [List.drop_eq_getElem_cons h1, h2]
theorem ext_one (s : ByteArray) (p : Nat) (x : UInt8) (h : (toL s)[p]? = some x) : bytesD (s.extract p (p + 1)) = [.sc (.int .u8 (u8I x))] := by
  have e : toL (s.extract p (p + 1)) = [x] := by
    obtain ⟨h1, h2⟩ := List.getElem?_eq_some_iff.1 h
    rw [toL_ext, List.drop_eq_getElem_cons h1, h2, Nat.add_sub_cancel_left]; rfl
  unfold bytesD; unfold toL at e; rw [e]; rfl
theorem take_one (s : ByteArray) (p : Nat) (x : UInt8) (h : (toL s)[p]? = some x) (hs : s.size ≤ 100000000000) : EV 92 [.ptr 0 0 0, I 1] [some ⟨0, rdr s p⟩] = some (.ret (.ro false [.sc (.int .u8 (u8I x))]), [some ⟨0, rdr s (p + 1)⟩]) := by
  have hp := (List.getElem?_eq_some_iff.1 h).1
  have := take_ok s p 1 (by rw [toL_len] at hp; omega) hs
  rw [ext_one s p x h] at this
  exact this
/-- an empty list of names is none -/
def nmD (ns : List Val) : D := match ns with | [] => .nils | _ :: _ => .ref 2 0 4 0 ns.length
def nmE (ns : List Val) : Sto := match ns with | [] => [] | _ :: _ => [some ⟨0, rowE Val.d ns⟩]
theorem left_at (s : ByteArray) (q : Nat) (h : q ≤ s.size) : s.size - ((toL s).drop q).length = q := by rw [List.length_drop, toL_len]; omega
/-- a name is told, or not -/
theorem name_step (s : ByteArray) (p : Nat) (x k : UInt8) (hp : p + 1 < s.size) (hx : (toL s).drop p = x :: k :: (toL s).drop (p + 2)) (hx0 : u8I x = 0) (hk : kindC (u8I k) = 6 ∨ kindC (u8I k) = 21) :
    (∃ e, dataL (u8I k) ((toL s).drop (p + 2)) = .error e ∧ consL (s.size - p + 1) ((toL s).drop p) = .error e) ∨
    ∃ d q, dataL (u8I k) ((toL s).drop (p + 2)) = .ok (d, (toL s).drop q) ∧ p + 2 ≤ q ∧ q ≤ s.size ∧ consL (s.size - p + 1) ((toL s).drop p) = addN [leafV (u8I k) d] (consL (s.size - q + 1) ((toL s).drop q)) := by
  rw [hx, consL_succ]
  unfold consS
  dsimp only
  rw [if_pos hx0]
  unfold nameS
  rw [if_neg (by omega)]
  cases hd : dataL (u8I k) ((toL s).drop (p + 2)) with
  | error e => exact .inl ⟨e, rfl, rfl⟩
  | ok y =>
    obtain ⟨d, r⟩ := y
    obtain ⟨_, _, hl, he⟩ := dataL_len hd
    rw [List.length_drop, toL_len] at hl
    have hr : r = (toL s).drop (p + 2 + d.length) := by
      rw [← List.drop_drop, he, List.drop_left]
    refine .inr ⟨d, p + 2 + d.length, by rw [← hr], by omega, by omega, ?_⟩
    dsimp only
    rw [hr, consL_fuel (s.size - p) (s.size - (p + 2 + d.length) + 1) _ (by rw [List.length_drop, toL_len]; omega) (by rw [List.length_drop, toL_len]; omega)]
    cases consL (s.size - (p + 2 + d.length) + 1) ((toL s).drop (p + 2 + d.length)) with
    | error e => rfl
    | ok y => obtain ⟨⟨ms, C⟩, r⟩ := y; rfl
set_option maxHeartbeats 8000000 in
theorem cons_c' (s : ByteArray) (at_ : Nat) (ha : at_ ≤ s.size) (hs : s.size ≤ 100000000000) : EV 57 [.ptr 0 0 0] [some ⟨0, rdr s at_⟩] = some (conR s (consL (s.size - at_ + 1) ((toL s).drop at_))) := by
  refine (ev_body ⟨[], [(0, [0, 2])], [(7, [(3, 0, false), (4, 0, false), (5, 0, true), (2, 0, false), (6, 0, true), (0, 0, false), (1, 0, false), (7, 0, false), (8, 0, true), (9, 3, false), (10, 0, true)]), (4000007, [(5, 0, false), (0, 0, false), (1, 0, false), (2, 0, false), (3, 0, false), (4, 0, false)])], true, [], noIt⟩ [.cell 2 80] rfl Tryz.func57 rfl rfl rfl (by kernel_rfl) (by show 1 ≤ 44; decide) (by kernel_rfl)).trans ?_
  simp +contextual (maxSteps := 10000000) only [go_sem]
  refine lpK_inv (fun m0 f es => ∃ (p : Nat) (ns : List Val), p ≤ s.size ∧ ns.length ≤ p ∧ m0 = s.size - p ∧ consL (s.size - at_ + 1) ((toL s).drop at_) = addN ns (consL (s.size - p + 1) ((toL s).drop p)) ∧ f = [(0, .ptr 0 0 0), (2, .ptr 1 0 0)] ∧ es = [some ⟨0, rdr s p⟩, some ⟨0, [nmD ns, .sc (.int .u8 0)]⟩] ++ nmE ns) (s.size - at_) ⟨at_, [], ha, Nat.zero_le _, rfl, (addN_nil _).symm, rfl, rfl⟩ ?_
  rintro m0 _ _ ⟨p, ns, hp, hns, hm, hcon, rfl, rfl⟩ ih
  rw [hcon]
  rcases Nat.lt_or_ge p s.size with hlt | hge
  · obtain ⟨x, hx, hdx⟩ := drop_cons' s p hlt
    have ht := take_one s p x hx hs
    simp only [rdr, Int.natCast_add, Int.cast_ofNat_Int] at ht
    by_cases hx0 : u8I x = 0
    · have hne : (u8I x != 0) = false := by rw [hx0]; rfl
      rcases Nat.lt_or_ge (p + 1) s.size with hlt2 | hge2
      · obtain ⟨k, hkx, hdk⟩ := drop_cons' s (p + 1) hlt2
        have ht2 := take_one s (p + 1) k hkx hs
        simp only [rdr, Int.natCast_add, Int.cast_ofNat_Int] at ht2
        have hdx2 : (toL s).drop p = x :: k :: (toL s).drop (p + 2) := by rw [hdx, hdk]
        by_cases hk6 : kindC (u8I k) = 6 ∨ kindC (u8I k) = 21
        · have hk0 : kindC (u8I k) ≠ 0 := by omega
          obtain ⟨c0, c1⟩ := code_byte hk0
          have hdat := data_c' (u8I k) s (p + 2) (by omega) hs c0 c1
          have hlow : u8I k < 192 := by
            have : ∀ c ∈ ([64, 65, 66, 67, 68, 69, 80, 81, 82, 83, 84, 85, 86, 96, 97, 112, 113, 114, 115, 116, 128, 129, 130, 131, 132, 148, 152, 160, 161, 163, 176, 177, 179, 192, 193, 208, 209, 224, 240] : List Int), kindC c = 6 ∨ kindC c = 21 → c < 192 := by decide
            exact this _ (code_in hk0) hk6
          unfold datR at hdat
          rcases name_step s p x k hlt2 hdx2 hx0 hk6 with ⟨e, he1, he2⟩ | ⟨d, q, hd1, hq1, hq2, hq3⟩
          · rw [he1] at hdat
            rw [he2]
            simp only [rdr, Int.natCast_add, Int.cast_ofNat_Int] at hdat
            rcases hk6 with h6 | h6
            · cases ns with
              | nil =>
                simp only [nmD, nmE, List.append_nil]
                simp +contextual (maxSteps := 10000000) only [go_sem, ht, ht2, hne, hx0, look_kinds mapTk, gl_kinds, h6, hdat, show (p : Int) + 1 + 1 = p + 2 by omega]
                rfl
              | cons n0 ns =>
                simp only [nmD, nmE, List.cons_append, List.nil_append, List.length_cons]
                simp +contextual (maxSteps := 10000000) only [go_sem, ht, ht2, hne, hx0, look_kinds mapTk, gl_kinds, h6, hdat, show (p : Int) + 1 + 1 = p + 2 by omega]
                rfl
            · cases ns with
              | nil =>
                simp only [nmD, nmE, List.append_nil]
                simp +contextual (maxSteps := 10000000) only [go_sem, ht, ht2, hne, hx0, look_kinds mapTk, gl_kinds, h6, hdat, show (p : Int) + 1 + 1 = p + 2 by omega]
                rfl
              | cons n0 ns =>
                simp only [nmD, nmE, List.cons_append, List.nil_append, List.length_cons]
                simp +contextual (maxSteps := 10000000) only [go_sem, ht, ht2, hne, hx0, look_kinds mapTk, gl_kinds, h6, hdat, show (p : Int) + 1 + 1 = p + 2 by omega]
                rfl
          · rw [hd1] at hdat
            dsimp only at hdat
            rw [left_at s q hq2] at hdat
            obtain ⟨l1, l2, l3, _⟩ := dataL_len hd1
            have hdz : (mkT d).size = d.length := rfl
            have hrd := read_leaf hk0 hlow (mkT d) (fun h => (hdz.trans (l1 h))) (fun h => by rw [hdz]; exact l2 h) (by rw [hdz]; simp only [List.length_drop, toL_len] at l3; omega)
            rw [toL_mkT] at hrd
            generalize leafV (u8I k) d = v at *
            have hq4 : consL (s.size - at_ + 1) ((toL s).drop at_) = addN (ns ++ [v]) (consL (s.size - q + 1) ((toL s).drop q)) := by rw [hcon, hq3, addN_add]
            rw [← hcon]
            simp only [rdr, Int.natCast_add, Int.cast_ofNat_Int] at hdat
            rcases hk6 with h6 | h6
            · cases ns with
              | nil =>
                simp only [nmD, nmE, List.append_nil]
                simp +contextual (maxSteps := 10000000) only [go_sem, ht, ht2, hne, hx0, look_kinds mapTk, gl_kinds, h6, hdat, hrd, show (p : Int) + 1 + 1 = p + 2 by omega]
                refine ih (s.size - q) _ _ (by omega) ⟨q, [v], hq2, by simp only [List.length_cons, List.length_nil]; omega, rfl, hq4, rfl, ?_⟩
                rw [rowV_one]; rfl
              | cons n0 ns =>
                simp only [nmD, nmE, List.cons_append, List.nil_append, List.length_cons]
                have r1 := valOk.row_len (n0 :: ns)
                rw [List.length_cons] at r1
                have hb56 : ((ns.length + 1 + 1) * 56 ≤ 140737488355328) = True := eq_true (by simp only [List.length_cons] at hns; omega)
                simp +contextual (maxSteps := 10000000) only [go_sem, ht, ht2, hne, hx0, look_kinds mapTk, gl_kinds, h6, hdat, hrd, show (p : Int) + 1 + 1 = p + 2 by omega, r1, hb56, rowV_snoc]
                refine ih (s.size - q) _ _ (by omega) ⟨q, n0 :: ns ++ [v], hq2, by simp only [List.length_append, List.length_cons, List.length_nil] at hns ⊢; omega, rfl, hq4, rfl, ?_⟩
                simp only [nmD, nmE, List.cons_append, List.length_cons, List.length_append, List.length_nil]; rfl
            · cases ns with
              | nil =>
                simp only [nmD, nmE, List.append_nil]
                simp +contextual (maxSteps := 10000000) only [go_sem, ht, ht2, hne, hx0, look_kinds mapTk, gl_kinds, h6, hdat, hrd, show (p : Int) + 1 + 1 = p + 2 by omega]
                refine ih (s.size - q) _ _ (by omega) ⟨q, [v], hq2, by simp only [List.length_cons, List.length_nil]; omega, rfl, hq4, rfl, ?_⟩
                rw [rowV_one]; rfl
              | cons n0 ns =>
                simp only [nmD, nmE, List.cons_append, List.nil_append, List.length_cons]
                have r1 := valOk.row_len (n0 :: ns)
                rw [List.length_cons] at r1
                have hb56 : ((ns.length + 1 + 1) * 56 ≤ 140737488355328) = True := eq_true (by simp only [List.length_cons] at hns; omega)
                simp +contextual (maxSteps := 10000000) only [go_sem, ht, ht2, hne, hx0, look_kinds mapTk, gl_kinds, h6, hdat, hrd, show (p : Int) + 1 + 1 = p + 2 by omega, r1, hb56, rowV_snoc]
                refine ih (s.size - q) _ _ (by omega) ⟨q, n0 :: ns ++ [v], hq2, by simp only [List.length_append, List.length_cons, List.length_nil] at hns ⊢; omega, rfl, hq4, rfl, ?_⟩
                simp only [nmD, nmE, List.cons_append, List.length_cons, List.length_append, List.length_nil]; rfl
        · have hres : consL (s.size - p + 1) ((toL s).drop p) = .error 6 := by
            rw [hdx2, consL_succ]; unfold consS; dsimp only; rw [if_pos hx0]; unfold nameS; rw [if_pos (by omega)]
          have e1 : (kindC (u8I k) != 6) = true := by simp; omega
          have e2 : (kindC (u8I k) != 21) = true := by simp; omega
          rw [hres]
          cases ns with
          | nil =>
            simp only [nmD, nmE, List.append_nil]
            simp +contextual (maxSteps := 10000000) only [go_sem, ht, ht2, hne, hx0, look_kinds mapTk, gl_kinds, e1, e2]
            rfl
          | cons n0 ns =>
            have fz (es : Sto) (F : Nat → Bool) (n i v : Nat) : fsE es F n i v 4 0 (ns.length + 1) true (some ⟨v, rowE Val.d (n0 :: ns)⟩) = .ro false ((n0 :: ns).map Val.d) := fsE_rowE valOk rfl
            simp only [nmD, nmE, List.cons_append, List.nil_append, List.length_cons]
            simp +contextual (maxSteps := 10000000) only [go_sem, ht, ht2, hne, hx0, look_kinds mapTk, gl_kinds, e1, e2, fz]
            rfl
      · have hres : consL (s.size - p + 1) ((toL s).drop p) = .error 7 := by
          rw [hdx, consL_succ]; unfold consS; dsimp only; rw [if_pos hx0, List.drop_eq_nil_of_le (by rw [toL_len]; exact hge2)]
        have ht2 := take_no s (p + 1) 1 (by omega) (by omega) hs
        simp only [rdr, Int.natCast_add, Int.cast_ofNat_Int] at ht2
        rw [hres]
        cases ns with
        | nil =>
          simp only [nmD, nmE, List.append_nil]
          simp +contextual (maxSteps := 10000000) only [go_sem, ht, ht2, hne, hx0]
          rfl
        | cons n0 ns =>
          have fz (es : Sto) (F : Nat → Bool) (n i v : Nat) : fsE es F n i v 4 0 (ns.length + 1) true (some ⟨v, rowE Val.d (n0 :: ns)⟩) = .ro false ((n0 :: ns).map Val.d) := fsE_rowE valOk rfl
          simp only [nmD, nmE, List.cons_append, List.nil_append, List.length_cons]
          simp +contextual (maxSteps := 10000000) only [go_sem, ht, ht2, hne, hx0, fz]
          rfl
    · have hne : (u8I x != 0) = true := by simpa using hx0
      by_cases hk : kindC (u8I x) = 0
      · have hres : consL (s.size - p + 1) ((toL s).drop p) = .error 6 := by rw [hdx, consL_succ]; unfold consS; dsimp only; rw [if_neg hx0, if_pos hk]
        rw [hres]
        cases ns with
        | nil =>
          simp only [nmD, nmE, List.append_nil]
          simp +contextual (maxSteps := 10000000) only [go_sem, ht, hne, look_kinds mapTk, gl_kinds, hk]
          rfl
        | cons n0 ns =>
          have fz (es : Sto) (F : Nat → Bool) (n i v : Nat) : fsE es F n i v 4 0 (ns.length + 1) true (some ⟨v, rowE Val.d (n0 :: ns)⟩) = .ro false ((n0 :: ns).map Val.d) := fsE_rowE valOk rfl
          simp only [nmD, nmE, List.cons_append, List.nil_append, List.length_cons]
          simp +contextual (maxSteps := 10000000) only [go_sem, ht, hne, look_kinds mapTk, gl_kinds, hk, fz]
          rfl
      · have hres : consL (s.size - p + 1) ((toL s).drop p) = .ok (([], u8I x), (toL s).drop (p + 1)) := by rw [hdx]; exact consL_code' hx0 hk
        have hk' : (kindC (u8I x) == 0) = false := by simpa using hk
        have hl := left_at s (p + 1) (by omega)
        rw [hres]
        simp only [addN, conR, List.append_nil, hl]
        cases ns with
        | nil =>
          simp only [nmD, nmE, List.append_nil]
          simp +contextual (maxSteps := 10000000) only [go_sem, ht, hne, look_kinds mapTk, gl_kinds, hk']
          rfl
        | cons n0 ns =>
          have fz (es : Sto) (F : Nat → Bool) (n i v : Nat) : fsE es F n i v 4 0 (ns.length + 1) true (some ⟨v, rowE Val.d (n0 :: ns)⟩) = .ro false ((n0 :: ns).map Val.d) := fsE_rowE valOk rfl
          simp only [nmD, nmE, List.cons_append, List.nil_append, List.length_cons]
          simp +contextual (maxSteps := 10000000) only [go_sem, ht, hne, look_kinds mapTk, gl_kinds, hk', fz]
          rfl
  · have hres : consL (s.size - p + 1) ((toL s).drop p) = .error 7 := by
      rw [List.drop_eq_nil_of_le (by rw [toL_len]; exact hge)]; rfl
    have ht := take_no s p 1 hp (by omega) hs
    simp only [rdr, Int.natCast_add, Int.cast_ofNat_Int] at ht
    rw [hres]
    cases ns with
    | nil =>
      simp only [nmD, nmE, List.append_nil]
      simp +contextual (maxSteps := 10000000) only [go_sem, ht]
      rfl
    | cons n0 ns =>
      have fz (es : Sto) (F : Nat → Bool) (n i v : Nat) : fsE es F n i v 4 0 (ns.length + 1) true (some ⟨v, rowE Val.d (n0 :: ns)⟩) = .ro false ((n0 :: ns).map Val.d) := fsE_rowE valOk rfl
      simp only [nmD, nmE, List.cons_append, List.nil_append, List.length_cons]
      simp +contextual (maxSteps := 10000000) only [go_sem, ht, fz]
      rfl
end Go.Bw.R1

/- decode.call. -/
namespace Go.Bw.R1
set_option maxRecDepth 5000
open Go Go.Bw Go.Proofs
theorem back_c (l : List Val) : EV 130 [.ro false (l.map Val.d)] [] = some (.ret (.fn (.func 168) [] [.rp [.ro false (l.map Val.d)]]), []) := by
  refine (ev_body ⟨[1], [], [], true, [], noIt⟩ [.tmp 2] rfl Tryz.func130 rfl rfl rfl (by kernel_rfl) (by show 1 ≤ 4; decide) (by kernel_rfl)).trans ?_
  simp +contextual (maxSteps := 10000000) only [go_sem]
theorem backIt_val (l : List Val) (h : l.length ≤ 40000000000) : backIt (.fn (.func 168) [] [.rp [.ro false (l.map Val.d)]]) = some (backD (l.map Val.d)) := by
  unfold backIt
  simp only
  rw [if_pos]
  refine ⟨rfl, by simpa using h, fun e he => ?_⟩
  obtain ⟨v, _, rfl⟩ := List.mem_map.1 he
  exact ⟨D.free_refs (Val.refs v), v.cs, by rw [Val.fold, Val.eta], rfl⟩
theorem callV_drop {ns : List Val} {i : Nat} {x : Val} (v : Val) (h : ns[i]? = some x) : callV (ns.drop i) v = .mk 25 0 e0 [x, callV (ns.drop (i + 1)) v] := by
  obtain ⟨h1, h2⟩ := List.getElem?_eq_some_iff.1 h
  rw [List.drop_eq_getElem_cons h1, h2]; rfl
theorem callV_sz (v : Val) : ∀ (ns : List Val) (i : Nat), (callV (ns.drop i) v).sz ≤ (callV ns v).sz
  | [], i => by rw [List.drop_nil]; exact Nat.le_refl _
  | n :: ns, 0 => Nat.le_refl _
  | n :: ns, i + 1 => by
    have h1 := callV_sz v ns i
    have h2 : (callV (n :: ns) v).sz = 0 + Val.szL [n, callV ns v] + 1 := Val.sz_eq _
    simp only [Val.szL] at h2
    rw [List.drop_succ_cons]; omega
def CallI (ns : List Val) (v : Val) (yss : List (List D)) (f : Fr) (es : Sto) : Prop :=
  ∃ i, i ≤ ns.length ∧ yss = (backD (ns.map Val.d)).drop (ns.length - i) ∧
    ((f = [(8, .fn (.func 168) [] [.rp [.ro false (ns.map Val.d)]]), (7, .ro false (ns.map Val.d)), (4, .ptr 1 0 0), (3, .ptr 0 0 0), (0, .ro false (ns.map Val.d)), (1, v.d)] ∧ es = [some ⟨0, (callV (ns.drop i) v).cs⟩, some ⟨0, [.sc (.int .u8 0), .sc (.int .u64 0), .sc (.string ⟨#[]⟩), .nils]⟩]) ∨
     (f = [(8, .fn (.func 168) [] [.rp [.ro false (ns.map Val.d)]]), (7, .ro false (ns.map Val.d)), (4, .ptr 0 0 0), (3, .ptr 1 0 0), (0, .ro false (ns.map Val.d)), (1, v.d)] ∧ es = [some ⟨0, [.sc (.int .u8 0), .sc (.int .u64 0), .sc (.string ⟨#[]⟩), .nils]⟩, some ⟨0, (callV (ns.drop i) v).cs⟩]))
set_option maxHeartbeats 1000000 in
theorem call_c (ns : List Val) (v : Val) (h : (callV ns v).sz ≤ 40000000000) (hl : ns.length ≤ 40000000000) : EV 96 [.ro false (ns.map Val.d), v.d] [] = some (.ret (callV ns v).d, []) := by
  refine (ev_body ⟨[], [], [], true, [], backIt⟩ [.cell 4 46] rfl Tryz.func96 rfl rfl rfl (by kernel_rfl) (by show 2 ≤ 15; decide) (by kernel_rfl)).trans ?_
  simp +contextual (maxSteps := 10000000) only [go_sem, back_c, backIt_val ns hl]
  refine rgK_inv (CallI ns v) ⟨ns.length, Nat.le_refl _, by rw [Nat.sub_self]; rfl, .inl ⟨rfl, by rw [List.drop_length]; rfl⟩⟩ ?_ ?_
  · rintro f es ⟨i, hi, hy, hst⟩
    have hlen := congrArg List.length hy
    rw [List.length_drop, backD_len, List.length_map, List.length_nil] at hlen
    obtain rfl : i = 0 := by omega
    rw [List.drop_zero] at hst
    generalize callV ns v = w at *
    obtain ⟨k, n, t, l⟩ := w
    rcases hst with ⟨rfl, rfl⟩ | ⟨rfl, rfl⟩
    · simp +contextual (maxSteps := 10000000) only [go_sem]
    · simp +contextual (maxSteps := 10000000) only [go_sem]
  · rintro ys yss f es ⟨i, hi, hy, hst⟩ ih
    have h0 : (backD (ns.map Val.d))[ns.length - i]? = some ys := by
      have := congrArg (·[0]?) hy
      simp only [List.getElem?_cons_zero, List.getElem?_drop, Nat.add_zero] at this
      exact this.symm
    have htl : yss = (backD (ns.map Val.d)).drop (ns.length - i + 1) := by
      rw [← List.drop_drop, ← hy]; rfl
    obtain ⟨m, a, hm, ham, rfl⟩ := backD_at h0
    rw [List.length_map] at hm
    rw [List.getElem?_map] at ham
    obtain ⟨x, hx, rfl⟩ := Option.map_eq_some_iff.1 ham
    obtain rfl : i = m + 1 := by omega
    have hcur := callV_drop v hx
    have hsz := callV_sz v ns m
    rw [hcur, Val.sz_eq] at hsz
    simp only [Val.kids_mk, Val.szL] at hsz
    generalize callV (ns.drop (m + 1)) v = w at *
    have hd := desc_c x w (by omega)
    obtain ⟨k, n, t, l⟩ := w
    have hy2 : yss = (backD (ns.map Val.d)).drop (ns.length - m) := by rw [htl]; congr 1; omega
    rcases hst with ⟨rfl, rfl⟩ | ⟨rfl, rfl⟩
    · simp +contextual (maxSteps := 10000000) only [go_sem, hd]
      exact ih _ _ ⟨m, by omega, hy2, .inr ⟨rfl, by rw [hcur]; rfl⟩⟩
    · simp +contextual (maxSteps := 10000000) only [go_sem, hd]
      exact ih _ _ ⟨m, by omega, hy2, .inr ⟨rfl, by rw [hcur]; rfl⟩⟩
end Go.Bw.R1

/- Plain: the decoder's fuel, and how large its values are. -/
namespace Go.Bw.R1
set_option maxRecDepth 5000
open Go Go.Bw
theorem consL_len : ∀ (n : Nat) (l : List UInt8) (ns : List Val) (C : Int) (r : List UInt8), consL n l = .ok ((ns, C), r) → r.length < l.length ∧ kindC C ≠ 0
  | 0, _, _, _, _, h => by cases h
  | n + 1, l, ns, C, r, h => by
    rw [consL_succ] at h
    unfold consS at h
    match l, h with
    | [], h => cases h
    | c :: [], h =>
      dsimp only at h
      split at h
      · cases h
      · split at h
        · cases h
        · rename_i hk
          injection h with h
          injection h with h1 h2
          injection h1 with h1 h3
          subst h2 h3
          exact ⟨by simp, hk⟩
    | c :: k :: r2, h =>
      dsimp only at h
      split at h
      · unfold nameS at h
        split at h
        · cases h
        · cases hd : dataL (u8I k) r2 with
          | error e => rw [hd] at h; cases h
          | ok y =>
            obtain ⟨d, r3⟩ := y
            rw [hd] at h
            dsimp only at h
            cases hc : consL n r3 with
            | error e => rw [hc] at h; cases h
            | ok z =>
              obtain ⟨⟨ms, D⟩, r4⟩ := z
              rw [hc] at h
              dsimp only at h
              injection h with h
              injection h with h1 h2
              injection h1 with h1 h3
              subst h2 h3
              obtain ⟨i1, i2⟩ := consL_len n r3 ms D r4 hc
              have := (dataL_len hd).2.2.1
              exact ⟨by simp only [List.length_cons]; omega, i2⟩
      · split at h
        · cases h
        · rename_i hk
          injection h with h
          injection h with h1 h2
          injection h1 with h1 h3
          subst h2 h3
          exact ⟨by simp, hk⟩
section
variable {rd rd' : Int → List UInt8 → Except Int Val}
theorem itemF_congr {N : Nat} (h : ∀ c d, d.length < N → rd c d = rd' c d) (ns : List Val) (c : Int) (l : List UInt8) (hl : l.length < N) : itemF rd ns c l = itemF rd' ns c l := by
  unfold itemF
  cases hd : dataL c l with
  | error e => rfl
  | ok y =>
    obtain ⟨d, r⟩ := y
    have := (dataL_len hd).2.2.1
    dsimp only
    rw [h c d (by omega)]
theorem itemF_len {ns : List Val} {c : Int} {l r : List UInt8} {v : Val} (h : itemF rd ns c l = .ok (v, r)) : ∃ d w, dataL c l = .ok (d, r) ∧ rd c d = .ok w ∧ v = callV ns w := by
  unfold itemF at h
  cases hd : dataL c l with
  | error e => rw [hd] at h; cases h
  | ok y =>
    obtain ⟨d, r'⟩ := y
    rw [hd] at h
    dsimp only at h
    cases hr : rd c d with
    | error e => rw [hr] at h; cases h
    | ok w =>
      rw [hr] at h
      dsimp only at h
      injection h with h
      injection h with h1 h2
      subst h2
      exact ⟨d, w, rfl, hr, h1.symm⟩
theorem valF_congr {N : Nat} (h : ∀ c d, d.length < N → rd c d = rd' c d) (l : List UInt8) (hl : l.length ≤ N) : valF rd l = valF rd' l := by
  unfold valF
  cases hc : consL (l.length + 1) l with
  | error e => rfl
  | ok y =>
    obtain ⟨⟨ns, c⟩, r⟩ := y
    have := (consL_len _ _ _ _ _ hc).1
    exact itemF_congr h ns c r (by omega)
theorem valF_len {l r : List UInt8} {v : Val} (h : valF rd l = .ok (v, r)) : r.length < l.length := by
  unfold valF at h
  cases hc : consL (l.length + 1) l with
  | error e => rw [hc] at h; cases h
  | ok y =>
    obtain ⟨⟨ns, c⟩, r'⟩ := y
    rw [hc] at h
    obtain ⟨d, w, h1, _, _⟩ := itemF_len h
    have := (consL_len _ _ _ _ _ hc).1
    have := (dataL_len h1).2.2.1
    omega
end
theorem manyF_congr {st st' : List UInt8 → Except Int (Val × List UInt8)} {N : Nat} (h : ∀ l, l.length ≤ N → st l = st' l) (hlen : ∀ l v r, st l = .ok (v, r) → r.length ≤ l.length) : ∀ (n : Nat) (l : List UInt8), l.length ≤ N → manyF st n l = manyF st' n l
  | 0, _, _ => rfl
  | n + 1, l, hl => by
    simp only [manyF]
    rw [← h l hl]
    cases hs : st l with
    | error e => rfl
    | ok y =>
      obtain ⟨v, l1⟩ := y
      have := hlen l v l1 hs
      dsimp only
      rw [manyF_congr h hlen n l1 (by omega)]
theorem bodyF_congr {rd rd' : Int → List UInt8 → Except Int Val} {N : Nat} (h : ∀ c d, d.length < N → rd c d = rd' c d) (c : Int) (m : Nat) (r : List UInt8) (hr : r.length < N) : bodyF rd c m r = bodyF rd' c m r := by
  unfold bodyF
  split
  · rfl
  · split
    · cases hc : consL (r.length + 1) r with
      | error e => rfl
      | ok y =>
        obtain ⟨⟨ns, C⟩, r2⟩ := y
        have := (consL_len _ _ _ _ _ hc).1
        dsimp only
        rw [manyF_congr (st := itemF rd ns C) (st' := itemF rd' ns C) (N := N - 1) (fun l hl => itemF_congr h ns C l (by omega)) (fun l v r h => by obtain ⟨d, w, h1, _, _⟩ := itemF_len h; have := (dataL_len h1).2.2.1; omega) m r2 (by omega)]
    · rw [manyF_congr (st := valF rd) (st' := valF rd') (N := N) (fun l hl => valF_congr h l hl) (fun l v r h => by have := valF_len h; omega) m r (by omega)]
theorem readF_fuel : ∀ (n m : Nat) (c : Int) (d : List UInt8), d.length < n → d.length < m → readF n c d = readF m c d
  | 0, _, _, _, h, _ => by omega
  | _ + 1, 0, _, _, _, h => by omega
  | n + 1, m + 1, c, d, h1, h2 => by
    rw [readF_succ, readF_succ]
    unfold readS
    split
    · rfl
    · have hw : 1 ≤ wideC c := by unfold wideC; split <;> omega
      unfold takeL
      by_cases ha : d.length < wideC c
      · rw [if_pos ha]
      · rw [if_neg ha]
        dsimp only
        by_cases hb : (d.drop (wideC c)).length < wideC c
        · rw [if_pos hb]
        · rw [if_neg hb]
          dsimp only
          exact bodyF_congr (N := d.length) (fun c' d' hd' => readF_fuel n m c' d' (by omega) (by omega)) c _ _ (by simp only [List.length_drop] at hb ⊢; omega)
end Go.Bw.R1

/- Plain: how large decoded values are. -/
namespace Go.Bw.R1
set_option maxRecDepth 5000
open Go Go.Bw
theorem leafV_sz (c : Int) (d : List UInt8) : (leafV c d).sz ≤ d.length + 1 := by
  have one : ∀ (k n : Int) (t : ByteArray), (Val.mk k n t []).sz = t.size + 0 + 1 := fun k n t => rfl
  have z : ∀ l : List UInt8, (mkT l).size = l.length := fun l => rfl
  unfold leafV
  repeat' split
  all_goals rw [one]
  all_goals first | (show (0 : Nat) + 0 + 1 ≤ _; omega) | (rw [z]; first | omega | (rw [List.length_drop]; omega))
def nmSz (ns : List Val) : Nat := (ns.map fun n => n.sz + 1).sum
theorem callV_size (v : Val) : ∀ ns, (callV ns v).sz = nmSz ns + v.sz
  | [] => by simp [callV, nmSz]
  | n :: ns => by
    have h2 : (callV (n :: ns) v).sz = 0 + Val.szL [n, callV ns v] + 1 := Val.sz_eq _
    rw [h2, Val.szL, Val.szL, Val.szL, callV_size v ns]
    simp only [nmSz, List.map_cons, List.sum_cons]; omega
theorem consL_sz : ∀ (n : Nat) (l : List UInt8) (ns : List Val) (C : Int) (r : List UInt8), consL n l = .ok ((ns, C), r) → nmSz ns + 1 + r.length ≤ l.length ∧ ns.length ≤ l.length
  | 0, _, _, _, _, h => by cases h
  | n + 1, l, ns, C, r, h => by
    rw [consL_succ] at h
    unfold consS at h
    match l, h with
    | [], h => cases h
    | c :: [], h =>
      dsimp only at h
      split at h
      · cases h
      · split at h
        · cases h
        · injection h with h
          injection h with h1 h2
          injection h1 with h1 h3
          subst h1 h2
          exact ⟨by simp [nmSz], Nat.zero_le _⟩
    | c :: k :: r2, h =>
      dsimp only at h
      split at h
      · unfold nameS at h
        split at h
        · cases h
        · cases hd : dataL (u8I k) r2 with
          | error e => rw [hd] at h; cases h
          | ok y =>
            obtain ⟨d, r3⟩ := y
            rw [hd] at h
            dsimp only at h
            cases hc : consL n r3 with
            | error e => rw [hc] at h; cases h
            | ok z =>
              obtain ⟨⟨ms, D⟩, r4⟩ := z
              rw [hc] at h
              dsimp only at h
              injection h with h
              injection h with h1 h2
              injection h1 with h1 h3
              subst h1 h2
              obtain ⟨i1, i2⟩ := consL_sz n r3 ms D r4 hc
              have := (dataL_len hd).2.2.1
              have := leafV_sz (u8I k) d
              simp only [nmSz, List.map_cons, List.sum_cons, List.length_cons] at i1 ⊢
              exact ⟨by omega, by omega⟩
      · split at h
        · cases h
        · injection h with h
          injection h with h1 h2
          injection h1 with h1 h3
          subst h1 h2
          exact ⟨by simp [nmSz]; omega, Nat.zero_le _⟩
theorem manyF_sz {st : List UInt8 → Except Int (Val × List UInt8)} {a : Nat} (h : ∀ l v r, st l = .ok (v, r) → v.sz + 1100 * r.length ≤ a + 1100 * l.length) : ∀ (n : Nat) (l : List UInt8) (vs : List Val) (r : List UInt8), manyF st n l = .ok (vs, r) → Val.szL vs + 1100 * r.length ≤ n * a + 1100 * l.length ∧ vs.length = n
  | 0, l, vs, r, hh => by
    injection hh with hh
    injection hh with h1 h2
    subst h1 h2
    exact ⟨by simp [Val.szL], rfl⟩
  | n + 1, l, vs, r, hh => by
    simp only [manyF] at hh
    cases hs : st l with
    | error e => rw [hs] at hh; cases hh
    | ok y =>
      obtain ⟨v, l1⟩ := y
      rw [hs] at hh
      dsimp only at hh
      cases hm : manyF st n l1 with
      | error e => rw [hm] at hh; cases hh
      | ok z =>
        obtain ⟨ws, l2⟩ := z
        rw [hm] at hh
        dsimp only at hh
        injection hh with hh
        injection hh with h1 h2
        subst h1 h2
        obtain ⟨i1, i2⟩ := manyF_sz h n l1 ws l2 hm
        have := h l v l1 hs
        simp only [Val.szL, List.length_cons, Nat.add_mul]
        exact ⟨by omega, by omega⟩
theorem endF_ok {k : Int} {vs : List Val} {r : List UInt8} {v : Val} (h : endF k (.ok (vs, r)) = .ok v) : v = .mk k 0 e0 vs := by
  have h : (if r.isEmpty = true then Except.ok (.mk k 0 e0 vs) else Except.error 6 : Except Int Val) = .ok v := h
  split at h
  · injection h with h; exact h.symm
  · cases h
theorem readF_sz : ∀ (n : Nat) (c : Int) (d : List UInt8) (v : Val), readF n c d = .ok v → v.sz ≤ 1 + 1100 * d.length
  | 0, _, _, _, h => by cases h
  | n + 1, c, d, v, h => by
    rw [readF_succ] at h
    unfold readS at h
    split at h
    · injection h with h
      subst h
      have := leafV_sz c d; omega
    · unfold takeL at h
      by_cases ha : d.length < wideC c
      · rw [if_pos ha] at h; cases h
      · rw [if_neg ha] at h
        dsimp only at h
        by_cases hb : (d.drop (wideC c)).length < wideC c
        · rw [if_pos hb] at h; cases h
        · rw [if_neg hb] at h
          dsimp only at h
          generalize hm : beN ((d.drop (wideC c)).take (wideC c)) = m at h
          generalize hr : (d.drop (wideC c)).drop (wideC c) = r at h
          have hrl : r.length ≤ d.length := by rw [← hr]; simp only [List.length_drop]; omega
          unfold bodyF at h
          split at h
          · cases h
          · rename_i hm1024
            have fin : ∀ {x : Except Int (List Val × List UInt8)} {B : Nat}, endF (kindC c) x = .ok v → (∀ vs r', x = .ok (vs, r') → Val.szL vs ≤ B) → v.sz ≤ 1 + B := fun {x B} he hx => by
              cases x with
              | error e => cases he
              | ok y =>
                obtain ⟨vs, r'⟩ := y
                have he2 := endF_ok he
                subst he2
                have := hx vs r' rfl
                show 0 + Val.szL vs + 1 ≤ _
                omega
            have item : ∀ ns C l v r, itemF (readF n) ns C l = .ok (v, r) → v.sz + 1100 * r.length ≤ (nmSz ns + 1) + 1100 * l.length := fun ns C l v r hi => by
              obtain ⟨dd, w, h1, h2, rfl⟩ := itemF_len hi
              have := readF_sz n C dd w h2
              have := (dataL_len h1).2.2.1
              rw [callV_size]; omega
            split at h
            · cases hc : consL (r.length + 1) r with
              | error e => rw [hc] at h; cases h
              | ok y =>
                obtain ⟨⟨ns, C⟩, r2⟩ := y
                rw [hc] at h
                dsimp only at h
                have hcs := (consL_sz _ _ _ _ _ hc).1
                have hmul : m * (nmSz ns + 1) ≤ 1024 * (nmSz ns + 1) := Nat.mul_le_mul_right _ (by omega)
                have := fin (B := 1100 * r.length) h fun vs r' hx => by
                  have := (manyF_sz (item ns C) m r2 vs r' hx).1
                  omega
                omega
            · have := fin (B := 1100 * r.length) h fun vs r' hx => by
                have := (manyF_sz (a := 0) (fun l v r hv => by
                  unfold valF at hv
                  cases hc : consL (l.length + 1) l with
                  | error e => rw [hc] at hv; cases hv
                  | ok y =>
                    obtain ⟨⟨ns, C⟩, r2⟩ := y
                    rw [hc] at hv
                    have := (consL_sz _ _ _ _ _ hc).1
                    have := item ns C r2 v r hv
                    omega) m r vs r' hx).1
                omega
              omega
end Go.Bw.R1

/- decode.reader.value, given read. -/
namespace Go.Bw.R1
set_option maxRecDepth 5000
open Go Go.Bw Go.Proofs
def rdR (x : Except Int Val) : R × Sto := match x with
  | .error e => (thr e, [])
  | .ok v => (.ret v.d, [])
def valR (s : ByteArray) (x : Except Int (Val × List UInt8)) : R × Sto := match x with
  | .error e => (thr e, [some ⟨0, [.undef, .undef]⟩])
  | .ok (v, r) => (.ret v.d, [some ⟨0, rdr s (s.size - r.length)⟩])
/-- read answers as the plain decoder, of data shorter than N -/
def RdE (N : Nat) : Prop := ∀ (c : Int) (d : ByteArray), kindC c ≠ 0 → d.size < N → d.size ≤ 36000000 → (c < 160 → d.size = fixC c) → (160 ≤ c → wideC c ≤ d.size) → EV 95 [.sc (.int .u8 c), .ro false (bytesD d)] [] = some (rdR (readF (d.size + 1) c (toL d)))
theorem consL_suf : ∀ (n : Nat) (l : List UInt8) (ns : List Val) (C : Int) (r : List UInt8), consL n l = .ok ((ns, C), r) → ∃ p, l = p ++ r
  | 0, _, _, _, _, h => by cases h
  | n + 1, l, ns, C, r, h => by
    rw [consL_succ] at h
    unfold consS at h
    match l, h with
    | [], h => cases h
    | c :: [], h =>
      dsimp only at h
      split at h
      · cases h
      · split at h
        · cases h
        · injection h with h
          injection h with h1 h2
          subst h2
          exact ⟨[c], rfl⟩
    | c :: k :: r2, h =>
      dsimp only at h
      split at h
      · unfold nameS at h
        split at h
        · cases h
        · cases hd : dataL (u8I k) r2 with
          | error e => rw [hd] at h; cases h
          | ok y =>
            obtain ⟨d, r3⟩ := y
            rw [hd] at h
            dsimp only at h
            cases hc : consL n r3 with
            | error e => rw [hc] at h; cases h
            | ok z =>
              obtain ⟨⟨ms, D⟩, r4⟩ := z
              rw [hc] at h
              dsimp only at h
              injection h with h
              injection h with h1 h2
              subst h2
              obtain ⟨p, hp⟩ := consL_suf n r3 ms D r4 hc
              exact ⟨c :: k :: (d ++ p), by rw [(dataL_len hd).2.2.2, hp]; simp⟩
      · split at h
        · cases h
        · injection h with h
          injection h with h1 h2
          subst h2
          exact ⟨[c], rfl⟩
theorem suf_drop {s : ByteArray} {at_ : Nat} {p r : List UInt8} (ha : at_ ≤ s.size) (h : (toL s).drop at_ = p ++ r) : r = (toL s).drop (at_ + p.length) ∧ at_ + p.length ≤ s.size := by
  have hl := congrArg List.length h
  rw [List.length_drop, toL_len, List.length_append] at hl
  refine ⟨?_, by omega⟩
  rw [← List.drop_drop, h, List.drop_left]
/-- what stands behind a constructor -/
theorem item_step {N : Nat} (hR : RdE N) (s : ByteArray) (q : Nat) (ns : List Val) (C : Int) (hq : q ≤ s.size) (hs : s.size ≤ N) (hs2 : s.size ≤ 36000000) (hq0 : 0 < q) (hC : kindC C ≠ 0) :
    (∃ e, dataL C ((toL s).drop q) = .error e ∧ itemF (readF N) ns C ((toL s).drop q) = .error e) ∨
    ∃ d q2, q ≤ q2 ∧ q2 ≤ s.size ∧ dataL C ((toL s).drop q) = .ok (d, (toL s).drop q2) ∧
      ((∃ e, EV 95 [.sc (.int .u8 C), .ro false (bytesD (mkT d))] [] = some (thr e, []) ∧ itemF (readF N) ns C ((toL s).drop q) = .error e) ∨
       ∃ w, EV 95 [.sc (.int .u8 C), .ro false (bytesD (mkT d))] [] = some (.ret w.d, []) ∧ itemF (readF N) ns C ((toL s).drop q) = .ok (callV ns w, (toL s).drop q2) ∧ w.sz ≤ 1 + 1100 * d.length ∧ q2 = q + d.length) := by
  unfold itemF
  cases hd : dataL C ((toL s).drop q) with
  | error e => exact .inl ⟨e, rfl, rfl⟩
  | ok y =>
    obtain ⟨d, r⟩ := y
    obtain ⟨l1, l2, l3, l4⟩ := dataL_len hd
    obtain ⟨e1, e2⟩ := suf_drop hq l4
    have hz : (mkT d).size = d.length := rfl
    have hrd := hR C (mkT d) hC (by rw [hz]; omega) (by rw [hz]; omega) (fun h => by rw [hz]; exact l1 h) (fun h => by rw [hz]; exact l2 h)
    rw [toL_mkT, hz, readF_fuel (d.length + 1) N C d (by omega) (by omega)] at hrd
    refine .inr ⟨d, q + d.length, by omega, e2, by rw [e1], ?_⟩
    dsimp only
    cases hf : readF N C d with
    | error e => rw [hf] at hrd; exact .inl ⟨e, hrd, rfl⟩
    | ok w => rw [hf] at hrd; exact .inr ⟨w, hrd, by rw [e1], readF_sz N C d w hf, rfl⟩
set_option maxHeartbeats 4000000 in
theorem value_step {N : Nat} (hR : RdE N) (s : ByteArray) (at_ : Nat) (ha : at_ ≤ s.size) (hs : s.size ≤ N) (hs2 : s.size ≤ 36000000) : EV 59 [.ptr 0 0 0] [some ⟨0, rdr s at_⟩] = some (valR s (valF (readF N) ((toL s).drop at_))) := by
  have hc := cons_c' s at_ ha (by omega)
  refine (ev_body ⟨[], [], [(2, [(4, 0, false), (5, 0, false), (6, 0, false), (7, 0, true), (2, 0, false), (3, 0, false), (8, 0, true), (0, 0, false), (1, 0, false), (9, 0, true), (10, 0, true)]), (4000002, [(7, 0, false), (0, 0, false), (1, 0, false), (2, 0, false), (3, 0, false), (4, 0, false), (5, 0, false), (6, 0, false)]), (5000002, [(8, 0, false), (4, 0, false), (5, 0, false), (6, 0, false), (7, 0, true), (0, 0, false), (1, 0, false), (2, 0, false), (3, 0, false)])], true, [], noIt⟩ [.cell 2 46] rfl Tryz.func59 rfl rfl rfl (by kernel_rfl) (by show 1 ≤ 16; decide) (by kernel_rfl)).trans ?_
  unfold valF
  rw [consL_fuel (((toL s).drop at_).length + 1) (s.size - at_ + 1) _ (by omega) (by rw [List.length_drop, toL_len]; omega)]
  cases hcon : consL (s.size - at_ + 1) ((toL s).drop at_) with
  | error e =>
    rw [hcon] at hc
    unfold conR at hc
    simp only [rdr] at hc
    simp +contextual (maxSteps := 10000000) only [go_sem, hc]
    rfl
  | ok y =>
    obtain ⟨⟨ns, C⟩, r⟩ := y
    obtain ⟨p, hp⟩ := consL_suf _ _ _ _ _ hcon
    obtain ⟨e1, e2⟩ := suf_drop ha hp
    obtain ⟨z1, z2⟩ := consL_sz _ _ _ _ _ hcon
    obtain ⟨z3, hC⟩ := consL_len _ _ _ _ _ hcon
    obtain ⟨C0, C1⟩ := code_byte hC
    rw [hcon] at hc
    unfold conR at hc
    dsimp only at hc ⊢
    generalize hq : at_ + p.length = q at *
    subst e1
    rw [List.length_drop, List.length_drop, toL_len] at z1 z3
    rw [List.length_drop, toL_len] at z2
    rw [left_at s q e2] at hc
    have hdat := data_c' C s q e2 (by omega) C0 C1
    unfold datR at hdat
    simp only [rdr] at hc hdat
    rcases item_step hR s q ns C e2 hs hs2 (by omega) hC with ⟨e, h1, h2⟩ | ⟨d, q2, g1, g2, h1, h2⟩
    · rw [h1] at hdat
      rw [h2]
      dsimp only at hdat
      simp +contextual (maxSteps := 10000000) only [go_sem, hc, hdat]
      rfl
    · rw [h1] at hdat
      dsimp only at hdat
      rw [left_at s q2 g2] at hdat
      rcases h2 with ⟨e, h2, h3⟩ | ⟨w, h2, h3, h4, h5⟩
      · rw [h3]
        simp +contextual (maxSteps := 10000000) only [go_sem, hc, hdat, h2]
        rfl
      · have hcall := call_c ns w (by rw [callV_size]; omega) (by omega)
        rw [h3]
        unfold valR
        dsimp only
        rw [left_at s q2 g2]
        simp +contextual (maxSteps := 10000000) only [go_sem, hc, hdat, h2, hcall]
end Go.Bw.R1

/- decode.within's closure. -/
namespace Go.Bw.R1
set_option maxRecDepth 5000
open Go Go.Bw Go.Proofs
abbrev toldR (ns : List Val) (C : Int) : List D := [.ro false (ns.map Val.d), .sc (.int .u8 C)]
def itmR (ns : List Val) (C : Int) (s : ByteArray) (x : Except Int (Val × List UInt8)) : R × Sto := match x with
  | .error e => (thr e, [some ⟨0, [.undef, .undef]⟩, some ⟨0, [.undef]⟩, some ⟨0, [.undef, .undef]⟩])
  | .ok (v, r) => (.ret v.d, [some ⟨0, toldR ns C⟩, some ⟨0, [.ptr 2 0 0]⟩, some ⟨0, rdr s (s.size - r.length)⟩])
set_option maxHeartbeats 4000000 in
theorem within1_step {N : Nat} (hR : RdE N) (s : ByteArray) (q : Nat) (ns : List Val) (C : Int) (hq : q ≤ s.size) (hs : s.size ≤ N) (hs2 : s.size ≤ 36000000) (hq0 : 0 < q) (hC : kindC C ≠ 0) (hn : nmSz ns ≤ 36000000) (hnl : ns.length ≤ 36000000) :
    EV 167 [.ptr 0 0 0, .ptr 1 0 0] [some ⟨0, toldR ns C⟩, some ⟨0, [.ptr 2 0 0]⟩, some ⟨0, rdr s q⟩] = some (itmR ns C s (itemF (readF N) ns C ((toL s).drop q))) := by
  obtain ⟨C0, C1⟩ := code_byte hC
  have hdat := data_c' C s q hq (by omega) C0 C1
  unfold datR at hdat
  simp only [rdr] at hdat
  refine (ev_body ⟨[], [], [(1, [(4, 0, false), (5, 0, false), (6, 0, false), (7, 0, true), (2, 0, false), (3, 0, false), (8, 0, true), (0, 0, false), (1, 0, false), (9, 0, true), (10, 0, true)]), (4000001, [(7, 0, false), (0, 0, false), (1, 0, false), (2, 0, false), (3, 0, false), (4, 0, false), (5, 0, false), (6, 0, false)]), (5000001, [(8, 0, false), (4, 0, false), (5, 0, false), (6, 0, false), (7, 0, true), (0, 0, false), (1, 0, false), (2, 0, false), (3, 0, false)])], true, [], noIt⟩ [.cell 2 46] rfl Tryz.func167 rfl rfl rfl (by kernel_rfl) (by show 2 ≤ 13; decide) (by kernel_rfl)).trans ?_
  rcases item_step hR s q ns C hq hs hs2 hq0 hC with ⟨e, h1, h2⟩ | ⟨d, q2, g1, g2, h1, h2⟩
  · rw [h1] at hdat
    rw [h2]
    dsimp only at hdat
    simp +contextual (maxSteps := 10000000) only [go_sem, hdat]
    rfl
  · rw [h1] at hdat
    dsimp only at hdat
    rw [left_at s q2 g2] at hdat
    rcases h2 with ⟨e, h2, h3⟩ | ⟨w, h2, h3, h4, h5⟩
    · rw [h3]
      simp +contextual (maxSteps := 10000000) only [go_sem, hdat, h2]
      rfl
    · have hcall := call_c ns w (by rw [callV_size]; omega) (by omega)
      rw [h3]
      unfold itmR
      dsimp only
      rw [left_at s q2 g2]
      simp +contextual (maxSteps := 10000000) only [go_sem, hdat, h2, hcall]
end Go.Bw.R1

/- decode.within. -/
namespace Go.Bw.R1
set_option maxRecDepth 5000
open Go Go.Bw Go.Proofs
theorem drop0 (s : ByteArray) : (toL s).drop 0 = toL s := rfl
theorem valF_pos {rd : Int → List UInt8 → Except Int Val} {s : ByteArray} {p : Nat} {v : Val} {r : List UInt8} (hp : p ≤ s.size) (h : valF rd ((toL s).drop p) = .ok (v, r)) : ∃ p', p < p' ∧ p' ≤ s.size ∧ r = (toL s).drop p' := by
  have hlen := valF_len h
  unfold valF at h
  cases hc : consL (((toL s).drop p).length + 1) ((toL s).drop p) with
  | error e => rw [hc] at h; cases h
  | ok y =>
    obtain ⟨⟨ns, C⟩, r2⟩ := y
    rw [hc] at h
    obtain ⟨d, w, h1, _, _⟩ := itemF_len h
    obtain ⟨a, ha⟩ := consL_suf _ _ _ _ _ hc
    have hb := (dataL_len h1).2.2.2
    obtain ⟨e1, e2⟩ := suf_drop (p := a ++ d) (r := r) hp (by rw [ha, hb, List.append_assoc])
    refine ⟨p + (a ++ d).length, ?_, e2, e1⟩
    rw [e1, List.length_drop, List.length_drop, toL_len] at hlen
    omega
theorem itemF_pos {rd : Int → List UInt8 → Except Int Val} {s : ByteArray} {p : Nat} {ns : List Val} {C : Int} {v : Val} {r : List UInt8} (hp : p ≤ s.size) (h : itemF rd ns C ((toL s).drop p) = .ok (v, r)) : ∃ p', p ≤ p' ∧ p' ≤ s.size ∧ r = (toL s).drop p' := by
  obtain ⟨d, w, h1, _, _⟩ := itemF_len h
  obtain ⟨e1, e2⟩ := suf_drop hp (dataL_len h1).2.2.2
  exact ⟨p + d.length, by omega, e2, e1⟩
def addM (vs : List Val) : Except Int (List Val × List UInt8) → Except Int (List Val × List UInt8)
  | .error e => .error e
  | .ok (ws, r) => .ok (vs ++ ws, r)
theorem addM_nil (x : Except Int (List Val × List UInt8)) : addM [] x = x := by
  cases x with
  | error e => rfl
  | ok y => rfl
theorem addM_step {st : List UInt8 → Except Int (Val × List UInt8)} {n : Nat} {l l1 : List UInt8} {v : Val} (vs : List Val) (h : st l = .ok (v, l1)) : addM vs (manyF st (n + 1) l) = addM (vs ++ [v]) (manyF st n l1) := by
  simp only [manyF, h]
  cases manyF st n l1 with
  | error e => rfl
  | ok y => obtain ⟨ws, r⟩ := y; simp only [addM, List.append_assoc, List.cons_append, List.nil_append]
theorem addM_err {st : List UInt8 → Except Int (Val × List UInt8)} {n : Nat} {l : List UInt8} {e : Int} (vs : List Val) (h : st l = .error e) : addM vs (manyF st (n + 1) l) = .error e := by
  simp only [manyF, h, addM]
abbrev zeV : List D := [.sc (.int .u8 0), .sc (.int .u64 0), .sc (.string ⟨#[]⟩), .nils]
set_option maxHeartbeats 8000000 in
theorem within_step {N : Nat} (hR : RdE N) (c : Int) (d : ByteArray) (hc : ¬ c < 192) (hk : kindC c ≠ 0) (hs : d.size ≤ N) (hs2 : d.size ≤ 36000000) : EV 128 [.sc (.int .u8 c), .ro false (bytesD d)] [] = some (rdR (readS (readF N) c (toL d))) := by
  obtain ⟨c0, c1⟩ := code_byte hk
  have hwd := wide_c c (by omega) c1
  have hw4 : wideC c ≤ 4 ∧ 1 ≤ wideC c := by unfold wideC; split <;> omega
  generalize hw : wideC c = w at *
  refine (ev_body ⟨[], [(0, [1, 4, 5, 6, 8, 36, 37])], [(3, [(0, 0, false), (1, 0, false), (2, 0, false), (3, 0, true)]), (4000003, [(3, 0, false), (0, 0, false), (1, 0, false), (2, 0, false)]), (4, [(0, 0, false), (1, 0, false), (2, 0, false), (3, 0, true), (4, 1, false)]), (4000004, [(3, 0, false), (0, 0, false), (1, 0, false), (2, 0, false)]), (13, [(2, 0, false), (3, 0, true), (0, 0, false), (1, 0, false), (4, 1, false), (5, 0, true), (6, 2, false), (7, 0, true)]), (4000013, [(3, 0, false), (0, 0, false), (1, 0, false), (2, 0, false)])], true, [], noIt⟩ [.cell 4 46] rfl Tryz.func128 rfl rfl rfl (by kernel_rfl) (by show 2 ≤ 56; decide) (by kernel_rfl)).trans ?_
  unfold readS
  rw [if_neg hc, ← drop0 d, hw, takeL_at]
  by_cases h1 : d.size - 0 < w
  · rw [if_pos h1]
    have ht := take_no d 0 w (Nat.zero_le _) (by omega) (by omega)
    simp only [rdr, Int.cast_ofNat_Int] at ht
    simp +contextual (maxSteps := 10000000) only [go_sem, look_kinds mapTk, gl_kinds, hwd, ht]
    rfl
  · rw [if_neg h1]
    dsimp only
    rw [takeL_at]
    have ht := take_ok d 0 w (by omega) (by omega)
    have hn := number_c' d (0 + w) w (by omega) (by omega) hw4.1
    unfold numR at hn
    by_cases h2 : d.size - (0 + w) < w
    · rw [if_pos h2] at hn ⊢
      simp only [rdr, Int.cast_ofNat_Int, Nat.zero_add] at ht hn
      simp +contextual (maxSteps := 10000000) only [go_sem, look_kinds mapTk, gl_kinds, hwd, ht, hn]
      rfl
    · rw [if_neg h2] at hn ⊢
      dsimp only
      generalize beN (toL (d.extract (0 + w) (0 + w + w))) = m at *
      simp only [rdr, Int.cast_ofNat_Int, Nat.zero_add, Int.natCast_add] at ht hn
      simp only [Nat.zero_add]
      have hq : w + w ≤ d.size := by omega
      unfold bodyF
      by_cases h3 : 1024 < m
      · rw [if_pos h3]
        have h3' : decide ((1024 : Int) < m) = true := decide_eq_true (by omega)
        simp +contextual (maxSteps := 10000000) only [go_sem, look_kinds mapTk, gl_kinds, hwd, ht, hn, h3']
        rfl
      · rw [if_neg h3]
        have h3' : decide ((1024 : Int) < m) = false := decide_eq_false (by omega)
        by_cases h24 : kindC c = 24
        · rw [if_pos h24]
          have hcc := cons_c' d (w + w) hq (by omega)
          have hka : (kindC c == 24) = true := by simpa using h24
          rw [consL_fuel (((toL d).drop (w + w)).length + 1) (d.size - (w + w) + 1) _ (by omega) (by rw [List.length_drop, toL_len]; omega)]
          cases hcon : consL (d.size - (w + w) + 1) ((toL d).drop (w + w)) with
          | error e =>
            rw [hcon] at hcc
            unfold conR at hcc
            simp only [rdr, Int.natCast_add] at hcc
            simp +contextual (maxSteps := 10000000) only [go_sem, look_kinds mapTk, gl_kinds, hwd, ht, hn, h3', hka, hcc]
            rfl
          | ok y =>
            obtain ⟨⟨ns, C⟩, r⟩ := y
            obtain ⟨pp, hpp⟩ := consL_suf _ _ _ _ _ hcon
            obtain ⟨e1, hq2⟩ := suf_drop hq hpp
            obtain ⟨z1, z2⟩ := consL_sz _ _ _ _ _ hcon
            obtain ⟨z3, hC⟩ := consL_len _ _ _ _ _ hcon
            rw [hcon] at hcc
            unfold conR at hcc
            dsimp only at hcc ⊢
            generalize hqq : w + w + pp.length = q at *
            subst e1
            have hn1 : nmSz ns ≤ 36000000 := by rw [List.length_drop, List.length_drop, toL_len] at z1; omega
            have hn2 : ns.length ≤ 36000000 := by rw [List.length_drop, toL_len] at z2; omega
            have hq0 : 0 < q := by omega
            rw [left_at d q hq2] at hcc
            simp only [rdr, Int.natCast_add] at hcc
            simp +contextual (maxSteps := 10000000) only [go_sem, look_kinds mapTk, gl_kinds, hwd, ht, hn, h3', hka, hcc]
            refine lpK_inv (fun m0 f es => ∃ (p : Nat) (vs : List Val), vs.length + m0 = m ∧ 0 < p ∧ p ≤ d.size ∧ manyF (itemF (readF N) ns C) m ((toL d).drop q) = addM vs (manyF (itemF (readF N) ns C) m0 ((toL d).drop p)) ∧
              ((vs = [] ∧ f = [(1, .ro false (bytesD d)), (4, .ptr 0 0 0), (5, .ptr 1 0 0), (6, .ptr 2 0 0), (8, .fn (.func 167) [] [.ptr 4 0 0, .ptr 2 0 0]), (36, I m), (37, I (vs.length : Nat))] ∧ es = [some ⟨0, zeV⟩, some ⟨0, [.sc (.int .u8 (kindC c)), .sc (.int .u64 0), .sc (.string ⟨#[]⟩), .nils]⟩, some ⟨0, [.ptr 3 0 0]⟩, some ⟨0, rdr d p⟩, some ⟨0, toldR ns C⟩]) ∨
               (vs ≠ [] ∧ f = [(1, .ro false (bytesD d)), (4, .ptr 0 0 0), (5, .ptr 1 0 0), (6, .ptr 3 0 0), (8, .fn (.func 167) [] [.ptr 5 0 0, .ptr 3 0 0]), (36, I m), (37, I (vs.length : Nat))] ∧ es = [some ⟨0, zeV⟩, some ⟨0, [.sc (.int .u8 (kindC c)), .sc (.int .u64 0), .sc (.string ⟨#[]⟩), .ref 2 0 4 0 vs.length]⟩, some ⟨0, rowE Val.d vs⟩, some ⟨0, [.ptr 4 0 0]⟩, some ⟨0, rdr d p⟩, some ⟨0, toldR ns C⟩]))) m ⟨q, [], by simp, hq0, hq2, (addM_nil _).symm, .inl ⟨rfl, rfl, rfl⟩⟩ ?_
            rintro m0 _ _ ⟨p, vs, hm, hp0, hp, hmany, hst⟩ ih
            rw [hmany]
            have hv := within1_step hR d p ns C hp hs hs2 hp0 hC hn1 hn2
            have fz (es : Sto) (F : Nat → Bool) (n i v : Nat) : fsE es F n i v 4 0 vs.length true (some ⟨v, rowE Val.d vs⟩) = .ro false (vs.map Val.d) := fsE_rowE valOk rfl
            cases m0 with
            | zero =>
              have hlt : decide ((vs.length : Int) < m) = false := decide_eq_false (by omega)
              have hend : endF (kindC c) (addM vs (manyF (itemF (readF N) ns C) 0 ((toL d).drop p))) = if d.size ≤ p then .ok (.mk (kindC c) 0 e0 vs) else .error 6 := by
                show endF (kindC c) (.ok (vs ++ [], (toL d).drop p)) = _
                rw [List.append_nil]
                show (if ((toL d).drop p).isEmpty = true then Except.ok (Val.mk (kindC c) 0 e0 vs) else .error 6) = _
                by_cases hpe : d.size ≤ p
                · rw [if_pos hpe, List.drop_eq_nil_of_le (by rw [toL_len]; exact hpe)]; rfl
                · rw [if_neg hpe, if_neg]
                  rw [List.isEmpty_iff]
                  intro hh
                  have := congrArg List.length hh
                  rw [List.length_drop, toL_len, List.length_nil] at this; omega
              rw [hend]
              by_cases hpe : d.size ≤ p
              · have hpl : decide ((p : Int) < d.size) = false := decide_eq_false (by omega)
                rw [if_pos hpe]
                rcases hst with ⟨rfl, rfl, rfl⟩ | ⟨hne, rfl, rfl⟩
                · have hlt0 : decide ((0 : Int) < m) = false := hlt
                  simp +contextual (maxSteps := 10000000) only [go_sem, hlt, hlt0, hpl]
                  rfl
                · simp +contextual (maxSteps := 10000000) only [go_sem, hlt, hpl, fz]
                  rfl
              · have hpl : decide ((p : Int) < d.size) = true := decide_eq_true (by omega)
                rw [if_neg hpe]
                rcases hst with ⟨rfl, rfl, rfl⟩ | ⟨hne, rfl, rfl⟩
                · have hlt0 : decide ((0 : Int) < m) = false := hlt
                  simp +contextual (maxSteps := 10000000) only [go_sem, hlt, hlt0, hpl]
                  rfl
                · simp +contextual (maxSteps := 10000000) only [go_sem, hlt, hpl, fz]
                  rfl
            | succ m0 =>
              have hlt : decide ((vs.length : Int) < m) = true := decide_eq_true (by omega)
              cases hval : itemF (readF N) ns C ((toL d).drop p) with
              | error e =>
                rw [hval] at hv
                rw [addM_err vs hval]
                unfold itmR at hv
                simp only [rdr, toldR] at hv
                rcases hst with ⟨rfl, rfl, rfl⟩ | ⟨hne, rfl, rfl⟩
                · have hlt0 : decide ((0 : Int) < m) = true := hlt
                  simp +contextual (maxSteps := 10000000) only [go_sem, hv, hlt, hlt0]
                  rfl
                · simp +contextual (maxSteps := 10000000) only [go_sem, hv, hlt]
                  rfl
              | ok y =>
                obtain ⟨v, r⟩ := y
                obtain ⟨p', g1, g2, rfl⟩ := itemF_pos hp hval
                rw [hval] at hv
                unfold itmR at hv
                dsimp only at hv
                rw [left_at d p' g2] at hv
                simp only [rdr, toldR] at hv
                have hmany2 : manyF (itemF (readF N) ns C) m ((toL d).drop q) = addM (vs ++ [v]) (manyF (itemF (readF N) ns C) m0 ((toL d).drop p')) := by rw [hmany, addM_step vs hval]
                rw [← hmany]
                rcases hst with ⟨rfl, rfl, rfl⟩ | ⟨hne, rfl, rfl⟩
                · have hlt0 : decide ((0 : Int) < m) = true := hlt
                  simp +contextual (maxSteps := 10000000) only [go_sem, hv, hlt, hlt0, wrap_i64 (n := 1) (by omega) (by omega)]
                  exact ih m0 _ _ (by omega) ⟨p', [v], by simp only [List.length_cons, List.length_nil] at hm ⊢; omega, by omega, g2, hmany2, .inr ⟨by simp, rfl, by rw [rowV_one]; rfl⟩⟩
                · have r1 := valOk.row_len vs
                  have hb56 : ((vs.length + 1) * 56 ≤ 140737488355328) = True := eq_true (by omega)
                  simp +contextual (maxSteps := 10000000) only [go_sem, hv, hlt, wrap_i64 (n := (vs.length : Int) + 1) (by omega) (by omega), r1, hb56, rowV_snoc]
                  refine ih m0 _ _ (by omega) ⟨p', vs ++ [v], by rw [List.length_append]; simp only [List.length_cons, List.length_nil]; omega, by omega, g2, hmany2, .inr ⟨by simp, ?_, ?_⟩⟩
                  · simp only [List.length_append, List.length_cons, List.length_nil, Int.natCast_add]; rfl
                  · simp only [List.length_append, List.length_cons, List.length_nil]
        · rw [if_neg h24]
          have h24' : (kindC c == 24) = false := by simpa using h24
          simp +contextual (maxSteps := 10000000) only [go_sem, look_kinds mapTk, gl_kinds, hwd, ht, hn, h3', h24']
          refine lpK_inv (fun m0 f es => ∃ (p : Nat) (vs : List Val), vs.length + m0 = m ∧ p ≤ d.size ∧ manyF (valF (readF N)) m ((toL d).drop (w + w)) = addM vs (manyF (valF (readF N)) m0 ((toL d).drop p)) ∧
            ((vs = [] ∧ f = [(1, .ro false (bytesD d)), (4, .ptr 0 0 0), (5, .ptr 1 0 0), (6, .ptr 2 0 0), (8, .fn (.func 59) [.ptr 3 0 0] []), (36, I m), (37, I (vs.length : Nat))] ∧ es = [some ⟨0, zeV⟩, some ⟨0, [.sc (.int .u8 (kindC c)), .sc (.int .u64 0), .sc (.string ⟨#[]⟩), .nils]⟩, some ⟨0, [.ptr 3 0 0]⟩, some ⟨0, rdr d p⟩]) ∨
             (vs ≠ [] ∧ f = [(1, .ro false (bytesD d)), (4, .ptr 0 0 0), (5, .ptr 1 0 0), (6, .ptr 3 0 0), (8, .fn (.func 59) [.ptr 4 0 0] []), (36, I m), (37, I (vs.length : Nat))] ∧ es = [some ⟨0, zeV⟩, some ⟨0, [.sc (.int .u8 (kindC c)), .sc (.int .u64 0), .sc (.string ⟨#[]⟩), .ref 2 0 4 0 vs.length]⟩, some ⟨0, rowE Val.d vs⟩, some ⟨0, [.ptr 4 0 0]⟩, some ⟨0, rdr d p⟩]))) m ⟨w + w, [], by simp, hq, (addM_nil _).symm, .inl ⟨rfl, rfl, by simp only [rdr, Int.natCast_add]⟩⟩ ?_
          rintro m0 _ _ ⟨p, vs, hm, hp, hmany, hst⟩ ih
          rw [hmany]
          have hv := value_step hR d p hp hs hs2
          have fz (es : Sto) (F : Nat → Bool) (n i v : Nat) : fsE es F n i v 4 0 vs.length true (some ⟨v, rowE Val.d vs⟩) = .ro false (vs.map Val.d) := fsE_rowE valOk rfl
          cases m0 with
          | zero =>
            have hlt : decide ((vs.length : Int) < m) = false := decide_eq_false (by omega)
            have hend : endF (kindC c) (addM vs (manyF (valF (readF N)) 0 ((toL d).drop p))) = if d.size ≤ p then .ok (.mk (kindC c) 0 e0 vs) else .error 6 := by
              show endF (kindC c) (.ok (vs ++ [], (toL d).drop p)) = _
              rw [List.append_nil]
              show (if ((toL d).drop p).isEmpty = true then Except.ok (Val.mk (kindC c) 0 e0 vs) else .error 6) = _
              by_cases hpe : d.size ≤ p
              · rw [if_pos hpe, List.drop_eq_nil_of_le (by rw [toL_len]; exact hpe)]; rfl
              · rw [if_neg hpe, if_neg]
                rw [List.isEmpty_iff]
                intro hh
                have := congrArg List.length hh
                rw [List.length_drop, toL_len, List.length_nil] at this; omega
            rw [hend]
            by_cases hpe : d.size ≤ p
            · have hpl : decide ((p : Int) < d.size) = false := decide_eq_false (by omega)
              rw [if_pos hpe]
              rcases hst with ⟨rfl, rfl, rfl⟩ | ⟨hne, rfl, rfl⟩
              · have hlt0 : decide ((0 : Int) < m) = false := hlt
                simp +contextual (maxSteps := 10000000) only [go_sem, hlt, hlt0, hpl]
                rfl
              · simp +contextual (maxSteps := 10000000) only [go_sem, hlt, hpl, fz]
                rfl
            · have hpl : decide ((p : Int) < d.size) = true := decide_eq_true (by omega)
              rw [if_neg hpe]
              rcases hst with ⟨rfl, rfl, rfl⟩ | ⟨hne, rfl, rfl⟩
              · have hlt0 : decide ((0 : Int) < m) = false := hlt
                simp +contextual (maxSteps := 10000000) only [go_sem, hlt, hlt0, hpl]
                rfl
              · simp +contextual (maxSteps := 10000000) only [go_sem, hlt, hpl, fz]
                rfl
          | succ m0 =>
            have hlt : decide ((vs.length : Int) < m) = true := decide_eq_true (by omega)
            cases hval : valF (readF N) ((toL d).drop p) with
            | error e =>
              rw [hval] at hv
              rw [addM_err vs hval]
              unfold valR at hv
              simp only [rdr] at hv
              rcases hst with ⟨rfl, rfl, rfl⟩ | ⟨hne, rfl, rfl⟩
              · have hlt0 : decide ((0 : Int) < m) = true := hlt
                simp +contextual (maxSteps := 10000000) only [go_sem, hv, hlt, hlt0]
                rfl
              · simp +contextual (maxSteps := 10000000) only [go_sem, hv, hlt]
                rfl
            | ok y =>
              obtain ⟨v, r⟩ := y
              obtain ⟨p', g1, g2, rfl⟩ := valF_pos hp hval
              rw [hval] at hv
              unfold valR at hv
              dsimp only at hv
              rw [left_at d p' g2] at hv
              simp only [rdr] at hv
              have hmany2 : manyF (valF (readF N)) m ((toL d).drop (w + w)) = addM (vs ++ [v]) (manyF (valF (readF N)) m0 ((toL d).drop p')) := by rw [hmany, addM_step vs hval]
              rw [← hmany]
              rcases hst with ⟨rfl, rfl, rfl⟩ | ⟨hne, rfl, rfl⟩
              · have hlt0 : decide ((0 : Int) < m) = true := hlt
                simp +contextual (maxSteps := 10000000) only [go_sem, hv, hlt, hlt0, wrap_i64 (n := 1) (by omega) (by omega)]
                exact ih m0 _ _ (by omega) ⟨p', [v], by simp only [List.length_cons, List.length_nil] at hm ⊢; omega, g2, hmany2, .inr ⟨by simp, rfl, by rw [rowV_one]; rfl⟩⟩
              · have r1 := valOk.row_len vs
                have hb56 : ((vs.length + 1) * 56 ≤ 140737488355328) = True := eq_true (by omega)
                simp +contextual (maxSteps := 10000000) only [go_sem, hv, hlt, wrap_i64 (n := (vs.length : Int) + 1) (by omega) (by omega), r1, hb56, rowV_snoc]
                refine ih m0 _ _ (by omega) ⟨p', vs ++ [v], by rw [List.length_append]; simp only [List.length_cons, List.length_nil]; omega, g2, hmany2, .inr ⟨by simp, ?_, ?_⟩⟩
                · simp only [List.length_append, List.length_cons, List.length_nil, Int.natCast_add]; rfl
                · simp only [List.length_append, List.length_cons, List.length_nil]
end Go.Bw.R1
