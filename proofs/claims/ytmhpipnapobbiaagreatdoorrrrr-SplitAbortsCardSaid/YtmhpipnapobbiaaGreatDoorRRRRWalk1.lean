/- What the functions answer. -/
import Derived.Test.YtmhpipnapobbiaaGreatDoorRRRREval2
import Derived.Test.YtmhpipnapobbiaaGreatDoorRRRRProg
import Ieee.Arith
import Derived.RangeFuncBox
import Derived.RangeFuncLeaves
import Derived.Shelf.Abstract
import Derived.WalkKit
import Derived.OwnWalkIn
import Derived.TacticsInMore
import Derived.LoopNIn
import Derived.LoopIn
import Derived.BigFrameIn
import Derived.RangeFuncCalls
import Derived.BigRegionIn
import Derived.Stop.RegionWithIn
set_option linter.unusedSimpArgs false
set_option linter.unusedVariables false
/- Facts on the seat's types. -/
namespace Go.Bw.R1
open Go Go.Bw Go.Proofs
theorem bytes_free (ex : Bool) (s : ByteArray) : (D.ro ex (bytesD s)).free := .ro (by rw [bytesD_cells]; intro d hd; simp only [bytesD, List.mem_map] at hd; obtain ⟨_, _, rfl⟩ := hd; exact .sc)
theorem ag105 : aggB Tryz.prog 105 = some false := by kernel_rfl
theorem ag106 : aggB Tryz.prog 106 = some false := by kernel_rfl
theorem ag109 : aggB Tryz.prog 109 = some true := by kernel_rfl
theorem ag151 : aggB Tryz.prog 151 = some true := by kernel_rfl
theorem ag162 : aggB Tryz.prog 162 = some true := by kernel_rfl
theorem ag166 : aggB Tryz.prog 166 = some true := by kernel_rfl
theorem ag172 : aggB Tryz.prog 172 = some true := by kernel_rfl
theorem ag179 : aggB Tryz.prog 179 = some false := by kernel_rfl
theorem ag2 : aggB Tryz.prog 2 = some false := by kernel_rfl
theorem ag22 : aggB Tryz.prog 22 = some false := by kernel_rfl
theorem ag23 : aggB Tryz.prog 23 = some false := by kernel_rfl
theorem ag24 : aggB Tryz.prog 24 = some false := by kernel_rfl
theorem ag26 : aggB Tryz.prog 26 = some true := by kernel_rfl
theorem ag28 : aggB Tryz.prog 28 = some true := by kernel_rfl
theorem ag3 : aggB Tryz.prog 3 = some false := by kernel_rfl
theorem ag33 : aggB Tryz.prog 33 = some false := by kernel_rfl
theorem ag38 : aggB Tryz.prog 38 = some false := by kernel_rfl
theorem ag4 : aggB Tryz.prog 4 = some false := by kernel_rfl
theorem ag40 : aggB Tryz.prog 40 = some true := by kernel_rfl
theorem ag47 : aggB Tryz.prog 47 = some false := by kernel_rfl
theorem ag49 : aggB Tryz.prog 49 = some true := by kernel_rfl
theorem ag5 : aggB Tryz.prog 5 = some false := by kernel_rfl
theorem ag54 : aggB Tryz.prog 54 = some true := by kernel_rfl
theorem ag61 : aggB Tryz.prog 61 = some false := by kernel_rfl
theorem ag62 : aggB Tryz.prog 62 = some false := by kernel_rfl
theorem ag64 : aggB Tryz.prog 64 = some true := by kernel_rfl
theorem ag71 : aggB Tryz.prog 71 = some false := by kernel_rfl
theorem ag83 : aggB Tryz.prog 83 = some false := by kernel_rfl
theorem ag9 : aggB Tryz.prog 9 = some false := by kernel_rfl
theorem ag94 : aggB Tryz.prog 94 = some true := by kernel_rfl
theorem by166 : Program.bytesOf Tryz.prog 166 = 56 := by kernel_rfl
theorem by33 : Program.bytesOf Tryz.prog 33 = 4 := by kernel_rfl
theorem by49 : Program.bytesOf Tryz.prog 49 = 56 := by kernel_rfl
theorem by5 : Program.bytesOf Tryz.prog 5 = 1 := by kernel_rfl
theorem by9 : Program.bytesOf Tryz.prog 9 = 16 := by kernel_rfl
theorem el110 : elOf Tryz.prog 110 = some (109, 5) := by kernel_rfl
theorem el148 : elOf Tryz.prog 148 = some (151, 2) := by kernel_rfl
theorem el168 : elOf Tryz.prog 168 = some (9, 1) := by kernel_rfl
theorem el180 : elOf Tryz.prog 180 = some (33, 1) := by kernel_rfl
theorem el23 : elOf Tryz.prog 23 = some (5, 1) := by kernel_rfl
theorem el38 : elOf Tryz.prog 38 = some (166, 5) := by kernel_rfl
theorem el47 : elOf Tryz.prog 47 = some (49, 4) := by kernel_rfl
theorem el59 : elOf Tryz.prog 59 = some (64, 6) := by kernel_rfl
theorem fd49_3 : fldD Tryz.prog 49 3 = some (3, 1, false) := by kernel_rfl
theorem fk109 : fieldsOk Tryz.prog 109 = true := by kernel_rfl
theorem fk151 : fieldsOk Tryz.prog 151 = true := by kernel_rfl
theorem fk166 : fieldsOk Tryz.prog 166 = true := by kernel_rfl
theorem fk172 : fieldsOk Tryz.prog 172 = true := by kernel_rfl
theorem fk26 : fieldsOk Tryz.prog 26 = true := by kernel_rfl
theorem fk28 : fieldsOk Tryz.prog 28 = true := by kernel_rfl
theorem fk40 : fieldsOk Tryz.prog 40 = true := by kernel_rfl
theorem fk49 : fieldsOk Tryz.prog 49 = true := by kernel_rfl
theorem fk54 : fieldsOk Tryz.prog 54 = true := by kernel_rfl
theorem fk64 : fieldsOk Tryz.prog 64 = true := by kernel_rfl
theorem fk94 : fieldsOk Tryz.prog 94 = true := by kernel_rfl
theorem fo109_2 : fldOff Tryz.prog 109 2 = some 2 := by kernel_rfl
theorem fo109_3 : fldOff Tryz.prog 109 3 = some 3 := by kernel_rfl
theorem fo151_0 : fldOff Tryz.prog 151 0 = some 0 := by kernel_rfl
theorem fo151_1 : fldOff Tryz.prog 151 1 = some 1 := by kernel_rfl
theorem fo166_0 : fldOff Tryz.prog 166 0 = some 0 := by kernel_rfl
theorem fo166_1 : fldOff Tryz.prog 166 1 = some 1 := by kernel_rfl
theorem fo26_0 : fldOff Tryz.prog 26 0 = some 0 := by kernel_rfl
theorem fo26_1 : fldOff Tryz.prog 26 1 = some 1 := by kernel_rfl
theorem fo26_2 : fldOff Tryz.prog 26 2 = some 2 := by kernel_rfl
theorem fo26_3 : fldOff Tryz.prog 26 3 = some 3 := by kernel_rfl
theorem fo28_0 : fldOff Tryz.prog 28 0 = some 0 := by kernel_rfl
theorem fo28_1 : fldOff Tryz.prog 28 1 = some 1 := by kernel_rfl
theorem fo28_2 : fldOff Tryz.prog 28 2 = some 2 := by kernel_rfl
theorem fo28_3 : fldOff Tryz.prog 28 3 = some 3 := by kernel_rfl
theorem fo28_4 : fldOff Tryz.prog 28 4 = some 7 := by kernel_rfl
theorem fo40_0 : fldOff Tryz.prog 40 0 = some 0 := by kernel_rfl
theorem fo40_1 : fldOff Tryz.prog 40 1 = some 1 := by kernel_rfl
theorem fo40_10 : fldOff Tryz.prog 40 10 = some 10 := by kernel_rfl
theorem fo40_11 : fldOff Tryz.prog 40 11 = some 11 := by kernel_rfl
theorem fo40_12 : fldOff Tryz.prog 40 12 = some 12 := by kernel_rfl
theorem fo40_13 : fldOff Tryz.prog 40 13 = some 13 := by kernel_rfl
theorem fo40_14 : fldOff Tryz.prog 40 14 = some 14 := by kernel_rfl
theorem fo40_15 : fldOff Tryz.prog 40 15 = some 15 := by kernel_rfl
theorem fo40_16 : fldOff Tryz.prog 40 16 = some 16 := by kernel_rfl
theorem fo40_17 : fldOff Tryz.prog 40 17 = some 17 := by kernel_rfl
theorem fo40_18 : fldOff Tryz.prog 40 18 = some 18 := by kernel_rfl
theorem fo40_19 : fldOff Tryz.prog 40 19 = some 19 := by kernel_rfl
theorem fo40_2 : fldOff Tryz.prog 40 2 = some 2 := by kernel_rfl
theorem fo40_20 : fldOff Tryz.prog 40 20 = some 20 := by kernel_rfl
theorem fo40_21 : fldOff Tryz.prog 40 21 = some 21 := by kernel_rfl
theorem fo40_22 : fldOff Tryz.prog 40 22 = some 22 := by kernel_rfl
theorem fo40_23 : fldOff Tryz.prog 40 23 = some 23 := by kernel_rfl
theorem fo40_24 : fldOff Tryz.prog 40 24 = some 24 := by kernel_rfl
theorem fo40_25 : fldOff Tryz.prog 40 25 = some 25 := by kernel_rfl
theorem fo40_26 : fldOff Tryz.prog 40 26 = some 26 := by kernel_rfl
theorem fo40_27 : fldOff Tryz.prog 40 27 = some 27 := by kernel_rfl
theorem fo40_28 : fldOff Tryz.prog 40 28 = some 28 := by kernel_rfl
theorem fo40_29 : fldOff Tryz.prog 40 29 = some 29 := by kernel_rfl
theorem fo40_3 : fldOff Tryz.prog 40 3 = some 3 := by kernel_rfl
theorem fo40_30 : fldOff Tryz.prog 40 30 = some 30 := by kernel_rfl
theorem fo40_31 : fldOff Tryz.prog 40 31 = some 31 := by kernel_rfl
theorem fo40_32 : fldOff Tryz.prog 40 32 = some 35 := by kernel_rfl
theorem fo40_33 : fldOff Tryz.prog 40 33 = some 36 := by kernel_rfl
theorem fo40_34 : fldOff Tryz.prog 40 34 = some 37 := by kernel_rfl
theorem fo40_4 : fldOff Tryz.prog 40 4 = some 4 := by kernel_rfl
theorem fo40_5 : fldOff Tryz.prog 40 5 = some 5 := by kernel_rfl
theorem fo40_6 : fldOff Tryz.prog 40 6 = some 6 := by kernel_rfl
theorem fo40_7 : fldOff Tryz.prog 40 7 = some 7 := by kernel_rfl
theorem fo40_8 : fldOff Tryz.prog 40 8 = some 8 := by kernel_rfl
theorem fo40_9 : fldOff Tryz.prog 40 9 = some 9 := by kernel_rfl
theorem fo49_0 : fldOff Tryz.prog 49 0 = some 0 := by kernel_rfl
theorem fo49_1 : fldOff Tryz.prog 49 1 = some 1 := by kernel_rfl
theorem fo49_2 : fldOff Tryz.prog 49 2 = some 2 := by kernel_rfl
theorem fo49_3 : fldOff Tryz.prog 49 3 = some 3 := by kernel_rfl
theorem fo54_0 : fldOff Tryz.prog 54 0 = some 0 := by kernel_rfl
theorem fo54_1 : fldOff Tryz.prog 54 1 = some 1 := by kernel_rfl
theorem fo54_2 : fldOff Tryz.prog 54 2 = some 2 := by kernel_rfl
theorem fo54_3 : fldOff Tryz.prog 54 3 = some 10 := by kernel_rfl
theorem fo54_4 : fldOff Tryz.prog 54 4 = some 11 := by kernel_rfl
theorem fo64_0 : fldOff Tryz.prog 64 0 = some 0 := by kernel_rfl
theorem fo64_1 : fldOff Tryz.prog 64 1 = some 1 := by kernel_rfl
theorem fo64_2 : fldOff Tryz.prog 64 2 = some 2 := by kernel_rfl
theorem fo64_3 : fldOff Tryz.prog 64 3 = some 3 := by kernel_rfl
theorem fo64_4 : fldOff Tryz.prog 64 4 = some 4 := by kernel_rfl
theorem fo64_5 : fldOff Tryz.prog 64 5 = some 5 := by kernel_rfl
theorem fo94_0 : fldOff Tryz.prog 94 0 = some 0 := by kernel_rfl
theorem fo94_1 : fldOff Tryz.prog 94 1 = some 1 := by kernel_rfl
theorem ii168 : isInt Tryz.prog 168 = false := by kernel_rfl
theorem ii180 : isInt Tryz.prog 180 = false := by kernel_rfl
theorem ii23 : isInt Tryz.prog 23 = false := by kernel_rfl
theorem ii38 : isInt Tryz.prog 38 = false := by kernel_rfl
theorem ii47 : isInt Tryz.prog 47 = false := by kernel_rfl
theorem ii9 : isInt Tryz.prog 9 = false := by kernel_rfl
theorem ni9 : nonIface Tryz.prog 9 = true := by kernel_rfl
theorem pl109_0 : placesD Tryz.prog 109 0 = some (0, 1) := by kernel_rfl
theorem pl109_1 : placesD Tryz.prog 109 1 = some (1, 1) := by kernel_rfl
theorem pl109_2 : placesD Tryz.prog 109 2 = some (2, 1) := by kernel_rfl
theorem pl109_3 : placesD Tryz.prog 109 3 = some (3, 1) := by kernel_rfl
theorem pl109_4 : placesD Tryz.prog 109 4 = some (4, 1) := by kernel_rfl
theorem pl151_0 : placesD Tryz.prog 151 0 = some (0, 1) := by kernel_rfl
theorem pl151_1 : placesD Tryz.prog 151 1 = some (1, 1) := by kernel_rfl
theorem pl166_0 : placesD Tryz.prog 166 0 = some (0, 1) := by kernel_rfl
theorem pl166_1 : placesD Tryz.prog 166 1 = some (1, 4) := by kernel_rfl
theorem pl26_0 : placesD Tryz.prog 26 0 = some (0, 1) := by kernel_rfl
theorem pl28_0 : placesD Tryz.prog 28 0 = some (0, 1) := by kernel_rfl
theorem pl28_4 : placesD Tryz.prog 28 4 = some (7, 1) := by kernel_rfl
theorem pl40_0 : placesD Tryz.prog 40 0 = some (0, 1) := by kernel_rfl
theorem pl40_1 : placesD Tryz.prog 40 1 = some (1, 1) := by kernel_rfl
theorem pl40_10 : placesD Tryz.prog 40 10 = some (10, 1) := by kernel_rfl
theorem pl40_11 : placesD Tryz.prog 40 11 = some (11, 1) := by kernel_rfl
theorem pl40_12 : placesD Tryz.prog 40 12 = some (12, 1) := by kernel_rfl
theorem pl40_13 : placesD Tryz.prog 40 13 = some (13, 1) := by kernel_rfl
theorem pl40_14 : placesD Tryz.prog 40 14 = some (14, 1) := by kernel_rfl
theorem pl40_15 : placesD Tryz.prog 40 15 = some (15, 1) := by kernel_rfl
theorem pl40_16 : placesD Tryz.prog 40 16 = some (16, 1) := by kernel_rfl
theorem pl40_17 : placesD Tryz.prog 40 17 = some (17, 1) := by kernel_rfl
theorem pl40_18 : placesD Tryz.prog 40 18 = some (18, 1) := by kernel_rfl
theorem pl40_2 : placesD Tryz.prog 40 2 = some (2, 1) := by kernel_rfl
theorem pl40_20 : placesD Tryz.prog 40 20 = some (20, 1) := by kernel_rfl
theorem pl40_23 : placesD Tryz.prog 40 23 = some (23, 1) := by kernel_rfl
theorem pl40_24 : placesD Tryz.prog 40 24 = some (24, 1) := by kernel_rfl
theorem pl40_25 : placesD Tryz.prog 40 25 = some (25, 1) := by kernel_rfl
theorem pl40_26 : placesD Tryz.prog 40 26 = some (26, 1) := by kernel_rfl
theorem pl40_27 : placesD Tryz.prog 40 27 = some (27, 1) := by kernel_rfl
theorem pl40_28 : placesD Tryz.prog 40 28 = some (28, 1) := by kernel_rfl
theorem pl40_29 : placesD Tryz.prog 40 29 = some (29, 1) := by kernel_rfl
theorem pl40_3 : placesD Tryz.prog 40 3 = some (3, 1) := by kernel_rfl
theorem pl40_30 : placesD Tryz.prog 40 30 = some (30, 1) := by kernel_rfl
theorem pl40_31 : placesD Tryz.prog 40 31 = some (31, 4) := by kernel_rfl
theorem pl40_32 : placesD Tryz.prog 40 32 = some (35, 1) := by kernel_rfl
theorem pl40_33 : placesD Tryz.prog 40 33 = some (36, 1) := by kernel_rfl
theorem pl40_34 : placesD Tryz.prog 40 34 = some (37, 1) := by kernel_rfl
theorem pl40_4 : placesD Tryz.prog 40 4 = some (4, 1) := by kernel_rfl
theorem pl40_5 : placesD Tryz.prog 40 5 = some (5, 1) := by kernel_rfl
theorem pl40_6 : placesD Tryz.prog 40 6 = some (6, 1) := by kernel_rfl
theorem pl40_7 : placesD Tryz.prog 40 7 = some (7, 1) := by kernel_rfl
theorem pl40_8 : placesD Tryz.prog 40 8 = some (8, 1) := by kernel_rfl
theorem pl40_9 : placesD Tryz.prog 40 9 = some (9, 1) := by kernel_rfl
theorem pl49_0 : placesD Tryz.prog 49 0 = some (0, 1) := by kernel_rfl
theorem pl49_1 : placesD Tryz.prog 49 1 = some (1, 1) := by kernel_rfl
theorem pl49_2 : placesD Tryz.prog 49 2 = some (2, 1) := by kernel_rfl
theorem pl49_3 : placesD Tryz.prog 49 3 = some (3, 1) := by kernel_rfl
theorem pl54_0 : placesD Tryz.prog 54 0 = some (0, 1) := by kernel_rfl
theorem pl54_1 : placesD Tryz.prog 54 1 = some (1, 1) := by kernel_rfl
theorem pl54_2 : placesD Tryz.prog 54 2 = some (2, 8) := by kernel_rfl
theorem pl64_0 : placesD Tryz.prog 64 0 = some (0, 1) := by kernel_rfl
theorem pl64_1 : placesD Tryz.prog 64 1 = some (1, 1) := by kernel_rfl
theorem pl64_2 : placesD Tryz.prog 64 2 = some (2, 1) := by kernel_rfl
theorem pl64_3 : placesD Tryz.prog 64 3 = some (3, 1) := by kernel_rfl
theorem pl64_4 : placesD Tryz.prog 64 4 = some (4, 1) := by kernel_rfl
theorem pl64_5 : placesD Tryz.prog 64 5 = some (5, 1) := by kernel_rfl
theorem pl94_0 : placesD Tryz.prog 94 0 = some (0, 1) := by kernel_rfl
theorem st23 : isStr Tryz.prog 23 = false := by kernel_rfl
theorem st9 : isStr Tryz.prog 9 = true := by kernel_rfl
theorem sz105 : szOf Tryz.prog 105 = some 1 := by kernel_rfl
theorem sz106 : szOf Tryz.prog 106 = some 1 := by kernel_rfl
theorem sz109 : szOf Tryz.prog 109 = some 5 := by kernel_rfl
theorem sz151 : szOf Tryz.prog 151 = some 2 := by kernel_rfl
theorem sz162 : szOf Tryz.prog 162 = some 36 := by kernel_rfl
theorem sz166 : szOf Tryz.prog 166 = some 5 := by kernel_rfl
theorem sz179 : szOf Tryz.prog 179 = some 1 := by kernel_rfl
theorem sz2 : szOf Tryz.prog 2 = some 1 := by kernel_rfl
theorem sz22 : szOf Tryz.prog 22 = some 1 := by kernel_rfl
theorem sz23 : szOf Tryz.prog 23 = some 1 := by kernel_rfl
theorem sz24 : szOf Tryz.prog 24 = some 1 := by kernel_rfl
theorem sz26 : szOf Tryz.prog 26 = some 4 := by kernel_rfl
theorem sz28 : szOf Tryz.prog 28 = some 8 := by kernel_rfl
theorem sz3 : szOf Tryz.prog 3 = some 1 := by kernel_rfl
theorem sz33 : szOf Tryz.prog 33 = some 1 := by kernel_rfl
theorem sz38 : szOf Tryz.prog 38 = some 1 := by kernel_rfl
theorem sz4 : szOf Tryz.prog 4 = some 1 := by kernel_rfl
theorem sz40 : szOf Tryz.prog 40 = some 38 := by kernel_rfl
theorem sz47 : szOf Tryz.prog 47 = some 1 := by kernel_rfl
theorem sz49 : szOf Tryz.prog 49 = some 4 := by kernel_rfl
theorem sz5 : szOf Tryz.prog 5 = some 1 := by kernel_rfl
theorem sz61 : szOf Tryz.prog 61 = some 1 := by kernel_rfl
theorem sz62 : szOf Tryz.prog 62 = some 1 := by kernel_rfl
theorem sz64 : szOf Tryz.prog 64 = some 6 := by kernel_rfl
theorem sz71 : szOf Tryz.prog 71 = some 1 := by kernel_rfl
theorem sz83 : szOf Tryz.prog 83 = some 1 := by kernel_rfl
theorem sz9 : szOf Tryz.prog 9 = some 1 := by kernel_rfl
theorem u8_5 : isU8 Tryz.prog 5 = true := by kernel_rfl
theorem ze109 : zeroD Tryz.prog 109 = some [.sc (.string ⟨#[]⟩), .sc (.int .i64 0), .nilfn, .nilfn, .nilfn] := by kernel_rfl
theorem ze151 : zeroD Tryz.prog 151 = some [.sc (.int .u8 0), .nilfn] := by kernel_rfl
theorem ze162 : zeroD Tryz.prog 162 = some [.sc (.int .u32 0), .sc (.int .u32 0), .sc (.int .u32 0), .sc (.int .u32 0), .sc (.int .u32 0), .sc (.int .u32 0), .sc (.int .u32 0), .sc (.int .u32 0), .sc (.int .u32 0), .sc (.string ⟨#[]⟩), .sc (.string ⟨#[]⟩), .sc (.string ⟨#[]⟩), .sc (.string ⟨#[]⟩), .sc (.string ⟨#[]⟩), .sc (.string ⟨#[]⟩), .sc (.string ⟨#[]⟩), .sc (.int .i64 0), .sc (.int .i64 0), .sc (.int .i64 0), .sc (.int .i64 0), .sc (.int .i64 0), .sc (.int .i64 0), .sc (.int .i64 0), .sc (.int .i64 0), .sc (.bool false), .sc (.bool false), .sc (.bool false), .sc (.bool false), .sc (.bool false), .sc (.bool false), .sc (.bool false), .sc (.bool false), .sc (.int .u8 0), .sc (.int .u64 0), .sc (.int .u64 0), .sc (.string ⟨#[]⟩)] := by kernel_rfl
theorem ze166 : zeroD Tryz.prog 166 = some [.sc (.string ⟨#[]⟩), .sc (.int .u8 0), .sc (.int .u64 0), .sc (.int .u64 0), .sc (.string ⟨#[]⟩)] := by kernel_rfl
theorem ze172 : zeroD Tryz.prog 172 = some [] := by kernel_rfl
theorem ze26 : zeroD Tryz.prog 26 = some [.sc (.int .u8 0), .sc (.int .u64 0), .sc (.int .u64 0), .sc (.string ⟨#[]⟩)] := by kernel_rfl
theorem ze28 : zeroD Tryz.prog 28 = some [.sc (.string ⟨#[]⟩), .sc (.bool false), .sc (.bool false), .sc (.int .u8 0), .sc (.int .u64 0), .sc (.int .u64 0), .sc (.string ⟨#[]⟩), .nils] := by kernel_rfl
theorem ze33 : zeroD Tryz.prog 33 = some [.sc (.int .u32 0)] := by kernel_rfl
theorem ze38 : zeroD Tryz.prog 38 = some [.nils] := by kernel_rfl
theorem ze4 : zeroD Tryz.prog 4 = some [.sc (.bool false)] := by kernel_rfl
theorem ze40 : zeroD Tryz.prog 40 = some [.sc (.int .u8 0), .sc (.string ⟨#[]⟩), .sc (.string ⟨#[]⟩), .sc (.int .u32 0), .sc (.int .u16 0), .sc (.int .u32 0), .sc (.int .i64 0), .sc (.int .u32 0), .sc (.int .u32 0), .sc (.int .u32 0), .sc (.int .u32 0), .sc (.string ⟨#[]⟩), .sc (.int .i64 0), .sc (.bool false), .sc (.int .u8 0), .sc (.int .u8 0), .sc (.string ⟨#[]⟩), .sc (.string ⟨#[]⟩), .nils, .sc (.int .u32 0), .sc (.int .i64 0), .sc (.int .u32 0), .sc (.bool false), .sc (.bool false), .sc (.int .i64 0), .sc (.int .u32 0), .sc (.string ⟨#[]⟩), .sc (.bool false), .sc (.bool false), .sc (.bool false), .sc (.bool false), .sc (.int .u8 0), .sc (.int .u64 0), .sc (.int .u64 0), .sc (.string ⟨#[]⟩), .nils, .sc (.bool false), .sc (.string ⟨#[]⟩)] := by kernel_rfl
theorem ze47 : zeroD Tryz.prog 47 = some [.nils] := by kernel_rfl
theorem ze49 : zeroD Tryz.prog 49 = some [.sc (.int .u8 0), .sc (.int .u64 0), .sc (.string ⟨#[]⟩), .nils] := by kernel_rfl
theorem ze5 : zeroD Tryz.prog 5 = some [.sc (.int .u8 0)] := by kernel_rfl
theorem ze54 : zeroD Tryz.prog 54 = some [.sc (.int .i64 0), .sc (.int .u32 0), .sc (.string ⟨#[]⟩), .sc (.bool false), .sc (.bool false), .sc (.int .u8 0), .sc (.int .u64 0), .sc (.int .u64 0), .sc (.string ⟨#[]⟩), .nils, .sc (.bool false), .sc (.bool false)] := by kernel_rfl
theorem ze64 : zeroD Tryz.prog 64 = some [.sc (.int .u8 0), .sc (.int .u64 0), .sc (.string ⟨#[]⟩), .sc (.int .i64 0), .nilfn, .nilfn] := by kernel_rfl
theorem ze83 : zeroD Tryz.prog 83 = some [.nilfn] := by kernel_rfl
theorem ze9 : zeroD Tryz.prog 9 = some [.sc (.string ⟨#[]⟩)] := by kernel_rfl
theorem ze94 : zeroD Tryz.prog 94 = some [.nils, .sc (.bool false)] := by kernel_rfl
attribute [go_sem] ag105 ag106 ag109 ag151 ag162 ag166 ag172 ag179 ag2 ag22 ag23 ag24 ag26 ag28 ag3 ag33 ag38 ag4 ag40 ag47 ag49 ag5 ag54 ag61 ag62 ag64 ag71 ag83 ag9 ag94 by166 by33 by49 by5 by9 el110 el148 el168 el180 el23 el38 el47 el59 fd49_3 fk109 fk151 fk166 fk172 fk26 fk28 fk40 fk49 fk54 fk64 fk94 fo109_2 fo109_3 fo151_0 fo151_1 fo166_0 fo166_1 fo26_0 fo26_1 fo26_2 fo26_3 fo28_0 fo28_1 fo28_2 fo28_3 fo28_4 fo40_0 fo40_1 fo40_10 fo40_11 fo40_12 fo40_13 fo40_14 fo40_15 fo40_16 fo40_17 fo40_18 fo40_19 fo40_2 fo40_20 fo40_21 fo40_22 fo40_23 fo40_24 fo40_25 fo40_26 fo40_27 fo40_28 fo40_29 fo40_3 fo40_30 fo40_31 fo40_32 fo40_33 fo40_34 fo40_4 fo40_5 fo40_6 fo40_7 fo40_8 fo40_9 fo49_0 fo49_1 fo49_2 fo49_3 fo54_0 fo54_1 fo54_2 fo54_3 fo54_4 fo64_0 fo64_1 fo64_2 fo64_3 fo64_4 fo64_5 fo94_0 fo94_1 ii168 ii180 ii23 ii38 ii47 ii9 ni9 pl109_0 pl109_1 pl109_2 pl109_3 pl109_4 pl151_0 pl151_1 pl166_0 pl166_1 pl26_0 pl28_0 pl28_4 pl40_0 pl40_1 pl40_10 pl40_11 pl40_12 pl40_13 pl40_14 pl40_15 pl40_16 pl40_17 pl40_18 pl40_2 pl40_20 pl40_23 pl40_24 pl40_25 pl40_26 pl40_27 pl40_28 pl40_29 pl40_3 pl40_30 pl40_31 pl40_32 pl40_33 pl40_34 pl40_4 pl40_5 pl40_6 pl40_7 pl40_8 pl40_9 pl49_0 pl49_1 pl49_2 pl49_3 pl54_0 pl54_1 pl54_2 pl64_0 pl64_1 pl64_2 pl64_3 pl64_4 pl64_5 pl94_0 st23 st9 sz105 sz106 sz109 sz151 sz162 sz166 sz179 sz2 sz22 sz23 sz24 sz26 sz28 sz3 sz33 sz38 sz4 sz40 sz47 sz49 sz5 sz61 sz62 sz64 sz71 sz83 sz9 u8_5 Tryz.underlying110 Tryz.underlying148 Tryz.underlying168 Tryz.underlying171 Tryz.underlying178 Tryz.underlying180 Tryz.underlying190 Tryz.underlying191 Tryz.underlying197 Tryz.underlying2 Tryz.underlying22 Tryz.underlying23 Tryz.underlying24 Tryz.underlying29 Tryz.underlying3 Tryz.underlying30 Tryz.underlying33 Tryz.underlying38 Tryz.underlying4 Tryz.underlying47 Tryz.underlying5 Tryz.underlying55 Tryz.underlying59 Tryz.underlying71 Tryz.underlying9 ze109 ze151 ze162 ze166 ze172 ze26 ze28 ze33 ze38 ze4 ze40 ze47 ze49 ze5 ze54 ze64 ze83 ze9 ze94
structure Outc where
  kind : Int
  a : Int
  b : Int
  cond : ByteArray

def Outc.cs (x : Outc) : List D := [.sc (.int .u8 x.kind), .sc (.int .u64 x.a), .sc (.int .u64 x.b), .sc (.string x.cond)]
def Outc.d (x : Outc) : D := .agg x.cs
structure Outc.ok (x : Outc) : Prop where
  kind : 0 ≤ x.kind ∧ x.kind ≤ 255
  a : 0 ≤ x.a ∧ x.a ≤ 18446744073709551615
  b : 0 ≤ x.b ∧ x.b ≤ 18446744073709551615
  cond : x.cond.size ≤ 9223372036854775807

theorem Outc.fr {x : Outc} : ∀ d ∈ x.cs, d.free := by
  intro d hd
  simp only [Outc.cs, List.mem_cons, List.not_mem_nil, or_false] at hd
  rcases hd with rfl | rfl | rfl | rfl
  · exact .sc
  · exact .sc
  · exact .sc
  · exact .sc
theorem Outc.free {x : Outc} : x.d.free := .agg (Outc.fr)

theorem Outc.of_rd {cs : List D} (h : Rd Tryz.prog 26 cs) : ∃ x : Outc, x.ok ∧ WkL cs x.cs := by
  have h := Rd.fields Tryz.underlying26 h
  obtain ⟨a0, b0, rfl, h0, h⟩ := h
  obtain ⟨a1, b1, rfl, h1, h⟩ := h
  obtain ⟨a2, b2, rfl, h2, h⟩ := h
  obtain ⟨a3, b3, rfl, h3, h⟩ := h
  have h : _ = _ := h
  subst h
  obtain ⟨x0, rfl, k0⟩ := h0.int_inv Tryz.underlying5
  obtain ⟨x1, rfl, k1⟩ := h1.int_inv Tryz.underlying24
  obtain ⟨x2, rfl, k2⟩ := h2.int_inv Tryz.underlying24
  obtain ⟨x3, rfl, k3⟩ := h3.str_inv Tryz.underlying9
  refine ⟨⟨x0, x1, x2, x3⟩, ⟨k0, k1, k2, k3⟩, ?_⟩
  exact (WkL.append (.refl _) (WkL.append (.refl _) (WkL.append (.refl _) (WkL.append (.refl _) .nil))))

theorem Outc.of_arg {d : D} (h : Arg Tryz.prog 26 d) : ∃ x : Outc, x.ok ∧ Wk d x.d := Arg.agg (by kernel_rfl) Outc.ok Outc.cs (fun _ hd => Outc.of_rd hd) h

structure Perf where
  kind : Int
  id : ByteArray
  host : ByteArray
  maxFrame : Int
  channels : Int
  idle : Int
  remote : Int
  nextOut : Int
  inWin : Int
  outWin : Int
  handles : Int
  name : ByteArray
  handle : Int
  role : Bool
  snd : Int
  rcv : Int
  source : ByteArray
  target : ByteArray
  marks : List D
  count : Int
  nextIn : Int
  credit : Int
  drain : Bool
  echo : Bool
  first0 : Int
  last0 : Int
  tag : ByteArray
  settled : Bool
  more : Bool
  aborted : Bool
  resume : Bool
  state : Outc
  payload : ByteArray
  closed : Bool
  cond : ByteArray

def Perf.cs (x : Perf) : List D := [.sc (.int .u8 x.kind), .sc (.string x.id), .sc (.string x.host), .sc (.int .u32 x.maxFrame), .sc (.int .u16 x.channels), .sc (.int .u32 x.idle), .sc (.int .i64 x.remote), .sc (.int .u32 x.nextOut), .sc (.int .u32 x.inWin), .sc (.int .u32 x.outWin), .sc (.int .u32 x.handles), .sc (.string x.name), .sc (.int .i64 x.handle), .sc (.bool x.role), .sc (.int .u8 x.snd), .sc (.int .u8 x.rcv), .sc (.string x.source), .sc (.string x.target), .ro false x.marks, .sc (.int .u32 x.count), .sc (.int .i64 x.nextIn), .sc (.int .u32 x.credit), .sc (.bool x.drain), .sc (.bool x.echo), .sc (.int .i64 x.first0), .sc (.int .u32 x.last0), .sc (.string x.tag), .sc (.bool x.settled), .sc (.bool x.more), .sc (.bool x.aborted), .sc (.bool x.resume), .sc (.int .u8 x.state.kind), .sc (.int .u64 x.state.a), .sc (.int .u64 x.state.b), .sc (.string x.state.cond), .ro false (bytesD x.payload), .sc (.bool x.closed), .sc (.string x.cond)]
def Perf.d (x : Perf) : D := .agg x.cs
structure Perf.ok (x : Perf) : Prop where
  kind : 0 ≤ x.kind ∧ x.kind ≤ 255
  id : x.id.size ≤ 9223372036854775807
  host : x.host.size ≤ 9223372036854775807
  maxFrame : 0 ≤ x.maxFrame ∧ x.maxFrame ≤ 4294967295
  channels : 0 ≤ x.channels ∧ x.channels ≤ 65535
  idle : 0 ≤ x.idle ∧ x.idle ≤ 4294967295
  remote : -9223372036854775808 ≤ x.remote ∧ x.remote ≤ 9223372036854775807
  nextOut : 0 ≤ x.nextOut ∧ x.nextOut ≤ 4294967295
  inWin : 0 ≤ x.inWin ∧ x.inWin ≤ 4294967295
  outWin : 0 ≤ x.outWin ∧ x.outWin ≤ 4294967295
  handles : 0 ≤ x.handles ∧ x.handles ≤ 4294967295
  name : x.name.size ≤ 9223372036854775807
  handle : -9223372036854775808 ≤ x.handle ∧ x.handle ≤ 9223372036854775807
  snd : 0 ≤ x.snd ∧ x.snd ≤ 255
  rcv : 0 ≤ x.rcv ∧ x.rcv ≤ 255
  source : x.source.size ≤ 9223372036854775807
  target : x.target.size ≤ 9223372036854775807
  marks : (D.ro false x.marks).free
  count : 0 ≤ x.count ∧ x.count ≤ 4294967295
  nextIn : -9223372036854775808 ≤ x.nextIn ∧ x.nextIn ≤ 9223372036854775807
  credit : 0 ≤ x.credit ∧ x.credit ≤ 4294967295
  first0 : -9223372036854775808 ≤ x.first0 ∧ x.first0 ≤ 9223372036854775807
  last0 : 0 ≤ x.last0 ∧ x.last0 ≤ 4294967295
  tag : x.tag.size ≤ 9223372036854775807
  state : x.state.ok
  cond : x.cond.size ≤ 9223372036854775807

theorem Perf.fr {x : Perf} (h : x.ok) : ∀ d ∈ x.cs, d.free := by
  intro d hd
  simp only [Perf.cs, List.mem_cons, List.not_mem_nil, or_false] at hd
  rcases hd with rfl | rfl | rfl | rfl | rfl | rfl | rfl | rfl | rfl | rfl | rfl | rfl | rfl | rfl | rfl | rfl | rfl | rfl | rfl | rfl | rfl | rfl | rfl | rfl | rfl | rfl | rfl | rfl | rfl | rfl | rfl | rfl | rfl | rfl | rfl | rfl | rfl | rfl
  · exact .sc
  · exact .sc
  · exact .sc
  · exact .sc
  · exact .sc
  · exact .sc
  · exact .sc
  · exact .sc
  · exact .sc
  · exact .sc
  · exact .sc
  · exact .sc
  · exact .sc
  · exact .sc
  · exact .sc
  · exact .sc
  · exact .sc
  · exact .sc
  · exact h.marks
  · exact .sc
  · exact .sc
  · exact .sc
  · exact .sc
  · exact .sc
  · exact .sc
  · exact .sc
  · exact .sc
  · exact .sc
  · exact .sc
  · exact .sc
  · exact .sc
  · exact .sc
  · exact .sc
  · exact .sc
  · exact .sc
  · exact bytes_free _ _
  · exact .sc
  · exact .sc
theorem Perf.free {x : Perf} (h : x.ok) : x.d.free := .agg (Perf.fr h)

theorem Perf.of_rd {cs : List D} (h : Rd Tryz.prog 40 cs) : ∃ x : Perf, x.ok ∧ WkL cs x.cs := by
  have h := Rd.fields Tryz.underlying40 h
  obtain ⟨a0, b0, rfl, h0, h⟩ := h
  obtain ⟨a1, b1, rfl, h1, h⟩ := h
  obtain ⟨a2, b2, rfl, h2, h⟩ := h
  obtain ⟨a3, b3, rfl, h3, h⟩ := h
  obtain ⟨a4, b4, rfl, h4, h⟩ := h
  obtain ⟨a5, b5, rfl, h5, h⟩ := h
  obtain ⟨a6, b6, rfl, h6, h⟩ := h
  obtain ⟨a7, b7, rfl, h7, h⟩ := h
  obtain ⟨a8, b8, rfl, h8, h⟩ := h
  obtain ⟨a9, b9, rfl, h9, h⟩ := h
  obtain ⟨a10, b10, rfl, h10, h⟩ := h
  obtain ⟨a11, b11, rfl, h11, h⟩ := h
  obtain ⟨a12, b12, rfl, h12, h⟩ := h
  obtain ⟨a13, b13, rfl, h13, h⟩ := h
  obtain ⟨a14, b14, rfl, h14, h⟩ := h
  obtain ⟨a15, b15, rfl, h15, h⟩ := h
  obtain ⟨a16, b16, rfl, h16, h⟩ := h
  obtain ⟨a17, b17, rfl, h17, h⟩ := h
  obtain ⟨a18, b18, rfl, h18, h⟩ := h
  obtain ⟨a19, b19, rfl, h19, h⟩ := h
  obtain ⟨a20, b20, rfl, h20, h⟩ := h
  obtain ⟨a21, b21, rfl, h21, h⟩ := h
  obtain ⟨a22, b22, rfl, h22, h⟩ := h
  obtain ⟨a23, b23, rfl, h23, h⟩ := h
  obtain ⟨a24, b24, rfl, h24, h⟩ := h
  obtain ⟨a25, b25, rfl, h25, h⟩ := h
  obtain ⟨a26, b26, rfl, h26, h⟩ := h
  obtain ⟨a27, b27, rfl, h27, h⟩ := h
  obtain ⟨a28, b28, rfl, h28, h⟩ := h
  obtain ⟨a29, b29, rfl, h29, h⟩ := h
  obtain ⟨a30, b30, rfl, h30, h⟩ := h
  obtain ⟨a31, b31, rfl, h31, h⟩ := h
  obtain ⟨a32, b32, rfl, h32, h⟩ := h
  obtain ⟨a33, b33, rfl, h33, h⟩ := h
  obtain ⟨a34, b34, rfl, h34, h⟩ := h
  have h : _ = _ := h
  subst h
  obtain ⟨x0, rfl, k0⟩ := h0.int_inv Tryz.underlying5
  obtain ⟨x1, rfl, k1⟩ := h1.str_inv Tryz.underlying9
  obtain ⟨x2, rfl, k2⟩ := h2.str_inv Tryz.underlying9
  obtain ⟨x3, rfl, k3⟩ := h3.int_inv Tryz.underlying33
  obtain ⟨x4, rfl, k4⟩ := h4.int_inv Tryz.underlying22
  obtain ⟨x5, rfl, k5⟩ := h5.int_inv Tryz.underlying33
  obtain ⟨x6, rfl, k6⟩ := h6.int_inv Tryz.underlying3
  obtain ⟨x7, rfl, k7⟩ := h7.int_inv Tryz.underlying33
  obtain ⟨x8, rfl, k8⟩ := h8.int_inv Tryz.underlying33
  obtain ⟨x9, rfl, k9⟩ := h9.int_inv Tryz.underlying33
  obtain ⟨x10, rfl, k10⟩ := h10.int_inv Tryz.underlying33
  obtain ⟨x11, rfl, k11⟩ := h11.str_inv Tryz.underlying9
  obtain ⟨x12, rfl, k12⟩ := h12.int_inv Tryz.underlying3
  obtain ⟨x13, rfl⟩ := h13.bool_inv Tryz.underlying4
  obtain ⟨x14, rfl, k14⟩ := h14.int_inv Tryz.underlying5
  obtain ⟨x15, rfl, k15⟩ := h15.int_inv Tryz.underlying5
  obtain ⟨x16, rfl, k16⟩ := h16.str_inv Tryz.underlying9
  obtain ⟨x17, rfl, k17⟩ := h17.str_inv Tryz.underlying9
  obtain ⟨x18, k18, w18⟩ := h18.slice_any Tryz.underlying38
  obtain ⟨x19, rfl, k19⟩ := h19.int_inv Tryz.underlying33
  obtain ⟨x20, rfl, k20⟩ := h20.int_inv Tryz.underlying2
  obtain ⟨x21, rfl, k21⟩ := h21.int_inv Tryz.underlying33
  obtain ⟨x22, rfl⟩ := h22.bool_inv Tryz.underlying4
  obtain ⟨x23, rfl⟩ := h23.bool_inv Tryz.underlying4
  obtain ⟨x24, rfl, k24⟩ := h24.int_inv Tryz.underlying2
  obtain ⟨x25, rfl, k25⟩ := h25.int_inv Tryz.underlying33
  obtain ⟨x26, rfl, k26⟩ := h26.str_inv Tryz.underlying9
  obtain ⟨x27, rfl⟩ := h27.bool_inv Tryz.underlying4
  obtain ⟨x28, rfl⟩ := h28.bool_inv Tryz.underlying4
  obtain ⟨x29, rfl⟩ := h29.bool_inv Tryz.underlying4
  obtain ⟨x30, rfl⟩ := h30.bool_inv Tryz.underlying4
  obtain ⟨x31, k31, w31⟩ := Outc.of_rd h31
  obtain ⟨x32, w32⟩ := h32.bytes_inv Tryz.underlying23 Tryz.underlying5
  obtain ⟨x33, rfl⟩ := h33.bool_inv Tryz.underlying4
  obtain ⟨x34, rfl, k34⟩ := h34.str_inv Tryz.underlying9
  refine ⟨⟨x0, x1, x2, x3, x4, x5, x6, x7, x8, x9, x10, x11, x12, x13, x14, x15, x16, x17, x18, x19, x20, x21, x22, x23, x24, x25, x26, x27, x28, x29, x30, x31, x32, x33, x34⟩, ⟨k0, k1, k2, k3, k4, k5, k6, k7, k8, k9, k10, k11, k12, k14, k15, k16, k17, k18, k19, k20, k21, k24, k25, k26, k31, k34⟩, ?_⟩
  exact (WkL.append (.refl _) (WkL.append (.refl _) (WkL.append (.refl _) (WkL.append (.refl _) (WkL.append (.refl _) (WkL.append (.refl _) (WkL.append (.refl _) (WkL.append (.refl _) (WkL.append (.refl _) (WkL.append (.refl _) (WkL.append (.refl _) (WkL.append (.refl _) (WkL.append (.refl _) (WkL.append (.refl _) (WkL.append (.refl _) (WkL.append (.refl _) (WkL.append (.refl _) (WkL.append (.refl _) (WkL.append w18 (WkL.append (.refl _) (WkL.append (.refl _) (WkL.append (.refl _) (WkL.append (.refl _) (WkL.append (.refl _) (WkL.append (.refl _) (WkL.append (.refl _) (WkL.append (.refl _) (WkL.append (.refl _) (WkL.append (.refl _) (WkL.append (.refl _) (WkL.append (.refl _) (WkL.append w31 (WkL.append w32 (WkL.append (.refl _) (WkL.append (.refl _) .nil)))))))))))))))))))))))))))))))))))

theorem Perf.of_arg {d : D} (h : Arg Tryz.prog 40 d) : ∃ x : Perf, x.ok ∧ Wk d x.d := Arg.agg (by kernel_rfl) Perf.ok Perf.cs (fun _ hd => Perf.of_rd hd) h

attribute [go_sem] Outc.cs Outc.d Perf.cs Perf.d
end Go.Bw.R1

/- Own: the two tables of codes and kinds, as maps that nobody writes. -/
namespace Go.Bw
open Go
def e0 : ByteArray := ⟨#[]⟩
def tabS : List (Int × Int) → Int → Int
  | [], _ => 0
  | (a, b) :: r, k => if a = k then b else tabS r k
def tabK (l : List (Int × Int)) : List D := l.map fun p => .sc (.int .u8 p.1)
def tabV (l : List (Int × Int)) : List D := l.map fun p => .sc (.int .u8 p.2)
def codesTab : List (Int × Int) := [(1, 64), (3, 80), (4, 96), (7, 81), (8, 97), (11, 114), (12, 130), (13, 115), (14, 131), (15, 152), (16, 116), (17, 132), (18, 148)]
def kindsTab : List (Int × Int) := [(64, 1), (65, 2), (66, 2), (67, 5), (68, 6), (69, 22), (80, 3), (81, 7), (82, 5), (83, 6), (84, 9), (85, 10), (86, 2), (96, 4), (97, 8), (112, 5), (113, 9), (114, 11), (115, 13), (116, 16), (128, 6), (129, 10), (130, 12), (131, 14), (132, 17), (148, 18), (152, 15), (160, 19), (161, 20), (163, 21), (176, 19), (177, 20), (179, 21), (192, 22), (193, 23), (208, 22), (209, 23), (224, 24), (240, 24)]
def codesD : D := .mp (tabK codesTab) (tabV codesTab)
def kindsD : D := .mp (tabK kindsTab) (tabV kindsTab)
theorem tabK_refs (l : List (Int × Int)) : D.refsL (tabK l) = [] := refsL_map (fun _ => rfl) l
theorem tabV_refs (l : List (Int × Int)) : D.refsL (tabV l) = [] := refsL_map (fun _ => rfl) l
theorem codesD_refs : codesD.refs = [] := by unfold codesD; simp only [D.refs, tabK_refs, tabV_refs, List.append_nil]
theorem kindsD_refs : kindsD.refs = [] := by unfold kindsD; simp only [D.refs, tabK_refs, tabV_refs, List.append_nil]
theorem codesD_cells : codesD.cells = [codesD] := nr rfl
theorem kindsD_cells : kindsD.cells = [kindsD] := nr rfl
theorem tabK_free {l : List (Int × Int)} : ∀ d ∈ tabK l, d.free := fun d hd => by obtain ⟨_, _, rfl⟩ := List.mem_map.1 hd; exact .sc
theorem tabV_free {l : List (Int × Int)} : ∀ d ∈ tabV l, d.free := fun d hd => by obtain ⟨_, _, rfl⟩ := List.mem_map.1 hd; exact .sc
/-- tables that a map may be read as -/
structure MapT (P : Program) (t : TypeId) : Prop where
  h : ∃ kt e, P.underlying t = some (.map kt e) ∧ P.underlying kt = some (.int .u8) ∧ zeroD P e = some [.sc (.int .u8 0)] ∧ aggB P e = some false ∧ zeroShape P e = true
theorem find_tab : ∀ (l : List (Int × Int)) (k : Int), lookR false (.sc (.int .u8 0)) (findK .u8 k (tabK l) (tabV l)) = .sc (.int .u8 (tabS l k))
  | [], k => rfl
  | (a, b) :: r, k => by
    have ih := find_tab r k
    simp only [tabK, tabV, List.map_cons, findK, keyOf, if_true, Option.some.injEq, tabS] at ih ⊢
    by_cases h : a = k
    · rw [if_pos h, if_pos h]; rfl
    · rw [if_neg h, if_neg h]; exact ih
theorem look_tab {P : Program} {t : TypeId} (h : MapT P t) (l : List (Int × Int)) (hd : mpOk .u8 (tabK l) = true) (k : Int) : lookD P t (.mp (tabK l) (tabV l)) (.sc (.int .u8 k)) false = some (.sc (.int .u8 (tabS l k))) := by
  obtain ⟨kt, e, h1, h2, h3, h4, h5⟩ := h.h
  simp only [lookD, h1, h2, h3, h4, hd, h5, and_self, if_true, find_tab]
def codeK (k : Int) : Int := tabS codesTab k
theorem look_codes {P : Program} {t : TypeId} (h : MapT P t) (k : Int) : lookD P t codesD (.sc (.int .u8 k)) false = some (.sc (.int .u8 (codeK k))) := look_tab h codesTab (by decide) k
attribute [go_sem] codesD_refs kindsD_refs codesD_cells kindsD_cells
end Go.Bw

/- Plain: texts as characters and as bytes. -/
namespace Go.Bw.U
def chr (n : Int) : Bool := decide (n ≤ 1114111) && (decide (n < 55296) || decide (57343 < n))
def one (n : Int) : List Int :=
  if n < 128 then [n] else if n < 2048 then [192 + n / 64, 128 + n % 64] else if n < 65536 then [224 + n / 4096, 128 + n / 64 % 64, 128 + n % 64]
  else [240 + n / 262144, 128 + n / 4096 % 64, 128 + n / 64 % 64, 128 + n % 64]
def byteB (x : Int) : Prop := 0 ≤ x ∧ x < 256
/-- what a first byte tells -/
def first (x : Int) : Int × Nat × Bool :=
  if x < 128 then (x, 0, true) else if 248 ≤ x ∨ x < 192 then (0, 0, false) else if 240 ≤ x then (x % 8, 3, true) else if 224 ≤ x then (x % 16, 2, true) else (x % 32, 1, true)
def cont : Nat → Int → List Int → Option Int
  | 0, c, _ => some c
  | _ + 1, _, [] => none
  | n + 1, c, y :: r => if y / 64 = 2 then cont n (c * 64 + y % 64) r else none
def more (c : Int) : Nat := if c ≤ 127 then 0 else if c ≤ 2047 then 1 else if c ≤ 65535 then 2 else 3
def char (l : List Int) : Int × Nat :=
  match l with
  | [] => (0, 0)
  | x :: r => if (first x).2.2 = false ∨ r.length < (first x).2.1 then (0, 0) else
    match cont (first x).2.1 (first x).1 r with
    | none => (0, 0)
    | some c => if chr c = false ∨ more c ≠ (first x).2.1 then (0, 0) else (c, (first x).2.1 + 1)
def chars : Nat → List Int → Option (List Int)
  | _, [] => some []
  | 0, _ :: _ => none
  | k + 1, x :: r => if (char (x :: r)).2 = 0 then none else (chars k ((x :: r).drop (char (x :: r)).2)).map ((char (x :: r)).1 :: ·)

theorem first1 {x : Int} (h : x < 128) : first x = (x, 0, true) := by unfold first; rw [if_pos h]
theorem first0 {x : Int} (h : 128 ≤ x) (k : 248 ≤ x ∨ x < 192) : first x = (0, 0, false) := by unfold first; rw [if_neg (by omega), if_pos k]
theorem first4 {x : Int} (h : 240 ≤ x) (k : x < 248) : first x = (x % 8, 3, true) := by unfold first; rw [if_neg (by omega), if_neg (by omega), if_pos h]
theorem first3 {x : Int} (h : 224 ≤ x) (k : x < 240) : first x = (x % 16, 2, true) := by unfold first; rw [if_neg (by omega), if_neg (by omega), if_neg (by omega), if_pos h]
theorem first2 {x : Int} (h : 192 ≤ x) (k : x < 224) : first x = (x % 32, 1, true) := by unfold first; rw [if_neg (by omega), if_neg (by omega), if_neg (by omega), if_neg (by omega)]





def right (l : List Int) : Bool := (chars l.length l).isSome
def text (cs : List Int) : List Int := cs.flatMap one




end Go.Bw.U

/- Own: floating numbers that are small whole numbers, and how they stand to each other. -/
namespace Go.Bw
open Go Ieee
/-- what a word stands for is a whole number -/
def Tells (d : Datum) (n : Nat) : Prop := ∃ m p, d = .number false m p ∧ p ≤ 0 ∧ m = n * 2 ^ (-p).toNat

theorem Tells.order {a b : Datum} {n m : Nat} (ha : Tells a n) (hb : Tells b m) : a.order b = some (compare (n : Int) (m : Int)) := by
  obtain ⟨x, p, rfl, hp, rfl⟩ := ha
  obtain ⟨y, q, rfl, hq, rfl⟩ := hb
  have hs : ∀ (k : Nat) (r base : Int), base ≤ r → r ≤ 0 → signed false (k * 2 ^ (-r).toNat) (r - base).toNat = ((k * 2 ^ (-base).toNat : Nat) : Int) := by
    intro k r base h1 h2
    simp only [signed, Bool.false_eq_true, if_false]
    rw [Nat.shiftLeft_eq, Nat.mul_assoc, ← Nat.pow_add, show (-r).toNat + (r - base).toNat = (-base).toNat by omega]
  simp only [Datum.order]
  rw [hs _ _ _ (by omega) hp, hs _ _ _ (by omega) hq]
  congr 1
  have hpos : 0 < 2 ^ (-(min p q)).toNat := Nat.pow_pos (by decide)
  generalize 2 ^ (-(min p q)).toNat = k at hpos
  simp only [compare, compareOfLessAndEq]
  have e1 : (((n * k : Nat) : Int) < ((m * k : Nat) : Int)) ↔ ((n : Int) < m) := by
    rw [Int.ofNat_lt, Int.ofNat_lt]; exact Nat.mul_lt_mul_right hpos
  have e2 : (((n * k : Nat) : Int) = ((m * k : Nat) : Int)) ↔ ((n : Int) = m) := by
    rw [Int.ofNat_inj, Int.ofNat_inj]; exact Nat.mul_left_inj (Nat.pos_iff_ne_zero.1 hpos)
  simp only [e1, e2]

theorem tells_near (n : Nat) (h : n < 9007199254740992) : Tells (double.read (double.nearest false n 0)) n := by
  rcases Nat.eq_zero_or_pos n with rfl | h0
  · exact ⟨0, -1074, by decide, by decide, (Nat.zero_mul _).symm⟩
  have hn : n ≠ 0 := by omega
  obtain ⟨L, hL⟩ : ∃ L, L = n.log2 := ⟨_, rfl⟩
  have h1 : 2 ^ L ≤ n := by rw [hL]; exact Nat.log2_self_le hn
  have h2 : n < 2 ^ (L + 1) := by rw [hL]; exact Nat.lt_log2_self
  have h3 : L ≤ 52 := by
    rcases Nat.lt_or_ge 52 L with h4 | h4
    · have : 2 ^ 53 ≤ 2 ^ L := Nat.pow_le_pow_right (by decide) h4
      omega
    · exact h4
  have hb : 2 ^ L * 2 ^ (52 - L) = 4503599627370496 := by rw [← Nat.pow_add, show L + (52 - L) = 52 by omega]
  have hb2 : 2 ^ (L + 1) * 2 ^ (52 - L) = 9007199254740992 := by rw [← Nat.pow_add, show L + 1 + (52 - L) = 53 by omega]
  have hpos : 0 < 2 ^ (52 - L) := Nat.pow_pos (by decide)
  obtain ⟨k, hk⟩ : ∃ k, k = n * 2 ^ (52 - L) := ⟨_, rfl⟩
  have k1 : 4503599627370496 ≤ k := by rw [hk, ← hb]; exact Nat.mul_le_mul_right _ h1
  have k2 : k < 9007199254740992 := by rw [hk, ← hb2]; exact Nat.mul_lt_mul_of_pos_right h2 hpos
  have hlp : double.leastPlace = -1074 := by decide
  have hbn : double.binade = 4503599627370496 := by decide
  have hir : double.infRung = 9218868437227405312 := by decide
  have hsw : double.signWeight = 9223372036854775808 := by decide
  have hlt : (L + 1022) * 4503599627370496 + k < 9218868437227405312 := by omega
  have hw : double.nearest false n 0 = (L + 1022) * 4503599627370496 + k := by
    unfold Format.nearest
    rw [if_neg hn, hlp, hbn, hir, ← hL]
    have e1 : max ((0 : Int) + (L : Int) - ((double.fractionBits : Nat) : Int)) (-1074) = (L : Int) - 52 := by
      rw [show ((double.fractionBits : Nat) : Int) = 52 by decide]; omega
    simp only [e1]
    rw [show ((L : Int) - 52 - 0).toNat = 0 by omega, show ((0 : Int) - ((L : Int) - 52)).toNat = 52 - L by omega, show ((L : Int) - 52 - -1074).toNat = L + 1022 by omega]
    have e2 : Toward.even.cut false (n <<< (52 - L)) 0 = k := by
      unfold Toward.cut
      simp only [Nat.zero_min, Nat.shiftLeft_zero, Nat.div_one, Nat.mod_one, Nat.mul_zero]
      rw [Nat.shiftLeft_eq, ← hk]
      simp
    rw [e2]
    simp only [Format.word, Bool.false_eq_true, if_false]
    exact Nat.min_eq_left (Nat.le_of_lt hlt)
  rw [hw]
  refine ⟨k, (L : Int) - 52, ?_, by omega, by rw [hk, show (-((L : Int) - 52)).toNat = 52 - L by omega]⟩
  unfold Format.read
  simp only [hsw, hbn, hir, hlp]
  rw [Nat.div_eq_of_lt (by omega), Nat.mod_eq_of_lt (by omega : (L + 1022) * 4503599627370496 + k < 9223372036854775808)]
  rw [if_neg (by omega), if_pos hlt]
  have d1 : ((L + 1022) * 4503599627370496 + k) % 4503599627370496 = k - 4503599627370496 := by omega
  have d2 : ((L + 1022) * 4503599627370496 + k) / 4503599627370496 = L + 1023 := by omega
  rw [d1, d2, show 4503599627370496 + (k - 4503599627370496) = k by omega, show (-1074 : Int) + ((L + 1023 - 1 : Nat) : Int) = (L : Int) - 52 by omega]
  rfl

/-- small whole numbers stand to each other as floating numbers as they do -/
theorem order_near (n m : Int) (hn : 0 ≤ n) (hn2 : n < 9007199254740992) (hm : 0 ≤ m) (hm2 : m < 9007199254740992) : FloatKind.f64.format.order (FloatKind.f64.nearest n) (FloatKind.f64.nearest m) = some (compare n m) := by
  obtain ⟨a, rfl⟩ := Int.eq_ofNat_of_zero_le hn
  obtain ⟨b, rfl⟩ := Int.eq_ofNat_of_zero_le hm
  have e : ∀ k : Nat, FloatKind.f64.nearest (k : Int) = double.nearest false k 0 := fun k => by
    unfold FloatKind.nearest FloatKind.encode Format.write
    simp only [Int.natAbs_natCast]
    rw [show decide ((k : Int) < 0) = false by simp]
    rfl
  rw [e, e]
  exact (tells_near a (by omega)).order (tells_near b (by omega))
theorem near_255 : FloatKind.f64.nearest 255 = 4643176031446892544 := by decide
end Go.Bw

/- Seat r1: the iterator over a map's keys. -/
namespace Go.Bw.R1
set_option maxRecDepth 5000
open Go Go.Proofs Go.RowKit Go.Shelf
attribute [local go_sem] Oper.semAt_some
set_option maxRecDepth 100000 in
set_option maxHeartbeats 2000000 in
theorem keys1_walk (l B off b2 off2 n cap : Nat) (v : Nat → Nat → Value) (J : Nat → World → Prop) (Jx : World → Prop) (hn : n ≤ 40000000000)
    (hc : ∀ i W, J i W → W.cell? ⟨B, off + 3, none⟩ = some (.slice (some ⟨b2, off2, none⟩) n cap))
    (hv : ∀ i W, J i W → ∀ j, j < n → ∀ q, q < 4 → W.cell? ⟨b2, off2 + j * 4 + q, none⟩ = some (v j q))
    (hd : ∀ i W, J i W → J i W.drew)
    (hY : ∀ k W, J k W → 2 * k + 1 < n → YieldAt Fence.wide 0 Tryz.prog l #[.agg #[v (2 * k) 0, v (2 * k) 1, v (2 * k) 2, v (2 * k) 3], .agg #[v (2 * k + 1) 0, v (2 * k + 1) 1, v (2 * k + 1) 2, v (2 * k + 1) 3]] W fun e W' => (e = .returned (.bool true) ∧ J (k + 1) W') ∨ (e = .returned (.bool false) ∧ Jx W'))
    (W : World) (h0 : J 0 W) : CallsIn Fence.wide 1 Tryz.prog 172 #[.func (.yield l) #[] #[], .pointer (some ⟨B, off, none⟩)] W fun e W' => (∃ v, e = .returned v) ∧ (J (n / 2) W' ∨ Jx W') := by
  refine callsIn_of_wp Tryz.func172 rfl trivial ?_ rfl
  simp only [Tryz.ntmps172, List.size_toArray, List.length_cons, List.length_nil, Nat.reduceAdd, Nat.reduceSub, Array.replicate_succ, Array.replicate_zero, List.push_toArray, List.append_toArray, List.nil_append, List.cons_append]
  gi_wp2
  gi_loopw [3] (fun iv wr => ∃ k i : Nat, i = 2 * k ∧ i ≤ n ∧ iv = .int .i64 i ∧ J k wr) (fun i _ => n + 2 - (intOf i).toNat)
  case atStart => exact ⟨0, 0, rfl, by omega, rfl, h0⟩
  case round =>
    obtain ⟨k, i, hik, hk, rfl, hJs⟩ := hrel
    have hcx := hc k wr hJs
    by_cases hlt : i + 1 < n
    · obtain ⟨fn, tmps, assign, body, hy, hR⟩ := hY k wr.drew (hd _ _ hJs) (by omega)
      rw [← hik] at hy
      have a0 := hv k wr hJs i (by omega) 0 (by omega)
      have a1 := hv k wr hJs i (by omega) 1 (by omega)
      have a2 := hv k wr hJs i (by omega) 2 (by omega)
      have a3 := hv k wr hJs i (by omega) 3 (by omega)
      have b0 := hv k wr hJs (i + 1) (by omega) 0 (by omega)
      have b1 := hv k wr hJs (i + 1) (by omega) 1 (by omega)
      have b2 := hv k wr hJs (i + 1) (by omega) 2 (by omega)
      have b3 := hv k wr hJs (i + 1) (by omega) 3 (by omega)
      simp only [Nat.add_zero] at a0 b0
      have hR' : RoundIn Fence.wide 0 Tryz.prog l fn tmps assign body wr.drew fun e W' => ∃ bb, e = .returned (.bool bb) ∧ ((bb = true ∧ J (k + 1) W') ∨ (bb = false ∧ Jx W')) := hR.mono (by
        rintro e W3 (⟨rfl, h⟩ | ⟨rfl, h⟩)
        · exact ⟨true, rfl, .inl ⟨rfl, h⟩⟩
        · exact ⟨false, rfl, .inr ⟨rfl, h⟩⟩)
      clear hR
      have c1 : (0 : Int) ≤ i := by omega
      have c2 : (i : Int) < n := by omega
      have c3 : (0 : Int) ≤ i + 1 := by omega
      have c4 : (i : Int) + 1 < n := by omega
      have c5 : (i : Int).toNat = i := by omega
      have c6 : ((i : Int) + 1).toNat = i + 1 := by omega
      have c7 : IntKind.i64.wrap ((i : Int) + 1) = i + 1 := Go.Bw.wrap_i64 (by omega) (by omega)
      have hik2 : 2 * k ≤ i ∧ i ≤ 2 * k := by omega
      clear hik
      gi_wp2
      gi_region_with (refine hR'.mono ?_; rintro _ W3 ⟨bb, rfl, hb⟩)
      all_goals (rcases hb with ⟨rfl, hJ3⟩ | ⟨rfl, hJx3⟩)
      all_goals first
        | (gi_wp2
           go_roundw
           case rel => exact ⟨k + 1, i + 2, by omega, by omega, by simp, hJ3⟩
           case measure => simp [intOf]; omega)
        | (gi_wp2
           refine bodyPost_ret (results_none rfl _ _ _) rfl ?_
           exact ⟨⟨_, rfl⟩, .inr hJx3⟩)
    · gi_wp2
      go_end0
      exact ⟨⟨_, rfl⟩, .inl (by have : n / 2 = k := by omega
                                rw [this]; exact hJs)⟩
set_option maxRecDepth 100000 in
set_option maxHeartbeats 2000000 in
theorem keys1_nil (l B off cap : Nat) (a : Option Addr) (J : Nat → World → Prop)
    (hc : ∀ i W, J i W → W.cell? ⟨B, off + 3, none⟩ = some (.slice a 0 cap))
    (W : World) (h0 : J 0 W) : CallsIn Fence.wide 1 Tryz.prog 172 #[.func (.yield l) #[] #[], .pointer (some ⟨B, off, none⟩)] W fun e W' => (∃ v, e = .returned v) ∧ J 0 W' := by
  refine callsIn_of_wp Tryz.func172 rfl trivial ?_ rfl
  simp only [Tryz.ntmps172, List.size_toArray, List.length_cons, List.length_nil, Nat.reduceAdd, Nat.reduceSub, Array.replicate_succ, Array.replicate_zero, List.push_toArray, List.append_toArray, List.nil_append, List.cons_append]
  gi_wp2
  gi_loopw [3] (fun iv wr => iv = .int .i64 0 ∧ J 0 wr) (fun i _ => 0)
  case atStart => exact ⟨rfl, h0⟩
  case round =>
    obtain ⟨rfl, hJs⟩ := hrel
    have hcx := hc 0 wr hJs
    gi_wp2
    go_end0
    exact ⟨⟨_, rfl⟩, hJs⟩

def pairsD : List D → List (List D)
  | a :: b :: r => [a, b] :: pairsD r
  | _ => []
theorem pairsD_len : ∀ l : List D, (pairsD l).length = l.length / 2
  | [] => rfl
  | [_] => by simp [pairsD]
  | a :: b :: r => by simp only [pairsD, List.length_cons, pairsD_len r]; omega
theorem pairsD_at : ∀ (l : List D) (i : Nat) (ys : List D), (pairsD l)[i]? = some ys → ∃ a b, l[2 * i]? = some a ∧ l[2 * i + 1]? = some b ∧ ys = [a, b]
  | [], i, ys, h => by simp [pairsD] at h
  | [_], i, ys, h => by simp [pairsD] at h
  | a :: b :: r, 0, ys, h => by simp only [pairsD, List.getElem?_cons_zero, Option.some.injEq] at h; exact ⟨a, b, rfl, rfl, h.symm⟩
  | a :: b :: r, i + 1, ys, h => by
    simp only [pairsD, List.getElem?_cons_succ] at h
    obtain ⟨x, y, h1, h2, h3⟩ := pairsD_at r i ys h
    exact ⟨x, y, by rw [show 2 * (i + 1) = (2 * i) + 1 + 1 by omega]; simpa using h1, by rw [show 2 * (i + 1) + 1 = (2 * i + 1) + 1 + 1 by omega]; simpa using h2, h3⟩
theorem pairsD_mem {l : List D} {ys : List D} (h : ys ∈ pairsD l) {y : D} (hy : y ∈ ys) : y ∈ l := by
  obtain ⟨i, hi⟩ := List.getElem?_of_mem h
  obtain ⟨a, b, h1, h2, rfl⟩ := pairsD_at l i ys hi
  rcases List.mem_cons.1 hy with rfl | hy
  · exact List.mem_of_getElem? h1
  · rcases List.mem_cons.1 hy with rfl | hy
    · exact List.mem_of_getElem? h2
    · cases hy

theorem flat_at {l : List D} {sz j q : Nat} {e : D} (hs : ∀ e ∈ l, e.cells.length = sz) (he : l[j]? = some e) (hq : q < sz) : (l.flatMap D.cells)[j * sz + q]? = e.cells[q]? := by
  induction l generalizing j with
  | nil => simp at he
  | cons a l ih =>
    cases j with
    | zero =>
      simp only [List.getElem?_cons_zero, Option.some.injEq] at he
      subst he
      rw [List.flatMap_cons, Nat.zero_mul, Nat.zero_add, List.getElem?_append_left (by rw [hs a (List.mem_cons_self ..)]; exact hq)]
    | succ j =>
      have ha := hs a (List.mem_cons_self ..)
      rw [List.flatMap_cons, List.getElem?_append_right (by rw [ha, Nat.succ_mul]; omega), ha, show (j + 1) * sz + q - sz = j * sz + q by rw [Nat.succ_mul]; omega]
      exact ih (fun e he' => hs e (List.mem_cons_of_mem _ he')) (by simpa using he)

theorem cell_of {W : World} {b o : Nat} {c : Array Value} {t : TypeId} {fz : Nat × Nat} (h : W.heap[b]? = some (.cells c t fz)) (ho : o < c.size) : W.cell? ⟨b, o, none⟩ = some (c.getD o undef) := by
  simp [World.cell?, h, Array.getD_eq_getD_getElem?, ho]

/-- what a map's keys hand on -/
theorem keys_iter (elems : List D) (hn : elems.length ≤ 40000000000) (h4 : ∀ e ∈ elems, e.free ∧ ∃ cs, e = .agg cs ∧ cs.length = 4) (x y z : D) (ex : Bool) :
    IterT Tryz.prog (.fn (.func 172) [] [.rp [x, y, z, .ro ex elems]]) (pairsD elems) := by
  refine ⟨172, _, rfl, by kernel_rfl, fun ys hys e he => (h4 e (pairsD_mem hys he)).1, fun g w cs himm hVL => ?_⟩
  obtain ⟨c0, rfl⟩ : ∃ c0, cs = #[c0] := by
    have := hVL.1
    simp only [List.length_cons, List.length_nil] at this
    exact ⟨cs[0], by apply Array.ext; simp [this]; intro i h1 h2; have : i = 0 := by omega
                     subst this; rfl⟩
  have hv0 := hVL.2 0 _ rfl
  simp only [Array.getD_eq_getD_getElem?, List.getElem?_toArray, List.getElem?_cons_zero, Option.getD_some] at hv0
  cases hv0 with
  | @rp _ B off c t fz hm hl hcell =>
    have hk := hcell 3 _ rfl
    simp only [List.length_cons, List.length_nil] at hl
    have hkc : ∀ W : World, (∀ b o, g.m b = some o → W.heap[b]? = some o) → W.cell? ⟨B, off + 3, none⟩ = some (c.getD (off + 3) undef) := fun W hW => cell_of (hW _ _ hm) (by omega)
    generalize hsv : c.getD (off + 3) undef = sv at hk hkc
    have nilcase : ∀ (a : Option Addr) (cap : Nat), sv = .slice a 0 cap → elems = [] → ∃ vss : List (Array Value), vss.length = (pairsD elems).length ∧ (∀ (i : Nat) ys vs, (pairsD elems)[i]? = some ys → vss[i]? = some vs → VL g ys vs) ∧
        ∀ (l : Nat) (J : Nat → World → Prop) (Jx : World → Prop),
          (∀ i W, J i W → ∀ b o, g.m b = some o → W.heap[b]? = some o) → (∀ i W, J i W → J i W.drew) → (∀ W, Jx W → Jx W.drew) →
          (∀ (i : Nat) vs W, vss[i]? = some vs → J i W → YieldAt Fence.wide 0 Tryz.prog l vs W fun e W' => (e = .returned (.bool true) ∧ J (i + 1) W') ∨ (e = .returned (.bool false) ∧ Jx W')) →
          ∀ W, J 0 W → CallsIn Fence.wide 0 Tryz.prog 172 (#[.func (.yield l) #[] #[]] ++ #[.pointer (some ⟨B, off, none⟩)]) W fun e W' => (∃ v, e = .returned v) ∧ (J vss.length W' ∨ Jx W') := by
      rintro a cap rfl rfl
      refine ⟨[], rfl, fun i ys vs h => by simp [pairsD] at h, fun l J Jx hJ _ _ _ W h0 => ?_⟩
      refine (callsIn_wide (n := 0)).2 ((callsIn_wide (n := 1)).1 ((keys1_nil l B off cap a J (fun i W h => hkc W (hJ i W h)) W h0).mono ?_))
      exact fun e W' h => ⟨h.1, .inl h.2⟩
    cases hk with
    | roNil => exact nilcase none 0 rfl rfl
    | roNone h1 h2 => exact nilcase _ _ rfl rfl
    | @ro _ _ b2 off2 cap sz c2 t2 fz2 hm2 hs hl2 hcap hx he hcells =>
      have hsz : elems ≠ [] → sz = 4 := fun hne => by
        obtain ⟨e, r, rfl⟩ := List.exists_cons_of_ne_nil hne
        obtain ⟨_, cs, rfl, hcs⟩ := h4 e (List.mem_cons_self ..)
        have := hs _ (List.mem_cons_self ..)
        simp only [D.cells] at this
        omega
      have hval : ∀ j e, elems[j]? = some e → ∀ q, q < 4 → ∀ d, e.cells[q]? = some d → V g d (c2.getD (off2 + (j * 4 + q)) undef) := fun j e he q hq d hd => by
        obtain rfl : sz = 4 := hsz (by rintro rfl; simp at he)
        exact hcells _ _ (by rw [flat_at hs he hq]; exact hd)
      have hc2 : ∀ W : World, (∀ b o, g.m b = some o → W.heap[b]? = some o) → ∀ j, j < elems.length → ∀ q, q < 4 → W.cell? ⟨b2, off2 + j * 4 + q, none⟩ = some (c2.getD (off2 + (j * 4 + q)) undef) := fun W hW j hj q hq => by
        obtain rfl : sz = 4 := hsz (by rintro rfl; simp at hj)
        rw [Nat.add_assoc]
        exact cell_of (hW _ _ hm2) (by omega)
      refine ⟨(List.range (elems.length / 2)).map fun k => #[.agg #[c2.getD (off2 + (2 * k * 4 + 0)) undef, c2.getD (off2 + (2 * k * 4 + 1)) undef, c2.getD (off2 + (2 * k * 4 + 2)) undef, c2.getD (off2 + (2 * k * 4 + 3)) undef],
        .agg #[c2.getD (off2 + ((2 * k + 1) * 4 + 0)) undef, c2.getD (off2 + ((2 * k + 1) * 4 + 1)) undef, c2.getD (off2 + ((2 * k + 1) * 4 + 2)) undef, c2.getD (off2 + ((2 * k + 1) * 4 + 3)) undef]], by simp [pairsD_len], ?_, ?_⟩
      · intro i ys vs hys hvs
        obtain ⟨a, b, ha, hb, rfl⟩ := pairsD_at elems i ys hys
        obtain ⟨_, ca, rfl, hca⟩ := h4 a (List.mem_of_getElem? ha)
        obtain ⟨_, cb, rfl, hcb⟩ := h4 b (List.mem_of_getElem? hb)
        simp only [List.getElem?_map, Option.map_eq_some_iff] at hvs
        obtain ⟨k, hk, rfl⟩ := hvs
        obtain rfl : k = i := by
          obtain ⟨hlt, hh⟩ := List.getElem?_eq_some_iff.1 hk
          simpa using hh.symm
        have one : ∀ (j : Nat) (cs : List D), elems[j]? = some (.agg cs) → cs.length = 4 → V g (.agg cs) (.agg #[c2.getD (off2 + (j * 4 + 0)) undef, c2.getD (off2 + (j * 4 + 1)) undef, c2.getD (off2 + (j * 4 + 2)) undef, c2.getD (off2 + (j * 4 + 3)) undef]) := fun j cs hj hcs => by
          refine .agg (by simp [hcs]) fun q d hd => ?_
          have hq : q < 4 := by rw [← hcs]; exact (List.getElem?_eq_some_iff.1 hd).1
          have := hval j _ hj q hq d (by simpa using hd)
          match q, hq with
          | 0, _ => exact this
          | 1, _ => exact this
          | 2, _ => exact this
          | 3, _ => exact this
        refine ⟨rfl, fun q d hd => ?_⟩
        match q with
        | 0 => simp only [List.getElem?_cons_zero, Option.some.injEq] at hd; subst hd; exact one _ _ ha hca
        | 1 => simp only [List.getElem?_cons_succ, List.getElem?_cons_zero, Option.some.injEq] at hd; subst hd; exact one _ _ hb hcb
        | q + 2 => simp at hd
      · intro l J Jx hJ hJd _ hY W h0
        refine (callsIn_wide (n := 0)).2 ((callsIn_wide (n := 1)).1 ((keys1_walk l B off b2 off2 elems.length cap (fun j q => c2.getD (off2 + (j * 4 + q)) undef) J Jx hn (fun i W h => hkc W (hJ i W h)) (fun i W h => hc2 W (hJ i W h)) hJd (fun k W hj hlt => hY k _ W (by simp [List.getElem?_range, show k < elems.length / 2 by omega]) hj) W h0).mono ?_))
        exact fun e W' h => ⟨h.1, by simpa using h.2⟩
open Classical in
/-- the iterators of this seat -/
noncomputable def keysIt : D → Option (List (List D))
  | .fn (.func f) [] [.rp [_, _, _, .ro _ elems]] => if f = 172 ∧ elems.length ≤ 40000000000 ∧ ∀ e ∈ elems, e.free ∧ ∃ cs, e = .agg cs ∧ cs.length = 4 then some (pairsD elems) else none
  | _ => none
theorem keysIt_sound : SoundI Tryz.prog keysIt := fun d yss h => by
  unfold keysIt at h
  split at h
  · split at h
    · rename_i hc
      simp only [Option.some.injEq] at h
      subst h
      obtain ⟨rfl, h1, h2⟩ := hc
      exact keys_iter _ h1 h2 _ _ _ _
    · cases h
  · cases h
end Go.Bw.R1

/- The iterator over a slice from its end. -/
namespace Go.Bw.R1
set_option maxRecDepth 5000
open Go Go.Proofs Go.RowKit Go.Shelf
attribute [local go_sem] Oper.semAt_some
end Go.Bw.R1

/- Seat r1: the evaluator's table; values. -/
namespace Go.Bw.R1
set_option maxRecDepth 5000
open Go Go.Bw Go.Proofs
def An1Tab : List (Nat × AnnB) := [
  (2, ⟨[], [], [], false, []⟩),
  (3, ⟨[], [], [(1, [(0, 0, false), (1, 0, false), (2, 0, false), (3, 0, true), (5, 0, false), (6, 0, false), (7, 0, false), (8, 0, true), (10, 0, true), (4, 1, false), (9, 0, false), (11, 0, true)])], false, []⟩),
  (4, ⟨[2], [(0, [1, 5, 7, 8, 9])], [], false, []⟩),
  (5, ⟨[], [], [], false, []⟩),
  (6, ⟨[], [], [], false, [(10, [44])]⟩),
  (7, ⟨[13, 14], [], [], false, []⟩),
  (8, ⟨[2], [], [], false, []⟩),
  (9, ⟨[], [], [], true, []⟩),
  (10, ⟨[], [], [(7, [(0, 0, false), (5, 0, false), (6, 0, false), (7, 0, true), (1, 0, false), (2, 0, false), (3, 0, false), (4, 0, false), (8, 1, false), (9, 1, false), (10, 0, true)])], true, [(4, [33])]⟩),
  (11, ⟨[], [], [], true, []⟩),
  (12, ⟨[], [], [], false, []⟩),
  (13, ⟨[1], [(0, [1, 2, 10, 11, 12])], [(7, [(0, 0, false), (1, 0, false), (2, 0, false), (3, 0, false), (4, 0, false), (5, 0, false), (6, 0, false), (7, 0, true), (8, 1, false)])], true, []⟩),
  (14, ⟨[], [], [], false, []⟩),
  (15, ⟨[], [], [(4, [(0, 0, false), (1, 0, false), (2, 0, false), (3, 0, false), (4, 0, false), (25, 0, false), (26, 0, true), (5, 0, false), (6, 0, false), (7, 0, false), (8, 0, false), (9, 0, false), (27, 1, false), (28, 0, true), (10, 0, false), (11, 0, false), (12, 0, false), (13, 0, false), (14, 0, false), (29, 2, false), (30, 0, true), (15, 0, false), (16, 0, false), (17, 0, false), (18, 0, false), (19, 0, false), (31, 3, false), (32, 0, true), (20, 0, false), (21, 0, false), (22, 0, false), (23, 0, false), (24, 0, false), (33, 4, false), (34, 0, true)])], true, []⟩),
  (16, ⟨[], [(1000000, [0, 1, 5, 6])], [(1, [(0, 0, false), (1, 0, false), (2, 0, false), (3, 0, false), (4, 0, false), (5, 0, false), (6, 0, false), (7, 0, false), (8, 0, false)])], false, []⟩),
  (17, ⟨[], [], [], true, []⟩),
  (18, ⟨[1], [], [], false, []⟩),
  (19, ⟨[], [], [], true, []⟩),
  (20, ⟨[], [(0, [0, 1, 4, 5])], [(4, [(0, 0, false), (1, 0, false), (2, 0, false), (3, 0, false), (4, 0, false), (5, 0, false), (6, 0, false), (7, 0, true)])], true, []⟩),
  (21, ⟨[], [], [], true, []⟩),
  (22, ⟨[], [], [(2, [(7, 0, false), (8, 0, true), (0, 0, false), (1, 0, false), (2, 0, false), (3, 0, false), (4, 0, false), (5, 0, false), (6, 0, false), (9, 1, false), (10, 0, true)])], false, []⟩),
  (23, ⟨[], [(0, [5, 6, 7])], [], false, []⟩),
  (24, ⟨[1], [], [(1, [(0, 0, false), (1, 0, false), (2, 0, false), (3, 0, false), (4, 0, false), (5, 0, false), (6, 0, false), (7, 0, false)])], true, []⟩),
  (25, ⟨[], [], [], true, []⟩),
  (26, ⟨[], [], [], false, []⟩),
  (27, ⟨[], [], [], false, []⟩),
  (28, ⟨[1], [], [], true, []⟩),
  (29, ⟨[], [], [], false, []⟩),
  (30, ⟨[1], [], [], true, []⟩),
  (31, ⟨[], [], [], true, []⟩),
  (32, ⟨[], [], [], false, []⟩),
  (33, ⟨[1], [], [], false, []⟩),
  (34, ⟨[], [], [], true, []⟩),
  (35, ⟨[], [], [], false, []⟩),
  (36, ⟨[1], [], [(1, [(0, 0, false), (1, 0, false), (2, 0, false), (3, 0, false), (4, 0, false), (5, 0, false), (6, 0, false), (7, 0, false)])], true, []⟩),
  (37, ⟨[], [], [], true, []⟩),
  (38, ⟨[], [], [], false, []⟩),
  (39, ⟨[2, 3], [], [], true, []⟩),
  (40, ⟨[], [], [], true, []⟩),
  (41, ⟨[1], [], [], true, []⟩),
  (42, ⟨[], [], [], false, []⟩),
  (43, ⟨[1], [], [], true, []⟩),
  (44, ⟨[1], [], [], false, []⟩),
  (45, ⟨[], [], [], true, []⟩),
  (46, ⟨[3], [], [], false, []⟩),
  (47, ⟨[], [], [], false, []⟩),
  (48, ⟨[], [], [], false, []⟩),
  (49, ⟨[1], [], [], false, []⟩),
  (50, ⟨[9], [], [], true, []⟩),
  (51, ⟨[], [], [], true, []⟩),
  (52, ⟨[], [], [], true, []⟩),
  (53, ⟨[], [(0, [2, 5, 6, 7])], [], true, []⟩),
  (54, ⟨[1], [], [(3, [(6, 0, true), (0, 0, false), (1, 0, false), (2, 0, false), (3, 0, false), (4, 0, false), (5, 0, false), (7, 0, true)]), (6, [(10, 0, true), (0, 0, false), (1, 0, false), (2, 0, false), (3, 0, false), (4, 0, false), (5, 0, false), (6, 0, false), (7, 0, false), (8, 0, false), (9, 0, false), (11, 0, true)])], true, []⟩),
  (55, ⟨[1], [], [], false, []⟩),
  (56, ⟨[], [], [], true, []⟩),
  (57, ⟨[2], [], [], false, []⟩),
  (58, ⟨[], [], [], false, []⟩),
  (59, ⟨[1], [], [], false, []⟩),
  (60, ⟨[3], [], [], false, []⟩),
  (61, ⟨[], [], [], false, []⟩),
  (62, ⟨[1], [], [], false, []⟩),
  (63, ⟨[], [], [], true, []⟩),
  (64, ⟨[3], [(4000000, [])], [(3, [(0, 0, false), (1, 0, false), (2, 0, true), (3, 0, false), (4, 1, false), (5, 0, false), (6, 0, false), (7, 0, false), (8, 0, true), (9, 2, false)])], false, []⟩),
  (65, ⟨[], [(0, [0, 1, 7, 8])], [], false, []⟩),
  (66, ⟨[1], [], [], false, []⟩),
  (67, ⟨[1], [], [], false, []⟩),
  (68, ⟨[1], [], [], false, []⟩),
  (69, ⟨[1], [], [], false, []⟩),
  (70, ⟨[1], [], [(1, [(0, 0, false), (1, 0, false), (2, 0, false), (3, 0, false), (4, 0, false), (5, 0, false), (6, 0, false), (7, 0, false), (8, 0, false), (9, 0, false), (10, 0, false), (11, 0, false), (12, 0, false), (13, 0, false), (14, 0, false), (15, 0, false), (16, 0, false), (17, 0, false), (18, 0, false), (19, 0, false), (20, 0, false), (21, 0, false), (22, 0, false), (23, 0, false), (24, 0, false), (25, 0, false), (26, 0, false), (27, 0, false), (28, 0, false), (29, 0, false)])], true, []⟩),
  (71, ⟨[], [], [], false, []⟩),
  (72, ⟨[1], [], [], false, []⟩),
  (73, ⟨[1], [], [(1, [(0, 0, false), (1, 0, false), (2, 0, false), (3, 0, false), (4, 0, false), (5, 0, false), (6, 0, false), (7, 0, false), (8, 0, false), (9, 0, false), (10, 0, false), (11, 0, false), (12, 0, false), (13, 0, false), (14, 0, false), (15, 0, false), (16, 0, false), (17, 0, false), (18, 0, false), (19, 0, false), (20, 0, false), (21, 0, false), (22, 0, false), (23, 0, false), (24, 0, false), (25, 0, false)])], true, []⟩),
  (74, ⟨[], [], [], false, []⟩),
  (75, ⟨[1], [], [], false, []⟩),
  (76, ⟨[1], [], [(1, [(0, 0, false), (1, 0, false), (2, 0, false), (3, 0, false), (4, 0, false), (5, 0, false), (6, 0, false), (7, 0, false), (8, 0, false), (9, 0, false), (10, 0, false), (11, 0, false), (12, 0, false), (13, 0, false), (14, 0, false), (15, 0, false), (16, 0, false), (17, 0, false), (18, 0, false), (19, 0, false), (20, 0, false), (21, 0, false), (22, 0, false), (23, 0, false), (24, 0, false), (25, 0, false), (26, 0, false), (27, 0, false), (28, 0, false), (29, 0, false), (30, 0, false), (31, 0, false), (32, 0, false), (33, 0, false), (34, 0, false), (35, 0, false), (36, 0, false), (37, 0, false), (38, 0, false), (39, 0, false), (40, 0, false), (41, 0, false), (42, 0, false)])], true, []⟩),
  (77, ⟨[], [], [], false, []⟩),
  (78, ⟨[1], [], [(3, [(0, 0, false), (1, 0, false), (6, 0, false), (7, 0, true), (2, 0, false), (3, 0, false), (8, 1, false), (9, 0, true), (4, 0, false), (5, 0, false), (10, 2, false), (11, 0, true)])], false, []⟩),
  (79, ⟨[1], [], [(2, [(0, 0, false), (1, 0, false), (2, 0, false), (3, 0, false), (4, 0, false), (5, 0, false), (6, 0, false), (7, 0, false), (8, 0, false), (9, 0, false), (10, 0, false), (11, 0, false), (12, 0, false), (13, 0, false), (14, 0, false), (15, 0, false), (16, 0, false), (17, 0, false), (18, 0, false), (19, 0, false), (20, 0, false), (21, 0, false), (22, 0, false), (23, 0, false), (24, 0, false), (25, 0, false), (26, 0, false), (27, 0, false), (28, 0, false), (29, 0, false), (30, 0, false), (31, 0, false), (32, 0, false), (33, 0, false)])], true, []⟩),
  (80, ⟨[], [], [], false, []⟩),
  (81, ⟨[1], [], [], false, []⟩),
  (82, ⟨[1], [], [(1, [(0, 0, false), (1, 0, false), (2, 0, false), (3, 0, false), (4, 0, false), (5, 0, false), (6, 0, false), (7, 0, false), (8, 0, false), (9, 0, false), (10, 0, false), (11, 0, false), (12, 0, false), (13, 0, false), (14, 0, false), (15, 0, false), (16, 0, false), (17, 0, false), (18, 0, false), (19, 0, false), (20, 0, false), (21, 0, false), (22, 0, false), (23, 0, false), (24, 0, false), (25, 0, false), (26, 0, false), (27, 0, false)])], true, []⟩),
  (83, ⟨[], [], [], false, []⟩),
  (84, ⟨[1], [], [], false, []⟩),
  (85, ⟨[1], [], [(1, [(0, 0, false), (1, 0, false), (2, 0, false), (3, 0, false), (4, 0, false), (5, 0, false), (6, 0, false), (7, 0, false), (8, 0, false), (9, 0, false), (10, 0, false), (11, 0, false), (12, 0, false), (13, 0, false), (14, 0, false), (15, 0, false), (16, 0, false), (17, 0, false), (18, 0, false), (19, 0, false), (20, 0, false), (21, 0, false), (22, 0, false), (23, 0, false)])], true, []⟩),
  (86, ⟨[], [], [], false, []⟩),
  (87, ⟨[1], [], [], false, []⟩),
  (88, ⟨[1], [], [(1, [(0, 0, false), (1, 0, false), (2, 0, false), (3, 0, false), (4, 0, false), (5, 0, false), (6, 0, false), (7, 0, false), (8, 0, false), (9, 0, false), (10, 0, false)])], true, []⟩),
  (89, ⟨[], [], [], false, []⟩),
  (90, ⟨[1], [], [], false, []⟩),
  (91, ⟨[1], [], [], true, []⟩),
  (92, ⟨[], [], [], false, []⟩),
  (93, ⟨[], [(0, [0]), (2, [3, 14, 15, 16])], [], true, [(8, [0])]⟩),
  (94, ⟨[5], [(4000000, [])], [], false, []⟩),
  (95, ⟨[], [(0, [0, 1, 5]), (4000000, [])], [(4, [(0, 0, false), (1, 0, false), (2, 0, true), (3, 0, false), (4, 0, false), (5, 0, false), (6, 0, false), (7, 0, true), (8, 2, false)])], false, []⟩),
  (96, ⟨[], [(0, [0, 12, 13, 14]), (2, [0, 4, 5, 12, 13, 14, 18, 19, 20])], [], false, []⟩),
  (97, ⟨[2], [(0, [1, 5, 9, 10, 11])], [], false, []⟩),
  (98, ⟨[], [], [], false, []⟩),
  (99, ⟨[], [], [], false, []⟩),
  (100, ⟨[], [], [], false, []⟩),
  (101, ⟨[1], [], [], false, []⟩),
  (102, ⟨[1], [], [], false, []⟩),
  (103, ⟨[1], [], [], false, []⟩),
  (104, ⟨[1], [], [], false, []⟩),
  (105, ⟨[2, 3], [], [(1, [(0, 0, false), (1, 0, false), (2, 0, false), (3, 0, false), (4, 0, false), (5, 0, false), (6, 0, false), (7, 0, false), (8, 0, false), (9, 0, false), (10, 0, false), (11, 0, false), (12, 0, false), (13, 0, false), (14, 0, false), (15, 0, false), (16, 0, false), (17, 0, false), (18, 0, false), (19, 0, false)])], false, []⟩),
  (106, ⟨[], [], [], false, []⟩),
  (107, ⟨[], [], [], true, []⟩),
  (108, ⟨[3], [], [], true, []⟩),
  (109, ⟨[], [], [], true, []⟩),
  (110, ⟨[], [], [], false, []⟩),
  (111, ⟨[], [(0, [0, 1, 8, 9, 10])], [], false, []⟩),
  (112, ⟨[], [], [], false, []⟩),
  (113, ⟨[], [], [], false, []⟩),
  (114, ⟨[], [(0, [0, 3, 9, 10, 11])], [], false, []⟩),
  (115, ⟨[], [], [], true, []⟩),
  (116, ⟨[], [], [], true, []⟩),
  (117, ⟨[], [(0, [0, 2, 3, 6, 7, 8])], [(5, [(0, 0, false), (1, 0, false), (2, 0, false), (3, 0, false), (4, 0, false), (5, 0, false), (6, 0, false), (7, 0, false), (8, 0, true), (9, 1, false)])], true, []⟩),
  (118, ⟨[], [], [], false, []⟩),
  (119, ⟨[], [], [], false, []⟩),
  (120, ⟨[], [], [], false, []⟩),
  (121, ⟨[2], [], [(7, [(0, 0, false), (1, 0, false), (2, 0, false), (3, 0, false), (4, 0, false), (5, 0, false), (6, 0, false), (7, 0, false), (8, 0, true), (9, 0, true)])], true, []⟩),
  (122, ⟨[], [], [], true, []⟩),
  (123, ⟨[], [], [], false, []⟩),
  (124, ⟨[1], [], [], false, []⟩),
  (125, ⟨[1], [], [], true, []⟩),
  (126, ⟨[], [], [], false, []⟩),
  (127, ⟨[], [], [], false, []⟩),
  (128, ⟨[], [], [], true, []⟩),
  (129, ⟨[], [], [], false, []⟩),
  (130, ⟨[], [(0, [1, 7, 8])], [], false, []⟩),
  (131, ⟨[], [], [], false, []⟩),
  (132, ⟨[1], [(1, [2, 14, 15, 16]), (3, [2, 6, 40, 41, 42])], [], false, []⟩),
  (133, ⟨[], [], [], true, []⟩),
  (134, ⟨[], [(0, [0, 1, 7, 8])], [], false, []⟩),
  (135, ⟨[], [], [], false, []⟩),
  (136, ⟨[], [], [], false, []⟩),
  (137, ⟨[], [], [], false, []⟩),
  (138, ⟨[1], [], [(6, [(0, 0, false), (1, 0, false), (2, 0, false), (3, 0, false), (4, 0, true), (5, 1, false), (6, 0, true), (7, 0, true)]), (1000006, [(6, 7, false), (0, 0, false), (1, 0, false), (2, 0, false), (3, 0, false), (4, 0, true), (5, 1, false), (7, 0, true), (6, 0, true)])], false, [(3, [4])]⟩),
  (139, ⟨[2], [], [(1, [(0, 0, false), (1, 0, false), (2, 0, false), (3, 0, false), (4, 0, false), (5, 0, false), (6, 0, false), (7, 0, false)])], false, []⟩),
  (140, ⟨[2, 3], [], [(3, [(0, 0, false), (1, 0, false), (2, 0, false), (3, 0, false), (4, 0, false), (5, 0, false), (6, 0, false), (7, 0, false), (8, 0, false), (9, 0, false), (10, 0, false), (11, 0, false), (12, 0, false), (13, 0, false), (14, 0, false), (15, 0, false), (16, 0, false), (17, 0, false), (18, 0, false), (19, 0, false), (20, 0, false)])], false, []⟩),
  (141, ⟨[1], [], [], false, []⟩),
  (142, ⟨[], [(0, [0, 1, 12, 13])], [(6, [(0, 0, false), (1, 0, false), (2, 0, false), (3, 0, false), (4, 0, false), (5, 0, false), (6, 0, false), (7, 0, false), (8, 0, false)])], false, []⟩),
  (143, ⟨[], [(0, [0, 1, 12, 13])], [(6, [(0, 0, false), (1, 0, false), (2, 0, false), (3, 0, false), (4, 0, false), (5, 0, false), (6, 0, false), (7, 0, false), (8, 0, false)])], false, []⟩),
  (144, ⟨[], [], [], false, []⟩),
  (145, ⟨[], [], [], false, []⟩),
  (146, ⟨[], [], [], true, [(1, [5])]⟩),
  (147, ⟨[], [], [], false, []⟩),
  (148, ⟨[2, 3], [], [], true, []⟩),
  (149, ⟨[1], [(0, [1, 2, 3, 12, 13, 14]), (1000000, [1, 2, 3])], [], false, []⟩),
  (150, ⟨[], [], [], false, []⟩),
  (151, ⟨[1], [], [], false, []⟩),
  (152, ⟨[1], [], [], false, []⟩),
  (153, ⟨[1], [], [], false, []⟩),
  (154, ⟨[1], [], [], false, []⟩),
  (155, ⟨[1], [], [], false, []⟩),
  (156, ⟨[1], [], [], false, []⟩),
  (157, ⟨[1], [], [], false, []⟩),
  (158, ⟨[1], [], [(1, [(3, 0, false), (4, 0, true), (0, 0, false), (1, 0, false), (2, 0, false), (5, 1, false), (6, 1, false), (7, 0, false), (8, 1, false)])], false, []⟩),
  (159, ⟨[], [(0, [0, 4])], [], true, []⟩),
  (160, ⟨[1], [], [], true, []⟩),
  (161, ⟨[2], [], [], false, []⟩),
  (162, ⟨[2, 3], [], [], false, []⟩),
  (163, ⟨[], [(0, [0, 1, 7, 8])], [], false, []⟩),
  (164, ⟨[2], [], [], false, []⟩),
  (165, ⟨[2], [], [], false, []⟩),
  (166, ⟨[], [], [], true, []⟩),
  (167, ⟨[2], [(0, [3, 13, 14, 15])], [], true, []⟩),
  (168, ⟨[], [(0, [0, 1, 2, 4])], [(3, [(0, 0, false), (1, 0, false), (2, 0, false), (3, 0, false), (4, 0, false), (5, 0, false), (6, 0, false)])], false, []⟩),
  (169, ⟨[], [], [], false, []⟩),
  (170, ⟨[], [], [], false, []⟩),
  (171, ⟨[], [(1000000, [0, 4, 5, 7])], [], false, []⟩),
  (172, ⟨[], [(0, [0, 1, 3])], [(3, [(0, 0, false), (1, 0, false), (2, 0, false), (3, 0, false), (4, 0, false), (5, 0, false), (6, 0, false), (7, 0, false), (8, 0, false), (9, 0, false), (10, 0, false), (11, 0, false), (12, 0, false), (13, 0, false)])], false, []⟩),
  (173, ⟨[], [(0, [1, 2, 15, 16, 17])], [], false, []⟩),
  (174, ⟨[], [], [], false, []⟩),
  (175, ⟨[], [], [], false, []⟩),
  (197, ⟨[], [], [], false, []⟩)]
noncomputable def An1Its (f : FuncId) : D → Option (List (List D)) := (look [(138, keysIt)] f).getD noIt
noncomputable def An1 (f : FuncId) : Ann := ((look An1Tab f).getD ⟨[], [], [], false, []⟩).with (An1Its f)

theorem an1_its : ∀ f, SoundI Tryz.prog (An1 f).its := fun f => by
  show SoundI Tryz.prog (An1Its f)
  unfold An1Its
  simp only [look]
  repeat' split
  all_goals first | exact keysIt_sound | exact soundI_no
def gl0 : Nat → D := fun i => if i = 0 then .rp [codesD] else .undef
/-- what is shown beside: slices.Clone of what was read as empty -/
def cloneO : List D → Sto → Option (R × Sto)
  | [.ro false []], [] => some (.ret (.ro false []), [])
  | _, _ => none
def X1 : Orc := fun f ds es => if f = 14 then cloneO ds es else none
noncomputable abbrev EV : Orc := ev Tryz.prog gl0 An1 [] X1
abbrev I (n : Int) : D := .sc (.int .i64 n)
abbrev B (b : Bool) : D := .sc (.bool b)

/-- a value of the type system -/
inductive Val where
  | mk (kind num : Int) (text : ByteArray) (kids : List Val)
  deriving Inhabited

mutual
def Val.d : Val → D
  | .mk k n t l => .agg [.sc (.int .u8 k), .sc (.int .u64 n), .sc (.string t), .ro false (Val.dL l)]
def Val.dL : List Val → List D
  | [] => []
  | v :: l => v.d :: Val.dL l
end
theorem Val.dL_map : ∀ l, Val.dL l = l.map Val.d
  | [] => rfl
  | v :: l => by rw [Val.dL, Val.dL_map l]; rfl
mutual
theorem Val.refs : ∀ v : Val, v.d.refs = []
  | .mk k n t l => by simp only [Val.d, D.refs, D.refsL, Val.refsL l, List.append_nil]
theorem Val.refsL : ∀ l : List Val, D.refsL (Val.dL l) = []
  | [] => rfl
  | v :: l => by simp only [Val.dL, D.refsL, Val.refs v, Val.refsL l, List.append_nil]
end
theorem Val.refsM (l : List Val) : D.refsL (l.map Val.d) = [] := by rw [← Val.dL_map]; exact Val.refsL l
mutual
theorem Val.can : ∀ v : Val, v.d.can = v.d
  | .mk k n t l => by simp only [Val.d, D.can, D.canL, Val.canL l]
theorem Val.canL : ∀ l : List Val, D.canL (Val.dL l) = Val.dL l
  | [] => rfl
  | v :: l => by simp only [Val.dL, D.canL, Val.can v, Val.canL l]
end
theorem Val.canM (l : List Val) : D.canL (l.map Val.d) = l.map Val.d := by rw [← Val.dL_map]; exact Val.canL l
theorem Val.canA (v : Val) : v.d.canA = v.d := by have := Val.can v; cases v; exact this
def Val.kind : Val → Int | .mk k _ _ _ => k
def Val.num : Val → Int | .mk _ n _ _ => n
def Val.text : Val → ByteArray | .mk _ _ t _ => t
def Val.kids : Val → List Val | .mk _ _ _ l => l
theorem Val.kind_mk (k n : Int) (t : ByteArray) (l : List Val) : (Val.mk k n t l).kind = k := rfl
theorem Val.num_mk (k n : Int) (t : ByteArray) (l : List Val) : (Val.mk k n t l).num = n := rfl
theorem Val.text_mk (k n : Int) (t : ByteArray) (l : List Val) : (Val.mk k n t l).text = t := rfl
theorem Val.kids_mk (k n : Int) (t : ByteArray) (l : List Val) : (Val.mk k n t l).kids = l := rfl
theorem Val.eta (v : Val) : Val.mk v.kind v.num v.text v.kids = v := by cases v; rfl
theorem Val.cells (v : Val) : v.d.cells = [.sc (.int .u8 v.kind), .sc (.int .u64 v.num), .sc (.string v.text), .ro false (v.kids.map Val.d)] := by cases v; simp only [Val.d, Val.dL_map]; rfl
/-- its cells -/
abbrev Val.cs (v : Val) : List D := [.sc (.int .u8 v.kind), .sc (.int .u64 v.num), .sc (.string v.text), .ro false (v.kids.map Val.d)]
theorem Val.fold (k n : Int) (t : ByteArray) (l : List Val) : D.agg [.sc (.int .u8 k), .sc (.int .u64 n), .sc (.string t), .ro false (l.map Val.d)] = (Val.mk k n t l).d := by simp only [Val.d, Val.dL_map]
theorem Val.fold0 (k n : Int) (t : ByteArray) : D.agg [.sc (.int .u8 k), .sc (.int .u64 n), .sc (.string t), .ro false []] = (Val.mk k n t []).d := by simp only [Val.d, Val.dL]
theorem Val.fold1 (k n : Int) (t : ByteArray) (a : Val) : D.agg [.sc (.int .u8 k), .sc (.int .u64 n), .sc (.string t), .ro false [a.d]] = (Val.mk k n t [a]).d := Val.fold k n t [a]
theorem Val.fold2 (k n : Int) (t : ByteArray) (a b : Val) : D.agg [.sc (.int .u8 k), .sc (.int .u64 n), .sc (.string t), .ro false [a.d, b.d]] = (Val.mk k n t [a, b]).d := Val.fold k n t [a, b]
theorem Val.fold3 (k n : Int) (t : ByteArray) (a b c : Val) : D.agg [.sc (.int .u8 k), .sc (.int .u64 n), .sc (.string t), .ro false [a.d, b.d, c.d]] = (Val.mk k n t [a, b, c]).d := Val.fold k n t [a, b, c]
theorem Val.fold4 (k n : Int) (t : ByteArray) (a b c d : Val) : D.agg [.sc (.int .u8 k), .sc (.int .u64 n), .sc (.string t), .ro false [a.d, b.d, c.d, d.d]] = (Val.mk k n t [a, b, c, d]).d := Val.fold k n t [a, b, c, d]
theorem Val.fold5 (k n : Int) (t : ByteArray) (a b c d e : Val) : D.agg [.sc (.int .u8 k), .sc (.int .u64 n), .sc (.string t), .ro false [a.d, b.d, c.d, d.d, e.d]] = (Val.mk k n t [a, b, c, d, e]).d := Val.fold k n t [a, b, c, d, e]
theorem Val.fold6 (k n : Int) (t : ByteArray) (a b c d e f : Val) : D.agg [.sc (.int .u8 k), .sc (.int .u64 n), .sc (.string t), .ro false [a.d, b.d, c.d, d.d, e.d, f.d]] = (Val.mk k n t [a, b, c, d, e, f]).d := Val.fold k n t [a, b, c, d, e, f]
theorem can_bytes (ex : Bool) (s : ByteArray) : (D.ro ex (bytesD s)).can = .ro false (bytesD s) := by
  simp only [D.can, D.canL_map, bytesD, List.map_map]; rfl
theorem canA_bytes (ex : Bool) (s : ByteArray) : (D.ro ex (bytesD s)).canA = .ro false (bytesD s) := can_bytes ex s
attribute [go_sem] Val.refs Val.refsM Val.can Val.canM Val.canA Val.kind_mk Val.num_mk Val.text_mk Val.kids_mk Val.eta Val.cells Val.fold Val.fold0 Val.fold1 Val.fold2 Val.fold3 Val.fold4 Val.fold5 Val.fold6 can_bytes canA_bytes
theorem bsl : ByteSl Tryz.prog 23 23 5 := ⟨el23, ze5, by5, ii23, by rw [Tryz.underlying23]; rfl⟩
theorem bsl' : ByteSlX Tryz.prog 23 23 := ⟨5, bsl⟩
attribute [go_sem] bsl'
end Go.Bw.R1

namespace Go.Bw.R1
set_option maxRecDepth 5000
open Go Go.Bw Go.Proofs

mutual
def Val.sz : Val → Nat
  | .mk _ _ t l => t.size + Val.szL l + 1
def Val.szL : List Val → Nat
  | [] => 0
  | v :: l => v.sz + Val.szL l
end
theorem Val.sz_eq (v : Val) : v.sz = v.text.size + Val.szL v.kids + 1 := by cases v; rfl
mutual
def same : Val → Val → Bool
  | .mk k n t l, .mk k' n' t' l' => k == k' && (n == n' && (decide (t = t') && sameL l l'))
def sameL : List Val → List Val → Bool
  | [], [] => true
  | a :: l, b :: m => same a b && sameL l m
  | _, _ => false
end
theorem same_eq (a b : Val) : same a b = (a.kind == b.kind && (a.num == b.num && (decide (a.text = b.text) && sameL a.kids b.kids))) := by cases a; cases b; simp only [same]; rfl
theorem szL_len : ∀ l : List Val, l.length ≤ Val.szL l
  | [] => Nat.le_refl _
  | v :: l => by have := szL_len l; have : 1 ≤ v.sz := by cases v; simp [Val.sz]
                 simp [Val.szL]; omega
theorem szL_mem : ∀ {l : List Val} {i : Nat} {x : Val}, l[i]? = some x → x.sz ≤ Val.szL l
  | [], i, x, h => by simp at h
  | v :: l, 0, x, h => by simp at h; subst h; simp [Val.szL]
  | v :: l, i + 1, x, h => by have := szL_mem (l := l) (i := i) (by simpa using h); simp [Val.szL]; omega
theorem sameL_len : ∀ {l m : List Val}, l.length ≠ m.length → sameL l m = false
  | [], [], h => absurd rfl h
  | a :: l, b :: m, h => by simp only [sameL]; rw [sameL_len (by simpa using h)]; simp
  | [], _ :: _, h => by simp [sameL]
  | _ :: _, [], h => by simp [sameL]
theorem sameL_drop {i : Nat} {l m : List Val} {x y : Val} (h1 : l[i]? = some x) (h2 : m[i]? = some y) : sameL (l.drop i) (m.drop i) = (same x y && sameL (l.drop (i + 1)) (m.drop (i + 1))) := by
    obtain ⟨p1, q1⟩ := List.getElem?_eq_some_iff.1 h1
    obtain ⟨p2, q2⟩ := List.getElem?_eq_some_iff.1 h2
    rw [List.drop_eq_getElem_cons p1, List.drop_eq_getElem_cons p2, sameL, q1, q2]
theorem sameL_end {i : Nat} {l m : List Val} (h1 : l.length ≤ i) (h2 : m.length ≤ i) : sameL (l.drop i) (m.drop i) = true := by
  rw [List.drop_eq_nil_of_le h1, List.drop_eq_nil_of_le h2]; rfl
theorem txt_eq (s t : ByteArray) : (s.toList == t.toList) = decide (s = t) := by
  rw [Bool.eq_iff_iff]
  simp only [beq_iff_eq, decide_eq_true_eq]
  constructor
  · intro h
    rw [ByteArray.toList_eq, ByteArray.toList_eq] at h
    exact ByteArray.ext (Array.toList_inj.1 h)
  · rintro rfl; rfl
attribute [go_sem] txt_eq
end Go.Bw.R1

namespace Go.Bw.R1
set_option maxRecDepth 5000
open Go Go.Bw Go.Proofs

theorem number_c (k n : Int) : EV 25 [.sc (.int .u8 k), .sc (.int .u64 n)] [] = some (.ret (Val.mk k n ⟨#[]⟩ []).d, []) := by
  refine (ev_body ⟨[], [], [], true, [], noIt⟩ [.cell 4 49] rfl Tryz.func25 rfl rfl rfl (by kernel_rfl) (by show 2 ≤ 8; decide) (by kernel_rfl)).trans ?_
  simp +contextual (maxSteps := 10000000) only [go_sem]
theorem text_c (k : Int) (s : ByteArray) : EV 45 [.sc (.int .u8 k), .sc (.string s)] [] = some (.ret (Val.mk k 0 s []).d, []) := by
  refine (ev_body ⟨[], [], [], true, [], noIt⟩ [.cell 4 49] rfl Tryz.func45 rfl rfl rfl (by kernel_rfl) (by show 2 ≤ 8; decide) (by kernel_rfl)).trans ?_
  simp +contextual (maxSteps := 10000000) only [go_sem]
theorem null_c : EV 21 [] [] = some (.ret (Val.mk 1 0 ⟨#[]⟩ []).d, []) := by
  refine (ev_body ⟨[], [], [], true, [], noIt⟩ [.cell 0 49] rfl Tryz.func21 rfl rfl rfl (by kernel_rfl) (by show 0 ≤ 2; decide) (by kernel_rfl)).trans ?_
  simp +contextual (maxSteps := 10000000) only [go_sem]
theorem bool_c (b : Bool) : EV 52 [B b] [] = some (.ret (Val.mk 2 (if b then 1 else 0) ⟨#[]⟩ []).d, []) := by
  refine (ev_body ⟨[], [], [], true, [], noIt⟩ [.cell 2 49] rfl Tryz.func52 rfl rfl rfl (by kernel_rfl) (by show 1 ≤ 8; decide) (by kernel_rfl)).trans ?_
  simp +contextual (maxSteps := 10000000) only [go_sem]
  cases b <;> rfl

theorem valOk : EncOk Val.d 4 := ⟨fun x => by rw [Val.cells]; rfl, by omega, Val.refs, Val.can, fun x => by rw [Val.cells]; rfl, fun x => by rw [Val.cells, if_pos (by decide), Val.fold, Val.eta]⟩
theorem rowV_snoc (l : List Val) (x : Val) : rowE Val.d l ++ [.sc (.int .u8 x.kind), .sc (.int .u64 x.num), .sc (.string x.text), .ro false (x.kids.map Val.d)] = rowE Val.d (l ++ [x]) := by rw [← rowE_snoc, Val.cells]
theorem rowV_one (x : Val) : [.sc (.int .u8 x.kind), .sc (.int .u64 x.num), .sc (.string x.text), .ro false (x.kids.map Val.d)] = rowE Val.d [x] := by rw [← Val.cells]; exact rowE_one x
theorem rowV_refs (l : List Val) : D.refsL (rowE Val.d l) = [] := valOk.row_refs l
theorem fin_vals (l : List Val) : (frzN (stoE Val.d l) (fromB 0) 20 (accE 4 l)).can = .ro false (l.map Val.d) := fin_acc valOk l 19
attribute [go_sem] rowV_refs fin_vals List.take_length

set_option maxHeartbeats 1000000 in
theorem copies_of (l : List Val) (hl : l.length ≤ 40000000000) (hc : ∀ x ∈ l, EV 51 [x.d] [] = some (.ret x.d, [])) : EV 53 [.ro false (l.map Val.d)] [] = some (.ret (.ro false (l.map Val.d)), []) := by
  refine (ev_body ⟨[], [(0, [2, 5, 6, 7])], [], true, [], noIt⟩ [.tmp 2] rfl Tryz.func53 rfl rfl rfl (by kernel_rfl) (by show 1 ≤ 18; decide) (by kernel_rfl)).trans ?_
  simp +contextual (maxSteps := 10000000) only [go_sem]
  refine lpK_inv (fun m0 f es => ∃ (i : Nat) (j : Int) (A : D), j = i ∧ A = accE 4 (l.take i) ∧ m0 = l.length - i ∧ i ≤ l.length ∧ f = [(2, A), (5, .ro false (l.map Val.d)), (6, I l.length), (7, I j)] ∧ es = stoE Val.d (l.take i)) l.length ⟨0, _, _, rfl, rfl, rfl, Nat.zero_le _, rfl, rfl⟩ ?_
  rintro _ _ _ ⟨i, _, _, rfl, rfl, rfl, hi, rfl, rfl⟩ ih
  rcases Nat.lt_or_ge i l.length with hlt | hge
  · obtain ⟨x, hx⟩ : ∃ x, l[i]? = some x := ⟨_, List.getElem?_eq_getElem hlt⟩
    have hcx := hc x (List.mem_of_getElem? hx)
    have hlt' : decide ((i : Int) < l.length) = true := by simpa using hlt
    have hsn := take_snoc hx
    rcases Nat.eq_zero_or_pos i with rfl | hpos
    · simp only [List.take_zero, accE, stoE]
      have hlt0 : decide ((0 : Int) < l.length) = true := by simpa using hlt
      simp +contextual (maxSteps := 10000000) only [go_sem, hx, hcx, hlt0, wrap_i64 (n := 1) (by omega) (by omega)]
      refine ih (l.length - 1) _ _ (by omega) ⟨1, _, _, rfl, ?_, rfl, hlt, rfl, ?_⟩
      · rw [hsn]; rfl
      · rw [hsn, rowV_one]; rfl
    · obtain ⟨y, t, ht, hlen⟩ := take_cons hi hpos
      simp only [ht, accE, stoE, hlen]
      have hb : (i + 1) * 56 ≤ 140737488355328 := by omega
      have hr := valOk.row_len (y :: t)
      rw [hlen] at hr
      simp +contextual (maxSteps := 10000000) only [go_sem, hx, hcx, hlt', hb, hr, wrap_i64 (n := (i : Int) + 1) (by omega) (by omega)]
      refine ih (l.length - (i + 1)) _ _ (by omega) ⟨i + 1, _, _, by omega, ?_, rfl, hlt, rfl, ?_⟩
      · rw [hsn, ht]; simp only [List.cons_append, accE, List.length_cons, List.length_append, List.length_nil] at hlen ⊢; simp only [← hlen]
      · rw [hsn, ht, rowV_snoc]; rfl
  · have hlt' : decide ((i : Int) < l.length) = false := by simpa using hge
    obtain rfl : i = l.length := by omega
    simp +contextual (maxSteps := 10000000) only [go_sem, hlt']
theorem szL_in {l : List Val} {x : Val} (h : x ∈ l) : x.sz ≤ Val.szL l := by
  obtain ⟨i, hi⟩ := List.getElem?_of_mem h
  exact szL_mem hi
theorem copy_c : ∀ (n : Nat) (v : Val), v.sz ≤ n → n ≤ 40000000000 → EV 51 [v.d] [] = some (.ret v.d, [])
  | 0, .mk .., h, _ => by simp [Val.sz] at h
  | n + 1, v, hn, hs => by
    rw [Val.sz_eq] at hn
    have hl := szL_len v.kids
    have hc := copies_of v.kids (by omega) fun x hx => copy_c n x (by have := szL_in hx; omega) (by omega)
    refine (ev_body ⟨[], [], [], true, [], noIt⟩ [.cell 2 49] rfl Tryz.func51 rfl rfl rfl (by kernel_rfl) (by show 1 ≤ 8; decide) (by kernel_rfl)).trans ?_
    simp +contextual (maxSteps := 10000000) only [go_sem, hc]
theorem copies_c (l : List Val) (h : Val.szL l ≤ 40000000000) : EV 53 [.ro false (l.map Val.d)] [] = some (.ret (.ro false (l.map Val.d)), []) :=
  copies_of l (by have := szL_len l; omega) fun x hx => copy_c _ x (szL_in hx) h
theorem many_c (k : Int) (l : List Val) (h : Val.szL l ≤ 40000000000) : EV 40 [.sc (.int .u8 k), .ro false (l.map Val.d)] [] = some (.ret (Val.mk k 0 ⟨#[]⟩ l).d, []) := by
  refine (ev_body ⟨[], [], [], true, [], noIt⟩ [.cell 4 49] rfl Tryz.func40 rfl rfl rfl (by kernel_rfl) (by show 2 ≤ 9; decide) (by kernel_rfl)).trans ?_
  simp +contextual (maxSteps := 10000000) only [go_sem, copies_c l h]
theorem desc_c (a b : Val) (h : a.sz + b.sz ≤ 40000000000) : EV 39 [a.d, b.d] [] = some (.ret (Val.mk 25 0 ⟨#[]⟩ [a, b]).d, []) := by
  refine (ev_body ⟨[2, 3], [], [], true, [], noIt⟩ [.cell 4 49] rfl Tryz.func39 rfl rfl rfl (by kernel_rfl) (by show 2 ≤ 9; decide) (by kernel_rfl)).trans ?_
  have hm := many_c 25 [a, b] (by simp [Val.szL]; omega)
  simp only [List.map_cons, List.map_nil] at hm
  simp +contextual (maxSteps := 10000000) only [go_sem, hm]
end Go.Bw.R1

namespace Go.Bw.R1
set_option maxRecDepth 5000
open Go Go.Bw Go.Proofs

mutual
def Val.items : Val → Nat
  | .mk _ _ _ l => Val.itemsL l + 1
def Val.itemsL : List Val → Nat
  | [] => 0
  | v :: l => v.items + Val.itemsL l
end
mutual
def Val.depth : Val → Nat
  | .mk _ _ _ l => Val.depthL l + 1
def Val.depthL : List Val → Nat
  | [] => 0
  | v :: l => max v.depth (Val.depthL l)
end
theorem Val.items_eq (v : Val) : v.items = Val.itemsL v.kids + 1 := by cases v; rfl
theorem Val.depth_eq (v : Val) : v.depth = Val.depthL v.kids + 1 := by cases v; rfl
mutual
theorem items_sz : ∀ v : Val, v.items ≤ v.sz
  | .mk _ _ t l => by have := itemsL_sz l; simp [Val.items, Val.sz]; omega
theorem itemsL_sz : ∀ l : List Val, Val.itemsL l ≤ Val.szL l
  | [] => Nat.le_refl _
  | v :: l => by have := items_sz v; have := itemsL_sz l; simp [Val.itemsL, Val.szL]; omega
end
mutual
theorem depth_items : ∀ v : Val, v.depth ≤ v.items
  | .mk _ _ t l => by have := depthL_items l; simp only [Val.items, Val.depth]; omega
theorem depthL_items : ∀ l : List Val, Val.depthL l ≤ Val.itemsL l
  | [] => Nat.le_refl _
  | v :: l => by have := depth_items v; have := depthL_items l; simp only [Val.itemsL, Val.depthL]; omega
end
theorem itemsL_app : ∀ (l m : List Val), Val.itemsL (l ++ m) = Val.itemsL l + Val.itemsL m
  | [], m => by simp [Val.itemsL]
  | v :: l, m => by simp [Val.itemsL, itemsL_app l m]; omega
theorem depthL_app : ∀ (l m : List Val), Val.depthL (l ++ m) = max (Val.depthL l) (Val.depthL m)
  | [], m => by simp [Val.depthL]
  | v :: l, m => by simp only [List.cons_append, Val.depthL, depthL_app l m]; omega
theorem szL_app : ∀ (l m : List Val), Val.szL (l ++ m) = Val.szL l + Val.szL m
  | [], m => by simp [Val.szL]
  | v :: l, m => by simp [Val.szL, szL_app l m]; omega
theorem szL_take (l : List Val) (i : Nat) : Val.szL (l.take i) ≤ Val.szL l := by
  have := szL_app (l.take i) (l.drop i)
  rw [List.take_append_drop] at this; omega
theorem get_lt {α : Type} {l : List α} {i : Nat} (h : i < l.length) : ∃ x, l[i]? = some x := ⟨_, List.getElem?_eq_getElem h⟩

end Go.Bw.R1

namespace Go.Bw.R1
set_option maxRecDepth 5000
open Go Go.Bw Go.Proofs
theorem char_c (n : Int) : EV 136 [.sc (.int .u64 n)] [] = some (.ret (B (U.chr n)), []) := by
  refine (ev_body ⟨[], [], [], false, [], noIt⟩ [.tmp 2] rfl Tryz.func136 rfl rfl rfl (by kernel_rfl) (by show 1 ≤ 13; decide) (by kernel_rfl)).trans ?_
  simp +contextual (maxSteps := 10000000) only [go_sem]
  rfl
theorem more_c (n : Int) : EV 175 [.sc (.int .u32 n)] [] = some (.ret (I (U.more n)), []) := by
  refine (ev_body ⟨[], [], [], false, [], noIt⟩ [.tmp 2] rfl Tryz.func175 rfl rfl rfl (by kernel_rfl) (by show 1 ≤ 12; decide) (by kernel_rfl)).trans ?_
  simp +contextual (maxSteps := 10000000) only [go_sem]
  unfold U.more
  simp only [decide_eq_true_eq]
  split
  · rfl
  · split
    · rfl
    · split <;> rfl
theorem first_c (n : Int) (h : U.byteB n) : EV 174 [.sc (.int .u8 n)] [] = some (.ret (.tup [.sc (.int .u32 (U.first n).1), I (U.first n).2.1, B (U.first n).2.2]), []) := by
  refine (ev_body ⟨[], [], [], false, [], noIt⟩ [.tmp 2, .tmp 3, .tmp 4] rfl Tryz.func174 rfl rfl rfl (by kernel_rfl) (by show 1 ≤ 32; decide) (by kernel_rfl)).trans ?_
  obtain ⟨h0, h1⟩ := h
  have a1 : andB .u8 n 7 = n % 8 := and_u8 3 (by decide) (by decide) h0 h1
  have a2 : andB .u8 n 15 = n % 16 := and_u8 4 (by decide) (by decide) h0 h1
  have a3 : andB .u8 n 31 = n % 32 := and_u8 5 (by decide) (by decide) h0 h1
  simp +contextual (maxSteps := 10000000) only [go_sem, a1, a2, a3, fit_u32 (n := n) h0 (by omega), fit_u32 (n := n % 8) (by omega) (by omega), fit_u32 (n := n % 16) (by omega) (by omega), fit_u32 (n := n % 32) (by omega) (by omega)]
  unfold U.first
  simp only [decide_eq_true_eq, Bool.or_eq_true]
  split
  · rfl
  · split
    · rfl
    · split
      · rfl
      · split <;> rfl
def bl (s : ByteArray) : List Int := s.data.toList.map fun b => (b.toNat : Int)
theorem bl_len (s : ByteArray) : (bl s).length = s.size := by rw [bl, List.length_map]; rfl
theorem bl_byte {s : ByteArray} {x : Int} (h : x ∈ bl s) : U.byteB x := by
  obtain ⟨b, _, rfl⟩ := List.mem_map.1 h
  have := b.toNat_lt
  exact ⟨by omega, by omega⟩
theorem bl_at {s : ByteArray} {i : Nat} {x : Int} (h : (bl s)[i]? = some x) : (bytesD s)[i]? = some (.sc (.int .u8 x)) := by
  unfold bl at h
  rw [List.getElem?_map, Option.map_eq_some_iff] at h
  obtain ⟨b, h1, rfl⟩ := h
  unfold bytesD
  rw [List.getElem?_map, h1]; rfl
theorem bl_hd {s : ByteArray} {i : Nat} {x : Int} (h : (bl s)[i]? = some x) : i + 1 ≤ s.size ∧ ((bytesD s).drop i |>.take 1).head? = some (.sc (.int .u8 x)) := by
  have h1 := bl_at h
  obtain ⟨hl, _⟩ := List.getElem?_eq_some_iff.1 h1
  rw [bytesD_len] at hl
  refine ⟨hl, ?_⟩
  rw [List.head?_take]
  simp only [Nat.one_ne_zero, if_false]
  rw [List.head?_drop]; exact h1
theorem drop_at {α : Type} {l r : List α} {x : α} {off : Nat} (h : l.drop off = x :: r) : l[off]? = some x ∧ l.drop (off + 1) = r := by
  have h1 : (l.drop off)[0]? = some x := by rw [h]; rfl
  rw [List.getElem?_drop] at h1
  refine ⟨by simpa using h1, ?_⟩
  rw [← List.drop_drop, h]; rfl
/-- a slice's rest -/
structure Sl (s : ByteArray) (off len : Nat) (l : List Int) : Prop where
  all : off + len = s.size
  rest : (bl s).drop off = l
theorem Sl.len {s : ByteArray} {off len : Nat} {l : List Int} (h : Sl s off len l) : l.length = len := by
  rw [← h.rest, List.length_drop, bl_len]; have := h.all; omega
theorem Sl.byte {s : ByteArray} {off len : Nat} {l : List Int} (h : Sl s off len l) : ∀ x ∈ l, U.byteB x := fun x hx => by
  rw [← h.rest] at hx; exact bl_byte (List.mem_of_mem_drop hx)
/-- what char tells, by its first byte -/
def charK (len k : Nat) (o : Option Int) : Int × Nat :=
  if len ≤ k then (0, 0) else match o with
    | none => (0, 0)
    | some c => if U.chr c = false ∨ U.more c ≠ k then (0, 0) else (c, k + 1)
theorem char_eqK {x : Int} {r : List Int} {b : Int} {k : Nat} (hf : U.first x = (b, k, true)) : U.char (x :: r) = charK (r.length + 1) k (U.cont k b r) := by
  simp only [U.char, hf, charK]
  by_cases h : r.length < k
  · rw [if_pos (.inr h), if_pos (by omega)]
  · rw [if_neg (by simp <;> omega), if_neg (by omega)]
    all_goals (cases U.cont k b r <;> rfl)
abbrev chZ (es : Sto) : Option (R × Sto) := some (.ret (.tup [.sc (.int .u32 0), I 0]), es)
abbrev chR (p : Int × Nat) (es : Sto) : Option (R × Sto) := some (.ret (.tup [.sc (.int .u32 p.1), I p.2]), es)
theorem chk_end {len k : Nat} {c m : Int} {es : Sto} (hl : k < len) (hm : m = (k : Int) + 1) : (if (!U.chr c || (U.more c : Int) != (k : Int)) = true then chZ es else some (.ret (.tup [.sc (.int .u32 c), I m]), es)) = chR (charK len k (some c)) es := by
  subst hm
  have e : charK len k (some c) = if U.chr c = false ∨ U.more c ≠ k then (0, 0) else (c, k + 1) := by
    unfold charK; rw [if_neg (by omega)]
  rw [e]
  by_cases h : U.chr c = false ∨ U.more c ≠ k
  · rw [if_pos h, if_pos]
    · rfl
    · rcases h with h | h
      · simp [h]
      · simp only [Bool.or_eq_true, bne_iff_ne, ne_eq]; right; omega
  · rw [if_neg h, if_neg]
    · rfl
    · simp only [not_or, Bool.not_eq_false, ne_eq, Decidable.not_not] at h
      simp [h.1, h.2]
theorem chk_none {len k : Nat} {es : Sto} : chZ es = chR (charK len k none) es := by
  have e : charK len k none = (0, 0) := by unfold charK; split <;> rfl
  rw [e]; rfl
theorem chk_cont {len k n : Nat} {y c : Int} {r : List Int} {es : Sto} {z : Option (R × Sto)} (h : z = chR (charK len k (U.cont n (c * 64 + y % 64) r)) es) : (if (y / 64 != 2) = true then chZ es else z) = chR (charK len k (U.cont (n + 1) c (y :: r))) es := by
  rw [U.cont]
  by_cases hy : y / 64 = 2
  · rw [if_pos hy, if_neg (by simp [hy])]; exact h
  · rw [if_neg hy, if_pos (by simpa using hy)]; exact chk_none
theorem fd64 {y : Int} (h : 0 ≤ y) : y.fdiv 64 = y / 64 := Int.fdiv_eq_ediv_of_nonneg y (by decide)
theorem chk_short {len k : Nat} {o : Option Int} {es : Sto} (h : len ≤ k) : chZ es = chR (charK len k o) es := by
  have e : charK len k o = (0, 0) := by unfold charK; rw [if_pos h]
  rw [e]; rfl
set_option maxHeartbeats 1000000 in
theorem uchar_c (s : ByteArray) (off len : Nat) (l : List Int) (hs : Sl s off len l) (hpos : 0 < len) : EV 171 [.ref 0 0 1 off len] [some ⟨0, bytesD s⟩] = some (.ret (.tup [.sc (.int .u32 (U.char l).1), I (U.char l).2]), [some ⟨0, bytesD s⟩]) := by
  refine (ev_body ⟨[], [(1000000, [0, 4, 5, 7])], [], false, [], noIt⟩ [.tmp 2, .tmp 3] rfl Tryz.func171 rfl rfl rfl (by kernel_rfl) (by show 1 ≤ 57; decide) (by kernel_rfl)).trans ?_
  simp +contextual (maxSteps := 10000000) only [go_sem]
  refine (run_scope 0 rfl rfl).trans ?_
  have hlen := hs.len
  cases l with
  | nil => simp at hlen; omega
  | cons x r =>
    have hx := hs.byte x (List.mem_cons_self ..)
    obtain ⟨d0, d1⟩ := drop_at hs.rest
    have hb := bl_at d0
    have hf := first_c x hx
    have h0 : (0 : Int) < len := by omega
    have h0' : off < (bytesD s).length := by rw [bytesD_len]; have := hs.all; omega
    obtain ⟨c0, c1⟩ := bl_hd d0
    obtain ⟨hx0, hx1⟩ := hx
    rcases (by omega : x < 128 ∨ (128 ≤ x ∧ (248 ≤ x ∨ x < 192)) ∨ (192 ≤ x ∧ x < 224) ∨ (224 ≤ x ∧ x < 240) ∨ (240 ≤ x ∧ x < 248)) with k | ⟨k, k'⟩ | ⟨k, k'⟩ | ⟨k, k'⟩ | ⟨k, k'⟩
    · have hfx := U.first1 k
      rw [char_eqK hfx]
      rw [hfx] at hf
      simp +contextual (maxSteps := 10000000) only [go_sem, hf, h0, c0, c1, char_c, more_c, jpK_go, fit_u64 hx0 (by omega)]
      rw [if_neg (by simp <;> omega)]
      exact chk_end (k := 0) (by simp) rfl
    · have hfx := U.first0 k k'
      rw [hfx] at hf
      have e : U.char (x :: r) = (0, 0) := by simp [U.char, hfx]
      rw [e]
      simp +contextual (maxSteps := 10000000) only [go_sem, hf, h0, c0, c1]
    · have hfx := U.first2 k k'
      rw [char_eqK hfx]
      rw [hfx] at hf
      cases r with
      | nil =>
        have hl1 : decide ((len : Int) ≤ 1) = true := by simp at hlen; simp; omega
        simp +contextual (maxSteps := 10000000) only [go_sem, hf, h0, c0, c1, hl1]
        exact chk_short (by simp)
      | cons y r =>
        have hl1 : decide ((len : Int) ≤ 1) = false := by simp at hlen; simp; omega
        have i1 : (1 : Int) < len := by simp at hlen; omega
        obtain ⟨e0, e1⟩ := drop_at d1
        obtain ⟨g0, g1⟩ := bl_hd e0
        obtain ⟨hy0, hy1⟩ := hs.byte y (by simp)
        have m1 : andB .u8 y 63 = y % 64 := and_u8 6 (by decide) (by decide) hy0 hy1
        have w1 : IntKind.u32.wrap (x % 32 * 64) = x % 32 * 64 := fit_u32 (by omega) (by omega)
        have o1 : orB .u32 (x % 32 * 64) (y % 64) = x % 32 * 64 + y % 64 := or_u32 6 rfl (by omega) (by omega) (by omega) (by omega)
        simp +contextual (maxSteps := 10000000) only [go_sem, hf, h0, c0, c1, hl1, char_c, more_c, jpK_go, i1, g0, g1, m1, w1, o1, fd64 hy0, fit_u32 (n := y % 64) (by omega) (by omega), fit_u64 (n := x % 32 * 64 + y % 64) (by omega) (by omega)]
        exact chk_cont (chk_end (k := 1) (by simp) rfl)
    · have hfx := U.first3 k k'
      rw [char_eqK hfx]
      rw [hfx] at hf
      match r, hs, d1, hlen with
      | [], hs, d1, hlen =>
        have hl1 : decide ((len : Int) ≤ 2) = true := by simp at hlen; simp; omega
        simp +contextual (maxSteps := 10000000) only [go_sem, hf, h0, c0, c1, hl1]
        exact chk_short (by simp)
      | [y], hs, d1, hlen =>
        have hl1 : decide ((len : Int) ≤ 2) = true := by simp at hlen; simp; omega
        simp +contextual (maxSteps := 10000000) only [go_sem, hf, h0, c0, c1, hl1]
        exact chk_short (by simp)
      | y :: z :: r, hs, d1, hlen =>
        have hl1 : decide ((len : Int) ≤ 2) = false := by simp at hlen; simp; omega
        have i1 : (1 : Int) < len := by simp at hlen; omega
        have i2 : (2 : Int) < len := by simp at hlen; omega
        obtain ⟨e0, e1⟩ := drop_at d1
        obtain ⟨g0, g1⟩ := bl_hd e0
        obtain ⟨e2, e3⟩ := drop_at e1
        obtain ⟨g2, g3⟩ := bl_hd e2
        obtain ⟨hy0, hy1⟩ := hs.byte y (by simp)
        obtain ⟨hz0, hz1⟩ := hs.byte z (by simp)
        have m1 : andB .u8 y 63 = y % 64 := and_u8 6 (by decide) (by decide) hy0 hy1
        have m2 : andB .u8 z 63 = z % 64 := and_u8 6 (by decide) (by decide) hz0 hz1
        have w1 : IntKind.u32.wrap (x % 16 * 64) = x % 16 * 64 := fit_u32 (by omega) (by omega)
        have o1 : orB .u32 (x % 16 * 64) (y % 64) = x % 16 * 64 + y % 64 := or_u32 6 rfl (by omega) (by omega) (by omega) (by omega)
        have w2 : IntKind.u32.wrap ((x % 16 * 64 + y % 64) * 64) = (x % 16 * 64 + y % 64) * 64 := fit_u32 (by omega) (by omega)
        have o2 : orB .u32 ((x % 16 * 64 + y % 64) * 64) (z % 64) = (x % 16 * 64 + y % 64) * 64 + z % 64 := or_u32 6 rfl (by omega) (by omega) (by omega) (by omega)
        simp +contextual (maxSteps := 10000000) only [go_sem, hf, h0, c0, c1, hl1, char_c, more_c, jpK_go, i1, i2, g0, g1, g2, g3, m1, w1, o1, m2, w2, o2, fd64 hy0, fd64 hz0, fit_u32 (n := y % 64) (by omega) (by omega), fit_u32 (n := z % 64) (by omega) (by omega), fit_u64 (n := (x % 16 * 64 + y % 64) * 64 + z % 64) (by omega) (by omega)]
        exact chk_cont (chk_cont (chk_end (k := 2) (by simp) rfl))
    · have hfx := U.first4 k k'
      rw [char_eqK hfx]
      rw [hfx] at hf
      match r, hs, d1, hlen with
      | [], hs, d1, hlen =>
        have hl1 : decide ((len : Int) ≤ 3) = true := by simp at hlen; simp; omega
        simp +contextual (maxSteps := 10000000) only [go_sem, hf, h0, c0, c1, hl1]
        exact chk_short (by simp)
      | [y], hs, d1, hlen =>
        have hl1 : decide ((len : Int) ≤ 3) = true := by simp at hlen; simp; omega
        simp +contextual (maxSteps := 10000000) only [go_sem, hf, h0, c0, c1, hl1]
        exact chk_short (by simp)
      | [y, z], hs, d1, hlen =>
        have hl1 : decide ((len : Int) ≤ 3) = true := by simp at hlen; simp; omega
        simp +contextual (maxSteps := 10000000) only [go_sem, hf, h0, c0, c1, hl1]
        exact chk_short (by simp)
      | y :: z :: u :: r, hs, d1, hlen =>
        have hl1 : decide ((len : Int) ≤ 3) = false := by simp at hlen; simp; omega
        have i1 : (1 : Int) < len := by simp at hlen; omega
        have i2 : (2 : Int) < len := by simp at hlen; omega
        have i3 : (3 : Int) < len := by simp at hlen; omega
        obtain ⟨e0, e1⟩ := drop_at d1
        obtain ⟨g0, g1⟩ := bl_hd e0
        obtain ⟨e2, e3⟩ := drop_at e1
        obtain ⟨g2, g3⟩ := bl_hd e2
        obtain ⟨e4, e5⟩ := drop_at e3
        obtain ⟨g4, g5⟩ := bl_hd e4
        obtain ⟨hy0, hy1⟩ := hs.byte y (by simp)
        obtain ⟨hz0, hz1⟩ := hs.byte z (by simp)
        obtain ⟨hu0, hu1⟩ := hs.byte u (by simp)
        have m1 : andB .u8 y 63 = y % 64 := and_u8 6 (by decide) (by decide) hy0 hy1
        have m2 : andB .u8 z 63 = z % 64 := and_u8 6 (by decide) (by decide) hz0 hz1
        have m3 : andB .u8 u 63 = u % 64 := and_u8 6 (by decide) (by decide) hu0 hu1
        have w1 : IntKind.u32.wrap (x % 8 * 64) = x % 8 * 64 := fit_u32 (by omega) (by omega)
        have o1 : orB .u32 (x % 8 * 64) (y % 64) = x % 8 * 64 + y % 64 := or_u32 6 rfl (by omega) (by omega) (by omega) (by omega)
        have w2 : IntKind.u32.wrap ((x % 8 * 64 + y % 64) * 64) = (x % 8 * 64 + y % 64) * 64 := fit_u32 (by omega) (by omega)
        have o2 : orB .u32 ((x % 8 * 64 + y % 64) * 64) (z % 64) = (x % 8 * 64 + y % 64) * 64 + z % 64 := or_u32 6 rfl (by omega) (by omega) (by omega) (by omega)
        have w3 : IntKind.u32.wrap (((x % 8 * 64 + y % 64) * 64 + z % 64) * 64) = ((x % 8 * 64 + y % 64) * 64 + z % 64) * 64 := fit_u32 (by omega) (by omega)
        have o3 : orB .u32 (((x % 8 * 64 + y % 64) * 64 + z % 64) * 64) (u % 64) = ((x % 8 * 64 + y % 64) * 64 + z % 64) * 64 + u % 64 := or_u32 6 rfl (by omega) (by omega) (by omega) (by omega)
        simp +contextual (maxSteps := 10000000) only [go_sem, hf, h0, c0, c1, hl1, char_c, more_c, jpK_go, i1, i2, i3, g0, g1, g2, g3, g4, g5, m1, w1, o1, m2, w2, o2, m3, w3, o3, fd64 hy0, fd64 hz0, fd64 hu0, fit_u32 (n := y % 64) (by omega) (by omega), fit_u32 (n := z % 64) (by omega) (by omega), fit_u32 (n := u % 64) (by omega) (by omega), fit_u64 (n := ((x % 8 * 64 + y % 64) * 64 + z % 64) * 64 + u % 64) (by omega) (by omega)]
        exact chk_cont (chk_cont (chk_cont (chk_end (k := 3) (by simp) rfl)))
end Go.Bw.R1

namespace Go.Bw.R1
set_option maxRecDepth 5000
open Go Go.Bw Go.Proofs
theorem chars_fuel : ∀ (k : Nat) (l : List Int), l.length ≤ k → U.chars k l = U.chars l.length l
  | 0, [], _ => rfl
  | 0, _ :: _, h => by simp at h
  | k + 1, [], _ => rfl
  | k + 1, x :: r, h => by
    have hl : r.length ≤ k := by simpa using h
    rw [List.length_cons, U.chars, U.chars]
    by_cases hn : (U.char (x :: r)).2 = 0
    · rw [if_pos hn, if_pos hn]
    · rw [if_neg hn, if_neg hn]
      have hd : ((x :: r).drop (U.char (x :: r)).2).length ≤ r.length := by rw [List.length_drop, List.length_cons]; omega
      rw [chars_fuel k _ (by omega), chars_fuel r.length _ hd]
termination_by k l => k
theorem char_le (l : List Int) : (U.char l).2 ≤ l.length := by
  cases l with
  | nil => simp [U.char]
  | cons x r =>
    simp only [U.char]
    split
    · exact Nat.zero_le _
    · rename_i h
      split
      · exact Nat.zero_le _
      · split
        · exact Nat.zero_le _
        · simp at h ⊢; omega
/-- the characters of a text -/
def charsA (l : List Int) : Option (List Int) := U.chars l.length l
theorem charsA_cons {x : Int} {r : List Int} {c : Int} {n : Nat} (h : U.char (x :: r) = (c, n)) : charsA (x :: r) = if n = 0 then none else (charsA ((x :: r).drop n)).map (c :: ·) := by
  unfold charsA
  rw [List.length_cons, U.chars, h]
  simp only
  by_cases hn : n = 0
  · rw [if_pos hn, if_pos hn]
  · rw [if_neg hn, if_neg hn, chars_fuel _ _ (by rw [List.length_drop, List.length_cons]; omega)]
def chU (o : Option (List Int)) : D := .tup [.ro false ((o.getD []).map (nums .u32)), B o.isSome]
theorem Sl.next {s : ByteArray} {off len n : Nat} {l : List Int} (h : Sl s off len l) (hn : n ≤ len) : Sl s (off + n) (len - n) (l.drop n) :=
  ⟨by have := h.all; omega, by rw [← List.drop_drop, h.rest]⟩
def ChI (s : ByteArray) (m : Nat) (f : Fr) (es : Sto) : Prop := ∃ (off : Nat) (l acc : List Int) (b0 : D), Sl s off m l ∧ acc.length ≤ off ∧ charsA (bl s) = (charsA l).map (acc ++ ·) ∧ (b0 = .ref 0 0 1 off m ∨ (m = 0 ∧ b0 = .ro false [])) ∧ f = [(0, b0), (4, accB 1 1 acc)] ∧ es = stoB (nums .u32) [some ⟨0, bytesD s⟩] acc
set_option maxHeartbeats 1000000 in
theorem uchars_c (s : ByteArray) (hs : s.size ≤ 40000000000) : EV 159 [.ref 0 0 1 0 s.size] [some ⟨0, bytesD s⟩] = some (.ret (chU (charsA (bl s))), [some ⟨0, bytesD s⟩]) := by
  refine (ev_body ⟨[], [(0, [0, 4])], [], true, [], noIt⟩ [.tmp 2, .tmp 3] rfl Tryz.func159 rfl rfl rfl (by kernel_rfl) (by show 1 ≤ 25; decide) (by kernel_rfl)).trans ?_
  simp +contextual (maxSteps := 10000000) only [go_sem]
  refine lpK_inv (ChI s) s.size ⟨0, bl s, [], _, ⟨Nat.zero_add _, rfl⟩, Nat.zero_le _, by cases charsA (bl s) <;> rfl, .inl rfl, rfl, rfl⟩ ?_
  rintro len f es ⟨off, l, acc, b0, hl, ha, hc, hb0, rfl, rfl⟩ ih
  have hlen := hl.len
  cases l with
  | nil =>
    obtain rfl : len = 0 := by simpa using hlen.symm
    have e : charsA (bl s) = some acc := by rw [hc]; simp [charsA, U.chars]
    rw [e]
    rcases hb0 with rfl | ⟨-, rfl⟩
    · rcases acc with _ | ⟨y, t⟩
      · simp only [accB_nil, stoB_nil]
        simp +contextual (maxSteps := 10000000) only [go_sem, chU]
      · simp only [accB_cons, stoB_cons, List.cons_append, List.nil_append]
        simp +contextual (maxSteps := 10000000) only [go_sem, chU, nums_refs, nums_refsL, nums_can, nums_canL]
    · rcases acc with _ | ⟨y, t⟩
      · simp only [accB_nil, stoB_nil]
        simp +contextual (maxSteps := 10000000) only [go_sem, chU]
      · simp only [accB_cons, stoB_cons, List.cons_append, List.nil_append]
        simp +contextual (maxSteps := 10000000) only [go_sem, chU, nums_refs, nums_refsL, nums_can, nums_canL]
  | cons x r =>
    obtain ⟨c, n, hcn⟩ : ∃ c n, U.char (x :: r) = (c, n) := ⟨_, _, rfl⟩
    have hu := uchar_c s off len (x :: r) hl (by simp at hlen; omega)
    rw [hcn] at hu
    have h0 : (0 : Int) < len := by simp at hlen; omega
    have hn := char_le (x :: r)
    rw [hcn] at hn
    rw [hlen] at hn
    simp only at hn
    obtain rfl : b0 = .ref 0 0 1 off len := by
      rcases hb0 with rfl | ⟨rfl, rfl⟩
      · rfl
      · simp at hlen
    have hsz := hl.all
    by_cases hn0 : n = 0
    · subst hn0
      have e : charsA (bl s) = none := by rw [hc, charsA_cons hcn, if_pos rfl]; rfl
      rw [e]
      rcases acc with _ | ⟨y, t⟩
      · simp only [accB_nil, stoB_nil]
        simp +contextual (maxSteps := 10000000) only [go_sem, hu, h0, chU]
        rfl
      · simp only [accB_cons, stoB_cons, List.cons_append, List.nil_append]
        simp +contextual (maxSteps := 10000000) only [go_sem, hu, h0, chU]
        rfl
    · have hnz : ((n : Int) == 0) = false := by simp <;> omega
      have hnx : charsA (bl s) = (charsA ((x :: r).drop n)).map ((acc ++ [c]) ++ ·) := by
        rw [hc, charsA_cons hcn, if_neg hn0, Option.map_map]; congr 1; funext z; simp
      have hac : (acc ++ [c]).length ≤ off + n := by simp <;> omega
      by_cases hnl : n = len
      · subst hnl
        rcases acc with _ | ⟨y, t⟩
        · simp only [accB_nil, stoB_nil]
          simp +contextual (maxSteps := 10000000) only [go_sem, hu, h0, hnz, hn0]
          refine ih 0 _ _ (by omega) ⟨off + n, _, [] ++ [c], _, by simpa using hl.next (Nat.le_refl n), hac, hnx, .inr ⟨rfl, rfl⟩, rfl, rfl⟩
        · simp only [accB_cons, stoB_cons, List.cons_append, List.nil_append]
          have hcap : (t.length + 1 + 1) * 4 ≤ 140737488355328 := by simp at ha; omega
          simp +contextual (maxSteps := 10000000) only [go_sem, hu, h0, hnz, hn0, hcap, Nat.mul_one, List.length_cons]
          refine ih 0 _ _ (by omega) ⟨off + n, _, (y :: t) ++ [c], _, by simpa using hl.next (Nat.le_refl n), hac, hnx, .inr ⟨rfl, rfl⟩, by rw [accB_snoc]; rfl, by rw [stoB_snoc]; rfl⟩
      · rcases acc with _ | ⟨y, t⟩
        · simp only [accB_nil, stoB_nil]
          simp +contextual (maxSteps := 10000000) only [go_sem, hu, h0, hnz, hn0, hn, hnl, Nat.mul_one]
          refine ih (len - n) _ _ (by omega) ⟨off + n, _, [] ++ [c], _, hl.next hn, hac, hnx, .inl rfl, rfl, rfl⟩
        · simp only [accB_cons, stoB_cons, List.cons_append, List.nil_append]
          have hcap : (t.length + 1 + 1) * 4 ≤ 140737488355328 := by simp at ha; omega
          simp +contextual (maxSteps := 10000000) only [go_sem, hu, h0, hnz, hn0, hn, hnl, hcap, Nat.mul_one, List.length_cons]
          refine ih (len - n) _ _ (by omega) ⟨off + n, _, (y :: t) ++ [c], _, hl.next hn, hac, hnx, .inl rfl, by rw [accB_snoc]; rfl, by rw [stoB_snoc]; rfl⟩
end Go.Bw.R1

namespace Go.Bw.R1
set_option maxRecDepth 5000
open Go Go.Bw Go.Proofs
theorem uright_c (s : ByteArray) (hs : s.size ≤ 40000000000) : EV 137 [.ref 0 0 1 0 s.size] [some ⟨0, bytesD s⟩] = some (.ret (B (charsA (bl s)).isSome), [some ⟨0, bytesD s⟩]) := by
  refine (ev_body ⟨[], [], [], false, [], noIt⟩ [.tmp 2] rfl Tryz.func137 rfl rfl rfl (by kernel_rfl) (by show 1 ≤ 11; decide) (by kernel_rfl)).trans ?_
  have h := uchars_c s hs
  simp only [chU] at h
  simp +contextual (maxSteps := 10000000) only [go_sem, h]
def asc (l : List Int) : Bool := l.all fun x => decide (x < 128)
theorem asc_cons (x : Int) (l : List Int) : asc (x :: l) = (decide (x < 128) && asc l) := rfl
set_option maxHeartbeats 1000000 in
theorem uascii_c (s : ByteArray) (hs : s.size ≤ 40000000000) : EV 23 [.ref 0 0 1 0 s.size] [some ⟨0, bytesD s⟩] = some (.ret (B (asc (bl s))), [some ⟨0, bytesD s⟩]) := by
  refine (ev_body ⟨[], [(0, [5, 6, 7])], [], false, [], noIt⟩ [.tmp 2] rfl Tryz.func23 rfl rfl rfl (by kernel_rfl) (by show 1 ≤ 14; decide) (by kernel_rfl)).trans ?_
  simp +contextual (maxSteps := 10000000) only [go_sem]
  refine lpK_inv (fun m f es => ∃ (i : Nat) (l : List Int), i + m = s.size ∧ (bl s).drop i = l ∧ asc (bl s) = asc l ∧ f = [(5, .ref 0 0 1 0 s.size), (6, I s.size), (7, I i)] ∧ es = [some ⟨0, bytesD s⟩]) s.size ⟨0, _, Nat.zero_add _, rfl, rfl, rfl, rfl⟩ ?_
  rintro m f es ⟨i, l, hi, hl, ha, rfl, rfl⟩ ih
  have hlen := congrArg List.length hl
  rw [List.length_drop, bl_len] at hlen
  cases l with
  | nil =>
    have hlt : decide ((i : Int) < s.size) = false := by simp at hlen; simp; omega
    rw [ha]
    simp +contextual (maxSteps := 10000000) only [go_sem, hlt]
    rfl
  | cons x r =>
    have hlt : decide ((i : Int) < s.size) = true := by simp at hlen; simp; omega
    have hlt' : (i : Int) < s.size := by simp at hlen; omega
    obtain ⟨d0, d1⟩ := drop_at hl
    obtain ⟨c0, c1⟩ := bl_hd d0
    rw [ha, asc_cons]
    simp +contextual (maxSteps := 10000000) only [go_sem, hlt, hlt', c0, c1, Nat.zero_add, wrap_i64 (n := (i : Int) + 1) (by omega) (by omega)]
    refine ite_intro (fun h => ?_) (fun h => ?_)
    · have : decide (x < 128) = false := by simp at h; simp; omega
      rw [this]; rfl
    · have : decide (x < 128) = true := by simp at h; simp; omega
      have ht : asc (bl s) = asc r := by rw [ha, asc_cons, this]; rfl
      rw [this, Bool.true_and, ← ht]
      exact ih (m - 1) _ _ (by omega) ⟨i + 1, r, by omega, d1, ht, by simp only [Int.natCast_add, Int.cast_ofNat_Int], rfl⟩
end Go.Bw.R1

namespace Go.Bw.R1
set_option maxRecDepth 5000
open Go Go.Bw Go.Proofs
end Go.Bw.R1

namespace Go.Bw.R1
set_option maxRecDepth 5000
open Go Go.Bw Go.Proofs
end Go.Bw.R1

namespace Go.Bw.R1
set_option maxRecDepth 5000
open Go Go.Bw Go.Proofs
theorem ite_ret {p : Prop} [Decidable p] {a b : Bool} {es : Sto} : (if p then some (R.ret (D.sc (.bool a)), es) else some (R.ret (D.sc (.bool b)), es)) = some (R.ret (D.sc (.bool (if p then a else b))), es) := by split <;> rfl
/-- a number with a sign, of so many bits -/
def sg (lo n : Int) : Bool := decide (-lo ≤ IntKind.i64.wrap n) && decide (IntKind.i64.wrap n < lo)
theorem sg_eq {lo c n : Int} (hl : lo * c = 9223372036854775808) (hc : c = 72057594037927936 ∨ c = 281474976710656 ∨ c = 4294967296) : ((IntKind.i64.wrap (IntKind.i64.wrap n * c)).fdiv c == IntKind.i64.wrap n) = sg lo n := by
  have hr : -9223372036854775808 ≤ IntKind.i64.wrap n ∧ IntKind.i64.wrap n ≤ 9223372036854775807 := by rw [wrap_i64_eq]; split <;> omega
  unfold sg
  generalize IntKind.i64.wrap n = x at *
  have hp : 0 ≤ c := by omega
  rw [Int.fdiv_eq_ediv_of_nonneg _ hp, Bool.eq_iff_iff]
  simp only [beq_iff_eq, Bool.and_eq_true, decide_eq_true_eq]
  rw [wrap_i64_eq]
  rcases hc with rfl | rfl | rfl
  · obtain rfl : lo = 128 := by omega
    split <;> omega
  · obtain rfl : lo = 32768 := by omega
    split <;> omega
  · obtain rfl : lo = 2147483648 := by omega
    split <;> omega
theorem signed8 (n : Int) : EV 135 [.sc (.int .u64 n), I 8] [] = some (.ret (B (sg 128 n)), []) := by
  refine (ev_body ⟨[], [], [], false, [], noIt⟩ [.tmp 4] rfl Tryz.func135 rfl rfl rfl (by kernel_rfl) (by show 2 ≤ 17; decide) (by kernel_rfl)).trans ?_
  simp +contextual (maxSteps := 10000000) only [go_sem]
  rw [sg_eq (lo := 128) rfl (.inl rfl)]
theorem signed16 (n : Int) : EV 135 [.sc (.int .u64 n), I 16] [] = some (.ret (B (sg 32768 n)), []) := by
  refine (ev_body ⟨[], [], [], false, [], noIt⟩ [.tmp 4] rfl Tryz.func135 rfl rfl rfl (by kernel_rfl) (by show 2 ≤ 17; decide) (by kernel_rfl)).trans ?_
  simp +contextual (maxSteps := 10000000) only [go_sem]
  rw [sg_eq (lo := 32768) rfl (.inr (.inl rfl))]
theorem signed32 (n : Int) : EV 135 [.sc (.int .u64 n), I 32] [] = some (.ret (B (sg 2147483648 n)), []) := by
  refine (ev_body ⟨[], [], [], false, [], noIt⟩ [.tmp 4] rfl Tryz.func135 rfl rfl rfl (by kernel_rfl) (by show 2 ≤ 17; decide) (by kernel_rfl)).trans ?_
  simp +contextual (maxSteps := 10000000) only [go_sem]
  rw [sg_eq (lo := 2147483648) rfl (.inr (.inr rfl))]
def numS (k n : Int) : Bool :=
  if (k == 2) = true then decide (n ≤ 1) else if (k == 3) = true then decide (n < 256) else if (k == 4) = true then decide (n < 65536)
  else if (k == 5) = true then decide (n < 4294967296) else if (k == 11) = true then decide (n < 4294967296) else if (k == 7) = true then sg 128 n else if (k == 8) = true then sg 32768 n
  else if (k == 9) = true then sg 2147483648 n else if (k == 13) = true then U.chr n else if (k == 6) = true then true else if (k == 10) = true then true else if (k == 14) = true then true else if (k == 12) = true then true else (n == 0)
theorem fd0 {n c : Int} (h : 0 ≤ n) (hc : 0 < c) : (n.fdiv c == 0) = decide (n < c) := by
  rw [Int.fdiv_eq_ediv_of_nonneg _ (by omega), Bool.eq_iff_iff]
  simp only [beq_iff_eq, decide_eq_true_eq]
  constructor
  · intro hh
    have := Int.emod_lt_of_pos n hc
    have h2 := Int.emod_add_mul_ediv n c
    rw [hh] at h2; omega
  · intro hh; exact Int.ediv_eq_zero_of_lt h hh
set_option maxHeartbeats 2000000 in
theorem num_c (v : Val) (h : 0 ≤ v.num) : EV 102 [v.d] [] = some (.ret (B (numS v.kind v.num)), []) := by
  refine (ev_body ⟨[1], [], [], false, [], noIt⟩ [.tmp 2] rfl Tryz.func102 rfl rfl rfl (by kernel_rfl) (by show 1 ≤ 51; decide) (by kernel_rfl)).trans ?_
  simp +contextual (maxSteps := 10000000) only [go_sem, char_c, signed8, signed16, signed32, fd0 (c := 256) h (by decide), fd0 (c := 65536) h (by decide), fd0 (c := 4294967296) h (by decide)]
  simp only [ite_ret]
  rfl
def textS (k : Int) (t : ByteArray) : Bool :=
  if (k == 15) = true then ((t.size : Int) == 16) else if (k == 18) = true then ((t.size : Int) == 16) else if (k == 17) = true then ((t.size : Int) == 8) else if (k == 16) = true then ((t.size : Int) == 4) else if (k == 19) = true then true
  else if (k == 20) = true then (charsA (bl t)).isSome else if (k == 21) = true then asc (bl t) else decide (t = ⟨#[]⟩)
set_option maxHeartbeats 2000000 in
theorem txt_c (v : Val) (h : v.text.size ≤ 40000000000) : EV 103 [v.d] [] = some (.ret (B (textS v.kind v.text)), []) := by
  refine (ev_body ⟨[1], [], [], false, [], noIt⟩ [.tmp 2] rfl Tryz.func103 rfl rfl rfl (by kernel_rfl) (by show 1 ≤ 41; decide) (by kernel_rfl)).trans ?_
  simp +contextual (maxSteps := 10000000) only [go_sem, uright_c v.text h, uascii_c v.text h]
  simp only [ite_ret]
  rfl
end Go.Bw.R1

namespace Go.Bw.R1
set_option maxRecDepth 5000
open Go Go.Bw Go.Proofs
theorem fb {k j : Int} (h : k ≠ j) : (k == j) = false := by simpa using h
end Go.Bw.R1

namespace Go.Bw.R1
set_option maxRecDepth 5000
open Go Go.Bw Go.Proofs
set_option maxHeartbeats 1000000 in
theorem eqfunc_of (l m : List Val) (hl : l.length ≤ 40000000000) (hs : ∀ x ∈ l, ∀ y, EV 162 [x.d, y.d] [] = some (.ret (B (same x y)), [])) : EV 173 [.ro false (l.map Val.d), .ro false (m.map Val.d), .fn (.func 162) [] []] [] = some (.ret (B (sameL l m)), []) := by
  refine (ev_body ⟨[], [(0, [1, 2, 15, 16, 17])], [], false, [], noIt⟩ [.tmp 6] rfl Tryz.func173 rfl rfl rfl (by kernel_rfl) (by show 3 ≤ 32; decide) (by kernel_rfl)).trans ?_
  simp +contextual (maxSteps := 10000000) only [go_sem]
  refine ite_intro (fun h => ?_) (fun h => ?_)
  · have : sameL l m = false := sameL_len (by simp at h <;> omega)
    rw [this]
  · have hlen : l.length = m.length := by simp at h <;> omega
    refine lpK_inv (fun m0 f es => ∃ (i : Nat), i + m0 = l.length ∧ sameL l m = sameL (l.drop i) (m.drop i) ∧ f = [(1, .ro false (m.map Val.d)), (2, .fn (.func 162) [] []), (15, .ro false (l.map Val.d)), (16, I l.length), (17, I i)] ∧ es = []) l.length ⟨0, Nat.zero_add _, rfl, rfl, rfl⟩ ?_
    rintro m0 _ _ ⟨i, hi, hsm, rfl, rfl⟩ ih
    rcases Nat.lt_or_ge i l.length with hlt | hge
    · obtain ⟨x, hx⟩ := get_lt hlt
      obtain ⟨y, hy⟩ : ∃ y, m[i]? = some y := get_lt (by omega)
      have hlt' : decide ((i : Int) < l.length) = true := by simpa using hlt
      have hlt2 : (i : Int) < l.length := by omega
      have hlt3 : (i : Int) < m.length := by omega
      simp +contextual (maxSteps := 10000000) only [go_sem, hx, hy, hs x (List.mem_of_getElem? hx) y, hlt', hlt2, hlt3, wrap_i64 (n := (i : Int) + 1) (by omega) (by omega)]
      refine ite_intro (fun h => ?_) (fun h => ?_)
      · rw [hsm, sameL_drop hx hy]; simp at h; simp [h]
      · exact ih (m0 - 1) _ _ (by omega) ⟨i + 1, by omega, by rw [hsm, sameL_drop hx hy]; simp at h; simp [h], by simp only [Int.natCast_add, Int.cast_ofNat_Int], rfl⟩
    · have hlt' : decide ((i : Int) < l.length) = false := by simpa using hge
      simp +contextual (maxSteps := 10000000) only [go_sem, hlt']
      rw [hsm, sameL_end hge (by omega)]
theorem same_c : ∀ (n : Nat) (a b : Val), a.sz ≤ n → n ≤ 40000000000 → EV 162 [a.d, b.d] [] = some (.ret (B (same a b)), [])
  | 0, .mk .., _, h, _ => by simp [Val.sz] at h
  | n + 1, a, b, hn, hs => by
    rw [Val.sz_eq] at hn
    have hl := szL_len a.kids
    have hc := eqfunc_of a.kids b.kids (by omega) fun x hx y => same_c n x y (by have := szL_in hx; omega) (by omega)
    refine (ev_body ⟨[2, 3], [], [], false, [], noIt⟩ [.tmp 4] rfl Tryz.func162 rfl rfl rfl (by kernel_rfl) (by show 2 ≤ 31; decide) (by kernel_rfl)).trans ?_
    simp +contextual (maxSteps := 10000000) only [go_sem, hc]
    rw [same_eq, Bool.and_assoc, Bool.and_assoc]
theorem depth2_c (a b : Int) (h0 : 0 ≤ a) (h1 : a ≤ 40000000000) (k0 : 0 ≤ b) (k1 : b ≤ 40000000000) : EV 98 [I a, I b] [] = some (.ret (I (max a b)), []) := by
  refine (ev_body ⟨[], [], [], false, [], noIt⟩ [.tmp 4] rfl Tryz.func98 rfl rfl rfl (by kernel_rfl) (by show 2 ≤ 8; decide) (by kernel_rfl)).trans ?_
  simp +contextual (maxSteps := 10000000) only [go_sem]
  have e : (if b > a then b else a) = max a b := by split <;> omega
  rw [e]
theorem depthL_snoc (l : List Val) (x : Val) : Val.depthL (l ++ [x]) = max (Val.depthL l) x.depth := by rw [depthL_app]; simp [Val.depthL]
set_option maxHeartbeats 1000000 in
theorem depthf_c : ∀ (n : Nat) (v : Val), v.sz ≤ n → n ≤ 40000000000 → EV 97 [v.d, .fn (.func 98) [] []] [] = some (.ret (I v.depth), [])
  | 0, .mk .., h, _ => by simp [Val.sz] at h
  | n + 1, v, hn, hs => by
    rw [Val.sz_eq] at hn
    have hl := szL_len v.kids
    refine (ev_body ⟨[2], [(0, [1, 5, 9, 10, 11])], [], false, [], noIt⟩ [.tmp 4] rfl Tryz.func97 rfl rfl rfl (by kernel_rfl) (by show 2 ≤ 24; decide) (by kernel_rfl)).trans ?_
    simp +contextual (maxSteps := 10000000) only [go_sem]
    refine lpK_inv (fun m0 f es => ∃ (i : Nat) (a : Int), i + m0 = v.kids.length ∧ a = Val.depthL (v.kids.take i) ∧ f = [(1, .fn (.func 98) [] []), (5, I a), (9, .ro false (v.kids.map Val.d)), (10, I v.kids.length), (11, I i)] ∧ es = []) v.kids.length ⟨0, 0, Nat.zero_add _, rfl, rfl, rfl⟩ ?_
    rintro m0 _ _ ⟨i, a, hi, ha, rfl, rfl⟩ ih
    have hb := szL_take v.kids i
    have hb2 : Val.depthL (v.kids.take i) ≤ Val.szL (v.kids.take i) := Nat.le_trans (depthL_items _) (itemsL_sz _)
    rcases Nat.lt_or_ge i v.kids.length with hlt | hge
    · obtain ⟨x, hx⟩ := get_lt hlt
      have hlt' : decide ((i : Int) < v.kids.length) = true := by simpa using hlt
      have hlt2 : (i : Int) < v.kids.length := by omega
      have hxs := szL_in (List.mem_of_getElem? hx)
      have hc := depthf_c n x (by omega) (by omega)
      have hxi : x.depth ≤ x.sz := Nat.le_trans (depth_items x) (items_sz x)
      have h2 := depth2_c a x.depth (by omega) (by omega) (by omega) (by omega)
      simp +contextual (maxSteps := 10000000) only [go_sem, hx, hc, h2, hlt', hlt2, wrap_i64 (n := (i : Int) + 1) (by omega) (by omega)]
      refine ih (m0 - 1) _ _ (by omega) ⟨i + 1, _, by omega, ?_, by simp only [Int.natCast_add, Int.cast_ofNat_Int]; rfl, rfl⟩
      rw [take_snoc hx, depthL_snoc, ha]
      omega
    · have hlt' : decide ((i : Int) < v.kids.length) = false := by simpa using hge
      rw [List.take_of_length_le hge] at ha hb2
      simp +contextual (maxSteps := 10000000) only [go_sem, hlt', ha, wrap_i64 (n := (Val.depthL v.kids : Int) + 1) (by omega) (by omega)]
      rw [Val.depth_eq]
      rfl
theorem depth_c (v : Val) (h : v.sz ≤ 40000000000) : EV 66 [v.d] [] = some (.ret (I v.depth), []) := by
  refine (ev_body ⟨[1], [], [], false, [], noIt⟩ [.tmp 2] rfl Tryz.func66 rfl rfl rfl (by kernel_rfl) (by show 1 ≤ 5; decide) (by kernel_rfl)).trans ?_
  simp +contextual (maxSteps := 10000000) only [go_sem, depthf_c _ v (Nat.le_refl _) h]
theorem items2_c (a b : Int) (h0 : 0 ≤ a) (h1 : a ≤ 40000000000) (k0 : 0 ≤ b) (k1 : b ≤ 40000000000) : EV 99 [I a, I b] [] = some (.ret (I (a + b)), []) := by
  refine (ev_body ⟨[], [], [], false, [], noIt⟩ [.tmp 4] rfl Tryz.func99 rfl rfl rfl (by kernel_rfl) (by show 2 ≤ 8; decide) (by kernel_rfl)).trans ?_
  simp +contextual (maxSteps := 10000000) only [go_sem, wrap_i64 (n := a + b) (by omega) (by omega)]
theorem itemsL_snoc (l : List Val) (x : Val) : Val.itemsL (l ++ [x]) = Val.itemsL l + x.items := by rw [itemsL_app]; simp [Val.itemsL]
set_option maxHeartbeats 1000000 in
theorem itemsf_c : ∀ (n : Nat) (v : Val), v.sz ≤ n → n ≤ 40000000000 → EV 97 [v.d, .fn (.func 99) [] []] [] = some (.ret (I v.items), [])
  | 0, .mk .., h, _ => by simp [Val.sz] at h
  | n + 1, v, hn, hs => by
    rw [Val.sz_eq] at hn
    have hl := szL_len v.kids
    refine (ev_body ⟨[2], [(0, [1, 5, 9, 10, 11])], [], false, [], noIt⟩ [.tmp 4] rfl Tryz.func97 rfl rfl rfl (by kernel_rfl) (by show 2 ≤ 24; decide) (by kernel_rfl)).trans ?_
    simp +contextual (maxSteps := 10000000) only [go_sem]
    refine lpK_inv (fun m0 f es => ∃ (i : Nat) (a : Int), i + m0 = v.kids.length ∧ a = Val.itemsL (v.kids.take i) ∧ f = [(1, .fn (.func 99) [] []), (5, I a), (9, .ro false (v.kids.map Val.d)), (10, I v.kids.length), (11, I i)] ∧ es = []) v.kids.length ⟨0, 0, Nat.zero_add _, rfl, rfl, rfl⟩ ?_
    rintro m0 _ _ ⟨i, a, hi, ha, rfl, rfl⟩ ih
    have hb := szL_take v.kids i
    have hb2 : Val.itemsL (v.kids.take i) ≤ Val.szL (v.kids.take i) := itemsL_sz _
    rcases Nat.lt_or_ge i v.kids.length with hlt | hge
    · obtain ⟨x, hx⟩ := get_lt hlt
      have hlt' : decide ((i : Int) < v.kids.length) = true := by simpa using hlt
      have hlt2 : (i : Int) < v.kids.length := by omega
      have hxs := szL_in (List.mem_of_getElem? hx)
      have hc := itemsf_c n x (by omega) (by omega)
      have hxi : x.items ≤ x.sz := items_sz x
      have h2 := items2_c a x.items (by omega) (by omega) (by omega) (by omega)
      simp +contextual (maxSteps := 10000000) only [go_sem, hx, hc, h2, hlt', hlt2, wrap_i64 (n := (i : Int) + 1) (by omega) (by omega)]
      refine ih (m0 - 1) _ _ (by omega) ⟨i + 1, _, by omega, ?_, by simp only [Int.natCast_add, Int.cast_ofNat_Int]; rfl, rfl⟩
      rw [take_snoc hx, itemsL_snoc, ha]
      rfl
    · have hlt' : decide ((i : Int) < v.kids.length) = false := by simpa using hge
      rw [List.take_of_length_le hge] at ha hb2
      simp +contextual (maxSteps := 10000000) only [go_sem, hlt', ha, wrap_i64 (n := (Val.itemsL v.kids : Int) + 1) (by omega) (by omega)]
      rw [Val.items_eq]
      rfl
theorem items_c (v : Val) (h : v.sz ≤ 40000000000) : EV 67 [v.d] [] = some (.ret (I v.items), []) := by
  refine (ev_body ⟨[1], [], [], false, [], noIt⟩ [.tmp 2] rfl Tryz.func67 rfl rfl rfl (by kernel_rfl) (by show 1 ≤ 5; decide) (by kernel_rfl)).trans ?_
  simp +contextual (maxSteps := 10000000) only [go_sem, itemsf_c _ v (Nat.le_refl _) h]
end Go.Bw.R1

namespace Go.Bw.R1
set_option maxRecDepth 5000
open Go Go.Bw Go.Proofs
def alikeF : Nat → Val → Val → Bool
  | 0, _, _ => false
  | n + 1, a, b => if (a.kind != 25 || b.kind != 25) = true then a.kind == b.kind else match a.kids, b.kids with
    | [x0, x1], [y0, y1] => same x0 y0 && alikeF n x1 y1
    | _, _ => false
def alike (a b : Val) : Bool := alikeF a.sz a b
/-- a map's keys -/
def keyL : List Val → List Val
  | a :: _ :: r => a :: keyL r
  | _ => []
def noSame : List Val → List Val → Bool
  | _, [] => true
  | seen, k :: r => if (seen.any fun s => same s k) = true then false else noSame (seen ++ [k]) r
def famS (k : Int) (l : List Val) : Bool :=
  if (k == 22) = true then true else if (k == 23) = true then ((l.length % 2 == 0) && noSame [] (keyL l)) else if (k == 24) = true then (l.all fun x => match l with | [] => true | y :: _ => alike y x)
  else if (k == 25) = true then (match l with | [x, _] => x.kind == 6 || x.kind == 21 | _ => false) else l.isEmpty
mutual
def mayS : Val → Bool
  | .mk k n t l => (decide (1 ≤ k) && decide (k ≤ 25)) && mayL l && (numS k n && textS k t && famS k l)
def mayL : List Val → Bool
  | [] => true
  | v :: l => mayS v && mayL l
end
theorem mayS_eq (v : Val) : mayS v = ((decide (1 ≤ v.kind) && decide (v.kind ≤ 25)) && mayL v.kids && (numS v.kind v.num && textS v.kind v.text && famS v.kind v.kids)) := by cases v; rfl
theorem mayL_all : ∀ l : List Val, mayL l = l.all mayS
  | [] => rfl
  | v :: l => by rw [mayL, mayL_all l]; rfl
/-- what is called something has two kids that may be -/
theorem may_desc {v : Val} (h : mayS v = true) (hk : v.kind = 25) : ∃ x y, v.kids = [x, y] ∧ mayS x = true ∧ mayS y = true := by
  rw [mayS_eq] at h
  simp only [Bool.and_eq_true] at h
  have hf := h.2.2
  rw [hk] at hf
  simp only [famS] at hf
  rw [if_neg (by decide), if_neg (by decide), if_neg (by decide), if_pos (by decide)] at hf
  split at hf
  · rename_i x y hxy
    rw [hxy] at h
    simp only [mayL, Bool.and_eq_true] at h
    exact ⟨x, y, hxy, h.1.2.1, h.1.2.2.1⟩
  · cases hf
set_option maxHeartbeats 1000000 in
theorem alike_c : ∀ (n : Nat) (a b : Val), a.sz ≤ n → n ≤ 40000000000 → mayS a = true → mayS b = true → EV 140 [a.d, b.d] [] = some (.ret (B (alikeF n a b)), [])
  | 0, .mk .., _, h, _, _, _ => by simp [Val.sz] at h
  | n + 1, a, b, hn, hs, ha, hb => by
    refine (ev_body ⟨[2, 3], [], [(3, [(0, 0, false), (1, 0, false), (2, 0, false), (3, 0, false), (4, 0, false), (5, 0, false), (6, 0, false), (7, 0, false), (8, 0, false), (9, 0, false), (10, 0, false), (11, 0, false), (12, 0, false), (13, 0, false), (14, 0, false), (15, 0, false), (16, 0, false), (17, 0, false), (18, 0, false), (19, 0, false), (20, 0, false)])], false, [], noIt⟩ [.tmp 4] rfl Tryz.func140 rfl rfl rfl (by kernel_rfl) (by show 2 ≤ 38; decide) (by kernel_rfl)).trans ?_
    by_cases hk : a.kind = 25
    · by_cases hk' : b.kind = 25
      · obtain ⟨x0, x1, hx, mx0, mx1⟩ := may_desc ha hk
        obtain ⟨y0, y1, hy, my0, my1⟩ := may_desc hb hk'
        rw [Val.sz_eq, hx] at hn
        simp only [Val.szL] at hn
        have h1 := same_c _ x0 y0 (Nat.le_refl _) (by omega)
        have h2 := alike_c n x1 y1 (by omega) (by omega) mx1 my1
        simp +contextual (maxSteps := 10000000) only [go_sem, hk, hk', hx, hy, List.map_cons, List.map_nil, h1, h2, alikeF, bne_self_eq_false, Bool.or_self, List.length_cons, List.length_nil]
      · have e : (b.kind != 25) = true := by simpa using hk'
        simp +contextual (maxSteps := 10000000) only [go_sem, hk, e, alikeF, Bool.or_true, bne_self_eq_false]
    · have e : (a.kind != 25) = true := by simpa using hk
      simp +contextual (maxSteps := 10000000) only [go_sem, e, alikeF, Bool.true_or]
def idxS (p : Val → Bool) : List Val → Nat → Int
  | [], _ => -1
  | x :: l, i => if p x = true then i else idxS p l (i + 1)
theorem idxS_ge (p : Val → Bool) : ∀ (l : List Val) (i : Nat), (decide (0 ≤ idxS p l i)) = l.any p
  | [], i => rfl
  | x :: l, i => by
    rw [idxS, List.any_cons]
    cases h : p x
    · simp only [Bool.false_eq_true, if_false, Bool.false_or]; exact idxS_ge p l (i + 1)
    · simp
theorem idxS_drop {p : Val → Bool} {l : List Val} {i : Nat} {x : Val} (h : l[i]? = some x) : idxS p (l.drop i) i = if p x = true then (i : Int) else idxS p (l.drop (i + 1)) (i + 1) := by
  obtain ⟨hl, rfl⟩ := List.getElem?_eq_some_iff.1 h
  rw [List.drop_eq_getElem_cons hl, idxS]

set_option maxHeartbeats 1000000 in
theorem may_idx (p : Val → Bool) (l : List Val) (hl : l.length ≤ 40000000000) (hp : ∀ x ∈ l, EV 101 [x.d] [] = some (.ret (B (p x)), [])) : EV 134 [.ro false (l.map Val.d), .fn (.func 101) [] []] [] = some (.ret (I (idxS p l 0)), []) := by
  refine (ev_body ⟨[], [(0, [0, 1, 7, 8])], [], false, [], noIt⟩ [.tmp 4] rfl Tryz.func134 rfl rfl rfl (by kernel_rfl) (by show 2 ≤ 19; decide) (by kernel_rfl)).trans ?_
  simp +contextual (maxSteps := 10000000) only [go_sem]
  refine lpK_inv (fun m0 f es => ∃ (i : Nat), i + m0 = l.length ∧ idxS p l 0 = idxS p (l.drop i) i ∧ f = [(0, .ro false (l.map Val.d)), (1, .fn (.func 101) [] []), (7, I l.length), (8, I i)] ∧ es = []) l.length ⟨0, Nat.zero_add _, rfl, rfl, rfl⟩ ?_
  rintro m0 _ _ ⟨i, hi, hsm, rfl, rfl⟩ ih
  rcases Nat.lt_or_ge i l.length with hlt | hge
  · obtain ⟨x, hx⟩ := get_lt hlt
    have hlt' : decide ((i : Int) < l.length) = true := by simpa using hlt
    have hlt2 : (i : Int) < l.length := by omega
    have hpx := hp x (List.mem_of_getElem? hx)
    simp +contextual (maxSteps := 10000000) only [go_sem, hx, hpx, hlt', hlt2, wrap_i64 (n := (i : Int) + 1) (by omega) (by omega)]
    rw [hsm, idxS_drop hx]
    refine ite_intro (fun h => ?_) (fun h => ?_)
    · rw [if_pos h]
    · rw [if_neg h]
      have hsm' : idxS p l 0 = idxS p (l.drop (i + 1)) (i + 1) := by rw [hsm, idxS_drop hx, if_neg h]
      rw [← hsm']
      exact ih (m0 - 1) _ _ (by omega) ⟨i + 1, by omega, hsm', by simp only [Int.natCast_add, Int.cast_ofNat_Int], rfl⟩
  · have hlt' : decide ((i : Int) < l.length) = false := by simpa using hge
    simp +contextual (maxSteps := 10000000) only [go_sem, hlt']
    rw [hsm, List.drop_eq_nil_of_le hge]; rfl
theorem may_has (p : Val → Bool) (l : List Val) (hl : l.length ≤ 40000000000) (hp : ∀ x ∈ l, EV 101 [x.d] [] = some (.ret (B (p x)), [])) : EV 100 [.ro false (l.map Val.d), .fn (.func 101) [] []] [] = some (.ret (B (l.any p)), []) := by
  refine (ev_body ⟨[], [], [], false, [], noIt⟩ [.tmp 4] rfl Tryz.func100 rfl rfl rfl (by kernel_rfl) (by show 2 ≤ 9; decide) (by kernel_rfl)).trans ?_
  simp +contextual (maxSteps := 10000000) only [go_sem, may_idx p l hl hp, idxS_ge]

set_option maxHeartbeats 1000000 in
theorem fam_idx (u : Val) (p : Val → Bool) (l : List Val) (hl : l.length ≤ 40000000000) (hp : ∀ x ∈ l, EV 139 [x.d, .rp u.cs] [] = some (.ret (B (p x)), [])) : EV 134 [.ro false (l.map Val.d), .fn (.func 139) [] [.rp u.cs]] [] = some (.ret (I (idxS p l 0)), []) := by
  refine (ev_body ⟨[], [(0, [0, 1, 7, 8])], [], false, [], noIt⟩ [.tmp 4] rfl Tryz.func134 rfl rfl rfl (by kernel_rfl) (by show 2 ≤ 19; decide) (by kernel_rfl)).trans ?_
  simp +contextual (maxSteps := 10000000) only [go_sem]
  refine lpK_inv (fun m0 f es => ∃ (i : Nat), i + m0 = l.length ∧ idxS p l 0 = idxS p (l.drop i) i ∧ f = [(0, .ro false (l.map Val.d)), (1, .fn (.func 139) [] [.rp u.cs]), (7, I l.length), (8, I i)] ∧ es = []) l.length ⟨0, Nat.zero_add _, rfl, rfl, rfl⟩ ?_
  rintro m0 _ _ ⟨i, hi, hsm, rfl, rfl⟩ ih
  rcases Nat.lt_or_ge i l.length with hlt | hge
  · obtain ⟨x, hx⟩ := get_lt hlt
    have hlt' : decide ((i : Int) < l.length) = true := by simpa using hlt
    have hlt2 : (i : Int) < l.length := by omega
    have hpx := hp x (List.mem_of_getElem? hx)
    simp +contextual (maxSteps := 10000000) only [go_sem, hx, hpx, hlt', hlt2, wrap_i64 (n := (i : Int) + 1) (by omega) (by omega)]
    rw [hsm, idxS_drop hx]
    refine ite_intro (fun h => ?_) (fun h => ?_)
    · rw [if_pos h]
    · rw [if_neg h]
      have hsm' : idxS p l 0 = idxS p (l.drop (i + 1)) (i + 1) := by rw [hsm, idxS_drop hx, if_neg h]
      rw [← hsm']
      exact ih (m0 - 1) _ _ (by omega) ⟨i + 1, by omega, hsm', by simp only [Int.natCast_add, Int.cast_ofNat_Int], rfl⟩
  · have hlt' : decide ((i : Int) < l.length) = false := by simpa using hge
    simp +contextual (maxSteps := 10000000) only [go_sem, hlt']
    rw [hsm, List.drop_eq_nil_of_le hge]; rfl
theorem fam_has (u : Val) (p : Val → Bool) (l : List Val) (hl : l.length ≤ 40000000000) (hp : ∀ x ∈ l, EV 139 [x.d, .rp u.cs] [] = some (.ret (B (p x)), [])) : EV 100 [.ro false (l.map Val.d), .fn (.func 139) [] [.rp u.cs]] [] = some (.ret (B (l.any p)), []) := by
  refine (ev_body ⟨[], [], [], false, [], noIt⟩ [.tmp 4] rfl Tryz.func100 rfl rfl rfl (by kernel_rfl) (by show 2 ≤ 9; decide) (by kernel_rfl)).trans ?_
  simp +contextual (maxSteps := 10000000) only [go_sem, fam_idx u p l hl hp, idxS_ge]

theorem rowV_len (l : List Val) : (rowE Val.d l).length = l.length * 4 := valOk.row_len l
theorem rowV_can : ∀ l : List Val, (rowE Val.d l).map D.can = rowE Val.d l
  | [] => rfl
  | v :: l => by
    have h : v.d.cells.map D.can = v.d.cells := by rw [Val.cells]; simp only [List.map_cons, List.map_nil, D.can, Val.canM]
    rw [rowE_cons, List.map_append, rowV_can l, h]
attribute [go_sem] rowV_can
theorem rowV_at {l : List Val} {i : Nat} {x : Val} (h : l[i]? = some x) : i * 4 + 4 ≤ l.length * 4 ∧ ((rowE Val.d l).drop (i * 4) |>.take 4) = x.cs := by
  obtain ⟨hl, rfl⟩ := List.getElem?_eq_some_iff.1 h
  refine ⟨by omega, ?_⟩
  have e : l = l.take i ++ l[i] :: l.drop (i + 1) := by rw [← List.drop_eq_getElem_cons hl, List.take_append_drop]
  have e2 : rowE Val.d l = rowE Val.d (l.take i) ++ (Val.cs l[i] ++ rowE Val.d (l.drop (i + 1))) := by
    conv => lhs; rw [e]
    simp only [rowE, List.map_append, List.flatMap_append, List.map_cons, List.flatMap_cons, Val.cells]
  rw [e2, List.drop_append_of_le_length (by rw [rowV_len, List.length_take]; omega)]
  rw [List.drop_eq_nil_of_le (by rw [rowV_len, List.length_take]; omega), List.nil_append]
  rfl

set_option maxHeartbeats 1000000 in
theorem unl_idx (u : Val) (p : Val → Bool) (l : List Val) (hl : l.length ≤ 40000000000) (hp : ∀ x ∈ l, EV 161 [x.d, .rp u.cs] [] = some (.ret (B (p x)), [])) : EV 134 [.ref 0 0 4 0 l.length, .fn (.func 161) [] [.rp u.cs]] [some ⟨0, rowE Val.d l⟩] = some (.ret (I (idxS p l 0)), [some ⟨0, rowE Val.d l⟩]) := by
  refine (ev_body ⟨[], [(0, [0, 1, 7, 8])], [], false, [], noIt⟩ [.tmp 4] rfl Tryz.func134 rfl rfl rfl (by kernel_rfl) (by show 2 ≤ 19; decide) (by kernel_rfl)).trans ?_
  simp +contextual (maxSteps := 10000000) only [go_sem]
  refine lpK_inv (fun m0 f es => ∃ (i : Nat), i + m0 = l.length ∧ idxS p l 0 = idxS p (l.drop i) i ∧ f = [(0, .ref 0 0 4 0 l.length), (1, .fn (.func 161) [] [.rp u.cs]), (7, I l.length), (8, I i)] ∧ es = [some ⟨0, rowE Val.d l⟩]) l.length ⟨0, Nat.zero_add _, rfl, rfl, rfl⟩ ?_
  rintro m0 _ _ ⟨i, hi, hsm, rfl, rfl⟩ ih
  rcases Nat.lt_or_ge i l.length with hlt | hge
  · obtain ⟨x, hx⟩ := get_lt hlt
    have hlt' : decide ((i : Int) < l.length) = true := by simpa using hlt
    have hlt2 : (i : Int) < l.length := by omega
    have hpx := hp x (List.mem_of_getElem? hx)
    obtain ⟨g0, g1⟩ := rowV_at hx
    simp +contextual (maxSteps := 10000000) only [go_sem, g0, g1, rowV_len, Nat.succ_mul, hpx, hlt', hlt2, wrap_i64 (n := (i : Int) + 1) (by omega) (by omega)]
    rw [hsm, idxS_drop hx]
    refine ite_intro (fun h => ?_) (fun h => ?_)
    · rw [if_pos h]
    · rw [if_neg h]
      have hsm' : idxS p l 0 = idxS p (l.drop (i + 1)) (i + 1) := by rw [hsm, idxS_drop hx, if_neg h]
      rw [← hsm']
      exact ih (m0 - 1) _ _ (by omega) ⟨i + 1, by omega, hsm', by simp only [Int.natCast_add, Int.cast_ofNat_Int], rfl⟩
  · have hlt' : decide ((i : Int) < l.length) = false := by simpa using hge
    simp +contextual (maxSteps := 10000000) only [go_sem, hlt']
    rw [hsm, List.drop_eq_nil_of_le hge]; rfl
theorem unl_has (u : Val) (p : Val → Bool) (l : List Val) (hl : l.length ≤ 40000000000) (hp : ∀ x ∈ l, EV 161 [x.d, .rp u.cs] [] = some (.ret (B (p x)), [])) : EV 100 [.ref 0 0 4 0 l.length, .fn (.func 161) [] [.rp u.cs]] [some ⟨0, rowE Val.d l⟩] = some (.ret (B (l.any p)), [some ⟨0, rowE Val.d l⟩]) := by
  refine (ev_body ⟨[], [], [], false, [], noIt⟩ [.tmp 4] rfl Tryz.func100 rfl rfl rfl (by kernel_rfl) (by show 2 ≤ 9; decide) (by kernel_rfl)).trans ?_
  simp +contextual (maxSteps := 10000000) only [go_sem, unl_idx u p l hl hp, idxS_ge]
end Go.Bw.R1

namespace Go.Bw.R1
set_option maxRecDepth 5000
open Go Go.Bw Go.Proofs
theorem keys_c (m : Val) : EV 160 [m.d] [] = some (.ret (.fn (.func 172) [] [.rp m.cs]), []) := by
  refine (ev_body ⟨[1], [], [], true, [], noIt⟩ [.tmp 2] rfl Tryz.func160 rfl rfl rfl (by kernel_rfl) (by show 1 ≤ 4; decide) (by kernel_rfl)).trans ?_
  simp +contextual (maxSteps := 10000000) only [go_sem]
theorem keysIt_val (m : Val) (h : m.kids.length ≤ 40000000000) : keysIt (.fn (.func 172) [] [.rp m.cs]) = some (pairsD (m.kids.map Val.d)) := by
  unfold keysIt
  simp only
  rw [if_pos]
  refine ⟨rfl, by simpa using h, fun e he => ?_⟩
  obtain ⟨v, _, rfl⟩ := List.mem_map.1 he
  exact ⟨D.free_refs (Val.refs v), v.cs, by rw [Val.fold, Val.eta], rfl⟩
theorem unl1_c (u x : Val) (h : x.sz ≤ 40000000000) : EV 161 [x.d, .rp u.cs] [] = some (.ret (B (same x u)), []) := by
  refine (ev_body ⟨[2], [], [], false, [], noIt⟩ [.tmp 3] rfl Tryz.func161 rfl rfl rfl (by kernel_rfl) (by show 2 ≤ 7; decide) (by kernel_rfl)).trans ?_
  simp +contextual (maxSteps := 10000000) only [go_sem, same_c _ x u (Nat.le_refl _) h]
/-- pairs of values -/
def pairL : List Val → List (Val × Val)
  | a :: b :: r => (a, b) :: pairL r
  | _ => []
theorem pairsD_map : ∀ l : List Val, pairsD (l.map Val.d) = (pairL l).map fun p => [p.1.d, p.2.d]
  | [] => rfl
  | [_] => rfl
  | a :: b :: r => by simp only [List.map_cons, pairsD, pairL, pairsD_map r]
theorem keyL_pair : ∀ l : List Val, keyL l = (pairL l).map Prod.fst
  | [] => rfl
  | [_] => rfl
  | a :: b :: r => by simp only [keyL, pairL, List.map_cons, keyL_pair r]
theorem pair_mem : ∀ {l : List Val} {p : Val × Val}, p ∈ pairL l → p.1 ∈ l ∧ p.2 ∈ l
  | [], p, h => by simp [pairL] at h
  | [_], p, h => by simp [pairL] at h
  | a :: b :: r, p, h => by
    rcases List.mem_cons.1 h with rfl | h
    · simp
    · obtain ⟨h1, h2⟩ := pair_mem h
      exact ⟨List.mem_cons_of_mem _ (List.mem_cons_of_mem _ h1), List.mem_cons_of_mem _ (List.mem_cons_of_mem _ h2)⟩
theorem pair_len : ∀ l : List Val, (pairL l).length ≤ l.length
  | [] => Nat.le_refl _
  | [_] => by simp [pairL]
  | a :: b :: r => by have := pair_len r; simp only [pairL, List.length_cons]; omega
theorem unl_nil (u : Val) : EV 100 [.nils, .fn (.func 161) [] [.rp u.cs]] [] = some (.ret (B false), []) := by
  have h : EV 134 [.nils, .fn (.func 161) [] [.rp u.cs]] [] = some (.ret (I (-1)), []) := by
    refine (ev_body ⟨[], [(0, [0, 1, 7, 8])], [], false, [], noIt⟩ [.tmp 4] rfl Tryz.func134 rfl rfl rfl (by kernel_rfl) (by show 2 ≤ 19; decide) (by kernel_rfl)).trans ?_
    simp +contextual (maxSteps := 10000000) only [go_sem]
    refine lpK_inv (fun m0 f es => f = [(0, .nils), (1, .fn (.func 161) [] [.rp u.cs]), (7, I 0), (8, I 0)] ∧ es = []) 0 ⟨rfl, rfl⟩ ?_
    rintro m0 _ _ ⟨rfl, rfl⟩ ih
    simp +contextual (maxSteps := 10000000) only [go_sem]
  refine (ev_body ⟨[], [], [], false, [], noIt⟩ [.tmp 4] rfl Tryz.func100 rfl rfl rfl (by kernel_rfl) (by show 2 ≤ 9; decide) (by kernel_rfl)).trans ?_
  simp +contextual (maxSteps := 10000000) only [go_sem, h]
def Pd (p : Val × Val) : List D := [p.1.d, p.2.d]
/-- how the loop's rounds begin -/
def UnI (m : Val) (yss : List (List D)) (l : Fr) (es : Sto) : Prop :=
  ∃ (seen : List Val) (rest : List (Val × Val)), yss = rest.map Pd ∧ noSame [] (keyL m.kids) = noSame seen (rest.map Prod.fst) ∧ seen.length + rest.length ≤ 40000000000 ∧ (∀ x ∈ seen, x.sz ≤ 40000000000) ∧ (∀ p ∈ rest, p.1.sz ≤ 40000000000) ∧
    ((seen = [] ∧ l = [(6, .fn (.func 172) [] [.rp m.cs]), (5, m.d), (3, .ptr 1 0 0), (2, .ptr 0 0 0), (1, .rp m.cs), (0, m.d)] ∧ es = [some ⟨0, [B false]⟩, some ⟨0, [.nils]⟩]) ∨
     (l = [(6, .fn (.func 172) [] [.rp m.cs]), (5, m.d), (3, .ptr 0 0 0), (2, .ptr 2 0 0), (1, .rp m.cs), (0, m.d)] ∧ es = [some ⟨0, [.ref 1 0 4 0 seen.length]⟩, some ⟨0, rowE Val.d seen⟩, some ⟨0, [B false]⟩]))
set_option maxHeartbeats 1000000 in
theorem unlike_c (m : Val) (hs : m.sz ≤ 40000000000) : EV 138 [m.d] [] = some (.ret (B (noSame [] (keyL m.kids))), []) := by
  refine (ev_body ⟨[1], [], [(6, [(0, 0, false), (1, 0, false), (2, 0, false), (3, 0, false), (4, 0, true), (5, 1, false), (6, 0, true), (7, 0, true)]), (1000006, [(6, 7, false), (0, 0, false), (1, 0, false), (2, 0, false), (3, 0, false), (4, 0, true), (5, 1, false), (7, 0, true), (6, 0, true)])], false, [(3, [4])], keysIt⟩ [.cell 2 4] rfl Tryz.func138 rfl rfl rfl (by kernel_rfl) (by show 1 ≤ 18; decide) (by kernel_rfl)).trans ?_
  have hl := szL_len m.kids
  have hz := Val.sz_eq m
  simp +contextual (maxSteps := 10000000) only [go_sem, keys_c, keysIt_val m (by omega)]
  refine rgK_inv (UnI m) ⟨[], pairL m.kids, pairsD_map _, by rw [keyL_pair], by have := pair_len m.kids; simp only [List.length_nil]; omega, fun x hx => (by simp at hx), fun p hp => by have := szL_in (pair_mem hp).1; omega, .inl ⟨rfl, rfl, rfl⟩⟩ ?_ ?_
  · rintro l es ⟨seen, rest, hy, hn, _, _, _, h⟩
    have hr : rest = [] := by simpa using hy.symm
    subst hr
    rw [hn]
    rcases h with ⟨rfl, rfl, rfl⟩ | ⟨rfl, rfl⟩
    · simp +contextual (maxSteps := 10000000) only [go_sem, List.map_nil, noSame]
    · simp +contextual (maxSteps := 10000000) only [go_sem, List.map_nil, noSame]
  · rintro ys yss l es ⟨seen, rest, hy, hn, hln, hsz, hps, h⟩ ih
    cases rest with
    | nil => cases hy
    | cons p rest =>
      simp only [List.map_cons, List.cons.injEq, Pd] at hy
      obtain ⟨rfl, rfl⟩ := hy
      simp only [List.map_cons, List.length_cons, noSame] at hn hln
      rw [hn]
      rcases h with ⟨rfl, rfl, rfl⟩ | ⟨rfl, rfl⟩
      · simp +contextual (maxSteps := 10000000) only [go_sem, unl_nil]
        rw [rowV_one]
        refine (ih _ _ ⟨[p.1], rest, rfl, by rw [hn]; rfl, by simpa [Nat.add_comm] using hln, fun x hx => by rw [List.mem_singleton.1 hx]; exact hps p (List.mem_cons_self ..), fun q hq => hps q (List.mem_cons_of_mem _ hq), .inr ⟨rfl, rfl⟩⟩).trans ?_
        · rw [hn]; rfl
      · have hu := unl_has p.1 (fun s => same s p.1) seen (by omega) fun x hx => unl1_c p.1 x (by have := hsz x hx; omega)
        have hb : (seen.length + 1) * 56 ≤ 140737488355328 := by omega
        have hr := rowV_len seen
        have hs1 : (seen.length : Int) < seen.length + 1 := by omega
        have hd : ∀ a b c d : D, List.drop (seen.length * 4 + 4) (rowE Val.d seen ++ [a, b, c, d]) = [] := fun a b c d => List.drop_eq_nil_of_le (by simp [hr])
        simp +contextual (maxSteps := 10000000) only [go_sem, hu, hr, hb, hs1, hd, List.take_left' hr]
        refine ite_intro (fun h => ?_) (fun h => ?_)
        · rw [if_pos h]
        · rw [if_neg h, rowV_snoc]
          refine (ih _ _ ⟨seen ++ [p.1], rest, rfl, by rw [hn, if_neg h], by simp only [List.length_append, List.length_cons, List.length_nil]; omega, fun x hx => (List.mem_append.1 hx).elim (hsz x) fun hx => by rw [List.mem_singleton.1 hx]; exact hps p (List.mem_cons_self ..), fun q hq => hps q (List.mem_cons_of_mem _ hq), .inr ⟨rfl, ?_⟩⟩).trans ?_
          · simp only [List.length_append, List.length_cons, List.length_nil, Nat.zero_add]
          · rw [hn, if_neg h]
end Go.Bw.R1

namespace Go.Bw.R1
set_option maxRecDepth 5000
open Go Go.Bw Go.Proofs
mutual
def Val.wf : Val → Prop
  | .mk k n _ l => (0 ≤ k ∧ k < 256 ∧ 0 ≤ n ∧ n < 18446744073709551616) ∧ Val.wfL l
def Val.wfL : List Val → Prop
  | [] => True
  | v :: l => Val.wf v ∧ Val.wfL l
end
theorem wfL_mem : ∀ {l : List Val}, Val.wfL l → ∀ x ∈ l, x.wf
  | v :: l, h, x, hx => by
    rcases List.mem_cons.1 hx with rfl | hx
    · exact h.1
    · exact wfL_mem h.2 x hx
theorem Val.wf.num {v : Val} (h : v.wf) : 0 ≤ v.num := by cases v; exact h.1.2.2.1
theorem Val.wf.kids {v : Val} (h : v.wf) : Val.wfL v.kids := by cases v; exact h.2
theorem fam1_c (u x y : Val) (r : List Val) (hu : u.kids = y :: r) (hs : y.sz ≤ 40000000000) (hx : mayS x = true) (hy : mayS y = true) : EV 139 [x.d, .rp u.cs] [] = some (.ret (B (!alike y x)), []) := by
  refine (ev_body ⟨[2], [], [(1, [(0, 0, false), (1, 0, false), (2, 0, false), (3, 0, false), (4, 0, false), (5, 0, false), (6, 0, false), (7, 0, false)])], false, [], noIt⟩ [.tmp 3] rfl Tryz.func139 rfl rfl rfl (by kernel_rfl) (by show 2 ≤ 11; decide) (by kernel_rfl)).trans ?_
  simp +contextual (maxSteps := 10000000) only [go_sem, hu, List.map_cons, alike_c y.sz y x (Nat.le_refl _) hs hy hx, List.length_cons]
  rfl
theorem mod2 (n : Nat) : (((n : Int).tmod 2) == 0) = (n % 2 == 0) := by
  rw [Int.tmod_eq_emod_of_nonneg (by omega), Bool.eq_iff_iff]
  simp only [beq_iff_eq]
  omega
set_option maxHeartbeats 2000000 in
theorem fam22 (v : Val) (hk : v.kind = 22) : EV 104 [v.d] [] = some (.ret (B (famS v.kind v.kids)), []) := by
  refine (ev_body ⟨[1], [], [], false, [], noIt⟩ [.tmp 2] rfl Tryz.func104 rfl rfl rfl (by kernel_rfl) (by show 1 ≤ 49; decide) (by kernel_rfl)).trans ?_
  simp +contextual (maxSteps := 10000000) only [go_sem, hk, famS]
set_option maxHeartbeats 2000000 in
theorem fam23 (n : Int) (t : ByteArray) (l : List Val) (hs : (Val.mk 23 n t l).sz ≤ 40000000000) : EV 104 [(Val.mk 23 n t l).d] [] = some (.ret (B (famS 23 l)), []) := by
  refine (ev_body ⟨[1], [], [], false, [], noIt⟩ [.tmp 2] rfl Tryz.func104 rfl rfl rfl (by kernel_rfl) (by show 1 ≤ 49; decide) (by kernel_rfl)).trans ?_
  have hu := unlike_c _ hs
  simp only [Val.kids_mk] at hu
  cases h : (l.length % 2 == 0)
  · simp +contextual (maxSteps := 10000000) only [go_sem, famS, mod2, h, Bool.false_and]
  · simp +contextual (maxSteps := 10000000) only [go_sem, famS, mod2, h, hu]
def ar0 : List Val → Val → Bool
  | [], _ => false
  | y :: _, x => !alike y x
theorem ar0_all (l : List Val) : (!l.any (ar0 l)) = famS 24 l := by
  cases l with
  | nil => rfl
  | cons y r =>
    have h : famS 24 (y :: r) = (y :: r).all fun x => alike y x := rfl
    rw [h, List.all_eq_not_any_not]
    rfl
set_option maxHeartbeats 2000000 in
theorem fam24 (n : Int) (t : ByteArray) (l : List Val) (hs : (Val.mk 24 n t l).sz ≤ 40000000000) (hm : mayL l = true) : EV 104 [(Val.mk 24 n t l).d] [] = some (.ret (B (famS 24 l)), []) := by
  have hl := szL_len l
  have hz := Val.sz_eq (Val.mk 24 n t l)
  simp only [Val.kids_mk] at hz
  have hf := fam_has (Val.mk 24 n t l) (ar0 l) l (by omega) (by
    intro x hx
    rw [mayL_all, List.all_eq_true] at hm
    match l, hs, hm, hl, hx with
    | y :: r, hs, hm, hl, hx =>
      have hy : y ∈ y :: r := List.mem_cons_self ..
      exact fam1_c _ x y r rfl (by have := szL_in hy; omega) (hm x hx) (hm y hy))
  simp only [Val.cs, Val.kind_mk, Val.num_mk, Val.text_mk, Val.kids_mk] at hf
  refine (ev_body ⟨[1], [], [], false, [], noIt⟩ [.tmp 2] rfl Tryz.func104 rfl rfl rfl (by kernel_rfl) (by show 1 ≤ 49; decide) (by kernel_rfl)).trans ?_
  simp +contextual (maxSteps := 10000000) only [go_sem, hf, ar0_all]
set_option maxHeartbeats 2000000 in
theorem fam25 (n : Int) (t : ByteArray) (l : List Val) (hl : l.length ≤ 40000000000) : EV 104 [(Val.mk 25 n t l).d] [] = some (.ret (B (famS 25 l)), []) := by
  refine (ev_body ⟨[1], [], [], false, [], noIt⟩ [.tmp 2] rfl Tryz.func104 rfl rfl rfl (by kernel_rfl) (by show 1 ≤ 49; decide) (by kernel_rfl)).trans ?_
  match l, hl with
  | [], _ => simp +contextual (maxSteps := 10000000) only [go_sem, famS, List.map_nil, List.length_nil]
  | [x], _ => simp +contextual (maxSteps := 10000000) only [go_sem, famS, List.map_nil, List.length_nil, List.map_cons, List.length_cons]
  | [x, y], _ =>
    cases h : (x.kind == 6)
    · simp +contextual (maxSteps := 10000000) only [go_sem, famS, List.map_nil, List.length_nil, List.map_cons, List.length_cons, h]
    · simp +contextual (maxSteps := 10000000) only [go_sem, famS, List.map_nil, List.length_nil, List.map_cons, List.length_cons, h]
  | x :: y :: z :: r, hl =>
    have h : (((r.length + 1 + 1 + 1 : Nat) : Int) == 2) = false := by simp <;> omega
    simp +contextual (maxSteps := 10000000) only [go_sem, famS, List.map_cons, List.length_cons]
    rw [show ((r.length : Int) + 1 + 1 + 1 == 2) = false by simp <;> omega]
    rfl
set_option maxHeartbeats 2000000 in
theorem fam_no (v : Val) (h2 : v.kind ≠ 22) (h3 : v.kind ≠ 23) (h4 : v.kind ≠ 24) (h5 : v.kind ≠ 25) : EV 104 [v.d] [] = some (.ret (B (famS v.kind v.kids)), []) := by
  refine (ev_body ⟨[1], [], [], false, [], noIt⟩ [.tmp 2] rfl Tryz.func104 rfl rfl rfl (by kernel_rfl) (by show 1 ≤ 49; decide) (by kernel_rfl)).trans ?_
  simp +contextual (maxSteps := 10000000) only [go_sem, fb h2, fb h3, fb h4, fb h5, famS]
  cases v.kids with
  | nil => rfl
  | cons x r =>
    have h : (((x :: r).length : Int) == 0) = false := by simp <;> omega
    rw [h]; rfl
end Go.Bw.R1

namespace Go.Bw.R1
set_option maxRecDepth 5000
open Go Go.Bw Go.Proofs
theorem family_c (v : Val) (hs : v.sz ≤ 40000000000) (hm : mayL v.kids = true) : EV 104 [v.d] [] = some (.ret (B (famS v.kind v.kids)), []) := by
  by_cases h2 : v.kind = 22
  · exact fam22 v h2
  by_cases h3 : v.kind = 23
  · cases v; simp only [Val.kind_mk] at h3; subst h3; exact fam23 _ _ _ hs
  by_cases h4 : v.kind = 24
  · cases v; simp only [Val.kind_mk] at h4; subst h4; exact fam24 _ _ _ hs hm
  by_cases h5 : v.kind = 25
  · have hl := szL_len v.kids
    have hz := Val.sz_eq v
    cases v; simp only [Val.kind_mk, Val.kids_mk] at h5 hl hz; subst h5; exact fam25 _ _ _ (by omega)
  exact fam_no v h2 h3 h4 h5
theorem any_not (l : List Val) : (l.any fun x => !mayS x) = !mayL l := by
  rw [mayL_all, List.all_eq_not_any_not, Bool.not_not]
set_option maxHeartbeats 2000000 in
theorem may_c : ∀ (n : Nat) (v : Val), v.sz ≤ n → n ≤ 40000000000 → v.wf → EV 68 [v.d] [] = some (.ret (B (mayS v)), [])
  | 0, .mk .., h, _, _ => by simp [Val.sz] at h
  | n + 1, v, hs, hn, hw => by
    have hl := szL_len v.kids
    have hz := Val.sz_eq v
    have h1 : ∀ x ∈ v.kids, EV 101 [x.d] [] = some (.ret (B (!mayS x)), []) := fun x hx => by
      refine (ev_body ⟨[1], [], [], false, [], noIt⟩ [.tmp 2] rfl Tryz.func101 rfl rfl rfl (by kernel_rfl) (by show 1 ≤ 6; decide) (by kernel_rfl)).trans ?_
      simp +contextual (maxSteps := 10000000) only [go_sem, may_c n x (by have := szL_in hx; omega) (by omega) (wfL_mem hw.kids x hx)]
    have h2 := may_has (fun x => !mayS x) v.kids (by omega) h1
    rw [any_not] at h2
    refine (ev_body ⟨[1], [], [], false, [], noIt⟩ [.tmp 2] rfl Tryz.func68 rfl rfl rfl (by kernel_rfl) (by show 1 ≤ 26; decide) (by kernel_rfl)).trans ?_
    rw [mayS_eq]
    by_cases k1 : 1 ≤ v.kind
    · have e1 : decide (v.kind < 1) = false := by simp <;> omega
      have f1 : decide (1 ≤ v.kind) = true := by simpa using k1
      by_cases k2 : v.kind ≤ 25
      · have e2 : decide (25 < v.kind) = false := by simp <;> omega
        have f2 : decide (v.kind ≤ 25) = true := by simpa using k2
        cases hm : mayL v.kids
        · rw [hm] at h2
          simp +contextual (maxSteps := 10000000) only [go_sem, h2, e1, e2, f1, f2, Bool.not_false, Bool.and_false, Bool.false_and, Bool.and_true]
        · rw [hm] at h2
          have h3 := num_c v hw.num
          have h4 := txt_c v (by omega)
          have h5 := family_c v (by omega) hm
          cases hn : numS v.kind v.num
          · rw [hn] at h3
            simp +contextual (maxSteps := 10000000) only [go_sem, h2, h3, e1, e2, f1, f2, Bool.not_true, Bool.and_false, Bool.false_and, Bool.and_true]
          · rw [hn] at h3
            cases ht : textS v.kind v.text
            · rw [ht] at h4
              simp +contextual (maxSteps := 10000000) only [go_sem, h2, h3, h4, e1, e2, f1, f2, Bool.not_true, Bool.and_false, Bool.false_and, Bool.and_true]
            · rw [ht] at h4
              simp +contextual (maxSteps := 10000000) only [go_sem, h2, h3, h4, h5, e1, e2, f1, f2, Bool.not_true, Bool.and_false, Bool.false_and, Bool.and_true, Bool.true_and]
      · have e2 : decide (25 < v.kind) = true := by simp <;> omega
        have f2 : decide (v.kind ≤ 25) = false := by simp <;> omega
        simp +contextual (maxSteps := 10000000) only [go_sem, e1, e2, f1, f2, Bool.and_false, Bool.false_and]
    · have e1 : decide (v.kind < 1) = true := by simp <;> omega
      have f1 : decide (1 ≤ v.kind) = false := by simp <;> omega
      simp +contextual (maxSteps := 10000000) only [go_sem, e1, f1, Bool.false_and]
def rightS (v : Val) : Bool := decide (v.depth ≤ 16) && decide (v.items ≤ 1024) && mayS v
set_option maxHeartbeats 2000000 in
theorem right_c (v : Val) (h : v.sz ≤ 40000000000) (hw : v.wf) : EV 59 [v.d] [] = some (.ret (B (rightS v)), []) := by
  refine (ev_body ⟨[1], [], [], false, [], noIt⟩ [.tmp 2] rfl Tryz.func59 rfl rfl rfl (by kernel_rfl) (by show 1 ≤ 15; decide) (by kernel_rfl)).trans ?_
  have h1 := depth_c v (by omega)
  have h2 := items_c v (by omega)
  have h3 := may_c _ v (Nat.le_refl _) h hw
  by_cases k1 : v.depth ≤ 16
  · have e1 : decide ((v.depth : Int) ≤ 16) = true := by simp <;> omega
    have f1 : decide (v.depth ≤ 16) = true := by simpa using k1
    by_cases k2 : v.items ≤ 1024
    · have e2 : decide ((v.items : Int) ≤ 1024) = true := by simp <;> omega
      have f2 : decide (v.items ≤ 1024) = true := by simpa using k2
      simp +contextual (maxSteps := 10000000) only [go_sem, h1, h2, h3, e1, e2, rightS, f1, f2, Bool.true_and]
    · have e2 : decide ((v.items : Int) ≤ 1024) = false := by simp <;> omega
      have f2 : decide (v.items ≤ 1024) = false := by simp <;> omega
      simp +contextual (maxSteps := 10000000) only [go_sem, h1, h2, e1, e2, rightS, f1, f2, Bool.true_and, Bool.false_and]
  · have e1 : decide ((v.depth : Int) ≤ 16) = false := by simp <;> omega
    have f1 : decide (v.depth ≤ 16) = false := by simp <;> omega
    simp +contextual (maxSteps := 10000000) only [go_sem, h1, e1, rightS, f1, Bool.false_and]
end Go.Bw.R1

namespace Go.Bw.R1
set_option maxRecDepth 5000
open Go Go.Bw Go.Proofs
mutual
theorem same_refl : ∀ a : Val, same a a = true
  | .mk k n t l => by rw [same, sameL_refl l]; simp
theorem sameL_refl : ∀ a : List Val, sameL a a = true
  | [] => rfl
  | a :: l => by rw [sameL, same_refl a, sameL_refl l]; rfl
end
theorem alikeF_refl : ∀ (n : Nat) (a : Val), a.sz ≤ n → mayS a = true → alikeF n a a = true
  | 0, .mk .., h, _ => by simp [Val.sz] at h
  | n + 1, a, hn, hm => by
    by_cases hk : a.kind = 25
    · obtain ⟨x, y, hx, _, my⟩ := may_desc hm hk
      rw [Val.sz_eq, hx] at hn
      simp only [Val.szL] at hn
      simp only [alikeF, hk, bne_self_eq_false, Bool.or_self, Bool.false_eq_true, if_false, hx, same_refl, alikeF_refl n y (by omega) my, Bool.and_self]
    · have e : (a.kind != 25) = true := by simpa using hk
      simp only [alikeF, e, Bool.true_or, if_true, beq_self_eq_true]
end Go.Bw.R1

namespace Go.Bw
set_option maxRecDepth 5000
open Go
theorem Arg.cells {P : Program} {t : TypeId} {d : D} {ag : Bool} (ha : aggB P t = some ag) (h : Arg P t d) : ∃ cs, Rd P t cs ∧ d = (whole ag cs).getD .undef := by
  obtain ⟨cs, h1, _, h3⟩ := h
  rw [ha] at h3
  exact ⟨cs, h1, h3⟩
end Go.Bw
namespace Go.Bw.R1
open Go Go.Bw Go.Proofs
end Go.Bw.R1

namespace Go.Bw.R1
set_option maxRecDepth 5000
open Go Go.Bw Go.Proofs
end Go.Bw.R1

namespace Go.Bw.R1
set_option maxRecDepth 5000
open Go Go.Bw Go.Proofs
abbrev U8 (n : Int) : D := .sc (.int .u8 n)
abbrev U64 (n : Int) : D := .sc (.int .u64 n)
abbrev Sx (t : ByteArray) : D := .sc (.string t)
theorem u8L_refs (l : List Int) : D.refsL (l.map fun n => D.sc (.int .u8 n)) = [] := nums_refsL .u8 l
theorem u8L_can (l : List Int) : D.canL (l.map fun n => D.sc (.int .u8 n)) = l.map fun n => D.sc (.int .u8 n) := nums_canL .u8 l
attribute [go_sem] u8L_refs u8L_can
end Go.Bw.R1

namespace Go.Bw.R1
set_option maxRecDepth 5000
open Go Go.Bw Go.Proofs
abbrev vN : Val := .mk 1 0 ⟨#[]⟩ []
end Go.Bw.R1

namespace Go.Bw.R1
set_option maxRecDepth 5000
open Go Go.Bw Go.Proofs
theorem strs_refs (l : List ByteArray) : D.refsL (l.map fun s => D.sc (.string s)) = [] := by
  induction l with
  | nil => rfl
  | cons a l ih => simp only [List.map_cons, D.refsL, D.refs, ih, List.nil_append]
theorem strs_can (l : List ByteArray) : D.canL (l.map fun s => D.sc (.string s)) = l.map fun s => D.sc (.string s) := by
  rw [D.canL_map, List.map_map]; rfl
attribute [go_sem] strs_refs strs_can
end Go.Bw.R1

namespace Go.Bw.R1
set_option maxRecDepth 5000
open Go Go.Bw Go.Proofs
end Go.Bw.R1

namespace Go.Bw.R1
set_option maxRecDepth 5000
open Go Go.Bw Go.Proofs
theorem strOk : EncOk (fun s : ByteArray => D.sc (.string s)) 1 := ⟨fun _ => rfl, by decide, fun _ => rfl, fun _ => rfl, fun _ => rfl, fun _ => rfl⟩
theorem rowS_refs (l : List ByteArray) : D.refsL (rowE (fun s : ByteArray => D.sc (.string s)) l) = [] := strOk.row_refs l
theorem fin_strs (l : List ByteArray) : (frzN (stoE (fun s : ByteArray => D.sc (.string s)) l) (fromB 0) 20 (accE 1 l)).can = .ro false (l.map fun s => D.sc (.string s)) := fin_acc strOk l 19
attribute [go_sem] rowS_refs fin_strs
end Go.Bw.R1

namespace Go.Bw.R1
set_option maxRecDepth 5000
open Go Go.Bw Go.Proofs
theorem right_may {v : Val} (h : rightS v = true) : mayS v = true := by
  simp only [rightS, Bool.and_eq_true] at h; exact h.2
/-- without what is null at the end -/
def trimS (l : List Val) : List Val := (l.reverse.dropWhile fun v => v.kind == 1).reverse
def putS (code : Int) (l : List Val) : Val := .mk 25 0 ⟨#[]⟩ [.mk 6 code ⟨#[]⟩ [], .mk 22 0 ⟨#[]⟩ (trimS l)]
theorem trimS_take : ∀ (l : List Val) (n : Nat) (h : n ≤ l.length), (∀ i x, n ≤ i → l[i]? = some x → x.kind = 1) → trimS l = trimS (l.take n) := by
  intro l n h hx
  have e : l = l.take n ++ l.drop n := (List.take_append_drop n l).symm
  have hd : ∀ x ∈ (l.drop n).reverse, (x.kind == 1) = true := fun x hm => by
    obtain ⟨i, hi⟩ := List.getElem?_of_mem (List.mem_reverse.1 hm)
    rw [List.getElem?_drop] at hi
    simpa using hx _ _ (by omega) hi
  unfold trimS
  conv => lhs; rw [e]
  rw [List.reverse_append, List.dropWhile_append_of_pos hd]
theorem trimS_end {l : List Val} {n : Nat} {x : Val} (h : l[n]? = some x) (hk : x.kind ≠ 1) : trimS (l.take (n + 1)) = l.take (n + 1) := by
  rw [take_snoc h]
  unfold trimS
  rw [List.reverse_append]
  simp only [List.reverse_cons, List.reverse_nil, List.nil_append, List.cons_append]
  rw [List.dropWhile_cons, if_neg (by simpa using hk)]
  simp
theorem trimS_sz (l : List Val) : Val.szL (trimS l) ≤ Val.szL l := by
  obtain ⟨n, hn⟩ : ∃ n, trimS l = l.take n := by
    unfold trimS
    obtain ⟨t, ht⟩ := List.dropWhile_suffix (fun v : Val => v.kind == 1) (l := l.reverse)
    have : l = ((l.reverse.dropWhile fun v => v.kind == 1).reverse) ++ t.reverse := by
      rw [← List.reverse_append, ht, List.reverse_reverse]
    generalize (l.reverse.dropWhile fun v => v.kind == 1).reverse = a at this
    subst this
    exact ⟨a.length, by rw [List.take_left]⟩
  rw [hn]; exact szL_take l n
end Go.Bw.R1

namespace Go.Bw.R1
set_option maxRecDepth 5000
open Go Go.Bw Go.Proofs
abbrev zVr : Option En := some ⟨0, [.sc (.int .u8 0), .sc (.int .u64 0), .sc (.string ⟨#[]⟩), .nils]⟩
theorem putS_sz (code : Int) (l : List Val) : (putS code l).sz ≤ Val.szL l + 3 := by
  have := trimS_sz l
  have e : (putS code l).sz = 0 + ((0 + 0 + 1) + ((0 + Val.szL (trimS l) + 1) + 0)) + 1 := by simp only [putS, Val.sz, Val.szL]; rfl
  omega
set_option maxHeartbeats 1000000 in
theorem fput_end (l : List Val) (n : Nat) (hn : n ≤ l.length) (h1 : ∀ i x, n ≤ i → l[i]? = some x → x.kind = 1) (h2 : ∀ x, 0 < n → l[n - 1]? = some x → x.kind ≠ 1) : l.take n = trimS l := by
  rw [trimS_take l n hn h1]
  cases n with
  | zero => rfl
  | succ n =>
    obtain ⟨x, hx⟩ := get_lt (l := l) (i := n) (by omega)
    exact (trimS_end hx (h2 x (by omega) (by simpa using hx))).symm
set_option maxHeartbeats 2000000 in
theorem fput_c (code : Int) (l : List Val) (hl : Val.szL l ≤ 3999990) : EV 20 [U64 code, .ro false (l.map Val.d)] [] = some (.ret (putS code l).d, []) := by
  have hlen := szL_len l
  refine (ev_body ⟨[], [(0, [0, 1, 4, 5])], [(4, [(0, 0, false), (1, 0, false), (2, 0, false), (3, 0, false), (4, 0, false), (5, 0, false), (6, 0, false), (7, 0, true)])], true, [], noIt⟩ [.cell 4 49] rfl Tryz.func20 rfl rfl rfl (by kernel_rfl) (by show 2 ≤ 28; decide) (by kernel_rfl)).trans ?_
  simp +contextual (maxSteps := 10000000) only [go_sem]
  refine lpK_inv (fun m0 f es => ∃ (n : Nat) (j : Int), j = n ∧ m0 = n ∧ n ≤ l.length ∧ (∀ i x, n ≤ i → l[i]? = some x → x.kind = 1) ∧ f = [(0, U64 code), (1, .ro false (l.map Val.d)), (4, .ptr 0 0 0), (5, I j)] ∧ es = [zVr]) l.length ⟨l.length, _, rfl, rfl, Nat.le_refl _, fun i x h1 h2 => by have := (List.getElem?_eq_some_iff.1 h2).1; omega, rfl, rfl⟩ ?_
  rintro m0 _ _ ⟨n, j, hj, hm, hn, hz, rfl, rfl⟩ ih
  have fin : (∀ x, 0 < n → l[n - 1]? = some x → x.kind ≠ 1) → (l.map Val.d).take j.toNat = (trimS l).map Val.d ∧ EV 40 [U8 22, .ro false ((trimS l).map Val.d)] [] = some (.ret (Val.mk 22 0 ⟨#[]⟩ (trimS l)).d, []) ∧ EV 39 [(Val.mk 6 code ⟨#[]⟩ []).d, (Val.mk 22 0 ⟨#[]⟩ (trimS l)).d] [] = some (.ret (putS code l).d, []) := fun h2 => by
    have e := fput_end l n hn hz h2
    have hs := trimS_sz l
    refine ⟨?_, many_c 22 (trimS l) (by omega), desc_c _ _ (by simp only [Val.sz, Val.szL]; show 0 + 0 + 1 + (0 + Val.szL (trimS l) + 1) ≤ 40000000000; omega)⟩
    rw [← List.map_take, show j.toNat = n by omega, e]
  have hall : ((l.map Val.d).all fun e => e.cells.length == 4) = true := by
    rw [List.all_eq_true]; intro e he; obtain ⟨v, _, rfl⟩ := List.mem_map.1 he; rw [Val.cells]; rfl
  have hjn : j.toNat ≤ l.length := by omega
  have hjl : decide (j ≤ (l.length : Int)) = true := by simp; omega
  have hj0 : 0 ≤ j := by omega
  have hjl' : j ≤ l.length := by omega
  rcases Nat.eq_zero_or_pos n with h0 | hpos
  · obtain ⟨f0, f1, f2⟩ := fin (fun x h => by omega)
    have e0 : decide (0 < j) = false := by simp; omega
    simp +contextual (maxSteps := 10000000) only [go_sem, e0, number_c, f0, f1, f2, hj0, hjl', hjn, hall, Bool.false_and, and_self]
  · obtain ⟨x, hx⟩ := get_lt (l := l) (i := n - 1) (by omega)
    have e0 : decide (0 < j) = true := by simp; omega
    have hw := wrap_i64 (n := j - 1) (by omega) (by omega)
    have g1 : l[(j - 1).toNat]? = some x := by rw [show (j - 1).toNat = n - 1 by omega]; exact hx
    have b1 : 0 ≤ j - 1 := by omega
    have b2 : j - 1 < l.length := by omega
    by_cases hk : x.kind = 1
    · have ek : (x.kind == 1) = true := by simpa using hk
      simp +contextual (maxSteps := 10000000) only [go_sem, e0, hw, g1, b1, b2, ek]
      refine ih (n - 1) _ _ (by omega) ⟨n - 1, _, by omega, rfl, by omega, fun i y hi hy => ?_, rfl, rfl⟩
      by_cases hin : i = n - 1
      · subst hin; rw [hx] at hy; simp only [Option.some.injEq] at hy; subst hy; exact hk
      · exact hz i y (by omega) hy
    · have ek : (x.kind == 1) = false := by simpa using hk
      obtain ⟨f0, f1, f2⟩ := fin (fun y _ hy => by rw [hx] at hy; simp only [Option.some.injEq] at hy; subst hy; exact hk)
      simp +contextual (maxSteps := 10000000) only [go_sem, e0, hw, g1, b1, b2, ek, number_c, f0, f1, f2, hj0, hjl', hjn, hall, Bool.false_and, and_self]
end Go.Bw.R1

namespace Go.Bw.R1
set_option maxRecDepth 5000
open Go Go.Bw Go.Proofs
abbrev vZ : Val := .mk 0 0 ⟨#[]⟩ []
end Go.Bw.R1

namespace Go.Bw.R1
set_option maxRecDepth 5000
open Go Go.Bw Go.Proofs
theorem trimS_pre (l : List Val) : ∃ n, n ≤ l.length ∧ trimS l = l.take n ∧ ∀ i x, n ≤ i → l[i]? = some x → x.kind = 1 := by
  suffices h : ∀ k, k ≤ l.length → (∀ i x, k ≤ i → l[i]? = some x → x.kind = 1) → ∃ n, n ≤ l.length ∧ trimS l = l.take n ∧ ∀ i x, n ≤ i → l[i]? = some x → x.kind = 1 from
    h l.length (Nat.le_refl _) fun i x h1 h2 => by have := (List.getElem?_eq_some_iff.1 h2).1; omega
  intro k
  induction k with
  | zero => intro hk h; exact ⟨0, hk, (fput_end l 0 hk h fun x h => by omega).symm, h⟩
  | succ k ih =>
    intro hk h
    obtain ⟨x, hx⟩ := get_lt (l := l) (i := k) (by omega)
    by_cases h1 : x.kind = 1
    · exact ih (by omega) fun i y hi hy => by
        by_cases e : i = k
        · subst e; rw [hx] at hy; simp only [Option.some.injEq] at hy; subst hy; exact h1
        · exact h i y (by omega) hy
    · exact ⟨k + 1, hk, (fput_end l (k + 1) hk h fun y _ hy => by
        simp only [Nat.add_sub_cancel] at hy; rw [hx] at hy; simp only [Option.some.injEq] at hy; subst hy; exact h1).symm, h⟩
theorem wfL_take {l : List Val} (h : Val.wfL l) (n : Nat) : Val.wfL (l.take n) := by
  induction l generalizing n with
  | nil => simpa using h
  | cons a l ih =>
    cases n with
    | zero => exact trivial
    | succ n => exact ⟨h.1, ih h.2 n⟩
theorem putS_wf (code : Int) (h0 : 0 ≤ code ∧ code < 18446744073709551616) {l : List Val} (h : Val.wfL l) : (putS code l).wf := by
  obtain ⟨n, _, h2, _⟩ := trimS_pre l
  refine ⟨by decide, ⟨⟨by decide, by decide, h0.1, h0.2⟩, trivial⟩, ⟨by decide, ?_⟩, trivial⟩
  rw [h2]; exact wfL_take h n
theorem mayS_put (code : Int) (l : List Val) : mayS (putS code l) = mayL (trimS l) := by
  simp only [putS, mayS, mayL]
  show (true && ((true && true && (true && true && true)) && ((true && mayL (trimS l) && (true && true && true)) && true)) && (true && true && true)) = mayL (trimS l)
  simp
theorem trim_last {l : List Val} {x : Val} (h : x.kind ≠ 1) : trimS (l ++ [x]) = l ++ [x] := by
  unfold trimS
  rw [List.reverse_append]
  simp only [List.reverse_cons, List.reverse_nil, List.nil_append, List.cons_append]
  rw [List.dropWhile_cons, if_neg (by simpa using h)]
  simp
end Go.Bw.R1

namespace Go.Bw.R1
set_option maxRecDepth 5000
open Go Go.Bw Go.Proofs
theorem lpK_go1 {P : Program} {GL : Nat → D} {C : Orc} {A : Ann} {m0 k : Nat} {K : List Kt} {l : Fr} {es : Sto} {ks : List Nat} {c : Code} : lpK P GL C A m0 k K ks c l es = run P GL C A m0 k (.lp ks c k :: K) c l es := by
  have key : lpK P GL C A m0 k K ks c l es = run P GL C A m0 k (.lp ks c k :: K) c l es := by
    unfold lpK
    rw [evL_eq]
    rfl
  exact key
/-- the value of a condition -/
def condV (s : ByteArray) : Val := if s.size = 0 then vN else putS 29 [.mk 21 0 s []]
abbrev wrongV : D := .tup [vZ.d, I 1]
theorem size0 (s : ByteArray) : decide (s = ⟨#[]⟩) = decide (s.size = 0) := by
  rw [decide_eq_decide]
  constructor
  · rintro rfl; rfl
  · intro h; exact ByteArray.ext (Array.eq_empty_of_size_eq_zero h)
theorem pcond_c (s : ByteArray) (hs : s.size ≤ 3000000) : EV 31 [Sx s] [] = some (.ret (if asc (bl s) = true then .tup [(condV s).d, I 0] else wrongV), []) := by
  have ha := uascii_c s (by omega)
  have hp := fput_c 29 [.mk 21 0 s []] (by simp only [Val.szL, Val.sz]; omega)
  simp only [List.map_cons, List.map_nil] at hp
  refine (ev_body ⟨[], [], [], true, [], noIt⟩ [.cell 2 49, .tmp 3] rfl Tryz.func31 rfl rfl rfl (by kernel_rfl) (by show 1 ≤ 18; decide) (by kernel_rfl)).trans ?_
  cases h : asc (bl s)
  · rw [h] at ha
    simp +contextual (maxSteps := 10000000) only [go_sem, ha]
  · rw [h] at ha
    by_cases h0 : s.size = 0
    · have hc : condV s = vN := if_pos h0
      have e : decide (s = ⟨#[]⟩) = true := by rw [size0]; simpa using h0
      simp +contextual (maxSteps := 10000000) only [go_sem, ha, e, null_c, hc]
    · have hc : condV s = putS 29 [.mk 21 0 s []] := if_neg h0
      have e : decide (s = ⟨#[]⟩) = false := by rw [size0]; simpa using h0
      simp +contextual (maxSteps := 10000000) only [go_sem, ha, e, text_c, hp, hc]
/-- which outcomes may be -/
def mayO (o : Outc) : Bool := asc (bl o.cond) && (decide (o.cond.size = 0) || o.kind == 3) &&
  (if o.kind = 1 then decide (o.a ≤ 4294967295) else if o.kind = 5 then decide (o.a ≤ 1) && decide (o.b ≤ 1) else if o.kind = 0 ∨ o.kind = 2 ∨ o.kind = 3 ∨ o.kind = 4 then o.a == 0 && o.b == 0 else false)
end Go.Bw.R1

namespace Go.Bw.R1
set_option maxRecDepth 5000
open Go Go.Bw Go.Proofs
set_option maxHeartbeats 1000000 in
theorem omay_0 (a b : Int) (c : ByteArray) (hs : c.size ≤ 3000000)  : EV 18 [(Outc.mk 0 a b c).d] [] = some (.ret (B (mayO ⟨0, a, b, c⟩)), []) := by
  have hz := size0 c
  have el : decide (a < 4294967296) = decide (a ≤ 4294967295) := decide_eq_decide.2 (by omega)
  have ha := uascii_c c (by omega)
  refine (ev_body ⟨[1], [], [], false, [], noIt⟩ [.tmp 2] rfl Tryz.func18 rfl rfl rfl (by kernel_rfl) (by show 1 ≤ 48; decide) (by kernel_rfl)).trans ?_
  cases hy : asc (bl c) <;> cases hq : decide (c.size = 0) <;> rw [hy] at ha <;> rw [hq] at hz
  all_goals (try simp only [Bool.false_eq_true, if_true, if_false] at ha)
  all_goals simp +contextual (maxSteps := 10000000) only [go_sem, ha, hz, hy, hq, el, mayO, Int.reduceEq, or_self, true_or, or_true, or_false, false_or, if_true, if_false, Bool.false_and, Bool.true_and, Bool.and_true, Bool.and_false, Bool.or_true, Bool.or_false, Bool.false_or, Bool.true_or, Bool.not_true, Bool.not_false]
  all_goals rfl
set_option maxHeartbeats 1000000 in
theorem omay_1 (a b : Int) (c : ByteArray) (hs : c.size ≤ 3000000)  : EV 18 [(Outc.mk 1 a b c).d] [] = some (.ret (B (mayO ⟨1, a, b, c⟩)), []) := by
  have hz := size0 c
  have el : decide (a < 4294967296) = decide (a ≤ 4294967295) := decide_eq_decide.2 (by omega)
  have ha := uascii_c c (by omega)
  refine (ev_body ⟨[1], [], [], false, [], noIt⟩ [.tmp 2] rfl Tryz.func18 rfl rfl rfl (by kernel_rfl) (by show 1 ≤ 48; decide) (by kernel_rfl)).trans ?_
  cases hy : asc (bl c) <;> cases hq : decide (c.size = 0) <;> rw [hy] at ha <;> rw [hq] at hz
  all_goals (try simp only [Bool.false_eq_true, if_true, if_false] at ha)
  all_goals simp +contextual (maxSteps := 10000000) only [go_sem, ha, hz, hy, hq, el, mayO, Int.reduceEq, or_self, true_or, or_true, or_false, false_or, if_true, if_false, Bool.false_and, Bool.true_and, Bool.and_true, Bool.and_false, Bool.or_true, Bool.or_false, Bool.false_or, Bool.true_or, Bool.not_true, Bool.not_false]
  all_goals rfl
set_option maxHeartbeats 1000000 in
theorem omay_2 (a b : Int) (c : ByteArray) (hs : c.size ≤ 3000000)  : EV 18 [(Outc.mk 2 a b c).d] [] = some (.ret (B (mayO ⟨2, a, b, c⟩)), []) := by
  have hz := size0 c
  have el : decide (a < 4294967296) = decide (a ≤ 4294967295) := decide_eq_decide.2 (by omega)
  have ha := uascii_c c (by omega)
  refine (ev_body ⟨[1], [], [], false, [], noIt⟩ [.tmp 2] rfl Tryz.func18 rfl rfl rfl (by kernel_rfl) (by show 1 ≤ 48; decide) (by kernel_rfl)).trans ?_
  cases hy : asc (bl c) <;> cases hq : decide (c.size = 0) <;> rw [hy] at ha <;> rw [hq] at hz
  all_goals (try simp only [Bool.false_eq_true, if_true, if_false] at ha)
  all_goals simp +contextual (maxSteps := 10000000) only [go_sem, ha, hz, hy, hq, el, mayO, Int.reduceEq, or_self, true_or, or_true, or_false, false_or, if_true, if_false, Bool.false_and, Bool.true_and, Bool.and_true, Bool.and_false, Bool.or_true, Bool.or_false, Bool.false_or, Bool.true_or, Bool.not_true, Bool.not_false]
  all_goals rfl
set_option maxHeartbeats 1000000 in
theorem omay_3 (a b : Int) (c : ByteArray) (hs : c.size ≤ 3000000)  : EV 18 [(Outc.mk 3 a b c).d] [] = some (.ret (B (mayO ⟨3, a, b, c⟩)), []) := by
  have hz := size0 c
  have el : decide (a < 4294967296) = decide (a ≤ 4294967295) := decide_eq_decide.2 (by omega)
  have ha := uascii_c c (by omega)
  refine (ev_body ⟨[1], [], [], false, [], noIt⟩ [.tmp 2] rfl Tryz.func18 rfl rfl rfl (by kernel_rfl) (by show 1 ≤ 48; decide) (by kernel_rfl)).trans ?_
  cases hy : asc (bl c) <;> cases hq : decide (c.size = 0) <;> rw [hy] at ha <;> rw [hq] at hz
  all_goals (try simp only [Bool.false_eq_true, if_true, if_false] at ha)
  all_goals simp +contextual (maxSteps := 10000000) only [go_sem, ha, hz, hy, hq, el, mayO, Int.reduceEq, or_self, true_or, or_true, or_false, false_or, if_true, if_false, Bool.false_and, Bool.true_and, Bool.and_true, Bool.and_false, Bool.or_true, Bool.or_false, Bool.false_or, Bool.true_or, Bool.not_true, Bool.not_false]
  all_goals rfl
set_option maxHeartbeats 1000000 in
theorem omay_4 (a b : Int) (c : ByteArray) (hs : c.size ≤ 3000000)  : EV 18 [(Outc.mk 4 a b c).d] [] = some (.ret (B (mayO ⟨4, a, b, c⟩)), []) := by
  have hz := size0 c
  have el : decide (a < 4294967296) = decide (a ≤ 4294967295) := decide_eq_decide.2 (by omega)
  have ha := uascii_c c (by omega)
  refine (ev_body ⟨[1], [], [], false, [], noIt⟩ [.tmp 2] rfl Tryz.func18 rfl rfl rfl (by kernel_rfl) (by show 1 ≤ 48; decide) (by kernel_rfl)).trans ?_
  cases hy : asc (bl c) <;> cases hq : decide (c.size = 0) <;> rw [hy] at ha <;> rw [hq] at hz
  all_goals (try simp only [Bool.false_eq_true, if_true, if_false] at ha)
  all_goals simp +contextual (maxSteps := 10000000) only [go_sem, ha, hz, hy, hq, el, mayO, Int.reduceEq, or_self, true_or, or_true, or_false, false_or, if_true, if_false, Bool.false_and, Bool.true_and, Bool.and_true, Bool.and_false, Bool.or_true, Bool.or_false, Bool.false_or, Bool.true_or, Bool.not_true, Bool.not_false]
  all_goals rfl
set_option maxHeartbeats 1000000 in
theorem omay_5 (a b : Int) (c : ByteArray) (hs : c.size ≤ 3000000)  : EV 18 [(Outc.mk 5 a b c).d] [] = some (.ret (B (mayO ⟨5, a, b, c⟩)), []) := by
  have hz := size0 c
  have el : decide (a < 4294967296) = decide (a ≤ 4294967295) := decide_eq_decide.2 (by omega)
  have ha := uascii_c c (by omega)
  refine (ev_body ⟨[1], [], [], false, [], noIt⟩ [.tmp 2] rfl Tryz.func18 rfl rfl rfl (by kernel_rfl) (by show 1 ≤ 48; decide) (by kernel_rfl)).trans ?_
  cases hy : asc (bl c) <;> cases hq : decide (c.size = 0) <;> rw [hy] at ha <;> rw [hq] at hz
  all_goals (try simp only [Bool.false_eq_true, if_true, if_false] at ha)
  all_goals simp +contextual (maxSteps := 10000000) only [go_sem, ha, hz, hy, hq, el, mayO, Int.reduceEq, or_self, true_or, or_true, or_false, false_or, if_true, if_false, Bool.false_and, Bool.true_and, Bool.and_true, Bool.and_false, Bool.or_true, Bool.or_false, Bool.false_or, Bool.true_or, Bool.not_true, Bool.not_false]
  all_goals rfl
set_option maxHeartbeats 1000000 in
theorem omay_k (k : Int) (a b : Int) (c : ByteArray) (hs : c.size ≤ 3000000) (h0 : k ≠ 0) (h1 : k ≠ 1) (h2 : k ≠ 2) (h3 : k ≠ 3) (h4 : k ≠ 4) (h5 : k ≠ 5) : EV 18 [(Outc.mk k a b c).d] [] = some (.ret (B (mayO ⟨k, a, b, c⟩)), []) := by
  have hz := size0 c
  have el : decide (a < 4294967296) = decide (a ≤ 4294967295) := decide_eq_decide.2 (by omega)
  have ha := uascii_c c (by omega)
  refine (ev_body ⟨[1], [], [], false, [], noIt⟩ [.tmp 2] rfl Tryz.func18 rfl rfl rfl (by kernel_rfl) (by show 1 ≤ 48; decide) (by kernel_rfl)).trans ?_
  cases hy : asc (bl c) <;> cases hq : decide (c.size = 0) <;> rw [hy] at ha <;> rw [hq] at hz
  all_goals (try simp only [Bool.false_eq_true, if_true, if_false] at ha)
  all_goals simp +contextual (maxSteps := 10000000) only [go_sem, ha, hz, hy, hq, el, mayO, Int.reduceEq, or_self, true_or, or_true, or_false, false_or, if_true, if_false, Bool.false_and, Bool.true_and, Bool.and_true, Bool.and_false, Bool.or_true, Bool.or_false, Bool.false_or, Bool.true_or, Bool.not_true, Bool.not_false, (by simpa using h3 : (k != 3) = true), (beq_eq_false_iff_ne.2 h0 : (k == 0) = false), (beq_eq_false_iff_ne.2 h1 : (k == 1) = false), (beq_eq_false_iff_ne.2 h2 : (k == 2) = false), (beq_eq_false_iff_ne.2 h3 : (k == 3) = false), (beq_eq_false_iff_ne.2 h4 : (k == 4) = false), (beq_eq_false_iff_ne.2 h5 : (k == 5) = false), if_neg h1, if_neg h5, h0, h2, h3, h4]
  all_goals rfl
theorem omay_c (o : Outc) (hs : o.cond.size ≤ 3000000) : EV 18 [o.d] [] = some (.ret (B (mayO o)), []) := by
  obtain ⟨k, a, b, c⟩ := o
  by_cases h0 : k = 0
  · subst h0; exact omay_0 a b c hs
  by_cases h1 : k = 1
  · subst h1; exact omay_1 a b c hs
  by_cases h2 : k = 2
  · subst h2; exact omay_2 a b c hs
  by_cases h3 : k = 3
  · subst h3; exact omay_3 a b c hs
  by_cases h4 : k = 4
  · subst h4; exact omay_4 a b c hs
  by_cases h5 : k = 5
  · subst h5; exact omay_5 a b c hs
  exact omay_k k a b c hs h0 h1 h2 h3 h4 h5
def nm1 : ByteArray := ⟨#[97, 109, 113, 112, 58, 114, 101, 99, 101, 105, 118, 101, 100, 58, 108, 105, 115, 116]⟩
@[reducible] def form1 : D := .agg [U8 1, U64 35, Sx nm1, I 2, .fn (.func 24) [] [], .fn (.func 26) [] []]
def nm2 : ByteArray := ⟨#[97, 109, 113, 112, 58, 97, 99, 99, 101, 112, 116, 101, 100, 58, 108, 105, 115, 116]⟩
@[reducible] def form2 : D := .agg [U8 2, U64 36, Sx nm2, I 0, .fn (.func 28) [] [], .fn (.func 29) [] []]
def nm3 : ByteArray := ⟨#[97, 109, 113, 112, 58, 114, 101, 106, 101, 99, 116, 101, 100, 58, 108, 105, 115, 116]⟩
@[reducible] def form3 : D := .agg [U8 3, U64 37, Sx nm3, I 1, .fn (.func 30) [] [], .fn (.func 32) [] []]
def nm4 : ByteArray := ⟨#[97, 109, 113, 112, 58, 114, 101, 108, 101, 97, 115, 101, 100, 58, 108, 105, 115, 116]⟩
@[reducible] def form4 : D := .agg [U8 4, U64 38, Sx nm4, I 0, .fn (.func 28) [] [], .fn (.func 29) [] []]
def nm5 : ByteArray := ⟨#[97, 109, 113, 112, 58, 109, 111, 100, 105, 102, 105, 101, 100, 58, 108, 105, 115, 116]⟩
@[reducible] def form5 : D := .agg [U8 5, U64 39, Sx nm5, I 3, .fn (.func 36) [] [], .fn (.func 38) [] []]
theorem forms_c : EV 19 [] [] = some (.ret (.ro false [form1, form2, form3, form4, form5]), []) := by
  refine (ev_body ⟨[], [], [], true, [], noIt⟩ [.tmp 0] rfl Tryz.func19 rfl rfl rfl (by kernel_rfl) (by show 0 ≤ 7; decide) (by kernel_rfl)).trans ?_
  simp +contextual (maxSteps := 10000000) only [go_sem]
  rfl
def flagV (n : Int) : Val := if n = 0 then vN else .mk 2 1 ⟨#[]⟩ []
theorem truth_c (n : Int) : EV 37 [U64 n] [] = some (.ret (flagV n).d, []) := by
  refine (ev_body ⟨[], [], [], true, [], noIt⟩ [.cell 2 49] rfl Tryz.func37 rfl rfl rfl (by kernel_rfl) (by show 1 ≤ 7; decide) (by kernel_rfl)).trans ?_
  have hb := bool_c true
  simp only [if_true] at hb
  by_cases h : n = 0
  · have e : (n == 0) = true := by simpa using h
    simp +contextual (maxSteps := 10000000) only [go_sem, e, null_c, flagV, h]
  · have e : (n == 0) = false := by simpa using h
    simp +contextual (maxSteps := 10000000) only [go_sem, e, hb, flagV, h]
theorem put1_c (o : Outc) : EV 24 [o.d] [] = some (.ret (.ro false ([Val.mk 5 o.a ⟨#[]⟩ [], Val.mk 6 o.b ⟨#[]⟩ []].map Val.d)), []) := by
  refine (ev_body ⟨[1], [], [(1, [(0, 0, false), (1, 0, false), (2, 0, false), (3, 0, false), (4, 0, false), (5, 0, false), (6, 0, false), (7, 0, false)])], true, [], noIt⟩ [.tmp 2] rfl Tryz.func24 rfl rfl rfl (by kernel_rfl) (by show 1 ≤ 10; decide) (by kernel_rfl)).trans ?_
  simp +contextual (maxSteps := 10000000) only [go_sem, number_c]
theorem put0_c (o : Outc) : EV 28 [o.d] [] = some (.ret (.ro false []), []) := by
  refine (ev_body ⟨[1], [], [], true, [], noIt⟩ [.tmp 2] rfl Tryz.func28 rfl rfl rfl (by kernel_rfl) (by show 1 ≤ 3; decide) (by kernel_rfl)).trans ?_
  simp +contextual (maxSteps := 10000000) only [go_sem]
theorem put3_c (o : Outc) (hs : o.cond.size ≤ 3000000) (ha : asc (bl o.cond) = true) : EV 30 [o.d] [] = some (.ret (.ro false ([condV o.cond].map Val.d)), []) := by
  have hp := pcond_c o.cond hs
  rw [if_pos ha] at hp
  refine (ev_body ⟨[1], [], [], true, [], noIt⟩ [.tmp 2] rfl Tryz.func30 rfl rfl rfl (by kernel_rfl) (by show 1 ≤ 13; decide) (by kernel_rfl)).trans ?_
  simp +contextual (maxSteps := 10000000) only [go_sem, hp]
theorem put5_c (o : Outc) : EV 36 [o.d] [] = some (.ret (.ro false ([flagV o.a, flagV o.b].map Val.d)), []) := by
  refine (ev_body ⟨[1], [], [(1, [(0, 0, false), (1, 0, false), (2, 0, false), (3, 0, false), (4, 0, false), (5, 0, false), (6, 0, false), (7, 0, false)])], true, [], noIt⟩ [.tmp 2] rfl Tryz.func36 rfl rfl rfl (by kernel_rfl) (by show 1 ≤ 10; decide) (by kernel_rfl)).trans ?_
  simp +contextual (maxSteps := 10000000) only [go_sem, truth_c]
/-- the fields of an outcome -/
def outF (o : Outc) : List Val := if o.kind = 1 then [.mk 5 o.a ⟨#[]⟩ [], .mk 6 o.b ⟨#[]⟩ []] else if o.kind = 3 then [condV o.cond] else if o.kind = 5 then [flagV o.a, flagV o.b] else []
def outV (o : Outc) : Val := if o.kind = 0 then vN else putS (34 + o.kind) (outF o)
def putO (o : Outc) : D := if mayO o = true then .tup [(outV o).d, I 0] else wrongV
theorem condV_sz (s : ByteArray) : (condV s).sz ≤ s.size + 10 := by
  unfold condV
  split
  · exact Nat.le_trans (by decide : vN.sz ≤ 10) (by omega)
  · have := putS_sz 29 [.mk 21 0 s []]
    simp only [Val.szL, Val.sz] at this; omega
theorem flagV_sz (n : Int) : (flagV n).sz ≤ 10 := by unfold flagV; split <;> decide
theorem outF_sz (o : Outc) : Val.szL (outF o) ≤ o.cond.size + 20 := by
  unfold outF
  split
  · simp only [Val.szL, Val.sz]; show 0 + 0 + 1 + (0 + 0 + 1 + 0) ≤ _; omega
  · split
    · have := condV_sz o.cond; simp only [Val.szL]; omega
    · split
      · have := flagV_sz o.a; have := flagV_sz o.b; simp only [Val.szL]; omega
      · simp [Val.szL]
theorem may_asc {o : Outc} (h : mayO o = true) : asc (bl o.cond) = true := by
  simp only [mayO, Bool.and_eq_true] at h; exact h.1.1
theorem may_kind {o : Outc} (h : mayO o = true) : o.kind = 0 ∨ o.kind = 1 ∨ o.kind = 2 ∨ o.kind = 3 ∨ o.kind = 4 ∨ o.kind = 5 := by
  simp only [mayO, Bool.and_eq_true] at h
  have h2 := h.2
  split at h2
  · rename_i h; exact .inr (.inl h)
  · split at h2
    · rename_i h; exact .inr (.inr (.inr (.inr (.inr h))))
    · split at h2
      · rename_i h; rcases h with h | h | h | h <;> simp [h]
      · cases h2
set_option maxRecDepth 20000 in
set_option maxHeartbeats 40000000 in
theorem oput_0 (a b : Int) (c : ByteArray) (hs : c.size ≤ 3000000) (hm : mayO ⟨0, a, b, c⟩ = true) : EV 13 [(Outc.mk 0 a b c).d] [] = some (.ret (.tup [(outV ⟨0, a, b, c⟩).d, I 0]), []) := by
  have h1 := omay_c ⟨0, a, b, c⟩ hs
  rw [hm] at h1
  simp only [Outc.d, Outc.cs] at h1
  refine (ev_body ⟨[1], [(0, [1, 2, 10, 11, 12])], [(7, [(0, 0, false), (1, 0, false), (2, 0, false), (3, 0, false), (4, 0, false), (5, 0, false), (6, 0, false), (7, 0, true), (8, 1, false)])], true, [], noIt⟩ [.cell 2 49, .tmp 3] rfl Tryz.func13 rfl rfl rfl (by kernel_rfl) (by show 1 ≤ 30; decide) (by kernel_rfl)).trans ?_
  simp +contextual (maxSteps := 10000000) only [go_sem, h1, forms_c]
  rw [lpK_go1]
  simp +contextual (maxSteps := 10000000) only [go_sem, h1, null_c, outV, if_true]
  rw [lpK_go1]
  simp +contextual (maxSteps := 10000000) only [go_sem, h1, null_c, outV, if_true]
  rw [lpK_go1]
  simp +contextual (maxSteps := 10000000) only [go_sem, h1, null_c, outV, if_true]
  rw [lpK_go1]
  simp +contextual (maxSteps := 10000000) only [go_sem, h1, null_c, outV, if_true]
  rw [lpK_go1]
  simp +contextual (maxSteps := 10000000) only [go_sem, h1, null_c, outV, if_true]
  rw [lpK_go1]
  simp +contextual (maxSteps := 10000000) only [go_sem, h1, null_c, outV, if_true]
set_option maxRecDepth 20000 in
set_option maxHeartbeats 40000000 in
theorem oput_1 (a b : Int) (c : ByteArray) (hs : c.size ≤ 3000000) (hm : mayO ⟨1, a, b, c⟩ = true) : EV 13 [(Outc.mk 1 a b c).d] [] = some (.ret (.tup [(outV ⟨1, a, b, c⟩).d, I 0]), []) := by
  have h1 := omay_c ⟨1, a, b, c⟩ hs
  rw [hm] at h1
  simp only [Outc.d, Outc.cs] at h1
  have hp := put1_c ⟨1, a, b, c⟩
  have hf := fput_c 35 [Val.mk 5 a ⟨#[]⟩ [], Val.mk 6 b ⟨#[]⟩ []] (by have := outF_sz ⟨1, a, b, c⟩; simp only [outF, Int.reduceEq, if_true, if_false] at this; omega)
  simp only [List.map_cons, List.map_nil, Outc.d, Outc.cs] at hp hf
  refine (ev_body ⟨[1], [(0, [1, 2, 10, 11, 12])], [(7, [(0, 0, false), (1, 0, false), (2, 0, false), (3, 0, false), (4, 0, false), (5, 0, false), (6, 0, false), (7, 0, true), (8, 1, false)])], true, [], noIt⟩ [.cell 2 49, .tmp 3] rfl Tryz.func13 rfl rfl rfl (by kernel_rfl) (by show 1 ≤ 30; decide) (by kernel_rfl)).trans ?_
  simp +contextual (maxSteps := 10000000) only [go_sem, h1, forms_c]
  rw [lpK_go1]
  simp +contextual (maxSteps := 10000000) only [go_sem, h1, hp, hf, outV, outF, Int.reduceAdd, if_true, if_false]
set_option maxRecDepth 20000 in
set_option maxHeartbeats 40000000 in
theorem oput_2 (a b : Int) (c : ByteArray) (hs : c.size ≤ 3000000) (hm : mayO ⟨2, a, b, c⟩ = true) : EV 13 [(Outc.mk 2 a b c).d] [] = some (.ret (.tup [(outV ⟨2, a, b, c⟩).d, I 0]), []) := by
  have h1 := omay_c ⟨2, a, b, c⟩ hs
  rw [hm] at h1
  simp only [Outc.d, Outc.cs] at h1
  have hp := put0_c ⟨2, a, b, c⟩
  have hf := fput_c 36 [] (by have := outF_sz ⟨2, a, b, c⟩; simp only [outF, Int.reduceEq, if_true, if_false] at this; omega)
  simp only [List.map_cons, List.map_nil, Outc.d, Outc.cs] at hp hf
  refine (ev_body ⟨[1], [(0, [1, 2, 10, 11, 12])], [(7, [(0, 0, false), (1, 0, false), (2, 0, false), (3, 0, false), (4, 0, false), (5, 0, false), (6, 0, false), (7, 0, true), (8, 1, false)])], true, [], noIt⟩ [.cell 2 49, .tmp 3] rfl Tryz.func13 rfl rfl rfl (by kernel_rfl) (by show 1 ≤ 30; decide) (by kernel_rfl)).trans ?_
  simp +contextual (maxSteps := 10000000) only [go_sem, h1, forms_c]
  rw [lpK_go1]
  simp +contextual (maxSteps := 10000000) only [go_sem, h1, hp, hf, outV, outF, Int.reduceAdd, if_true, if_false]
  rw [lpK_go1]
  simp +contextual (maxSteps := 10000000) only [go_sem, h1, hp, hf, outV, outF, Int.reduceAdd, if_true, if_false]
set_option maxRecDepth 20000 in
set_option maxHeartbeats 40000000 in
theorem oput_3 (a b : Int) (c : ByteArray) (hs : c.size ≤ 3000000) (hm : mayO ⟨3, a, b, c⟩ = true) : EV 13 [(Outc.mk 3 a b c).d] [] = some (.ret (.tup [(outV ⟨3, a, b, c⟩).d, I 0]), []) := by
  have h1 := omay_c ⟨3, a, b, c⟩ hs
  rw [hm] at h1
  simp only [Outc.d, Outc.cs] at h1
  have hp := put3_c ⟨3, a, b, c⟩ hs (may_asc hm)
  have hf := fput_c 37 [condV c] (by have := outF_sz ⟨3, a, b, c⟩; simp only [outF, Int.reduceEq, if_true, if_false] at this; omega)
  simp only [List.map_cons, List.map_nil, Outc.d, Outc.cs] at hp hf
  refine (ev_body ⟨[1], [(0, [1, 2, 10, 11, 12])], [(7, [(0, 0, false), (1, 0, false), (2, 0, false), (3, 0, false), (4, 0, false), (5, 0, false), (6, 0, false), (7, 0, true), (8, 1, false)])], true, [], noIt⟩ [.cell 2 49, .tmp 3] rfl Tryz.func13 rfl rfl rfl (by kernel_rfl) (by show 1 ≤ 30; decide) (by kernel_rfl)).trans ?_
  simp +contextual (maxSteps := 10000000) only [go_sem, h1, forms_c]
  rw [lpK_go1]
  simp +contextual (maxSteps := 10000000) only [go_sem, h1, hp, hf, outV, outF, Int.reduceAdd, if_true, if_false]
  rw [lpK_go1]
  simp +contextual (maxSteps := 10000000) only [go_sem, h1, hp, hf, outV, outF, Int.reduceAdd, if_true, if_false]
  rw [lpK_go1]
  simp +contextual (maxSteps := 10000000) only [go_sem, h1, hp, hf, outV, outF, Int.reduceAdd, if_true, if_false]
set_option maxRecDepth 20000 in
set_option maxHeartbeats 40000000 in
theorem oput_4 (a b : Int) (c : ByteArray) (hs : c.size ≤ 3000000) (hm : mayO ⟨4, a, b, c⟩ = true) : EV 13 [(Outc.mk 4 a b c).d] [] = some (.ret (.tup [(outV ⟨4, a, b, c⟩).d, I 0]), []) := by
  have h1 := omay_c ⟨4, a, b, c⟩ hs
  rw [hm] at h1
  simp only [Outc.d, Outc.cs] at h1
  have hp := put0_c ⟨4, a, b, c⟩
  have hf := fput_c 38 [] (by have := outF_sz ⟨4, a, b, c⟩; simp only [outF, Int.reduceEq, if_true, if_false] at this; omega)
  simp only [List.map_cons, List.map_nil, Outc.d, Outc.cs] at hp hf
  refine (ev_body ⟨[1], [(0, [1, 2, 10, 11, 12])], [(7, [(0, 0, false), (1, 0, false), (2, 0, false), (3, 0, false), (4, 0, false), (5, 0, false), (6, 0, false), (7, 0, true), (8, 1, false)])], true, [], noIt⟩ [.cell 2 49, .tmp 3] rfl Tryz.func13 rfl rfl rfl (by kernel_rfl) (by show 1 ≤ 30; decide) (by kernel_rfl)).trans ?_
  simp +contextual (maxSteps := 10000000) only [go_sem, h1, forms_c]
  rw [lpK_go1]
  simp +contextual (maxSteps := 10000000) only [go_sem, h1, hp, hf, outV, outF, Int.reduceAdd, if_true, if_false]
  rw [lpK_go1]
  simp +contextual (maxSteps := 10000000) only [go_sem, h1, hp, hf, outV, outF, Int.reduceAdd, if_true, if_false]
  rw [lpK_go1]
  simp +contextual (maxSteps := 10000000) only [go_sem, h1, hp, hf, outV, outF, Int.reduceAdd, if_true, if_false]
  rw [lpK_go1]
  simp +contextual (maxSteps := 10000000) only [go_sem, h1, hp, hf, outV, outF, Int.reduceAdd, if_true, if_false]
set_option maxRecDepth 20000 in
set_option maxHeartbeats 40000000 in
theorem oput_5 (a b : Int) (c : ByteArray) (hs : c.size ≤ 3000000) (hm : mayO ⟨5, a, b, c⟩ = true) : EV 13 [(Outc.mk 5 a b c).d] [] = some (.ret (.tup [(outV ⟨5, a, b, c⟩).d, I 0]), []) := by
  have h1 := omay_c ⟨5, a, b, c⟩ hs
  rw [hm] at h1
  simp only [Outc.d, Outc.cs] at h1
  have hp := put5_c ⟨5, a, b, c⟩
  have hf := fput_c 39 [flagV a, flagV b] (by have := outF_sz ⟨5, a, b, c⟩; simp only [outF, Int.reduceEq, if_true, if_false] at this; omega)
  simp only [List.map_cons, List.map_nil, Outc.d, Outc.cs] at hp hf
  refine (ev_body ⟨[1], [(0, [1, 2, 10, 11, 12])], [(7, [(0, 0, false), (1, 0, false), (2, 0, false), (3, 0, false), (4, 0, false), (5, 0, false), (6, 0, false), (7, 0, true), (8, 1, false)])], true, [], noIt⟩ [.cell 2 49, .tmp 3] rfl Tryz.func13 rfl rfl rfl (by kernel_rfl) (by show 1 ≤ 30; decide) (by kernel_rfl)).trans ?_
  simp +contextual (maxSteps := 10000000) only [go_sem, h1, forms_c]
  rw [lpK_go1]
  simp +contextual (maxSteps := 10000000) only [go_sem, h1, hp, hf, outV, outF, Int.reduceAdd, if_true, if_false]
  rw [lpK_go1]
  simp +contextual (maxSteps := 10000000) only [go_sem, h1, hp, hf, outV, outF, Int.reduceAdd, if_true, if_false]
  rw [lpK_go1]
  simp +contextual (maxSteps := 10000000) only [go_sem, h1, hp, hf, outV, outF, Int.reduceAdd, if_true, if_false]
  rw [lpK_go1]
  simp +contextual (maxSteps := 10000000) only [go_sem, h1, hp, hf, outV, outF, Int.reduceAdd, if_true, if_false]
  rw [lpK_go1]
  simp +contextual (maxSteps := 10000000) only [go_sem, h1, hp, hf, outV, outF, Int.reduceAdd, if_true, if_false]
theorem oput_c (o : Outc) (hs : o.cond.size ≤ 3000000) : EV 13 [o.d] [] = some (.ret (putO o), []) := by
  unfold putO
  cases hm : mayO o
  · have h1 := omay_c o hs
    rw [hm] at h1
    simp only [Outc.d, Outc.cs] at h1
    refine (ev_body ⟨[1], [(0, [1, 2, 10, 11, 12])], [(7, [(0, 0, false), (1, 0, false), (2, 0, false), (3, 0, false), (4, 0, false), (5, 0, false), (6, 0, false), (7, 0, true), (8, 1, false)])], true, [], noIt⟩ [.cell 2 49, .tmp 3] rfl Tryz.func13 rfl rfl rfl (by kernel_rfl) (by show 1 ≤ 30; decide) (by kernel_rfl)).trans ?_
    simp +contextual (maxSteps := 10000000) only [go_sem, h1]
  · rw [if_pos rfl]
    obtain ⟨k, a, b, c⟩ := o
    rcases may_kind hm with h | h | h | h | h | h <;> simp only at h <;> subst h
    · exact oput_0 a b c hs hm
    · exact oput_1 a b c hs hm
    · exact oput_2 a b c hs hm
    · exact oput_3 a b c hs hm
    · exact oput_4 a b c hs hm
    · exact oput_5 a b c hs hm
end Go.Bw.R1

/- Plain: outcomes as values, which may be. -/
namespace Go.Bw.R1
set_option maxRecDepth 5000
open Go Go.Bw Go.Proofs
theorem right_put {code : Int} {l : List Val} (h1 : mayL (trimS l) = true) (h2 : Val.depthL (trimS l) ≤ 14) (h3 : Val.itemsL (trimS l) ≤ 1021) : rightS (putS code l) = true := by
  have hd : (putS code l).depth = max 1 (Val.depthL (trimS l) + 1) + 1 := by
    simp only [putS, Val.depth, Val.depthL]; omega
  have hi : (putS code l).items = Val.itemsL (trimS l) + 3 := by
    simp only [putS, Val.items, Val.itemsL]; omega
  rw [rightS, hd, hi, mayS_put, h1]
  simp only [Bool.and_true, Bool.and_eq_true, decide_eq_true_eq]
  omega
theorem sym_may {c : ByteArray} (h : asc (bl c) = true) : mayS (.mk 21 0 c []) = true := by
  simp only [mayS, mayL]
  show (true && true && (true && asc (bl c) && true)) = true
  rw [h]; rfl
theorem cond_right {c : ByteArray} (h : asc (bl c) = true) : rightS (putS 29 [.mk 21 0 c []]) = true := by
  have e : trimS [Val.mk 21 0 c []] = [.mk 21 0 c []] := trim_last (l := []) (by simp [Val.kind_mk])
  refine right_put ?_ ?_ ?_
  · rw [e]; simp only [mayL, sym_may h, Bool.and_true]
  · rw [e]; simp only [Val.depthL, Val.depth]; omega
  · rw [e]; simp only [Val.itemsL, Val.items]; omega
theorem condV_may {c : ByteArray} (h : asc (bl c) = true) : mayS (condV c) = true := by
  unfold condV
  split
  · rfl
  · exact right_may (cond_right h)
theorem condV_depth (c : ByteArray) : (condV c).depth ≤ 3 ∧ (condV c).items ≤ 4 := by
  unfold condV
  have e : trimS [Val.mk 21 0 c []] = [.mk 21 0 c []] := trim_last (l := []) (by simp [Val.kind_mk])
  split
  · decide
  · simp only [putS, e, Val.depth, Val.depthL, Val.items, Val.itemsL]; omega
theorem num5_may {a : Int} (h : a ≤ 4294967295) : mayS (.mk 5 a ⟨#[]⟩ []) = true := by
  simp only [mayS, mayL]
  show (true && true && (decide (a < 4294967296) && true && true)) = true
  simp; omega
theorem num6_may (a : Int) : mayS (.mk 6 a ⟨#[]⟩ []) = true := by
  simp only [mayS, mayL]
  rfl
theorem trim_sub {l : List Val} {x : Val} (h : x ∈ trimS l) : x ∈ l := by
  obtain ⟨n, _, h2, _⟩ := trimS_pre l
  rw [h2] at h
  exact List.mem_of_mem_take h
theorem flag_may (n : Int) : mayS (flagV n) = true := by unfold flagV; split <;> rfl
theorem out_may {o : Outc} (h : mayO o = true) : mayS (outV o) = true := by
  have ha := may_asc h
  have hm := h
  simp only [mayO, Bool.and_eq_true] at hm
  have hm := hm.2
  unfold outV
  split
  · rfl
  · rw [mayS_put, mayL_all, List.all_eq_true]
    intro x hx
    have hx := trim_sub hx
    unfold outF at hx
    split at hx
    · rename_i h1
      rw [if_pos h1, decide_eq_true_eq] at hm
      simp only [List.mem_cons, List.not_mem_nil, or_false] at hx
      rcases hx with rfl | rfl
      · exact num5_may hm
      · exact num6_may _
    · split at hx
      · rw [List.mem_singleton.1 hx]; exact condV_may ha
      · split at hx
        · simp only [List.mem_cons, List.not_mem_nil, or_false] at hx
          rcases hx with rfl | rfl <;> exact flag_may _
        · cases hx
end Go.Bw.R1

namespace Go.Bw.R1
set_option maxRecDepth 5000
open Go Go.Bw Go.Proofs
theorem sz_le {n k : Nat} (h : n ≤ 1000000000) (hk : 1000000000 ≤ k) : (n ≤ k) = True := by simp; omega
theorem fdiv1 (x : Int) : x.fdiv 1 = x := Int.fdiv_one x
theorem clone_nils : EV 14 [.nils] [] = some (.ret .nils, []) := by
  refine (ev_body ⟨[], [], [], false, [], noIt⟩ [.tmp 2] rfl Tryz.func14 rfl rfl rfl (by kernel_rfl) (by show 1 ≤ 8; decide) (by kernel_rfl)).trans ?_
  simp +contextual (maxSteps := 10000000) only [go_sem]
theorem clone_ref (b : ByteArray) (h0 : b.size ≠ 0) (h : b.size ≤ 1000000000) : EV 14 [.ref 0 0 1 0 b.size] [some ⟨0, bytesD b⟩] = some (.ret (.ref 1 0 1 0 b.size), [some ⟨0, bytesD b⟩, some ⟨0, bytesD b⟩]) := by
  have h1 : (b.size = 0) = False := by simpa using h0
  refine (ev_body ⟨[], [], [], false, [], noIt⟩ [.tmp 2] rfl Tryz.func14 rfl rfl rfl (by kernel_rfl) (by show 1 ≤ 8; decide) (by kernel_rfl)).trans ?_
  simp +contextual (maxSteps := 10000000) only [go_sem, h1, sz_le h, List.length_cons]
/-- a number's lowest bytes, the highest first -/
def be : Nat → Int → ByteArray
  | 1, x => b1 (x % 256)
  | 2, x => b1 (x.fdiv 256 % 256) ++ b1 (x % 256)
  | 4, x => b1 (x.fdiv 16777216 % 256) ++ b1 (x.fdiv 65536 % 256) ++ b1 (x.fdiv 256 % 256) ++ b1 (x % 256)
  | 8, x => b1 (x.fdiv 72057594037927936 % 256) ++ b1 (x.fdiv 281474976710656 % 256) ++ b1 (x.fdiv 1099511627776 % 256) ++ b1 (x.fdiv 4294967296 % 256) ++ b1 (x.fdiv 16777216 % 256) ++ b1 (x.fdiv 65536 % 256) ++ b1 (x.fdiv 256 % 256) ++ b1 (x % 256)
  | _, _ => ⟨#[]⟩
theorem be_1 (x : Int) : be 1 x = b1 (x % 256) := rfl
theorem be_2 (x : Int) : be 2 x = b1 (x.fdiv 256 % 256) ++ b1 (x % 256) := rfl
theorem be_4 (x : Int) : be 4 x = b1 (x.fdiv 16777216 % 256) ++ b1 (x.fdiv 65536 % 256) ++ b1 (x.fdiv 256 % 256) ++ b1 (x % 256) := rfl
theorem be_8 (x : Int) : be 8 x = b1 (x.fdiv 72057594037927936 % 256) ++ b1 (x.fdiv 281474976710656 % 256) ++ b1 (x.fdiv 1099511627776 % 256) ++ b1 (x.fdiv 4294967296 % 256) ++ b1 (x.fdiv 16777216 % 256) ++ b1 (x.fdiv 65536 % 256) ++ b1 (x.fdiv 256 % 256) ++ b1 (x % 256) := rfl
def wOk (w : Nat) : Prop := w = 1 ∨ w = 2 ∨ w = 4 ∨ w = 8
theorem be_size {w : Nat} (h : wOk w) (x : Int) : (be w x).size = w := by
  rcases h with rfl | rfl | rfl | rfl
  · rfl
  · rw [be_2]; simp only [ByteArray.size_append, b1_size]
  · rw [be_4]; simp only [ByteArray.size_append, b1_size]
  · rw [be_8]; simp only [ByteArray.size_append, b1_size]
theorem lay_ref (w : Nat) (hw : wOk w) (b : ByteArray) (x : Int) (h0 : b.size ≠ 0) (h : b.size ≤ 1000000000) : EV 130 [.ref 0 0 1 0 b.size, .sc (.int .u64 x), I w] [some ⟨0, bytesD b⟩] = some (.ret (.ref 1 0 1 0 (b.size + w)), [some ⟨0, bytesD b⟩, some ⟨0, bytesD (b ++ be w x)⟩]) := by
  refine (ev_body ⟨[], [(0, [1, 7, 8])], [], false, [], noIt⟩ [.tmp 6] rfl Tryz.func130 rfl rfl rfl (by kernel_rfl) (by show 3 ≤ 29; decide) (by kernel_rfl)).trans ?_
  rcases hw with rfl | rfl | rfl | rfl
  · simp +contextual (maxSteps := 10000000) only [go_sem, clone_ref b h0 h, lpK_go, one_b1, sz_le h, fdiv1, be_1]
  · simp +contextual (maxSteps := 10000000) only [go_sem, clone_ref b h0 h, lpK_go, one_b1, sz_le h, fdiv1, be_2, ByteArray.append_assoc, Nat.add_assoc]
  · simp +contextual (maxSteps := 10000000) only [go_sem, clone_ref b h0 h, lpK_go, one_b1, sz_le h, fdiv1, be_4, ByteArray.append_assoc, Nat.add_assoc]
  · simp +contextual (maxSteps := 10000000) only [go_sem, clone_ref b h0 h, lpK_go, one_b1, sz_le h, fdiv1, be_8, ByteArray.append_assoc, Nat.add_assoc]
theorem lay_nils (w : Nat) (hw : wOk w) (x : Int) : EV 130 [.nils, .sc (.int .u64 x), I w] [] = some (.ret (.ref 0 0 1 0 w), [some ⟨0, bytesD (be w x)⟩]) := by
  refine (ev_body ⟨[], [(0, [1, 7, 8])], [], false, [], noIt⟩ [.tmp 6] rfl Tryz.func130 rfl rfl rfl (by kernel_rfl) (by show 3 ≤ 29; decide) (by kernel_rfl)).trans ?_
  rcases hw with rfl | rfl | rfl | rfl
  · simp +contextual (maxSteps := 10000000) only [go_sem, clone_nils, lpK_go, one_b1, fdiv1, be_1]
  · simp +contextual (maxSteps := 10000000) only [go_sem, clone_nils, lpK_go, one_b1, fdiv1, be_2, ByteArray.append_assoc, Nat.add_assoc]
  · simp +contextual (maxSteps := 10000000) only [go_sem, clone_nils, lpK_go, one_b1, fdiv1, be_4, ByteArray.append_assoc, Nat.add_assoc]
  · simp +contextual (maxSteps := 10000000) only [go_sem, clone_nils, lpK_go, one_b1, fdiv1, be_8, ByteArray.append_assoc, Nat.add_assoc]
end Go.Bw.R1

namespace Go.Bw.R1
set_option maxRecDepth 5000
open Go Go.Bw Go.Proofs
theorem wmay_1 (n : Int) : EV 150 [I 1, .sc (.int .u64 n)] [] = some (.ret (B (decide (n ≤ 255))), []) := by
  refine (ev_body ⟨[], [], [], false, [], noIt⟩ [.tmp 4] rfl Tryz.func150 rfl rfl rfl (by kernel_rfl) (by show 2 ≤ 14; decide) (by kernel_rfl)).trans ?_
  simp +contextual (maxSteps := 10000000) only [go_sem]
theorem wmay_4 (n : Int) : EV 150 [I 4, .sc (.int .u64 n)] [] = some (.ret (B (decide (n ≤ 2147483647))), []) := by
  refine (ev_body ⟨[], [], [], false, [], noIt⟩ [.tmp 4] rfl Tryz.func150 rfl rfl rfl (by kernel_rfl) (by show 2 ≤ 14; decide) (by kernel_rfl)).trans ?_
  simp +contextual (maxSteps := 10000000) only [go_sem]
theorem layp_ref (w : Nat) (b p : ByteArray) (h0 : b.size ≠ 0) (h : b.size ≤ 490000000) (hp : p.size ≤ 490000000) (hw : w = 1 ∧ p.size ≤ 255 ∨ w = 4) :
    EV 131 [.ref 0 0 1 0 b.size, .ref 1 0 1 0 p.size, I w] [some ⟨0, bytesD b⟩, some ⟨0, bytesD p⟩] = some (.ret (.tup [.ref 2 0 1 0 (b.size + w + p.size), I 0]), [some ⟨0, bytesD b⟩, some ⟨0, bytesD p⟩, some ⟨0, bytesD (b ++ be w p.size ++ p)⟩]) := by
  have hw0 : wOk w := by rcases hw with ⟨rfl, _⟩ | rfl <;> simp [wOk]
  have hl := lay_ref w hw0 b p.size h0 (by omega)
  have e1 : IntKind.u64.wrap (p.size : Int) = p.size := fit_u64 (by omega) (by omega)
  have hq : b.size + w + p.size ≤ 1000000000 := by rcases hw with ⟨rfl, _⟩ | rfl <;> omega
  have hs : b.size + w = (b ++ be w p.size).size := by rw [ByteArray.size_append, be_size hw0]
  refine (ev_body ⟨[], [], [], false, [], noIt⟩ [.tmp 6, .tmp 7] rfl Tryz.func131 rfl rfl rfl (by kernel_rfl) (by show 3 ≤ 21; decide) (by kernel_rfl)).trans ?_
  by_cases hz : p.size = 0
  · have hp0 : p = ⟨#[]⟩ := by
      apply ByteArray.ext; exact Array.eq_empty_of_size_eq_zero hz
    subst hp0
    rcases hw with ⟨rfl, _⟩ | rfl
    · simp only [show ((⟨#[]⟩ : ByteArray).size) = 0 from rfl, Int.natCast_zero, Int.cast_ofNat_Int, Nat.add_zero] at hl e1 ⊢
      simp +contextual (maxSteps := 10000000) only [go_sem, hl, e1, wmay_1, wmay_4]
      rw [bytes_nil (s := ⟨#[]⟩) rfl]
    · simp only [show ((⟨#[]⟩ : ByteArray).size) = 0 from rfl, Int.natCast_zero, Int.cast_ofNat_Int, Nat.add_zero] at hl e1 ⊢
      simp +contextual (maxSteps := 10000000) only [go_sem, hl, e1, wmay_1, wmay_4]
      rw [bytes_nil (s := ⟨#[]⟩) rfl]
  · rcases hw with ⟨rfl, h1⟩ | rfl
    · have hd : decide ((p.size : Int) ≤ 255) = true := by simp; omega
      simp only [Int.cast_ofNat_Int] at hl
      rw [hs] at hl hq ⊢
      rw [ByteArray.size_append] at hq
      simp +contextual (maxSteps := 10000000) only [go_sem, hl, e1, wmay_1, wmay_4, hz, sz_le hq, hd]
    · have hd : decide ((p.size : Int) ≤ 2147483647) = true := by simp; omega
      simp only [Int.cast_ofNat_Int] at hl
      rw [hs] at hl hq ⊢
      rw [ByteArray.size_append] at hq
      simp +contextual (maxSteps := 10000000) only [go_sem, hl, e1, wmay_1, wmay_4, hz, sz_le hq, hd]
end Go.Bw.R1

namespace Go.Bw.R1
set_option maxRecDepth 5000
open Go Go.Bw Go.Proofs
mutual
/-- what a value is, whatever it is called -/
def bareV : Val → Val
  | .mk k n t l => if k = 25 then bareL l else .mk k n t l
def bareL : List Val → Val
  | [] => .mk 0 0 ⟨#[]⟩ []
  | _ :: r => bareH r
def bareH : List Val → Val
  | [] => .mk 0 0 ⟨#[]⟩ []
  | x :: _ => bareV x
end
theorem bare_ne {v : Val} (h : v.kind ≠ 25) : bareV v = v := by cases v; simp only [bareV, Val.kind_mk] at h ⊢; rw [if_neg h]
theorem bare_desc {v a x : Val} (h : v.kind = 25) (hk : v.kids = [a, x]) : bareV v = bareV x := by
  cases v; simp only [Val.kind_mk, Val.kids_mk] at h hk; subst h hk; simp only [bareV, bareL, bareH, if_true]
/-- the second kid -/
def sndV (v : Val) : Val := match v.kids with | [_, x] => x | _ => v
theorem snd_of {v a x : Val} (hk : v.kids = [a, x]) : sndV v = x := by unfold sndV; rw [hk]
/-- noughts behind values -/
def zV : List D := [.sc (.int .u8 0), .sc (.int .u64 0), .sc (.string ⟨#[]⟩), .nils]
def rowZ (l : List Val) (m : Nat) : List D := rowE Val.d l ++ repD zV m
theorem repD_len (m : Nat) : (repD zV m).length = m * 4 := by
  induction m with
  | zero => rfl
  | succ m ih => simp only [repD, List.length_append, ih]; simp [zV]; omega
theorem rowZ_len (l : List Val) (m : Nat) : (rowZ l m).length = (l.length + m) * 4 := by
  unfold rowZ
  rw [List.length_append, rowV_len, repD_len]; omega
theorem repD_refs (m : Nat) : D.refsL (repD zV m) = [] := by
  induction m with
  | zero => rfl
  | succ m ih => simp only [repD, refsL_append, ih]; rfl
theorem rowZ_refs (l : List Val) (m : Nat) : D.refsL (rowZ l m) = [] := by
  unfold rowZ
  rw [refsL_append, rowV_refs, repD_refs]; rfl
theorem rowZ_set (l : List Val) (m : Nat) (x : Val) : (rowZ l (m + 1)).take (l.length * 4) ++ [.sc (.int .u8 x.kind), .sc (.int .u64 x.num), .sc (.string x.text), .ro false (x.kids.map Val.d)] ++ (rowZ l (m + 1)).drop (l.length * 4 + 4) = rowZ (l ++ [x]) m := by
  rw [List.append_assoc]
  have h := rowV_len l
  unfold rowZ
  rw [List.take_append_of_le_length (by omega), List.take_of_length_le (by omega), List.drop_append, List.drop_of_length_le (by omega), List.nil_append, h, show l.length * 4 + 4 - l.length * 4 = 4 by omega]
  simp only [repD]
  rw [List.drop_append_of_le_length (by simp [zV]), show zV.drop 4 = [] from rfl, List.nil_append, ← List.append_assoc, rowV_snoc]
theorem rowZ_end (l : List Val) : rowZ l 0 = rowE Val.d l := by unfold rowZ; simp only [repD, List.append_nil]
theorem mk_vals {es : Sto} {n : Nat} (hn : n ≤ 40000000) : makeSliceD Tryz.prog (stL es) 47 (I n) (I n) = some (.ref es.length 0 4 0 n, stL (es ++ [some ⟨0, rowZ [] n⟩])) := by
  simp only [makeSliceD, el47, ze49, by49, List.length_cons, List.length_nil, Int.toNat_natCast, stL_next, stL_new]
  rw [if_pos ⟨trivial, by omega, by omega, by omega, by omega, by omega⟩]
  rfl
theorem fsE_vals {es : Sto} {F : Nat → Bool} {n i v len : Nat} {l : List Val} (hl : l.length = len) : fsE es F n i v 4 0 len true (some ⟨v, rowE Val.d l⟩) = .ro false (l.map Val.d) := fsE_rowE valOk hl
/-- values that are called alike -/
def Al (l : List Val) : Prop := ∃ v ∈ l.head?, (∀ x ∈ l, mayS x = true ∧ ∃ n, alikeF n v x = true)
theorem al_snd {l : List Val} (h : Al l) {v : Val} (hv : v ∈ l.head?) (hk : v.kind = 25) : (∀ x ∈ l, x.kind = 25 ∧ ∃ a y, x.kids = [a, y] ∧ sndV x = y) ∧ Al (l.map sndV) := by
  obtain ⟨v', hv', h⟩ := h
  obtain rfl : v' = v := by rw [Option.mem_def] at hv hv'; rw [hv] at hv'; exact (Option.some.inj hv').symm
  have key : ∀ x ∈ l, x.kind = 25 ∧ (∃ a y, x.kids = [a, y] ∧ sndV x = y) ∧ mayS (sndV x) = true ∧ ∃ n, alikeF n (sndV v') (sndV x) = true := by
    intro x hx
    obtain ⟨hm, n, hn⟩ := h x hx
    obtain ⟨hmv, _⟩ := h v' (List.mem_of_mem_head? hv)
    cases n with
    | zero => simp [alikeF] at hn
    | succ n =>
      have hx25 : x.kind = 25 := by
        unfold alikeF at hn
        rw [hk] at hn
        by_cases hxk : x.kind = 25
        · exact hxk
        · have : (x.kind != 25) = true := by simpa using hxk
          simp only [this, Bool.or_true, if_true, beq_iff_eq] at hn
          exact hn.symm
      obtain ⟨a, y, q1, q2, q3⟩ := may_desc hm hx25
      obtain ⟨a', y', p1, p2, p3⟩ := may_desc hmv hk
      refine ⟨hx25, ⟨a, y, q1, snd_of q1⟩, by rw [snd_of q1]; exact q3, n, ?_⟩
      unfold alikeF at hn
      rw [hk, hx25, p1, q1] at hn
      simp only [bne_self_eq_false, Bool.or_self, Bool.false_eq_true, if_false, Bool.and_eq_true] at hn
      rw [snd_of p1, snd_of q1]; exact hn.2
  refine ⟨fun x hx => ⟨(key x hx).1, (key x hx).2.1⟩, sndV v', ?_, fun y hy => ?_⟩
  · rw [Option.mem_def, List.head?_map]; rw [Option.mem_def] at hv; rw [hv]; rfl
  · obtain ⟨x, hx, rfl⟩ := List.mem_map.1 hy
    exact ⟨(key x hx).2.2.1, (key x hx).2.2.2⟩
theorem snd_sz {v : Val} (h : ∃ a y, v.kids = [a, y] ∧ sndV v = y) : (sndV v).sz < v.sz := by
  obtain ⟨a, y, h1, h2⟩ := h
  rw [Val.sz_eq v, h1, h2]
  simp only [Val.szL]; omega
theorem al_bare : ∀ (n : Nat) (l : List Val), Al l → (∀ v ∈ l.head?, v.sz ≤ n) → ∀ v ∈ l.head?, v.kind ≠ 25 → l.map bareV = l := by
  intro n l h _ v hv hk
  obtain ⟨v', hv', h⟩ := h
  obtain rfl : v' = v := by rw [Option.mem_def] at hv hv'; rw [hv] at hv'; exact (Option.some.inj hv').symm
  conv => rhs; rw [← List.map_id l]
  refine List.map_congr_left fun x hx => ?_
  obtain ⟨_, n, hn⟩ := h x hx
  cases n with
  | zero => simp [alikeF] at hn
  | succ n =>
    refine bare_ne fun hx25 => hk ?_
    unfold alikeF at hn
    have : (v'.kind != 25) = true := by simpa using hk
    simp only [this, Bool.true_or, if_true, beq_iff_eq] at hn
    rw [hn, hx25]
set_option maxHeartbeats 2000000 in
theorem strip_c (l : List Val) (hl : l.length ≤ 40000000) (hA : Al l) : EV 93 [.ro false (l.map Val.d)] [] = some (.ret (.ro false ((l.map bareV).map Val.d)), []) := by
  have hA0 := hA
  obtain ⟨v0, hv0, _⟩ := hA0
  refine (ev_body ⟨[], [(0, [0]), (2, [3, 14, 15, 16])], [], true, [(8, [0])], noIt⟩ [.tmp 2] rfl Tryz.func93 rfl rfl rfl (by kernel_rfl) (by show 1 ≤ 31; decide) (by kernel_rfl)).trans ?_
  simp +contextual (maxSteps := 10000000) only [go_sem]
  refine lpK_inv (fun m f es => ∃ (q : List Val) (v : Val), Al q ∧ v ∈ q.head? ∧ m = v.sz ∧ q.length = l.length ∧ q.map bareV = l.map bareV ∧ f = [(0, .ro false (q.map Val.d))] ∧ es = []) v0.sz ⟨l, v0, hA, hv0, rfl, rfl, rfl, rfl, rfl⟩ ?_
  rintro _ _ _ ⟨q, v, hq, hv, rfl, hlen, hb, rfl, rfl⟩ ih
  obtain ⟨r, hr⟩ : ∃ r, q = v :: r := by
    cases q with
    | nil => simp at hv
    | cons a r => simp only [List.head?_cons, Option.mem_def, Option.some.injEq] at hv; subst hv; exact ⟨r, rfl⟩
  have h0 : (q.map Val.d)[0]? = some v.d := by rw [hr]; rfl
  by_cases hk : v.kind = 25
  · obtain ⟨s1, s2⟩ := al_snd hq hv hk
    have hbd : (q.map sndV).map bareV = l.map bareV := by
      rw [← hb, List.map_map]
      refine List.map_congr_left fun x hx => ?_
      obtain ⟨p1, a, y, p2, p3⟩ := s1 x hx
      rw [Function.comp, p3, bare_desc p1 p2]
    have hsz := snd_sz (s1 v (by rw [hr]; exact List.mem_cons_self ..)).2
    have hmk : ∀ es, makeSliceD Tryz.prog (stL es) 47 (I q.length) (I q.length) = _ := fun es => mk_vals (es := es) (n := q.length) (by omega)
    simp +contextual (maxSteps := 10000000) only [go_sem, h0, hk, hmk, rowZ_refs]
    refine lpK_inv (fun m f es => ∃ (i : Nat) (j : Int), j = i ∧ m + i = q.length ∧ f = [(3, .ref 0 0 4 0 q.length), (14, .ro false (q.map Val.d)), (15, I q.length), (16, I j)] ∧ es = [some ⟨0, rowZ ((q.take i).map sndV) m⟩]) q.length ⟨0, _, rfl, by omega, rfl, rfl⟩ ?_
    rintro m _ _ ⟨i, _, rfl, hi, rfl, rfl⟩ ih2
    cases m with
    | succ m =>
      obtain ⟨x, hx⟩ := get_lt (l := q) (i := i) (by omega)
      obtain ⟨x1, a, y, x2, x3⟩ := s1 x (List.mem_of_getElem? hx)
      have hlt : decide ((i : Int) < q.length) = true := by simp; omega
      have hix : (q.map Val.d)[i]? = some x.d := by rw [List.getElem?_map, hx]; rfl
      have hti : ((q.take i).map sndV).length = i := by simp; omega
      have hset := rowZ_set ((q.take i).map sndV) m y
      rw [hti] at hset
      have hlz := rowZ_len ((q.take i).map sndV) (m + 1)
      rw [hti] at hlz
      have hle : i * 4 + 4 ≤ (i + (m + 1)) * 4 := by omega
      have hnx : (q.take i).map sndV ++ [y] = (q.take (i + 1)).map sndV := by rw [take_snoc hx, List.map_append, List.map_singleton, x3]
      rw [hnx] at hset
      have hlt2 : i < q.length := by omega
      have hlt3 : (i : Int) < (q.length : Int) := by omega
      simp +contextual (maxSteps := 10000000) only [go_sem, hix, x2, hlt, wrap_i64 (n := (i : Int) + 1) (by omega) (by omega), List.map_cons, List.map_nil, hlz, hle, hset, hlt2, hlt3, rowZ_refs]
      exact ih2 m _ _ (by omega) ⟨i + 1, (i : Int) + 1, by omega, by omega, rfl, rfl⟩
    | zero =>
      have hlt : decide ((i : Int) < q.length) = false := by simp; omega
      obtain rfl : i = q.length := by omega
      have hsl : (q.map sndV).length = q.length := by simp
      simp +contextual (maxSteps := 10000000) only [go_sem, hlt, List.take_length, rowZ_end, fsE_vals hsl]
      exact ih _ _ _ hsz ⟨q.map sndV, sndV v, s2, by rw [hr]; rfl, rfl, by simp [hlen], hbd, rfl, rfl⟩
  · have hkf : (v.kind == 25) = false := by simpa using hk
    have e := al_bare v.sz q hq (fun x hx => by rw [Option.mem_def] at hx hv; rw [hv] at hx; cases hx; exact Nat.le_refl _) v hv hk
    rw [e] at hb
    simp +contextual (maxSteps := 10000000) only [go_sem, h0, hkf]
    rw [hb]
end Go.Bw.R1

namespace Go.Bw.R1
set_option maxRecDepth 5000
open Go Go.Bw Go.Proofs
/-- a value, as its bytes tell it: what it is, and what stands inside -/
structure Sh where
  kind : Int
  num : Int
  text : ByteArray
  cnt : Nat
  ins : ByteArray
  deriving Inhabited
def codesOf (k : Int) : List Int :=
  if k = 2 then [65, 66, 86] else if k = 5 then [67, 82, 112] else if k = 6 then [68, 83, 128] else if k = 9 then [84, 113] else if k = 10 then [85, 129] else if k = 19 then [160, 176] else if k = 20 then [161, 177]
  else if k = 21 then [163, 179] else if k = 22 then [69, 192, 208] else if k = 23 then [193, 209] else if k = 24 then [224, 240] else [codeK k]
def sgn8 (n : Int) : Bool := IntKind.i8.wrap n == IntKind.i64.wrap n
def fitS (c : Int) (s : Sh) : Bool :=
  if c = 65 then s.num == 1 else if c = 66 ∨ c = 67 ∨ c = 68 then s.num == 0 else if c = 69 then decide (s.cnt = 0) else if c = 82 ∨ c = 83 then decide (s.num ≤ 255) else if c = 84 ∨ c = 85 then sgn8 s.num
  else if c = 160 ∨ c = 161 ∨ c = 163 then decide (s.text.size ≤ 255) else if c = 192 ∨ c = 193 ∨ c = 224 then decide (s.cnt ≤ 255) && decide (s.ins.size < 255) else true
/-- the first code of a kind that can tell all -/
def codeOf (ls : List Sh) : Int := ((codesOf (ls.headD default).kind).find? fun c => ls.all (fitS c)).getD 0
def widQ (q : Int) : Nat := if q = 5 then 1 else if q = 6 then 2 else if q = 7 then 4 else 8
def dataS (c : Int) (s : Sh) : ByteArray :=
  if c.fdiv 16 = 4 then e0 else if c.fdiv 16 = 5 ∨ c.fdiv 16 = 6 ∨ c.fdiv 16 = 7 ∨ c.fdiv 16 = 8 then (if s.text = e0 then be (widQ (c.fdiv 16)) s.num else s.text)
  else if c.fdiv 16 = 9 then s.text else if c.fdiv 16 = 10 then be 1 s.text.size ++ s.text else if c.fdiv 16 = 11 then be 4 s.text.size ++ s.text
  else if c.fdiv 16 = 12 ∨ c.fdiv 16 = 14 then be 1 (1 + s.ins.size : Nat) ++ (be 1 s.cnt ++ s.ins) else be 4 (4 + s.ins.size : Nat) ++ (be 4 s.cnt ++ s.ins)
def Wd (s : Sh) (h : ByteArray) : ByteArray := h ++ b1 (codeOf [s]) ++ dataS (codeOf [s]) s
def catW : List (Sh × ByteArray) → ByteArray
  | [] => e0
  | e :: r => Wd e.1 e.2 ++ catW r
def catD (c : Int) : List Sh → ByteArray
  | [] => e0
  | s :: r => dataS c s ++ catD c r
def arrS : List (Sh × ByteArray) → ByteArray
  | [] => b1 64
  | e :: r => e.2 ++ b1 (codeOf ((e :: r).map Prod.fst)) ++ catD (codeOf ((e :: r).map Prod.fst)) ((e :: r).map Prod.fst)
def encF (k n : Int) (t : ByteArray) (es : List (Sh × ByteArray)) : Sh × ByteArray :=
  if k = 25 then (match es with | [a, x] => (x.1, b1 0 ++ Wd a.1 a.2 ++ x.2) | _ => default) else (⟨k, n, t, es.length, if k = 24 then arrS es else catW es⟩, e0)
mutual
def encV : Val → Sh × ByteArray
  | .mk k n t l => encF k n t (encL l)
def encL : List Val → List (Sh × ByteArray)
  | [] => []
  | v :: l => encV v :: encL l
end
theorem encL_map : ∀ l, encL l = l.map encV
  | [] => rfl
  | v :: l => by rw [encL, encL_map l]; rfl
theorem encV_eq (v : Val) : encV v = encF v.kind v.num v.text (v.kids.map encV) := by cases v; rw [encV, encL_map]; rfl
def shV (v : Val) : Sh := (encV v).1
def hdV (v : Val) : ByteArray := (encV v).2
/-- a value's bytes -/
def wrV (v : Val) : ByteArray := Wd (shV v) (hdV v)
def insS (v : Val) : ByteArray := if v.kind = 24 then arrS (v.kids.map encV) else catW (v.kids.map encV)
theorem sh_ne {v : Val} (h : v.kind ≠ 25) : shV v = ⟨v.kind, v.num, v.text, v.kids.length, insS v⟩ := by
  unfold shV insS; rw [encV_eq]; unfold encF; rw [if_neg h]; simp only [List.length_map]
theorem hd_ne {v : Val} (h : v.kind ≠ 25) : hdV v = e0 := by unfold hdV; rw [encV_eq]; unfold encF; rw [if_neg h]
theorem enc_desc {v a x : Val} (h : v.kind = 25) (hk : v.kids = [a, x]) : shV v = shV x ∧ hdV v = b1 0 ++ wrV a ++ hdV x := by
  unfold shV hdV wrV shV hdV; rw [encV_eq v]; unfold encF; rw [if_pos h, hk]; exact ⟨rfl, rfl⟩
theorem catW_app : ∀ a b, catW (a ++ b) = catW a ++ catW b
  | [], b => by simp only [List.nil_append, catW]; exact (ByteArray.empty_append).symm
  | e :: a, b => by simp only [List.cons_append, catW, catW_app a b, ByteArray.append_assoc]
theorem catD_app (c : Int) : ∀ a b, catD c (a ++ b) = catD c a ++ catD c b
  | [], b => by simp only [List.nil_append, catD]; exact (ByteArray.empty_append).symm
  | e :: a, b => by simp only [List.cons_append, catD, catD_app c a b, ByteArray.append_assoc]
theorem e0_app (a : ByteArray) : e0 ++ a = a := ByteArray.empty_append
theorem app_e0 (a : ByteArray) : a ++ e0 = a := ByteArray.append_empty
theorem e0_size : e0.size = 0 := rfl
theorem wOk_wid (q : Int) : wOk (widQ q) := by unfold widQ wOk; repeat' split
                                               all_goals simp
theorem wid_le (q : Int) : widQ q ≤ 8 := by unfold widQ; repeat' split
                                            all_goals omega
theorem dataS_size (c : Int) (s : Sh) : (dataS c s).size ≤ 8 + s.text.size + s.ins.size := by
  unfold dataS
  repeat' split
  all_goals try simp only [ByteArray.size_append, e0_size, be_size (wOk_wid _), be_size (w := 1) (by simp [wOk]), be_size (w := 4) (by simp [wOk])]
  all_goals first | omega | (have := wid_le (c.fdiv 16); omega)
/-- so many bytes a value may have at most -/
def mxS (e : Sh × ByteArray) : Nat := e.2.size + 9 + e.1.text.size + e.1.ins.size
theorem Wd_size (s : Sh) (h : ByteArray) : (Wd s h).size ≤ mxS (s, h) := by
  have := dataS_size (codeOf [s]) s
  unfold Wd mxS
  simp only [ByteArray.size_append, b1_size]; omega
theorem catW_size : ∀ es : List (Sh × ByteArray), (catW es).size ≤ (es.map mxS).sum
  | [] => by simp [catW, e0_size]
  | e :: r => by have := catW_size r; have h : (Wd e.1 e.2).size ≤ mxS e := Wd_size e.1 e.2; simp only [catW, ByteArray.size_append, List.map_cons, List.sum_cons]; omega
theorem catD_size (c : Int) : ∀ es : List (Sh × ByteArray), (catD c (es.map Prod.fst)).size + es.length ≤ (es.map mxS).sum
  | [] => by simp [catD, e0_size]
  | e :: r => by
    have := catD_size c r; have := dataS_size c e.1
    simp only [List.map_cons, catD, ByteArray.size_append, List.sum_cons, List.length_cons]
    unfold mxS at *; omega
theorem catD_size2 (c : Int) (e : Sh × ByteArray) (r : List (Sh × ByteArray)) : e.2.size + 1 + (catD c ((e :: r).map Prod.fst)).size ≤ ((e :: r).map mxS).sum := by
  have := catD_size c r; have := dataS_size c e.1
  simp only [List.map_cons, catD, ByteArray.size_append, List.sum_cons]
  unfold mxS at *; omega
theorem arrS_size (es : List (Sh × ByteArray)) : (arrS es).size ≤ 1 + (es.map mxS).sum := by
  cases es with
  | nil => simp [arrS, b1_size]
  | cons e r =>
    have := catD_size2 (codeOf ((e :: r).map Prod.fst)) e r
    simp only [arrS, ByteArray.size_append, b1_size]; omega
theorem encF_size (k n : Int) (t : ByteArray) (es : List (Sh × ByteArray)) : mxS (encF k n t es) ≤ 10 + t.size + (es.map mxS).sum := by
  unfold encF
  split
  · split
    · rename_i a x
      have := Wd_size a.1 a.2
      simp only [List.map_cons, List.map_nil, List.sum_cons, List.sum_nil]
      have e : mxS (x.1, b1 0 ++ Wd a.1 a.2 ++ x.2) = 1 + (Wd a.1 a.2).size + mxS x := by unfold mxS; simp only [ByteArray.size_append, b1_size]; omega
      rw [e]
      have : mxS (a.1, a.2) = mxS a := rfl
      omega
    · show mxS default ≤ _
      have : mxS default = 9 := rfl
      omega
  · have key : ∀ z : ByteArray, mxS (⟨k, n, t, es.length, z⟩, e0) = 0 + 9 + t.size + z.size := fun z => rfl
    rw [key]
    split
    · have := arrS_size es; omega
    · have := catW_size es; omega
mutual
theorem mx_sz : ∀ v : Val, mxS (encV v) ≤ 10 * v.sz
  | .mk k n t l => by
    have h1 := encF_size k n t (encL l); have h2 := mx_szL l
    have e : encV (.mk k n t l) = encF k n t (encL l) := by rw [encV]
    rw [e, Val.sz]; omega
theorem mx_szL : ∀ l : List Val, ((encL l).map mxS).sum ≤ 10 * Val.szL l
  | [] => by rw [encL]; exact Nat.zero_le _
  | v :: l => by have h1 := mx_sz v; have h2 := mx_szL l; rw [encL, List.map_cons, List.sum_cons, Val.szL]; omega
end
theorem wr_sz (v : Val) : (wrV v).size ≤ 10 * v.sz := by
  have h1 := Wd_size (shV v) (hdV v); have h2 := mx_sz v
  exact Nat.le_trans h1 h2
theorem ins_sz (v : Val) : (shV v).ins.size + (shV v).text.size + (hdV v).size + 9 ≤ 10 * v.sz := by
  have h2 := mx_sz v
  unfold mxS at h2; unfold shV hdV; omega
theorem wr_pos (v : Val) : 0 < (wrV v).size := by unfold wrV Wd; simp only [ByteArray.size_append, b1_size]; omega
theorem sh_bare : ∀ (n : Nat) (v : Val), v.sz ≤ n → mayS v = true → shV (bareV v) = shV v ∧ (bareV v).kind ≠ 25 ∧ mayS (bareV v) = true ∧ (bareV v).sz ≤ v.sz
  | 0, .mk .., h, _ => by simp [Val.sz] at h
  | n + 1, v, hn, hm => by
    by_cases hk : v.kind = 25
    · obtain ⟨a, x, h1, h2, h3⟩ := may_desc hm hk
      have hs : x.sz < v.sz := by rw [Val.sz_eq v, h1]; simp only [Val.szL]; omega
      obtain ⟨i1, i2, i3, i4⟩ := sh_bare n x (by omega) h3
      rw [bare_desc hk h1, (enc_desc hk h1).1]
      exact ⟨i1, i2, i3, by omega⟩
    · rw [bare_ne hk]; exact ⟨rfl, hk, hm, Nat.le_refl _⟩
end Go.Bw.R1

namespace Go.Bw.R1
set_option maxRecDepth 5000
open Go Go.Bw Go.Proofs
theorem mapT : MapT Tryz.prog 179 := ⟨5, 5, by rw [Tryz.underlying179], by rw [Tryz.underlying5], ze5, by kernel_rfl, by kernel_rfl⟩
theorem gl_codes : gl0 0 = .rp [codesD] := nr rfl
def fnOf (c : Int) : FuncId :=
  if c = 65 then 151 else if c = 66 ∨ c = 67 ∨ c = 68 then 152 else if c = 69 then 157 else if c = 82 ∨ c = 83 then 154 else if c = 84 ∨ c = 85 then 155
  else if c = 160 ∨ c = 161 ∨ c = 163 then 156 else if c = 192 ∨ c = 193 ∨ c = 224 then 158 else 153
/-- a code, and what says whether it can tell a value -/
def chD (c : Int) : D := .agg [.sc (.int .u8 c), .fn (.func (fnOf c)) [] []]
theorem choices_2 : EV 133 [.sc (.int .u8 2)] [] = some (.ret (.ro false ((codesOf 2).map chD)), []) := by
  refine (ev_body ⟨[], [], [], true, [], noIt⟩ [.tmp 2] rfl Tryz.func133 rfl rfl rfl (by kernel_rfl) (by show 1 ≤ 68; decide) (by kernel_rfl)).trans ?_
  simp +contextual (maxSteps := 10000000) only [go_sem]
  rfl
theorem choices_5 : EV 133 [.sc (.int .u8 5)] [] = some (.ret (.ro false ((codesOf 5).map chD)), []) := by
  refine (ev_body ⟨[], [], [], true, [], noIt⟩ [.tmp 2] rfl Tryz.func133 rfl rfl rfl (by kernel_rfl) (by show 1 ≤ 68; decide) (by kernel_rfl)).trans ?_
  simp +contextual (maxSteps := 10000000) only [go_sem]
  rfl
theorem choices_6 : EV 133 [.sc (.int .u8 6)] [] = some (.ret (.ro false ((codesOf 6).map chD)), []) := by
  refine (ev_body ⟨[], [], [], true, [], noIt⟩ [.tmp 2] rfl Tryz.func133 rfl rfl rfl (by kernel_rfl) (by show 1 ≤ 68; decide) (by kernel_rfl)).trans ?_
  simp +contextual (maxSteps := 10000000) only [go_sem]
  rfl
theorem choices_9 : EV 133 [.sc (.int .u8 9)] [] = some (.ret (.ro false ((codesOf 9).map chD)), []) := by
  refine (ev_body ⟨[], [], [], true, [], noIt⟩ [.tmp 2] rfl Tryz.func133 rfl rfl rfl (by kernel_rfl) (by show 1 ≤ 68; decide) (by kernel_rfl)).trans ?_
  simp +contextual (maxSteps := 10000000) only [go_sem]
  rfl
theorem choices_10 : EV 133 [.sc (.int .u8 10)] [] = some (.ret (.ro false ((codesOf 10).map chD)), []) := by
  refine (ev_body ⟨[], [], [], true, [], noIt⟩ [.tmp 2] rfl Tryz.func133 rfl rfl rfl (by kernel_rfl) (by show 1 ≤ 68; decide) (by kernel_rfl)).trans ?_
  simp +contextual (maxSteps := 10000000) only [go_sem]
  rfl
theorem choices_19 : EV 133 [.sc (.int .u8 19)] [] = some (.ret (.ro false ((codesOf 19).map chD)), []) := by
  refine (ev_body ⟨[], [], [], true, [], noIt⟩ [.tmp 2] rfl Tryz.func133 rfl rfl rfl (by kernel_rfl) (by show 1 ≤ 68; decide) (by kernel_rfl)).trans ?_
  simp +contextual (maxSteps := 10000000) only [go_sem]
  rfl
theorem choices_20 : EV 133 [.sc (.int .u8 20)] [] = some (.ret (.ro false ((codesOf 20).map chD)), []) := by
  refine (ev_body ⟨[], [], [], true, [], noIt⟩ [.tmp 2] rfl Tryz.func133 rfl rfl rfl (by kernel_rfl) (by show 1 ≤ 68; decide) (by kernel_rfl)).trans ?_
  simp +contextual (maxSteps := 10000000) only [go_sem]
  rfl
theorem choices_21 : EV 133 [.sc (.int .u8 21)] [] = some (.ret (.ro false ((codesOf 21).map chD)), []) := by
  refine (ev_body ⟨[], [], [], true, [], noIt⟩ [.tmp 2] rfl Tryz.func133 rfl rfl rfl (by kernel_rfl) (by show 1 ≤ 68; decide) (by kernel_rfl)).trans ?_
  simp +contextual (maxSteps := 10000000) only [go_sem]
  rfl
theorem choices_22 : EV 133 [.sc (.int .u8 22)] [] = some (.ret (.ro false ((codesOf 22).map chD)), []) := by
  refine (ev_body ⟨[], [], [], true, [], noIt⟩ [.tmp 2] rfl Tryz.func133 rfl rfl rfl (by kernel_rfl) (by show 1 ≤ 68; decide) (by kernel_rfl)).trans ?_
  simp +contextual (maxSteps := 10000000) only [go_sem]
  rfl
theorem choices_23 : EV 133 [.sc (.int .u8 23)] [] = some (.ret (.ro false ((codesOf 23).map chD)), []) := by
  refine (ev_body ⟨[], [], [], true, [], noIt⟩ [.tmp 2] rfl Tryz.func133 rfl rfl rfl (by kernel_rfl) (by show 1 ≤ 68; decide) (by kernel_rfl)).trans ?_
  simp +contextual (maxSteps := 10000000) only [go_sem]
  rfl
theorem choices_24 : EV 133 [.sc (.int .u8 24)] [] = some (.ret (.ro false ((codesOf 24).map chD)), []) := by
  refine (ev_body ⟨[], [], [], true, [], noIt⟩ [.tmp 2] rfl Tryz.func133 rfl rfl rfl (by kernel_rfl) (by show 1 ≤ 68; decide) (by kernel_rfl)).trans ?_
  simp +contextual (maxSteps := 10000000) only [go_sem]
  rfl
theorem tabS_mem : ∀ (l : List (Int × Int)) (k : Int), tabS l k = 0 ∨ ∃ p ∈ l, p.1 = k ∧ tabS l k = p.2
  | [], k => .inl rfl
  | (a, b) :: r, k => by
    unfold tabS
    by_cases h : a = k
    · rw [if_pos h]; exact .inr ⟨(a, b), List.mem_cons_self .., h, rfl⟩
    · rw [if_neg h]
      rcases tabS_mem r k with h2 | ⟨p, h2, h3⟩
      · exact .inl h2
      · exact .inr ⟨p, List.mem_cons_of_mem _ h2, h3⟩
theorem codeK_fn (k : Int) : fnOf (codeK k) = 153 := by
  rcases tabS_mem codesTab k with h | ⟨p, h1, h2, h3⟩
  · show fnOf (tabS codesTab k) = _; rw [h]; rfl
  · show fnOf (tabS codesTab k) = _; rw [h3]
    have : ∀ p ∈ codesTab, fnOf p.2 = 153 := by decide
    exact this p h1
theorem choices_e (k : Int) (h2 : k ≠ 2) (h5 : k ≠ 5) (h6 : k ≠ 6) (h9 : k ≠ 9) (h10 : k ≠ 10) (h19 : k ≠ 19) (h20 : k ≠ 20) (h21 : k ≠ 21) (h22 : k ≠ 22) (h23 : k ≠ 23) (h24 : k ≠ 24) : EV 133 [.sc (.int .u8 k)] [] = some (.ret (.ro false ((codesOf k).map chD)), []) := by
  have e : codesOf k = [codeK k] := by unfold codesOf; simp only [h2, h5, h6, h9, h10, h19, h20, h21, h22, h23, h24, if_false]
  have b2 : (k == 2) = false := by simpa using h2
  have b5 : (k == 5) = false := by simpa using h5
  have b6 : (k == 6) = false := by simpa using h6
  have b9 : (k == 9) = false := by simpa using h9
  have b10 : (k == 10) = false := by simpa using h10
  have b19 : (k == 19) = false := by simpa using h19
  have b20 : (k == 20) = false := by simpa using h20
  have b21 : (k == 21) = false := by simpa using h21
  have b22 : (k == 22) = false := by simpa using h22
  have b23 : (k == 23) = false := by simpa using h23
  have b24 : (k == 24) = false := by simpa using h24
  rw [e, List.map_cons, List.map_nil, chD, codeK_fn]
  refine (ev_body ⟨[], [], [], true, [], noIt⟩ [.tmp 2] rfl Tryz.func133 rfl rfl rfl (by kernel_rfl) (by show 1 ≤ 68; decide) (by kernel_rfl)).trans ?_
  simp +contextual (maxSteps := 10000000) only [go_sem, b2, b5, b6, b9, b10, b19, b20, b21, b22, b23, b24, look_codes mapT, gl_codes]
theorem choices_c (k : Int) : EV 133 [.sc (.int .u8 k)] [] = some (.ret (.ro false ((codesOf k).map chD)), []) := by
  by_cases h2 : k = 2
  · subst h2; exact choices_2
  by_cases h5 : k = 5
  · subst h5; exact choices_5
  by_cases h6 : k = 6
  · subst h6; exact choices_6
  by_cases h9 : k = 9
  · subst h9; exact choices_9
  by_cases h10 : k = 10
  · subst h10; exact choices_10
  by_cases h19 : k = 19
  · subst h19; exact choices_19
  by_cases h20 : k = 20
  · subst h20; exact choices_20
  by_cases h21 : k = 21
  · subst h21; exact choices_21
  by_cases h22 : k = 22
  · subst h22; exact choices_22
  by_cases h23 : k = 23
  · subst h23; exact choices_23
  by_cases h24 : k = 24
  · subst h24; exact choices_24
  exact choices_e k h2 h5 h6 h9 h10 h19 h20 h21 h22 h23 h24
theorem f_one (v : Val) : EV 151 [v.d] [] = some (.ret (B (v.num == 1)), []) := by
  refine (ev_body ⟨[1], [], [], false, [], noIt⟩ [.tmp 2] rfl Tryz.func151 rfl rfl rfl (by kernel_rfl) (by show 1 ≤ 6; decide) (by kernel_rfl)).trans ?_
  simp +contextual (maxSteps := 10000000) only [go_sem]
theorem f_nought (v : Val) : EV 152 [v.d] [] = some (.ret (B (v.num == 0)), []) := by
  refine (ev_body ⟨[1], [], [], false, [], noIt⟩ [.tmp 2] rfl Tryz.func152 rfl rfl rfl (by kernel_rfl) (by show 1 ≤ 6; decide) (by kernel_rfl)).trans ?_
  simp +contextual (maxSteps := 10000000) only [go_sem]
theorem f_all (v : Val) : EV 153 [v.d] [] = some (.ret (B true), []) := by
  refine (ev_body ⟨[1], [], [], false, [], noIt⟩ [.tmp 2] rfl Tryz.func153 rfl rfl rfl (by kernel_rfl) (by show 1 ≤ 3; decide) (by kernel_rfl)).trans ?_
  simp +contextual (maxSteps := 10000000) only [go_sem]
theorem f_byte (v : Val) : EV 154 [v.d] [] = some (.ret (B (decide (v.num ≤ 255))), []) := by
  refine (ev_body ⟨[1], [], [], false, [], noIt⟩ [.tmp 2] rfl Tryz.func154 rfl rfl rfl (by kernel_rfl) (by show 1 ≤ 6; decide) (by kernel_rfl)).trans ?_
  simp +contextual (maxSteps := 10000000) only [go_sem]
theorem f_signed (v : Val) : EV 155 [v.d] [] = some (.ret (B (sgn8 v.num)), []) := by
  refine (ev_body ⟨[1], [], [], false, [], noIt⟩ [.tmp 2] rfl Tryz.func155 rfl rfl rfl (by kernel_rfl) (by show 1 ≤ 11; decide) (by kernel_rfl)).trans ?_
  have e : IntKind.i64.wrap (IntKind.i8.wrap v.num) = IntKind.i8.wrap v.num := by
    have := wrap_i8_eq v.num
    apply wrap_i64 <;> (rw [this]; split <;> omega)
  simp +contextual (maxSteps := 10000000) only [go_sem, e, sgn8]
theorem f_short (v : Val) : EV 156 [v.d] [] = some (.ret (B (decide (v.text.size ≤ 255))), []) := by
  have e : decide ((v.text.size : Int) ≤ 255) = decide (v.text.size ≤ 255) := decide_eq_decide.2 (by omega)
  refine (ev_body ⟨[1], [], [], false, [], noIt⟩ [.tmp 2] rfl Tryz.func156 rfl rfl rfl (by kernel_rfl) (by show 1 ≤ 7; decide) (by kernel_rfl)).trans ?_
  simp +contextual (maxSteps := 10000000) only [go_sem, e]
theorem f_none (v : Val) : EV 157 [v.d] [] = some (.ret (B (decide (v.kids.length = 0))), []) := by
  have e : ((v.kids.length : Int) == 0) = decide (v.kids.length = 0) := by rw [Bool.eq_iff_iff]; simp only [beq_iff_eq, decide_eq_true_eq]; omega
  refine (ev_body ⟨[1], [], [], false, [], noIt⟩ [.tmp 2] rfl Tryz.func157 rfl rfl rfl (by kernel_rfl) (by show 1 ≤ 7; decide) (by kernel_rfl)).trans ?_
  simp +contextual (maxSteps := 10000000) only [go_sem, e]
theorem of_c (p n : Int) : EV 169 [I p, I n] [] = some (.ret (.sc (.complex .f64 (FloatKind.f64.nearest p) (FloatKind.f64.nearest n))), []) := by
  refine (ev_body ⟨[], [], [], false, [], noIt⟩ [.tmp 4] rfl Tryz.func169 rfl rfl rfl (by kernel_rfl) (by show 2 ≤ 10; decide) (by kernel_rfl)).trans ?_
  simp +contextual (maxSteps := 10000000) only [go_sem, conv_i2f Tryz.underlying3 Tryz.underlying197, complex_b]
theorem cmp_lt (n m : Int) : (some (compare n m) == some Ordering.lt) = decide (n < m) := by
  simp only [compare, compareOfLessAndEq]
  by_cases h : n < m
  · simp [h]
  · by_cases h2 : n = m
    · simp [h, h2]
    · simp [h, h2]
theorem cmp_le (n m : Int) : (some (compare n m) == some Ordering.lt || some (compare n m) == some Ordering.eq) = decide (n ≤ m) := by
  simp only [compare, compareOfLessAndEq]
  by_cases h : n < m
  · simp [h]; omega
  · by_cases h2 : n = m
    · simp [h2]
    · simp [h, h2]; omega
theorem small_c (p n : Int) (h0 : 0 ≤ p) (h1 : p < 9007199254740992) (k0 : 0 ≤ n) (k1 : n < 9007199254740992) : EV 170 [.sc (.complex .f64 (FloatKind.f64.nearest p) (FloatKind.f64.nearest n))] [] = some (.ret (B (decide (p ≤ 255) && decide (n < 255))), []) := by
  have a1 := order_near p 255 h0 h1 (by omega) (by omega)
  have a2 := order_near n 255 k0 k1 (by omega) (by omega)
  rw [near_255] at a1 a2
  have c1 := cmp_le p 255
  have c2 := cmp_lt n 255
  rw [← a1] at c1
  rw [← a2] at c2
  refine (ev_body ⟨[], [], [], false, [], noIt⟩ [.tmp 2] rfl Tryz.func170 rfl rfl rfl (by kernel_rfl) (by show 1 ≤ 11; decide) (by kernel_rfl)).trans ?_
  simp +contextual (maxSteps := 10000000) only [go_sem, real_b, imag_b, fleq_b Tryz.underlying197, flss_b Tryz.underlying197, c1, c2, pick_and]
/-- what stands inside, as it is handed back -/
def insR (s : ByteArray) : R × Sto := if s.size = 0 then (.ret .nils, []) else (.ret (.ref 0 0 1 0 s.size), [some ⟨0, bytesD s⟩])
/-- what inside answers: bytes in new memory, or a constant byte -/
def InsC (v : Val) (s : ByteArray) : Prop := EV 132 [v.d] [] = some (insR s) ∨ EV 132 [v.d] [] = some (.ret (.ro true (bytesD s)), [])
theorem f_few (v : Val) (s : ByteArray) (hs : s.size ≤ 450000000) (hk : v.kids.length ≤ 40000000) (h : InsC v s) : EV 158 [v.d] [] = some (.ret (B (decide (v.kids.length ≤ 255) && decide (s.size < 255))), []) := by
  have hc := small_c v.kids.length s.size (by omega) (by omega) (by omega) (by omega)
  have e1 : decide ((v.kids.length : Int) ≤ 255) = decide (v.kids.length ≤ 255) := decide_eq_decide.2 (by omega)
  have e2 : decide ((s.size : Int) < 255) = decide (s.size < 255) := decide_eq_decide.2 (by omega)
  rw [e1, e2] at hc
  refine (ev_body ⟨[1], [], [(1, [(3, 0, false), (4, 0, true), (0, 0, false), (1, 0, false), (2, 0, false), (5, 1, false), (6, 1, false), (7, 0, false), (8, 1, false)])], false, [], noIt⟩ [.tmp 2] rfl Tryz.func158 rfl rfl rfl (by kernel_rfl) (by show 1 ≤ 11; decide) (by kernel_rfl)).trans ?_
  rcases h with h | h
  · unfold insR at h
    by_cases h0 : s.size = 0
    · rw [if_pos h0] at h
      rw [h0] at hc
      simp only [Int.natCast_zero, Int.cast_ofNat_Int] at hc
      simp +contextual (maxSteps := 10000000) only [go_sem, h, of_c, hc, h0]
    · rw [if_neg h0] at h
      simp +contextual (maxSteps := 10000000) only [go_sem, h, of_c, hc]
  · simp +contextual (maxSteps := 10000000) only [go_sem, h, of_c, hc]
end Go.Bw.R1

namespace Go.Bw.R1
set_option maxRecDepth 5000
open Go Go.Bw Go.Proofs
theorem fit_c (v : Val) (hv : v.sz ≤ 40000000) (hk : v.kind ≠ 25) (c : Int) (hin : c = 192 ∨ c = 193 ∨ c = 224 → InsC v (insS v)) : EV (fnOf c) [v.d] [] = some (.ret (B (fitS c (shV v))), []) := by
  have hl := szL_len v.kids
  have hz := Val.sz_eq v
  have hi := ins_sz v
  rw [sh_ne hk] at hi ⊢
  simp only at hi
  unfold fnOf fitS
  simp only
  by_cases h1 : c = 65
  · rw [if_pos h1, if_pos h1]; exact f_one v
  rw [if_neg h1, if_neg h1]
  by_cases h2 : c = 66 ∨ c = 67 ∨ c = 68
  · rw [if_pos h2, if_pos h2]; exact f_nought v
  rw [if_neg h2, if_neg h2]
  by_cases h3 : c = 69
  · rw [if_pos h3, if_pos h3]; exact f_none v
  rw [if_neg h3, if_neg h3]
  by_cases h4 : c = 82 ∨ c = 83
  · rw [if_pos h4, if_pos h4]; exact f_byte v
  rw [if_neg h4, if_neg h4]
  by_cases h5 : c = 84 ∨ c = 85
  · rw [if_pos h5, if_pos h5]; exact f_signed v
  rw [if_neg h5, if_neg h5]
  by_cases h6 : c = 160 ∨ c = 161 ∨ c = 163
  · rw [if_pos h6, if_pos h6]; exact f_short v
  rw [if_neg h6, if_neg h6]
  by_cases h7 : c = 192 ∨ c = 193 ∨ c = 224
  · rw [if_pos h7, if_pos h7]; exact f_few v _ (by omega) (by omega) (hin h7)
  rw [if_neg h7, if_neg h7]; exact f_all v
theorem all_take {α : Type} {p : α → Bool} {l : List α} {i : Nat} {x : α} (h : l[i]? = some x) : (l.take (i + 1)).all p = ((l.take i).all p && p x) := by
  rw [take_snoc h, List.all_append]; simp
theorem codesOf_len (k : Int) : (codesOf k).length ≤ 3 := by unfold codesOf; repeat' split
                                                             all_goals simp
theorem ch_refs (cs : List Int) : D.refsL (cs.map chD) = [] := refsL_map (fun _ => rfl) cs
theorem ch_can (cs : List Int) : D.canL (cs.map chD) = cs.map chD := by
  rw [D.canL_map, List.map_map]; rfl
attribute [go_sem] ch_refs ch_can
set_option maxHeartbeats 2000000 in
theorem code_c (l : List Val) (v : Val) (hv : l[0]? = some v) (hl : l.length ≤ 40000000) (hf : ∀ x ∈ l, ∀ c ∈ codesOf v.kind, EV (fnOf c) [x.d] [] = some (.ret (B (fitS c (shV x))), [])) (hk : v.kind ≠ 25) : EV 96 [.ro false (l.map Val.d)] [] = some (.ret (.sc (.int .u8 (codeOf (l.map shV)))), []) := by
  have h0 : (l.map Val.d)[0]? = some v.d := by rw [List.getElem?_map, hv]; rfl
  have hkd : (List.headD (l.map shV) default).kind = v.kind := by
    cases l with
    | nil => simp at hv
    | cons a r => simp at hv; subst hv; show (shV a).kind = _; rw [sh_ne hk]
  have hco : codeOf (l.map shV) = ((codesOf v.kind).find? fun c => (l.map shV).all (fitS c)).getD 0 := by unfold codeOf; rw [hkd]
  rw [hco]
  obtain ⟨cs, hcs⟩ : ∃ cs, cs = codesOf v.kind := ⟨_, rfl⟩
  have hlen := codesOf_len v.kind
  have hch := choices_c v.kind
  rw [← hcs] at hf hlen hch ⊢
  refine (ev_body ⟨[], [(0, [0, 12, 13, 14]), (2, [0, 4, 5, 12, 13, 14, 18, 19, 20])], [], false, [], noIt⟩ [.tmp 2] rfl Tryz.func96 rfl rfl rfl (by kernel_rfl) (by show 1 ≤ 36; decide) (by kernel_rfl)).trans ?_
  simp +contextual (maxSteps := 10000000) only [go_sem, h0, hch]
  refine lpK_inv (fun m f es => ∃ (i : Nat) (j : Int), j = i ∧ m + i = cs.length ∧ (cs.find? fun c => (l.map shV).all (fitS c)).getD 0 = ((cs.drop i).find? fun c => (l.map shV).all (fitS c)).getD 0 ∧ f = [(0, .ro false (l.map Val.d)), (12, .ro false (cs.map chD)), (13, I cs.length), (14, I j)] ∧ es = []) cs.length ⟨0, _, rfl, by omega, rfl, rfl, rfl⟩ ?_
  rintro m _ _ ⟨i, _, rfl, hi, hfi, rfl, rfl⟩ ih
  cases m with
  | zero =>
    have hlt : decide ((i : Int) < cs.length) = false := by simp; omega
    obtain rfl : i = cs.length := by omega
    rw [List.drop_length] at hfi
    simp +contextual (maxSteps := 10000000) only [go_sem, hlt]
    rw [hfi]; rfl
  | succ m =>
    obtain ⟨c, hc⟩ := get_lt (l := cs) (i := i) (by omega)
    have hcm := List.mem_of_getElem? hc
    have hlt : decide ((i : Int) < cs.length) = true := by simp; omega
    have hix : (cs.map chD)[i]? = some (.agg [.sc (.int .u8 c), .fn (.func (fnOf c)) [] []]) := by rw [List.getElem?_map, hc]; rfl
    have hdr : cs.drop i = c :: cs.drop (i + 1) := by
      obtain ⟨p, q⟩ := List.getElem?_eq_some_iff.1 hc
      rw [List.drop_eq_getElem_cons p, q]
    rw [hdr] at hfi
    simp +contextual (maxSteps := 10000000) only [go_sem, hix, hlt]
    refine lpK_inv (fun m f es => ∃ (p : Nat) (j : Int) (b : Bool), j = p ∧ m + p = l.length ∧ b = ((l.take p).map shV).all (fitS c) ∧ f = [(0, .ro false (l.map Val.d)), (4, .ptr 0 0 0), (5, B b), (12, .ro false (cs.map chD)), (13, I cs.length), (14, I i), (18, .ro false (l.map Val.d)), (19, I l.length), (20, I j)] ∧ es = [some ⟨0, [.sc (.int .u8 c), .fn (.func (fnOf c)) [] []]⟩]) l.length ⟨0, _, _, rfl, by omega, rfl, rfl, rfl⟩ ?_
    rintro q _ _ ⟨p, _, _, rfl, hp, rfl, rfl, rfl⟩ ih2
    cases q with
    | succ q =>
      obtain ⟨x, hx⟩ := get_lt (l := l) (i := p) (by omega)
      have hlt2 : decide ((p : Int) < l.length) = true := by simp; omega
      have hpx : (l.map Val.d)[p]? = some x.d := by rw [List.getElem?_map, hx]; rfl
      have hfx := hf x (List.mem_of_getElem? hx) c hcm
      have hnx : ((l.take (p + 1)).map shV).all (fitS c) = (((l.take p).map shV).all (fitS c) && fitS c (shV x)) := by
        rw [List.map_take, all_take (x := shV x) (by rw [List.getElem?_map, hx]; rfl), List.map_take]
      generalize ((l.take p).map shV).all (fitS c) = b at hnx ⊢
      cases b with
      | true =>
        simp +contextual (maxSteps := 10000000) only [go_sem, hpx, hlt2, hfx, wrap_i64 (n := (p : Int) + 1) (by omega) (by omega)]
        exact ih2 q _ _ (by omega) ⟨p + 1, (p : Int) + 1, _, by omega, by omega, by rw [hnx]; rfl, rfl, rfl⟩
      | false =>
        simp +contextual (maxSteps := 10000000) only [go_sem, hpx, hlt2, wrap_i64 (n := (p : Int) + 1) (by omega) (by omega)]
        exact ih2 q _ _ (by omega) ⟨p + 1, (p : Int) + 1, _, by omega, by omega, by rw [hnx]; rfl, rfl, rfl⟩
    | zero =>
      have hlt2 : decide ((p : Int) < l.length) = false := by simp; omega
      obtain rfl : p = l.length := by omega
      rw [List.take_length]
      cases hb : (l.map shV).all (fitS c) with
      | true =>
        simp only [List.find?_cons, hb] at hfi
        simp +contextual (maxSteps := 10000000) only [go_sem, hlt2]
        rw [hfi]; rfl
      | false =>
        simp only [List.find?_cons, hb] at hfi
        simp +contextual (maxSteps := 10000000) only [go_sem, hlt2, wrap_i64 (n := (i : Int) + 1) (by omega) (by omega)]
        exact ih m _ _ (by omega) ⟨i + 1, (i : Int) + 1, by omega, by omega, hfi, rfl, rfl⟩
end Go.Bw.R1

namespace Go.Bw.R1
set_option maxRecDepth 5000
open Go Go.Bw Go.Proofs
theorem and1_4 : andB .u8 4 1 = 0 := by decide
theorem and1_5 : andB .u8 5 1 = 1 := by decide
theorem and1_6 : andB .u8 6 1 = 0 := by decide
theorem and1_7 : andB .u8 7 1 = 1 := by decide
theorem and1_8 : andB .u8 8 1 = 0 := by decide
theorem and1_9 : andB .u8 9 1 = 1 := by decide
theorem and1_10 : andB .u8 10 1 = 0 := by decide
theorem and1_11 : andB .u8 11 1 = 1 := by decide
theorem and1_12 : andB .u8 12 1 = 0 := by decide
theorem and1_13 : andB .u8 13 1 = 1 := by decide
theorem and1_14 : andB .u8 14 1 = 0 := by decide
theorem and1_15 : andB .u8 15 1 = 1 := by decide
attribute [go_sem] and1_4 and1_5 and1_6 and1_7 and1_8 and1_9 and1_10 and1_11 and1_12 and1_13 and1_14 and1_15
section
variable (b : ByteArray) (c : Int) (v : Val)
theorem data_4 (hq : c.fdiv 16 = 4) : EV 94 [.ref 0 0 1 0 b.size, .sc (.int .u8 c), v.d] [some ⟨0, bytesD b⟩] = some (.ret (.ref 0 1 1 0 b.size), [some ⟨1, bytesD b⟩]) := by
  refine (ev_body ⟨[5], [(4000000, [])], [], false, [], noIt⟩ [.tmp 6] rfl Tryz.func94 rfl rfl rfl (by kernel_rfl) (by show 3 ≤ 78; decide) (by kernel_rfl)).trans ?_
  simp +contextual (maxSteps := 10000000) only [go_sem, hq]
theorem data_n (h0 : b.size ≠ 0) (q : Int) (w : Nat) (hqw : q = 5 ∧ w = 1 ∨ q = 6 ∧ w = 2 ∨ q = 7 ∧ w = 4 ∨ q = 8 ∧ w = 8) (hb : b.size ≤ 450000000) (hq : c.fdiv 16 = q) (ht : v.text = ⟨#[]⟩) : EV 94 [.ref 0 0 1 0 b.size, .sc (.int .u8 c), v.d] [some ⟨0, bytesD b⟩] = some (.ret (.ref 0 1 1 0 (b.size + w)), [some ⟨1, bytesD (b ++ be w v.num)⟩]) := by
  have hw : wOk w := by unfold wOk; omega
  have hl := lay_ref w hw b v.num h0 (by omega)
  refine (ev_body ⟨[5], [(4000000, [])], [], false, [], noIt⟩ [.tmp 6] rfl Tryz.func94 rfl rfl rfl (by kernel_rfl) (by show 3 ≤ 78; decide) (by kernel_rfl)).trans ?_
  rcases hqw with ⟨rfl, rfl⟩ | ⟨rfl, rfl⟩ | ⟨rfl, rfl⟩ | ⟨rfl, rfl⟩
  all_goals simp only [Int.cast_ofNat_Int] at hl
  all_goals simp +contextual (maxSteps := 10000000) only [go_sem, hq, ht, hl]
theorem data_t (q : Int) (hqw : q = 5 ∨ q = 6 ∨ q = 7 ∨ q = 8 ∨ q = 9) (hb : b.size + v.text.size ≤ 1000000000) (hq : c.fdiv 16 = q) (ht : ¬ v.text = ⟨#[]⟩) : EV 94 [.ref 0 0 1 0 b.size, .sc (.int .u8 c), v.d] [some ⟨0, bytesD b⟩] = some (.ret (.ref 0 1 1 0 (b.size + v.text.size)), [some ⟨1, bytesD (b ++ v.text)⟩]) := by
  have hz : (v.text.size = 0) = False := by
    simp only [eq_iff_iff, iff_false]; intro h
    exact ht (ByteArray.ext (Array.eq_empty_of_size_eq_zero h))
  refine (ev_body ⟨[5], [(4000000, [])], [], false, [], noIt⟩ [.tmp 6] rfl Tryz.func94 rfl rfl rfl (by kernel_rfl) (by show 3 ≤ 78; decide) (by kernel_rfl)).trans ?_
  rcases hqw with rfl | rfl | rfl | rfl | rfl
  all_goals simp +contextual (maxSteps := 10000000) only [go_sem, hq, ht, hz, sz_le hb, bytesD_one]
theorem data_p (h0 : b.size ≠ 0) (q : Int) (w : Nat) (hqw : q = 10 ∧ w = 1 ∧ v.text.size ≤ 255 ∨ q = 11 ∧ w = 4) (hb : b.size ≤ 490000000) (ht : v.text.size ≤ 490000000) (hq : c.fdiv 16 = q) : EV 94 [.ref 0 0 1 0 b.size, .sc (.int .u8 c), v.d] [some ⟨0, bytesD b⟩] = some (.ret (.ref 0 1 1 0 (b.size + w + v.text.size)), [some ⟨1, bytesD (b ++ be w v.text.size ++ v.text)⟩]) := by
  have hl := layp_ref w b v.text h0 hb ht (by omega)
  refine (ev_body ⟨[5], [(4000000, [])], [], false, [], noIt⟩ [.tmp 6] rfl Tryz.func94 rfl rfl rfl (by kernel_rfl) (by show 3 ≤ 78; decide) (by kernel_rfl)).trans ?_
  rcases hqw with ⟨rfl, rfl, hs⟩ | ⟨rfl, rfl⟩
  all_goals simp only [Int.cast_ofNat_Int] at hl
  all_goals simp +contextual (maxSteps := 10000000) only [go_sem, hq, hl]
theorem lenW {n : Nat} (h : n ≤ 40000000) : IntKind.u64.wrap (n : Int) = n := fit_u64 (by omega) (by omega)
theorem data_k (h0 : b.size ≠ 0) (q : Int) (w : Nat) (hqw : q = 12 ∧ w = 1 ∨ q = 13 ∧ w = 4 ∨ q = 14 ∧ w = 1 ∨ q = 15 ∧ w = 4) (s : ByteArray) (hin : InsC v s) (hb : b.size ≤ 450000000) (hs : s.size ≤ 450000000) (h1 : w = 1 → s.size < 255)
    (hk : v.kids.length ≤ 40000000) (hq : c.fdiv 16 = q) : EV 94 [.ref 0 0 1 0 b.size, .sc (.int .u8 c), v.d] [some ⟨0, bytesD b⟩] = some (.ret (.ref 0 1 1 0 (b.size + w + (w + s.size))), [some ⟨1, bytesD (b ++ be w (w + s.size : Nat) ++ (be w v.kids.length ++ s))⟩]) := by
  have hw : wOk w := by unfold wOk; omega
  have hn := lay_nils w hw v.kids.length
  have hsz : (be w v.kids.length ++ s).size = w + s.size := by rw [ByteArray.size_append, be_size hw]
  have hl := layp_ref w b (be w v.kids.length ++ s) h0 (by omega) (by omega) (by omega)
  have hlw := lenW hk
  have hbs := be_size hw v.kids.length
  have hq2 : w + s.size ≤ 1000000000 := by omega
  rw [hsz] at hl
  refine (ev_body ⟨[5], [(4000000, [])], [], false, [], noIt⟩ [.tmp 6] rfl Tryz.func94 rfl rfl rfl (by kernel_rfl) (by show 3 ≤ 78; decide) (by kernel_rfl)).trans ?_
  rcases hin with hin | hin
  case inr =>
    by_cases hz : s.size = 0
    · have hs0 : be w v.kids.length ++ s = be w v.kids.length := bytes_nil hz _
      rw [hs0, hz] at hl ⊢
      rcases hqw with ⟨rfl, rfl⟩ | ⟨rfl, rfl⟩ | ⟨rfl, rfl⟩ | ⟨rfl, rfl⟩
      all_goals simp only [Int.cast_ofNat_Int, Nat.add_zero] at hl hn ⊢
      all_goals simp +contextual (maxSteps := 10000000) only [go_sem, hq, hn, hin, hl, hlw, hz]
    · have hz' : (s.size = 0) = False := by simpa using hz
      rcases hqw with ⟨rfl, rfl⟩ | ⟨rfl, rfl⟩ | ⟨rfl, rfl⟩ | ⟨rfl, rfl⟩
      all_goals simp only [Int.cast_ofNat_Int] at hl hn ⊢
      all_goals simp +contextual (maxSteps := 10000000) only [go_sem, hq, hn, hin, hl, hlw, hz', sz_le hq2, hbs, bytesD_one]
  unfold insR at hin
  by_cases hz : s.size = 0
  · rw [if_pos hz] at hin
    have hs0 : be w v.kids.length ++ s = be w v.kids.length := bytes_nil hz _
    rw [hs0, hz] at hl ⊢
    rcases hqw with ⟨rfl, rfl⟩ | ⟨rfl, rfl⟩ | ⟨rfl, rfl⟩ | ⟨rfl, rfl⟩
    all_goals simp only [Int.cast_ofNat_Int, Nat.add_zero] at hl hn ⊢
    all_goals simp +contextual (maxSteps := 10000000) only [go_sem, hq, hn, hin, hl, hlw]
  · rw [if_neg hz] at hin
    have hz' : (s.size = 0) = False := by simpa using hz
    rcases hqw with ⟨rfl, rfl⟩ | ⟨rfl, rfl⟩ | ⟨rfl, rfl⟩ | ⟨rfl, rfl⟩
    all_goals simp only [Int.cast_ofNat_Int] at hl hn ⊢
    all_goals simp +contextual (maxSteps := 10000000) only [go_sem, hq, hn, hin, hl, hlw, hz', sz_le hq2, hbs]
end
end Go.Bw.R1

namespace Go.Bw.R1
set_option maxRecDepth 5000
open Go Go.Bw Go.Proofs
def kindL : List Int := [1, 2, 3, 4, 5, 6, 7, 8, 9, 10, 11, 12, 13, 14, 15, 16, 17, 18, 19, 20, 21, 22, 23, 24]
def qOk (k c : Int) : Bool :=
  decide (0 ≤ c) && decide (c ≤ 255) && (c.fdiv 16 == 4 || c.fdiv 16 == 5 || c.fdiv 16 == 6 || c.fdiv 16 == 7 || c.fdiv 16 == 8 || (c.fdiv 16 == 9 && (k == 15 || k == 18)) || (c.fdiv 16 == 10 && (c == 160 || c == 161 || c == 163)) || c.fdiv 16 == 11
    || (c.fdiv 16 == 12 && (c == 192 || c == 193)) || c.fdiv 16 == 13 || (c.fdiv 16 == 14 && c == 224) || c.fdiv 16 == 15)
def noFit (c : Int) : Bool := !(c == 65 || c == 66 || c == 67 || c == 68 || c == 69 || c == 82 || c == 83 || c == 84 || c == 85 || c == 160 || c == 161 || c == 163 || c == 192 || c == 193 || c == 224)
theorem codes_q : ∀ k ∈ kindL, ∀ c ∈ codesOf k, qOk k c = true := by decide
theorem codes_last : ∀ k ∈ kindL, (codesOf k).any noFit = true := by decide
theorem fit_any {c : Int} (h : noFit c = true) (s : Sh) : fitS c s = true := by
  unfold noFit at h
  simp only [Bool.not_eq_true', Bool.or_eq_false_iff, beq_eq_false_iff_ne, ne_eq] at h
  obtain ⟨⟨⟨⟨⟨⟨⟨⟨⟨⟨⟨⟨⟨⟨a1, a2⟩, a3⟩, a4⟩, a5⟩, a6⟩, a7⟩, a8⟩, a9⟩, a10⟩, a11⟩, a12⟩, a13⟩, a14⟩, a15⟩ := h
  unfold fitS
  rw [if_neg a1, if_neg (by omega), if_neg a5, if_neg (by omega), if_neg (by omega), if_neg (by omega), if_neg (by omega)]
theorem kind_in {v : Val} (hm : mayS v = true) (hk : v.kind ≠ 25) : v.kind ∈ kindL := by
  rw [mayS_eq] at hm
  simp only [Bool.and_eq_true, decide_eq_true_eq] at hm
  obtain ⟨⟨⟨h1, h2⟩, _⟩, _⟩ := hm
  have : v.kind = 1 ∨ v.kind = 2 ∨ v.kind = 3 ∨ v.kind = 4 ∨ v.kind = 5 ∨ v.kind = 6 ∨ v.kind = 7 ∨ v.kind = 8 ∨ v.kind = 9 ∨ v.kind = 10 ∨ v.kind = 11 ∨ v.kind = 12 ∨ v.kind = 13 ∨ v.kind = 14 ∨ v.kind = 15 ∨ v.kind = 16 ∨ v.kind = 17 ∨ v.kind = 18 ∨ v.kind = 19 ∨ v.kind = 20 ∨ v.kind = 21 ∨ v.kind = 22 ∨ v.kind = 23 ∨ v.kind = 24 := by omega
  simp only [kindL, List.mem_cons, List.not_mem_nil, or_false]
  exact this
theorem codeOf_ok {ls : List Sh} {k : Int} (hk : (ls.headD default).kind = k) (hin : k ∈ kindL) : codeOf ls ∈ codesOf k ∧ ls.all (fitS (codeOf ls)) = true := by
  unfold codeOf
  rw [hk]
  have h1 := codes_last k hin
  rw [List.any_eq_true] at h1
  obtain ⟨c, hc, hn⟩ := h1
  cases hf : (codesOf k).find? fun c => ls.all (fitS c) with
  | none =>
    rw [List.find?_eq_none] at hf
    exact absurd (List.all_eq_true.2 fun s _ => fit_any hn s) (hf c hc)
  | some x => exact ⟨List.mem_of_find?_eq_some hf, by have := List.find?_some hf; exact this⟩
theorem text_16 {v : Val} (hm : mayS v = true) (hk : v.kind = 15 ∨ v.kind = 18) : ¬ v.text = ⟨#[]⟩ := by
  rw [mayS_eq] at hm
  simp only [Bool.and_eq_true] at hm
  obtain ⟨_, ⟨_, h⟩, _⟩ := hm
  intro ht
  rw [ht] at h
  rcases hk with hk | hk <;> (rw [hk] at h; revert h; decide)
theorem dq {c q : Int} (h : c.fdiv 16 = q) (s : Sh) : dataS c s = if q = 4 then e0 else if q = 5 ∨ q = 6 ∨ q = 7 ∨ q = 8 then (if s.text = e0 then be (widQ q) s.num else s.text)
  else if q = 9 then s.text else if q = 10 then be 1 s.text.size ++ s.text else if q = 11 then be 4 s.text.size ++ s.text
  else if q = 12 ∨ q = 14 then be 1 (1 + s.ins.size : Nat) ++ (be 1 s.cnt ++ s.ins) else be 4 (4 + s.ins.size : Nat) ++ (be 4 s.cnt ++ s.ins) := by unfold dataS; rw [h]
/-- the bytes of a value told by a code, behind bytes -/
theorem data_c (b : ByteArray) (v : Val) (c : Int) (h0 : b.size ≠ 0) (hb : b.size ≤ 450000000) (hv : v.sz ≤ 40000000) (hm : mayS v = true) (hk : v.kind ≠ 25) (hc : c ∈ codesOf v.kind) (hf : fitS c (shV v) = true) (hin : InsC v (insS v)) :
    EV 94 [.ref 0 0 1 0 b.size, .sc (.int .u8 c), v.d] [some ⟨0, bytesD b⟩] = some (.ret (.ref 0 1 1 0 (b.size + (dataS c (shV v)).size)), [some ⟨1, bytesD (b ++ dataS c (shV v))⟩]) := by
  have hq := codes_q _ (kind_in hm hk) c hc
  have hl := szL_len v.kids
  have hz := Val.sz_eq v
  have hi := ins_sz v
  rw [sh_ne hk] at hi hf ⊢
  simp only at hi hf
  unfold qOk at hq
  simp only [Bool.and_eq_true, Bool.or_eq_true, decide_eq_true_eq, beq_iff_eq] at hq
  obtain ⟨_, hq⟩ := hq
  have hkk : v.kids.length ≤ 40000000 := by omega
  have hn : ∀ (q : Int) (w : Nat), (q = 5 ∧ w = 1 ∨ q = 6 ∧ w = 2 ∨ q = 7 ∧ w = 4 ∨ q = 8 ∧ w = 8) → c.fdiv 16 = q → EV 94 [.ref 0 0 1 0 b.size, .sc (.int .u8 c), v.d] [some ⟨0, bytesD b⟩] = some (.ret (.ref 0 1 1 0 (b.size + (dataS c ⟨v.kind, v.num, v.text, v.kids.length, insS v⟩).size)), [some ⟨1, bytesD (b ++ dataS c ⟨v.kind, v.num, v.text, v.kids.length, insS v⟩)⟩]) := by
    intro q w hqw h
    have hwd : widQ q = w := by rcases hqw with ⟨rfl, rfl⟩ | ⟨rfl, rfl⟩ | ⟨rfl, rfl⟩ | ⟨rfl, rfl⟩ <;> rfl
    have hw : wOk w := by unfold wOk; omega
    rw [dq h, if_neg (by omega), if_pos (by omega), hwd]
    dsimp only
    by_cases ht : v.text = e0
    · rw [if_pos ht, be_size hw]; exact data_n b c v h0 q w hqw (by omega) h ht
    · rw [if_neg ht]; exact data_t b c v q (by omega) (by omega) h ht
  rcases hq with ((((((((((h | h) | h) | h) | h) | ⟨h, h2⟩) | ⟨h, h2⟩) | h) | ⟨h, h2⟩) | h) | ⟨h, h2⟩) | h
  · rw [dq h, if_pos rfl, app_e0, e0_size, Nat.add_zero]; exact data_4 b c v h
  · exact hn 5 1 (by omega) h
  · exact hn 6 2 (by omega) h
  · exact hn 7 4 (by omega) h
  · exact hn 8 8 (by omega) h
  · rw [dq h, if_neg (by omega), if_neg (by omega), if_pos rfl]; exact data_t b c v 9 (by omega) (by omega) h (text_16 hm h2)
  · have hs : v.text.size ≤ 255 := by
      unfold fitS at hf
      rw [if_neg (by omega), if_neg (by omega), if_neg (by omega), if_neg (by omega), if_neg (by omega), if_pos (by omega)] at hf
      simpa using hf
    have := data_p b c v h0 10 1 (by omega) (by omega) (by omega) h
    rw [dq h, if_neg (by omega), if_neg (by omega), if_neg (by omega), if_pos rfl, ByteArray.size_append, be_size (w := 1) (by simp [wOk]), ← ByteArray.append_assoc, ← Nat.add_assoc]; exact this
  · have := data_p b c v h0 11 4 (by omega) (by omega) (by omega) h
    rw [dq h, if_neg (by omega), if_neg (by omega), if_neg (by omega), if_neg (by omega), if_pos rfl, ByteArray.size_append, be_size (w := 4) (by simp [wOk]), ← ByteArray.append_assoc, ← Nat.add_assoc]; exact this
  · have hs : (insS v).size < 255 := by
      unfold fitS at hf
      rw [if_neg (by omega), if_neg (by omega), if_neg (by omega), if_neg (by omega), if_neg (by omega), if_neg (by omega), if_pos (by omega)] at hf
      simp only [Bool.and_eq_true, decide_eq_true_eq] at hf; exact hf.2
    have := data_k b c v h0 12 1 (by omega) _ hin (by omega) (by omega) (fun _ => hs) hkk h
    rw [dq h, if_neg (by omega), if_neg (by omega), if_neg (by omega), if_neg (by omega), if_neg (by omega), if_pos (by omega), ByteArray.size_append, ByteArray.size_append, be_size (w := 1) (by simp [wOk]), be_size (w := 1) (by simp [wOk]), ← ByteArray.append_assoc, ← Nat.add_assoc]; exact this
  · have := data_k b c v h0 13 4 (by omega) _ hin (by omega) (by omega) (by omega) hkk h
    rw [dq h, if_neg (by omega), if_neg (by omega), if_neg (by omega), if_neg (by omega), if_neg (by omega), if_neg (by omega), ByteArray.size_append, ByteArray.size_append, be_size (w := 4) (by simp [wOk]), be_size (w := 4) (by simp [wOk]), ← ByteArray.append_assoc, ← Nat.add_assoc]; exact this
  · have hs : (insS v).size < 255 := by
      unfold fitS at hf
      rw [if_neg (by omega), if_neg (by omega), if_neg (by omega), if_neg (by omega), if_neg (by omega), if_neg (by omega), if_pos (by omega)] at hf
      simp only [Bool.and_eq_true, decide_eq_true_eq] at hf; exact hf.2
    have := data_k b c v h0 14 1 (by omega) _ hin (by omega) (by omega) (fun _ => hs) hkk h
    rw [dq h, if_neg (by omega), if_neg (by omega), if_neg (by omega), if_neg (by omega), if_neg (by omega), if_pos (by omega), ByteArray.size_append, ByteArray.size_append, be_size (w := 1) (by simp [wOk]), be_size (w := 1) (by simp [wOk]), ← ByteArray.append_assoc, ← Nat.add_assoc]; exact this
  · have := data_k b c v h0 15 4 (by omega) _ hin (by omega) (by omega) (by omega) hkk h
    rw [dq h, if_neg (by omega), if_neg (by omega), if_neg (by omega), if_neg (by omega), if_neg (by omega), if_neg (by omega), ByteArray.size_append, ByteArray.size_append, be_size (w := 4) (by simp [wOk]), be_size (w := 4) (by simp [wOk]), ← ByteArray.append_assoc, ← Nat.add_assoc]; exact this
end Go.Bw.R1

namespace Go.Bw.R1
set_option maxRecDepth 5000
open Go Go.Bw Go.Proofs
def PutOk (n : Nat) : Prop := ∀ v : Val, v.sz ≤ n → mayS v = true →
  (EV 64 [.nils, v.d] [] = some (.ret (.ref 0 0 1 0 (wrV v).size), [some ⟨0, bytesD (wrV v)⟩])) ∧
  ∀ b : ByteArray, b.size ≠ 0 → b.size + 10 * v.sz ≤ 450000000 → EV 64 [.ref 0 0 1 0 b.size, v.d] [some ⟨0, bytesD b⟩] = some (.ret (.ref 0 1 1 0 (b.size + (wrV v).size)), [some ⟨1, bytesD (b ++ wrV v)⟩])
def InsOk (n : Nat) : Prop := ∀ v : Val, v.sz ≤ n → mayS v = true → v.kind ≠ 25 → InsC v (insS v)
theorem code_range {k c : Int} (hk : k ∈ kindL) (hc : c ∈ codesOf k) : 0 ≤ c ∧ c ≤ 255 := by
  have := codes_q k hk c hc
  unfold qOk at this
  simp only [Bool.and_eq_true, decide_eq_true_eq] at this
  exact this.1
theorem desc_sz {v a x : Val} (h : v.kids = [a, x]) : a.sz + x.sz + 1 ≤ v.sz := by
  rw [Val.sz_eq v, h]; simp only [Val.szL]; omega
set_option maxHeartbeats 40000000 in
theorem cons_ref {n : Nat} (hp : PutOk n) (l : List Val) (v : Val) (hv : l[0]? = some v) (hA : Al l) (hl : l.length ≤ 40000000) (hn : v.sz ≤ n + 1) (C : Int) (hC0 : 0 ≤ C) (hC1 : C ≤ 255)
    (hcode : EV 96 [.ro false ((l.map bareV).map Val.d)] [] = some (.ret (.sc (.int .u8 C)), [])) (b : ByteArray) (h0 : b.size ≠ 0) (hb : b.size + 10 * v.sz ≤ 450000000) :
    EV 95 [.ref 0 0 1 0 b.size, .ro false (l.map Val.d)] [some ⟨0, bytesD b⟩] = some (.ret (.ref 0 1 1 0 (b.size + (hdV v).size + 1)), [some ⟨1, bytesD (b ++ hdV v ++ b1 C)⟩]) := by
  have hstrip := strip_c l hl hA
  have hmv : mayS v = true := by
    obtain ⟨w, hw, h⟩ := hA
    exact (h v (List.mem_of_getElem? hv)).1
  have hlv : (l.map Val.d)[0]? = some v.d := by rw [List.getElem?_map, hv]; rfl
  refine (ev_body ⟨[], [(0, [0, 1, 5]), (4000000, [])], [(4, [(0, 0, false), (1, 0, false), (2, 0, true), (3, 0, false), (4, 0, false), (5, 0, false), (6, 0, false), (7, 0, true), (8, 2, false)])], false, [], noIt⟩ [.tmp 4] rfl Tryz.func95 rfl rfl rfl (by kernel_rfl) (by show 2 ≤ 31; decide) (by kernel_rfl)).trans ?_
  simp +contextual (maxSteps := 10000000) only [go_sem, hlv]
  refine lpK_inv (fun m f es => ∃ (x : Val) (acc : ByteArray) (u : Nat), m = x.sz ∧ x.sz ≤ n + 1 ∧ mayS x = true ∧ acc.size ≠ 0 ∧ acc ++ hdV x = b ++ hdV v ∧ acc.size + 10 * x.sz ≤ 450000000 ∧ f = [(0, .ref 0 u 1 0 acc.size), (1, .ro false (l.map Val.d)), (5, .ptr 1 0 0)] ∧ es = [some ⟨u, bytesD acc⟩, some ⟨0, x.cs⟩]) v.sz ⟨v, b, 0, rfl, hn, hmv, h0, rfl, hb, rfl, rfl⟩ ?_
  rintro _ _ _ ⟨x, acc, u, rfl, hxn, hmx, ha0, hac, hab, rfl, rfl⟩ ih
  by_cases hk : x.kind = 25
  · obtain ⟨a, y, h1, h2, h3⟩ := may_desc hmx hk
    have hds := desc_sz h1
    have hws := wr_sz a
    have hput := (hp a (by omega) h2).2 (acc ++ b1 0) (by rw [ByteArray.size_append, b1_size]; omega) (by rw [ByteArray.size_append, b1_size]; omega)
    simp only [ByteArray.size_append, b1_size] at hput
    have hle : acc.size + 1 ≤ 1000000000 := by omega
    have hle2 : acc.size ≤ 1000000000 := by omega
    simp +contextual (maxSteps := 10000000) only [go_sem, hk, h1, List.map_cons, List.map_nil, one_b1, sz_le hle, sz_le hle2, hput]
    refine ih y.sz _ _ (by omega) ?_
    refine ⟨y, acc ++ b1 0 ++ wrV a, u + 1 + 1, rfl, by omega, h3, ?_, ?_, ?_, ?_, rfl⟩
    · simp only [ByteArray.size_append, b1_size]; omega
    · rw [← hac, (enc_desc hk h1).2]; simp only [ByteArray.append_assoc]
    · simp only [ByteArray.size_append, b1_size]; omega
    · simp only [ByteArray.size_append, b1_size]
  · have hkf : (x.kind == 25) = false := by simpa using hk
    have hd := hd_ne hk
    rw [hd, app_e0] at hac
    subst hac
    have hsz : (b ++ hdV v).size + 1 ≤ 1000000000 := by omega
    have hsz2 : (b ++ hdV v).size ≤ 1000000000 := by omega
    rw [ByteArray.size_append] at hsz hsz2
    simp +contextual (maxSteps := 10000000) only [go_sem, hkf, hstrip, hcode, one_b1 hC0 hC1, sz_le hsz, sz_le hsz2]
set_option maxHeartbeats 40000000 in
theorem cons_nils {n : Nat} (hp : PutOk n) (l : List Val) (v : Val) (hv : l[0]? = some v) (hA : Al l) (hl : l.length ≤ 40000000) (hn : v.sz ≤ n + 1) (C : Int) (hC0 : 0 ≤ C) (hC1 : C ≤ 255)
    (hcode : EV 96 [.ro false ((l.map bareV).map Val.d)] [] = some (.ret (.sc (.int .u8 C)), [])) (hb : 10 * v.sz ≤ 450000000) :
    EV 95 [.nils, .ro false (l.map Val.d)] [] = some (.ret (.ref 0 0 1 0 ((hdV v).size + 1)), [some ⟨0, bytesD (hdV v ++ b1 C)⟩]) := by
  have hstrip := strip_c l hl hA
  have hmv : mayS v = true := by
    obtain ⟨w, hw, h⟩ := hA
    exact (h v (List.mem_of_getElem? hv)).1
  have hlv : (l.map Val.d)[0]? = some v.d := by rw [List.getElem?_map, hv]; rfl
  refine (ev_body ⟨[], [(0, [0, 1, 5]), (4000000, [])], [(4, [(0, 0, false), (1, 0, false), (2, 0, true), (3, 0, false), (4, 0, false), (5, 0, false), (6, 0, false), (7, 0, true), (8, 2, false)])], false, [], noIt⟩ [.tmp 4] rfl Tryz.func95 rfl rfl rfl (by kernel_rfl) (by show 2 ≤ 31; decide) (by kernel_rfl)).trans ?_
  simp +contextual (maxSteps := 10000000) only [go_sem, hlv]
  rw [lpK_go]
  by_cases hkv : v.kind = 25
  case neg =>
    have hkf : (v.kind == 25) = false := by simpa using hkv
    have hd := hd_ne hkv
    rw [hd, e0_app, e0_size, Nat.zero_add]
    simp +contextual (maxSteps := 10000000) only [go_sem, hkf, hstrip, hcode, one_b1 hC0 hC1]
  obtain ⟨a, y, h1, h2, h3⟩ := may_desc hmv hkv
  have hds := desc_sz h1
  have hws := wr_sz a
  have hput := (hp a (by omega) h2).2 (b1 0) (by rw [b1_size]; omega) (by rw [b1_size]; omega)
  rw [b1_size] at hput
  simp +contextual (maxSteps := 10000000) only [go_sem, hkv, h1, List.map_cons, List.map_nil, one_b1, hput]
  refine lpK_inv (fun m f es => ∃ (x : Val) (acc : ByteArray), m = x.sz ∧ x.sz ≤ n + 1 ∧ mayS x = true ∧ acc.size ≠ 0 ∧ acc ++ hdV x = hdV v ∧ acc.size + 10 * x.sz ≤ 450000000 ∧ f = [(0, .ref 0 0 1 0 acc.size), (1, .ro false (l.map Val.d)), (5, .ptr 1 0 0)] ∧ es = [some ⟨0, bytesD acc⟩, some ⟨0, x.cs⟩]) y.sz ?_ ?_
  · refine ⟨y, b1 0 ++ wrV a, rfl, by omega, h3, ?_, ?_, ?_, ?_, rfl⟩
    · rw [ByteArray.size_append, b1_size]; omega
    · rw [(enc_desc hkv h1).2]
    · rw [ByteArray.size_append, b1_size]; omega
    · rw [ByteArray.size_append, b1_size]
  clear hput hws hds h1 h2 h3 y a
  rintro _ _ _ ⟨x, acc, rfl, hxn, hmx, ha0, hac, hab, rfl, rfl⟩ ih
  by_cases hk : x.kind = 25
  · obtain ⟨a, y, h1, h2, h3⟩ := may_desc hmx hk
    have hds := desc_sz h1
    have hws := wr_sz a
    have hput := (hp a (by omega) h2).2 (acc ++ b1 0) (by rw [ByteArray.size_append, b1_size]; omega) (by rw [ByteArray.size_append, b1_size]; omega)
    simp only [ByteArray.size_append, b1_size] at hput
    have hle : acc.size + 1 ≤ 1000000000 := by omega
    have hle2 : acc.size ≤ 1000000000 := by omega
    simp +contextual (maxSteps := 10000000) only [go_sem, hk, h1, List.map_cons, List.map_nil, one_b1, sz_le hle, sz_le hle2, hput]
    refine ih y.sz _ _ (by omega) ?_
    refine ⟨y, acc ++ b1 0 ++ wrV a, rfl, by omega, h3, ?_, ?_, ?_, ?_, rfl⟩
    · simp only [ByteArray.size_append, b1_size]; omega
    · rw [← hac, (enc_desc hk h1).2]; simp only [ByteArray.append_assoc]
    · simp only [ByteArray.size_append, b1_size]; omega
    · simp only [ByteArray.size_append, b1_size]
  · have hkf : (x.kind == 25) = false := by simpa using hk
    have hd := hd_ne hk
    rw [hd, app_e0] at hac
    subst hac
    have hsz : (hdV v).size + 1 ≤ 1000000000 := by omega
    have hsz2 : (hdV v).size ≤ 1000000000 := by omega
    simp +contextual (maxSteps := 10000000) only [go_sem, hkf, hstrip, hcode, one_b1 hC0 hC1, sz_le hsz, sz_le hsz2]
/-- what code answers, of values that are called alike -/
theorem code_al {n : Nat} (hi : InsOk n) (l : List Val) (v : Val) (hv : l[0]? = some v) (hA : Al l) (hl : l.length ≤ 40000000) (hs : ∀ x ∈ l, x.sz ≤ n ∧ x.sz ≤ 40000000) :
    EV 96 [.ro false ((l.map bareV).map Val.d)] [] = some (.ret (.sc (.int .u8 (codeOf (l.map shV)))), []) := by
  have hm : ∀ x ∈ l, mayS x = true := by obtain ⟨w, hw, h⟩ := hA; exact fun x hx => (h x hx).1
  have hsh : (l.map bareV).map shV = l.map shV := by
    rw [List.map_map]
    exact List.map_congr_left fun x hx => (sh_bare _ x (Nat.le_refl _) (hm x hx)).1
  have hvm := List.mem_of_getElem? hv
  obtain ⟨q1, q2, q3, q4⟩ := sh_bare _ v (Nat.le_refl _) (hm v hvm)
  rw [← hsh]
  refine code_c (l.map bareV) (bareV v) (by rw [List.getElem?_map, hv]; rfl) (by simpa using hl) (fun x hx c hc => ?_) q2
  obtain ⟨y, hy, rfl⟩ := List.mem_map.1 hx
  obtain ⟨p1, p2, p3, p4⟩ := sh_bare _ y (Nat.le_refl _) (hm y hy)
  have := hs y hy
  exact fit_c (bareV y) (by omega) p2 c fun _ => hi (bareV y) (by omega) p3 p2
theorem codeOf_of {l : List Val} {v : Val} (hv : l[0]? = some v) (hm : mayS v = true) : codeOf (l.map shV) ∈ codesOf (bareV v).kind ∧ (∀ x ∈ l, fitS (codeOf (l.map shV)) (shV x) = true) ∧ (bareV v).kind ∈ kindL := by
  obtain ⟨q1, q2, q3, q4⟩ := sh_bare _ v (Nat.le_refl _) hm
  have hk := kind_in q3 q2
  have hh : (List.headD (l.map shV) default).kind = (bareV v).kind := by
    cases l with
    | nil => simp at hv
    | cons a r => simp at hv; subst hv; show (shV a).kind = _; rw [← q1, sh_ne q2]
  obtain ⟨c1, c2⟩ := codeOf_ok hh hk
  refine ⟨c1, fun x hx => ?_, hk⟩
  rw [List.all_eq_true] at c2
  exact c2 _ (List.mem_map.2 ⟨x, hx, rfl⟩)
theorem alike_bare : ∀ (n : Nat) (a b : Val), alikeF n a b = true → mayS a = true → mayS b = true → (bareV b).kind = (bareV a).kind
  | 0, a, b, h, _, _ => by simp [alikeF] at h
  | n + 1, a, b, h, ha, hb => by
    unfold alikeF at h
    by_cases hk : a.kind = 25
    · by_cases hk2 : b.kind = 25
      · obtain ⟨a1, a2, a3, a4, a5⟩ := may_desc ha hk
        obtain ⟨b1, b2, b3, b4, b5⟩ := may_desc hb hk2
        rw [hk, hk2, a3, b3] at h
        simp only [bne_self_eq_false, Bool.or_self, Bool.false_eq_true, if_false, Bool.and_eq_true] at h
        rw [bare_desc hk a3, bare_desc hk2 b3]
        exact alike_bare n a2 b2 h.2 a5 b5
      · have : (b.kind != 25) = true := by simpa using hk2
        simp only [this, Bool.or_true, if_true, beq_iff_eq] at h
        exact absurd (h.symm.trans hk) hk2
    · have : (a.kind != 25) = true := by simpa using hk
      simp only [this, Bool.true_or, if_true, beq_iff_eq] at h
      rw [bare_ne hk, bare_ne (by rw [← h]; exact hk), h]
theorem al_kind {l : List Val} (hA : Al l) {v : Val} (hv : l[0]? = some v) : ∀ y ∈ l, (bareV y).kind = (bareV v).kind := by
  obtain ⟨w, hw, h⟩ := hA
  have : w = v := by
    rw [Option.mem_def, List.head?_eq_getElem?, hv] at hw
    exact (Option.some.inj hw).symm
  subst this
  intro y hy
  obtain ⟨h1, n, h2⟩ := h y hy
  exact alike_bare n w y h2 (h w (List.mem_of_getElem? hv)).1 h1
theorem al_one {v : Val} (hm : mayS v = true) : Al [v] := ⟨v, rfl, fun x hx => by
  obtain rfl : x = v := by simpa using hx
  exact ⟨hm, _, alikeF_refl _ x (Nat.le_refl _) hm⟩⟩
set_option maxHeartbeats 40000000 in
theorem put_step {n : Nat} (hi : InsOk (n + 1)) (hp : PutOk n) (hn : n + 1 ≤ 40000000) : PutOk (n + 1) := by
  intro v hv hm
  have hA := al_one hm
  have hstrip := strip_c [v] (by simp) hA
  have hcode := code_al hi [v] v rfl hA (by simp) (fun x hx => by obtain rfl : x = v := by simpa using hx
                                                                  omega)
  obtain ⟨c1, c2, c3⟩ := codeOf_of (l := [v]) (v := v) rfl hm
  have c4 := c2 v (List.mem_singleton.2 rfl)
  obtain ⟨q1, q2, q3, q4⟩ := sh_bare _ v (Nat.le_refl _) hm
  have hr := code_range c3 c1
  have hws := wr_sz v
  have hins := hi (bareV v) (by omega) q3 q2
  have hmx : (hdV v).size + 1 ≤ 10 * v.sz := by have := ins_sz v; omega
  have hW : ∀ b : ByteArray, b ++ hdV v ++ b1 (codeOf [shV v]) ++ dataS (codeOf [shV v]) (shV v) = b ++ wrV v := fun b => by unfold wrV Wd; simp only [ByteArray.append_assoc]
  have hWs : ∀ k, k + (hdV v).size + 1 + (dataS (codeOf [shV v]) (shV v)).size = k + (wrV v).size := fun k => by unfold wrV Wd; simp only [ByteArray.size_append, b1_size]; omega
  simp only [List.map_cons, List.map_nil] at hstrip hcode c1 c2 c4 hr
  refine ⟨?_, fun b h0 hb => ?_⟩
  · have hcons := cons_nils hp [v] v rfl hA (by simp) hv (codeOf [shV v]) hr.1 hr.2 (by simpa using hcode) (by omega)
    have hdata := data_c (hdV v ++ b1 (codeOf [shV v])) (bareV v) (codeOf [shV v]) (by rw [ByteArray.size_append, b1_size]; omega) (by rw [ByteArray.size_append, b1_size]; omega) (by omega) q3 q2 c1 (by rw [q1]; exact c4) hins
    rw [q1] at hdata
    simp only [ByteArray.size_append, b1_size] at hdata
    simp only [List.map_cons, List.map_nil] at hcons
    have e1 := hW e0
    have e2 := hWs 0
    rw [e0_app, e0_app] at e1
    rw [Nat.zero_add, Nat.zero_add] at e2
    rw [e1, e2] at hdata
    refine (ev_body ⟨[3], [(4000000, [])], [(3, [(0, 0, false), (1, 0, false), (2, 0, true), (3, 0, false), (4, 1, false), (5, 0, false), (6, 0, false), (7, 0, false), (8, 0, true), (9, 2, false)])], false, [], noIt⟩ [.tmp 4] rfl Tryz.func64 rfl rfl rfl (by kernel_rfl) (by show 2 ≤ 20; decide) (by kernel_rfl)).trans ?_
    simp +contextual (maxSteps := 10000000) only [go_sem, hstrip, hcons, hcode, hdata]
  · have hcons := cons_ref hp [v] v rfl hA (by simp) hv (codeOf [shV v]) hr.1 hr.2 (by simpa using hcode) b h0 hb
    have hdata := data_c (b ++ hdV v ++ b1 (codeOf [shV v])) (bareV v) (codeOf [shV v]) (by simp only [ByteArray.size_append, b1_size]; omega) (by simp only [ByteArray.size_append, b1_size]; omega) (by omega) q3 q2 c1 (by rw [q1]; exact c4) hins
    rw [q1] at hdata
    simp only [ByteArray.size_append, b1_size] at hdata
    simp only [List.map_cons, List.map_nil] at hcons
    rw [hW b, hWs] at hdata
    refine (ev_body ⟨[3], [(4000000, [])], [(3, [(0, 0, false), (1, 0, false), (2, 0, true), (3, 0, false), (4, 1, false), (5, 0, false), (6, 0, false), (7, 0, false), (8, 0, true), (9, 2, false)])], false, [], noIt⟩ [.tmp 4] rfl Tryz.func64 rfl rfl rfl (by kernel_rfl) (by show 2 ≤ 20; decide) (by kernel_rfl)).trans ?_
    simp +contextual (maxSteps := 10000000) only [go_sem, hstrip, hcons, hcode, hdata]
end Go.Bw.R1

namespace Go.Bw.R1
set_option maxRecDepth 5000
open Go Go.Bw Go.Proofs
theorem catW_one (x : Val) : catW [encV x] = wrV x := by simp only [catW]; rw [app_e0]; rfl
theorem catD_one (c : Int) (s : Sh) : catD c [s] = dataS c s := by simp only [catD]; rw [app_e0]
theorem al_fam {v : Val} (hm : mayS v = true) (hk : v.kind = 24) {x : Val} (hx : v.kids[0]? = some x) : Al v.kids := by
  rw [mayS_eq] at hm
  simp only [Bool.and_eq_true] at hm
  obtain ⟨⟨_, h1⟩, _, h2⟩ := hm
  rw [mayL_all, List.all_eq_true] at h1
  rw [hk] at h2
  have h2 : (v.kids.all fun x => match v.kids with | [] => true | y :: _ => alike y x) = true := h2
  rw [List.all_eq_true] at h2
  cases hl : v.kids with
  | nil => rw [hl] at hx; simp at hx
  | cons y r =>
    refine ⟨y, rfl, fun z hz => ⟨h1 z (by rw [hl]; exact hz), y.sz, ?_⟩⟩
    have := h2 z (by rw [hl]; exact hz)
    rw [hl] at this
    exact this
set_option maxHeartbeats 40000000 in
theorem ins_step {n : Nat} (hi : InsOk n) (hp : PutOk n) (hn : n + 1 ≤ 40000000) : InsOk (n + 1) := by
  intro v hv hm hk25
  have hl := szL_len v.kids
  have hz := Val.sz_eq v
  have hms : ∀ x ∈ v.kids, mayS x = true := by
    rw [mayS_eq] at hm
    simp only [Bool.and_eq_true] at hm
    have := hm.1.2
    rw [mayL_all, List.all_eq_true] at this
    exact this
  have hbnd : ∀ i, (catW ((v.kids.take i).map encV)).size ≤ 10 * Val.szL (v.kids.take i) := fun i => by
    have h1 := catW_size ((v.kids.take i).map encV)
    have h2 := mx_szL (v.kids.take i)
    rw [encL_map] at h2; omega
  by_cases hk : v.kind = 24
  case neg =>
    have hkt : (v.kind != 24) = true := by simpa using hk
    refine .inl ?_
    refine (ev_body ⟨[1], [(1, [2, 14, 15, 16]), (3, [2, 6, 40, 41, 42])], [], false, [], noIt⟩ [.tmp 2] rfl Tryz.func132 rfl rfl rfl (by kernel_rfl) (by show 1 ≤ 52; decide) (by kernel_rfl)).trans ?_
    unfold insS
    rw [if_neg hk]
    simp +contextual (maxSteps := 10000000) only [go_sem, hkt]
    refine lpK_inv (fun m f es => ∃ (i : Nat) (j : Int), j = i ∧ m + i = v.kids.length ∧ ((i = 0 ∧ f = [(2, .nils), (14, .ro false (v.kids.map Val.d)), (15, I v.kids.length), (16, I j)] ∧ es = []) ∨
      (0 < i ∧ f = [(2, .ref 0 0 1 0 (catW ((v.kids.take i).map encV)).size), (14, .ro false (v.kids.map Val.d)), (15, I v.kids.length), (16, I j)] ∧ es = [some ⟨0, bytesD (catW ((v.kids.take i).map encV))⟩]))) v.kids.length ⟨0, _, rfl, by omega, .inl ⟨rfl, rfl, rfl⟩⟩ ?_
    rintro m _ _ ⟨i, _, rfl, hmi, hst⟩ ih
    cases m with
    | succ m =>
      obtain ⟨x, hx⟩ := get_lt (l := v.kids) (i := i) (by omega)
      have hxm := List.mem_of_getElem? hx
      have hxs := szL_mem hx
      have hlt : decide ((i : Int) < v.kids.length) = true := by simp; omega
      have hix : (v.kids.map Val.d)[i]? = some x.d := by rw [List.getElem?_map, hx]; rfl
      have hsn : (v.kids.take (i + 1)).map encV = (v.kids.take i).map encV ++ [encV x] := by rw [take_snoc hx, List.map_append]; rfl
      have hcw : catW ((v.kids.take (i + 1)).map encV) = catW ((v.kids.take i).map encV) ++ wrV x := by rw [hsn, catW_app, catW_one]
      obtain ⟨hp1, hp2⟩ := hp x (by omega) (hms x hxm)
      rcases hst with ⟨rfl, rfl, rfl⟩ | ⟨hpos, rfl, rfl⟩
      · have hcw0 : catW ((v.kids.take 1).map encV) = wrV x := by rw [hcw]; exact e0_app _
        have hlt0 : decide ((0 : Int) < v.kids.length) = true := by simpa using hlt
        simp +contextual (maxSteps := 10000000) only [go_sem, hix, hlt0, hp1, wrap_i64 (n := 1) (by omega) (by omega)]
        refine ih m _ _ (by omega) ?_
        exact ⟨1, 1, rfl, by omega, .inr ⟨by omega, by rw [hcw0], by rw [hcw0]⟩⟩
      · have hb1 := hbnd i
        have hb2 := hbnd (i + 1)
        have hs1 := szL_app (v.kids.take i) [x]
        rw [← take_snoc hx] at hs1
        have hs2 := szL_take v.kids (i + 1)
        simp only [Val.szL] at hs1
        have hne : (catW ((v.kids.take i).map encV)).size ≠ 0 := by
          obtain ⟨y, hy⟩ := get_lt (l := v.kids) (i := 0) (by omega)
          have : v.kids.take i = y :: (v.kids.take i).drop 1 := by
            cases hkk : v.kids with
            | nil => rw [hkk] at hy; simp at hy
            | cons a r => rw [hkk] at hy; simp at hy; subst hy; cases i with
              | zero => omega
              | succ i => simp
          rw [this]
          simp only [List.map_cons, catW, ByteArray.size_append]
          have := wr_pos y
          unfold wrV shV hdV at this; omega
        have hput := hp2 (catW ((v.kids.take i).map encV)) hne (by omega)
        simp +contextual (maxSteps := 10000000) only [go_sem, hix, hlt, hput, wrap_i64 (n := (i : Int) + 1) (by omega) (by omega)]
        refine ih m _ _ (by omega) ?_
        exact ⟨i + 1, (i : Int) + 1, by omega, by omega, .inr ⟨by omega, by rw [hcw, ByteArray.size_append], by rw [hcw]⟩⟩
    | zero =>
      have hlt : decide ((i : Int) < v.kids.length) = false := by simp; omega
      obtain rfl : i = v.kids.length := by omega
      rcases hst with ⟨h0, rfl, rfl⟩ | ⟨hpos, rfl, rfl⟩
      · have hk0 : v.kids = [] := List.length_eq_zero_iff.1 h0
        rw [hk0] at hlt ⊢
        simp only [List.length_nil, List.map_nil, Int.natCast_zero, Int.cast_ofNat_Int] at hlt ⊢
        simp +contextual (maxSteps := 10000000) only [go_sem, hlt]
        rfl
      · rw [List.take_length]
        have hw : insR (catW (v.kids.map encV)) = (.ret (.ref 0 0 1 0 (catW (v.kids.map encV)).size), [some ⟨0, bytesD (catW (v.kids.map encV))⟩]) := by
          unfold insR
          rw [if_neg]
          obtain ⟨y, hy⟩ := get_lt (l := v.kids) (i := 0) (by omega)
          cases hkk : v.kids with
          | nil => rw [hkk] at hy; simp at hy
          | cons a r =>
            simp only [List.map_cons, catW, ByteArray.size_append]
            have := wr_pos a
            unfold wrV shV hdV at this; omega
        rw [hw]
        simp +contextual (maxSteps := 10000000) only [go_sem, hlt]
  case pos =>
  have hkf : (v.kind != 24) = false := by simpa using hk
  cases hkk : v.kids with
  | nil =>
    refine .inr ?_
    unfold insS
    rw [if_pos hk, hkk]
    refine (ev_body ⟨[1], [(1, [2, 14, 15, 16]), (3, [2, 6, 40, 41, 42])], [], false, [], noIt⟩ [.tmp 2] rfl Tryz.func132 rfl rfl rfl (by kernel_rfl) (by show 1 ≤ 52; decide) (by kernel_rfl)).trans ?_
    simp +contextual (maxSteps := 10000000) only [go_sem, hkf, hkk, List.map_nil, List.length_nil, one_b1]
    rfl
  | cons k0 r =>
    have h0 : v.kids[0]? = some k0 := by rw [hkk]; rfl
    have hA := al_fam hm hk h0
    have hks : ∀ x ∈ v.kids, x.sz ≤ n ∧ x.sz ≤ 40000000 := fun x hx => by have := szL_in hx; omega
    have hstrip := strip_c v.kids (by omega) hA
    have hcode := code_al hi v.kids k0 h0 hA (by omega) hks
    obtain ⟨c1, c2, c3⟩ := codeOf_of h0 (hms k0 (List.mem_of_getElem? h0))
    have hr := code_range c3 c1
    have hk0 := hks k0 (List.mem_of_getElem? h0)
    have hcons := cons_nils hp v.kids k0 h0 hA (by omega) (by omega) (codeOf (v.kids.map shV)) hr.1 hr.2 hcode (by omega)
    have hne : ((v.kids.length : Int) == 0) = false := by rw [hkk]; simp; omega
    have hins : insS v = hdV k0 ++ b1 (codeOf (v.kids.map shV)) ++ catD (codeOf (v.kids.map shV)) (v.kids.map shV) := by
      have e1 : (v.kids.map encV).map Prod.fst = v.kids.map shV := by rw [List.map_map]; rfl
      unfold insS
      rw [if_pos hk]
      rw [hkk] at e1 ⊢
      simp only [List.map_cons] at e1 ⊢
      simp only [arrS, List.map_cons]
      rw [e1]; rfl
    generalize hC : codeOf (v.kids.map shV) = C at hcode c1 c2 hr hcons hins
    have hpsz : insR (insS v) = (.ret (.ref 0 0 1 0 (insS v).size), [some ⟨0, bytesD (insS v)⟩]) := by
      unfold insR
      rw [if_neg]
      rw [hins]; simp only [ByteArray.size_append, b1_size]; omega
    refine .inl ?_
    rw [hpsz]
    have hmx := ins_sz k0
    refine (ev_body ⟨[1], [(1, [2, 14, 15, 16]), (3, [2, 6, 40, 41, 42])], [], false, [], noIt⟩ [.tmp 2] rfl Tryz.func132 rfl rfl rfl (by kernel_rfl) (by show 1 ≤ 52; decide) (by kernel_rfl)).trans ?_
    simp +contextual (maxSteps := 10000000) only [go_sem, hkf, hcons, hstrip, hcode, hne]
    refine lpK_inv (fun m f es => ∃ (i : Nat) (j : Int) (acc : ByteArray), j = i ∧ m + i = v.kids.length ∧ acc = hdV k0 ++ b1 C ++ catD C ((v.kids.take i).map shV) ∧ f = [(2, .ref 0 0 1 0 acc.size), (6, .sc (.int .u8 C)), (40, .ro false ((v.kids.map bareV).map Val.d)), (41, I v.kids.length), (42, I j)] ∧ es = [some ⟨0, bytesD acc⟩]) v.kids.length ⟨0, _, hdV k0 ++ b1 C, rfl, by omega, (app_e0 _).symm, by rw [ByteArray.size_append, b1_size]; rfl, rfl⟩ ?_
    rintro m _ _ ⟨i, _, acc, rfl, hmi, hacc, rfl, rfl⟩ ih
    cases m with
    | succ m =>
      obtain ⟨x, hx⟩ := get_lt (l := v.kids) (i := i) (by omega)
      have hxm := List.mem_of_getElem? hx
      have hxs := szL_mem hx
      have hlt : decide ((i : Int) < v.kids.length) = true := by simp; omega
      obtain ⟨q1, q2, q3, q4⟩ := sh_bare _ x (Nat.le_refl _) (hms x hxm)
      have hix : ((v.kids.map bareV).map Val.d)[i]? = some (bareV x).d := by rw [List.getElem?_map, List.getElem?_map, hx]; rfl
      have hsn : (v.kids.take (i + 1)).map shV = (v.kids.take i).map shV ++ [shV x] := by rw [take_snoc hx, List.map_append]; rfl
      have hnx : acc ++ dataS C (shV x) = hdV k0 ++ b1 C ++ catD C ((v.kids.take (i + 1)).map shV) := by rw [hsn, catD_app, catD_one, hacc, ByteArray.append_assoc]
      have hal : ∀ y ∈ v.kids, (bareV y).kind = (bareV k0).kind := al_kind hA h0
      have hasz : acc.size ≤ 450000000 := by
        have h3 := szL_take v.kids i
        rw [hacc]; simp only [ByteArray.size_append, b1_size]
        cases i with
        | zero =>
          have := szL_in (List.mem_of_getElem? h0)
          simp only [List.take_zero, List.map_nil, catD, e0_size]; omega
        | succ i =>
          have h1 := catD_size2 C (encV k0) ((r.take i).map encV)
          have h2 := mx_szL (v.kids.take (i + 1))
          rw [encL_map, hkk, List.take_succ_cons, List.map_cons] at h2
          have e1 : (encV k0 :: (r.take i).map encV).map Prod.fst = (v.kids.take (i + 1)).map shV := by rw [hkk, List.take_succ_cons, List.map_cons, List.map_cons, List.map_map]; rfl
          rw [e1] at h1
          have e2 : (encV k0).2 = hdV k0 := rfl
          rw [e2] at h1
          rw [hkk, List.take_succ_cons] at h3
          rw [hkk] at hz
          omega
      have hdata := data_c acc (bareV x) C (by rw [hacc]; simp only [ByteArray.size_append, b1_size]; omega) hasz (by omega) q3 q2 (by rw [hal x hxm]; exact c1) (by rw [q1]; exact c2 x hxm) (hi (bareV x) (by omega) q3 q2)
      rw [q1] at hdata
      simp +contextual (maxSteps := 10000000) only [go_sem, hix, hlt, hdata, wrap_i64 (n := (i : Int) + 1) (by omega) (by omega)]
      refine ih m _ _ (by omega) ?_
      exact ⟨i + 1, (i : Int) + 1, acc ++ dataS C (shV x), by omega, by omega, hnx, by rw [ByteArray.size_append], rfl⟩
    | zero =>
      have hlt : decide ((i : Int) < v.kids.length) = false := by simp; omega
      obtain rfl : i = v.kids.length := by omega
      rw [List.take_length, ← hins] at hacc
      subst hacc
      simp +contextual (maxSteps := 10000000) only [go_sem, hlt]
theorem enc_ok : ∀ n, n ≤ 40000000 → InsOk n ∧ PutOk n
  | 0, _ => ⟨fun v hv => by rw [Val.sz_eq] at hv; omega, fun v hv => by rw [Val.sz_eq] at hv; omega⟩
  | n + 1, hn => by
    obtain ⟨h1, h2⟩ := enc_ok n (by omega)
    have h3 := ins_step h1 h2 hn
    exact ⟨h3, put_step h3 h2 hn⟩
/-- WHAT encode.Value ANSWERS -/
theorem encode_c (v : Val) (h : v.sz ≤ 40000000) (hw : v.wf) : EV 55 [v.d] [] = some (if rightS v = true then (.ret (.tup [.ref 0 0 1 0 (wrV v).size, I 0]), [some ⟨0, bytesD (wrV v)⟩]) else (.ret (.tup [.nils, I 1]), [])) := by
  have hr := right_c v (by omega) hw
  refine (ev_body ⟨[1], [], [], false, [], noIt⟩ [.tmp 2, .tmp 3] rfl Tryz.func55 rfl rfl rfl (by kernel_rfl) (by show 1 ≤ 9; decide) (by kernel_rfl)).trans ?_
  cases hb : rightS v with
  | true =>
    have hm : mayS v = true := by unfold rightS at hb; simp only [Bool.and_eq_true] at hb; exact hb.2
    have hp := ((enc_ok v.sz h).2 v (Nat.le_refl _) hm).1
    rw [hb] at hr
    simp +contextual (maxSteps := 10000000) only [go_sem, hr, hp]
  | false =>
    rw [hb] at hr
    simp +contextual (maxSteps := 10000000) only [go_sem, hr]
end Go.Bw.R1
