/- What the tables of types say, for the types that the code names. -/
import Derived.Test.YtnfchljiicniiaaGreatRows
import Derived.Test.YtnfchljiicniiaaGreatVE
namespace Go.Proofs.YtnfchljiicniiaaGreat
open Go.V
@[go_sem] theorem ty_isStr2 : isStr Tryz.prog 2 = false := by kernel_rfl
@[go_sem] theorem ty_intK2 : intK Tryz.prog 2 = some .i64 := by kernel_rfl
@[go_sem] theorem ty_aggT2 : aggT Tryz.prog 2 = none := by kernel_rfl
@[go_sem] theorem ty_zeroC2 : zeroC Tryz.prog 2 = some #[.int .i64 0] := by kernel_rfl
@[go_sem] theorem ty_size2 : (Tryz.prog.info? 2).map (·.size) = some 1 := by kernel_rfl
@[go_sem] theorem ty_isStr3 : isStr Tryz.prog 3 = false := by kernel_rfl
@[go_sem] theorem ty_intK3 : intK Tryz.prog 3 = some .i64 := by kernel_rfl
@[go_sem] theorem ty_aggT3 : aggT Tryz.prog 3 = none := by kernel_rfl
@[go_sem] theorem ty_zeroC3 : zeroC Tryz.prog 3 = some #[.int .i64 0] := by kernel_rfl
@[go_sem] theorem ty_size3 : (Tryz.prog.info? 3).map (·.size) = some 1 := by kernel_rfl
@[go_sem] theorem ty_isStr4 : isStr Tryz.prog 4 = false := by kernel_rfl
@[go_sem] theorem ty_intK4 : intK Tryz.prog 4 = none := by kernel_rfl
@[go_sem] theorem ty_aggT4 : aggT Tryz.prog 4 = none := by kernel_rfl
@[go_sem] theorem ty_isBoolT4 : isBoolT Tryz.prog 4 = true := by kernel_rfl
@[go_sem] theorem ty_zeroC4 : zeroC Tryz.prog 4 = some #[.bool false] := by kernel_rfl
@[go_sem] theorem ty_size4 : (Tryz.prog.info? 4).map (·.size) = some 1 := by kernel_rfl
@[go_sem] theorem ty_isStr5 : isStr Tryz.prog 5 = false := by kernel_rfl
@[go_sem] theorem ty_intK5 : intK Tryz.prog 5 = some .u8 := by kernel_rfl
@[go_sem] theorem ty_aggT5 : aggT Tryz.prog 5 = none := by kernel_rfl
@[go_sem] theorem ty_zeroC5 : zeroC Tryz.prog 5 = some #[.int .u8 0] := by kernel_rfl
@[go_sem] theorem ty_size5 : (Tryz.prog.info? 5).map (·.size) = some 1 := by kernel_rfl
@[go_sem] theorem ty_isStr9 : isStr Tryz.prog 9 = true := by kernel_rfl
@[go_sem] theorem ty_intK9 : intK Tryz.prog 9 = none := by kernel_rfl
@[go_sem] theorem ty_aggT9 : aggT Tryz.prog 9 = none := by kernel_rfl
@[go_sem] theorem ty_zeroC9 : zeroC Tryz.prog 9 = some #[.string { data := #[] }] := by kernel_rfl
@[go_sem] theorem ty_size9 : (Tryz.prog.info? 9).map (·.size) = some 1 := by kernel_rfl
@[go_sem] theorem ty_isStr12 : isStr Tryz.prog 12 = false := by kernel_rfl
@[go_sem] theorem ty_intK12 : intK Tryz.prog 12 = some .u64 := by kernel_rfl
@[go_sem] theorem ty_aggT12 : aggT Tryz.prog 12 = none := by kernel_rfl
@[go_sem] theorem ty_zeroC12 : zeroC Tryz.prog 12 = some #[.int .u64 0] := by kernel_rfl
@[go_sem] theorem ty_size12 : (Tryz.prog.info? 12).map (·.size) = some 1 := by kernel_rfl
@[go_sem] theorem ty_isStr13 : isStr Tryz.prog 13 = false := by kernel_rfl
@[go_sem] theorem ty_intK13 : intK Tryz.prog 13 = none := by kernel_rfl
@[go_sem] theorem ty_aggT13 : aggT Tryz.prog 13 = some 2 := by kernel_rfl
@[go_sem] theorem ty_zeroC13 : zeroC Tryz.prog 13 = some #[.string { data := #[] }, .int .u64 0] := by kernel_rfl
@[go_sem] theorem ty_fldO13_0 : fldO Tryz.prog 13 0 = some (9, 0) := by kernel_rfl
@[go_sem] theorem ty_fldO13_1 : fldO Tryz.prog 13 1 = some (12, 1) := by kernel_rfl
@[go_sem] theorem ty_stZ13 : stZ Tryz.prog 13 = some (#[.string { data := #[] }, .int .u64 0], [(0, 1), (1, 1)]) := by kernel_rfl
@[go_sem] theorem ty_size13 : (Tryz.prog.info? 13).map (·.size) = some 2 := by kernel_rfl
@[go_sem] theorem ty_isStr21 : isStr Tryz.prog 21 = false := by kernel_rfl
@[go_sem] theorem ty_intK21 : intK Tryz.prog 21 = some .i32 := by kernel_rfl
@[go_sem] theorem ty_aggT21 : aggT Tryz.prog 21 = none := by kernel_rfl
@[go_sem] theorem ty_zeroC21 : zeroC Tryz.prog 21 = some #[.int .i32 0] := by kernel_rfl
@[go_sem] theorem ty_size21 : (Tryz.prog.info? 21).map (·.size) = some 1 := by kernel_rfl
@[go_sem] theorem ty_isStr22 : isStr Tryz.prog 22 = false := by kernel_rfl
@[go_sem] theorem ty_intK22 : intK Tryz.prog 22 = none := by kernel_rfl
@[go_sem] theorem ty_aggT22 : aggT Tryz.prog 22 = none := by kernel_rfl
@[go_sem] theorem ty_zeroC22 : zeroC Tryz.prog 22 = some #[.slice none 0 0] := by kernel_rfl
@[go_sem] theorem ty_slE22 : slE Tryz.prog 22 = some 1 := by kernel_rfl
@[go_sem] theorem ty_slZ22 : slZ Tryz.prog 22 = some (90, 1, #[.int .u16 0]) := by kernel_rfl
@[go_sem] theorem ty_size22 : (Tryz.prog.info? 22).map (·.size) = some 1 := by kernel_rfl
@[go_sem] theorem ty_isStr23 : isStr Tryz.prog 23 = false := by kernel_rfl
@[go_sem] theorem ty_intK23 : intK Tryz.prog 23 = none := by kernel_rfl
@[go_sem] theorem ty_aggT23 : aggT Tryz.prog 23 = none := by kernel_rfl
@[go_sem] theorem ty_zeroC23 : zeroC Tryz.prog 23 = some #[.slice none 0 0] := by kernel_rfl
@[go_sem] theorem ty_slE23 : slE Tryz.prog 23 = some 1 := by kernel_rfl
@[go_sem] theorem ty_slZ23 : slZ Tryz.prog 23 = some (90, 1, #[.int .u16 0]) := by kernel_rfl
@[go_sem] theorem ty_size23 : (Tryz.prog.info? 23).map (·.size) = some 1 := by kernel_rfl
@[go_sem] theorem ty_isStr24 : isStr Tryz.prog 24 = false := by kernel_rfl
@[go_sem] theorem ty_intK24 : intK Tryz.prog 24 = none := by kernel_rfl
@[go_sem] theorem ty_aggT24 : aggT Tryz.prog 24 = some 2 := by kernel_rfl
@[go_sem] theorem ty_zeroC24 : zeroC Tryz.prog 24 = some #[.bool false, .slice none 0 0] := by kernel_rfl
@[go_sem] theorem ty_fldO24_0 : fldO Tryz.prog 24 0 = some (4, 0) := by kernel_rfl
@[go_sem] theorem ty_fldO24_1 : fldO Tryz.prog 24 1 = some (23, 1) := by kernel_rfl
@[go_sem] theorem ty_stZ24 : stZ Tryz.prog 24 = some (#[.bool false, .slice none 0 0], [(0, 1), (1, 1)]) := by kernel_rfl
@[go_sem] theorem ty_size24 : (Tryz.prog.info? 24).map (·.size) = some 2 := by kernel_rfl
@[go_sem] theorem ty_isStr25 : isStr Tryz.prog 25 = false := by kernel_rfl
@[go_sem] theorem ty_intK25 : intK Tryz.prog 25 = none := by kernel_rfl
@[go_sem] theorem ty_aggT25 : aggT Tryz.prog 25 = some 2 := by kernel_rfl
@[go_sem] theorem ty_zeroC25 : zeroC Tryz.prog 25 = some #[.bool false, .slice none 0 0] := by kernel_rfl
@[go_sem] theorem ty_fldO25_0 : fldO Tryz.prog 25 0 = some (4, 0) := by kernel_rfl
@[go_sem] theorem ty_fldO25_1 : fldO Tryz.prog 25 1 = some (23, 1) := by kernel_rfl
@[go_sem] theorem ty_stZ25 : stZ Tryz.prog 25 = some (#[.bool false, .slice none 0 0], [(0, 1), (1, 1)]) := by kernel_rfl
@[go_sem] theorem ty_size25 : (Tryz.prog.info? 25).map (·.size) = some 2 := by kernel_rfl
@[go_sem] theorem ty_isStr26 : isStr Tryz.prog 26 = false := by kernel_rfl
@[go_sem] theorem ty_intK26 : intK Tryz.prog 26 = none := by kernel_rfl
@[go_sem] theorem ty_aggT26 : aggT Tryz.prog 26 = some 3 := by kernel_rfl
@[go_sem] theorem ty_zeroC26 : zeroC Tryz.prog 26 = some #[.bool false, .slice none 0 0, .slice none 0 0] := by kernel_rfl
@[go_sem] theorem ty_fldO26_0 : fldO Tryz.prog 26 0 = some (25, 0) := by kernel_rfl
@[go_sem] theorem ty_fldO26_1 : fldO Tryz.prog 26 1 = some (23, 2) := by kernel_rfl
@[go_sem] theorem ty_stZ26 : stZ Tryz.prog 26 = some (#[.bool false, .slice none 0 0, .slice none 0 0], [(0, 2), (2, 1)]) := by kernel_rfl
@[go_sem] theorem ty_size26 : (Tryz.prog.info? 26).map (·.size) = some 3 := by kernel_rfl
@[go_sem] theorem ty_isStr27 : isStr Tryz.prog 27 = false := by kernel_rfl
@[go_sem] theorem ty_intK27 : intK Tryz.prog 27 = none := by kernel_rfl
@[go_sem] theorem ty_aggT27 : aggT Tryz.prog 27 = some 3 := by kernel_rfl
@[go_sem] theorem ty_zeroC27 : zeroC Tryz.prog 27 = some #[.bool false, .slice none 0 0, .slice none 0 0] := by kernel_rfl
@[go_sem] theorem ty_fldO27_0 : fldO Tryz.prog 27 0 = some (25, 0) := by kernel_rfl
@[go_sem] theorem ty_fldO27_1 : fldO Tryz.prog 27 1 = some (23, 2) := by kernel_rfl
@[go_sem] theorem ty_stZ27 : stZ Tryz.prog 27 = some (#[.bool false, .slice none 0 0, .slice none 0 0], [(0, 2), (2, 1)]) := by kernel_rfl
@[go_sem] theorem ty_size27 : (Tryz.prog.info? 27).map (·.size) = some 3 := by kernel_rfl
@[go_sem] theorem ty_isStr28 : isStr Tryz.prog 28 = false := by kernel_rfl
@[go_sem] theorem ty_intK28 : intK Tryz.prog 28 = none := by kernel_rfl
@[go_sem] theorem ty_aggT28 : aggT Tryz.prog 28 = some 6 := by kernel_rfl
@[go_sem] theorem ty_zeroC28 : zeroC Tryz.prog 28 = some #[.bool false, .slice none 0 0, .slice none 0 0, .bool false, .slice none 0 0, .slice none 0 0] := by kernel_rfl
@[go_sem] theorem ty_fldO28_0 : fldO Tryz.prog 28 0 = some (27, 0) := by kernel_rfl
@[go_sem] theorem ty_fldO28_1 : fldO Tryz.prog 28 1 = some (27, 3) := by kernel_rfl
@[go_sem] theorem ty_stZ28 : stZ Tryz.prog 28 = some (#[.bool false, .slice none 0 0, .slice none 0 0, .bool false, .slice none 0 0, .slice none 0 0], [(0, 3), (3, 3)]) := by kernel_rfl
@[go_sem] theorem ty_size28 : (Tryz.prog.info? 28).map (·.size) = some 6 := by kernel_rfl
@[go_sem] theorem ty_isStr29 : isStr Tryz.prog 29 = false := by kernel_rfl
@[go_sem] theorem ty_intK29 : intK Tryz.prog 29 = none := by kernel_rfl
@[go_sem] theorem ty_aggT29 : aggT Tryz.prog 29 = some 6 := by kernel_rfl
@[go_sem] theorem ty_zeroC29 : zeroC Tryz.prog 29 = some #[.bool false, .slice none 0 0, .slice none 0 0, .bool false, .slice none 0 0, .slice none 0 0] := by kernel_rfl
@[go_sem] theorem ty_fldO29_0 : fldO Tryz.prog 29 0 = some (27, 0) := by kernel_rfl
@[go_sem] theorem ty_fldO29_1 : fldO Tryz.prog 29 1 = some (27, 3) := by kernel_rfl
@[go_sem] theorem ty_stZ29 : stZ Tryz.prog 29 = some (#[.bool false, .slice none 0 0, .slice none 0 0, .bool false, .slice none 0 0, .slice none 0 0], [(0, 3), (3, 3)]) := by kernel_rfl
@[go_sem] theorem ty_size29 : (Tryz.prog.info? 29).map (·.size) = some 6 := by kernel_rfl
@[go_sem] theorem ty_isStr30 : isStr Tryz.prog 30 = false := by kernel_rfl
@[go_sem] theorem ty_intK30 : intK Tryz.prog 30 = none := by kernel_rfl
@[go_sem] theorem ty_aggT30 : aggT Tryz.prog 30 = some 28 := by kernel_rfl
@[go_sem] theorem ty_zeroC30 : zeroC Tryz.prog 30 = some #[.bool false, .slice none 0 0, .slice none 0 0, .bool false, .slice none 0 0, .slice none 0 0, .bool false, .slice none 0 0, .slice none 0 0, .bool false, .slice none 0 0, .slice none 0 0, .bool false, .slice none 0 0, .slice none 0 0, .bool false, .slice none 0 0, .slice none 0 0, .bool false, .slice none 0 0, .slice none 0 0, .bool false, .slice none 0 0, .slice none 0 0, .bool false, .slice none 0 0, .slice none 0 0, .bool false] := by kernel_rfl
@[go_sem] theorem ty_fldO30_0 : fldO Tryz.prog 30 0 = some (29, 0) := by kernel_rfl
@[go_sem] theorem ty_fldO30_1 : fldO Tryz.prog 30 1 = some (29, 6) := by kernel_rfl
@[go_sem] theorem ty_fldO30_2 : fldO Tryz.prog 30 2 = some (29, 12) := by kernel_rfl
@[go_sem] theorem ty_fldO30_3 : fldO Tryz.prog 30 3 = some (29, 18) := by kernel_rfl
@[go_sem] theorem ty_fldO30_4 : fldO Tryz.prog 30 4 = some (27, 24) := by kernel_rfl
@[go_sem] theorem ty_fldO30_5 : fldO Tryz.prog 30 5 = some (4, 27) := by kernel_rfl
@[go_sem] theorem ty_stZ30 : stZ Tryz.prog 30 = some (#[.bool false, .slice none 0 0, .slice none 0 0, .bool false, .slice none 0 0, .slice none 0 0, .bool false, .slice none 0 0, .slice none 0 0, .bool false, .slice none 0 0, .slice none 0 0, .bool false, .slice none 0 0, .slice none 0 0, .bool false, .slice none 0 0, .slice none 0 0, .bool false, .slice none 0 0, .slice none 0 0, .bool false, .slice none 0 0, .slice none 0 0, .bool false, .slice none 0 0, .slice none 0 0, .bool false], [(0, 6), (6, 6), (12, 6), (18, 6), (24, 3), (27, 1)]) := by kernel_rfl
@[go_sem] theorem ty_size30 : (Tryz.prog.info? 30).map (·.size) = some 28 := by kernel_rfl
@[go_sem] theorem ty_isStr31 : isStr Tryz.prog 31 = false := by kernel_rfl
@[go_sem] theorem ty_intK31 : intK Tryz.prog 31 = none := by kernel_rfl
@[go_sem] theorem ty_aggT31 : aggT Tryz.prog 31 = some 28 := by kernel_rfl
@[go_sem] theorem ty_zeroC31 : zeroC Tryz.prog 31 = some #[.bool false, .slice none 0 0, .slice none 0 0, .bool false, .slice none 0 0, .slice none 0 0, .bool false, .slice none 0 0, .slice none 0 0, .bool false, .slice none 0 0, .slice none 0 0, .bool false, .slice none 0 0, .slice none 0 0, .bool false, .slice none 0 0, .slice none 0 0, .bool false, .slice none 0 0, .slice none 0 0, .bool false, .slice none 0 0, .slice none 0 0, .bool false, .slice none 0 0, .slice none 0 0, .bool false] := by kernel_rfl
@[go_sem] theorem ty_fldO31_0 : fldO Tryz.prog 31 0 = some (29, 0) := by kernel_rfl
@[go_sem] theorem ty_fldO31_1 : fldO Tryz.prog 31 1 = some (29, 6) := by kernel_rfl
@[go_sem] theorem ty_fldO31_2 : fldO Tryz.prog 31 2 = some (29, 12) := by kernel_rfl
@[go_sem] theorem ty_fldO31_3 : fldO Tryz.prog 31 3 = some (29, 18) := by kernel_rfl
@[go_sem] theorem ty_fldO31_4 : fldO Tryz.prog 31 4 = some (27, 24) := by kernel_rfl
@[go_sem] theorem ty_fldO31_5 : fldO Tryz.prog 31 5 = some (4, 27) := by kernel_rfl
@[go_sem] theorem ty_stZ31 : stZ Tryz.prog 31 = some (#[.bool false, .slice none 0 0, .slice none 0 0, .bool false, .slice none 0 0, .slice none 0 0, .bool false, .slice none 0 0, .slice none 0 0, .bool false, .slice none 0 0, .slice none 0 0, .bool false, .slice none 0 0, .slice none 0 0, .bool false, .slice none 0 0, .slice none 0 0, .bool false, .slice none 0 0, .slice none 0 0, .bool false, .slice none 0 0, .slice none 0 0, .bool false, .slice none 0 0, .slice none 0 0, .bool false], [(0, 6), (6, 6), (12, 6), (18, 6), (24, 3), (27, 1)]) := by kernel_rfl
@[go_sem] theorem ty_size31 : (Tryz.prog.info? 31).map (·.size) = some 28 := by kernel_rfl
@[go_sem] theorem ty_isStr33 : isStr Tryz.prog 33 = false := by kernel_rfl
@[go_sem] theorem ty_intK33 : intK Tryz.prog 33 = some .i64 := by kernel_rfl
@[go_sem] theorem ty_aggT33 : aggT Tryz.prog 33 = none := by kernel_rfl
@[go_sem] theorem ty_zeroC33 : zeroC Tryz.prog 33 = some #[.int .i64 0] := by kernel_rfl
@[go_sem] theorem ty_size33 : (Tryz.prog.info? 33).map (·.size) = some 1 := by kernel_rfl
@[go_sem] theorem ty_isStr40 : isStr Tryz.prog 40 = false := by kernel_rfl
@[go_sem] theorem ty_intK40 : intK Tryz.prog 40 = none := by kernel_rfl
@[go_sem] theorem ty_aggT40 : aggT Tryz.prog 40 = none := by kernel_rfl
@[go_sem] theorem ty_zeroC40 : zeroC Tryz.prog 40 = some #[.slice none 0 0] := by kernel_rfl
@[go_sem] theorem ty_slE40 : slE Tryz.prog 40 = some 6 := by kernel_rfl
@[go_sem] theorem ty_slZ40 : slZ Tryz.prog 40 = some (29, 6, #[.bool false, .slice none 0 0, .slice none 0 0, .bool false, .slice none 0 0, .slice none 0 0]) := by kernel_rfl
@[go_sem] theorem ty_size40 : (Tryz.prog.info? 40).map (·.size) = some 1 := by kernel_rfl
@[go_sem] theorem ty_isStr43 : isStr Tryz.prog 43 = false := by kernel_rfl
@[go_sem] theorem ty_intK43 : intK Tryz.prog 43 = none := by kernel_rfl
@[go_sem] theorem ty_aggT43 : aggT Tryz.prog 43 = some 6 := by kernel_rfl
@[go_sem] theorem ty_zeroC43 : zeroC Tryz.prog 43 = some #[.bool false, .slice none 0 0, .slice none 0 0, .bool false, .slice none 0 0, .slice none 0 0] := by kernel_rfl
@[go_sem] theorem ty_isStr44 : isStr Tryz.prog 44 = false := by kernel_rfl
@[go_sem] theorem ty_intK44 : intK Tryz.prog 44 = none := by kernel_rfl
@[go_sem] theorem ty_aggT44 : aggT Tryz.prog 44 = some 6 := by kernel_rfl
@[go_sem] theorem ty_zeroC44 : zeroC Tryz.prog 44 = some #[.bool false, .slice none 0 0, .slice none 0 0, .bool false, .slice none 0 0, .slice none 0 0] := by kernel_rfl
@[go_sem] theorem ty_isStr69 : isStr Tryz.prog 69 = false := by kernel_rfl
@[go_sem] theorem ty_intK69 : intK Tryz.prog 69 = some .u64 := by kernel_rfl
@[go_sem] theorem ty_aggT69 : aggT Tryz.prog 69 = none := by kernel_rfl
@[go_sem] theorem ty_zeroC69 : zeroC Tryz.prog 69 = some #[.int .u64 0] := by kernel_rfl
@[go_sem] theorem ty_size69 : (Tryz.prog.info? 69).map (·.size) = some 1 := by kernel_rfl
@[go_sem] theorem ty_isStr90 : isStr Tryz.prog 90 = false := by kernel_rfl
@[go_sem] theorem ty_intK90 : intK Tryz.prog 90 = some .u16 := by kernel_rfl
@[go_sem] theorem ty_aggT90 : aggT Tryz.prog 90 = none := by kernel_rfl
@[go_sem] theorem ty_zeroC90 : zeroC Tryz.prog 90 = some #[.int .u16 0] := by kernel_rfl
@[go_sem] theorem ty_size90 : (Tryz.prog.info? 90).map (·.size) = some 1 := by kernel_rfl
@[go_sem] theorem ty_isStr92 : isStr Tryz.prog 92 = false := by kernel_rfl
@[go_sem] theorem ty_intK92 : intK Tryz.prog 92 = some .u32 := by kernel_rfl
@[go_sem] theorem ty_aggT92 : aggT Tryz.prog 92 = none := by kernel_rfl
@[go_sem] theorem ty_zeroC92 : zeroC Tryz.prog 92 = some #[.int .u32 0] := by kernel_rfl
@[go_sem] theorem ty_size92 : (Tryz.prog.info? 92).map (·.size) = some 1 := by kernel_rfl
@[go_sem] theorem ty_isStr93 : isStr Tryz.prog 93 = false := by kernel_rfl
@[go_sem] theorem ty_intK93 : intK Tryz.prog 93 = some .u64 := by kernel_rfl
@[go_sem] theorem ty_aggT93 : aggT Tryz.prog 93 = none := by kernel_rfl
@[go_sem] theorem ty_zeroC93 : zeroC Tryz.prog 93 = some #[.int .u64 0] := by kernel_rfl
@[go_sem] theorem ty_size93 : (Tryz.prog.info? 93).map (·.size) = some 1 := by kernel_rfl
@[go_sem] theorem ty_isStr97 : isStr Tryz.prog 97 = false := by kernel_rfl
@[go_sem] theorem ty_intK97 : intK Tryz.prog 97 = none := by kernel_rfl
@[go_sem] theorem ty_aggT97 : aggT Tryz.prog 97 = some 2 := by kernel_rfl
@[go_sem] theorem ty_zeroC97 : zeroC Tryz.prog 97 = some #[.int .i64 0, .int .u16 0] := by kernel_rfl
@[go_sem] theorem ty_fldO97_0 : fldO Tryz.prog 97 0 = some (3, 0) := by kernel_rfl
@[go_sem] theorem ty_fldO97_1 : fldO Tryz.prog 97 1 = some (90, 1) := by kernel_rfl
@[go_sem] theorem ty_stZ97 : stZ Tryz.prog 97 = some (#[.int .i64 0, .int .u16 0], [(0, 1), (1, 1)]) := by kernel_rfl
@[go_sem] theorem ty_size97 : (Tryz.prog.info? 97).map (·.size) = some 2 := by kernel_rfl
@[go_sem] theorem ty_isStr98 : isStr Tryz.prog 98 = false := by kernel_rfl
@[go_sem] theorem ty_intK98 : intK Tryz.prog 98 = none := by kernel_rfl
@[go_sem] theorem ty_aggT98 : aggT Tryz.prog 98 = some 2 := by kernel_rfl
@[go_sem] theorem ty_zeroC98 : zeroC Tryz.prog 98 = some #[.int .i64 0, .int .u16 0] := by kernel_rfl
@[go_sem] theorem ty_fldO98_0 : fldO Tryz.prog 98 0 = some (3, 0) := by kernel_rfl
@[go_sem] theorem ty_fldO98_1 : fldO Tryz.prog 98 1 = some (90, 1) := by kernel_rfl
@[go_sem] theorem ty_stZ98 : stZ Tryz.prog 98 = some (#[.int .i64 0, .int .u16 0], [(0, 1), (1, 1)]) := by kernel_rfl
@[go_sem] theorem ty_size98 : (Tryz.prog.info? 98).map (·.size) = some 2 := by kernel_rfl
@[go_sem] theorem ty_isStr99 : isStr Tryz.prog 99 = false := by kernel_rfl
@[go_sem] theorem ty_intK99 : intK Tryz.prog 99 = none := by kernel_rfl
@[go_sem] theorem ty_aggT99 : aggT Tryz.prog 99 = none := by kernel_rfl
@[go_sem] theorem ty_zeroC99 : zeroC Tryz.prog 99 = some #[.slice none 0 0] := by kernel_rfl
@[go_sem] theorem ty_slE99 : slE Tryz.prog 99 = some 2 := by kernel_rfl
@[go_sem] theorem ty_slZ99 : slZ Tryz.prog 99 = some (25, 2, #[.bool false, .slice none 0 0]) := by kernel_rfl
@[go_sem] theorem ty_size99 : (Tryz.prog.info? 99).map (·.size) = some 1 := by kernel_rfl
@[go_sem] theorem ty_isStr125 : isStr Tryz.prog 125 = false := by kernel_rfl
@[go_sem] theorem ty_intK125 : intK Tryz.prog 125 = none := by kernel_rfl
@[go_sem] theorem ty_aggT125 : aggT Tryz.prog 125 = none := by kernel_rfl
@[go_sem] theorem ty_zeroC125 : zeroC Tryz.prog 125 = some #[.pointer none] := by kernel_rfl
@[go_sem] theorem ty_size125 : (Tryz.prog.info? 125).map (·.size) = some 1 := by kernel_rfl
theorem ty_bytes2 : (Tryz.prog.info? 2).map (·.bytes) = some 8 := by kernel_rfl
theorem ty_bytes3 : (Tryz.prog.info? 3).map (·.bytes) = some 8 := by kernel_rfl
theorem ty_bytes4 : (Tryz.prog.info? 4).map (·.bytes) = some 1 := by kernel_rfl
theorem ty_bytes5 : (Tryz.prog.info? 5).map (·.bytes) = some 1 := by kernel_rfl
theorem ty_bytes9 : (Tryz.prog.info? 9).map (·.bytes) = some 16 := by kernel_rfl
theorem ty_bytes12 : (Tryz.prog.info? 12).map (·.bytes) = some 8 := by kernel_rfl
theorem ty_bytes13 : (Tryz.prog.info? 13).map (·.bytes) = some 24 := by kernel_rfl
theorem ty_bytes21 : (Tryz.prog.info? 21).map (·.bytes) = some 4 := by kernel_rfl
theorem ty_bytes22 : (Tryz.prog.info? 22).map (·.bytes) = some 24 := by kernel_rfl
theorem ty_bytes23 : (Tryz.prog.info? 23).map (·.bytes) = some 24 := by kernel_rfl
theorem ty_bytes24 : (Tryz.prog.info? 24).map (·.bytes) = some 32 := by kernel_rfl
theorem ty_bytes25 : (Tryz.prog.info? 25).map (·.bytes) = some 32 := by kernel_rfl
theorem ty_bytes26 : (Tryz.prog.info? 26).map (·.bytes) = some 56 := by kernel_rfl
theorem ty_bytes27 : (Tryz.prog.info? 27).map (·.bytes) = some 56 := by kernel_rfl
theorem ty_bytes28 : (Tryz.prog.info? 28).map (·.bytes) = some 112 := by kernel_rfl
theorem ty_bytes29 : (Tryz.prog.info? 29).map (·.bytes) = some 112 := by kernel_rfl
theorem ty_bytes30 : (Tryz.prog.info? 30).map (·.bytes) = some 512 := by kernel_rfl
theorem ty_bytes31 : (Tryz.prog.info? 31).map (·.bytes) = some 512 := by kernel_rfl
theorem ty_bytes33 : (Tryz.prog.info? 33).map (·.bytes) = some 8 := by kernel_rfl
theorem ty_bytes40 : (Tryz.prog.info? 40).map (·.bytes) = some 24 := by kernel_rfl
theorem ty_bytes43 : (Tryz.prog.info? 43).map (·.bytes) = some 112 := by kernel_rfl
theorem ty_bytes44 : (Tryz.prog.info? 44).map (·.bytes) = some 112 := by kernel_rfl
theorem ty_bytes69 : (Tryz.prog.info? 69).map (·.bytes) = some 8 := by kernel_rfl
theorem ty_bytes90 : (Tryz.prog.info? 90).map (·.bytes) = some 2 := by kernel_rfl
theorem ty_bytes92 : (Tryz.prog.info? 92).map (·.bytes) = some 4 := by kernel_rfl
theorem ty_bytes93 : (Tryz.prog.info? 93).map (·.bytes) = some 8 := by kernel_rfl
theorem ty_bytes97 : (Tryz.prog.info? 97).map (·.bytes) = some 16 := by kernel_rfl
theorem ty_bytes98 : (Tryz.prog.info? 98).map (·.bytes) = some 16 := by kernel_rfl
theorem ty_bytes99 : (Tryz.prog.info? 99).map (·.bytes) = some 24 := by kernel_rfl
theorem ty_bytes125 : (Tryz.prog.info? 125).map (·.bytes) = some 8 := by kernel_rfl
end Go.Proofs.YtnfchljiicniiaaGreat
