/- What the tables of types say, for the types that the code names. -/
import Derived.Test.YtkampmdekonjmaaGreatRows
import Derived.Test.YtkampmdekonjmaaGreatVE
namespace Go.Proofs.YtkampmdekonjmaaGreat
open Go.V
@[go_sem] theorem ty_isStr2 : isStr Tryz.prog 2 = false := by kernel_rfl
@[go_sem] theorem ty_intK2 : intK Tryz.prog 2 = some .i64 := by kernel_rfl
@[go_sem] theorem ty_aggT2 : aggT Tryz.prog 2 = none := by kernel_rfl
@[go_sem] theorem ty_zeroC2 : zeroC Tryz.prog 2 = some #[.int .i64 0] := by kernel_rfl
@[go_sem] theorem ty_size2 : (Tryz.prog.info? 2).map (·.size) = some 1 := by kernel_rfl
@[go_sem] theorem ty_isStr3 : isStr Tryz.prog 3 = false := by kernel_rfl
@[go_sem] theorem ty_intK3 : intK Tryz.prog 3 = some .i64 := by kernel_rfl
@[go_sem] theorem ty_aggT3 : aggT Tryz.prog 3 = none := by kernel_rfl
@[go_sem] theorem ty_zeroC3 : zeroC Tryz.prog 3 = some #[.int .i64 0] := by kernel_rfl
@[go_sem] theorem ty_size3 : (Tryz.prog.info? 3).map (·.size) = some 1 := by kernel_rfl
@[go_sem] theorem ty_isStr4 : isStr Tryz.prog 4 = false := by kernel_rfl
@[go_sem] theorem ty_intK4 : intK Tryz.prog 4 = none := by kernel_rfl
@[go_sem] theorem ty_aggT4 : aggT Tryz.prog 4 = none := by kernel_rfl
@[go_sem] theorem ty_isBoolT4 : isBoolT Tryz.prog 4 = true := by kernel_rfl
@[go_sem] theorem ty_zeroC4 : zeroC Tryz.prog 4 = some #[.bool false] := by kernel_rfl
@[go_sem] theorem ty_size4 : (Tryz.prog.info? 4).map (·.size) = some 1 := by kernel_rfl
@[go_sem] theorem ty_isStr5 : isStr Tryz.prog 5 = false := by kernel_rfl
@[go_sem] theorem ty_intK5 : intK Tryz.prog 5 = some .u8 := by kernel_rfl
@[go_sem] theorem ty_aggT5 : aggT Tryz.prog 5 = none := by kernel_rfl
@[go_sem] theorem ty_zeroC5 : zeroC Tryz.prog 5 = some #[.int .u8 0] := by kernel_rfl
@[go_sem] theorem ty_size5 : (Tryz.prog.info? 5).map (·.size) = some 1 := by kernel_rfl
@[go_sem] theorem ty_isStr9 : isStr Tryz.prog 9 = true := by kernel_rfl
@[go_sem] theorem ty_intK9 : intK Tryz.prog 9 = none := by kernel_rfl
@[go_sem] theorem ty_aggT9 : aggT Tryz.prog 9 = none := by kernel_rfl
@[go_sem] theorem ty_zeroC9 : zeroC Tryz.prog 9 = some #[.string { data := #[] }] := by kernel_rfl
@[go_sem] theorem ty_size9 : (Tryz.prog.info? 9).map (·.size) = some 1 := by kernel_rfl
@[go_sem] theorem ty_isStr12 : isStr Tryz.prog 12 = false := by kernel_rfl
@[go_sem] theorem ty_intK12 : intK Tryz.prog 12 = some .u64 := by kernel_rfl
@[go_sem] theorem ty_aggT12 : aggT Tryz.prog 12 = none := by kernel_rfl
@[go_sem] theorem ty_zeroC12 : zeroC Tryz.prog 12 = some #[.int .u64 0] := by kernel_rfl
@[go_sem] theorem ty_size12 : (Tryz.prog.info? 12).map (·.size) = some 1 := by kernel_rfl
@[go_sem] theorem ty_isStr13 : isStr Tryz.prog 13 = false := by kernel_rfl
@[go_sem] theorem ty_intK13 : intK Tryz.prog 13 = none := by kernel_rfl
@[go_sem] theorem ty_aggT13 : aggT Tryz.prog 13 = some 2 := by kernel_rfl
@[go_sem] theorem ty_zeroC13 : zeroC Tryz.prog 13 = some #[.string { data := #[] }, .int .u64 0] := by kernel_rfl
@[go_sem] theorem ty_fldO13_0 : fldO Tryz.prog 13 0 = some (9, 0) := by kernel_rfl
@[go_sem] theorem ty_fldO13_1 : fldO Tryz.prog 13 1 = some (12, 1) := by kernel_rfl
@[go_sem] theorem ty_stZ13 : stZ Tryz.prog 13 = some (#[.string { data := #[] }, .int .u64 0], [(0, 1), (1, 1)]) := by kernel_rfl
@[go_sem] theorem ty_size13 : (Tryz.prog.info? 13).map (·.size) = some 2 := by kernel_rfl
@[go_sem] theorem ty_isStr21 : isStr Tryz.prog 21 = false := by kernel_rfl
@[go_sem] theorem ty_intK21 : intK Tryz.prog 21 = some .i32 := by kernel_rfl
@[go_sem] theorem ty_aggT21 : aggT Tryz.prog 21 = none := by kernel_rfl
@[go_sem] theorem ty_zeroC21 : zeroC Tryz.prog 21 = some #[.int .i32 0] := by kernel_rfl
@[go_sem] theorem ty_size21 : (Tryz.prog.info? 21).map (·.size) = some 1 := by kernel_rfl
@[go_sem] theorem ty_isStr22 : isStr Tryz.prog 22 = false := by kernel_rfl
@[go_sem] theorem ty_intK22 : intK Tryz.prog 22 = none := by kernel_rfl
@[go_sem] theorem ty_aggT22 : aggT Tryz.prog 22 = none := by kernel_rfl
@[go_sem] theorem ty_zeroC22 : zeroC Tryz.prog 22 = some #[.slice none 0 0] := by kernel_rfl
@[go_sem] theorem ty_slE22 : slE Tryz.prog 22 = some 1 := by kernel_rfl
@[go_sem] theorem ty_slZ22 : slZ Tryz.prog 22 = some (3, 1, #[.int .i64 0]) := by kernel_rfl
@[go_sem] theorem ty_size22 : (Tryz.prog.info? 22).map (·.size) = some 1 := by kernel_rfl
@[go_sem] theorem ty_isStr23 : isStr Tryz.prog 23 = false := by kernel_rfl
@[go_sem] theorem ty_intK23 : intK Tryz.prog 23 = none := by kernel_rfl
@[go_sem] theorem ty_aggT23 : aggT Tryz.prog 23 = none := by kernel_rfl
@[go_sem] theorem ty_zeroC23 : zeroC Tryz.prog 23 = some #[.slice none 0 0] := by kernel_rfl
@[go_sem] theorem ty_slE23 : slE Tryz.prog 23 = some 1 := by kernel_rfl
@[go_sem] theorem ty_slZ23 : slZ Tryz.prog 23 = some (67, 1, #[.int .u16 0]) := by kernel_rfl
@[go_sem] theorem ty_size23 : (Tryz.prog.info? 23).map (·.size) = some 1 := by kernel_rfl
@[go_sem] theorem ty_isStr24 : isStr Tryz.prog 24 = false := by kernel_rfl
@[go_sem] theorem ty_intK24 : intK Tryz.prog 24 = none := by kernel_rfl
@[go_sem] theorem ty_aggT24 : aggT Tryz.prog 24 = none := by kernel_rfl
@[go_sem] theorem ty_zeroC24 : zeroC Tryz.prog 24 = some #[.slice none 0 0] := by kernel_rfl
@[go_sem] theorem ty_slE24 : slE Tryz.prog 24 = some 1 := by kernel_rfl
@[go_sem] theorem ty_slZ24 : slZ Tryz.prog 24 = some (67, 1, #[.int .u16 0]) := by kernel_rfl
@[go_sem] theorem ty_size24 : (Tryz.prog.info? 24).map (·.size) = some 1 := by kernel_rfl
@[go_sem] theorem ty_isStr25 : isStr Tryz.prog 25 = false := by kernel_rfl
@[go_sem] theorem ty_intK25 : intK Tryz.prog 25 = none := by kernel_rfl
@[go_sem] theorem ty_aggT25 : aggT Tryz.prog 25 = some 2 := by kernel_rfl
@[go_sem] theorem ty_zeroC25 : zeroC Tryz.prog 25 = some #[.bool false, .slice none 0 0] := by kernel_rfl
@[go_sem] theorem ty_fldO25_0 : fldO Tryz.prog 25 0 = some (4, 0) := by kernel_rfl
@[go_sem] theorem ty_fldO25_1 : fldO Tryz.prog 25 1 = some (24, 1) := by kernel_rfl
@[go_sem] theorem ty_stZ25 : stZ Tryz.prog 25 = some (#[.bool false, .slice none 0 0], [(0, 1), (1, 1)]) := by kernel_rfl
@[go_sem] theorem ty_size25 : (Tryz.prog.info? 25).map (·.size) = some 2 := by kernel_rfl
@[go_sem] theorem ty_isStr26 : isStr Tryz.prog 26 = false := by kernel_rfl
@[go_sem] theorem ty_intK26 : intK Tryz.prog 26 = none := by kernel_rfl
@[go_sem] theorem ty_aggT26 : aggT Tryz.prog 26 = some 2 := by kernel_rfl
@[go_sem] theorem ty_zeroC26 : zeroC Tryz.prog 26 = some #[.bool false, .slice none 0 0] := by kernel_rfl
@[go_sem] theorem ty_fldO26_0 : fldO Tryz.prog 26 0 = some (4, 0) := by kernel_rfl
@[go_sem] theorem ty_fldO26_1 : fldO Tryz.prog 26 1 = some (24, 1) := by kernel_rfl
@[go_sem] theorem ty_stZ26 : stZ Tryz.prog 26 = some (#[.bool false, .slice none 0 0], [(0, 1), (1, 1)]) := by kernel_rfl
@[go_sem] theorem ty_size26 : (Tryz.prog.info? 26).map (·.size) = some 2 := by kernel_rfl
@[go_sem] theorem ty_isStr27 : isStr Tryz.prog 27 = false := by kernel_rfl
@[go_sem] theorem ty_intK27 : intK Tryz.prog 27 = none := by kernel_rfl
@[go_sem] theorem ty_aggT27 : aggT Tryz.prog 27 = some 3 := by kernel_rfl
@[go_sem] theorem ty_zeroC27 : zeroC Tryz.prog 27 = some #[.bool false, .slice none 0 0, .slice none 0 0] := by kernel_rfl
@[go_sem] theorem ty_fldO27_0 : fldO Tryz.prog 27 0 = some (26, 0) := by kernel_rfl
@[go_sem] theorem ty_fldO27_1 : fldO Tryz.prog 27 1 = some (24, 2) := by kernel_rfl
@[go_sem] theorem ty_stZ27 : stZ Tryz.prog 27 = some (#[.bool false, .slice none 0 0, .slice none 0 0], [(0, 2), (2, 1)]) := by kernel_rfl
@[go_sem] theorem ty_size27 : (Tryz.prog.info? 27).map (·.size) = some 3 := by kernel_rfl
@[go_sem] theorem ty_isStr28 : isStr Tryz.prog 28 = false := by kernel_rfl
@[go_sem] theorem ty_intK28 : intK Tryz.prog 28 = none := by kernel_rfl
@[go_sem] theorem ty_aggT28 : aggT Tryz.prog 28 = some 3 := by kernel_rfl
@[go_sem] theorem ty_zeroC28 : zeroC Tryz.prog 28 = some #[.bool false, .slice none 0 0, .slice none 0 0] := by kernel_rfl
@[go_sem] theorem ty_fldO28_0 : fldO Tryz.prog 28 0 = some (26, 0) := by kernel_rfl
@[go_sem] theorem ty_fldO28_1 : fldO Tryz.prog 28 1 = some (24, 2) := by kernel_rfl
@[go_sem] theorem ty_stZ28 : stZ Tryz.prog 28 = some (#[.bool false, .slice none 0 0, .slice none 0 0], [(0, 2), (2, 1)]) := by kernel_rfl
@[go_sem] theorem ty_size28 : (Tryz.prog.info? 28).map (·.size) = some 3 := by kernel_rfl
@[go_sem] theorem ty_isStr29 : isStr Tryz.prog 29 = false := by kernel_rfl
@[go_sem] theorem ty_intK29 : intK Tryz.prog 29 = none := by kernel_rfl
@[go_sem] theorem ty_aggT29 : aggT Tryz.prog 29 = some 5 := by kernel_rfl
@[go_sem] theorem ty_zeroC29 : zeroC Tryz.prog 29 = some #[.int .i64 0, .slice none 0 0, .bool false, .slice none 0 0, .slice none 0 0] := by kernel_rfl
@[go_sem] theorem ty_fldO29_0 : fldO Tryz.prog 29 0 = some (3, 0) := by kernel_rfl
@[go_sem] theorem ty_fldO29_1 : fldO Tryz.prog 29 1 = some (22, 1) := by kernel_rfl
@[go_sem] theorem ty_fldO29_2 : fldO Tryz.prog 29 2 = some (28, 2) := by kernel_rfl
@[go_sem] theorem ty_stZ29 : stZ Tryz.prog 29 = some (#[.int .i64 0, .slice none 0 0, .bool false, .slice none 0 0, .slice none 0 0], [(0, 1), (1, 1), (2, 3)]) := by kernel_rfl
@[go_sem] theorem ty_size29 : (Tryz.prog.info? 29).map (·.size) = some 5 := by kernel_rfl
@[go_sem] theorem ty_isStr30 : isStr Tryz.prog 30 = false := by kernel_rfl
@[go_sem] theorem ty_intK30 : intK Tryz.prog 30 = none := by kernel_rfl
@[go_sem] theorem ty_aggT30 : aggT Tryz.prog 30 = some 5 := by kernel_rfl
@[go_sem] theorem ty_zeroC30 : zeroC Tryz.prog 30 = some #[.int .i64 0, .slice none 0 0, .bool false, .slice none 0 0, .slice none 0 0] := by kernel_rfl
@[go_sem] theorem ty_fldO30_0 : fldO Tryz.prog 30 0 = some (3, 0) := by kernel_rfl
@[go_sem] theorem ty_fldO30_1 : fldO Tryz.prog 30 1 = some (22, 1) := by kernel_rfl
@[go_sem] theorem ty_fldO30_2 : fldO Tryz.prog 30 2 = some (28, 2) := by kernel_rfl
@[go_sem] theorem ty_stZ30 : stZ Tryz.prog 30 = some (#[.int .i64 0, .slice none 0 0, .bool false, .slice none 0 0, .slice none 0 0], [(0, 1), (1, 1), (2, 3)]) := by kernel_rfl
@[go_sem] theorem ty_size30 : (Tryz.prog.info? 30).map (·.size) = some 5 := by kernel_rfl
@[go_sem] theorem ty_isStr31 : isStr Tryz.prog 31 = false := by kernel_rfl
@[go_sem] theorem ty_intK31 : intK Tryz.prog 31 = none := by kernel_rfl
@[go_sem] theorem ty_aggT31 : aggT Tryz.prog 31 = none := by kernel_rfl
@[go_sem] theorem ty_zeroC31 : zeroC Tryz.prog 31 = some #[.slice none 0 0] := by kernel_rfl
@[go_sem] theorem ty_slE31 : slE Tryz.prog 31 = some 6 := by kernel_rfl
@[go_sem] theorem ty_slZ31 : slZ Tryz.prog 31 = some (42, 6, #[.bool false, .slice none 0 0, .slice none 0 0, .bool false, .slice none 0 0, .slice none 0 0]) := by kernel_rfl
@[go_sem] theorem ty_size31 : (Tryz.prog.info? 31).map (·.size) = some 1 := by kernel_rfl
@[go_sem] theorem ty_isStr33 : isStr Tryz.prog 33 = false := by kernel_rfl
@[go_sem] theorem ty_intK33 : intK Tryz.prog 33 = none := by kernel_rfl
@[go_sem] theorem ty_aggT33 : aggT Tryz.prog 33 = none := by kernel_rfl
@[go_sem] theorem ty_zeroC33 : zeroC Tryz.prog 33 = some #[.slice none 0 0] := by kernel_rfl
@[go_sem] theorem ty_slE33 : slE Tryz.prog 33 = some 3 := by kernel_rfl
@[go_sem] theorem ty_slZ33 : slZ Tryz.prog 33 = some (28, 3, #[.bool false, .slice none 0 0, .slice none 0 0]) := by kernel_rfl
@[go_sem] theorem ty_size33 : (Tryz.prog.info? 33).map (·.size) = some 1 := by kernel_rfl
@[go_sem] theorem ty_isStr34 : isStr Tryz.prog 34 = false := by kernel_rfl
@[go_sem] theorem ty_intK34 : intK Tryz.prog 34 = some .i64 := by kernel_rfl
@[go_sem] theorem ty_aggT34 : aggT Tryz.prog 34 = none := by kernel_rfl
@[go_sem] theorem ty_zeroC34 : zeroC Tryz.prog 34 = some #[.int .i64 0] := by kernel_rfl
@[go_sem] theorem ty_size34 : (Tryz.prog.info? 34).map (·.size) = some 1 := by kernel_rfl
@[go_sem] theorem ty_isStr41 : isStr Tryz.prog 41 = false := by kernel_rfl
@[go_sem] theorem ty_intK41 : intK Tryz.prog 41 = none := by kernel_rfl
@[go_sem] theorem ty_aggT41 : aggT Tryz.prog 41 = some 6 := by kernel_rfl
@[go_sem] theorem ty_zeroC41 : zeroC Tryz.prog 41 = some #[.bool false, .slice none 0 0, .slice none 0 0, .bool false, .slice none 0 0, .slice none 0 0] := by kernel_rfl
@[go_sem] theorem ty_fldO41_0 : fldO Tryz.prog 41 0 = some (28, 0) := by kernel_rfl
@[go_sem] theorem ty_fldO41_1 : fldO Tryz.prog 41 1 = some (28, 3) := by kernel_rfl
@[go_sem] theorem ty_stZ41 : stZ Tryz.prog 41 = some (#[.bool false, .slice none 0 0, .slice none 0 0, .bool false, .slice none 0 0, .slice none 0 0], [(0, 3), (3, 3)]) := by kernel_rfl
@[go_sem] theorem ty_size41 : (Tryz.prog.info? 41).map (·.size) = some 6 := by kernel_rfl
@[go_sem] theorem ty_isStr42 : isStr Tryz.prog 42 = false := by kernel_rfl
@[go_sem] theorem ty_intK42 : intK Tryz.prog 42 = none := by kernel_rfl
@[go_sem] theorem ty_aggT42 : aggT Tryz.prog 42 = some 6 := by kernel_rfl
@[go_sem] theorem ty_zeroC42 : zeroC Tryz.prog 42 = some #[.bool false, .slice none 0 0, .slice none 0 0, .bool false, .slice none 0 0, .slice none 0 0] := by kernel_rfl
@[go_sem] theorem ty_fldO42_0 : fldO Tryz.prog 42 0 = some (28, 0) := by kernel_rfl
@[go_sem] theorem ty_fldO42_1 : fldO Tryz.prog 42 1 = some (28, 3) := by kernel_rfl
@[go_sem] theorem ty_stZ42 : stZ Tryz.prog 42 = some (#[.bool false, .slice none 0 0, .slice none 0 0, .bool false, .slice none 0 0, .slice none 0 0], [(0, 3), (3, 3)]) := by kernel_rfl
@[go_sem] theorem ty_size42 : (Tryz.prog.info? 42).map (·.size) = some 6 := by kernel_rfl
@[go_sem] theorem ty_isStr62 : isStr Tryz.prog 62 = false := by kernel_rfl
@[go_sem] theorem ty_intK62 : intK Tryz.prog 62 = some .u64 := by kernel_rfl
@[go_sem] theorem ty_aggT62 : aggT Tryz.prog 62 = none := by kernel_rfl
@[go_sem] theorem ty_zeroC62 : zeroC Tryz.prog 62 = some #[.int .u64 0] := by kernel_rfl
@[go_sem] theorem ty_size62 : (Tryz.prog.info? 62).map (·.size) = some 1 := by kernel_rfl
@[go_sem] theorem ty_isStr67 : isStr Tryz.prog 67 = false := by kernel_rfl
@[go_sem] theorem ty_intK67 : intK Tryz.prog 67 = some .u16 := by kernel_rfl
@[go_sem] theorem ty_aggT67 : aggT Tryz.prog 67 = none := by kernel_rfl
@[go_sem] theorem ty_zeroC67 : zeroC Tryz.prog 67 = some #[.int .u16 0] := by kernel_rfl
@[go_sem] theorem ty_size67 : (Tryz.prog.info? 67).map (·.size) = some 1 := by kernel_rfl
@[go_sem] theorem ty_isStr68 : isStr Tryz.prog 68 = false := by kernel_rfl
@[go_sem] theorem ty_intK68 : intK Tryz.prog 68 = none := by kernel_rfl
@[go_sem] theorem ty_aggT68 : aggT Tryz.prog 68 = some 6 := by kernel_rfl
@[go_sem] theorem ty_zeroC68 : zeroC Tryz.prog 68 = some #[.bool false, .slice none 0 0, .slice none 0 0, .bool false, .slice none 0 0, .slice none 0 0] := by kernel_rfl
@[go_sem] theorem ty_isStr69 : isStr Tryz.prog 69 = false := by kernel_rfl
@[go_sem] theorem ty_intK69 : intK Tryz.prog 69 = none := by kernel_rfl
@[go_sem] theorem ty_aggT69 : aggT Tryz.prog 69 = some 6 := by kernel_rfl
@[go_sem] theorem ty_zeroC69 : zeroC Tryz.prog 69 = some #[.bool false, .slice none 0 0, .slice none 0 0, .bool false, .slice none 0 0, .slice none 0 0] := by kernel_rfl
@[go_sem] theorem ty_isStr86 : isStr Tryz.prog 86 = false := by kernel_rfl
@[go_sem] theorem ty_intK86 : intK Tryz.prog 86 = none := by kernel_rfl
@[go_sem] theorem ty_aggT86 : aggT Tryz.prog 86 = some 2 := by kernel_rfl
@[go_sem] theorem ty_zeroC86 : zeroC Tryz.prog 86 = some #[.int .i64 0, .int .u16 0] := by kernel_rfl
@[go_sem] theorem ty_fldO86_0 : fldO Tryz.prog 86 0 = some (3, 0) := by kernel_rfl
@[go_sem] theorem ty_fldO86_1 : fldO Tryz.prog 86 1 = some (67, 1) := by kernel_rfl
@[go_sem] theorem ty_stZ86 : stZ Tryz.prog 86 = some (#[.int .i64 0, .int .u16 0], [(0, 1), (1, 1)]) := by kernel_rfl
@[go_sem] theorem ty_size86 : (Tryz.prog.info? 86).map (·.size) = some 2 := by kernel_rfl
@[go_sem] theorem ty_isStr87 : isStr Tryz.prog 87 = false := by kernel_rfl
@[go_sem] theorem ty_intK87 : intK Tryz.prog 87 = none := by kernel_rfl
@[go_sem] theorem ty_aggT87 : aggT Tryz.prog 87 = some 2 := by kernel_rfl
@[go_sem] theorem ty_zeroC87 : zeroC Tryz.prog 87 = some #[.int .i64 0, .int .u16 0] := by kernel_rfl
@[go_sem] theorem ty_fldO87_0 : fldO Tryz.prog 87 0 = some (3, 0) := by kernel_rfl
@[go_sem] theorem ty_fldO87_1 : fldO Tryz.prog 87 1 = some (67, 1) := by kernel_rfl
@[go_sem] theorem ty_stZ87 : stZ Tryz.prog 87 = some (#[.int .i64 0, .int .u16 0], [(0, 1), (1, 1)]) := by kernel_rfl
@[go_sem] theorem ty_size87 : (Tryz.prog.info? 87).map (·.size) = some 2 := by kernel_rfl
@[go_sem] theorem ty_isStr90 : isStr Tryz.prog 90 = false := by kernel_rfl
@[go_sem] theorem ty_intK90 : intK Tryz.prog 90 = none := by kernel_rfl
@[go_sem] theorem ty_aggT90 : aggT Tryz.prog 90 = none := by kernel_rfl
@[go_sem] theorem ty_zeroC90 : zeroC Tryz.prog 90 = some #[.slice none 0 0] := by kernel_rfl
@[go_sem] theorem ty_slE90 : slE Tryz.prog 90 = some 2 := by kernel_rfl
@[go_sem] theorem ty_slZ90 : slZ Tryz.prog 90 = some (26, 2, #[.bool false, .slice none 0 0]) := by kernel_rfl
@[go_sem] theorem ty_size90 : (Tryz.prog.info? 90).map (·.size) = some 1 := by kernel_rfl
@[go_sem] theorem ty_isStr92 : isStr Tryz.prog 92 = false := by kernel_rfl
@[go_sem] theorem ty_intK92 : intK Tryz.prog 92 = some .u32 := by kernel_rfl
@[go_sem] theorem ty_aggT92 : aggT Tryz.prog 92 = none := by kernel_rfl
@[go_sem] theorem ty_zeroC92 : zeroC Tryz.prog 92 = some #[.int .u32 0] := by kernel_rfl
@[go_sem] theorem ty_size92 : (Tryz.prog.info? 92).map (·.size) = some 1 := by kernel_rfl
@[go_sem] theorem ty_isStr93 : isStr Tryz.prog 93 = false := by kernel_rfl
@[go_sem] theorem ty_intK93 : intK Tryz.prog 93 = some .u64 := by kernel_rfl
@[go_sem] theorem ty_aggT93 : aggT Tryz.prog 93 = none := by kernel_rfl
@[go_sem] theorem ty_zeroC93 : zeroC Tryz.prog 93 = some #[.int .u64 0] := by kernel_rfl
@[go_sem] theorem ty_size93 : (Tryz.prog.info? 93).map (·.size) = some 1 := by kernel_rfl
@[go_sem] theorem ty_isStr118 : isStr Tryz.prog 118 = false := by kernel_rfl
@[go_sem] theorem ty_intK118 : intK Tryz.prog 118 = none := by kernel_rfl
@[go_sem] theorem ty_aggT118 : aggT Tryz.prog 118 = none := by kernel_rfl
@[go_sem] theorem ty_zeroC118 : zeroC Tryz.prog 118 = some #[.pointer none] := by kernel_rfl
@[go_sem] theorem ty_size118 : (Tryz.prog.info? 118).map (·.size) = some 1 := by kernel_rfl
theorem ty_bytes2 : (Tryz.prog.info? 2).map (·.bytes) = some 8 := by kernel_rfl
theorem ty_bytes3 : (Tryz.prog.info? 3).map (·.bytes) = some 8 := by kernel_rfl
theorem ty_bytes4 : (Tryz.prog.info? 4).map (·.bytes) = some 1 := by kernel_rfl
theorem ty_bytes5 : (Tryz.prog.info? 5).map (·.bytes) = some 1 := by kernel_rfl
theorem ty_bytes9 : (Tryz.prog.info? 9).map (·.bytes) = some 16 := by kernel_rfl
theorem ty_bytes12 : (Tryz.prog.info? 12).map (·.bytes) = some 8 := by kernel_rfl
theorem ty_bytes13 : (Tryz.prog.info? 13).map (·.bytes) = some 24 := by kernel_rfl
theorem ty_bytes21 : (Tryz.prog.info? 21).map (·.bytes) = some 4 := by kernel_rfl
theorem ty_bytes22 : (Tryz.prog.info? 22).map (·.bytes) = some 24 := by kernel_rfl
theorem ty_bytes23 : (Tryz.prog.info? 23).map (·.bytes) = some 24 := by kernel_rfl
theorem ty_bytes24 : (Tryz.prog.info? 24).map (·.bytes) = some 24 := by kernel_rfl
theorem ty_bytes25 : (Tryz.prog.info? 25).map (·.bytes) = some 32 := by kernel_rfl
theorem ty_bytes26 : (Tryz.prog.info? 26).map (·.bytes) = some 32 := by kernel_rfl
theorem ty_bytes27 : (Tryz.prog.info? 27).map (·.bytes) = some 56 := by kernel_rfl
theorem ty_bytes28 : (Tryz.prog.info? 28).map (·.bytes) = some 56 := by kernel_rfl
theorem ty_bytes29 : (Tryz.prog.info? 29).map (·.bytes) = some 88 := by kernel_rfl
theorem ty_bytes30 : (Tryz.prog.info? 30).map (·.bytes) = some 88 := by kernel_rfl
theorem ty_bytes31 : (Tryz.prog.info? 31).map (·.bytes) = some 24 := by kernel_rfl
theorem ty_bytes33 : (Tryz.prog.info? 33).map (·.bytes) = some 24 := by kernel_rfl
theorem ty_bytes34 : (Tryz.prog.info? 34).map (·.bytes) = some 8 := by kernel_rfl
theorem ty_bytes41 : (Tryz.prog.info? 41).map (·.bytes) = some 112 := by kernel_rfl
theorem ty_bytes42 : (Tryz.prog.info? 42).map (·.bytes) = some 112 := by kernel_rfl
theorem ty_bytes62 : (Tryz.prog.info? 62).map (·.bytes) = some 8 := by kernel_rfl
theorem ty_bytes67 : (Tryz.prog.info? 67).map (·.bytes) = some 2 := by kernel_rfl
theorem ty_bytes68 : (Tryz.prog.info? 68).map (·.bytes) = some 112 := by kernel_rfl
theorem ty_bytes69 : (Tryz.prog.info? 69).map (·.bytes) = some 112 := by kernel_rfl
theorem ty_bytes86 : (Tryz.prog.info? 86).map (·.bytes) = some 16 := by kernel_rfl
theorem ty_bytes87 : (Tryz.prog.info? 87).map (·.bytes) = some 16 := by kernel_rfl
theorem ty_bytes90 : (Tryz.prog.info? 90).map (·.bytes) = some 24 := by kernel_rfl
theorem ty_bytes92 : (Tryz.prog.info? 92).map (·.bytes) = some 4 := by kernel_rfl
theorem ty_bytes93 : (Tryz.prog.info? 93).map (·.bytes) = some 8 := by kernel_rfl
theorem ty_bytes118 : (Tryz.prog.info? 118).map (·.bytes) = some 8 := by kernel_rfl
end Go.Proofs.YtkampmdekonjmaaGreat
