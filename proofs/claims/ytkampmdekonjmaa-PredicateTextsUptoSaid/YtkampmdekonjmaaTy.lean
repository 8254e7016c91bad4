/- What the tables of types say, for the types that the code names. -/
import Derived.Test.YtkampmdekonjmaaRows
import Derived.Test.YtkampmdekonjmaaVE
namespace Go.Proofs.Ytkampmdekonjmaa
open Go.V
@[go_sem] theorem ty_isStr2 : isStr Try.prog 2 = false := by kernel_rfl
@[go_sem] theorem ty_intK2 : intK Try.prog 2 = some .i64 := by kernel_rfl
@[go_sem] theorem ty_aggT2 : aggT Try.prog 2 = none := by kernel_rfl
@[go_sem] theorem ty_zeroC2 : zeroC Try.prog 2 = some #[.int .i64 0] := by kernel_rfl
@[go_sem] theorem ty_size2 : (Try.prog.info? 2).map (·.size) = some 1 := by kernel_rfl
@[go_sem] theorem ty_isStr3 : isStr Try.prog 3 = false := by kernel_rfl
@[go_sem] theorem ty_intK3 : intK Try.prog 3 = some .i64 := by kernel_rfl
@[go_sem] theorem ty_aggT3 : aggT Try.prog 3 = none := by kernel_rfl
@[go_sem] theorem ty_zeroC3 : zeroC Try.prog 3 = some #[.int .i64 0] := by kernel_rfl
@[go_sem] theorem ty_size3 : (Try.prog.info? 3).map (·.size) = some 1 := by kernel_rfl
@[go_sem] theorem ty_isStr4 : isStr Try.prog 4 = false := by kernel_rfl
@[go_sem] theorem ty_intK4 : intK Try.prog 4 = none := by kernel_rfl
@[go_sem] theorem ty_aggT4 : aggT Try.prog 4 = none := by kernel_rfl
@[go_sem] theorem ty_isBoolT4 : isBoolT Try.prog 4 = true := by kernel_rfl
@[go_sem] theorem ty_zeroC4 : zeroC Try.prog 4 = some #[.bool false] := by kernel_rfl
@[go_sem] theorem ty_size4 : (Try.prog.info? 4).map (·.size) = some 1 := by kernel_rfl
@[go_sem] theorem ty_isStr5 : isStr Try.prog 5 = false := by kernel_rfl
@[go_sem] theorem ty_intK5 : intK Try.prog 5 = some .u8 := by kernel_rfl
@[go_sem] theorem ty_aggT5 : aggT Try.prog 5 = none := by kernel_rfl
@[go_sem] theorem ty_zeroC5 : zeroC Try.prog 5 = some #[.int .u8 0] := by kernel_rfl
@[go_sem] theorem ty_size5 : (Try.prog.info? 5).map (·.size) = some 1 := by kernel_rfl
@[go_sem] theorem ty_isStr9 : isStr Try.prog 9 = true := by kernel_rfl
@[go_sem] theorem ty_intK9 : intK Try.prog 9 = none := by kernel_rfl
@[go_sem] theorem ty_aggT9 : aggT Try.prog 9 = none := by kernel_rfl
@[go_sem] theorem ty_zeroC9 : zeroC Try.prog 9 = some #[.string { data := #[] }] := by kernel_rfl
@[go_sem] theorem ty_size9 : (Try.prog.info? 9).map (·.size) = some 1 := by kernel_rfl
@[go_sem] theorem ty_isStr12 : isStr Try.prog 12 = false := by kernel_rfl
@[go_sem] theorem ty_intK12 : intK Try.prog 12 = some .u64 := by kernel_rfl
@[go_sem] theorem ty_aggT12 : aggT Try.prog 12 = none := by kernel_rfl
@[go_sem] theorem ty_zeroC12 : zeroC Try.prog 12 = some #[.int .u64 0] := by kernel_rfl
@[go_sem] theorem ty_size12 : (Try.prog.info? 12).map (·.size) = some 1 := by kernel_rfl
@[go_sem] theorem ty_isStr13 : isStr Try.prog 13 = false := by kernel_rfl
@[go_sem] theorem ty_intK13 : intK Try.prog 13 = none := by kernel_rfl
@[go_sem] theorem ty_aggT13 : aggT Try.prog 13 = some 2 := by kernel_rfl
@[go_sem] theorem ty_zeroC13 : zeroC Try.prog 13 = some #[.string { data := #[] }, .int .u64 0] := by kernel_rfl
@[go_sem] theorem ty_fldO13_0 : fldO Try.prog 13 0 = some (9, 0) := by kernel_rfl
@[go_sem] theorem ty_fldO13_1 : fldO Try.prog 13 1 = some (12, 1) := by kernel_rfl
@[go_sem] theorem ty_stZ13 : stZ Try.prog 13 = some (#[.string { data := #[] }, .int .u64 0], [(0, 1), (1, 1)]) := by kernel_rfl
@[go_sem] theorem ty_size13 : (Try.prog.info? 13).map (·.size) = some 2 := by kernel_rfl
@[go_sem] theorem ty_isStr21 : isStr Try.prog 21 = false := by kernel_rfl
@[go_sem] theorem ty_intK21 : intK Try.prog 21 = some .i32 := by kernel_rfl
@[go_sem] theorem ty_aggT21 : aggT Try.prog 21 = none := by kernel_rfl
@[go_sem] theorem ty_zeroC21 : zeroC Try.prog 21 = some #[.int .i32 0] := by kernel_rfl
@[go_sem] theorem ty_size21 : (Try.prog.info? 21).map (·.size) = some 1 := by kernel_rfl
@[go_sem] theorem ty_isStr22 : isStr Try.prog 22 = false := by kernel_rfl
@[go_sem] theorem ty_intK22 : intK Try.prog 22 = none := by kernel_rfl
@[go_sem] theorem ty_aggT22 : aggT Try.prog 22 = none := by kernel_rfl
@[go_sem] theorem ty_zeroC22 : zeroC Try.prog 22 = some #[.slice none 0 0] := by kernel_rfl
@[go_sem] theorem ty_slE22 : slE Try.prog 22 = some 1 := by kernel_rfl
@[go_sem] theorem ty_slZ22 : slZ Try.prog 22 = some (3, 1, #[.int .i64 0]) := by kernel_rfl
@[go_sem] theorem ty_size22 : (Try.prog.info? 22).map (·.size) = some 1 := by kernel_rfl
@[go_sem] theorem ty_isStr23 : isStr Try.prog 23 = false := by kernel_rfl
@[go_sem] theorem ty_intK23 : intK Try.prog 23 = none := by kernel_rfl
@[go_sem] theorem ty_aggT23 : aggT Try.prog 23 = none := by kernel_rfl
@[go_sem] theorem ty_zeroC23 : zeroC Try.prog 23 = some #[.slice none 0 0] := by kernel_rfl
@[go_sem] theorem ty_slE23 : slE Try.prog 23 = some 1 := by kernel_rfl
@[go_sem] theorem ty_slZ23 : slZ Try.prog 23 = some (88, 1, #[.int .u16 0]) := by kernel_rfl
@[go_sem] theorem ty_size23 : (Try.prog.info? 23).map (·.size) = some 1 := by kernel_rfl
@[go_sem] theorem ty_isStr24 : isStr Try.prog 24 = false := by kernel_rfl
@[go_sem] theorem ty_intK24 : intK Try.prog 24 = none := by kernel_rfl
@[go_sem] theorem ty_aggT24 : aggT Try.prog 24 = none := by kernel_rfl
@[go_sem] theorem ty_zeroC24 : zeroC Try.prog 24 = some #[.slice none 0 0] := by kernel_rfl
@[go_sem] theorem ty_slE24 : slE Try.prog 24 = some 1 := by kernel_rfl
@[go_sem] theorem ty_slZ24 : slZ Try.prog 24 = some (88, 1, #[.int .u16 0]) := by kernel_rfl
@[go_sem] theorem ty_size24 : (Try.prog.info? 24).map (·.size) = some 1 := by kernel_rfl
@[go_sem] theorem ty_isStr25 : isStr Try.prog 25 = false := by kernel_rfl
@[go_sem] theorem ty_intK25 : intK Try.prog 25 = none := by kernel_rfl
@[go_sem] theorem ty_aggT25 : aggT Try.prog 25 = some 2 := by kernel_rfl
@[go_sem] theorem ty_zeroC25 : zeroC Try.prog 25 = some #[.bool false, .slice none 0 0] := by kernel_rfl
@[go_sem] theorem ty_fldO25_0 : fldO Try.prog 25 0 = some (4, 0) := by kernel_rfl
@[go_sem] theorem ty_fldO25_1 : fldO Try.prog 25 1 = some (24, 1) := by kernel_rfl
@[go_sem] theorem ty_stZ25 : stZ Try.prog 25 = some (#[.bool false, .slice none 0 0], [(0, 1), (1, 1)]) := by kernel_rfl
@[go_sem] theorem ty_size25 : (Try.prog.info? 25).map (·.size) = some 2 := by kernel_rfl
@[go_sem] theorem ty_isStr26 : isStr Try.prog 26 = false := by kernel_rfl
@[go_sem] theorem ty_intK26 : intK Try.prog 26 = none := by kernel_rfl
@[go_sem] theorem ty_aggT26 : aggT Try.prog 26 = some 2 := by kernel_rfl
@[go_sem] theorem ty_zeroC26 : zeroC Try.prog 26 = some #[.bool false, .slice none 0 0] := by kernel_rfl
@[go_sem] theorem ty_fldO26_0 : fldO Try.prog 26 0 = some (4, 0) := by kernel_rfl
@[go_sem] theorem ty_fldO26_1 : fldO Try.prog 26 1 = some (24, 1) := by kernel_rfl
@[go_sem] theorem ty_stZ26 : stZ Try.prog 26 = some (#[.bool false, .slice none 0 0], [(0, 1), (1, 1)]) := by kernel_rfl
@[go_sem] theorem ty_size26 : (Try.prog.info? 26).map (·.size) = some 2 := by kernel_rfl
@[go_sem] theorem ty_isStr27 : isStr Try.prog 27 = false := by kernel_rfl
@[go_sem] theorem ty_intK27 : intK Try.prog 27 = none := by kernel_rfl
@[go_sem] theorem ty_aggT27 : aggT Try.prog 27 = some 3 := by kernel_rfl
@[go_sem] theorem ty_zeroC27 : zeroC Try.prog 27 = some #[.bool false, .slice none 0 0, .slice none 0 0] := by kernel_rfl
@[go_sem] theorem ty_fldO27_0 : fldO Try.prog 27 0 = some (26, 0) := by kernel_rfl
@[go_sem] theorem ty_fldO27_1 : fldO Try.prog 27 1 = some (24, 2) := by kernel_rfl
@[go_sem] theorem ty_stZ27 : stZ Try.prog 27 = some (#[.bool false, .slice none 0 0, .slice none 0 0], [(0, 2), (2, 1)]) := by kernel_rfl
@[go_sem] theorem ty_size27 : (Try.prog.info? 27).map (·.size) = some 3 := by kernel_rfl
@[go_sem] theorem ty_isStr28 : isStr Try.prog 28 = false := by kernel_rfl
@[go_sem] theorem ty_intK28 : intK Try.prog 28 = none := by kernel_rfl
@[go_sem] theorem ty_aggT28 : aggT Try.prog 28 = some 3 := by kernel_rfl
@[go_sem] theorem ty_zeroC28 : zeroC Try.prog 28 = some #[.bool false, .slice none 0 0, .slice none 0 0] := by kernel_rfl
@[go_sem] theorem ty_fldO28_0 : fldO Try.prog 28 0 = some (26, 0) := by kernel_rfl
@[go_sem] theorem ty_fldO28_1 : fldO Try.prog 28 1 = some (24, 2) := by kernel_rfl
@[go_sem] theorem ty_stZ28 : stZ Try.prog 28 = some (#[.bool false, .slice none 0 0, .slice none 0 0], [(0, 2), (2, 1)]) := by kernel_rfl
@[go_sem] theorem ty_size28 : (Try.prog.info? 28).map (·.size) = some 3 := by kernel_rfl
@[go_sem] theorem ty_isStr29 : isStr Try.prog 29 = false := by kernel_rfl
@[go_sem] theorem ty_intK29 : intK Try.prog 29 = none := by kernel_rfl
@[go_sem] theorem ty_aggT29 : aggT Try.prog 29 = some 5 := by kernel_rfl
@[go_sem] theorem ty_zeroC29 : zeroC Try.prog 29 = some #[.int .i64 0, .slice none 0 0, .bool false, .slice none 0 0, .slice none 0 0] := by kernel_rfl
@[go_sem] theorem ty_fldO29_0 : fldO Try.prog 29 0 = some (3, 0) := by kernel_rfl
@[go_sem] theorem ty_fldO29_1 : fldO Try.prog 29 1 = some (22, 1) := by kernel_rfl
@[go_sem] theorem ty_fldO29_2 : fldO Try.prog 29 2 = some (28, 2) := by kernel_rfl
@[go_sem] theorem ty_stZ29 : stZ Try.prog 29 = some (#[.int .i64 0, .slice none 0 0, .bool false, .slice none 0 0, .slice none 0 0], [(0, 1), (1, 1), (2, 3)]) := by kernel_rfl
@[go_sem] theorem ty_size29 : (Try.prog.info? 29).map (·.size) = some 5 := by kernel_rfl
@[go_sem] theorem ty_isStr30 : isStr Try.prog 30 = false := by kernel_rfl
@[go_sem] theorem ty_intK30 : intK Try.prog 30 = none := by kernel_rfl
@[go_sem] theorem ty_aggT30 : aggT Try.prog 30 = some 5 := by kernel_rfl
@[go_sem] theorem ty_zeroC30 : zeroC Try.prog 30 = some #[.int .i64 0, .slice none 0 0, .bool false, .slice none 0 0, .slice none 0 0] := by kernel_rfl
@[go_sem] theorem ty_fldO30_0 : fldO Try.prog 30 0 = some (3, 0) := by kernel_rfl
@[go_sem] theorem ty_fldO30_1 : fldO Try.prog 30 1 = some (22, 1) := by kernel_rfl
@[go_sem] theorem ty_fldO30_2 : fldO Try.prog 30 2 = some (28, 2) := by kernel_rfl
@[go_sem] theorem ty_stZ30 : stZ Try.prog 30 = some (#[.int .i64 0, .slice none 0 0, .bool false, .slice none 0 0, .slice none 0 0], [(0, 1), (1, 1), (2, 3)]) := by kernel_rfl
@[go_sem] theorem ty_size30 : (Try.prog.info? 30).map (·.size) = some 5 := by kernel_rfl
@[go_sem] theorem ty_isStr32 : isStr Try.prog 32 = false := by kernel_rfl
@[go_sem] theorem ty_intK32 : intK Try.prog 32 = some .i64 := by kernel_rfl
@[go_sem] theorem ty_aggT32 : aggT Try.prog 32 = none := by kernel_rfl
@[go_sem] theorem ty_zeroC32 : zeroC Try.prog 32 = some #[.int .i64 0] := by kernel_rfl
@[go_sem] theorem ty_size32 : (Try.prog.info? 32).map (·.size) = some 1 := by kernel_rfl
@[go_sem] theorem ty_isStr35 : isStr Try.prog 35 = false := by kernel_rfl
@[go_sem] theorem ty_intK35 : intK Try.prog 35 = none := by kernel_rfl
@[go_sem] theorem ty_aggT35 : aggT Try.prog 35 = none := by kernel_rfl
@[go_sem] theorem ty_zeroC35 : zeroC Try.prog 35 = some #[.slice none 0 0] := by kernel_rfl
@[go_sem] theorem ty_slE35 : slE Try.prog 35 = some 1 := by kernel_rfl
@[go_sem] theorem ty_slZ35 : slZ Try.prog 35 = some (9, 1, #[.string { data := #[] }]) := by kernel_rfl
@[go_sem] theorem ty_size35 : (Try.prog.info? 35).map (·.size) = some 1 := by kernel_rfl
@[go_sem] theorem ty_isStr39 : isStr Try.prog 39 = false := by kernel_rfl
@[go_sem] theorem ty_intK39 : intK Try.prog 39 = none := by kernel_rfl
@[go_sem] theorem ty_aggT39 : aggT Try.prog 39 = none := by kernel_rfl
@[go_sem] theorem ty_zeroC39 : zeroC Try.prog 39 = some #[.slice none 0 0] := by kernel_rfl
@[go_sem] theorem ty_slE39 : slE Try.prog 39 = some 6 := by kernel_rfl
@[go_sem] theorem ty_slZ39 : slZ Try.prog 39 = some (41, 6, #[.bool false, .slice none 0 0, .slice none 0 0, .bool false, .slice none 0 0, .slice none 0 0]) := by kernel_rfl
@[go_sem] theorem ty_size39 : (Try.prog.info? 39).map (·.size) = some 1 := by kernel_rfl
@[go_sem] theorem ty_isStr40 : isStr Try.prog 40 = false := by kernel_rfl
@[go_sem] theorem ty_intK40 : intK Try.prog 40 = none := by kernel_rfl
@[go_sem] theorem ty_aggT40 : aggT Try.prog 40 = some 6 := by kernel_rfl
@[go_sem] theorem ty_zeroC40 : zeroC Try.prog 40 = some #[.bool false, .slice none 0 0, .slice none 0 0, .bool false, .slice none 0 0, .slice none 0 0] := by kernel_rfl
@[go_sem] theorem ty_fldO40_0 : fldO Try.prog 40 0 = some (28, 0) := by kernel_rfl
@[go_sem] theorem ty_fldO40_1 : fldO Try.prog 40 1 = some (28, 3) := by kernel_rfl
@[go_sem] theorem ty_stZ40 : stZ Try.prog 40 = some (#[.bool false, .slice none 0 0, .slice none 0 0, .bool false, .slice none 0 0, .slice none 0 0], [(0, 3), (3, 3)]) := by kernel_rfl
@[go_sem] theorem ty_size40 : (Try.prog.info? 40).map (·.size) = some 6 := by kernel_rfl
@[go_sem] theorem ty_isStr41 : isStr Try.prog 41 = false := by kernel_rfl
@[go_sem] theorem ty_intK41 : intK Try.prog 41 = none := by kernel_rfl
@[go_sem] theorem ty_aggT41 : aggT Try.prog 41 = some 6 := by kernel_rfl
@[go_sem] theorem ty_zeroC41 : zeroC Try.prog 41 = some #[.bool false, .slice none 0 0, .slice none 0 0, .bool false, .slice none 0 0, .slice none 0 0] := by kernel_rfl
@[go_sem] theorem ty_fldO41_0 : fldO Try.prog 41 0 = some (28, 0) := by kernel_rfl
@[go_sem] theorem ty_fldO41_1 : fldO Try.prog 41 1 = some (28, 3) := by kernel_rfl
@[go_sem] theorem ty_stZ41 : stZ Try.prog 41 = some (#[.bool false, .slice none 0 0, .slice none 0 0, .bool false, .slice none 0 0, .slice none 0 0], [(0, 3), (3, 3)]) := by kernel_rfl
@[go_sem] theorem ty_size41 : (Try.prog.info? 41).map (·.size) = some 6 := by kernel_rfl
@[go_sem] theorem ty_isStr42 : isStr Try.prog 42 = false := by kernel_rfl
@[go_sem] theorem ty_intK42 : intK Try.prog 42 = none := by kernel_rfl
@[go_sem] theorem ty_aggT42 : aggT Try.prog 42 = some 15 := by kernel_rfl
@[go_sem] theorem ty_zeroC42 : zeroC Try.prog 42 = some #[.bool false, .slice none 0 0, .slice none 0 0, .bool false, .slice none 0 0, .slice none 0 0, .bool false, .slice none 0 0, .slice none 0 0, .bool false, .slice none 0 0, .slice none 0 0, .bool false, .slice none 0 0, .slice none 0 0] := by kernel_rfl
@[go_sem] theorem ty_fldO42_0 : fldO Try.prog 42 0 = some (41, 0) := by kernel_rfl
@[go_sem] theorem ty_fldO42_1 : fldO Try.prog 42 1 = some (41, 6) := by kernel_rfl
@[go_sem] theorem ty_fldO42_2 : fldO Try.prog 42 2 = some (28, 12) := by kernel_rfl
@[go_sem] theorem ty_stZ42 : stZ Try.prog 42 = some (#[.bool false, .slice none 0 0, .slice none 0 0, .bool false, .slice none 0 0, .slice none 0 0, .bool false, .slice none 0 0, .slice none 0 0, .bool false, .slice none 0 0, .slice none 0 0, .bool false, .slice none 0 0, .slice none 0 0], [(0, 6), (6, 6), (12, 3)]) := by kernel_rfl
@[go_sem] theorem ty_size42 : (Try.prog.info? 42).map (·.size) = some 15 := by kernel_rfl
@[go_sem] theorem ty_isStr43 : isStr Try.prog 43 = false := by kernel_rfl
@[go_sem] theorem ty_intK43 : intK Try.prog 43 = none := by kernel_rfl
@[go_sem] theorem ty_aggT43 : aggT Try.prog 43 = some 15 := by kernel_rfl
@[go_sem] theorem ty_zeroC43 : zeroC Try.prog 43 = some #[.bool false, .slice none 0 0, .slice none 0 0, .bool false, .slice none 0 0, .slice none 0 0, .bool false, .slice none 0 0, .slice none 0 0, .bool false, .slice none 0 0, .slice none 0 0, .bool false, .slice none 0 0, .slice none 0 0] := by kernel_rfl
@[go_sem] theorem ty_fldO43_0 : fldO Try.prog 43 0 = some (41, 0) := by kernel_rfl
@[go_sem] theorem ty_fldO43_1 : fldO Try.prog 43 1 = some (41, 6) := by kernel_rfl
@[go_sem] theorem ty_fldO43_2 : fldO Try.prog 43 2 = some (28, 12) := by kernel_rfl
@[go_sem] theorem ty_stZ43 : stZ Try.prog 43 = some (#[.bool false, .slice none 0 0, .slice none 0 0, .bool false, .slice none 0 0, .slice none 0 0, .bool false, .slice none 0 0, .slice none 0 0, .bool false, .slice none 0 0, .slice none 0 0, .bool false, .slice none 0 0, .slice none 0 0], [(0, 6), (6, 6), (12, 3)]) := by kernel_rfl
@[go_sem] theorem ty_size43 : (Try.prog.info? 43).map (·.size) = some 15 := by kernel_rfl
@[go_sem] theorem ty_isStr53 : isStr Try.prog 53 = false := by kernel_rfl
@[go_sem] theorem ty_intK53 : intK Try.prog 53 = none := by kernel_rfl
@[go_sem] theorem ty_aggT53 : aggT Try.prog 53 = some 24 := by kernel_rfl
@[go_sem] theorem ty_zeroC53 : zeroC Try.prog 53 = some #[.bool false, .slice none 0 0, .slice none 0 0, .bool false, .slice none 0 0, .slice none 0 0, .bool false, .slice none 0 0, .slice none 0 0, .bool false, .slice none 0 0, .slice none 0 0, .bool false, .slice none 0 0, .slice none 0 0, .bool false, .slice none 0 0, .slice none 0 0, .bool false, .slice none 0 0, .slice none 0 0, .bool false, .slice none 0 0, .slice none 0 0] := by kernel_rfl
@[go_sem] theorem ty_isStr57 : isStr Try.prog 57 = false := by kernel_rfl
@[go_sem] theorem ty_intK57 : intK Try.prog 57 = none := by kernel_rfl
@[go_sem] theorem ty_aggT57 : aggT Try.prog 57 = some 18 := by kernel_rfl
@[go_sem] theorem ty_zeroC57 : zeroC Try.prog 57 = some #[.bool false, .slice none 0 0, .slice none 0 0, .bool false, .slice none 0 0, .slice none 0 0, .bool false, .slice none 0 0, .slice none 0 0, .bool false, .slice none 0 0, .slice none 0 0, .bool false, .slice none 0 0, .slice none 0 0, .bool false, .slice none 0 0, .slice none 0 0] := by kernel_rfl
@[go_sem] theorem ty_isStr58 : isStr Try.prog 58 = false := by kernel_rfl
@[go_sem] theorem ty_intK58 : intK Try.prog 58 = none := by kernel_rfl
@[go_sem] theorem ty_aggT58 : aggT Try.prog 58 = some 9 := by kernel_rfl
@[go_sem] theorem ty_zeroC58 : zeroC Try.prog 58 = some #[.bool false, .slice none 0 0, .slice none 0 0, .bool false, .slice none 0 0, .slice none 0 0, .bool false, .slice none 0 0, .slice none 0 0] := by kernel_rfl
@[go_sem] theorem ty_isStr72 : isStr Try.prog 72 = false := by kernel_rfl
@[go_sem] theorem ty_intK72 : intK Try.prog 72 = none := by kernel_rfl
@[go_sem] theorem ty_aggT72 : aggT Try.prog 72 = none := by kernel_rfl
@[go_sem] theorem ty_zeroC72 : zeroC Try.prog 72 = some #[.slice none 0 0] := by kernel_rfl
@[go_sem] theorem ty_slE72 : slE Try.prog 72 = some 3 := by kernel_rfl
@[go_sem] theorem ty_slZ72 : slZ Try.prog 72 = some (28, 3, #[.bool false, .slice none 0 0, .slice none 0 0]) := by kernel_rfl
@[go_sem] theorem ty_size72 : (Try.prog.info? 72).map (·.size) = some 1 := by kernel_rfl
@[go_sem] theorem ty_isStr75 : isStr Try.prog 75 = false := by kernel_rfl
@[go_sem] theorem ty_intK75 : intK Try.prog 75 = none := by kernel_rfl
@[go_sem] theorem ty_aggT75 : aggT Try.prog 75 = none := by kernel_rfl
@[go_sem] theorem ty_zeroC75 : zeroC Try.prog 75 = some #[.slice none 0 0] := by kernel_rfl
@[go_sem] theorem ty_slE75 : slE Try.prog 75 = some 1 := by kernel_rfl
@[go_sem] theorem ty_slZ75 : slZ Try.prog 75 = some (4, 1, #[.bool false]) := by kernel_rfl
@[go_sem] theorem ty_size75 : (Try.prog.info? 75).map (·.size) = some 1 := by kernel_rfl
@[go_sem] theorem ty_isStr77 : isStr Try.prog 77 = false := by kernel_rfl
@[go_sem] theorem ty_intK77 : intK Try.prog 77 = none := by kernel_rfl
@[go_sem] theorem ty_aggT77 : aggT Try.prog 77 = some 6 := by kernel_rfl
@[go_sem] theorem ty_zeroC77 : zeroC Try.prog 77 = some #[.bool false, .slice none 0 0, .slice none 0 0, .bool false, .slice none 0 0, .slice none 0 0] := by kernel_rfl
@[go_sem] theorem ty_isStr78 : isStr Try.prog 78 = false := by kernel_rfl
@[go_sem] theorem ty_intK78 : intK Try.prog 78 = none := by kernel_rfl
@[go_sem] theorem ty_aggT78 : aggT Try.prog 78 = some 6 := by kernel_rfl
@[go_sem] theorem ty_zeroC78 : zeroC Try.prog 78 = some #[.bool false, .slice none 0 0, .slice none 0 0, .bool false, .slice none 0 0, .slice none 0 0] := by kernel_rfl
@[go_sem] theorem ty_isStr88 : isStr Try.prog 88 = false := by kernel_rfl
@[go_sem] theorem ty_intK88 : intK Try.prog 88 = some .u16 := by kernel_rfl
@[go_sem] theorem ty_aggT88 : aggT Try.prog 88 = none := by kernel_rfl
@[go_sem] theorem ty_zeroC88 : zeroC Try.prog 88 = some #[.int .u16 0] := by kernel_rfl
@[go_sem] theorem ty_size88 : (Try.prog.info? 88).map (·.size) = some 1 := by kernel_rfl
@[go_sem] theorem ty_isStr93 : isStr Try.prog 93 = false := by kernel_rfl
@[go_sem] theorem ty_intK93 : intK Try.prog 93 = some .u64 := by kernel_rfl
@[go_sem] theorem ty_aggT93 : aggT Try.prog 93 = none := by kernel_rfl
@[go_sem] theorem ty_zeroC93 : zeroC Try.prog 93 = some #[.int .u64 0] := by kernel_rfl
@[go_sem] theorem ty_size93 : (Try.prog.info? 93).map (·.size) = some 1 := by kernel_rfl
@[go_sem] theorem ty_isStr99 : isStr Try.prog 99 = false := by kernel_rfl
@[go_sem] theorem ty_intK99 : intK Try.prog 99 = none := by kernel_rfl
@[go_sem] theorem ty_aggT99 : aggT Try.prog 99 = none := by kernel_rfl
@[go_sem] theorem ty_zeroC99 : zeroC Try.prog 99 = some #[.pointer none] := by kernel_rfl
@[go_sem] theorem ty_size99 : (Try.prog.info? 99).map (·.size) = some 1 := by kernel_rfl
@[go_sem] theorem ty_isStr100 : isStr Try.prog 100 = false := by kernel_rfl
@[go_sem] theorem ty_intK100 : intK Try.prog 100 = none := by kernel_rfl
@[go_sem] theorem ty_aggT100 : aggT Try.prog 100 = none := by kernel_rfl
@[go_sem] theorem ty_zeroC100 : zeroC Try.prog 100 = some #[.slice none 0 0] := by kernel_rfl
@[go_sem] theorem ty_slE100 : slE Try.prog 100 = some 1 := by kernel_rfl
@[go_sem] theorem ty_slZ100 : slZ Try.prog 100 = some (5, 1, #[.int .u8 0]) := by kernel_rfl
@[go_sem] theorem ty_size100 : (Try.prog.info? 100).map (·.size) = some 1 := by kernel_rfl
@[go_sem] theorem ty_isStr101 : isStr Try.prog 101 = false := by kernel_rfl
@[go_sem] theorem ty_intK101 : intK Try.prog 101 = none := by kernel_rfl
@[go_sem] theorem ty_aggT101 : aggT Try.prog 101 = some 2 := by kernel_rfl
@[go_sem] theorem ty_zeroC101 : zeroC Try.prog 101 = some #[.pointer none, .slice none 0 0] := by kernel_rfl
@[go_sem] theorem ty_fldO101_0 : fldO Try.prog 101 0 = some (99, 0) := by kernel_rfl
@[go_sem] theorem ty_fldO101_1 : fldO Try.prog 101 1 = some (100, 1) := by kernel_rfl
@[go_sem] theorem ty_stZ101 : stZ Try.prog 101 = some (#[.pointer none, .slice none 0 0], [(0, 1), (1, 1)]) := by kernel_rfl
@[go_sem] theorem ty_size101 : (Try.prog.info? 101).map (·.size) = some 2 := by kernel_rfl
@[go_sem] theorem ty_isStr102 : isStr Try.prog 102 = false := by kernel_rfl
@[go_sem] theorem ty_intK102 : intK Try.prog 102 = none := by kernel_rfl
@[go_sem] theorem ty_aggT102 : aggT Try.prog 102 = some 2 := by kernel_rfl
@[go_sem] theorem ty_zeroC102 : zeroC Try.prog 102 = some #[.pointer none, .slice none 0 0] := by kernel_rfl
@[go_sem] theorem ty_fldO102_0 : fldO Try.prog 102 0 = some (99, 0) := by kernel_rfl
@[go_sem] theorem ty_fldO102_1 : fldO Try.prog 102 1 = some (100, 1) := by kernel_rfl
@[go_sem] theorem ty_stZ102 : stZ Try.prog 102 = some (#[.pointer none, .slice none 0 0], [(0, 1), (1, 1)]) := by kernel_rfl
@[go_sem] theorem ty_size102 : (Try.prog.info? 102).map (·.size) = some 2 := by kernel_rfl
@[go_sem] theorem ty_isStr116 : isStr Try.prog 116 = false := by kernel_rfl
@[go_sem] theorem ty_intK116 : intK Try.prog 116 = none := by kernel_rfl
@[go_sem] theorem ty_aggT116 : aggT Try.prog 116 = some 2 := by kernel_rfl
@[go_sem] theorem ty_zeroC116 : zeroC Try.prog 116 = some #[.int .i64 0, .int .u16 0] := by kernel_rfl
@[go_sem] theorem ty_fldO116_0 : fldO Try.prog 116 0 = some (3, 0) := by kernel_rfl
@[go_sem] theorem ty_fldO116_1 : fldO Try.prog 116 1 = some (88, 1) := by kernel_rfl
@[go_sem] theorem ty_stZ116 : stZ Try.prog 116 = some (#[.int .i64 0, .int .u16 0], [(0, 1), (1, 1)]) := by kernel_rfl
@[go_sem] theorem ty_size116 : (Try.prog.info? 116).map (·.size) = some 2 := by kernel_rfl
@[go_sem] theorem ty_isStr117 : isStr Try.prog 117 = false := by kernel_rfl
@[go_sem] theorem ty_intK117 : intK Try.prog 117 = none := by kernel_rfl
@[go_sem] theorem ty_aggT117 : aggT Try.prog 117 = some 2 := by kernel_rfl
@[go_sem] theorem ty_zeroC117 : zeroC Try.prog 117 = some #[.int .i64 0, .int .u16 0] := by kernel_rfl
@[go_sem] theorem ty_fldO117_0 : fldO Try.prog 117 0 = some (3, 0) := by kernel_rfl
@[go_sem] theorem ty_fldO117_1 : fldO Try.prog 117 1 = some (88, 1) := by kernel_rfl
@[go_sem] theorem ty_stZ117 : stZ Try.prog 117 = some (#[.int .i64 0, .int .u16 0], [(0, 1), (1, 1)]) := by kernel_rfl
@[go_sem] theorem ty_size117 : (Try.prog.info? 117).map (·.size) = some 2 := by kernel_rfl
@[go_sem] theorem ty_isStr128 : isStr Try.prog 128 = false := by kernel_rfl
@[go_sem] theorem ty_intK128 : intK Try.prog 128 = none := by kernel_rfl
@[go_sem] theorem ty_aggT128 : aggT Try.prog 128 = none := by kernel_rfl
@[go_sem] theorem ty_zeroC128 : zeroC Try.prog 128 = some #[.pointer none] := by kernel_rfl
@[go_sem] theorem ty_size128 : (Try.prog.info? 128).map (·.size) = some 1 := by kernel_rfl
@[go_sem] theorem ty_isStr138 : isStr Try.prog 138 = false := by kernel_rfl
@[go_sem] theorem ty_intK138 : intK Try.prog 138 = some .u32 := by kernel_rfl
@[go_sem] theorem ty_aggT138 : aggT Try.prog 138 = none := by kernel_rfl
@[go_sem] theorem ty_zeroC138 : zeroC Try.prog 138 = some #[.int .u32 0] := by kernel_rfl
@[go_sem] theorem ty_size138 : (Try.prog.info? 138).map (·.size) = some 1 := by kernel_rfl
@[go_sem] theorem ty_isStr139 : isStr Try.prog 139 = false := by kernel_rfl
@[go_sem] theorem ty_intK139 : intK Try.prog 139 = some .u64 := by kernel_rfl
@[go_sem] theorem ty_aggT139 : aggT Try.prog 139 = none := by kernel_rfl
@[go_sem] theorem ty_zeroC139 : zeroC Try.prog 139 = some #[.int .u64 0] := by kernel_rfl
@[go_sem] theorem ty_size139 : (Try.prog.info? 139).map (·.size) = some 1 := by kernel_rfl
@[go_sem] theorem ty_isStr149 : isStr Try.prog 149 = false := by kernel_rfl
@[go_sem] theorem ty_intK149 : intK Try.prog 149 = none := by kernel_rfl
@[go_sem] theorem ty_aggT149 : aggT Try.prog 149 = none := by kernel_rfl
@[go_sem] theorem ty_zeroC149 : zeroC Try.prog 149 = some #[.slice none 0 0] := by kernel_rfl
@[go_sem] theorem ty_slE149 : slE Try.prog 149 = some 2 := by kernel_rfl
@[go_sem] theorem ty_slZ149 : slZ Try.prog 149 = some (26, 2, #[.bool false, .slice none 0 0]) := by kernel_rfl
@[go_sem] theorem ty_size149 : (Try.prog.info? 149).map (·.size) = some 1 := by kernel_rfl
theorem ty_bytes2 : (Try.prog.info? 2).map (·.bytes) = some 8 := by kernel_rfl
theorem ty_bytes3 : (Try.prog.info? 3).map (·.bytes) = some 8 := by kernel_rfl
theorem ty_bytes4 : (Try.prog.info? 4).map (·.bytes) = some 1 := by kernel_rfl
theorem ty_bytes5 : (Try.prog.info? 5).map (·.bytes) = some 1 := by kernel_rfl
theorem ty_bytes9 : (Try.prog.info? 9).map (·.bytes) = some 16 := by kernel_rfl
theorem ty_bytes12 : (Try.prog.info? 12).map (·.bytes) = some 8 := by kernel_rfl
theorem ty_bytes13 : (Try.prog.info? 13).map (·.bytes) = some 24 := by kernel_rfl
theorem ty_bytes21 : (Try.prog.info? 21).map (·.bytes) = some 4 := by kernel_rfl
theorem ty_bytes22 : (Try.prog.info? 22).map (·.bytes) = some 24 := by kernel_rfl
theorem ty_bytes23 : (Try.prog.info? 23).map (·.bytes) = some 24 := by kernel_rfl
theorem ty_bytes24 : (Try.prog.info? 24).map (·.bytes) = some 24 := by kernel_rfl
theorem ty_bytes25 : (Try.prog.info? 25).map (·.bytes) = some 32 := by kernel_rfl
theorem ty_bytes26 : (Try.prog.info? 26).map (·.bytes) = some 32 := by kernel_rfl
theorem ty_bytes27 : (Try.prog.info? 27).map (·.bytes) = some 56 := by kernel_rfl
theorem ty_bytes28 : (Try.prog.info? 28).map (·.bytes) = some 56 := by kernel_rfl
theorem ty_bytes29 : (Try.prog.info? 29).map (·.bytes) = some 88 := by kernel_rfl
theorem ty_bytes30 : (Try.prog.info? 30).map (·.bytes) = some 88 := by kernel_rfl
theorem ty_bytes32 : (Try.prog.info? 32).map (·.bytes) = some 8 := by kernel_rfl
theorem ty_bytes35 : (Try.prog.info? 35).map (·.bytes) = some 24 := by kernel_rfl
theorem ty_bytes39 : (Try.prog.info? 39).map (·.bytes) = some 24 := by kernel_rfl
theorem ty_bytes40 : (Try.prog.info? 40).map (·.bytes) = some 112 := by kernel_rfl
theorem ty_bytes41 : (Try.prog.info? 41).map (·.bytes) = some 112 := by kernel_rfl
theorem ty_bytes42 : (Try.prog.info? 42).map (·.bytes) = some 280 := by kernel_rfl
theorem ty_bytes43 : (Try.prog.info? 43).map (·.bytes) = some 280 := by kernel_rfl
theorem ty_bytes53 : (Try.prog.info? 53).map (·.bytes) = some 448 := by kernel_rfl
theorem ty_bytes57 : (Try.prog.info? 57).map (·.bytes) = some 336 := by kernel_rfl
theorem ty_bytes58 : (Try.prog.info? 58).map (·.bytes) = some 168 := by kernel_rfl
theorem ty_bytes72 : (Try.prog.info? 72).map (·.bytes) = some 24 := by kernel_rfl
theorem ty_bytes75 : (Try.prog.info? 75).map (·.bytes) = some 24 := by kernel_rfl
theorem ty_bytes77 : (Try.prog.info? 77).map (·.bytes) = some 112 := by kernel_rfl
theorem ty_bytes78 : (Try.prog.info? 78).map (·.bytes) = some 112 := by kernel_rfl
theorem ty_bytes88 : (Try.prog.info? 88).map (·.bytes) = some 2 := by kernel_rfl
theorem ty_bytes93 : (Try.prog.info? 93).map (·.bytes) = some 8 := by kernel_rfl
theorem ty_bytes99 : (Try.prog.info? 99).map (·.bytes) = some 8 := by kernel_rfl
theorem ty_bytes100 : (Try.prog.info? 100).map (·.bytes) = some 24 := by kernel_rfl
theorem ty_bytes101 : (Try.prog.info? 101).map (·.bytes) = some 32 := by kernel_rfl
theorem ty_bytes102 : (Try.prog.info? 102).map (·.bytes) = some 32 := by kernel_rfl
theorem ty_bytes105 : (Try.prog.info? 105).map (·.bytes) = some 16 := by kernel_rfl
theorem ty_bytes116 : (Try.prog.info? 116).map (·.bytes) = some 16 := by kernel_rfl
theorem ty_bytes117 : (Try.prog.info? 117).map (·.bytes) = some 16 := by kernel_rfl
theorem ty_bytes128 : (Try.prog.info? 128).map (·.bytes) = some 8 := by kernel_rfl
theorem ty_bytes138 : (Try.prog.info? 138).map (·.bytes) = some 4 := by kernel_rfl
theorem ty_bytes139 : (Try.prog.info? 139).map (·.bytes) = some 8 := by kernel_rfl
theorem ty_bytes149 : (Try.prog.info? 149).map (·.bytes) = some 24 := by kernel_rfl
end Go.Proofs.Ytkampmdekonjmaa
