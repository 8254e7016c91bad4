/- What the tables of types say, for the types that the code names. -/
import Derived.Test.YtifgdiejpglhfaaRows
import Derived.Test.YtifgdiejpglhfaaVE
namespace Go.Proofs.Ytifgdiejpglhfaa
open Go.V
@[go_sem] theorem ty_isStr2 : isStr Try.prog 2 = false := by kernel_rfl
@[go_sem] theorem ty_intK2 : intK Try.prog 2 = some .i64 := by kernel_rfl
@[go_sem] theorem ty_aggT2 : aggT Try.prog 2 = none := by kernel_rfl
@[go_sem] theorem ty_zeroC2 : zeroC Try.prog 2 = some #[.int .i64 0] := by kernel_rfl
@[go_sem] theorem ty_size2 : (Try.prog.info? 2).map (·.size) = some 1 := by kernel_rfl
@[go_sem] theorem ty_isStr3 : isStr Try.prog 3 = false := by kernel_rfl
@[go_sem] theorem ty_intK3 : intK Try.prog 3 = some .i64 := by kernel_rfl
@[go_sem] theorem ty_aggT3 : aggT Try.prog 3 = none := by kernel_rfl
@[go_sem] theorem ty_zeroC3 : zeroC Try.prog 3 = some #[.int .i64 0] := by kernel_rfl
@[go_sem] theorem ty_size3 : (Try.prog.info? 3).map (·.size) = some 1 := by kernel_rfl
@[go_sem] theorem ty_isStr4 : isStr Try.prog 4 = false := by kernel_rfl
@[go_sem] theorem ty_intK4 : intK Try.prog 4 = none := by kernel_rfl
@[go_sem] theorem ty_aggT4 : aggT Try.prog 4 = none := by kernel_rfl
@[go_sem] theorem ty_isBoolT4 : isBoolT Try.prog 4 = true := by kernel_rfl
@[go_sem] theorem ty_zeroC4 : zeroC Try.prog 4 = some #[.bool false] := by kernel_rfl
@[go_sem] theorem ty_size4 : (Try.prog.info? 4).map (·.size) = some 1 := by kernel_rfl
@[go_sem] theorem ty_isStr5 : isStr Try.prog 5 = false := by kernel_rfl
@[go_sem] theorem ty_intK5 : intK Try.prog 5 = some .u8 := by kernel_rfl
@[go_sem] theorem ty_aggT5 : aggT Try.prog 5 = none := by kernel_rfl
@[go_sem] theorem ty_zeroC5 : zeroC Try.prog 5 = some #[.int .u8 0] := by kernel_rfl
@[go_sem] theorem ty_size5 : (Try.prog.info? 5).map (·.size) = some 1 := by kernel_rfl
@[go_sem] theorem ty_isStr9 : isStr Try.prog 9 = true := by kernel_rfl
@[go_sem] theorem ty_intK9 : intK Try.prog 9 = none := by kernel_rfl
@[go_sem] theorem ty_aggT9 : aggT Try.prog 9 = none := by kernel_rfl
@[go_sem] theorem ty_zeroC9 : zeroC Try.prog 9 = some #[.string { data := #[] }] := by kernel_rfl
@[go_sem] theorem ty_size9 : (Try.prog.info? 9).map (·.size) = some 1 := by kernel_rfl
@[go_sem] theorem ty_isStr12 : isStr Try.prog 12 = false := by kernel_rfl
@[go_sem] theorem ty_intK12 : intK Try.prog 12 = some .u64 := by kernel_rfl
@[go_sem] theorem ty_aggT12 : aggT Try.prog 12 = none := by kernel_rfl
@[go_sem] theorem ty_zeroC12 : zeroC Try.prog 12 = some #[.int .u64 0] := by kernel_rfl
@[go_sem] theorem ty_size12 : (Try.prog.info? 12).map (·.size) = some 1 := by kernel_rfl
@[go_sem] theorem ty_isStr13 : isStr Try.prog 13 = false := by kernel_rfl
@[go_sem] theorem ty_intK13 : intK Try.prog 13 = none := by kernel_rfl
@[go_sem] theorem ty_aggT13 : aggT Try.prog 13 = some 2 := by kernel_rfl
@[go_sem] theorem ty_zeroC13 : zeroC Try.prog 13 = some #[.string { data := #[] }, .int .u64 0] := by kernel_rfl
@[go_sem] theorem ty_fldO13_0 : fldO Try.prog 13 0 = some (9, 0) := by kernel_rfl
@[go_sem] theorem ty_fldO13_1 : fldO Try.prog 13 1 = some (12, 1) := by kernel_rfl
@[go_sem] theorem ty_stZ13 : stZ Try.prog 13 = some (#[.string { data := #[] }, .int .u64 0], [(0, 1), (1, 1)]) := by kernel_rfl
@[go_sem] theorem ty_size13 : (Try.prog.info? 13).map (·.size) = some 2 := by kernel_rfl
@[go_sem] theorem ty_isStr21 : isStr Try.prog 21 = false := by kernel_rfl
@[go_sem] theorem ty_intK21 : intK Try.prog 21 = some .i32 := by kernel_rfl
@[go_sem] theorem ty_aggT21 : aggT Try.prog 21 = none := by kernel_rfl
@[go_sem] theorem ty_zeroC21 : zeroC Try.prog 21 = some #[.int .i32 0] := by kernel_rfl
@[go_sem] theorem ty_size21 : (Try.prog.info? 21).map (·.size) = some 1 := by kernel_rfl
@[go_sem] theorem ty_isStr22 : isStr Try.prog 22 = false := by kernel_rfl
@[go_sem] theorem ty_intK22 : intK Try.prog 22 = none := by kernel_rfl
@[go_sem] theorem ty_aggT22 : aggT Try.prog 22 = none := by kernel_rfl
@[go_sem] theorem ty_zeroC22 : zeroC Try.prog 22 = some #[.slice none 0 0] := by kernel_rfl
@[go_sem] theorem ty_slE22 : slE Try.prog 22 = some 1 := by kernel_rfl
@[go_sem] theorem ty_slZ22 : slZ Try.prog 22 = some (83, 1, #[.int .u16 0]) := by kernel_rfl
@[go_sem] theorem ty_size22 : (Try.prog.info? 22).map (·.size) = some 1 := by kernel_rfl
@[go_sem] theorem ty_isStr23 : isStr Try.prog 23 = false := by kernel_rfl
@[go_sem] theorem ty_intK23 : intK Try.prog 23 = none := by kernel_rfl
@[go_sem] theorem ty_aggT23 : aggT Try.prog 23 = none := by kernel_rfl
@[go_sem] theorem ty_zeroC23 : zeroC Try.prog 23 = some #[.slice none 0 0] := by kernel_rfl
@[go_sem] theorem ty_slE23 : slE Try.prog 23 = some 1 := by kernel_rfl
@[go_sem] theorem ty_slZ23 : slZ Try.prog 23 = some (83, 1, #[.int .u16 0]) := by kernel_rfl
@[go_sem] theorem ty_size23 : (Try.prog.info? 23).map (·.size) = some 1 := by kernel_rfl
@[go_sem] theorem ty_isStr24 : isStr Try.prog 24 = false := by kernel_rfl
@[go_sem] theorem ty_intK24 : intK Try.prog 24 = none := by kernel_rfl
@[go_sem] theorem ty_aggT24 : aggT Try.prog 24 = some 2 := by kernel_rfl
@[go_sem] theorem ty_zeroC24 : zeroC Try.prog 24 = some #[.bool false, .slice none 0 0] := by kernel_rfl
@[go_sem] theorem ty_fldO24_0 : fldO Try.prog 24 0 = some (4, 0) := by kernel_rfl
@[go_sem] theorem ty_fldO24_1 : fldO Try.prog 24 1 = some (23, 1) := by kernel_rfl
@[go_sem] theorem ty_stZ24 : stZ Try.prog 24 = some (#[.bool false, .slice none 0 0], [(0, 1), (1, 1)]) := by kernel_rfl
@[go_sem] theorem ty_size24 : (Try.prog.info? 24).map (·.size) = some 2 := by kernel_rfl
@[go_sem] theorem ty_isStr25 : isStr Try.prog 25 = false := by kernel_rfl
@[go_sem] theorem ty_intK25 : intK Try.prog 25 = none := by kernel_rfl
@[go_sem] theorem ty_aggT25 : aggT Try.prog 25 = some 2 := by kernel_rfl
@[go_sem] theorem ty_zeroC25 : zeroC Try.prog 25 = some #[.bool false, .slice none 0 0] := by kernel_rfl
@[go_sem] theorem ty_fldO25_0 : fldO Try.prog 25 0 = some (4, 0) := by kernel_rfl
@[go_sem] theorem ty_fldO25_1 : fldO Try.prog 25 1 = some (23, 1) := by kernel_rfl
@[go_sem] theorem ty_stZ25 : stZ Try.prog 25 = some (#[.bool false, .slice none 0 0], [(0, 1), (1, 1)]) := by kernel_rfl
@[go_sem] theorem ty_size25 : (Try.prog.info? 25).map (·.size) = some 2 := by kernel_rfl
@[go_sem] theorem ty_isStr26 : isStr Try.prog 26 = false := by kernel_rfl
@[go_sem] theorem ty_intK26 : intK Try.prog 26 = none := by kernel_rfl
@[go_sem] theorem ty_aggT26 : aggT Try.prog 26 = some 3 := by kernel_rfl
@[go_sem] theorem ty_zeroC26 : zeroC Try.prog 26 = some #[.bool false, .slice none 0 0, .slice none 0 0] := by kernel_rfl
@[go_sem] theorem ty_fldO26_0 : fldO Try.prog 26 0 = some (25, 0) := by kernel_rfl
@[go_sem] theorem ty_fldO26_1 : fldO Try.prog 26 1 = some (23, 2) := by kernel_rfl
@[go_sem] theorem ty_stZ26 : stZ Try.prog 26 = some (#[.bool false, .slice none 0 0, .slice none 0 0], [(0, 2), (2, 1)]) := by kernel_rfl
@[go_sem] theorem ty_size26 : (Try.prog.info? 26).map (·.size) = some 3 := by kernel_rfl
@[go_sem] theorem ty_isStr27 : isStr Try.prog 27 = false := by kernel_rfl
@[go_sem] theorem ty_intK27 : intK Try.prog 27 = none := by kernel_rfl
@[go_sem] theorem ty_aggT27 : aggT Try.prog 27 = some 3 := by kernel_rfl
@[go_sem] theorem ty_zeroC27 : zeroC Try.prog 27 = some #[.bool false, .slice none 0 0, .slice none 0 0] := by kernel_rfl
@[go_sem] theorem ty_fldO27_0 : fldO Try.prog 27 0 = some (25, 0) := by kernel_rfl
@[go_sem] theorem ty_fldO27_1 : fldO Try.prog 27 1 = some (23, 2) := by kernel_rfl
@[go_sem] theorem ty_stZ27 : stZ Try.prog 27 = some (#[.bool false, .slice none 0 0, .slice none 0 0], [(0, 2), (2, 1)]) := by kernel_rfl
@[go_sem] theorem ty_size27 : (Try.prog.info? 27).map (·.size) = some 3 := by kernel_rfl
@[go_sem] theorem ty_isStr30 : isStr Try.prog 30 = false := by kernel_rfl
@[go_sem] theorem ty_intK30 : intK Try.prog 30 = none := by kernel_rfl
@[go_sem] theorem ty_aggT30 : aggT Try.prog 30 = some 6 := by kernel_rfl
@[go_sem] theorem ty_zeroC30 : zeroC Try.prog 30 = some #[.bool false, .slice none 0 0, .slice none 0 0, .bool false, .slice none 0 0, .slice none 0 0] := by kernel_rfl
@[go_sem] theorem ty_fldO30_0 : fldO Try.prog 30 0 = some (27, 0) := by kernel_rfl
@[go_sem] theorem ty_fldO30_1 : fldO Try.prog 30 1 = some (27, 3) := by kernel_rfl
@[go_sem] theorem ty_stZ30 : stZ Try.prog 30 = some (#[.bool false, .slice none 0 0, .slice none 0 0, .bool false, .slice none 0 0, .slice none 0 0], [(0, 3), (3, 3)]) := by kernel_rfl
@[go_sem] theorem ty_size30 : (Try.prog.info? 30).map (·.size) = some 6 := by kernel_rfl
@[go_sem] theorem ty_isStr31 : isStr Try.prog 31 = false := by kernel_rfl
@[go_sem] theorem ty_intK31 : intK Try.prog 31 = none := by kernel_rfl
@[go_sem] theorem ty_aggT31 : aggT Try.prog 31 = some 6 := by kernel_rfl
@[go_sem] theorem ty_zeroC31 : zeroC Try.prog 31 = some #[.bool false, .slice none 0 0, .slice none 0 0, .bool false, .slice none 0 0, .slice none 0 0] := by kernel_rfl
@[go_sem] theorem ty_fldO31_0 : fldO Try.prog 31 0 = some (27, 0) := by kernel_rfl
@[go_sem] theorem ty_fldO31_1 : fldO Try.prog 31 1 = some (27, 3) := by kernel_rfl
@[go_sem] theorem ty_stZ31 : stZ Try.prog 31 = some (#[.bool false, .slice none 0 0, .slice none 0 0, .bool false, .slice none 0 0, .slice none 0 0], [(0, 3), (3, 3)]) := by kernel_rfl
@[go_sem] theorem ty_size31 : (Try.prog.info? 31).map (·.size) = some 6 := by kernel_rfl
@[go_sem] theorem ty_isStr32 : isStr Try.prog 32 = false := by kernel_rfl
@[go_sem] theorem ty_intK32 : intK Try.prog 32 = some .i64 := by kernel_rfl
@[go_sem] theorem ty_aggT32 : aggT Try.prog 32 = none := by kernel_rfl
@[go_sem] theorem ty_zeroC32 : zeroC Try.prog 32 = some #[.int .i64 0] := by kernel_rfl
@[go_sem] theorem ty_size32 : (Try.prog.info? 32).map (·.size) = some 1 := by kernel_rfl
@[go_sem] theorem ty_isStr40 : isStr Try.prog 40 = false := by kernel_rfl
@[go_sem] theorem ty_intK40 : intK Try.prog 40 = none := by kernel_rfl
@[go_sem] theorem ty_aggT40 : aggT Try.prog 40 = some 18 := by kernel_rfl
@[go_sem] theorem ty_zeroC40 : zeroC Try.prog 40 = some #[.bool false, .slice none 0 0, .slice none 0 0, .bool false, .slice none 0 0, .slice none 0 0, .bool false, .slice none 0 0, .slice none 0 0, .bool false, .slice none 0 0, .slice none 0 0, .bool false, .slice none 0 0, .slice none 0 0, .bool false, .slice none 0 0, .slice none 0 0] := by kernel_rfl
@[go_sem] theorem ty_fldO40_0 : fldO Try.prog 40 0 = some (31, 0) := by kernel_rfl
@[go_sem] theorem ty_fldO40_1 : fldO Try.prog 40 1 = some (31, 6) := by kernel_rfl
@[go_sem] theorem ty_fldO40_2 : fldO Try.prog 40 2 = some (31, 12) := by kernel_rfl
@[go_sem] theorem ty_stZ40 : stZ Try.prog 40 = some (#[.bool false, .slice none 0 0, .slice none 0 0, .bool false, .slice none 0 0, .slice none 0 0, .bool false, .slice none 0 0, .slice none 0 0, .bool false, .slice none 0 0, .slice none 0 0, .bool false, .slice none 0 0, .slice none 0 0, .bool false, .slice none 0 0, .slice none 0 0], [(0, 6), (6, 6), (12, 6)]) := by kernel_rfl
@[go_sem] theorem ty_size40 : (Try.prog.info? 40).map (·.size) = some 18 := by kernel_rfl
@[go_sem] theorem ty_isStr41 : isStr Try.prog 41 = false := by kernel_rfl
@[go_sem] theorem ty_intK41 : intK Try.prog 41 = none := by kernel_rfl
@[go_sem] theorem ty_aggT41 : aggT Try.prog 41 = some 18 := by kernel_rfl
@[go_sem] theorem ty_zeroC41 : zeroC Try.prog 41 = some #[.bool false, .slice none 0 0, .slice none 0 0, .bool false, .slice none 0 0, .slice none 0 0, .bool false, .slice none 0 0, .slice none 0 0, .bool false, .slice none 0 0, .slice none 0 0, .bool false, .slice none 0 0, .slice none 0 0, .bool false, .slice none 0 0, .slice none 0 0] := by kernel_rfl
@[go_sem] theorem ty_fldO41_0 : fldO Try.prog 41 0 = some (31, 0) := by kernel_rfl
@[go_sem] theorem ty_fldO41_1 : fldO Try.prog 41 1 = some (31, 6) := by kernel_rfl
@[go_sem] theorem ty_fldO41_2 : fldO Try.prog 41 2 = some (31, 12) := by kernel_rfl
@[go_sem] theorem ty_stZ41 : stZ Try.prog 41 = some (#[.bool false, .slice none 0 0, .slice none 0 0, .bool false, .slice none 0 0, .slice none 0 0, .bool false, .slice none 0 0, .slice none 0 0, .bool false, .slice none 0 0, .slice none 0 0, .bool false, .slice none 0 0, .slice none 0 0, .bool false, .slice none 0 0, .slice none 0 0], [(0, 6), (6, 6), (12, 6)]) := by kernel_rfl
@[go_sem] theorem ty_size41 : (Try.prog.info? 41).map (·.size) = some 18 := by kernel_rfl
@[go_sem] theorem ty_isStr47 : isStr Try.prog 47 = false := by kernel_rfl
@[go_sem] theorem ty_intK47 : intK Try.prog 47 = none := by kernel_rfl
@[go_sem] theorem ty_aggT47 : aggT Try.prog 47 = some 14 := by kernel_rfl
@[go_sem] theorem ty_zeroC47 : zeroC Try.prog 47 = some #[.bool false, .slice none 0 0, .slice none 0 0, .bool false, .slice none 0 0, .slice none 0 0, .bool false, .slice none 0 0, .slice none 0 0, .bool false, .slice none 0 0, .slice none 0 0, .int .i64 0, .int .i64 0] := by kernel_rfl
@[go_sem] theorem ty_fldO47_0 : fldO Try.prog 47 0 = some (31, 0) := by kernel_rfl
@[go_sem] theorem ty_fldO47_1 : fldO Try.prog 47 1 = some (31, 6) := by kernel_rfl
@[go_sem] theorem ty_fldO47_2 : fldO Try.prog 47 2 = some (3, 12) := by kernel_rfl
@[go_sem] theorem ty_fldO47_3 : fldO Try.prog 47 3 = some (3, 13) := by kernel_rfl
@[go_sem] theorem ty_stZ47 : stZ Try.prog 47 = some (#[.bool false, .slice none 0 0, .slice none 0 0, .bool false, .slice none 0 0, .slice none 0 0, .bool false, .slice none 0 0, .slice none 0 0, .bool false, .slice none 0 0, .slice none 0 0, .int .i64 0, .int .i64 0], [(0, 6), (6, 6), (12, 1), (13, 1)]) := by kernel_rfl
@[go_sem] theorem ty_size47 : (Try.prog.info? 47).map (·.size) = some 14 := by kernel_rfl
@[go_sem] theorem ty_isStr48 : isStr Try.prog 48 = false := by kernel_rfl
@[go_sem] theorem ty_intK48 : intK Try.prog 48 = none := by kernel_rfl
@[go_sem] theorem ty_aggT48 : aggT Try.prog 48 = some 14 := by kernel_rfl
@[go_sem] theorem ty_zeroC48 : zeroC Try.prog 48 = some #[.bool false, .slice none 0 0, .slice none 0 0, .bool false, .slice none 0 0, .slice none 0 0, .bool false, .slice none 0 0, .slice none 0 0, .bool false, .slice none 0 0, .slice none 0 0, .int .i64 0, .int .i64 0] := by kernel_rfl
@[go_sem] theorem ty_fldO48_0 : fldO Try.prog 48 0 = some (31, 0) := by kernel_rfl
@[go_sem] theorem ty_fldO48_1 : fldO Try.prog 48 1 = some (31, 6) := by kernel_rfl
@[go_sem] theorem ty_fldO48_2 : fldO Try.prog 48 2 = some (3, 12) := by kernel_rfl
@[go_sem] theorem ty_fldO48_3 : fldO Try.prog 48 3 = some (3, 13) := by kernel_rfl
@[go_sem] theorem ty_stZ48 : stZ Try.prog 48 = some (#[.bool false, .slice none 0 0, .slice none 0 0, .bool false, .slice none 0 0, .slice none 0 0, .bool false, .slice none 0 0, .slice none 0 0, .bool false, .slice none 0 0, .slice none 0 0, .int .i64 0, .int .i64 0], [(0, 6), (6, 6), (12, 1), (13, 1)]) := by kernel_rfl
@[go_sem] theorem ty_size48 : (Try.prog.info? 48).map (·.size) = some 14 := by kernel_rfl
@[go_sem] theorem ty_isStr57 : isStr Try.prog 57 = false := by kernel_rfl
@[go_sem] theorem ty_intK57 : intK Try.prog 57 = none := by kernel_rfl
@[go_sem] theorem ty_aggT57 : aggT Try.prog 57 = none := by kernel_rfl
@[go_sem] theorem ty_zeroC57 : zeroC Try.prog 57 = some #[.slice none 0 0] := by kernel_rfl
@[go_sem] theorem ty_slE57 : slE Try.prog 57 = some 3 := by kernel_rfl
@[go_sem] theorem ty_slZ57 : slZ Try.prog 57 = some (27, 3, #[.bool false, .slice none 0 0, .slice none 0 0]) := by kernel_rfl
@[go_sem] theorem ty_size57 : (Try.prog.info? 57).map (·.size) = some 1 := by kernel_rfl
@[go_sem] theorem ty_isStr66 : isStr Try.prog 66 = false := by kernel_rfl
@[go_sem] theorem ty_intK66 : intK Try.prog 66 = some .u64 := by kernel_rfl
@[go_sem] theorem ty_aggT66 : aggT Try.prog 66 = none := by kernel_rfl
@[go_sem] theorem ty_zeroC66 : zeroC Try.prog 66 = some #[.int .u64 0] := by kernel_rfl
@[go_sem] theorem ty_size66 : (Try.prog.info? 66).map (·.size) = some 1 := by kernel_rfl
@[go_sem] theorem ty_isStr67 : isStr Try.prog 67 = false := by kernel_rfl
@[go_sem] theorem ty_intK67 : intK Try.prog 67 = none := by kernel_rfl
@[go_sem] theorem ty_aggT67 : aggT Try.prog 67 = none := by kernel_rfl
@[go_sem] theorem ty_zeroC67 : zeroC Try.prog 67 = some #[.slice none 0 0] := by kernel_rfl
@[go_sem] theorem ty_slE67 : slE Try.prog 67 = some 6 := by kernel_rfl
@[go_sem] theorem ty_slZ67 : slZ Try.prog 67 = some (31, 6, #[.bool false, .slice none 0 0, .slice none 0 0, .bool false, .slice none 0 0, .slice none 0 0]) := by kernel_rfl
@[go_sem] theorem ty_size67 : (Try.prog.info? 67).map (·.size) = some 1 := by kernel_rfl
@[go_sem] theorem ty_isStr83 : isStr Try.prog 83 = false := by kernel_rfl
@[go_sem] theorem ty_intK83 : intK Try.prog 83 = some .u16 := by kernel_rfl
@[go_sem] theorem ty_aggT83 : aggT Try.prog 83 = none := by kernel_rfl
@[go_sem] theorem ty_zeroC83 : zeroC Try.prog 83 = some #[.int .u16 0] := by kernel_rfl
@[go_sem] theorem ty_size83 : (Try.prog.info? 83).map (·.size) = some 1 := by kernel_rfl
@[go_sem] theorem ty_isStr93 : isStr Try.prog 93 = false := by kernel_rfl
@[go_sem] theorem ty_intK93 : intK Try.prog 93 = none := by kernel_rfl
@[go_sem] theorem ty_aggT93 : aggT Try.prog 93 = some 2 := by kernel_rfl
@[go_sem] theorem ty_zeroC93 : zeroC Try.prog 93 = some #[.int .i64 0, .int .u16 0] := by kernel_rfl
@[go_sem] theorem ty_fldO93_0 : fldO Try.prog 93 0 = some (3, 0) := by kernel_rfl
@[go_sem] theorem ty_fldO93_1 : fldO Try.prog 93 1 = some (83, 1) := by kernel_rfl
@[go_sem] theorem ty_stZ93 : stZ Try.prog 93 = some (#[.int .i64 0, .int .u16 0], [(0, 1), (1, 1)]) := by kernel_rfl
@[go_sem] theorem ty_size93 : (Try.prog.info? 93).map (·.size) = some 2 := by kernel_rfl
@[go_sem] theorem ty_isStr94 : isStr Try.prog 94 = false := by kernel_rfl
@[go_sem] theorem ty_intK94 : intK Try.prog 94 = none := by kernel_rfl
@[go_sem] theorem ty_aggT94 : aggT Try.prog 94 = some 2 := by kernel_rfl
@[go_sem] theorem ty_zeroC94 : zeroC Try.prog 94 = some #[.int .i64 0, .int .u16 0] := by kernel_rfl
@[go_sem] theorem ty_fldO94_0 : fldO Try.prog 94 0 = some (3, 0) := by kernel_rfl
@[go_sem] theorem ty_fldO94_1 : fldO Try.prog 94 1 = some (83, 1) := by kernel_rfl
@[go_sem] theorem ty_stZ94 : stZ Try.prog 94 = some (#[.int .i64 0, .int .u16 0], [(0, 1), (1, 1)]) := by kernel_rfl
@[go_sem] theorem ty_size94 : (Try.prog.info? 94).map (·.size) = some 2 := by kernel_rfl
@[go_sem] theorem ty_isStr96 : isStr Try.prog 96 = false := by kernel_rfl
@[go_sem] theorem ty_intK96 : intK Try.prog 96 = none := by kernel_rfl
@[go_sem] theorem ty_aggT96 : aggT Try.prog 96 = none := by kernel_rfl
@[go_sem] theorem ty_zeroC96 : zeroC Try.prog 96 = some #[.slice none 0 0] := by kernel_rfl
@[go_sem] theorem ty_slE96 : slE Try.prog 96 = some 2 := by kernel_rfl
@[go_sem] theorem ty_slZ96 : slZ Try.prog 96 = some (25, 2, #[.bool false, .slice none 0 0]) := by kernel_rfl
@[go_sem] theorem ty_size96 : (Try.prog.info? 96).map (·.size) = some 1 := by kernel_rfl
@[go_sem] theorem ty_isStr98 : isStr Try.prog 98 = false := by kernel_rfl
@[go_sem] theorem ty_intK98 : intK Try.prog 98 = some .u32 := by kernel_rfl
@[go_sem] theorem ty_aggT98 : aggT Try.prog 98 = none := by kernel_rfl
@[go_sem] theorem ty_zeroC98 : zeroC Try.prog 98 = some #[.int .u32 0] := by kernel_rfl
@[go_sem] theorem ty_size98 : (Try.prog.info? 98).map (·.size) = some 1 := by kernel_rfl
@[go_sem] theorem ty_isStr99 : isStr Try.prog 99 = false := by kernel_rfl
@[go_sem] theorem ty_intK99 : intK Try.prog 99 = some .u64 := by kernel_rfl
@[go_sem] theorem ty_aggT99 : aggT Try.prog 99 = none := by kernel_rfl
@[go_sem] theorem ty_zeroC99 : zeroC Try.prog 99 = some #[.int .u64 0] := by kernel_rfl
@[go_sem] theorem ty_size99 : (Try.prog.info? 99).map (·.size) = some 1 := by kernel_rfl
@[go_sem] theorem ty_isStr126 : isStr Try.prog 126 = false := by kernel_rfl
@[go_sem] theorem ty_intK126 : intK Try.prog 126 = none := by kernel_rfl
@[go_sem] theorem ty_aggT126 : aggT Try.prog 126 = none := by kernel_rfl
@[go_sem] theorem ty_zeroC126 : zeroC Try.prog 126 = some #[.pointer none] := by kernel_rfl
@[go_sem] theorem ty_size126 : (Try.prog.info? 126).map (·.size) = some 1 := by kernel_rfl
theorem ty_bytes2 : (Try.prog.info? 2).map (·.bytes) = some 8 := by kernel_rfl
theorem ty_bytes3 : (Try.prog.info? 3).map (·.bytes) = some 8 := by kernel_rfl
theorem ty_bytes4 : (Try.prog.info? 4).map (·.bytes) = some 1 := by kernel_rfl
theorem ty_bytes5 : (Try.prog.info? 5).map (·.bytes) = some 1 := by kernel_rfl
theorem ty_bytes9 : (Try.prog.info? 9).map (·.bytes) = some 16 := by kernel_rfl
theorem ty_bytes12 : (Try.prog.info? 12).map (·.bytes) = some 8 := by kernel_rfl
theorem ty_bytes13 : (Try.prog.info? 13).map (·.bytes) = some 24 := by kernel_rfl
theorem ty_bytes21 : (Try.prog.info? 21).map (·.bytes) = some 4 := by kernel_rfl
theorem ty_bytes22 : (Try.prog.info? 22).map (·.bytes) = some 24 := by kernel_rfl
theorem ty_bytes23 : (Try.prog.info? 23).map (·.bytes) = some 24 := by kernel_rfl
theorem ty_bytes24 : (Try.prog.info? 24).map (·.bytes) = some 32 := by kernel_rfl
theorem ty_bytes25 : (Try.prog.info? 25).map (·.bytes) = some 32 := by kernel_rfl
theorem ty_bytes26 : (Try.prog.info? 26).map (·.bytes) = some 56 := by kernel_rfl
theorem ty_bytes27 : (Try.prog.info? 27).map (·.bytes) = some 56 := by kernel_rfl
theorem ty_bytes30 : (Try.prog.info? 30).map (·.bytes) = some 112 := by kernel_rfl
theorem ty_bytes31 : (Try.prog.info? 31).map (·.bytes) = some 112 := by kernel_rfl
theorem ty_bytes32 : (Try.prog.info? 32).map (·.bytes) = some 8 := by kernel_rfl
theorem ty_bytes40 : (Try.prog.info? 40).map (·.bytes) = some 336 := by kernel_rfl
theorem ty_bytes41 : (Try.prog.info? 41).map (·.bytes) = some 336 := by kernel_rfl
theorem ty_bytes47 : (Try.prog.info? 47).map (·.bytes) = some 240 := by kernel_rfl
theorem ty_bytes48 : (Try.prog.info? 48).map (·.bytes) = some 240 := by kernel_rfl
theorem ty_bytes57 : (Try.prog.info? 57).map (·.bytes) = some 24 := by kernel_rfl
theorem ty_bytes66 : (Try.prog.info? 66).map (·.bytes) = some 8 := by kernel_rfl
theorem ty_bytes67 : (Try.prog.info? 67).map (·.bytes) = some 24 := by kernel_rfl
theorem ty_bytes83 : (Try.prog.info? 83).map (·.bytes) = some 2 := by kernel_rfl
theorem ty_bytes93 : (Try.prog.info? 93).map (·.bytes) = some 16 := by kernel_rfl
theorem ty_bytes94 : (Try.prog.info? 94).map (·.bytes) = some 16 := by kernel_rfl
theorem ty_bytes96 : (Try.prog.info? 96).map (·.bytes) = some 24 := by kernel_rfl
theorem ty_bytes98 : (Try.prog.info? 98).map (·.bytes) = some 4 := by kernel_rfl
theorem ty_bytes99 : (Try.prog.info? 99).map (·.bytes) = some 8 := by kernel_rfl
theorem ty_bytes126 : (Try.prog.info? 126).map (·.bytes) = some 8 := by kernel_rfl
end Go.Proofs.Ytifgdiejpglhfaa
