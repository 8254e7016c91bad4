/- What the tables of types say, for the types that the code names. -/
import Derived.Test.YtnfchljiicniiaaRows
import Derived.Test.YtnfchljiicniiaaVE
namespace Go.Proofs.Ytnfchljiicniiaa
open Go.V
@[go_sem] theorem ty_isStr2 : isStr Try.prog 2 = false := by kernel_rfl
@[go_sem] theorem ty_intK2 : intK Try.prog 2 = some .i64 := by kernel_rfl
@[go_sem] theorem ty_aggT2 : aggT Try.prog 2 = none := by kernel_rfl
@[go_sem] theorem ty_zeroC2 : zeroC Try.prog 2 = some #[.int .i64 0] := by kernel_rfl
@[go_sem] theorem ty_size2 : (Try.prog.info? 2).map (·.size) = some 1 := by kernel_rfl
@[go_sem] theorem ty_isStr3 : isStr Try.prog 3 = false := by kernel_rfl
@[go_sem] theorem ty_intK3 : intK Try.prog 3 = some .i64 := by kernel_rfl
@[go_sem] theorem ty_aggT3 : aggT Try.prog 3 = none := by kernel_rfl
@[go_sem] theorem ty_zeroC3 : zeroC Try.prog 3 = some #[.int .i64 0] := by kernel_rfl
@[go_sem] theorem ty_size3 : (Try.prog.info? 3).map (·.size) = some 1 := by kernel_rfl
@[go_sem] theorem ty_isStr4 : isStr Try.prog 4 = false := by kernel_rfl
@[go_sem] theorem ty_intK4 : intK Try.prog 4 = none := by kernel_rfl
@[go_sem] theorem ty_aggT4 : aggT Try.prog 4 = none := by kernel_rfl
@[go_sem] theorem ty_isBoolT4 : isBoolT Try.prog 4 = true := by kernel_rfl
@[go_sem] theorem ty_zeroC4 : zeroC Try.prog 4 = some #[.bool false] := by kernel_rfl
@[go_sem] theorem ty_size4 : (Try.prog.info? 4).map (·.size) = some 1 := by kernel_rfl
@[go_sem] theorem ty_isStr5 : isStr Try.prog 5 = false := by kernel_rfl
@[go_sem] theorem ty_intK5 : intK Try.prog 5 = some .u8 := by kernel_rfl
@[go_sem] theorem ty_aggT5 : aggT Try.prog 5 = none := by kernel_rfl
@[go_sem] theorem ty_zeroC5 : zeroC Try.prog 5 = some #[.int .u8 0] := by kernel_rfl
@[go_sem] theorem ty_size5 : (Try.prog.info? 5).map (·.size) = some 1 := by kernel_rfl
@[go_sem] theorem ty_isStr9 : isStr Try.prog 9 = true := by kernel_rfl
@[go_sem] theorem ty_intK9 : intK Try.prog 9 = none := by kernel_rfl
@[go_sem] theorem ty_aggT9 : aggT Try.prog 9 = none := by kernel_rfl
@[go_sem] theorem ty_zeroC9 : zeroC Try.prog 9 = some #[.string { data := #[] }] := by kernel_rfl
@[go_sem] theorem ty_size9 : (Try.prog.info? 9).map (·.size) = some 1 := by kernel_rfl
@[go_sem] theorem ty_isStr12 : isStr Try.prog 12 = false := by kernel_rfl
@[go_sem] theorem ty_intK12 : intK Try.prog 12 = some .u64 := by kernel_rfl
@[go_sem] theorem ty_aggT12 : aggT Try.prog 12 = none := by kernel_rfl
@[go_sem] theorem ty_zeroC12 : zeroC Try.prog 12 = some #[.int .u64 0] := by kernel_rfl
@[go_sem] theorem ty_size12 : (Try.prog.info? 12).map (·.size) = some 1 := by kernel_rfl
@[go_sem] theorem ty_isStr13 : isStr Try.prog 13 = false := by kernel_rfl
@[go_sem] theorem ty_intK13 : intK Try.prog 13 = none := by kernel_rfl
@[go_sem] theorem ty_aggT13 : aggT Try.prog 13 = some 2 := by kernel_rfl
@[go_sem] theorem ty_zeroC13 : zeroC Try.prog 13 = some #[.string { data := #[] }, .int .u64 0] := by kernel_rfl
@[go_sem] theorem ty_fldO13_0 : fldO Try.prog 13 0 = some (9, 0) := by kernel_rfl
@[go_sem] theorem ty_fldO13_1 : fldO Try.prog 13 1 = some (12, 1) := by kernel_rfl
@[go_sem] theorem ty_stZ13 : stZ Try.prog 13 = some (#[.string { data := #[] }, .int .u64 0], [(0, 1), (1, 1)]) := by kernel_rfl
@[go_sem] theorem ty_size13 : (Try.prog.info? 13).map (·.size) = some 2 := by kernel_rfl
@[go_sem] theorem ty_isStr21 : isStr Try.prog 21 = false := by kernel_rfl
@[go_sem] theorem ty_intK21 : intK Try.prog 21 = some .i32 := by kernel_rfl
@[go_sem] theorem ty_aggT21 : aggT Try.prog 21 = none := by kernel_rfl
@[go_sem] theorem ty_zeroC21 : zeroC Try.prog 21 = some #[.int .i32 0] := by kernel_rfl
@[go_sem] theorem ty_size21 : (Try.prog.info? 21).map (·.size) = some 1 := by kernel_rfl
@[go_sem] theorem ty_isStr22 : isStr Try.prog 22 = false := by kernel_rfl
@[go_sem] theorem ty_intK22 : intK Try.prog 22 = none := by kernel_rfl
@[go_sem] theorem ty_aggT22 : aggT Try.prog 22 = none := by kernel_rfl
@[go_sem] theorem ty_zeroC22 : zeroC Try.prog 22 = some #[.slice none 0 0] := by kernel_rfl
@[go_sem] theorem ty_slE22 : slE Try.prog 22 = some 1 := by kernel_rfl
@[go_sem] theorem ty_slZ22 : slZ Try.prog 22 = some (80, 1, #[.int .u16 0]) := by kernel_rfl
@[go_sem] theorem ty_size22 : (Try.prog.info? 22).map (·.size) = some 1 := by kernel_rfl
@[go_sem] theorem ty_isStr23 : isStr Try.prog 23 = false := by kernel_rfl
@[go_sem] theorem ty_intK23 : intK Try.prog 23 = none := by kernel_rfl
@[go_sem] theorem ty_aggT23 : aggT Try.prog 23 = none := by kernel_rfl
@[go_sem] theorem ty_zeroC23 : zeroC Try.prog 23 = some #[.slice none 0 0] := by kernel_rfl
@[go_sem] theorem ty_slE23 : slE Try.prog 23 = some 1 := by kernel_rfl
@[go_sem] theorem ty_slZ23 : slZ Try.prog 23 = some (80, 1, #[.int .u16 0]) := by kernel_rfl
@[go_sem] theorem ty_size23 : (Try.prog.info? 23).map (·.size) = some 1 := by kernel_rfl
@[go_sem] theorem ty_isStr24 : isStr Try.prog 24 = false := by kernel_rfl
@[go_sem] theorem ty_intK24 : intK Try.prog 24 = none := by kernel_rfl
@[go_sem] theorem ty_aggT24 : aggT Try.prog 24 = some 2 := by kernel_rfl
@[go_sem] theorem ty_zeroC24 : zeroC Try.prog 24 = some #[.bool false, .slice none 0 0] := by kernel_rfl
@[go_sem] theorem ty_fldO24_0 : fldO Try.prog 24 0 = some (4, 0) := by kernel_rfl
@[go_sem] theorem ty_fldO24_1 : fldO Try.prog 24 1 = some (23, 1) := by kernel_rfl
@[go_sem] theorem ty_stZ24 : stZ Try.prog 24 = some (#[.bool false, .slice none 0 0], [(0, 1), (1, 1)]) := by kernel_rfl
@[go_sem] theorem ty_size24 : (Try.prog.info? 24).map (·.size) = some 2 := by kernel_rfl
@[go_sem] theorem ty_isStr25 : isStr Try.prog 25 = false := by kernel_rfl
@[go_sem] theorem ty_intK25 : intK Try.prog 25 = none := by kernel_rfl
@[go_sem] theorem ty_aggT25 : aggT Try.prog 25 = some 2 := by kernel_rfl
@[go_sem] theorem ty_zeroC25 : zeroC Try.prog 25 = some #[.bool false, .slice none 0 0] := by kernel_rfl
@[go_sem] theorem ty_fldO25_0 : fldO Try.prog 25 0 = some (4, 0) := by kernel_rfl
@[go_sem] theorem ty_fldO25_1 : fldO Try.prog 25 1 = some (23, 1) := by kernel_rfl
@[go_sem] theorem ty_stZ25 : stZ Try.prog 25 = some (#[.bool false, .slice none 0 0], [(0, 1), (1, 1)]) := by kernel_rfl
@[go_sem] theorem ty_size25 : (Try.prog.info? 25).map (·.size) = some 2 := by kernel_rfl
@[go_sem] theorem ty_isStr26 : isStr Try.prog 26 = false := by kernel_rfl
@[go_sem] theorem ty_intK26 : intK Try.prog 26 = none := by kernel_rfl
@[go_sem] theorem ty_aggT26 : aggT Try.prog 26 = some 3 := by kernel_rfl
@[go_sem] theorem ty_zeroC26 : zeroC Try.prog 26 = some #[.bool false, .slice none 0 0, .slice none 0 0] := by kernel_rfl
@[go_sem] theorem ty_fldO26_0 : fldO Try.prog 26 0 = some (25, 0) := by kernel_rfl
@[go_sem] theorem ty_fldO26_1 : fldO Try.prog 26 1 = some (23, 2) := by kernel_rfl
@[go_sem] theorem ty_stZ26 : stZ Try.prog 26 = some (#[.bool false, .slice none 0 0, .slice none 0 0], [(0, 2), (2, 1)]) := by kernel_rfl
@[go_sem] theorem ty_size26 : (Try.prog.info? 26).map (·.size) = some 3 := by kernel_rfl
@[go_sem] theorem ty_isStr27 : isStr Try.prog 27 = false := by kernel_rfl
@[go_sem] theorem ty_intK27 : intK Try.prog 27 = none := by kernel_rfl
@[go_sem] theorem ty_aggT27 : aggT Try.prog 27 = some 3 := by kernel_rfl
@[go_sem] theorem ty_zeroC27 : zeroC Try.prog 27 = some #[.bool false, .slice none 0 0, .slice none 0 0] := by kernel_rfl
@[go_sem] theorem ty_fldO27_0 : fldO Try.prog 27 0 = some (25, 0) := by kernel_rfl
@[go_sem] theorem ty_fldO27_1 : fldO Try.prog 27 1 = some (23, 2) := by kernel_rfl
@[go_sem] theorem ty_stZ27 : stZ Try.prog 27 = some (#[.bool false, .slice none 0 0, .slice none 0 0], [(0, 2), (2, 1)]) := by kernel_rfl
@[go_sem] theorem ty_size27 : (Try.prog.info? 27).map (·.size) = some 3 := by kernel_rfl
@[go_sem] theorem ty_isStr28 : isStr Try.prog 28 = false := by kernel_rfl
@[go_sem] theorem ty_intK28 : intK Try.prog 28 = none := by kernel_rfl
@[go_sem] theorem ty_aggT28 : aggT Try.prog 28 = some 6 := by kernel_rfl
@[go_sem] theorem ty_zeroC28 : zeroC Try.prog 28 = some #[.bool false, .slice none 0 0, .slice none 0 0, .bool false, .slice none 0 0, .slice none 0 0] := by kernel_rfl
@[go_sem] theorem ty_fldO28_0 : fldO Try.prog 28 0 = some (27, 0) := by kernel_rfl
@[go_sem] theorem ty_fldO28_1 : fldO Try.prog 28 1 = some (27, 3) := by kernel_rfl
@[go_sem] theorem ty_stZ28 : stZ Try.prog 28 = some (#[.bool false, .slice none 0 0, .slice none 0 0, .bool false, .slice none 0 0, .slice none 0 0], [(0, 3), (3, 3)]) := by kernel_rfl
@[go_sem] theorem ty_size28 : (Try.prog.info? 28).map (·.size) = some 6 := by kernel_rfl
@[go_sem] theorem ty_isStr29 : isStr Try.prog 29 = false := by kernel_rfl
@[go_sem] theorem ty_intK29 : intK Try.prog 29 = none := by kernel_rfl
@[go_sem] theorem ty_aggT29 : aggT Try.prog 29 = some 6 := by kernel_rfl
@[go_sem] theorem ty_zeroC29 : zeroC Try.prog 29 = some #[.bool false, .slice none 0 0, .slice none 0 0, .bool false, .slice none 0 0, .slice none 0 0] := by kernel_rfl
@[go_sem] theorem ty_fldO29_0 : fldO Try.prog 29 0 = some (27, 0) := by kernel_rfl
@[go_sem] theorem ty_fldO29_1 : fldO Try.prog 29 1 = some (27, 3) := by kernel_rfl
@[go_sem] theorem ty_stZ29 : stZ Try.prog 29 = some (#[.bool false, .slice none 0 0, .slice none 0 0, .bool false, .slice none 0 0, .slice none 0 0], [(0, 3), (3, 3)]) := by kernel_rfl
@[go_sem] theorem ty_size29 : (Try.prog.info? 29).map (·.size) = some 6 := by kernel_rfl
@[go_sem] theorem ty_isStr30 : isStr Try.prog 30 = false := by kernel_rfl
@[go_sem] theorem ty_intK30 : intK Try.prog 30 = none := by kernel_rfl
@[go_sem] theorem ty_aggT30 : aggT Try.prog 30 = some 28 := by kernel_rfl
@[go_sem] theorem ty_zeroC30 : zeroC Try.prog 30 = some #[.bool false, .slice none 0 0, .slice none 0 0, .bool false, .slice none 0 0, .slice none 0 0, .bool false, .slice none 0 0, .slice none 0 0, .bool false, .slice none 0 0, .slice none 0 0, .bool false, .slice none 0 0, .slice none 0 0, .bool false, .slice none 0 0, .slice none 0 0, .bool false, .slice none 0 0, .slice none 0 0, .bool false, .slice none 0 0, .slice none 0 0, .bool false, .slice none 0 0, .slice none 0 0, .bool false] := by kernel_rfl
@[go_sem] theorem ty_fldO30_0 : fldO Try.prog 30 0 = some (29, 0) := by kernel_rfl
@[go_sem] theorem ty_fldO30_1 : fldO Try.prog 30 1 = some (29, 6) := by kernel_rfl
@[go_sem] theorem ty_fldO30_2 : fldO Try.prog 30 2 = some (29, 12) := by kernel_rfl
@[go_sem] theorem ty_fldO30_3 : fldO Try.prog 30 3 = some (29, 18) := by kernel_rfl
@[go_sem] theorem ty_fldO30_4 : fldO Try.prog 30 4 = some (27, 24) := by kernel_rfl
@[go_sem] theorem ty_fldO30_5 : fldO Try.prog 30 5 = some (4, 27) := by kernel_rfl
@[go_sem] theorem ty_stZ30 : stZ Try.prog 30 = some (#[.bool false, .slice none 0 0, .slice none 0 0, .bool false, .slice none 0 0, .slice none 0 0, .bool false, .slice none 0 0, .slice none 0 0, .bool false, .slice none 0 0, .slice none 0 0, .bool false, .slice none 0 0, .slice none 0 0, .bool false, .slice none 0 0, .slice none 0 0, .bool false, .slice none 0 0, .slice none 0 0, .bool false, .slice none 0 0, .slice none 0 0, .bool false, .slice none 0 0, .slice none 0 0, .bool false], [(0, 6), (6, 6), (12, 6), (18, 6), (24, 3), (27, 1)]) := by kernel_rfl
@[go_sem] theorem ty_size30 : (Try.prog.info? 30).map (·.size) = some 28 := by kernel_rfl
@[go_sem] theorem ty_isStr31 : isStr Try.prog 31 = false := by kernel_rfl
@[go_sem] theorem ty_intK31 : intK Try.prog 31 = none := by kernel_rfl
@[go_sem] theorem ty_aggT31 : aggT Try.prog 31 = some 28 := by kernel_rfl
@[go_sem] theorem ty_zeroC31 : zeroC Try.prog 31 = some #[.bool false, .slice none 0 0, .slice none 0 0, .bool false, .slice none 0 0, .slice none 0 0, .bool false, .slice none 0 0, .slice none 0 0, .bool false, .slice none 0 0, .slice none 0 0, .bool false, .slice none 0 0, .slice none 0 0, .bool false, .slice none 0 0, .slice none 0 0, .bool false, .slice none 0 0, .slice none 0 0, .bool false, .slice none 0 0, .slice none 0 0, .bool false, .slice none 0 0, .slice none 0 0, .bool false] := by kernel_rfl
@[go_sem] theorem ty_fldO31_0 : fldO Try.prog 31 0 = some (29, 0) := by kernel_rfl
@[go_sem] theorem ty_fldO31_1 : fldO Try.prog 31 1 = some (29, 6) := by kernel_rfl
@[go_sem] theorem ty_fldO31_2 : fldO Try.prog 31 2 = some (29, 12) := by kernel_rfl
@[go_sem] theorem ty_fldO31_3 : fldO Try.prog 31 3 = some (29, 18) := by kernel_rfl
@[go_sem] theorem ty_fldO31_4 : fldO Try.prog 31 4 = some (27, 24) := by kernel_rfl
@[go_sem] theorem ty_fldO31_5 : fldO Try.prog 31 5 = some (4, 27) := by kernel_rfl
@[go_sem] theorem ty_stZ31 : stZ Try.prog 31 = some (#[.bool false, .slice none 0 0, .slice none 0 0, .bool false, .slice none 0 0, .slice none 0 0, .bool false, .slice none 0 0, .slice none 0 0, .bool false, .slice none 0 0, .slice none 0 0, .bool false, .slice none 0 0, .slice none 0 0, .bool false, .slice none 0 0, .slice none 0 0, .bool false, .slice none 0 0, .slice none 0 0, .bool false, .slice none 0 0, .slice none 0 0, .bool false, .slice none 0 0, .slice none 0 0, .bool false], [(0, 6), (6, 6), (12, 6), (18, 6), (24, 3), (27, 1)]) := by kernel_rfl
@[go_sem] theorem ty_size31 : (Try.prog.info? 31).map (·.size) = some 28 := by kernel_rfl
@[go_sem] theorem ty_isStr40 : isStr Try.prog 40 = false := by kernel_rfl
@[go_sem] theorem ty_intK40 : intK Try.prog 40 = some .i64 := by kernel_rfl
@[go_sem] theorem ty_aggT40 : aggT Try.prog 40 = none := by kernel_rfl
@[go_sem] theorem ty_zeroC40 : zeroC Try.prog 40 = some #[.int .i64 0] := by kernel_rfl
@[go_sem] theorem ty_size40 : (Try.prog.info? 40).map (·.size) = some 1 := by kernel_rfl
@[go_sem] theorem ty_isStr52 : isStr Try.prog 52 = false := by kernel_rfl
@[go_sem] theorem ty_intK52 : intK Try.prog 52 = none := by kernel_rfl
@[go_sem] theorem ty_aggT52 : aggT Try.prog 52 = none := by kernel_rfl
@[go_sem] theorem ty_zeroC52 : zeroC Try.prog 52 = some #[.slice none 0 0] := by kernel_rfl
@[go_sem] theorem ty_slE52 : slE Try.prog 52 = some 6 := by kernel_rfl
@[go_sem] theorem ty_slZ52 : slZ Try.prog 52 = some (29, 6, #[.bool false, .slice none 0 0, .slice none 0 0, .bool false, .slice none 0 0, .slice none 0 0]) := by kernel_rfl
@[go_sem] theorem ty_size52 : (Try.prog.info? 52).map (·.size) = some 1 := by kernel_rfl
@[go_sem] theorem ty_isStr53 : isStr Try.prog 53 = false := by kernel_rfl
@[go_sem] theorem ty_intK53 : intK Try.prog 53 = none := by kernel_rfl
@[go_sem] theorem ty_aggT53 : aggT Try.prog 53 = some 6 := by kernel_rfl
@[go_sem] theorem ty_zeroC53 : zeroC Try.prog 53 = some #[.bool false, .slice none 0 0, .slice none 0 0, .bool false, .slice none 0 0, .slice none 0 0] := by kernel_rfl
@[go_sem] theorem ty_isStr54 : isStr Try.prog 54 = false := by kernel_rfl
@[go_sem] theorem ty_intK54 : intK Try.prog 54 = none := by kernel_rfl
@[go_sem] theorem ty_aggT54 : aggT Try.prog 54 = some 6 := by kernel_rfl
@[go_sem] theorem ty_zeroC54 : zeroC Try.prog 54 = some #[.bool false, .slice none 0 0, .slice none 0 0, .bool false, .slice none 0 0, .slice none 0 0] := by kernel_rfl
@[go_sem] theorem ty_isStr63 : isStr Try.prog 63 = false := by kernel_rfl
@[go_sem] theorem ty_intK63 : intK Try.prog 63 = some .u64 := by kernel_rfl
@[go_sem] theorem ty_aggT63 : aggT Try.prog 63 = none := by kernel_rfl
@[go_sem] theorem ty_zeroC63 : zeroC Try.prog 63 = some #[.int .u64 0] := by kernel_rfl
@[go_sem] theorem ty_size63 : (Try.prog.info? 63).map (·.size) = some 1 := by kernel_rfl
@[go_sem] theorem ty_isStr80 : isStr Try.prog 80 = false := by kernel_rfl
@[go_sem] theorem ty_intK80 : intK Try.prog 80 = some .u16 := by kernel_rfl
@[go_sem] theorem ty_aggT80 : aggT Try.prog 80 = none := by kernel_rfl
@[go_sem] theorem ty_zeroC80 : zeroC Try.prog 80 = some #[.int .u16 0] := by kernel_rfl
@[go_sem] theorem ty_size80 : (Try.prog.info? 80).map (·.size) = some 1 := by kernel_rfl
@[go_sem] theorem ty_isStr103 : isStr Try.prog 103 = false := by kernel_rfl
@[go_sem] theorem ty_intK103 : intK Try.prog 103 = some .u32 := by kernel_rfl
@[go_sem] theorem ty_aggT103 : aggT Try.prog 103 = none := by kernel_rfl
@[go_sem] theorem ty_zeroC103 : zeroC Try.prog 103 = some #[.int .u32 0] := by kernel_rfl
@[go_sem] theorem ty_size103 : (Try.prog.info? 103).map (·.size) = some 1 := by kernel_rfl
@[go_sem] theorem ty_isStr104 : isStr Try.prog 104 = false := by kernel_rfl
@[go_sem] theorem ty_intK104 : intK Try.prog 104 = some .u64 := by kernel_rfl
@[go_sem] theorem ty_aggT104 : aggT Try.prog 104 = none := by kernel_rfl
@[go_sem] theorem ty_zeroC104 : zeroC Try.prog 104 = some #[.int .u64 0] := by kernel_rfl
@[go_sem] theorem ty_size104 : (Try.prog.info? 104).map (·.size) = some 1 := by kernel_rfl
@[go_sem] theorem ty_isStr108 : isStr Try.prog 108 = false := by kernel_rfl
@[go_sem] theorem ty_intK108 : intK Try.prog 108 = none := by kernel_rfl
@[go_sem] theorem ty_aggT108 : aggT Try.prog 108 = some 2 := by kernel_rfl
@[go_sem] theorem ty_zeroC108 : zeroC Try.prog 108 = some #[.int .i64 0, .int .u16 0] := by kernel_rfl
@[go_sem] theorem ty_fldO108_0 : fldO Try.prog 108 0 = some (3, 0) := by kernel_rfl
@[go_sem] theorem ty_fldO108_1 : fldO Try.prog 108 1 = some (80, 1) := by kernel_rfl
@[go_sem] theorem ty_stZ108 : stZ Try.prog 108 = some (#[.int .i64 0, .int .u16 0], [(0, 1), (1, 1)]) := by kernel_rfl
@[go_sem] theorem ty_size108 : (Try.prog.info? 108).map (·.size) = some 2 := by kernel_rfl
@[go_sem] theorem ty_isStr109 : isStr Try.prog 109 = false := by kernel_rfl
@[go_sem] theorem ty_intK109 : intK Try.prog 109 = none := by kernel_rfl
@[go_sem] theorem ty_aggT109 : aggT Try.prog 109 = some 2 := by kernel_rfl
@[go_sem] theorem ty_zeroC109 : zeroC Try.prog 109 = some #[.int .i64 0, .int .u16 0] := by kernel_rfl
@[go_sem] theorem ty_fldO109_0 : fldO Try.prog 109 0 = some (3, 0) := by kernel_rfl
@[go_sem] theorem ty_fldO109_1 : fldO Try.prog 109 1 = some (80, 1) := by kernel_rfl
@[go_sem] theorem ty_stZ109 : stZ Try.prog 109 = some (#[.int .i64 0, .int .u16 0], [(0, 1), (1, 1)]) := by kernel_rfl
@[go_sem] theorem ty_size109 : (Try.prog.info? 109).map (·.size) = some 2 := by kernel_rfl
@[go_sem] theorem ty_isStr110 : isStr Try.prog 110 = false := by kernel_rfl
@[go_sem] theorem ty_intK110 : intK Try.prog 110 = none := by kernel_rfl
@[go_sem] theorem ty_aggT110 : aggT Try.prog 110 = none := by kernel_rfl
@[go_sem] theorem ty_zeroC110 : zeroC Try.prog 110 = some #[.slice none 0 0] := by kernel_rfl
@[go_sem] theorem ty_slE110 : slE Try.prog 110 = some 2 := by kernel_rfl
@[go_sem] theorem ty_slZ110 : slZ Try.prog 110 = some (25, 2, #[.bool false, .slice none 0 0]) := by kernel_rfl
@[go_sem] theorem ty_size110 : (Try.prog.info? 110).map (·.size) = some 1 := by kernel_rfl
@[go_sem] theorem ty_isStr130 : isStr Try.prog 130 = false := by kernel_rfl
@[go_sem] theorem ty_intK130 : intK Try.prog 130 = none := by kernel_rfl
@[go_sem] theorem ty_aggT130 : aggT Try.prog 130 = none := by kernel_rfl
@[go_sem] theorem ty_zeroC130 : zeroC Try.prog 130 = some #[.pointer none] := by kernel_rfl
@[go_sem] theorem ty_size130 : (Try.prog.info? 130).map (·.size) = some 1 := by kernel_rfl
theorem ty_bytes2 : (Try.prog.info? 2).map (·.bytes) = some 8 := by kernel_rfl
theorem ty_bytes3 : (Try.prog.info? 3).map (·.bytes) = some 8 := by kernel_rfl
theorem ty_bytes4 : (Try.prog.info? 4).map (·.bytes) = some 1 := by kernel_rfl
theorem ty_bytes5 : (Try.prog.info? 5).map (·.bytes) = some 1 := by kernel_rfl
theorem ty_bytes9 : (Try.prog.info? 9).map (·.bytes) = some 16 := by kernel_rfl
theorem ty_bytes12 : (Try.prog.info? 12).map (·.bytes) = some 8 := by kernel_rfl
theorem ty_bytes13 : (Try.prog.info? 13).map (·.bytes) = some 24 := by kernel_rfl
theorem ty_bytes21 : (Try.prog.info? 21).map (·.bytes) = some 4 := by kernel_rfl
theorem ty_bytes22 : (Try.prog.info? 22).map (·.bytes) = some 24 := by kernel_rfl
theorem ty_bytes23 : (Try.prog.info? 23).map (·.bytes) = some 24 := by kernel_rfl
theorem ty_bytes24 : (Try.prog.info? 24).map (·.bytes) = some 32 := by kernel_rfl
theorem ty_bytes25 : (Try.prog.info? 25).map (·.bytes) = some 32 := by kernel_rfl
theorem ty_bytes26 : (Try.prog.info? 26).map (·.bytes) = some 56 := by kernel_rfl
theorem ty_bytes27 : (Try.prog.info? 27).map (·.bytes) = some 56 := by kernel_rfl
theorem ty_bytes28 : (Try.prog.info? 28).map (·.bytes) = some 112 := by kernel_rfl
theorem ty_bytes29 : (Try.prog.info? 29).map (·.bytes) = some 112 := by kernel_rfl
theorem ty_bytes30 : (Try.prog.info? 30).map (·.bytes) = some 512 := by kernel_rfl
theorem ty_bytes31 : (Try.prog.info? 31).map (·.bytes) = some 512 := by kernel_rfl
theorem ty_bytes40 : (Try.prog.info? 40).map (·.bytes) = some 8 := by kernel_rfl
theorem ty_bytes52 : (Try.prog.info? 52).map (·.bytes) = some 24 := by kernel_rfl
theorem ty_bytes53 : (Try.prog.info? 53).map (·.bytes) = some 112 := by kernel_rfl
theorem ty_bytes54 : (Try.prog.info? 54).map (·.bytes) = some 112 := by kernel_rfl
theorem ty_bytes63 : (Try.prog.info? 63).map (·.bytes) = some 8 := by kernel_rfl
theorem ty_bytes80 : (Try.prog.info? 80).map (·.bytes) = some 2 := by kernel_rfl
theorem ty_bytes103 : (Try.prog.info? 103).map (·.bytes) = some 4 := by kernel_rfl
theorem ty_bytes104 : (Try.prog.info? 104).map (·.bytes) = some 8 := by kernel_rfl
theorem ty_bytes108 : (Try.prog.info? 108).map (·.bytes) = some 16 := by kernel_rfl
theorem ty_bytes109 : (Try.prog.info? 109).map (·.bytes) = some 16 := by kernel_rfl
theorem ty_bytes110 : (Try.prog.info? 110).map (·.bytes) = some 24 := by kernel_rfl
theorem ty_bytes130 : (Try.prog.info? 130).map (·.bytes) = some 8 := by kernel_rfl
end Go.Proofs.Ytnfchljiicniiaa
