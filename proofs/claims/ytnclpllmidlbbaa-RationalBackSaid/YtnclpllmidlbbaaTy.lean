/- What the tables of types say, for the types that the code names. -/
import Derived.Test.YtnclpllmidlbbaaRows
import Derived.Test.YtnclpllmidlbbaaVE
namespace Go.Proofs.Ytnclpllmidlbbaa
open Go.V
@[go_sem] theorem ty_isStr2 : isStr Try.prog 2 = false := by kernel_rfl
@[go_sem] theorem ty_intK2 : intK Try.prog 2 = some .i64 := by kernel_rfl
@[go_sem] theorem ty_aggT2 : aggT Try.prog 2 = none := by kernel_rfl
@[go_sem] theorem ty_zeroC2 : zeroC Try.prog 2 = some #[.int .i64 0] := by kernel_rfl
@[go_sem] theorem ty_size2 : (Try.prog.info? 2).map (·.size) = some 1 := by kernel_rfl
@[go_sem] theorem ty_isStr3 : isStr Try.prog 3 = false := by kernel_rfl
@[go_sem] theorem ty_intK3 : intK Try.prog 3 = some .i64 := by kernel_rfl
@[go_sem] theorem ty_aggT3 : aggT Try.prog 3 = none := by kernel_rfl
@[go_sem] theorem ty_zeroC3 : zeroC Try.prog 3 = some #[.int .i64 0] := by kernel_rfl
@[go_sem] theorem ty_size3 : (Try.prog.info? 3).map (·.size) = some 1 := by kernel_rfl
@[go_sem] theorem ty_isStr4 : isStr Try.prog 4 = false := by kernel_rfl
@[go_sem] theorem ty_intK4 : intK Try.prog 4 = none := by kernel_rfl
@[go_sem] theorem ty_aggT4 : aggT Try.prog 4 = none := by kernel_rfl
@[go_sem] theorem ty_isBoolT4 : isBoolT Try.prog 4 = true := by kernel_rfl
@[go_sem] theorem ty_zeroC4 : zeroC Try.prog 4 = some #[.bool false] := by kernel_rfl
@[go_sem] theorem ty_size4 : (Try.prog.info? 4).map (·.size) = some 1 := by kernel_rfl
@[go_sem] theorem ty_isStr5 : isStr Try.prog 5 = false := by kernel_rfl
@[go_sem] theorem ty_intK5 : intK Try.prog 5 = some .u8 := by kernel_rfl
@[go_sem] theorem ty_aggT5 : aggT Try.prog 5 = none := by kernel_rfl
@[go_sem] theorem ty_zeroC5 : zeroC Try.prog 5 = some #[.int .u8 0] := by kernel_rfl
@[go_sem] theorem ty_size5 : (Try.prog.info? 5).map (·.size) = some 1 := by kernel_rfl
@[go_sem] theorem ty_isStr9 : isStr Try.prog 9 = true := by kernel_rfl
@[go_sem] theorem ty_intK9 : intK Try.prog 9 = none := by kernel_rfl
@[go_sem] theorem ty_aggT9 : aggT Try.prog 9 = none := by kernel_rfl
@[go_sem] theorem ty_zeroC9 : zeroC Try.prog 9 = some #[.string { data := #[] }] := by kernel_rfl
@[go_sem] theorem ty_size9 : (Try.prog.info? 9).map (·.size) = some 1 := by kernel_rfl
@[go_sem] theorem ty_isStr12 : isStr Try.prog 12 = false := by kernel_rfl
@[go_sem] theorem ty_intK12 : intK Try.prog 12 = some .u64 := by kernel_rfl
@[go_sem] theorem ty_aggT12 : aggT Try.prog 12 = none := by kernel_rfl
@[go_sem] theorem ty_zeroC12 : zeroC Try.prog 12 = some #[.int .u64 0] := by kernel_rfl
@[go_sem] theorem ty_size12 : (Try.prog.info? 12).map (·.size) = some 1 := by kernel_rfl
@[go_sem] theorem ty_isStr13 : isStr Try.prog 13 = false := by kernel_rfl
@[go_sem] theorem ty_intK13 : intK Try.prog 13 = none := by kernel_rfl
@[go_sem] theorem ty_aggT13 : aggT Try.prog 13 = some 2 := by kernel_rfl
@[go_sem] theorem ty_zeroC13 : zeroC Try.prog 13 = some #[.string { data := #[] }, .int .u64 0] := by kernel_rfl
@[go_sem] theorem ty_fldO13_0 : fldO Try.prog 13 0 = some (9, 0) := by kernel_rfl
@[go_sem] theorem ty_fldO13_1 : fldO Try.prog 13 1 = some (12, 1) := by kernel_rfl
@[go_sem] theorem ty_stZ13 : stZ Try.prog 13 = some (#[.string { data := #[] }, .int .u64 0], [(0, 1), (1, 1)]) := by kernel_rfl
@[go_sem] theorem ty_size13 : (Try.prog.info? 13).map (·.size) = some 2 := by kernel_rfl
@[go_sem] theorem ty_isStr21 : isStr Try.prog 21 = false := by kernel_rfl
@[go_sem] theorem ty_intK21 : intK Try.prog 21 = some .i32 := by kernel_rfl
@[go_sem] theorem ty_aggT21 : aggT Try.prog 21 = none := by kernel_rfl
@[go_sem] theorem ty_zeroC21 : zeroC Try.prog 21 = some #[.int .i32 0] := by kernel_rfl
@[go_sem] theorem ty_size21 : (Try.prog.info? 21).map (·.size) = some 1 := by kernel_rfl
@[go_sem] theorem ty_isStr22 : isStr Try.prog 22 = false := by kernel_rfl
@[go_sem] theorem ty_intK22 : intK Try.prog 22 = none := by kernel_rfl
@[go_sem] theorem ty_aggT22 : aggT Try.prog 22 = none := by kernel_rfl
@[go_sem] theorem ty_zeroC22 : zeroC Try.prog 22 = some #[.slice none 0 0] := by kernel_rfl
@[go_sem] theorem ty_slE22 : slE Try.prog 22 = some 1 := by kernel_rfl
@[go_sem] theorem ty_slZ22 : slZ Try.prog 22 = some (50, 1, #[.int .u16 0]) := by kernel_rfl
@[go_sem] theorem ty_size22 : (Try.prog.info? 22).map (·.size) = some 1 := by kernel_rfl
@[go_sem] theorem ty_isStr23 : isStr Try.prog 23 = false := by kernel_rfl
@[go_sem] theorem ty_intK23 : intK Try.prog 23 = none := by kernel_rfl
@[go_sem] theorem ty_aggT23 : aggT Try.prog 23 = none := by kernel_rfl
@[go_sem] theorem ty_zeroC23 : zeroC Try.prog 23 = some #[.slice none 0 0] := by kernel_rfl
@[go_sem] theorem ty_slE23 : slE Try.prog 23 = some 1 := by kernel_rfl
@[go_sem] theorem ty_slZ23 : slZ Try.prog 23 = some (50, 1, #[.int .u16 0]) := by kernel_rfl
@[go_sem] theorem ty_size23 : (Try.prog.info? 23).map (·.size) = some 1 := by kernel_rfl
@[go_sem] theorem ty_isStr24 : isStr Try.prog 24 = false := by kernel_rfl
@[go_sem] theorem ty_intK24 : intK Try.prog 24 = none := by kernel_rfl
@[go_sem] theorem ty_aggT24 : aggT Try.prog 24 = some 2 := by kernel_rfl
@[go_sem] theorem ty_zeroC24 : zeroC Try.prog 24 = some #[.bool false, .slice none 0 0] := by kernel_rfl
@[go_sem] theorem ty_fldO24_0 : fldO Try.prog 24 0 = some (4, 0) := by kernel_rfl
@[go_sem] theorem ty_fldO24_1 : fldO Try.prog 24 1 = some (23, 1) := by kernel_rfl
@[go_sem] theorem ty_stZ24 : stZ Try.prog 24 = some (#[.bool false, .slice none 0 0], [(0, 1), (1, 1)]) := by kernel_rfl
@[go_sem] theorem ty_size24 : (Try.prog.info? 24).map (·.size) = some 2 := by kernel_rfl
@[go_sem] theorem ty_isStr25 : isStr Try.prog 25 = false := by kernel_rfl
@[go_sem] theorem ty_intK25 : intK Try.prog 25 = none := by kernel_rfl
@[go_sem] theorem ty_aggT25 : aggT Try.prog 25 = some 2 := by kernel_rfl
@[go_sem] theorem ty_zeroC25 : zeroC Try.prog 25 = some #[.bool false, .slice none 0 0] := by kernel_rfl
@[go_sem] theorem ty_fldO25_0 : fldO Try.prog 25 0 = some (4, 0) := by kernel_rfl
@[go_sem] theorem ty_fldO25_1 : fldO Try.prog 25 1 = some (23, 1) := by kernel_rfl
@[go_sem] theorem ty_stZ25 : stZ Try.prog 25 = some (#[.bool false, .slice none 0 0], [(0, 1), (1, 1)]) := by kernel_rfl
@[go_sem] theorem ty_size25 : (Try.prog.info? 25).map (·.size) = some 2 := by kernel_rfl
@[go_sem] theorem ty_isStr26 : isStr Try.prog 26 = false := by kernel_rfl
@[go_sem] theorem ty_intK26 : intK Try.prog 26 = none := by kernel_rfl
@[go_sem] theorem ty_aggT26 : aggT Try.prog 26 = some 2 := by kernel_rfl
@[go_sem] theorem ty_zeroC26 : zeroC Try.prog 26 = some #[.int .i64 0, .int .i64 0] := by kernel_rfl
@[go_sem] theorem ty_fldO26_0 : fldO Try.prog 26 0 = some (3, 0) := by kernel_rfl
@[go_sem] theorem ty_fldO26_1 : fldO Try.prog 26 1 = some (3, 1) := by kernel_rfl
@[go_sem] theorem ty_stZ26 : stZ Try.prog 26 = some (#[.int .i64 0, .int .i64 0], [(0, 1), (1, 1)]) := by kernel_rfl
@[go_sem] theorem ty_size26 : (Try.prog.info? 26).map (·.size) = some 2 := by kernel_rfl
@[go_sem] theorem ty_isStr27 : isStr Try.prog 27 = false := by kernel_rfl
@[go_sem] theorem ty_intK27 : intK Try.prog 27 = none := by kernel_rfl
@[go_sem] theorem ty_aggT27 : aggT Try.prog 27 = some 2 := by kernel_rfl
@[go_sem] theorem ty_zeroC27 : zeroC Try.prog 27 = some #[.int .i64 0, .int .i64 0] := by kernel_rfl
@[go_sem] theorem ty_fldO27_0 : fldO Try.prog 27 0 = some (3, 0) := by kernel_rfl
@[go_sem] theorem ty_fldO27_1 : fldO Try.prog 27 1 = some (3, 1) := by kernel_rfl
@[go_sem] theorem ty_stZ27 : stZ Try.prog 27 = some (#[.int .i64 0, .int .i64 0], [(0, 1), (1, 1)]) := by kernel_rfl
@[go_sem] theorem ty_size27 : (Try.prog.info? 27).map (·.size) = some 2 := by kernel_rfl
@[go_sem] theorem ty_isStr29 : isStr Try.prog 29 = false := by kernel_rfl
@[go_sem] theorem ty_intK29 : intK Try.prog 29 = none := by kernel_rfl
@[go_sem] theorem ty_aggT29 : aggT Try.prog 29 = some 3 := by kernel_rfl
@[go_sem] theorem ty_zeroC29 : zeroC Try.prog 29 = some #[.bool false, .slice none 0 0, .slice none 0 0] := by kernel_rfl
@[go_sem] theorem ty_fldO29_0 : fldO Try.prog 29 0 = some (25, 0) := by kernel_rfl
@[go_sem] theorem ty_fldO29_1 : fldO Try.prog 29 1 = some (23, 2) := by kernel_rfl
@[go_sem] theorem ty_stZ29 : stZ Try.prog 29 = some (#[.bool false, .slice none 0 0, .slice none 0 0], [(0, 2), (2, 1)]) := by kernel_rfl
@[go_sem] theorem ty_size29 : (Try.prog.info? 29).map (·.size) = some 3 := by kernel_rfl
@[go_sem] theorem ty_isStr30 : isStr Try.prog 30 = false := by kernel_rfl
@[go_sem] theorem ty_intK30 : intK Try.prog 30 = none := by kernel_rfl
@[go_sem] theorem ty_aggT30 : aggT Try.prog 30 = some 3 := by kernel_rfl
@[go_sem] theorem ty_zeroC30 : zeroC Try.prog 30 = some #[.bool false, .slice none 0 0, .slice none 0 0] := by kernel_rfl
@[go_sem] theorem ty_fldO30_0 : fldO Try.prog 30 0 = some (25, 0) := by kernel_rfl
@[go_sem] theorem ty_fldO30_1 : fldO Try.prog 30 1 = some (23, 2) := by kernel_rfl
@[go_sem] theorem ty_stZ30 : stZ Try.prog 30 = some (#[.bool false, .slice none 0 0, .slice none 0 0], [(0, 2), (2, 1)]) := by kernel_rfl
@[go_sem] theorem ty_size30 : (Try.prog.info? 30).map (·.size) = some 3 := by kernel_rfl
@[go_sem] theorem ty_isStr31 : isStr Try.prog 31 = false := by kernel_rfl
@[go_sem] theorem ty_intK31 : intK Try.prog 31 = some .i64 := by kernel_rfl
@[go_sem] theorem ty_aggT31 : aggT Try.prog 31 = none := by kernel_rfl
@[go_sem] theorem ty_zeroC31 : zeroC Try.prog 31 = some #[.int .i64 0] := by kernel_rfl
@[go_sem] theorem ty_size31 : (Try.prog.info? 31).map (·.size) = some 1 := by kernel_rfl
@[go_sem] theorem ty_isStr50 : isStr Try.prog 50 = false := by kernel_rfl
@[go_sem] theorem ty_intK50 : intK Try.prog 50 = some .u16 := by kernel_rfl
@[go_sem] theorem ty_aggT50 : aggT Try.prog 50 = none := by kernel_rfl
@[go_sem] theorem ty_zeroC50 : zeroC Try.prog 50 = some #[.int .u16 0] := by kernel_rfl
@[go_sem] theorem ty_size50 : (Try.prog.info? 50).map (·.size) = some 1 := by kernel_rfl
@[go_sem] theorem ty_isStr61 : isStr Try.prog 61 = false := by kernel_rfl
@[go_sem] theorem ty_intK61 : intK Try.prog 61 = some .u64 := by kernel_rfl
@[go_sem] theorem ty_aggT61 : aggT Try.prog 61 = none := by kernel_rfl
@[go_sem] theorem ty_zeroC61 : zeroC Try.prog 61 = some #[.int .u64 0] := by kernel_rfl
@[go_sem] theorem ty_size61 : (Try.prog.info? 61).map (·.size) = some 1 := by kernel_rfl
@[go_sem] theorem ty_isStr62 : isStr Try.prog 62 = false := by kernel_rfl
@[go_sem] theorem ty_intK62 : intK Try.prog 62 = none := by kernel_rfl
@[go_sem] theorem ty_aggT62 : aggT Try.prog 62 = none := by kernel_rfl
@[go_sem] theorem ty_zeroC62 : zeroC Try.prog 62 = some #[.slice none 0 0] := by kernel_rfl
@[go_sem] theorem ty_slE62 : slE Try.prog 62 = some 3 := by kernel_rfl
@[go_sem] theorem ty_slZ62 : slZ Try.prog 62 = some (30, 3, #[.bool false, .slice none 0 0, .slice none 0 0]) := by kernel_rfl
@[go_sem] theorem ty_size62 : (Try.prog.info? 62).map (·.size) = some 1 := by kernel_rfl
@[go_sem] theorem ty_isStr92 : isStr Try.prog 92 = false := by kernel_rfl
@[go_sem] theorem ty_intK92 : intK Try.prog 92 = none := by kernel_rfl
@[go_sem] theorem ty_aggT92 : aggT Try.prog 92 = some 2 := by kernel_rfl
@[go_sem] theorem ty_zeroC92 : zeroC Try.prog 92 = some #[.int .i64 0, .int .u16 0] := by kernel_rfl
@[go_sem] theorem ty_fldO92_0 : fldO Try.prog 92 0 = some (3, 0) := by kernel_rfl
@[go_sem] theorem ty_fldO92_1 : fldO Try.prog 92 1 = some (50, 1) := by kernel_rfl
@[go_sem] theorem ty_stZ92 : stZ Try.prog 92 = some (#[.int .i64 0, .int .u16 0], [(0, 1), (1, 1)]) := by kernel_rfl
@[go_sem] theorem ty_size92 : (Try.prog.info? 92).map (·.size) = some 2 := by kernel_rfl
@[go_sem] theorem ty_isStr93 : isStr Try.prog 93 = false := by kernel_rfl
@[go_sem] theorem ty_intK93 : intK Try.prog 93 = none := by kernel_rfl
@[go_sem] theorem ty_aggT93 : aggT Try.prog 93 = some 2 := by kernel_rfl
@[go_sem] theorem ty_zeroC93 : zeroC Try.prog 93 = some #[.int .i64 0, .int .u16 0] := by kernel_rfl
@[go_sem] theorem ty_fldO93_0 : fldO Try.prog 93 0 = some (3, 0) := by kernel_rfl
@[go_sem] theorem ty_fldO93_1 : fldO Try.prog 93 1 = some (50, 1) := by kernel_rfl
@[go_sem] theorem ty_stZ93 : stZ Try.prog 93 = some (#[.int .i64 0, .int .u16 0], [(0, 1), (1, 1)]) := by kernel_rfl
@[go_sem] theorem ty_size93 : (Try.prog.info? 93).map (·.size) = some 2 := by kernel_rfl
@[go_sem] theorem ty_isStr96 : isStr Try.prog 96 = false := by kernel_rfl
@[go_sem] theorem ty_intK96 : intK Try.prog 96 = none := by kernel_rfl
@[go_sem] theorem ty_aggT96 : aggT Try.prog 96 = none := by kernel_rfl
@[go_sem] theorem ty_zeroC96 : zeroC Try.prog 96 = some #[.slice none 0 0] := by kernel_rfl
@[go_sem] theorem ty_slE96 : slE Try.prog 96 = some 2 := by kernel_rfl
@[go_sem] theorem ty_slZ96 : slZ Try.prog 96 = some (25, 2, #[.bool false, .slice none 0 0]) := by kernel_rfl
@[go_sem] theorem ty_size96 : (Try.prog.info? 96).map (·.size) = some 1 := by kernel_rfl
@[go_sem] theorem ty_isStr97 : isStr Try.prog 97 = false := by kernel_rfl
@[go_sem] theorem ty_intK97 : intK Try.prog 97 = some .u32 := by kernel_rfl
@[go_sem] theorem ty_aggT97 : aggT Try.prog 97 = none := by kernel_rfl
@[go_sem] theorem ty_zeroC97 : zeroC Try.prog 97 = some #[.int .u32 0] := by kernel_rfl
@[go_sem] theorem ty_size97 : (Try.prog.info? 97).map (·.size) = some 1 := by kernel_rfl
@[go_sem] theorem ty_isStr98 : isStr Try.prog 98 = false := by kernel_rfl
@[go_sem] theorem ty_intK98 : intK Try.prog 98 = some .u64 := by kernel_rfl
@[go_sem] theorem ty_aggT98 : aggT Try.prog 98 = none := by kernel_rfl
@[go_sem] theorem ty_zeroC98 : zeroC Try.prog 98 = some #[.int .u64 0] := by kernel_rfl
@[go_sem] theorem ty_size98 : (Try.prog.info? 98).map (·.size) = some 1 := by kernel_rfl
@[go_sem] theorem ty_isStr102 : isStr Try.prog 102 = false := by kernel_rfl
@[go_sem] theorem ty_intK102 : intK Try.prog 102 = none := by kernel_rfl
@[go_sem] theorem ty_aggT102 : aggT Try.prog 102 = none := by kernel_rfl
@[go_sem] theorem ty_zeroC102 : zeroC Try.prog 102 = some #[.pointer none] := by kernel_rfl
@[go_sem] theorem ty_size102 : (Try.prog.info? 102).map (·.size) = some 1 := by kernel_rfl
@[go_sem] theorem ty_isStr103 : isStr Try.prog 103 = false := by kernel_rfl
@[go_sem] theorem ty_intK103 : intK Try.prog 103 = none := by kernel_rfl
@[go_sem] theorem ty_aggT103 : aggT Try.prog 103 = none := by kernel_rfl
@[go_sem] theorem ty_zeroC103 : zeroC Try.prog 103 = some #[.slice none 0 0] := by kernel_rfl
@[go_sem] theorem ty_slE103 : slE Try.prog 103 = some 1 := by kernel_rfl
@[go_sem] theorem ty_slZ103 : slZ Try.prog 103 = some (5, 1, #[.int .u8 0]) := by kernel_rfl
@[go_sem] theorem ty_size103 : (Try.prog.info? 103).map (·.size) = some 1 := by kernel_rfl
@[go_sem] theorem ty_isStr104 : isStr Try.prog 104 = false := by kernel_rfl
@[go_sem] theorem ty_intK104 : intK Try.prog 104 = none := by kernel_rfl
@[go_sem] theorem ty_aggT104 : aggT Try.prog 104 = some 2 := by kernel_rfl
@[go_sem] theorem ty_zeroC104 : zeroC Try.prog 104 = some #[.pointer none, .slice none 0 0] := by kernel_rfl
@[go_sem] theorem ty_fldO104_0 : fldO Try.prog 104 0 = some (102, 0) := by kernel_rfl
@[go_sem] theorem ty_fldO104_1 : fldO Try.prog 104 1 = some (103, 1) := by kernel_rfl
@[go_sem] theorem ty_stZ104 : stZ Try.prog 104 = some (#[.pointer none, .slice none 0 0], [(0, 1), (1, 1)]) := by kernel_rfl
@[go_sem] theorem ty_size104 : (Try.prog.info? 104).map (·.size) = some 2 := by kernel_rfl
@[go_sem] theorem ty_isStr105 : isStr Try.prog 105 = false := by kernel_rfl
@[go_sem] theorem ty_intK105 : intK Try.prog 105 = none := by kernel_rfl
@[go_sem] theorem ty_aggT105 : aggT Try.prog 105 = some 2 := by kernel_rfl
@[go_sem] theorem ty_zeroC105 : zeroC Try.prog 105 = some #[.pointer none, .slice none 0 0] := by kernel_rfl
@[go_sem] theorem ty_fldO105_0 : fldO Try.prog 105 0 = some (102, 0) := by kernel_rfl
@[go_sem] theorem ty_fldO105_1 : fldO Try.prog 105 1 = some (103, 1) := by kernel_rfl
@[go_sem] theorem ty_stZ105 : stZ Try.prog 105 = some (#[.pointer none, .slice none 0 0], [(0, 1), (1, 1)]) := by kernel_rfl
@[go_sem] theorem ty_size105 : (Try.prog.info? 105).map (·.size) = some 2 := by kernel_rfl
@[go_sem] theorem ty_isStr115 : isStr Try.prog 115 = false := by kernel_rfl
@[go_sem] theorem ty_intK115 : intK Try.prog 115 = none := by kernel_rfl
@[go_sem] theorem ty_aggT115 : aggT Try.prog 115 = none := by kernel_rfl
@[go_sem] theorem ty_zeroC115 : zeroC Try.prog 115 = some #[.pointer none] := by kernel_rfl
@[go_sem] theorem ty_size115 : (Try.prog.info? 115).map (·.size) = some 1 := by kernel_rfl
theorem ty_bytes2 : (Try.prog.info? 2).map (·.bytes) = some 8 := by kernel_rfl
theorem ty_bytes3 : (Try.prog.info? 3).map (·.bytes) = some 8 := by kernel_rfl
theorem ty_bytes4 : (Try.prog.info? 4).map (·.bytes) = some 1 := by kernel_rfl
theorem ty_bytes5 : (Try.prog.info? 5).map (·.bytes) = some 1 := by kernel_rfl
theorem ty_bytes9 : (Try.prog.info? 9).map (·.bytes) = some 16 := by kernel_rfl
theorem ty_bytes12 : (Try.prog.info? 12).map (·.bytes) = some 8 := by kernel_rfl
theorem ty_bytes13 : (Try.prog.info? 13).map (·.bytes) = some 24 := by kernel_rfl
theorem ty_bytes21 : (Try.prog.info? 21).map (·.bytes) = some 4 := by kernel_rfl
theorem ty_bytes22 : (Try.prog.info? 22).map (·.bytes) = some 24 := by kernel_rfl
theorem ty_bytes23 : (Try.prog.info? 23).map (·.bytes) = some 24 := by kernel_rfl
theorem ty_bytes24 : (Try.prog.info? 24).map (·.bytes) = some 32 := by kernel_rfl
theorem ty_bytes25 : (Try.prog.info? 25).map (·.bytes) = some 32 := by kernel_rfl
theorem ty_bytes26 : (Try.prog.info? 26).map (·.bytes) = some 16 := by kernel_rfl
theorem ty_bytes27 : (Try.prog.info? 27).map (·.bytes) = some 16 := by kernel_rfl
theorem ty_bytes29 : (Try.prog.info? 29).map (·.bytes) = some 56 := by kernel_rfl
theorem ty_bytes30 : (Try.prog.info? 30).map (·.bytes) = some 56 := by kernel_rfl
theorem ty_bytes31 : (Try.prog.info? 31).map (·.bytes) = some 8 := by kernel_rfl
theorem ty_bytes50 : (Try.prog.info? 50).map (·.bytes) = some 2 := by kernel_rfl
theorem ty_bytes61 : (Try.prog.info? 61).map (·.bytes) = some 8 := by kernel_rfl
theorem ty_bytes62 : (Try.prog.info? 62).map (·.bytes) = some 24 := by kernel_rfl
theorem ty_bytes92 : (Try.prog.info? 92).map (·.bytes) = some 16 := by kernel_rfl
theorem ty_bytes93 : (Try.prog.info? 93).map (·.bytes) = some 16 := by kernel_rfl
theorem ty_bytes96 : (Try.prog.info? 96).map (·.bytes) = some 24 := by kernel_rfl
theorem ty_bytes97 : (Try.prog.info? 97).map (·.bytes) = some 4 := by kernel_rfl
theorem ty_bytes98 : (Try.prog.info? 98).map (·.bytes) = some 8 := by kernel_rfl
theorem ty_bytes102 : (Try.prog.info? 102).map (·.bytes) = some 8 := by kernel_rfl
theorem ty_bytes103 : (Try.prog.info? 103).map (·.bytes) = some 24 := by kernel_rfl
theorem ty_bytes104 : (Try.prog.info? 104).map (·.bytes) = some 32 := by kernel_rfl
theorem ty_bytes105 : (Try.prog.info? 105).map (·.bytes) = some 32 := by kernel_rfl
theorem ty_bytes108 : (Try.prog.info? 108).map (·.bytes) = some 16 := by kernel_rfl
theorem ty_bytes115 : (Try.prog.info? 115).map (·.bytes) = some 8 := by kernel_rfl
end Go.Proofs.Ytnclpllmidlbbaa
