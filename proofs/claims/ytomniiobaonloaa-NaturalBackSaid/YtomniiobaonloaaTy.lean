/- What the tables of types say, for the types that the code names. -/
import Derived.Test.YtomniiobaonloaaRows
import Derived.Test.YtomniiobaonloaaVD
namespace Go.Proofs.Ytomniiobaonloaa
open Go.V
@[go_sem] theorem ty_isStr2 : isStr Try.prog 2 = false := by kernel_rfl
@[go_sem] theorem ty_intK2 : intK Try.prog 2 = some .i64 := by kernel_rfl
@[go_sem] theorem ty_aggT2 : aggT Try.prog 2 = none := by kernel_rfl
@[go_sem] theorem ty_zeroC2 : zeroC Try.prog 2 = some #[.int .i64 0] := by kernel_rfl
@[go_sem] theorem ty_size2 : (Try.prog.info? 2).map (·.size) = some 1 := by kernel_rfl
@[go_sem] theorem ty_isStr3 : isStr Try.prog 3 = false := by kernel_rfl
@[go_sem] theorem ty_intK3 : intK Try.prog 3 = some .i64 := by kernel_rfl
@[go_sem] theorem ty_aggT3 : aggT Try.prog 3 = none := by kernel_rfl
@[go_sem] theorem ty_zeroC3 : zeroC Try.prog 3 = some #[.int .i64 0] := by kernel_rfl
@[go_sem] theorem ty_size3 : (Try.prog.info? 3).map (·.size) = some 1 := by kernel_rfl
@[go_sem] theorem ty_isStr4 : isStr Try.prog 4 = false := by kernel_rfl
@[go_sem] theorem ty_intK4 : intK Try.prog 4 = none := by kernel_rfl
@[go_sem] theorem ty_aggT4 : aggT Try.prog 4 = none := by kernel_rfl
@[go_sem] theorem ty_isBoolT4 : isBoolT Try.prog 4 = true := by kernel_rfl
@[go_sem] theorem ty_zeroC4 : zeroC Try.prog 4 = some #[.bool false] := by kernel_rfl
@[go_sem] theorem ty_size4 : (Try.prog.info? 4).map (·.size) = some 1 := by kernel_rfl
@[go_sem] theorem ty_isStr5 : isStr Try.prog 5 = false := by kernel_rfl
@[go_sem] theorem ty_intK5 : intK Try.prog 5 = some .u8 := by kernel_rfl
@[go_sem] theorem ty_aggT5 : aggT Try.prog 5 = none := by kernel_rfl
@[go_sem] theorem ty_zeroC5 : zeroC Try.prog 5 = some #[.int .u8 0] := by kernel_rfl
@[go_sem] theorem ty_size5 : (Try.prog.info? 5).map (·.size) = some 1 := by kernel_rfl
@[go_sem] theorem ty_isStr9 : isStr Try.prog 9 = true := by kernel_rfl
@[go_sem] theorem ty_intK9 : intK Try.prog 9 = none := by kernel_rfl
@[go_sem] theorem ty_aggT9 : aggT Try.prog 9 = none := by kernel_rfl
@[go_sem] theorem ty_zeroC9 : zeroC Try.prog 9 = some #[.string { data := #[] }] := by kernel_rfl
@[go_sem] theorem ty_size9 : (Try.prog.info? 9).map (·.size) = some 1 := by kernel_rfl
@[go_sem] theorem ty_isStr12 : isStr Try.prog 12 = false := by kernel_rfl
@[go_sem] theorem ty_intK12 : intK Try.prog 12 = some .u64 := by kernel_rfl
@[go_sem] theorem ty_aggT12 : aggT Try.prog 12 = none := by kernel_rfl
@[go_sem] theorem ty_zeroC12 : zeroC Try.prog 12 = some #[.int .u64 0] := by kernel_rfl
@[go_sem] theorem ty_size12 : (Try.prog.info? 12).map (·.size) = some 1 := by kernel_rfl
@[go_sem] theorem ty_isStr13 : isStr Try.prog 13 = false := by kernel_rfl
@[go_sem] theorem ty_intK13 : intK Try.prog 13 = none := by kernel_rfl
@[go_sem] theorem ty_aggT13 : aggT Try.prog 13 = some 2 := by kernel_rfl
@[go_sem] theorem ty_zeroC13 : zeroC Try.prog 13 = some #[.string { data := #[] }, .int .u64 0] := by kernel_rfl
@[go_sem] theorem ty_fldO13_0 : fldO Try.prog 13 0 = some (9, 0) := by kernel_rfl
@[go_sem] theorem ty_fldO13_1 : fldO Try.prog 13 1 = some (12, 1) := by kernel_rfl
@[go_sem] theorem ty_stZ13 : stZ Try.prog 13 = some (#[.string { data := #[] }, .int .u64 0], [(0, 1), (1, 1)]) := by kernel_rfl
@[go_sem] theorem ty_size13 : (Try.prog.info? 13).map (·.size) = some 2 := by kernel_rfl
@[go_sem] theorem ty_isStr21 : isStr Try.prog 21 = false := by kernel_rfl
@[go_sem] theorem ty_intK21 : intK Try.prog 21 = some .i32 := by kernel_rfl
@[go_sem] theorem ty_aggT21 : aggT Try.prog 21 = none := by kernel_rfl
@[go_sem] theorem ty_zeroC21 : zeroC Try.prog 21 = some #[.int .i32 0] := by kernel_rfl
@[go_sem] theorem ty_size21 : (Try.prog.info? 21).map (·.size) = some 1 := by kernel_rfl
@[go_sem] theorem ty_isStr22 : isStr Try.prog 22 = false := by kernel_rfl
@[go_sem] theorem ty_intK22 : intK Try.prog 22 = none := by kernel_rfl
@[go_sem] theorem ty_aggT22 : aggT Try.prog 22 = none := by kernel_rfl
@[go_sem] theorem ty_zeroC22 : zeroC Try.prog 22 = some #[.slice none 0 0] := by kernel_rfl
@[go_sem] theorem ty_slE22 : slE Try.prog 22 = some 1 := by kernel_rfl
@[go_sem] theorem ty_slZ22 : slZ Try.prog 22 = some (39, 1, #[.int .u16 0]) := by kernel_rfl
@[go_sem] theorem ty_size22 : (Try.prog.info? 22).map (·.size) = some 1 := by kernel_rfl
@[go_sem] theorem ty_isStr23 : isStr Try.prog 23 = false := by kernel_rfl
@[go_sem] theorem ty_intK23 : intK Try.prog 23 = none := by kernel_rfl
@[go_sem] theorem ty_aggT23 : aggT Try.prog 23 = none := by kernel_rfl
@[go_sem] theorem ty_zeroC23 : zeroC Try.prog 23 = some #[.slice none 0 0] := by kernel_rfl
@[go_sem] theorem ty_slE23 : slE Try.prog 23 = some 1 := by kernel_rfl
@[go_sem] theorem ty_slZ23 : slZ Try.prog 23 = some (39, 1, #[.int .u16 0]) := by kernel_rfl
@[go_sem] theorem ty_size23 : (Try.prog.info? 23).map (·.size) = some 1 := by kernel_rfl
@[go_sem] theorem ty_isStr24 : isStr Try.prog 24 = false := by kernel_rfl
@[go_sem] theorem ty_intK24 : intK Try.prog 24 = some .u64 := by kernel_rfl
@[go_sem] theorem ty_aggT24 : aggT Try.prog 24 = none := by kernel_rfl
@[go_sem] theorem ty_zeroC24 : zeroC Try.prog 24 = some #[.int .u64 0] := by kernel_rfl
@[go_sem] theorem ty_size24 : (Try.prog.info? 24).map (·.size) = some 1 := by kernel_rfl
@[go_sem] theorem ty_isStr35 : isStr Try.prog 35 = false := by kernel_rfl
@[go_sem] theorem ty_intK35 : intK Try.prog 35 = some .i64 := by kernel_rfl
@[go_sem] theorem ty_aggT35 : aggT Try.prog 35 = none := by kernel_rfl
@[go_sem] theorem ty_zeroC35 : zeroC Try.prog 35 = some #[.int .i64 0] := by kernel_rfl
@[go_sem] theorem ty_size35 : (Try.prog.info? 35).map (·.size) = some 1 := by kernel_rfl
@[go_sem] theorem ty_isStr39 : isStr Try.prog 39 = false := by kernel_rfl
@[go_sem] theorem ty_intK39 : intK Try.prog 39 = some .u16 := by kernel_rfl
@[go_sem] theorem ty_aggT39 : aggT Try.prog 39 = none := by kernel_rfl
@[go_sem] theorem ty_zeroC39 : zeroC Try.prog 39 = some #[.int .u16 0] := by kernel_rfl
@[go_sem] theorem ty_size39 : (Try.prog.info? 39).map (·.size) = some 1 := by kernel_rfl
@[go_sem] theorem ty_isStr50 : isStr Try.prog 50 = false := by kernel_rfl
@[go_sem] theorem ty_intK50 : intK Try.prog 50 = none := by kernel_rfl
@[go_sem] theorem ty_aggT50 : aggT Try.prog 50 = none := by kernel_rfl
@[go_sem] theorem ty_zeroC50 : zeroC Try.prog 50 = some #[.slice none 0 0] := by kernel_rfl
@[go_sem] theorem ty_slE50 : slE Try.prog 50 = some 1 := by kernel_rfl
@[go_sem] theorem ty_slZ50 : slZ Try.prog 50 = some (23, 1, #[.slice none 0 0]) := by kernel_rfl
@[go_sem] theorem ty_size50 : (Try.prog.info? 50).map (·.size) = some 1 := by kernel_rfl
@[go_sem] theorem ty_isStr54 : isStr Try.prog 54 = false := by kernel_rfl
@[go_sem] theorem ty_intK54 : intK Try.prog 54 = some .u64 := by kernel_rfl
@[go_sem] theorem ty_aggT54 : aggT Try.prog 54 = none := by kernel_rfl
@[go_sem] theorem ty_zeroC54 : zeroC Try.prog 54 = some #[.int .u64 0] := by kernel_rfl
@[go_sem] theorem ty_size54 : (Try.prog.info? 54).map (·.size) = some 1 := by kernel_rfl
@[go_sem] theorem ty_isStr58 : isStr Try.prog 58 = false := by kernel_rfl
@[go_sem] theorem ty_intK58 : intK Try.prog 58 = some .u32 := by kernel_rfl
@[go_sem] theorem ty_aggT58 : aggT Try.prog 58 = none := by kernel_rfl
@[go_sem] theorem ty_zeroC58 : zeroC Try.prog 58 = some #[.int .u32 0] := by kernel_rfl
@[go_sem] theorem ty_size58 : (Try.prog.info? 58).map (·.size) = some 1 := by kernel_rfl
@[go_sem] theorem ty_isStr59 : isStr Try.prog 59 = false := by kernel_rfl
@[go_sem] theorem ty_intK59 : intK Try.prog 59 = none := by kernel_rfl
@[go_sem] theorem ty_aggT59 : aggT Try.prog 59 = none := by kernel_rfl
@[go_sem] theorem ty_zeroC59 : zeroC Try.prog 59 = some #[.pointer none] := by kernel_rfl
@[go_sem] theorem ty_size59 : (Try.prog.info? 59).map (·.size) = some 1 := by kernel_rfl
@[go_sem] theorem ty_isStr60 : isStr Try.prog 60 = false := by kernel_rfl
@[go_sem] theorem ty_intK60 : intK Try.prog 60 = none := by kernel_rfl
@[go_sem] theorem ty_aggT60 : aggT Try.prog 60 = none := by kernel_rfl
@[go_sem] theorem ty_zeroC60 : zeroC Try.prog 60 = some #[.slice none 0 0] := by kernel_rfl
@[go_sem] theorem ty_slE60 : slE Try.prog 60 = some 1 := by kernel_rfl
@[go_sem] theorem ty_slZ60 : slZ Try.prog 60 = some (5, 1, #[.int .u8 0]) := by kernel_rfl
@[go_sem] theorem ty_size60 : (Try.prog.info? 60).map (·.size) = some 1 := by kernel_rfl
@[go_sem] theorem ty_isStr61 : isStr Try.prog 61 = false := by kernel_rfl
@[go_sem] theorem ty_intK61 : intK Try.prog 61 = none := by kernel_rfl
@[go_sem] theorem ty_aggT61 : aggT Try.prog 61 = some 2 := by kernel_rfl
@[go_sem] theorem ty_zeroC61 : zeroC Try.prog 61 = some #[.pointer none, .slice none 0 0] := by kernel_rfl
@[go_sem] theorem ty_fldO61_0 : fldO Try.prog 61 0 = some (59, 0) := by kernel_rfl
@[go_sem] theorem ty_fldO61_1 : fldO Try.prog 61 1 = some (60, 1) := by kernel_rfl
@[go_sem] theorem ty_stZ61 : stZ Try.prog 61 = some (#[.pointer none, .slice none 0 0], [(0, 1), (1, 1)]) := by kernel_rfl
@[go_sem] theorem ty_size61 : (Try.prog.info? 61).map (·.size) = some 2 := by kernel_rfl
@[go_sem] theorem ty_isStr62 : isStr Try.prog 62 = false := by kernel_rfl
@[go_sem] theorem ty_intK62 : intK Try.prog 62 = none := by kernel_rfl
@[go_sem] theorem ty_aggT62 : aggT Try.prog 62 = some 2 := by kernel_rfl
@[go_sem] theorem ty_zeroC62 : zeroC Try.prog 62 = some #[.pointer none, .slice none 0 0] := by kernel_rfl
@[go_sem] theorem ty_fldO62_0 : fldO Try.prog 62 0 = some (59, 0) := by kernel_rfl
@[go_sem] theorem ty_fldO62_1 : fldO Try.prog 62 1 = some (60, 1) := by kernel_rfl
@[go_sem] theorem ty_stZ62 : stZ Try.prog 62 = some (#[.pointer none, .slice none 0 0], [(0, 1), (1, 1)]) := by kernel_rfl
@[go_sem] theorem ty_size62 : (Try.prog.info? 62).map (·.size) = some 2 := by kernel_rfl
@[go_sem] theorem ty_isStr70 : isStr Try.prog 70 = false := by kernel_rfl
@[go_sem] theorem ty_intK70 : intK Try.prog 70 = none := by kernel_rfl
@[go_sem] theorem ty_aggT70 : aggT Try.prog 70 = none := by kernel_rfl
@[go_sem] theorem ty_zeroC70 : zeroC Try.prog 70 = some #[.pointer none] := by kernel_rfl
@[go_sem] theorem ty_size70 : (Try.prog.info? 70).map (·.size) = some 1 := by kernel_rfl
theorem ty_bytes2 : (Try.prog.info? 2).map (·.bytes) = some 8 := by kernel_rfl
theorem ty_bytes3 : (Try.prog.info? 3).map (·.bytes) = some 8 := by kernel_rfl
theorem ty_bytes4 : (Try.prog.info? 4).map (·.bytes) = some 1 := by kernel_rfl
theorem ty_bytes5 : (Try.prog.info? 5).map (·.bytes) = some 1 := by kernel_rfl
theorem ty_bytes9 : (Try.prog.info? 9).map (·.bytes) = some 16 := by kernel_rfl
theorem ty_bytes12 : (Try.prog.info? 12).map (·.bytes) = some 8 := by kernel_rfl
theorem ty_bytes13 : (Try.prog.info? 13).map (·.bytes) = some 24 := by kernel_rfl
theorem ty_bytes21 : (Try.prog.info? 21).map (·.bytes) = some 4 := by kernel_rfl
theorem ty_bytes22 : (Try.prog.info? 22).map (·.bytes) = some 24 := by kernel_rfl
theorem ty_bytes23 : (Try.prog.info? 23).map (·.bytes) = some 24 := by kernel_rfl
theorem ty_bytes24 : (Try.prog.info? 24).map (·.bytes) = some 8 := by kernel_rfl
theorem ty_bytes35 : (Try.prog.info? 35).map (·.bytes) = some 8 := by kernel_rfl
theorem ty_bytes39 : (Try.prog.info? 39).map (·.bytes) = some 2 := by kernel_rfl
theorem ty_bytes50 : (Try.prog.info? 50).map (·.bytes) = some 24 := by kernel_rfl
theorem ty_bytes54 : (Try.prog.info? 54).map (·.bytes) = some 8 := by kernel_rfl
theorem ty_bytes58 : (Try.prog.info? 58).map (·.bytes) = some 4 := by kernel_rfl
theorem ty_bytes59 : (Try.prog.info? 59).map (·.bytes) = some 8 := by kernel_rfl
theorem ty_bytes60 : (Try.prog.info? 60).map (·.bytes) = some 24 := by kernel_rfl
theorem ty_bytes61 : (Try.prog.info? 61).map (·.bytes) = some 32 := by kernel_rfl
theorem ty_bytes62 : (Try.prog.info? 62).map (·.bytes) = some 32 := by kernel_rfl
theorem ty_bytes65 : (Try.prog.info? 65).map (·.bytes) = some 16 := by kernel_rfl
theorem ty_bytes70 : (Try.prog.info? 70).map (·.bytes) = some 8 := by kernel_rfl
end Go.Proofs.Ytomniiobaonloaa
