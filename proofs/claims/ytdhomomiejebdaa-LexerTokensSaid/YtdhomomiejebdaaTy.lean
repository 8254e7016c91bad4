/- What the tables of types say, for the types that the code names. -/
import Derived.Test.YtdhomomiejebdaaRows
import Derived.Test.YtdhomomiejebdaaV9
namespace Go.Proofs.Ytdhomomiejebdaa
open Go.V
@[go_sem] theorem ty_isStr2 : isStr Try.prog 2 = false := by kernel_rfl
@[go_sem] theorem ty_intK2 : intK Try.prog 2 = some .i64 := by kernel_rfl
@[go_sem] theorem ty_aggT2 : aggT Try.prog 2 = none := by kernel_rfl
@[go_sem] theorem ty_zeroC2 : zeroC Try.prog 2 = some #[.int .i64 0] := by kernel_rfl
@[go_sem] theorem ty_size2 : (Try.prog.info? 2).map (·.size) = some 1 := by kernel_rfl
@[go_sem] theorem ty_isStr3 : isStr Try.prog 3 = false := by kernel_rfl
@[go_sem] theorem ty_intK3 : intK Try.prog 3 = some .i64 := by kernel_rfl
@[go_sem] theorem ty_aggT3 : aggT Try.prog 3 = none := by kernel_rfl
@[go_sem] theorem ty_zeroC3 : zeroC Try.prog 3 = some #[.int .i64 0] := by kernel_rfl
@[go_sem] theorem ty_size3 : (Try.prog.info? 3).map (·.size) = some 1 := by kernel_rfl
@[go_sem] theorem ty_isStr4 : isStr Try.prog 4 = false := by kernel_rfl
@[go_sem] theorem ty_intK4 : intK Try.prog 4 = none := by kernel_rfl
@[go_sem] theorem ty_aggT4 : aggT Try.prog 4 = none := by kernel_rfl
@[go_sem] theorem ty_isBoolT4 : isBoolT Try.prog 4 = true := by kernel_rfl
@[go_sem] theorem ty_zeroC4 : zeroC Try.prog 4 = some #[.bool false] := by kernel_rfl
@[go_sem] theorem ty_size4 : (Try.prog.info? 4).map (·.size) = some 1 := by kernel_rfl
@[go_sem] theorem ty_isStr5 : isStr Try.prog 5 = false := by kernel_rfl
@[go_sem] theorem ty_intK5 : intK Try.prog 5 = some .u8 := by kernel_rfl
@[go_sem] theorem ty_aggT5 : aggT Try.prog 5 = none := by kernel_rfl
@[go_sem] theorem ty_zeroC5 : zeroC Try.prog 5 = some #[.int .u8 0] := by kernel_rfl
@[go_sem] theorem ty_size5 : (Try.prog.info? 5).map (·.size) = some 1 := by kernel_rfl
@[go_sem] theorem ty_isStr9 : isStr Try.prog 9 = true := by kernel_rfl
@[go_sem] theorem ty_intK9 : intK Try.prog 9 = none := by kernel_rfl
@[go_sem] theorem ty_aggT9 : aggT Try.prog 9 = none := by kernel_rfl
@[go_sem] theorem ty_zeroC9 : zeroC Try.prog 9 = some #[.string { data := #[] }] := by kernel_rfl
@[go_sem] theorem ty_size9 : (Try.prog.info? 9).map (·.size) = some 1 := by kernel_rfl
@[go_sem] theorem ty_isStr12 : isStr Try.prog 12 = false := by kernel_rfl
@[go_sem] theorem ty_intK12 : intK Try.prog 12 = some .u64 := by kernel_rfl
@[go_sem] theorem ty_aggT12 : aggT Try.prog 12 = none := by kernel_rfl
@[go_sem] theorem ty_zeroC12 : zeroC Try.prog 12 = some #[.int .u64 0] := by kernel_rfl
@[go_sem] theorem ty_size12 : (Try.prog.info? 12).map (·.size) = some 1 := by kernel_rfl
@[go_sem] theorem ty_isStr13 : isStr Try.prog 13 = false := by kernel_rfl
@[go_sem] theorem ty_intK13 : intK Try.prog 13 = none := by kernel_rfl
@[go_sem] theorem ty_aggT13 : aggT Try.prog 13 = some 2 := by kernel_rfl
@[go_sem] theorem ty_zeroC13 : zeroC Try.prog 13 = some #[.string { data := #[] }, .int .u64 0] := by kernel_rfl
@[go_sem] theorem ty_fldO13_0 : fldO Try.prog 13 0 = some (9, 0) := by kernel_rfl
@[go_sem] theorem ty_fldO13_1 : fldO Try.prog 13 1 = some (12, 1) := by kernel_rfl
@[go_sem] theorem ty_stZ13 : stZ Try.prog 13 = some (#[.string { data := #[] }, .int .u64 0], [(0, 1), (1, 1)]) := by kernel_rfl
@[go_sem] theorem ty_size13 : (Try.prog.info? 13).map (·.size) = some 2 := by kernel_rfl
@[go_sem] theorem ty_isStr21 : isStr Try.prog 21 = false := by kernel_rfl
@[go_sem] theorem ty_intK21 : intK Try.prog 21 = some .i32 := by kernel_rfl
@[go_sem] theorem ty_aggT21 : aggT Try.prog 21 = none := by kernel_rfl
@[go_sem] theorem ty_zeroC21 : zeroC Try.prog 21 = some #[.int .i32 0] := by kernel_rfl
@[go_sem] theorem ty_size21 : (Try.prog.info? 21).map (·.size) = some 1 := by kernel_rfl
@[go_sem] theorem ty_isStr22 : isStr Try.prog 22 = false := by kernel_rfl
@[go_sem] theorem ty_intK22 : intK Try.prog 22 = none := by kernel_rfl
@[go_sem] theorem ty_aggT22 : aggT Try.prog 22 = none := by kernel_rfl
@[go_sem] theorem ty_zeroC22 : zeroC Try.prog 22 = some #[.slice none 0 0] := by kernel_rfl
@[go_sem] theorem ty_slE22 : slE Try.prog 22 = some 1 := by kernel_rfl
@[go_sem] theorem ty_slZ22 : slZ Try.prog 22 = some (9, 1, #[.string { data := #[] }]) := by kernel_rfl
@[go_sem] theorem ty_size22 : (Try.prog.info? 22).map (·.size) = some 1 := by kernel_rfl
@[go_sem] theorem ty_isStr25 : isStr Try.prog 25 = false := by kernel_rfl
@[go_sem] theorem ty_intK25 : intK Try.prog 25 = none := by kernel_rfl
@[go_sem] theorem ty_aggT25 : aggT Try.prog 25 = none := by kernel_rfl
@[go_sem] theorem ty_zeroC25 : zeroC Try.prog 25 = some #[.slice none 0 0] := by kernel_rfl
@[go_sem] theorem ty_slE25 : slE Try.prog 25 = some 4 := by kernel_rfl
@[go_sem] theorem ty_slZ25 : slZ Try.prog 25 = some (31, 4, #[.int .i64 0, .int .i64 0, .int .i64 0, .string { data := #[] }]) := by kernel_rfl
@[go_sem] theorem ty_size25 : (Try.prog.info? 25).map (·.size) = some 1 := by kernel_rfl
@[go_sem] theorem ty_isStr26 : isStr Try.prog 26 = false := by kernel_rfl
@[go_sem] theorem ty_intK26 : intK Try.prog 26 = some .i64 := by kernel_rfl
@[go_sem] theorem ty_aggT26 : aggT Try.prog 26 = none := by kernel_rfl
@[go_sem] theorem ty_zeroC26 : zeroC Try.prog 26 = some #[.int .i64 0] := by kernel_rfl
@[go_sem] theorem ty_size26 : (Try.prog.info? 26).map (·.size) = some 1 := by kernel_rfl
@[go_sem] theorem ty_isStr30 : isStr Try.prog 30 = false := by kernel_rfl
@[go_sem] theorem ty_intK30 : intK Try.prog 30 = none := by kernel_rfl
@[go_sem] theorem ty_aggT30 : aggT Try.prog 30 = some 4 := by kernel_rfl
@[go_sem] theorem ty_zeroC30 : zeroC Try.prog 30 = some #[.int .i64 0, .int .i64 0, .int .i64 0, .string { data := #[] }] := by kernel_rfl
@[go_sem] theorem ty_fldO30_0 : fldO Try.prog 30 0 = some (3, 0) := by kernel_rfl
@[go_sem] theorem ty_fldO30_1 : fldO Try.prog 30 1 = some (3, 1) := by kernel_rfl
@[go_sem] theorem ty_fldO30_2 : fldO Try.prog 30 2 = some (3, 2) := by kernel_rfl
@[go_sem] theorem ty_fldO30_3 : fldO Try.prog 30 3 = some (9, 3) := by kernel_rfl
@[go_sem] theorem ty_stZ30 : stZ Try.prog 30 = some (#[.int .i64 0, .int .i64 0, .int .i64 0, .string { data := #[] }], [(0, 1), (1, 1), (2, 1), (3, 1)]) := by kernel_rfl
@[go_sem] theorem ty_size30 : (Try.prog.info? 30).map (·.size) = some 4 := by kernel_rfl
@[go_sem] theorem ty_isStr31 : isStr Try.prog 31 = false := by kernel_rfl
@[go_sem] theorem ty_intK31 : intK Try.prog 31 = none := by kernel_rfl
@[go_sem] theorem ty_aggT31 : aggT Try.prog 31 = some 4 := by kernel_rfl
@[go_sem] theorem ty_zeroC31 : zeroC Try.prog 31 = some #[.int .i64 0, .int .i64 0, .int .i64 0, .string { data := #[] }] := by kernel_rfl
@[go_sem] theorem ty_fldO31_0 : fldO Try.prog 31 0 = some (3, 0) := by kernel_rfl
@[go_sem] theorem ty_fldO31_1 : fldO Try.prog 31 1 = some (3, 1) := by kernel_rfl
@[go_sem] theorem ty_fldO31_2 : fldO Try.prog 31 2 = some (3, 2) := by kernel_rfl
@[go_sem] theorem ty_fldO31_3 : fldO Try.prog 31 3 = some (9, 3) := by kernel_rfl
@[go_sem] theorem ty_stZ31 : stZ Try.prog 31 = some (#[.int .i64 0, .int .i64 0, .int .i64 0, .string { data := #[] }], [(0, 1), (1, 1), (2, 1), (3, 1)]) := by kernel_rfl
@[go_sem] theorem ty_size31 : (Try.prog.info? 31).map (·.size) = some 4 := by kernel_rfl
@[go_sem] theorem ty_isStr48 : isStr Try.prog 48 = false := by kernel_rfl
@[go_sem] theorem ty_intK48 : intK Try.prog 48 = some .u32 := by kernel_rfl
@[go_sem] theorem ty_aggT48 : aggT Try.prog 48 = none := by kernel_rfl
@[go_sem] theorem ty_zeroC48 : zeroC Try.prog 48 = some #[.int .u32 0] := by kernel_rfl
@[go_sem] theorem ty_size48 : (Try.prog.info? 48).map (·.size) = some 1 := by kernel_rfl
@[go_sem] theorem ty_isStr52 : isStr Try.prog 52 = false := by kernel_rfl
@[go_sem] theorem ty_intK52 : intK Try.prog 52 = none := by kernel_rfl
@[go_sem] theorem ty_aggT52 : aggT Try.prog 52 = none := by kernel_rfl
@[go_sem] theorem ty_zeroC52 : zeroC Try.prog 52 = some #[.pointer none] := by kernel_rfl
@[go_sem] theorem ty_size52 : (Try.prog.info? 52).map (·.size) = some 1 := by kernel_rfl
theorem ty_bytes2 : (Try.prog.info? 2).map (·.bytes) = some 8 := by kernel_rfl
theorem ty_bytes3 : (Try.prog.info? 3).map (·.bytes) = some 8 := by kernel_rfl
theorem ty_bytes4 : (Try.prog.info? 4).map (·.bytes) = some 1 := by kernel_rfl
theorem ty_bytes5 : (Try.prog.info? 5).map (·.bytes) = some 1 := by kernel_rfl
theorem ty_bytes9 : (Try.prog.info? 9).map (·.bytes) = some 16 := by kernel_rfl
theorem ty_bytes12 : (Try.prog.info? 12).map (·.bytes) = some 8 := by kernel_rfl
theorem ty_bytes13 : (Try.prog.info? 13).map (·.bytes) = some 24 := by kernel_rfl
theorem ty_bytes21 : (Try.prog.info? 21).map (·.bytes) = some 4 := by kernel_rfl
theorem ty_bytes22 : (Try.prog.info? 22).map (·.bytes) = some 24 := by kernel_rfl
theorem ty_bytes25 : (Try.prog.info? 25).map (·.bytes) = some 24 := by kernel_rfl
theorem ty_bytes26 : (Try.prog.info? 26).map (·.bytes) = some 8 := by kernel_rfl
theorem ty_bytes30 : (Try.prog.info? 30).map (·.bytes) = some 40 := by kernel_rfl
theorem ty_bytes31 : (Try.prog.info? 31).map (·.bytes) = some 40 := by kernel_rfl
theorem ty_bytes48 : (Try.prog.info? 48).map (·.bytes) = some 4 := by kernel_rfl
theorem ty_bytes52 : (Try.prog.info? 52).map (·.bytes) = some 8 := by kernel_rfl
end Go.Proofs.Ytdhomomiejebdaa
