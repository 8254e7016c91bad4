/- What the tables of types say, for the types that the code names. -/
import Derived.Test.YtocdcpkdcljabaaRows
import Derived.Test.YtocdcpkdcljabaaVE
namespace Go.Proofs.Ytocdcpkdcljabaa
open Go.V
@[go_sem] theorem ty_isStr2 : isStr Try.prog 2 = false := by kernel_rfl
@[go_sem] theorem ty_intK2 : intK Try.prog 2 = some .i64 := by kernel_rfl
@[go_sem] theorem ty_aggT2 : aggT Try.prog 2 = none := by kernel_rfl
@[go_sem] theorem ty_zeroC2 : zeroC Try.prog 2 = some #[.int .i64 0] := by kernel_rfl
@[go_sem] theorem ty_size2 : (Try.prog.info? 2).map (·.size) = some 1 := by kernel_rfl
@[go_sem] theorem ty_isStr3 : isStr Try.prog 3 = false := by kernel_rfl
@[go_sem] theorem ty_intK3 : intK Try.prog 3 = some .i64 := by kernel_rfl
@[go_sem] theorem ty_aggT3 : aggT Try.prog 3 = none := by kernel_rfl
@[go_sem] theorem ty_zeroC3 : zeroC Try.prog 3 = some #[.int .i64 0] := by kernel_rfl
@[go_sem] theorem ty_size3 : (Try.prog.info? 3).map (·.size) = some 1 := by kernel_rfl
@[go_sem] theorem ty_isStr4 : isStr Try.prog 4 = false := by kernel_rfl
@[go_sem] theorem ty_intK4 : intK Try.prog 4 = none := by kernel_rfl
@[go_sem] theorem ty_aggT4 : aggT Try.prog 4 = none := by kernel_rfl
@[go_sem] theorem ty_isBoolT4 : isBoolT Try.prog 4 = true := by kernel_rfl
@[go_sem] theorem ty_zeroC4 : zeroC Try.prog 4 = some #[.bool false] := by kernel_rfl
@[go_sem] theorem ty_size4 : (Try.prog.info? 4).map (·.size) = some 1 := by kernel_rfl
@[go_sem] theorem ty_isStr5 : isStr Try.prog 5 = false := by kernel_rfl
@[go_sem] theorem ty_intK5 : intK Try.prog 5 = some .u8 := by kernel_rfl
@[go_sem] theorem ty_aggT5 : aggT Try.prog 5 = none := by kernel_rfl
@[go_sem] theorem ty_zeroC5 : zeroC Try.prog 5 = some #[.int .u8 0] := by kernel_rfl
@[go_sem] theorem ty_size5 : (Try.prog.info? 5).map (·.size) = some 1 := by kernel_rfl
@[go_sem] theorem ty_isStr9 : isStr Try.prog 9 = true := by kernel_rfl
@[go_sem] theorem ty_intK9 : intK Try.prog 9 = none := by kernel_rfl
@[go_sem] theorem ty_aggT9 : aggT Try.prog 9 = none := by kernel_rfl
@[go_sem] theorem ty_zeroC9 : zeroC Try.prog 9 = some #[.string { data := #[] }] := by kernel_rfl
@[go_sem] theorem ty_size9 : (Try.prog.info? 9).map (·.size) = some 1 := by kernel_rfl
@[go_sem] theorem ty_isStr12 : isStr Try.prog 12 = false := by kernel_rfl
@[go_sem] theorem ty_intK12 : intK Try.prog 12 = some .u64 := by kernel_rfl
@[go_sem] theorem ty_aggT12 : aggT Try.prog 12 = none := by kernel_rfl
@[go_sem] theorem ty_zeroC12 : zeroC Try.prog 12 = some #[.int .u64 0] := by kernel_rfl
@[go_sem] theorem ty_size12 : (Try.prog.info? 12).map (·.size) = some 1 := by kernel_rfl
@[go_sem] theorem ty_isStr13 : isStr Try.prog 13 = false := by kernel_rfl
@[go_sem] theorem ty_intK13 : intK Try.prog 13 = none := by kernel_rfl
@[go_sem] theorem ty_aggT13 : aggT Try.prog 13 = some 2 := by kernel_rfl
@[go_sem] theorem ty_zeroC13 : zeroC Try.prog 13 = some #[.string { data := #[] }, .int .u64 0] := by kernel_rfl
@[go_sem] theorem ty_fldO13_0 : fldO Try.prog 13 0 = some (9, 0) := by kernel_rfl
@[go_sem] theorem ty_fldO13_1 : fldO Try.prog 13 1 = some (12, 1) := by kernel_rfl
@[go_sem] theorem ty_stZ13 : stZ Try.prog 13 = some (#[.string { data := #[] }, .int .u64 0], [(0, 1), (1, 1)]) := by kernel_rfl
@[go_sem] theorem ty_size13 : (Try.prog.info? 13).map (·.size) = some 2 := by kernel_rfl
@[go_sem] theorem ty_isStr21 : isStr Try.prog 21 = false := by kernel_rfl
@[go_sem] theorem ty_intK21 : intK Try.prog 21 = some .i32 := by kernel_rfl
@[go_sem] theorem ty_aggT21 : aggT Try.prog 21 = none := by kernel_rfl
@[go_sem] theorem ty_zeroC21 : zeroC Try.prog 21 = some #[.int .i32 0] := by kernel_rfl
@[go_sem] theorem ty_size21 : (Try.prog.info? 21).map (·.size) = some 1 := by kernel_rfl
@[go_sem] theorem ty_isStr22 : isStr Try.prog 22 = false := by kernel_rfl
@[go_sem] theorem ty_intK22 : intK Try.prog 22 = none := by kernel_rfl
@[go_sem] theorem ty_aggT22 : aggT Try.prog 22 = none := by kernel_rfl
@[go_sem] theorem ty_zeroC22 : zeroC Try.prog 22 = some #[.slice none 0 0] := by kernel_rfl
@[go_sem] theorem ty_slE22 : slE Try.prog 22 = some 1 := by kernel_rfl
@[go_sem] theorem ty_slZ22 : slZ Try.prog 22 = some (46, 1, #[.int .u16 0]) := by kernel_rfl
@[go_sem] theorem ty_size22 : (Try.prog.info? 22).map (·.size) = some 1 := by kernel_rfl
@[go_sem] theorem ty_isStr23 : isStr Try.prog 23 = false := by kernel_rfl
@[go_sem] theorem ty_intK23 : intK Try.prog 23 = none := by kernel_rfl
@[go_sem] theorem ty_aggT23 : aggT Try.prog 23 = none := by kernel_rfl
@[go_sem] theorem ty_zeroC23 : zeroC Try.prog 23 = some #[.slice none 0 0] := by kernel_rfl
@[go_sem] theorem ty_slE23 : slE Try.prog 23 = some 1 := by kernel_rfl
@[go_sem] theorem ty_slZ23 : slZ Try.prog 23 = some (46, 1, #[.int .u16 0]) := by kernel_rfl
@[go_sem] theorem ty_size23 : (Try.prog.info? 23).map (·.size) = some 1 := by kernel_rfl
@[go_sem] theorem ty_isStr24 : isStr Try.prog 24 = false := by kernel_rfl
@[go_sem] theorem ty_intK24 : intK Try.prog 24 = none := by kernel_rfl
@[go_sem] theorem ty_aggT24 : aggT Try.prog 24 = some 2 := by kernel_rfl
@[go_sem] theorem ty_zeroC24 : zeroC Try.prog 24 = some #[.bool false, .slice none 0 0] := by kernel_rfl
@[go_sem] theorem ty_fldO24_0 : fldO Try.prog 24 0 = some (4, 0) := by kernel_rfl
@[go_sem] theorem ty_fldO24_1 : fldO Try.prog 24 1 = some (23, 1) := by kernel_rfl
@[go_sem] theorem ty_stZ24 : stZ Try.prog 24 = some (#[.bool false, .slice none 0 0], [(0, 1), (1, 1)]) := by kernel_rfl
@[go_sem] theorem ty_size24 : (Try.prog.info? 24).map (·.size) = some 2 := by kernel_rfl
@[go_sem] theorem ty_isStr25 : isStr Try.prog 25 = false := by kernel_rfl
@[go_sem] theorem ty_intK25 : intK Try.prog 25 = none := by kernel_rfl
@[go_sem] theorem ty_aggT25 : aggT Try.prog 25 = some 2 := by kernel_rfl
@[go_sem] theorem ty_zeroC25 : zeroC Try.prog 25 = some #[.bool false, .slice none 0 0] := by kernel_rfl
@[go_sem] theorem ty_fldO25_0 : fldO Try.prog 25 0 = some (4, 0) := by kernel_rfl
@[go_sem] theorem ty_fldO25_1 : fldO Try.prog 25 1 = some (23, 1) := by kernel_rfl
@[go_sem] theorem ty_stZ25 : stZ Try.prog 25 = some (#[.bool false, .slice none 0 0], [(0, 1), (1, 1)]) := by kernel_rfl
@[go_sem] theorem ty_size25 : (Try.prog.info? 25).map (·.size) = some 2 := by kernel_rfl
@[go_sem] theorem ty_isStr35 : isStr Try.prog 35 = false := by kernel_rfl
@[go_sem] theorem ty_intK35 : intK Try.prog 35 = some .i64 := by kernel_rfl
@[go_sem] theorem ty_aggT35 : aggT Try.prog 35 = none := by kernel_rfl
@[go_sem] theorem ty_zeroC35 : zeroC Try.prog 35 = some #[.int .i64 0] := by kernel_rfl
@[go_sem] theorem ty_size35 : (Try.prog.info? 35).map (·.size) = some 1 := by kernel_rfl
@[go_sem] theorem ty_isStr45 : isStr Try.prog 45 = false := by kernel_rfl
@[go_sem] theorem ty_intK45 : intK Try.prog 45 = none := by kernel_rfl
@[go_sem] theorem ty_aggT45 : aggT Try.prog 45 = none := by kernel_rfl
@[go_sem] theorem ty_zeroC45 : zeroC Try.prog 45 = some #[.slice none 0 0] := by kernel_rfl
@[go_sem] theorem ty_slE45 : slE Try.prog 45 = some 2 := by kernel_rfl
@[go_sem] theorem ty_slZ45 : slZ Try.prog 45 = some (25, 2, #[.bool false, .slice none 0 0]) := by kernel_rfl
@[go_sem] theorem ty_size45 : (Try.prog.info? 45).map (·.size) = some 1 := by kernel_rfl
@[go_sem] theorem ty_isStr46 : isStr Try.prog 46 = false := by kernel_rfl
@[go_sem] theorem ty_intK46 : intK Try.prog 46 = some .u16 := by kernel_rfl
@[go_sem] theorem ty_aggT46 : aggT Try.prog 46 = none := by kernel_rfl
@[go_sem] theorem ty_zeroC46 : zeroC Try.prog 46 = some #[.int .u16 0] := by kernel_rfl
@[go_sem] theorem ty_size46 : (Try.prog.info? 46).map (·.size) = some 1 := by kernel_rfl
@[go_sem] theorem ty_isStr53 : isStr Try.prog 53 = false := by kernel_rfl
@[go_sem] theorem ty_intK53 : intK Try.prog 53 = some .u64 := by kernel_rfl
@[go_sem] theorem ty_aggT53 : aggT Try.prog 53 = none := by kernel_rfl
@[go_sem] theorem ty_zeroC53 : zeroC Try.prog 53 = some #[.int .u64 0] := by kernel_rfl
@[go_sem] theorem ty_size53 : (Try.prog.info? 53).map (·.size) = some 1 := by kernel_rfl
@[go_sem] theorem ty_isStr64 : isStr Try.prog 64 = false := by kernel_rfl
@[go_sem] theorem ty_intK64 : intK Try.prog 64 = some .u64 := by kernel_rfl
@[go_sem] theorem ty_aggT64 : aggT Try.prog 64 = none := by kernel_rfl
@[go_sem] theorem ty_zeroC64 : zeroC Try.prog 64 = some #[.int .u64 0] := by kernel_rfl
@[go_sem] theorem ty_size64 : (Try.prog.info? 64).map (·.size) = some 1 := by kernel_rfl
@[go_sem] theorem ty_isStr68 : isStr Try.prog 68 = false := by kernel_rfl
@[go_sem] theorem ty_intK68 : intK Try.prog 68 = some .u32 := by kernel_rfl
@[go_sem] theorem ty_aggT68 : aggT Try.prog 68 = none := by kernel_rfl
@[go_sem] theorem ty_zeroC68 : zeroC Try.prog 68 = some #[.int .u32 0] := by kernel_rfl
@[go_sem] theorem ty_size68 : (Try.prog.info? 68).map (·.size) = some 1 := by kernel_rfl
@[go_sem] theorem ty_isStr73 : isStr Try.prog 73 = false := by kernel_rfl
@[go_sem] theorem ty_intK73 : intK Try.prog 73 = none := by kernel_rfl
@[go_sem] theorem ty_aggT73 : aggT Try.prog 73 = none := by kernel_rfl
@[go_sem] theorem ty_zeroC73 : zeroC Try.prog 73 = some #[.pointer none] := by kernel_rfl
@[go_sem] theorem ty_size73 : (Try.prog.info? 73).map (·.size) = some 1 := by kernel_rfl
@[go_sem] theorem ty_isStr74 : isStr Try.prog 74 = false := by kernel_rfl
@[go_sem] theorem ty_intK74 : intK Try.prog 74 = none := by kernel_rfl
@[go_sem] theorem ty_aggT74 : aggT Try.prog 74 = none := by kernel_rfl
@[go_sem] theorem ty_zeroC74 : zeroC Try.prog 74 = some #[.slice none 0 0] := by kernel_rfl
@[go_sem] theorem ty_slE74 : slE Try.prog 74 = some 1 := by kernel_rfl
@[go_sem] theorem ty_slZ74 : slZ Try.prog 74 = some (5, 1, #[.int .u8 0]) := by kernel_rfl
@[go_sem] theorem ty_size74 : (Try.prog.info? 74).map (·.size) = some 1 := by kernel_rfl
@[go_sem] theorem ty_isStr75 : isStr Try.prog 75 = false := by kernel_rfl
@[go_sem] theorem ty_intK75 : intK Try.prog 75 = none := by kernel_rfl
@[go_sem] theorem ty_aggT75 : aggT Try.prog 75 = some 2 := by kernel_rfl
@[go_sem] theorem ty_zeroC75 : zeroC Try.prog 75 = some #[.pointer none, .slice none 0 0] := by kernel_rfl
@[go_sem] theorem ty_fldO75_0 : fldO Try.prog 75 0 = some (73, 0) := by kernel_rfl
@[go_sem] theorem ty_fldO75_1 : fldO Try.prog 75 1 = some (74, 1) := by kernel_rfl
@[go_sem] theorem ty_stZ75 : stZ Try.prog 75 = some (#[.pointer none, .slice none 0 0], [(0, 1), (1, 1)]) := by kernel_rfl
@[go_sem] theorem ty_size75 : (Try.prog.info? 75).map (·.size) = some 2 := by kernel_rfl
@[go_sem] theorem ty_isStr76 : isStr Try.prog 76 = false := by kernel_rfl
@[go_sem] theorem ty_intK76 : intK Try.prog 76 = none := by kernel_rfl
@[go_sem] theorem ty_aggT76 : aggT Try.prog 76 = some 2 := by kernel_rfl
@[go_sem] theorem ty_zeroC76 : zeroC Try.prog 76 = some #[.pointer none, .slice none 0 0] := by kernel_rfl
@[go_sem] theorem ty_fldO76_0 : fldO Try.prog 76 0 = some (73, 0) := by kernel_rfl
@[go_sem] theorem ty_fldO76_1 : fldO Try.prog 76 1 = some (74, 1) := by kernel_rfl
@[go_sem] theorem ty_stZ76 : stZ Try.prog 76 = some (#[.pointer none, .slice none 0 0], [(0, 1), (1, 1)]) := by kernel_rfl
@[go_sem] theorem ty_size76 : (Try.prog.info? 76).map (·.size) = some 2 := by kernel_rfl
@[go_sem] theorem ty_isStr84 : isStr Try.prog 84 = false := by kernel_rfl
@[go_sem] theorem ty_intK84 : intK Try.prog 84 = none := by kernel_rfl
@[go_sem] theorem ty_aggT84 : aggT Try.prog 84 = none := by kernel_rfl
@[go_sem] theorem ty_zeroC84 : zeroC Try.prog 84 = some #[.pointer none] := by kernel_rfl
@[go_sem] theorem ty_size84 : (Try.prog.info? 84).map (·.size) = some 1 := by kernel_rfl
theorem ty_bytes2 : (Try.prog.info? 2).map (·.bytes) = some 8 := by kernel_rfl
theorem ty_bytes3 : (Try.prog.info? 3).map (·.bytes) = some 8 := by kernel_rfl
theorem ty_bytes4 : (Try.prog.info? 4).map (·.bytes) = some 1 := by kernel_rfl
theorem ty_bytes5 : (Try.prog.info? 5).map (·.bytes) = some 1 := by kernel_rfl
theorem ty_bytes9 : (Try.prog.info? 9).map (·.bytes) = some 16 := by kernel_rfl
theorem ty_bytes12 : (Try.prog.info? 12).map (·.bytes) = some 8 := by kernel_rfl
theorem ty_bytes13 : (Try.prog.info? 13).map (·.bytes) = some 24 := by kernel_rfl
theorem ty_bytes21 : (Try.prog.info? 21).map (·.bytes) = some 4 := by kernel_rfl
theorem ty_bytes22 : (Try.prog.info? 22).map (·.bytes) = some 24 := by kernel_rfl
theorem ty_bytes23 : (Try.prog.info? 23).map (·.bytes) = some 24 := by kernel_rfl
theorem ty_bytes24 : (Try.prog.info? 24).map (·.bytes) = some 32 := by kernel_rfl
theorem ty_bytes25 : (Try.prog.info? 25).map (·.bytes) = some 32 := by kernel_rfl
theorem ty_bytes35 : (Try.prog.info? 35).map (·.bytes) = some 8 := by kernel_rfl
theorem ty_bytes45 : (Try.prog.info? 45).map (·.bytes) = some 24 := by kernel_rfl
theorem ty_bytes46 : (Try.prog.info? 46).map (·.bytes) = some 2 := by kernel_rfl
theorem ty_bytes53 : (Try.prog.info? 53).map (·.bytes) = some 8 := by kernel_rfl
theorem ty_bytes64 : (Try.prog.info? 64).map (·.bytes) = some 8 := by kernel_rfl
theorem ty_bytes68 : (Try.prog.info? 68).map (·.bytes) = some 4 := by kernel_rfl
theorem ty_bytes73 : (Try.prog.info? 73).map (·.bytes) = some 8 := by kernel_rfl
theorem ty_bytes74 : (Try.prog.info? 74).map (·.bytes) = some 24 := by kernel_rfl
theorem ty_bytes75 : (Try.prog.info? 75).map (·.bytes) = some 32 := by kernel_rfl
theorem ty_bytes76 : (Try.prog.info? 76).map (·.bytes) = some 32 := by kernel_rfl
theorem ty_bytes79 : (Try.prog.info? 79).map (·.bytes) = some 16 := by kernel_rfl
theorem ty_bytes84 : (Try.prog.info? 84).map (·.bytes) = some 8 := by kernel_rfl
end Go.Proofs.Ytocdcpkdcljabaa
