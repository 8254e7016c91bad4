/- What the tables of types say, for the types that the code names. -/
import Derived.Test.YtifgdiejpglhfaaGreatRows
import Derived.Test.YtifgdiejpglhfaaGreatVE
namespace Go.Proofs.YtifgdiejpglhfaaGreat
open Go.V
@[go_sem] theorem ty_isStr2 : isStr Tryz.prog 2 = false := by kernel_rfl
@[go_sem] theorem ty_intK2 : intK Tryz.prog 2 = some .i64 := by kernel_rfl
@[go_sem] theorem ty_aggT2 : aggT Tryz.prog 2 = none := by kernel_rfl
@[go_sem] theorem ty_zeroC2 : zeroC Tryz.prog 2 = some #[.int .i64 0] := by kernel_rfl
@[go_sem] theorem ty_size2 : (Tryz.prog.info? 2).map (·.size) = some 1 := by kernel_rfl
@[go_sem] theorem ty_isStr3 : isStr Tryz.prog 3 = false := by kernel_rfl
@[go_sem] theorem ty_intK3 : intK Tryz.prog 3 = some .i64 := by kernel_rfl
@[go_sem] theorem ty_aggT3 : aggT Tryz.prog 3 = none := by kernel_rfl
@[go_sem] theorem ty_zeroC3 : zeroC Tryz.prog 3 = some #[.int .i64 0] := by kernel_rfl
@[go_sem] theorem ty_size3 : (Tryz.prog.info? 3).map (·.size) = some 1 := by kernel_rfl
@[go_sem] theorem ty_isStr4 : isStr Tryz.prog 4 = false := by kernel_rfl
@[go_sem] theorem ty_intK4 : intK Tryz.prog 4 = none := by kernel_rfl
@[go_sem] theorem ty_aggT4 : aggT Tryz.prog 4 = none := by kernel_rfl
@[go_sem] theorem ty_isBoolT4 : isBoolT Tryz.prog 4 = true := by kernel_rfl
@[go_sem] theorem ty_zeroC4 : zeroC Tryz.prog 4 = some #[.bool false] := by kernel_rfl
@[go_sem] theorem ty_size4 : (Tryz.prog.info? 4).map (·.size) = some 1 := by kernel_rfl
@[go_sem] theorem ty_isStr5 : isStr Tryz.prog 5 = false := by kernel_rfl
@[go_sem] theorem ty_intK5 : intK Tryz.prog 5 = some .u8 := by kernel_rfl
@[go_sem] theorem ty_aggT5 : aggT Tryz.prog 5 = none := by kernel_rfl
@[go_sem] theorem ty_zeroC5 : zeroC Tryz.prog 5 = some #[.int .u8 0] := by kernel_rfl
@[go_sem] theorem ty_size5 : (Tryz.prog.info? 5).map (·.size) = some 1 := by kernel_rfl
@[go_sem] theorem ty_isStr9 : isStr Tryz.prog 9 = true := by kernel_rfl
@[go_sem] theorem ty_intK9 : intK Tryz.prog 9 = none := by kernel_rfl
@[go_sem] theorem ty_aggT9 : aggT Tryz.prog 9 = none := by kernel_rfl
@[go_sem] theorem ty_zeroC9 : zeroC Tryz.prog 9 = some #[.string { data := #[] }] := by kernel_rfl
@[go_sem] theorem ty_size9 : (Tryz.prog.info? 9).map (·.size) = some 1 := by kernel_rfl
@[go_sem] theorem ty_isStr12 : isStr Tryz.prog 12 = false := by kernel_rfl
@[go_sem] theorem ty_intK12 : intK Tryz.prog 12 = some .u64 := by kernel_rfl
@[go_sem] theorem ty_aggT12 : aggT Tryz.prog 12 = none := by kernel_rfl
@[go_sem] theorem ty_zeroC12 : zeroC Tryz.prog 12 = some #[.int .u64 0] := by kernel_rfl
@[go_sem] theorem ty_size12 : (Tryz.prog.info? 12).map (·.size) = some 1 := by kernel_rfl
@[go_sem] theorem ty_isStr13 : isStr Tryz.prog 13 = false := by kernel_rfl
@[go_sem] theorem ty_intK13 : intK Tryz.prog 13 = none := by kernel_rfl
@[go_sem] theorem ty_aggT13 : aggT Tryz.prog 13 = some 2 := by kernel_rfl
@[go_sem] theorem ty_zeroC13 : zeroC Tryz.prog 13 = some #[.string { data := #[] }, .int .u64 0] := by kernel_rfl
@[go_sem] theorem ty_fldO13_0 : fldO Tryz.prog 13 0 = some (9, 0) := by kernel_rfl
@[go_sem] theorem ty_fldO13_1 : fldO Tryz.prog 13 1 = some (12, 1) := by kernel_rfl
@[go_sem] theorem ty_stZ13 : stZ Tryz.prog 13 = some (#[.string { data := #[] }, .int .u64 0], [(0, 1), (1, 1)]) := by kernel_rfl
@[go_sem] theorem ty_size13 : (Tryz.prog.info? 13).map (·.size) = some 2 := by kernel_rfl
@[go_sem] theorem ty_isStr21 : isStr Tryz.prog 21 = false := by kernel_rfl
@[go_sem] theorem ty_intK21 : intK Tryz.prog 21 = some .i32 := by kernel_rfl
@[go_sem] theorem ty_aggT21 : aggT Tryz.prog 21 = none := by kernel_rfl
@[go_sem] theorem ty_zeroC21 : zeroC Tryz.prog 21 = some #[.int .i32 0] := by kernel_rfl
@[go_sem] theorem ty_size21 : (Tryz.prog.info? 21).map (·.size) = some 1 := by kernel_rfl
@[go_sem] theorem ty_isStr22 : isStr Tryz.prog 22 = false := by kernel_rfl
@[go_sem] theorem ty_intK22 : intK Tryz.prog 22 = none := by kernel_rfl
@[go_sem] theorem ty_aggT22 : aggT Tryz.prog 22 = none := by kernel_rfl
@[go_sem] theorem ty_zeroC22 : zeroC Tryz.prog 22 = some #[.slice none 0 0] := by kernel_rfl
@[go_sem] theorem ty_slE22 : slE Tryz.prog 22 = some 1 := by kernel_rfl
@[go_sem] theorem ty_slZ22 : slZ Tryz.prog 22 = some (96, 1, #[.int .u16 0]) := by kernel_rfl
@[go_sem] theorem ty_size22 : (Tryz.prog.info? 22).map (·.size) = some 1 := by kernel_rfl
@[go_sem] theorem ty_isStr23 : isStr Tryz.prog 23 = false := by kernel_rfl
@[go_sem] theorem ty_intK23 : intK Tryz.prog 23 = none := by kernel_rfl
@[go_sem] theorem ty_aggT23 : aggT Tryz.prog 23 = none := by kernel_rfl
@[go_sem] theorem ty_zeroC23 : zeroC Tryz.prog 23 = some #[.slice none 0 0] := by kernel_rfl
@[go_sem] theorem ty_slE23 : slE Tryz.prog 23 = some 1 := by kernel_rfl
@[go_sem] theorem ty_slZ23 : slZ Tryz.prog 23 = some (96, 1, #[.int .u16 0]) := by kernel_rfl
@[go_sem] theorem ty_size23 : (Tryz.prog.info? 23).map (·.size) = some 1 := by kernel_rfl
@[go_sem] theorem ty_isStr24 : isStr Tryz.prog 24 = false := by kernel_rfl
@[go_sem] theorem ty_intK24 : intK Tryz.prog 24 = none := by kernel_rfl
@[go_sem] theorem ty_aggT24 : aggT Tryz.prog 24 = some 2 := by kernel_rfl
@[go_sem] theorem ty_zeroC24 : zeroC Tryz.prog 24 = some #[.bool false, .slice none 0 0] := by kernel_rfl
@[go_sem] theorem ty_fldO24_0 : fldO Tryz.prog 24 0 = some (4, 0) := by kernel_rfl
@[go_sem] theorem ty_fldO24_1 : fldO Tryz.prog 24 1 = some (23, 1) := by kernel_rfl
@[go_sem] theorem ty_stZ24 : stZ Tryz.prog 24 = some (#[.bool false, .slice none 0 0], [(0, 1), (1, 1)]) := by kernel_rfl
@[go_sem] theorem ty_size24 : (Tryz.prog.info? 24).map (·.size) = some 2 := by kernel_rfl
@[go_sem] theorem ty_isStr25 : isStr Tryz.prog 25 = false := by kernel_rfl
@[go_sem] theorem ty_intK25 : intK Tryz.prog 25 = none := by kernel_rfl
@[go_sem] theorem ty_aggT25 : aggT Tryz.prog 25 = some 2 := by kernel_rfl
@[go_sem] theorem ty_zeroC25 : zeroC Tryz.prog 25 = some #[.bool false, .slice none 0 0] := by kernel_rfl
@[go_sem] theorem ty_fldO25_0 : fldO Tryz.prog 25 0 = some (4, 0) := by kernel_rfl
@[go_sem] theorem ty_fldO25_1 : fldO Tryz.prog 25 1 = some (23, 1) := by kernel_rfl
@[go_sem] theorem ty_stZ25 : stZ Tryz.prog 25 = some (#[.bool false, .slice none 0 0], [(0, 1), (1, 1)]) := by kernel_rfl
@[go_sem] theorem ty_size25 : (Tryz.prog.info? 25).map (·.size) = some 2 := by kernel_rfl
@[go_sem] theorem ty_isStr26 : isStr Tryz.prog 26 = false := by kernel_rfl
@[go_sem] theorem ty_intK26 : intK Tryz.prog 26 = none := by kernel_rfl
@[go_sem] theorem ty_aggT26 : aggT Tryz.prog 26 = some 3 := by kernel_rfl
@[go_sem] theorem ty_zeroC26 : zeroC Tryz.prog 26 = some #[.bool false, .slice none 0 0, .slice none 0 0] := by kernel_rfl
@[go_sem] theorem ty_fldO26_0 : fldO Tryz.prog 26 0 = some (25, 0) := by kernel_rfl
@[go_sem] theorem ty_fldO26_1 : fldO Tryz.prog 26 1 = some (23, 2) := by kernel_rfl
@[go_sem] theorem ty_stZ26 : stZ Tryz.prog 26 = some (#[.bool false, .slice none 0 0, .slice none 0 0], [(0, 2), (2, 1)]) := by kernel_rfl
@[go_sem] theorem ty_size26 : (Tryz.prog.info? 26).map (·.size) = some 3 := by kernel_rfl
@[go_sem] theorem ty_isStr27 : isStr Tryz.prog 27 = false := by kernel_rfl
@[go_sem] theorem ty_intK27 : intK Tryz.prog 27 = none := by kernel_rfl
@[go_sem] theorem ty_aggT27 : aggT Tryz.prog 27 = some 3 := by kernel_rfl
@[go_sem] theorem ty_zeroC27 : zeroC Tryz.prog 27 = some #[.bool false, .slice none 0 0, .slice none 0 0] := by kernel_rfl
@[go_sem] theorem ty_fldO27_0 : fldO Tryz.prog 27 0 = some (25, 0) := by kernel_rfl
@[go_sem] theorem ty_fldO27_1 : fldO Tryz.prog 27 1 = some (23, 2) := by kernel_rfl
@[go_sem] theorem ty_stZ27 : stZ Tryz.prog 27 = some (#[.bool false, .slice none 0 0, .slice none 0 0], [(0, 2), (2, 1)]) := by kernel_rfl
@[go_sem] theorem ty_size27 : (Tryz.prog.info? 27).map (·.size) = some 3 := by kernel_rfl
@[go_sem] theorem ty_isStr28 : isStr Tryz.prog 28 = false := by kernel_rfl
@[go_sem] theorem ty_intK28 : intK Tryz.prog 28 = none := by kernel_rfl
@[go_sem] theorem ty_aggT28 : aggT Tryz.prog 28 = some 6 := by kernel_rfl
@[go_sem] theorem ty_zeroC28 : zeroC Tryz.prog 28 = some #[.bool false, .slice none 0 0, .slice none 0 0, .bool false, .slice none 0 0, .slice none 0 0] := by kernel_rfl
@[go_sem] theorem ty_fldO28_0 : fldO Tryz.prog 28 0 = some (27, 0) := by kernel_rfl
@[go_sem] theorem ty_fldO28_1 : fldO Tryz.prog 28 1 = some (27, 3) := by kernel_rfl
@[go_sem] theorem ty_stZ28 : stZ Tryz.prog 28 = some (#[.bool false, .slice none 0 0, .slice none 0 0, .bool false, .slice none 0 0, .slice none 0 0], [(0, 3), (3, 3)]) := by kernel_rfl
@[go_sem] theorem ty_size28 : (Tryz.prog.info? 28).map (·.size) = some 6 := by kernel_rfl
@[go_sem] theorem ty_isStr29 : isStr Tryz.prog 29 = false := by kernel_rfl
@[go_sem] theorem ty_intK29 : intK Tryz.prog 29 = none := by kernel_rfl
@[go_sem] theorem ty_aggT29 : aggT Tryz.prog 29 = some 6 := by kernel_rfl
@[go_sem] theorem ty_zeroC29 : zeroC Tryz.prog 29 = some #[.bool false, .slice none 0 0, .slice none 0 0, .bool false, .slice none 0 0, .slice none 0 0] := by kernel_rfl
@[go_sem] theorem ty_fldO29_0 : fldO Tryz.prog 29 0 = some (27, 0) := by kernel_rfl
@[go_sem] theorem ty_fldO29_1 : fldO Tryz.prog 29 1 = some (27, 3) := by kernel_rfl
@[go_sem] theorem ty_stZ29 : stZ Tryz.prog 29 = some (#[.bool false, .slice none 0 0, .slice none 0 0, .bool false, .slice none 0 0, .slice none 0 0], [(0, 3), (3, 3)]) := by kernel_rfl
@[go_sem] theorem ty_size29 : (Tryz.prog.info? 29).map (·.size) = some 6 := by kernel_rfl
@[go_sem] theorem ty_isStr32 : isStr Tryz.prog 32 = false := by kernel_rfl
@[go_sem] theorem ty_intK32 : intK Tryz.prog 32 = some .i64 := by kernel_rfl
@[go_sem] theorem ty_aggT32 : aggT Tryz.prog 32 = none := by kernel_rfl
@[go_sem] theorem ty_zeroC32 : zeroC Tryz.prog 32 = some #[.int .i64 0] := by kernel_rfl
@[go_sem] theorem ty_size32 : (Tryz.prog.info? 32).map (·.size) = some 1 := by kernel_rfl
@[go_sem] theorem ty_isStr48 : isStr Tryz.prog 48 = false := by kernel_rfl
@[go_sem] theorem ty_intK48 : intK Tryz.prog 48 = none := by kernel_rfl
@[go_sem] theorem ty_aggT48 : aggT Tryz.prog 48 = none := by kernel_rfl
@[go_sem] theorem ty_zeroC48 : zeroC Tryz.prog 48 = some #[.slice none 0 0] := by kernel_rfl
@[go_sem] theorem ty_slE48 : slE Tryz.prog 48 = some 6 := by kernel_rfl
@[go_sem] theorem ty_slZ48 : slZ Tryz.prog 48 = some (29, 6, #[.bool false, .slice none 0 0, .slice none 0 0, .bool false, .slice none 0 0, .slice none 0 0]) := by kernel_rfl
@[go_sem] theorem ty_size48 : (Tryz.prog.info? 48).map (·.size) = some 1 := by kernel_rfl
@[go_sem] theorem ty_isStr63 : isStr Tryz.prog 63 = false := by kernel_rfl
@[go_sem] theorem ty_intK63 : intK Tryz.prog 63 = none := by kernel_rfl
@[go_sem] theorem ty_aggT63 : aggT Tryz.prog 63 = none := by kernel_rfl
@[go_sem] theorem ty_zeroC63 : zeroC Tryz.prog 63 = some #[.slice none 0 0] := by kernel_rfl
@[go_sem] theorem ty_slE63 : slE Tryz.prog 63 = some 3 := by kernel_rfl
@[go_sem] theorem ty_slZ63 : slZ Tryz.prog 63 = some (27, 3, #[.bool false, .slice none 0 0, .slice none 0 0]) := by kernel_rfl
@[go_sem] theorem ty_size63 : (Tryz.prog.info? 63).map (·.size) = some 1 := by kernel_rfl
@[go_sem] theorem ty_isStr67 : isStr Tryz.prog 67 = false := by kernel_rfl
@[go_sem] theorem ty_intK67 : intK Tryz.prog 67 = some .u64 := by kernel_rfl
@[go_sem] theorem ty_aggT67 : aggT Tryz.prog 67 = none := by kernel_rfl
@[go_sem] theorem ty_zeroC67 : zeroC Tryz.prog 67 = some #[.int .u64 0] := by kernel_rfl
@[go_sem] theorem ty_size67 : (Tryz.prog.info? 67).map (·.size) = some 1 := by kernel_rfl
@[go_sem] theorem ty_isStr74 : isStr Tryz.prog 74 = false := by kernel_rfl
@[go_sem] theorem ty_intK74 : intK Tryz.prog 74 = none := by kernel_rfl
@[go_sem] theorem ty_aggT74 : aggT Tryz.prog 74 = some 2 := by kernel_rfl
@[go_sem] theorem ty_zeroC74 : zeroC Tryz.prog 74 = some #[.int .i64 0, .int .i64 0] := by kernel_rfl
@[go_sem] theorem ty_fldO74_0 : fldO Tryz.prog 74 0 = some (3, 0) := by kernel_rfl
@[go_sem] theorem ty_fldO74_1 : fldO Tryz.prog 74 1 = some (3, 1) := by kernel_rfl
@[go_sem] theorem ty_stZ74 : stZ Tryz.prog 74 = some (#[.int .i64 0, .int .i64 0], [(0, 1), (1, 1)]) := by kernel_rfl
@[go_sem] theorem ty_size74 : (Tryz.prog.info? 74).map (·.size) = some 2 := by kernel_rfl
@[go_sem] theorem ty_isStr75 : isStr Tryz.prog 75 = false := by kernel_rfl
@[go_sem] theorem ty_intK75 : intK Tryz.prog 75 = none := by kernel_rfl
@[go_sem] theorem ty_aggT75 : aggT Tryz.prog 75 = some 2 := by kernel_rfl
@[go_sem] theorem ty_zeroC75 : zeroC Tryz.prog 75 = some #[.int .i64 0, .int .i64 0] := by kernel_rfl
@[go_sem] theorem ty_fldO75_0 : fldO Tryz.prog 75 0 = some (3, 0) := by kernel_rfl
@[go_sem] theorem ty_fldO75_1 : fldO Tryz.prog 75 1 = some (3, 1) := by kernel_rfl
@[go_sem] theorem ty_stZ75 : stZ Tryz.prog 75 = some (#[.int .i64 0, .int .i64 0], [(0, 1), (1, 1)]) := by kernel_rfl
@[go_sem] theorem ty_size75 : (Tryz.prog.info? 75).map (·.size) = some 2 := by kernel_rfl
@[go_sem] theorem ty_isStr96 : isStr Tryz.prog 96 = false := by kernel_rfl
@[go_sem] theorem ty_intK96 : intK Tryz.prog 96 = some .u16 := by kernel_rfl
@[go_sem] theorem ty_aggT96 : aggT Tryz.prog 96 = none := by kernel_rfl
@[go_sem] theorem ty_zeroC96 : zeroC Tryz.prog 96 = some #[.int .u16 0] := by kernel_rfl
@[go_sem] theorem ty_size96 : (Tryz.prog.info? 96).map (·.size) = some 1 := by kernel_rfl
@[go_sem] theorem ty_isStr110 : isStr Tryz.prog 110 = false := by kernel_rfl
@[go_sem] theorem ty_intK110 : intK Tryz.prog 110 = none := by kernel_rfl
@[go_sem] theorem ty_aggT110 : aggT Tryz.prog 110 = some 2 := by kernel_rfl
@[go_sem] theorem ty_zeroC110 : zeroC Tryz.prog 110 = some #[.int .i64 0, .int .u16 0] := by kernel_rfl
@[go_sem] theorem ty_fldO110_0 : fldO Tryz.prog 110 0 = some (3, 0) := by kernel_rfl
@[go_sem] theorem ty_fldO110_1 : fldO Tryz.prog 110 1 = some (96, 1) := by kernel_rfl
@[go_sem] theorem ty_stZ110 : stZ Tryz.prog 110 = some (#[.int .i64 0, .int .u16 0], [(0, 1), (1, 1)]) := by kernel_rfl
@[go_sem] theorem ty_size110 : (Tryz.prog.info? 110).map (·.size) = some 2 := by kernel_rfl
@[go_sem] theorem ty_isStr111 : isStr Tryz.prog 111 = false := by kernel_rfl
@[go_sem] theorem ty_intK111 : intK Tryz.prog 111 = none := by kernel_rfl
@[go_sem] theorem ty_aggT111 : aggT Tryz.prog 111 = some 2 := by kernel_rfl
@[go_sem] theorem ty_zeroC111 : zeroC Tryz.prog 111 = some #[.int .i64 0, .int .u16 0] := by kernel_rfl
@[go_sem] theorem ty_fldO111_0 : fldO Tryz.prog 111 0 = some (3, 0) := by kernel_rfl
@[go_sem] theorem ty_fldO111_1 : fldO Tryz.prog 111 1 = some (96, 1) := by kernel_rfl
@[go_sem] theorem ty_stZ111 : stZ Tryz.prog 111 = some (#[.int .i64 0, .int .u16 0], [(0, 1), (1, 1)]) := by kernel_rfl
@[go_sem] theorem ty_size111 : (Tryz.prog.info? 111).map (·.size) = some 2 := by kernel_rfl
@[go_sem] theorem ty_isStr112 : isStr Tryz.prog 112 = false := by kernel_rfl
@[go_sem] theorem ty_intK112 : intK Tryz.prog 112 = none := by kernel_rfl
@[go_sem] theorem ty_aggT112 : aggT Tryz.prog 112 = none := by kernel_rfl
@[go_sem] theorem ty_zeroC112 : zeroC Tryz.prog 112 = some #[.slice none 0 0] := by kernel_rfl
@[go_sem] theorem ty_slE112 : slE Tryz.prog 112 = some 2 := by kernel_rfl
@[go_sem] theorem ty_slZ112 : slZ Tryz.prog 112 = some (25, 2, #[.bool false, .slice none 0 0]) := by kernel_rfl
@[go_sem] theorem ty_size112 : (Tryz.prog.info? 112).map (·.size) = some 1 := by kernel_rfl
@[go_sem] theorem ty_isStr113 : isStr Tryz.prog 113 = false := by kernel_rfl
@[go_sem] theorem ty_intK113 : intK Tryz.prog 113 = some .u32 := by kernel_rfl
@[go_sem] theorem ty_aggT113 : aggT Tryz.prog 113 = none := by kernel_rfl
@[go_sem] theorem ty_zeroC113 : zeroC Tryz.prog 113 = some #[.int .u32 0] := by kernel_rfl
@[go_sem] theorem ty_size113 : (Tryz.prog.info? 113).map (·.size) = some 1 := by kernel_rfl
@[go_sem] theorem ty_isStr114 : isStr Tryz.prog 114 = false := by kernel_rfl
@[go_sem] theorem ty_intK114 : intK Tryz.prog 114 = some .u64 := by kernel_rfl
@[go_sem] theorem ty_aggT114 : aggT Tryz.prog 114 = none := by kernel_rfl
@[go_sem] theorem ty_zeroC114 : zeroC Tryz.prog 114 = some #[.int .u64 0] := by kernel_rfl
@[go_sem] theorem ty_size114 : (Tryz.prog.info? 114).map (·.size) = some 1 := by kernel_rfl
@[go_sem] theorem ty_isStr132 : isStr Tryz.prog 132 = false := by kernel_rfl
@[go_sem] theorem ty_intK132 : intK Tryz.prog 132 = none := by kernel_rfl
@[go_sem] theorem ty_aggT132 : aggT Tryz.prog 132 = none := by kernel_rfl
@[go_sem] theorem ty_zeroC132 : zeroC Tryz.prog 132 = some #[.pointer none] := by kernel_rfl
@[go_sem] theorem ty_size132 : (Tryz.prog.info? 132).map (·.size) = some 1 := by kernel_rfl
theorem ty_bytes96 : (Tryz.prog.info? 96).map (·.bytes) = some 2 := by kernel_rfl
end Go.Proofs.YtifgdiejpglhfaaGreat
