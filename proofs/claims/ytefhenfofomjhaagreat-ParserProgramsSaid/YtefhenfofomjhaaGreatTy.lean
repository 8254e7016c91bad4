/- What the tables of types say, for the types that the code names. -/
import Derived.Test.YtefhenfofomjhaaGreatRows
import Derived.Test.YtefhenfofomjhaaGreatVE
namespace Go.Proofs.YtefhenfofomjhaaGreat
open Go.V
@[go_sem] theorem ty_isStr3:zcX Tryz.prog 3=false:=by kernel_rfl
@[go_sem] theorem ty_intK3:intK Tryz.prog 3=some .i64:=by kernel_rfl
@[go_sem] theorem ty_aggT3:aggT Tryz.prog 3=none:=by kernel_rfl
@[go_sem] theorem ty_zeroC3:zdI Tryz.prog 3=some #[.int .i64 0]:=by kernel_rfl
@[go_sem] theorem zaQ:(Tryz.prog.info? 3).map (·.size)=some 1:=by kernel_rfl
@[go_sem] theorem ty_aggT4:aggT Tryz.prog 4=none:=by kernel_rfl
@[go_sem] theorem ty_isBoolT4:zdj Tryz.prog 4=true:=by kernel_rfl
@[go_sem] theorem ty_isStr5:zcX Tryz.prog 5=false:=by kernel_rfl
@[go_sem] theorem ty_intK5:intK Tryz.prog 5=some .u8:=by kernel_rfl
@[go_sem] theorem ty_isStr9:zcX Tryz.prog 9=true:=by kernel_rfl
@[go_sem] theorem ty_aggT9:aggT Tryz.prog 9=none:=by kernel_rfl
@[go_sem] theorem ty_size9:(Tryz.prog.info? 9).map (·.size)=some 1:=by kernel_rfl
@[go_sem] theorem ty_isStr21:zcX Tryz.prog 21=false:=by kernel_rfl
@[go_sem] theorem ty_intK21:intK Tryz.prog 21=some .i32:=by kernel_rfl
@[go_sem] theorem zaT:slZ Tryz.prog 22=some (123,1,#[.int .u16 0]):=by kernel_rfl
@[go_sem] theorem ty_aggT23:aggT Tryz.prog 23=none:=by kernel_rfl
@[go_sem] theorem ty_slE23:slE Tryz.prog 23=some 1:=by kernel_rfl
@[go_sem] theorem ty_slZ23:slZ Tryz.prog 23=some (123,1,#[.int .u16 0]):=by kernel_rfl
@[go_sem] theorem ty_aggT25:aggT Tryz.prog 25=some 2:=by kernel_rfl
@[go_sem] theorem zbC:zdI Tryz.prog 25=some #[.bool false,.slice none 0 0]:=by kernel_rfl
@[go_sem] theorem ty_fldO25_0:zen Tryz.prog 25 0=some (4,0):=by kernel_rfl
@[go_sem] theorem ty_fldO25_1:zen Tryz.prog 25 1=some (23,1):=by kernel_rfl
@[go_sem] theorem zce:stZ Tryz.prog 25=some (#[.bool false,.slice none 0 0],[(0,1),(1,1)]):=by kernel_rfl
@[go_sem] theorem zaI:(Tryz.prog.info? 25).map (·.size)=some 2:=by kernel_rfl
@[go_sem] theorem ty_aggT27:aggT Tryz.prog 27=some 3:=by kernel_rfl
@[go_sem] theorem zb2:zdI Tryz.prog 27=some #[.bool false,.slice none 0 0,.slice none 0 0]:=by kernel_rfl
@[go_sem] theorem ty_fldO27_0:zen Tryz.prog 27 0=some (25,0):=by kernel_rfl
@[go_sem] theorem ty_fldO27_1:zen Tryz.prog 27 1=some (23,2):=by kernel_rfl
@[go_sem] theorem zdr:stZ Tryz.prog 27=some (#[.bool false,.slice none 0 0,.slice none 0 0],[(0,2),(2,1)]):=by kernel_rfl
@[go_sem] theorem zax:(Tryz.prog.info? 27).map (·.size)=some 3:=by kernel_rfl
@[go_sem] theorem ty_aggT28:aggT Tryz.prog 28=none:=by kernel_rfl
@[go_sem] theorem ty_slE28:slE Tryz.prog 28=some 7:=by kernel_rfl
@[go_sem] theorem ty_slZ28:slZ Tryz.prog 28=some (30,7,#[.int .i64 0,.string { data:=#[] },.bool false,.slice none 0 0,.slice none 0 0,.slice none 0 0,.int .i64 0]):=by kernel_rfl
@[go_sem] theorem ty_size28:(Tryz.prog.info? 28).map (·.size)=some 1:=by kernel_rfl
@[go_sem] theorem ty_aggT30:aggT Tryz.prog 30=some 7:=by kernel_rfl
@[go_sem] theorem zbY:zdI Tryz.prog 30=some #[.int .i64 0,.string { data:=#[] },.bool false,.slice none 0 0,.slice none 0 0,.slice none 0 0,.int .i64 0]:=by kernel_rfl
@[go_sem] theorem ty_fldO30_0:zen Tryz.prog 30 0=some (3,0):=by kernel_rfl
@[go_sem] theorem ty_fldO30_1:zen Tryz.prog 30 1=some (9,1):=by kernel_rfl
@[go_sem] theorem ty_fldO30_2:zen Tryz.prog 30 2=some (27,2):=by kernel_rfl
@[go_sem] theorem ty_fldO30_3:zen Tryz.prog 30 3=some (28,5):=by kernel_rfl
@[go_sem] theorem ty_fldO30_4:zen Tryz.prog 30 4=some (3,6):=by kernel_rfl
@[go_sem] theorem zbI:stZ Tryz.prog 30=some (#[.int .i64 0,.string { data:=#[] },.bool false,.slice none 0 0,.slice none 0 0,.slice none 0 0,.int .i64 0],[(0,1),(1,1),(2,3),(5,1),(6,1)]):=by kernel_rfl
@[go_sem] theorem zaC:(Tryz.prog.info? 30).map (·.size)=some 7:=by kernel_rfl
@[go_sem] theorem ty_aggT31:aggT Tryz.prog 31=none:=by kernel_rfl
@[go_sem] theorem ty_size31:(Tryz.prog.info? 31).map (·.size)=some 1:=by kernel_rfl
@[go_sem] theorem ty_aggT36:aggT Tryz.prog 36=none:=by kernel_rfl
@[go_sem] theorem ty_slE36:slE Tryz.prog 36=some 10:=by kernel_rfl
@[go_sem] theorem ty_slZ36:slZ Tryz.prog 36=some (64,10,#[.int .i64 0,.slice none 0 0,.int .i64 0,.string { data:=#[] },.bool false,.slice none 0 0,.slice none 0 0,.slice none 0 0,.int .i64 0,.int .i64 0]):=by kernel_rfl
@[go_sem] theorem ty_size36:(Tryz.prog.info? 36).map (·.size)=some 1:=by kernel_rfl
@[go_sem] theorem ty_aggT38:aggT Tryz.prog 38=some 1:=by kernel_rfl
@[go_sem] theorem zdk:zdI Tryz.prog 38=some #[.slice none 0 0]:=by kernel_rfl
@[go_sem] theorem ty_fldO38_0:zen Tryz.prog 38 0=some (36,0):=by kernel_rfl
@[go_sem] theorem ty_stZ38:stZ Tryz.prog 38=some (#[.slice none 0 0],[(0,1)]):=by kernel_rfl
@[go_sem] theorem zcj:(Tryz.prog.info? 38).map (·.size)=some 1:=by kernel_rfl
@[go_sem] theorem ty_aggT42:aggT Tryz.prog 42=none:=by kernel_rfl
@[go_sem] theorem ty_slE42:slE Tryz.prog 42=some 4:=by kernel_rfl
@[go_sem] theorem zdQ:slZ Tryz.prog 42=some (52,4,#[.int .i64 0,.int .i64 0,.int .i64 0,.string { data:=#[] }]):=by kernel_rfl
@[go_sem] theorem ty_fldO47_0:zen Tryz.prog 47 0=some (42,0):=by kernel_rfl
@[go_sem] theorem ty_fldO47_1:zen Tryz.prog 47 1=some (3,1):=by kernel_rfl
@[go_sem] theorem ty_fldO47_2:zen Tryz.prog 47 2=some (3,2):=by kernel_rfl
@[go_sem] theorem ty_fldO47_3:zen Tryz.prog 47 3=some (31,3):=by kernel_rfl
@[go_sem] theorem ty_stZ47:stZ Tryz.prog 47=some (#[.slice none 0 0,.int .i64 0,.int .i64 0,.int .i64 0],[(0,1),(1,1),(2,1),(3,1)]):=by kernel_rfl
@[go_sem] theorem ty_fldO49_0:zen Tryz.prog 49 0=some (47,0):=by kernel_rfl
@[go_sem] theorem ty_stZ49:stZ Tryz.prog 49=some (#[.slice none 0 0,.int .i64 0,.int .i64 0,.int .i64 0],[(0,4)]):=by kernel_rfl
@[go_sem] theorem ty_aggT52:aggT Tryz.prog 52=some 4:=by kernel_rfl
@[go_sem] theorem zcb:zdI Tryz.prog 52=some #[.int .i64 0,.int .i64 0,.int .i64 0,.string { data:=#[] }]:=by kernel_rfl
@[go_sem] theorem ty_fldO52_0:zen Tryz.prog 52 0=some (3,0):=by kernel_rfl
@[go_sem] theorem ty_fldO52_1:zen Tryz.prog 52 1=some (3,1):=by kernel_rfl
@[go_sem] theorem ty_fldO52_2:zen Tryz.prog 52 2=some (3,2):=by kernel_rfl
@[go_sem] theorem ty_fldO52_3:zen Tryz.prog 52 3=some (9,3):=by kernel_rfl
@[go_sem] theorem zd3:stZ Tryz.prog 52=some (#[.int .i64 0,.int .i64 0,.int .i64 0,.string { data:=#[] }],[(0,1),(1,1),(2,1),(3,1)]):=by kernel_rfl
@[go_sem] theorem zaR:(Tryz.prog.info? 52).map (·.size)=some 4:=by kernel_rfl
@[go_sem] theorem ty_aggT56:aggT Tryz.prog 56=none:=by kernel_rfl
@[go_sem] theorem ty_slE56:slE Tryz.prog 56=some 1:=by kernel_rfl
@[go_sem] theorem zep:slZ Tryz.prog 56=some (3,1,#[.int .i64 0]):=by kernel_rfl
@[go_sem] theorem ty_fldO61_0:zen Tryz.prog 61 0=some (49,0):=by kernel_rfl
@[go_sem] theorem ty_stZ61:stZ Tryz.prog 61=some (#[.slice none 0 0,.int .i64 0,.int .i64 0,.int .i64 0],[(0,4)]):=by kernel_rfl
@[go_sem] theorem ty_aggT62:aggT Tryz.prog 62=none:=by kernel_rfl
@[go_sem] theorem ty_slE62:slE Tryz.prog 62=some 1:=by kernel_rfl
@[go_sem] theorem zcO:slZ Tryz.prog 62=some (9,1,#[.string { data:=#[] }]):=by kernel_rfl
@[go_sem] theorem ty_size62:(Tryz.prog.info? 62).map (·.size)=some 1:=by kernel_rfl
@[go_sem] theorem ty_aggT64:aggT Tryz.prog 64=some 10:=by kernel_rfl
@[go_sem] theorem zbD:zdI Tryz.prog 64=some #[.int .i64 0,.slice none 0 0,.int .i64 0,.string { data:=#[] },.bool false,.slice none 0 0,.slice none 0 0,.slice none 0 0,.int .i64 0,.int .i64 0]:=by kernel_rfl
@[go_sem] theorem ty_fldO64_0:zen Tryz.prog 64 0=some (3,0):=by kernel_rfl
@[go_sem] theorem ty_fldO64_1:zen Tryz.prog 64 1=some (62,1):=by kernel_rfl
@[go_sem] theorem ty_fldO64_2:zen Tryz.prog 64 2=some (30,2):=by kernel_rfl
@[go_sem] theorem ty_fldO64_3:zen Tryz.prog 64 3=some (3,9):=by kernel_rfl
@[go_sem] theorem ty_stZ64:stZ Tryz.prog 64=some (#[.int .i64 0,.slice none 0 0,.int .i64 0,.string { data:=#[] },.bool false,.slice none 0 0,.slice none 0 0,.slice none 0 0,.int .i64 0,.int .i64 0],[(0,1),(1,1),(2,7),(9,1)]):=by kernel_rfl
@[go_sem] theorem zaJ:(Tryz.prog.info? 64).map (·.size)=some 10:=by kernel_rfl
@[go_sem] theorem ty_slE100:slE Tryz.prog 100=some 4:=by kernel_rfl
@[go_sem] theorem ty_slZ100:slZ Tryz.prog 100=some (103,4,#[.int .i64 0,.int .i64 0,.string { data:=#[] },.slice none 0 0]):=by kernel_rfl
@[go_sem] theorem ty_aggT103:aggT Tryz.prog 103=some 4:=by kernel_rfl
@[go_sem] theorem ty_zeroC103:zdI Tryz.prog 103=some #[.int .i64 0,.int .i64 0,.string { data:=#[] },.slice none 0 0]:=by kernel_rfl
@[go_sem] theorem ty_fldO103_0:zen Tryz.prog 103 0=some (3,0):=by kernel_rfl
@[go_sem] theorem ty_fldO103_1:zen Tryz.prog 103 1=some (3,1):=by kernel_rfl
@[go_sem] theorem ty_fldO103_2:zen Tryz.prog 103 2=some (9,2):=by kernel_rfl
@[go_sem] theorem ty_fldO103_3:zen Tryz.prog 103 3=some (56,3):=by kernel_rfl
@[go_sem] theorem ty_stZ103:stZ Tryz.prog 103=some (#[.int .i64 0,.int .i64 0,.string { data:=#[] },.slice none 0 0],[(0,1),(1,1),(2,1),(3,1)]):=by kernel_rfl
@[go_sem] theorem ty_size103:(Tryz.prog.info? 103).map (·.size)=some 4:=by kernel_rfl
@[go_sem] theorem ty_isStr123:zcX Tryz.prog 123=false:=by kernel_rfl
@[go_sem] theorem ty_intK123:intK Tryz.prog 123=some .u16:=by kernel_rfl
@[go_sem] theorem ty_aggT123:aggT Tryz.prog 123=none:=by kernel_rfl
@[go_sem] theorem zbc:(Tryz.prog.info? 123).map (·.size)=some 1:=by kernel_rfl
@[go_sem] theorem ty_isStr139:zcX Tryz.prog 139=false:=by kernel_rfl
@[go_sem] theorem ty_intK139:intK Tryz.prog 139=some .u32:=by kernel_rfl
@[go_sem] theorem ty_aggT142:aggT Tryz.prog 142=some 2:=by kernel_rfl
@[go_sem] theorem ty_zeroC142:zdI Tryz.prog 142=some #[.int .i64 0,.int .u16 0]:=by kernel_rfl
@[go_sem] theorem ty_fldO142_1:zen Tryz.prog 142 1=some (123,1):=by kernel_rfl
@[go_sem] theorem ty_stZ142:stZ Tryz.prog 142=some (#[.int .i64 0,.int .u16 0],[(0,1),(1,1)]):=by kernel_rfl
@[go_sem] theorem ty_size142:(Tryz.prog.info? 142).map (·.size)=some 2:=by kernel_rfl
@[go_sem] theorem ty_isStr143:zcX Tryz.prog 143=false:=by kernel_rfl
@[go_sem] theorem ty_intK143:intK Tryz.prog 143=some .u64:=by kernel_rfl
@[go_sem] theorem ty_aggT143:aggT Tryz.prog 143=none:=by kernel_rfl
@[go_sem] theorem ze6:zdI Tryz.prog 143=some #[.int .u64 0]:=by kernel_rfl
@[go_sem] theorem zcR:(Tryz.prog.info? 143).map (·.size)=some 1:=by kernel_rfl
theorem ty_bytes3:(Tryz.prog.info? 3).map (·.bytes)=some 8:=by kernel_rfl
theorem ty_bytes9:(Tryz.prog.info? 9).map (·.bytes)=some 16:=by kernel_rfl
theorem ty_bytes30:(Tryz.prog.info? 30).map (·.bytes)=some 112:=by kernel_rfl
theorem ty_bytes52:(Tryz.prog.info? 52).map (·.bytes)=some 40:=by kernel_rfl
theorem ty_bytes64:(Tryz.prog.info? 64).map (·.bytes)=some 152:=by kernel_rfl
theorem zaK:(Tryz.prog.info? 123).map (·.bytes)=some 2:=by kernel_rfl
end Go.Proofs.YtefhenfofomjhaaGreat
