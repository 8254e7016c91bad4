/- What the tables of types say, for the types that the code names. -/
import Derived.Test.YtefhenfofomjhaaRows
import Derived.Test.YtefhenfofomjhaaVE
namespace Go.Proofs.Ytefhenfofomjhaa
open Go.V
@[go_sem] theorem ty_isStr3:zcg Try.prog 3=false:=by kernel_rfl
@[go_sem] theorem ty_intK3:intK Try.prog 3=some .i64:=by kernel_rfl
@[go_sem] theorem ty_aggT3:aggT Try.prog 3=none:=by kernel_rfl
@[go_sem] theorem ty_zeroC3:zd9 Try.prog 3=some #[.int .i64 0]:=by kernel_rfl
@[go_sem] theorem zaI:(Try.prog.info? 3).map (·.size)=some 1:=by kernel_rfl
@[go_sem] theorem ty_aggT4:aggT Try.prog 4=none:=by kernel_rfl
@[go_sem] theorem ty_isBoolT4:zd2 Try.prog 4=true:=by kernel_rfl
@[go_sem] theorem ty_isStr5:zcg Try.prog 5=false:=by kernel_rfl
@[go_sem] theorem ty_intK5:intK Try.prog 5=some .u8:=by kernel_rfl
@[go_sem] theorem ty_isStr9:zcg Try.prog 9=true:=by kernel_rfl
@[go_sem] theorem ty_aggT9:aggT Try.prog 9=none:=by kernel_rfl
@[go_sem] theorem ty_size9:(Try.prog.info? 9).map (·.size)=some 1:=by kernel_rfl
@[go_sem] theorem ty_isStr21:zcg Try.prog 21=false:=by kernel_rfl
@[go_sem] theorem ty_intK21:intK Try.prog 21=some .i32:=by kernel_rfl
@[go_sem] theorem ty_aggT23:aggT Try.prog 23=none:=by kernel_rfl
@[go_sem] theorem ty_slE23:slE Try.prog 23=some 10:=by kernel_rfl
@[go_sem] theorem ty_slZ23:slZ Try.prog 23=some (40,10,#[.int .i64 0,.slice none 0 0,.int .i64 0,.string { data:=#[] },.bool false,.slice none 0 0,.slice none 0 0,.slice none 0 0,.int .i64 0,.int .i64 0]):=by kernel_rfl
@[go_sem] theorem ty_size23:(Try.prog.info? 23).map (·.size)=some 1:=by kernel_rfl
@[go_sem] theorem ty_aggT25:aggT Try.prog 25=some 1:=by kernel_rfl
@[go_sem] theorem ty_zeroC25:zd9 Try.prog 25=some #[.slice none 0 0]:=by kernel_rfl
@[go_sem] theorem ty_fldO25_0:zdV Try.prog 25 0=some (23,0):=by kernel_rfl
@[go_sem] theorem ty_stZ25:stZ Try.prog 25=some (#[.slice none 0 0],[(0,1)]):=by kernel_rfl
@[go_sem] theorem ty_size25:(Try.prog.info? 25).map (·.size)=some 1:=by kernel_rfl
@[go_sem] theorem ty_aggT26:aggT Try.prog 26=none:=by kernel_rfl
@[go_sem] theorem ty_size26:(Try.prog.info? 26).map (·.size)=some 1:=by kernel_rfl
@[go_sem] theorem ty_aggT29:aggT Try.prog 29=none:=by kernel_rfl
@[go_sem] theorem ty_slE29:slE Try.prog 29=some 1:=by kernel_rfl
@[go_sem] theorem zcJ:slZ Try.prog 29=some (9,1,#[.string { data:=#[] }]):=by kernel_rfl
@[go_sem] theorem ty_size29:(Try.prog.info? 29).map (·.size)=some 1:=by kernel_rfl
@[go_sem] theorem zc5:slZ Try.prog 30=some (109,1,#[.int .u16 0]):=by kernel_rfl
@[go_sem] theorem ty_aggT31:aggT Try.prog 31=none:=by kernel_rfl
@[go_sem] theorem ty_slE31:slE Try.prog 31=some 1:=by kernel_rfl
@[go_sem] theorem ty_slZ31:slZ Try.prog 31=some (109,1,#[.int .u16 0]):=by kernel_rfl
@[go_sem] theorem ty_aggT33:aggT Try.prog 33=some 2:=by kernel_rfl
@[go_sem] theorem zdj:zd9 Try.prog 33=some #[.bool false,.slice none 0 0]:=by kernel_rfl
@[go_sem] theorem ty_fldO33_0:zdV Try.prog 33 0=some (4,0):=by kernel_rfl
@[go_sem] theorem ty_fldO33_1:zdV Try.prog 33 1=some (31,1):=by kernel_rfl
@[go_sem] theorem zda:stZ Try.prog 33=some (#[.bool false,.slice none 0 0],[(0,1),(1,1)]):=by kernel_rfl
@[go_sem] theorem zbs:(Try.prog.info? 33).map (·.size)=some 2:=by kernel_rfl
@[go_sem] theorem ty_aggT35:aggT Try.prog 35=some 3:=by kernel_rfl
@[go_sem] theorem zdk:zd9 Try.prog 35=some #[.bool false,.slice none 0 0,.slice none 0 0]:=by kernel_rfl
@[go_sem] theorem ty_fldO35_0:zdV Try.prog 35 0=some (33,0):=by kernel_rfl
@[go_sem] theorem ty_fldO35_1:zdV Try.prog 35 1=some (31,2):=by kernel_rfl
@[go_sem] theorem ty_stZ35:stZ Try.prog 35=some (#[.bool false,.slice none 0 0,.slice none 0 0],[(0,2),(2,1)]):=by kernel_rfl
@[go_sem] theorem zbt:(Try.prog.info? 35).map (·.size)=some 3:=by kernel_rfl
@[go_sem] theorem ty_aggT36:aggT Try.prog 36=none:=by kernel_rfl
@[go_sem] theorem ty_slE36:slE Try.prog 36=some 7:=by kernel_rfl
@[go_sem] theorem ty_slZ36:slZ Try.prog 36=some (38,7,#[.int .i64 0,.string { data:=#[] },.bool false,.slice none 0 0,.slice none 0 0,.slice none 0 0,.int .i64 0]):=by kernel_rfl
@[go_sem] theorem ty_size36:(Try.prog.info? 36).map (·.size)=some 1:=by kernel_rfl
@[go_sem] theorem ty_aggT38:aggT Try.prog 38=some 7:=by kernel_rfl
@[go_sem] theorem zbP:zd9 Try.prog 38=some #[.int .i64 0,.string { data:=#[] },.bool false,.slice none 0 0,.slice none 0 0,.slice none 0 0,.int .i64 0]:=by kernel_rfl
@[go_sem] theorem ty_fldO38_0:zdV Try.prog 38 0=some (3,0):=by kernel_rfl
@[go_sem] theorem ty_fldO38_1:zdV Try.prog 38 1=some (9,1):=by kernel_rfl
@[go_sem] theorem ty_fldO38_2:zdV Try.prog 38 2=some (35,2):=by kernel_rfl
@[go_sem] theorem ty_fldO38_3:zdV Try.prog 38 3=some (36,5):=by kernel_rfl
@[go_sem] theorem ty_fldO38_4:zdV Try.prog 38 4=some (3,6):=by kernel_rfl
@[go_sem] theorem zcK:stZ Try.prog 38=some (#[.int .i64 0,.string { data:=#[] },.bool false,.slice none 0 0,.slice none 0 0,.slice none 0 0,.int .i64 0],[(0,1),(1,1),(2,3),(5,1),(6,1)]):=by kernel_rfl
@[go_sem] theorem zaE:(Try.prog.info? 38).map (·.size)=some 7:=by kernel_rfl
@[go_sem] theorem ty_aggT40:aggT Try.prog 40=some 10:=by kernel_rfl
@[go_sem] theorem zcC:zd9 Try.prog 40=some #[.int .i64 0,.slice none 0 0,.int .i64 0,.string { data:=#[] },.bool false,.slice none 0 0,.slice none 0 0,.slice none 0 0,.int .i64 0,.int .i64 0]:=by kernel_rfl
@[go_sem] theorem ty_fldO40_0:zdV Try.prog 40 0=some (3,0):=by kernel_rfl
@[go_sem] theorem ty_fldO40_1:zdV Try.prog 40 1=some (29,1):=by kernel_rfl
@[go_sem] theorem ty_fldO40_2:zdV Try.prog 40 2=some (38,2):=by kernel_rfl
@[go_sem] theorem ty_fldO40_3:zdV Try.prog 40 3=some (3,9):=by kernel_rfl
@[go_sem] theorem ty_stZ40:stZ Try.prog 40=some (#[.int .i64 0,.slice none 0 0,.int .i64 0,.string { data:=#[] },.bool false,.slice none 0 0,.slice none 0 0,.slice none 0 0,.int .i64 0,.int .i64 0],[(0,1),(1,1),(2,7),(9,1)]):=by kernel_rfl
@[go_sem] theorem zbG:(Try.prog.info? 40).map (·.size)=some 10:=by kernel_rfl
@[go_sem] theorem ty_aggT48:aggT Try.prog 48=none:=by kernel_rfl
@[go_sem] theorem ty_slE48:slE Try.prog 48=some 4:=by kernel_rfl
@[go_sem] theorem ty_slZ48:slZ Try.prog 48=some (59,4,#[.int .i64 0,.int .i64 0,.int .i64 0,.string { data:=#[] }]):=by kernel_rfl
@[go_sem] theorem ty_fldO53_0:zdV Try.prog 53 0=some (48,0):=by kernel_rfl
@[go_sem] theorem ty_fldO53_1:zdV Try.prog 53 1=some (3,1):=by kernel_rfl
@[go_sem] theorem ty_fldO53_2:zdV Try.prog 53 2=some (3,2):=by kernel_rfl
@[go_sem] theorem ty_fldO53_3:zdV Try.prog 53 3=some (26,3):=by kernel_rfl
@[go_sem] theorem ty_stZ53:stZ Try.prog 53=some (#[.slice none 0 0,.int .i64 0,.int .i64 0,.int .i64 0],[(0,1),(1,1),(2,1),(3,1)]):=by kernel_rfl
@[go_sem] theorem ty_fldO55_0:zdV Try.prog 55 0=some (53,0):=by kernel_rfl
@[go_sem] theorem ty_stZ55:stZ Try.prog 55=some (#[.slice none 0 0,.int .i64 0,.int .i64 0,.int .i64 0],[(0,4)]):=by kernel_rfl
@[go_sem] theorem ty_fldO57_0:zdV Try.prog 57 0=some (55,0):=by kernel_rfl
@[go_sem] theorem ty_stZ57:stZ Try.prog 57=some (#[.slice none 0 0,.int .i64 0,.int .i64 0,.int .i64 0],[(0,4)]):=by kernel_rfl
@[go_sem] theorem ty_aggT59:aggT Try.prog 59=some 4:=by kernel_rfl
@[go_sem] theorem ty_zeroC59:zd9 Try.prog 59=some #[.int .i64 0,.int .i64 0,.int .i64 0,.string { data:=#[] }]:=by kernel_rfl
@[go_sem] theorem ty_fldO59_0:zdV Try.prog 59 0=some (3,0):=by kernel_rfl
@[go_sem] theorem ty_fldO59_1:zdV Try.prog 59 1=some (3,1):=by kernel_rfl
@[go_sem] theorem ty_fldO59_2:zdV Try.prog 59 2=some (3,2):=by kernel_rfl
@[go_sem] theorem ty_fldO59_3:zdV Try.prog 59 3=some (9,3):=by kernel_rfl
@[go_sem] theorem zdQ:stZ Try.prog 59=some (#[.int .i64 0,.int .i64 0,.int .i64 0,.string { data:=#[] }],[(0,1),(1,1),(2,1),(3,1)]):=by kernel_rfl
@[go_sem] theorem zc0:(Try.prog.info? 59).map (·.size)=some 4:=by kernel_rfl
@[go_sem] theorem ty_slE66:slE Try.prog 66=some 1:=by kernel_rfl
@[go_sem] theorem zdb:slZ Try.prog 66=some (3,1,#[.int .i64 0]):=by kernel_rfl
@[go_sem] theorem ty_aggT68:aggT Try.prog 68=some 4:=by kernel_rfl
@[go_sem] theorem ty_zeroC68:zd9 Try.prog 68=some #[.int .i64 0,.int .i64 0,.string { data:=#[] },.slice none 0 0]:=by kernel_rfl
@[go_sem] theorem ty_fldO68_0:zdV Try.prog 68 0=some (3,0):=by kernel_rfl
@[go_sem] theorem ty_fldO68_1:zdV Try.prog 68 1=some (3,1):=by kernel_rfl
@[go_sem] theorem ty_stZ68:stZ Try.prog 68=some (#[.int .i64 0,.int .i64 0,.string { data:=#[] },.slice none 0 0],[(0,1),(1,1),(2,1),(3,1)]):=by kernel_rfl
@[go_sem] theorem ty_size68:(Try.prog.info? 68).map (·.size)=some 4:=by kernel_rfl
@[go_sem] theorem ty_slE82:slE Try.prog 82=some 4:=by kernel_rfl
@[go_sem] theorem ty_slZ82:slZ Try.prog 82=some (68,4,#[.int .i64 0,.int .i64 0,.string { data:=#[] },.slice none 0 0]):=by kernel_rfl
@[go_sem] theorem ty_isStr109:zcg Try.prog 109=false:=by kernel_rfl
@[go_sem] theorem ty_intK109:intK Try.prog 109=some .u16:=by kernel_rfl
@[go_sem] theorem ty_aggT109:aggT Try.prog 109=none:=by kernel_rfl
@[go_sem] theorem zaV:(Try.prog.info? 109).map (·.size)=some 1:=by kernel_rfl
@[go_sem] theorem ty_isStr125:zcg Try.prog 125=false:=by kernel_rfl
@[go_sem] theorem ty_intK125:intK Try.prog 125=some .u32:=by kernel_rfl
@[go_sem] theorem ty_aggT128:aggT Try.prog 128=some 2:=by kernel_rfl
@[go_sem] theorem ty_zeroC128:zd9 Try.prog 128=some #[.int .i64 0,.int .u16 0]:=by kernel_rfl
@[go_sem] theorem ty_fldO128_1:zdV Try.prog 128 1=some (109,1):=by kernel_rfl
@[go_sem] theorem ty_stZ128:stZ Try.prog 128=some (#[.int .i64 0,.int .u16 0],[(0,1),(1,1)]):=by kernel_rfl
@[go_sem] theorem ty_size128:(Try.prog.info? 128).map (·.size)=some 2:=by kernel_rfl
@[go_sem] theorem ty_isStr129:zcg Try.prog 129=false:=by kernel_rfl
@[go_sem] theorem ty_intK129:intK Try.prog 129=some .u64:=by kernel_rfl
@[go_sem] theorem ty_aggT129:aggT Try.prog 129=none:=by kernel_rfl
@[go_sem] theorem zds:zd9 Try.prog 129=some #[.int .u64 0]:=by kernel_rfl
@[go_sem] theorem zcb:(Try.prog.info? 129).map (·.size)=some 1:=by kernel_rfl
theorem ty_bytes3:(Try.prog.info? 3).map (·.bytes)=some 8:=by kernel_rfl
theorem ty_bytes9:(Try.prog.info? 9).map (·.bytes)=some 16:=by kernel_rfl
theorem ty_bytes38:(Try.prog.info? 38).map (·.bytes)=some 112:=by kernel_rfl
theorem ty_bytes40:(Try.prog.info? 40).map (·.bytes)=some 152:=by kernel_rfl
theorem ty_bytes59:(Try.prog.info? 59).map (·.bytes)=some 40:=by kernel_rfl
theorem zb8:(Try.prog.info? 109).map (·.bytes)=some 2:=by kernel_rfl
end Go.Proofs.Ytefhenfofomjhaa
