/- The parser: the expression of a string. -/
import Derived.Test.YtefhenfofomjhaaGreatRw2
import Derived.Test.YtefhenfofomjhaaGreatSx2
import Derived.Test.YtefhenfofomjhaaGreatLx3
import Derived.Test.YtefhenfofomjhaaGreatVF
import Derived.Test.YtefhenfofomjhaaGreatLx7
import Derived.Test.YtefhenfofomjhaaGreatPt7
set_option linter.unusedSimpArgs false
set_option linter.unusedVariables false
set_option maxHeartbeats 2000000
set_option maxRecDepth 20000
namespace Go.Proofs.YtefhenfofomjhaaGreat
open Go Go.RowKit Go.V
theorem kIx_cases (k:Int):(kIx k=30∧¬(10≤k∧k≤24)∧¬(40≤k∧k≤43)∧¬(50≤k∧k≤51)∧¬(60≤k∧k≤68))∨(kIx k<30∧k=(zaj (kIx k)).1):=by
 by_cases h1:10≤k∧k≤24
 ·right
  have h:k=10∨k=11∨k=12∨k=13∨k=14∨k=15∨k=16∨k=17∨k=18∨k=19∨k=20∨k=21∨k=22∨k=23∨k=24:=by omega
  rcases h with rfl|rfl|rfl|rfl|rfl|rfl|rfl|rfl|rfl|rfl|rfl|rfl|rfl|rfl|rfl<;>decide
 by_cases h2:40≤k∧k≤43
 ·right
  have h:k=40∨k=41∨k=42∨k=43:=by omega
  rcases h with rfl|rfl|rfl|rfl<;>decide
 by_cases h3:50≤k∧k≤51
 ·right
  have h:k=50∨k=51:=by omega
  rcases h with rfl|rfl<;>decide
 by_cases h4:60≤k∧k≤68
 ·right
  have h:k=60∨k=61∨k=62∨k=63∨k=64∨k=65∨k=66∨k=67∨k=68:=by omega
  rcases h with rfl|rfl|rfl|rfl|rfl|rfl|rfl|rfl|rfl<;>decide
 ·left
  refine ⟨?_,h1,h2,h3,h4⟩
  unfold kIx
  rw [if_neg h1,if_neg h2,if_neg h3,if_neg h4]
theorem kt_kind:∀ i,i<30→kIx (zaj i).1=i:=by decide +kernel
theorem rows_row {w:World} {ad t:Nat} {bl:Nat→Nat} (h:Bx w ad (rowsC bl).toArray t) {j:Nat} (hj:j<30):za4 w ⟨ad,j*4,none⟩ 0 4=rowC bl j∧za1 w ⟨ad,j*4,none⟩ 0 4:=by
 have hs:=SL.whole h
 have hall:∀ R∈(List.range 30).map (rowC bl),R.length=4:=by
  intro R hR
  obtain ⟨i,_,rfl⟩:=List.mem_map.1 hR
  rfl
 have hlen:(rowsC bl).length=120:=by
  unfold rowsC;rw [zd4 hall];simp
 obtain ⟨q1,q2,_⟩:=hs.row (j*4) 4 (by simp only [List.toList_toArray];rw [hlen];omega) (by decide)
 simp only [Option.getD_some,za0,Nat.zero_add,List.toList_toArray] at q1 q2
 refine ⟨?_,q2⟩
 rw [q1]
 unfold rowsC
 refine zdz hall ?_
 rw [List.getElem?_map,List.getElem?_range hj];rfl
def wsP (t:List UInt8) (sort:Int) (r:Int × Int × List UInt8 × List Int):Bool:=decide (r.2.2.1=t) && decide (r.2.1=sort)
def wsAt (t:List UInt8) (sort:Int) (j:Nat):Int:=match (KT.drop j).find? (wsP t sort) with
 | some r=>r.1
 | none=>0
theorem ws_0 (t:List UInt8) (sort:Int):wsAt t sort 0=wsS t sort:=rfl
theorem kt_drop {j:Nat} (h:j<30):KT.drop j=zaj j::KT.drop (j+1):=by
 have hj:j<KT.length:=h
 rw [List.drop_eq_getElem_cons hj]
 unfold zaj
 rw [List.getD_eq_getElem?_getD,List.getElem?_eq_getElem hj];rfl
theorem ws_step (t:List UInt8) (sort:Int) {j:Nat} (h:j<30):wsAt t sort j=if (zaj j).2.2.1=t∧(zaj j).2.1=sort then (zaj j).1 else wsAt t sort (j+1):=by
 unfold wsAt
 rw [kt_drop h,List.find?_cons]
 by_cases hc:(zaj j).2.2.1=t∧(zaj j).2.1=sort
 ·rw [if_pos hc]
  simp [wsP,hc.1,hc.2]
 ·rw [if_neg hc]
  have:wsP t sort (zaj j)=false:=by
   unfold wsP
   rw [Bool.and_eq_false_iff,decide_eq_false_iff_not,decide_eq_false_iff_not]
   by_cases h1:(zaj j).2.2.1=t
   ·exact .inr fun h2=>hc ⟨h1,h2⟩
   ·exact .inl h1
  simp [this]
theorem ws_end (t:List UInt8) (sort:Int):wsAt t sort 30=0:=rfl
theorem withSort_any (t:List UInt8) (sort:Int) (w:World):Calls Tryz.prog 38 #[.string ⟨t.toArray⟩,.int .i64 sort] w fun e w'=>e = .returned (.int .i64 (wsS t sort))∧Below w.heap.size w w':=by
 obtain ⟨R0,hR0⟩:∃ R,R=wsS t sort:=⟨_,rfl⟩
 rw [←hR0]
 refine za5 (rs:=[.tmp 4]) (n:=26) Tryz.func38 rfl rfl rfl (by kernel_rfl) ?_
 have hA0:=Below.refl w.heap.size w
 refine zzr fun K hK=>?_
 simp [go_sem,za0,za4,za1]
 apply hK;clear hK K
 refine zab (fun K1 hK1=>?_)
 refine zzr fun K hK=>?_
 simp [go_sem,za0,za4,za1]
 refine zzc rfl Tryz.call60 (fun R hR=>?_)
 simp [go_sem,za0,za4,za1]
 refine (rows_any _).mono ?_
 rintro e w1 ⟨b90,bl,rfl,hB90,hpr,hle90,hE1⟩
 refine ⟨_,rfl,hR _ _ ?_⟩
 clear hR R
 replace hA0:=hA0.next hE1
 simp [go_sem,za0,za4,za1]
 apply hK;clear hK K
 refine zac ?_
 refine zaz (fun m' g w'=>Below w.heap.size w w'∧Bx w' b90 (rowsC bl).toArray 103∧∃ j:Nat,j≤30∧m'=30-j∧wsAt t sort j=R0∧g 0 = .string ⟨t.toArray⟩∧g 1 = .int .i64 sort∧g 7 = .slice (some ⟨b90,0,none⟩) 30 30∧g 8 = .int .i64 30∧g 9 = .int .i64 j) 30 ?_ ?_
 ·exact ⟨hA0,hB90,0,by omega,rfl,by rw [ws_0,hR0],by simp [go_sem],by simp [go_sem],by simp [go_sem],by simp [go_sem],by simp [go_sem]⟩
 clear hA0 hB90 hpr hle90
 rintro m' g w' ⟨hA0,hB90,j,hj,rfl,hR,g0,g1,g7,g8,g9⟩
 by_cases hlt:j<30
 ·have c1:(j:Int)<30:=by omega
  have hw1:IntKind.i64.wrap ((j:Int)+1)=(j+1:Nat):=zzw (by omega)
  obtain ⟨r1,r2⟩:=rows_row hB90 hlt
  rw [ws_step _ _ hlt] at hR
  refine zzr fun K hK=>?_
  simp [go_sem,za0,za4,za1,g0,g1,g7,g8,g9, c1]
  apply hK;clear hK K
  refine zab (fun K2 hK2=>?_)
  refine zaf (t:=true) (by simp [go_sem,g0,g1,g7,g8,g9,c1]) rfl ?_
  refine za7 ?_
  apply hK2
  refine zab (fun K3 hK3=>?_)
  refine zac ?_
  refine zzr fun K hK=>?_
  simp [go_sem,za0,g0,g1,g7,g8,g9, c1,r1,r2]
  refine zza rfl ty_zeroC103 (fun w10 b10 hE10 hle10 hB10=>?_)
  have hb10_0:=Nat.le_trans hA0.size hle10
  have hd90_10:b90≠b10:=Nat.ne_of_lt (Nat.lt_of_lt_of_le hB90.lt hle10)
  replace hA0:=hA0.next hE10
  replace hB90:=hB90.keep hE10
  simp [go_sem,za0,g0,g1,g7,g8,g9,hB10.cell]
  refine zzs (b:=b10) (off:=0) [.int .i64 (zaj j).1,.int .i64 (zaj j).2.1,.string ⟨(zaj j).2.2.1.toArray⟩,.slice (some ⟨bl j,0,none⟩) (zaj j).2.2.2.length (zaj j).2.2.2.length] rfl ty_size103 hB10 (fun w11 hS11 hB11=>?_) (by simp [go_sem,Value.cells,g0,g1,g7,g8,g9,c1,r1,r2,rowC])
  simp [zaw] at hB11
  replace hA0:=hA0.nextS hS11 (by first|exact hb10_0|omega)
  replace hB90:=hB90.sto hS11 (by first|exact hd90_10|exact (hd10_90).symm)
  simp [go_sem,za0,g0,g1,g7,g8,g9,hB11.cell,c1,r1,r2,rowC]
  apply hK;clear hK K
  by_cases hw:(zaj j).2.2.1=t
  ·by_cases hs:(zaj j).2.1=sort
   ·rw [if_pos ⟨hw,hs⟩] at hR
    refine zzr fun K hK=>?_
    simp [go_sem,za0,g0,g1,g7,g8,g9,hB11.cell,za4,za1, hw,hs]
    apply hK;clear hK K
    refine zaf (t:=true) (by simp [go_sem,g0,g1,g7,g8,g9,hw,hs]) rfl ?_
    refine zzr fun K hK=>?_
    simp [go_sem,za0,g0,g1,g7,g8,g9,hB11.cell,za4,za1]
    apply hK;clear hK K
    refine zad ?_
    repeat first|refine za3 ?_|refine za2 ?_
    refine ⟨trivial,?_,hA0⟩
    simp [go_sem,zar,zam,hB11.cell,za0,hR]
   ·rw [if_neg (fun h=>hs h.2)] at hR
    refine zzr fun K hK=>?_
    simp [go_sem,za0,g0,g1,g7,g8,g9,hB11.cell,za4,za1, hw,hs]
    apply hK;clear hK K
    refine zaf (t:=false) (by simp [go_sem,g0,g1,g7,g8,g9,hw,hs]) rfl ?_
    refine za7 ?_
    apply hK3
    refine zzt fun K hK=>?_
    simp [go_sem,g9,hw1]
    refine hK _ _ ⟨30-(j+1),by omega,hA0,hB90,j+1,by omega,rfl,hR,by simp [go_sem,g0],by simp [go_sem,g1],by simp [go_sem,g7],by simp [go_sem,g8],by simp [go_sem]⟩
  ·rw [if_neg (fun h=>hw h.1)] at hR
   refine zzr fun K hK=>?_
   simp [go_sem,za0,g0,g1,g7,g8,g9,hB11.cell,za4,za1, hw]
   apply hK;clear hK K
   refine zaf (t:=false) (by simp [go_sem,g0,g1,g7,g8,g9,hw]) rfl ?_
   refine za7 ?_
   apply hK3
   refine zzt fun K hK=>?_
   simp [go_sem,g9,hw1]
   refine hK _ _ ⟨30-(j+1),by omega,hA0,hB90,j+1,by omega,rfl,hR,by simp [go_sem,g0],by simp [go_sem,g1],by simp [go_sem,g7],by simp [go_sem,g8],by simp [go_sem]⟩
 ·have hje:j=30:=by omega
  subst hje
  rw [ws_end] at hR
  refine zzr fun K hK=>?_
  simp [go_sem,za0,za4,za1,g0,g1,g7,g8,g9]
  apply hK;clear hK K
  refine zab (fun K2 hK2=>?_)
  refine zaf (t:=false) (by simp [go_sem,g0,g1,g7,g8,g9]) rfl ?_
  refine zav ?_
  repeat (first|refine zae ?_|refine za6 rfl ?_|refine za8 ?_)
  apply hK1
  refine zzr fun K hK=>?_
  simp [go_sem,za0,za4,za1,g0,g1,g7,g8,g9]
  apply hK;clear hK K
  refine zad ?_
  repeat first|refine za3 ?_|refine za2 ?_
  refine ⟨trivial,?_,hA0⟩
  simp [go_sem,zar,zam,hR]
def FindPost (w:World) (k:Int) (e:Ending) (w':World):Prop:=∃ (a:Option Addr) (c:Nat),e = .returned (.agg #[.int .i64 (zaj (kIx k)).1,.int .i64 (sortK k),.string ⟨(zeI k).toArray⟩,.slice a (zc6 k).length c])∧SL w' a (intC (zc6 k))∧(∀ ad,a=some ad→w.heap.size≤ad.block)∧Below w.heap.size w w'
theorem find_any (k:Int) (w:World):Calls Tryz.prog 82 #[.int .i64 k] w (FindPost w k):=by
 refine za5 (rs:=[.cell 2 103]) (n:=18) Tryz.func82 rfl rfl rfl (by kernel_rfl) ?_
 have hA0:=Below.refl w.heap.size w
 refine zzr fun K hK=>?_
 simp [go_sem,za0,za4,za1]
 refine zza rfl ty_zeroC103 (fun w20 b20 hE20 hle20 hB20=>?_)
 have hb20_0:=Nat.le_trans hA0.size hle20
 replace hA0:=hA0.next hE20
 simp [go_sem,za0,za4,za1,hB20.cell]
 apply hK;clear hK K
 refine zab (fun K1 hK1=>?_)
 have hBZ:=hB20.lt
 refine zzr fun K hK=>?_
 simp [go_sem,za0,za4,za1,hB20.cell]
 refine zzc rfl Tryz.call60 (fun R hR=>?_)
 simp [go_sem,za0,za4,za1,hB20.cell]
 refine (rows_any _).mono ?_
 rintro e w21 ⟨b90,bl,rfl,hB90,hpr,hle90,hE21⟩
 refine ⟨_,rfl,hR _ _ ?_⟩
 clear hR R
 replace hA0:=hA0.next hE21
 replace hB20:=hB20.keep hE21
 have hle20':w.heap.size≤b20:=hle20
 have hne:b20≠b90:=Nat.ne_of_lt (Nat.lt_of_lt_of_le hBZ hle90)
 simp [go_sem,za0,za4,za1,hB20.cell]
 apply hK;clear hK K
 refine zac ?_
 refine zaz (fun m' g w'=>Below w.heap.size w w'∧Bx w' b90 (rowsC bl).toArray 103∧Bx w' b20 #[.int .i64 0,.int .i64 0,.string ⟨#[]⟩,.slice none 0 0] 103∧(∀ j,j<30→Bx w' (bl j) (intC (zaj j).2.2.2).toArray 3∧w.heap.size≤bl j∧bl j≠b20)∧∃ j:Nat,j≤30∧m'=30-j∧(∀ i,i<j→(zaj i).1≠k)∧g 0 = .int .i64 k∧g 2 = .pointer (some ⟨b20,0,none⟩)∧g 5 = .slice (some ⟨b90,0,none⟩) 30 30∧g 6 = .int .i64 30∧g 7 = .int .i64 j) 30 ?_ ?_
 ·exact ⟨hA0,hB90,hB20,fun j hj=>⟨(hpr j hj).1,by have:=(hpr j hj).2;have:=hE20.size;omega,by have:=(hpr j hj).2;omega⟩,0,by omega,rfl,fun i hi=>by omega,by simp [go_sem],by simp [go_sem],by simp [go_sem],by simp [go_sem],by simp [go_sem]⟩
 clear hA0 hB90 hpr hle90 hBZ hB20
 rintro m' g w' ⟨hA0,hB90,hB20,hpr,j,hj,rfl,hno,g0,g2,g5,g6,g7⟩
 have hd90_20:b90≠b20:=hne.symm
 by_cases hlt:j<30
 ·have c1:(j:Int)<30:=by omega
  have hw1:IntKind.i64.wrap ((j:Int)+1)=(j+1:Nat):=zzw (by omega)
  obtain ⟨r1,r2⟩:=rows_row hB90 hlt
  refine zzr fun K hK=>?_
  simp [go_sem,za0,za4,za1,hB20.cell,g0,g2,g5,g6,g7, c1]
  apply hK;clear hK K
  refine zab (fun K2 hK2=>?_)
  refine zaf (t:=true) (by simp [go_sem,g0,g2,g5,g6,g7,c1]) rfl ?_
  refine za7 ?_
  apply hK2
  refine zab (fun K3 hK3=>?_)
  refine zac ?_
  refine zzr fun K hK=>?_
  simp [go_sem,za0,hB20.cell,g0,g2,g5,g6,g7, c1,r1,r2]
  refine zza rfl ty_zeroC103 (fun w10 b10 hE10 hle10 hB10=>?_)
  have hb10_0:=Nat.le_trans hA0.size hle10
  have hd90_10:b90≠b10:=Nat.ne_of_lt (Nat.lt_of_lt_of_le hB90.lt hle10)
  have hd20_10:b20≠b10:=Nat.ne_of_lt (Nat.lt_of_lt_of_le hB20.lt hle10)
  replace hA0:=hA0.next hE10
  replace hB90:=hB90.keep hE10
  replace hB20:=hB20.keep hE10
  simp [go_sem,za0,hB20.cell,g0,g2,g5,g6,g7,hB10.cell]
  have hprA:∀ j,j<30→Bx w10 (bl j) (intC (zaj j).2.2.2).toArray 3∧w.heap.size≤bl j∧bl j≠b20∧bl j≠b10:=fun j hj=>⟨(hpr j hj).1.keep hE10,(hpr j hj).2.1,(hpr j hj).2.2,by have:=(hpr j hj).1.lt;omega⟩
  refine zzs (b:=b10) (off:=0) [.int .i64 (zaj j).1,.int .i64 (zaj j).2.1,.string ⟨(zaj j).2.2.1.toArray⟩,.slice (some ⟨bl j,0,none⟩) (zaj j).2.2.2.length (zaj j).2.2.2.length] rfl ty_size103 hB10 (fun w11 hS11 hB11=>?_) (by simp [go_sem,Value.cells,g0,g2,g5,g6,g7,c1,r1,r2,rowC])
  simp [zaw] at hB11
  replace hA0:=hA0.nextS hS11 (by first|exact hb10_0|omega)
  replace hB90:=hB90.sto hS11 (by first|exact hd90_10|exact (hd10_90).symm)
  replace hB20:=hB20.sto hS11 (by first|exact hd20_10|exact (hd10_20).symm)
  simp [go_sem,za0,hB20.cell,g0,g2,g5,g6,g7,hB11.cell,c1,r1,r2,rowC]
  replace hpr:∀ j,j<30→Bx w11 (bl j) (intC (zaj j).2.2.2).toArray 3∧w.heap.size≤bl j∧bl j≠b20:=fun j hj=>⟨(hprA j hj).1.sto hS11 (hprA j hj).2.2.2,(hprA j hj).2.1,(hprA j hj).2.2.1⟩
  apply hK;clear hK K
  by_cases hk:(zaj j).1=k
  ·have hix:kIx k=j:=by rw [←hk];exact kt_kind j hlt
   refine zzr fun K hK=>?_
   simp [go_sem,za0,hB20.cell,g0,g2,g5,g6,g7,hB11.cell,za4,za1, hk]
   apply hK;clear hK K
   refine zaf (t:=true) (by simp [go_sem,g0,g2,g5,g6,g7,hk]) rfl ?_
   refine zzr fun K hK=>?_
   simp [go_sem,za0,hB20.cell,g0,g2,g5,g6,g7,hB11.cell,za4,za1]
   refine zzs (b:=b20) (off:=0) [.int .i64 (zaj j).1,.int .i64 (zaj j).2.1,.string ⟨(zaj j).2.2.1.toArray⟩,.slice (some ⟨bl j,0,none⟩) (zaj j).2.2.2.length (zaj j).2.2.2.length] rfl ty_size103 hB20 (fun w12 hS12 hB12=>?_) (by simp [go_sem,Value.cells,g0,g2,g5,g6,g7,hk])
   simp [zaw] at hB12
   replace hA0:=hA0.nextS hS12 (by first|exact hb20_0|omega)
   replace hB90:=hB90.sto hS12 (by first|exact hd90_20|exact (hd20_90).symm)
   replace hB11:=hB11.sto hS12 (by first|exact hd10_20|exact (hd20_10).symm)
   simp [go_sem,za0,g0,g2,g5,g6,g7,hB11.cell,za4,za1,hB12.cell,hk]
   apply hK;clear hK K
   refine zad ?_
   repeat first|refine za3 ?_|refine za2 ?_
   refine ⟨by simp [go_sem,zaD,zam,za4,za1,za0,hB12.cell,g2],some ⟨bl j,0,none⟩,(zaj j).2.2.2.length,?_,?_,fun ad ha=>by injection ha with ha;subst ha;exact (hpr j hlt).2.1,hA0⟩
   ·unfold sortK zeI zc6
    rw [hix]
    simp [go_sem,zar,zam,hB12.cell,za0,g2,za4]
   ·unfold zc6
    rw [hix]
    have:=SL.whole ((hpr j hlt).1.sto hS12 (hpr j hlt).2.2)
    simpa using this
  ·refine zzr fun K hK=>?_
   simp [go_sem,za0,hB20.cell,g0,g2,g5,g6,g7,hB11.cell,za4,za1, hk]
   apply hK;clear hK K
   refine zaf (t:=false) (by simp [go_sem,g0,g2,g5,g6,g7,hk]) rfl ?_
   refine za7 ?_
   apply hK3
   refine zzt fun K hK=>?_
   simp [go_sem,g7,hw1]
   refine hK _ _ ⟨30-(j+1),by omega,hA0,hB90,hB20,hpr,j+1,by omega,rfl,fun i hi=>?_,by simp [go_sem,g0],by simp [go_sem,g2],by simp [go_sem,g5],by simp [go_sem,g6],by simp [go_sem]⟩
   by_cases hij:i=j
   ·rw [hij];exact hk
   ·exact hno i (by omega)
 ·have hje:j=30:=by omega
  subst hje
  have hix:kIx k=30:=by
   rcases kIx_cases k with ⟨h,_⟩|⟨h,h2⟩
   ·exact h
   ·exact absurd h2.symm (hno _ h)
  refine zzr fun K hK=>?_
  simp [go_sem,za0,za4,za1,hB20.cell,g0,g2,g5,g6,g7]
  apply hK;clear hK K
  refine zab (fun K2 hK2=>?_)
  refine zaf (t:=false) (by simp [go_sem,g0,g2,g5,g6,g7]) rfl ?_
  refine zav ?_
  repeat (first|refine zae ?_|refine za6 rfl ?_|refine za8 ?_)
  apply hK1
  refine zzr fun K hK=>?_
  simp [go_sem,za0,za4,za1,hB20.cell,g0,g2,g5,g6,g7]
  refine zal #[.int .i64 0,.int .i64 0,.string ⟨#[]⟩,.slice none 0 0] (by simp [go_sem]) rfl ty_stZ103 [] (by simp [go_sem]) rfl ?_
  simp [go_sem,za0]
  refine zzs (b:=b20) (off:=0) [.int .i64 0,.int .i64 0,.string ⟨#[]⟩,.slice none 0 0] rfl ty_size103 hB20 (fun w30 hS30 hB30=>?_) (by simp [go_sem,Value.cells,g0,g2,g5,g6,g7])
  simp [zaw] at hB30
  replace hA0:=hA0.nextS hS30 (by first|exact hb20_0|omega)
  replace hB90:=hB90.sto hS30 (by first|exact hd90_20|exact (hd20_90).symm)
  simp [go_sem,za0,za4,za1,g0,g2,g5,g6,g7,hB30.cell]
  apply hK;clear hK K
  refine zad ?_
  repeat first|refine za3 ?_|refine za2 ?_
  refine ⟨by simp [go_sem,zaD,zam,za4,za1,za0,hB30.cell,g2],none,0,?_,?_,fun ad ha=>absurd ha (by simp),hA0⟩
  ·unfold sortK zeI zc6
   rw [hix]
   simp [go_sem,zar,zam,hB30.cell,za0,g2,za4,zaj,KT]
  ·unfold zc6
   rw [hix]
   exact SL.nil _ _
theorem rparams_any (k:Int) (w:World):Calls Tryz.prog 63 #[.int .i64 k] w fun e w'=>∃ a c,e = .returned (.slice a (zc6 k).length c)∧SL w' a (intC (zc6 k))∧(∀ ad,a=some ad→w.heap.size≤ad.block)∧Below w.heap.size w w':=by
 refine za5 (rs:=[.tmp 2]) (n:=6) Tryz.func63 rfl rfl rfl (by kernel_rfl) ?_
 have hA0:=Below.refl w.heap.size w
 refine zzr fun K hK=>?_
 simp [go_sem,za0,za4,za1]
 apply hK;clear hK K
 refine zzr fun K hK=>?_
 simp [go_sem,za0,za4,za1]
 refine zzc rfl Tryz.call82 (fun R hR=>?_)
 simp [go_sem,za0,za4,za1]
 refine (find_any k _).mono ?_
 rintro e w1 ⟨a,c,rfl,hs,hl,hE1⟩
 refine ⟨_,rfl,hR _ _ ?_⟩
 clear hR R
 replace hA0:=hA0.next hE1
 simp [go_sem,za0,za4,za1]
 apply hK;clear hK K
 refine zad ?_
 repeat first|refine za3 ?_|refine za2 ?_
 refine ⟨trivial,a,c,?_,hs,hl,hA0⟩
 simp [go_sem,zar,zam]
theorem rhas_any (k:Int) (w:World):Calls Tryz.prog 64 #[.int .i64 k] w fun e w'=>e = .returned (.bool (hasR k))∧Below w.heap.size w w':=by
 refine za5 (rs:=[.tmp 2]) (n:=9) Tryz.func64 rfl rfl rfl (by kernel_rfl) ?_
 have hA0:=Below.refl w.heap.size w
 refine zzr fun K hK=>?_
 simp [go_sem,za0,za4,za1]
 apply hK;clear hK K
 by_cases h1:k=11
 ·refine zzr fun K hK=>?_
  simp [go_sem,za0,za4,za1, h1]
  apply hK;clear hK K
  refine zad ?_
  repeat first|refine za3 ?_|refine za2 ?_
  refine ⟨trivial,?_,hA0⟩
  simp [go_sem,zar,zam,hasR,h1]
 ·by_cases h2:k=68
  ·refine zzr fun K hK=>?_
   simp [go_sem,za0,za4,za1, h1,h2]
   apply hK;clear hK K
   refine zad ?_
   repeat first|refine za3 ?_|refine za2 ?_
   refine ⟨trivial,?_,hA0⟩
   simp [go_sem,zar,zam,hasR,h1,h2]
  ·refine zzr fun K hK=>?_
   simp [go_sem,za0,za4,za1, h1,h2]
   apply hK;clear hK K
   refine zad ?_
   repeat first|refine za3 ?_|refine za2 ?_
   refine ⟨trivial,?_,hA0⟩
   simp [go_sem,zar,zam,hasR,h1,h2]
theorem strL_at {l:List (List UInt8)} {i:Nat} (h:i<l.length):(l.map strV).getD i undef=strV (l.getD i []):=by
 simp [List.getD_eq_getElem?_getD,h]
theorem has_any (l:List (List UInt8)) (a:Option Addr) (c:Nat) (t:List UInt8) (w:World) (h:SL w a (l.map strV)) (hl:l.length≤maxLen):Calls Tryz.prog 61 #[.slice a l.length c,.string ⟨t.toArray⟩] w fun e w'=>e = .returned (.bool (decide (t∈l)))∧Below w.heap.size w w':=by
 unfold maxLen at hl
 refine za5 (rs:=[.tmp 4]) (n:=17) Tryz.func61 rfl rfl rfl (by kernel_rfl) ?_
 have hA0:=Below.refl w.heap.size w
 refine zzr fun K hK=>?_
 simp [go_sem,za0,za4,za1]
 apply hK;clear hK K
 refine zab (fun K1 hK1=>?_)
 refine zzr fun K hK=>?_
 simp [go_sem,za0,za4,za1]
 apply hK;clear hK K
 refine zac ?_
 refine zaz (fun m' g w'=>w'=w∧∃ j:Nat,j≤l.length∧m'=l.length-j∧(∀ i,i<j→l.getD i []≠t)∧g 1 = .string ⟨t.toArray⟩∧g 7 = .slice a l.length c∧g 8 = .int .i64 l.length∧g 9 = .int .i64 j) l.length ?_ ?_
 ·exact ⟨rfl,0,by omega,rfl,fun i hi=>by omega,by simp [go_sem],by simp [go_sem],by simp [go_sem],by simp [go_sem]⟩
 rintro m' g w' ⟨rfl,j,hj,rfl,hno,g1,g7,g8,g9⟩
 by_cases hlt:j<l.length
 ·have c1:(j:Int)<l.length:=by omega
  have hw1:IntKind.i64.wrap ((j:Int)+1)=(j+1:Nat):=zzw (by omega)
  obtain ⟨q1,q2⟩:=h.getD (j:=j) (by simpa using hlt)
  rw [strL_at hlt] at q1
  have hno':=hno
  obtain ⟨z,hz⟩:∃ z,z=l.getD j []:=⟨_,rfl⟩
  rw [←hz] at q1
  unfold strV at q1
  refine zzr fun K hK=>?_
  simp [go_sem,za0,za4,za1,g1,g7,g8,g9, c1,hlt]
  apply hK;clear hK K
  refine zab (fun K2 hK2=>?_)
  refine zaf (t:=true) (by simp [go_sem,g1,g7,g8,g9,c1,hlt]) rfl ?_
  refine za7 ?_
  apply hK2
  refine zab (fun K3 hK3=>?_)
  refine zac ?_
  refine zzr fun K hK=>?_
  simp [go_sem,za0,za4,za1,g1,g7,g8,g9, c1,hlt,q1,q2]
  apply hK;clear hK K
  by_cases he:z=t
  ·have hin:t∈l:=by
    rw [←he,hz,List.getD_eq_getElem?_getD,List.getElem?_eq_getElem hlt];exact List.getElem_mem hlt
   refine zzr fun K hK=>?_
   simp [go_sem,za0,za4,za1,g1,g7,g8,g9, he]
   apply hK;clear hK K
   refine zaf (t:=true) (by simp [go_sem,g1,g7,g8,g9,he]) rfl ?_
   refine zzr fun K hK=>?_
   simp [go_sem,za0,za4,za1,g1,g7,g8,g9]
   apply hK;clear hK K
   refine zad ?_
   repeat first|refine za3 ?_|refine za2 ?_
   refine ⟨trivial,?_,hA0⟩
   simp [go_sem,zar,zam,hin]
  ·refine zzr fun K hK=>?_
   simp [go_sem,za0,za4,za1,g1,g7,g8,g9, he]
   apply hK;clear hK K
   refine zaf (t:=false) (by simp [go_sem,g1,g7,g8,g9,he]) rfl ?_
   refine za7 ?_
   apply hK3
   refine zzt fun K hK=>?_
   simp [go_sem,g9,hw1]
   refine hK _ _ ⟨l.length-(j+1),by omega,rfl,j+1,by omega,rfl,fun i hi=>?_,by simp [go_sem,g1],by simp [go_sem,g7],by simp [go_sem,g8],by simp [go_sem]⟩
   by_cases hij:i=j
   ·rw [hij,←hz];exact he
   ·exact hno i (by omega)
 ·have c1:¬(j:Int)<l.length:=by omega
  have hnin:t∉l:=by
   intro hin
   obtain ⟨i,hi,e⟩:=List.getElem_of_mem hin
   refine hno i (by omega) ?_
   rw [List.getD_eq_getElem?_getD,List.getElem?_eq_getElem hi];exact e
  refine zzr fun K hK=>?_
  simp [go_sem,za0,za4,za1,g1,g7,g8,g9, c1,hlt]
  apply hK;clear hK K
  refine zab (fun K2 hK2=>?_)
  refine zaf (t:=false) (by simp [go_sem,g1,g7,g8,g9,c1,hlt]) rfl ?_
  refine zav ?_
  repeat (first|refine zae ?_|refine za6 rfl ?_|refine za8 ?_)
  apply hK1
  refine zzr fun K hK=>?_
  simp [go_sem,za0,za4,za1,g1,g7,g8,g9]
  apply hK;clear hK K
  refine zad ?_
  repeat first|refine za3 ?_|refine za2 ?_
  refine ⟨trivial,?_,hA0⟩
  simp [go_sem,zar,zam,hnin]
theorem kwR_any (w:World):Calls Tryz.prog 62 #[] w fun e w'=>∃ a,e = .returned (.slice a KW.length 29)∧SL w' a (KW.map strV)∧Below w.heap.size w w':=by
 refine (kwr_any w).mono ?_
 rintro e w' ⟨b,rfl,hE,hle,hB⟩
 refine ⟨some ⟨b,0,none⟩,rfl,?_,hE⟩
 have:=SL.whole hB
 unfold KWC at this
 simpa using this
theorem risName_any (t:Tok) (w:World):Calls Tryz.prog 39 #[.agg (zcV t).toArray] w fun e w'=>e = .returned (.bool (decide (t.k=1) && !isKw t.t))∧Below w.heap.size w w':=by
 refine za5 (args:=[.agg #[.int .i64 t.k,.int .i64 t.p,.int .i64 t.e,.string ⟨t.t.toArray⟩]]) (rs:=[.tmp 2]) (n:=13) Tryz.func39 rfl rfl rfl (by kernel_rfl) ?_
 have hA0:=Below.refl w.heap.size w
 refine zzr fun K hK=>?_
 simp [go_sem,za0,za4,za1]
 refine zbF #[.int .i64 t.k,.int .i64 t.p,.int .i64 t.e,.string ⟨t.t.toArray⟩] (by simp [go_sem,za0,za4,za1]) rfl (by simp [go_sem,Value.cells,za0,za4,za1]) (fun w1 b1 hE1 hle1 hB1=>?_)
 have hb1_0:=Nat.le_trans hA0.size hle1
 replace hA0:=hA0.next hE1
 simp [go_sem,za0,za4,za1,hB1.cell]
 apply hK;clear hK K
 by_cases h1:t.k=1
 ·have h1':(t.k:Int)=1:=by omega
  have hD2:=Below.drew1 w1
  replace hA0:=hA0.next hD2
  replace hB1:=hB1.keep hD2
  refine W_rd [(0,0),(1,0),(2,0),(3,0),(5,0),(6,0),(4,1),(7,1),(8,0),(9,0),(10,0)] (by kernel_rfl) (by kernel_rfl) (fun K hK=>?_)
  simp [go_sem,za0,za4,za1,hB1.cell, h1,h1']
  refine zzc rfl Tryz.call62 (fun R hR=>?_)
  simp [go_sem,za0,za4,za1,hB1.cell]
  refine (kwR_any _).mono ?_
  rintro e w3 ⟨ka,rfl,hks,hE3⟩
  refine ⟨_,rfl,(by assumption),hR _ _ ?_⟩
  clear hR R
  replace hA0:=hA0.next hE3
  replace hB1:=hB1.keep hE3
  simp [go_sem,za0,za4,za1,hB1.cell,h1,h1']
  refine zzc rfl Tryz.call61 (fun R hR=>?_)
  simp [go_sem,za0,za4,za1,hB1.cell,h1,h1']
  refine (has_any KW ka 29 t.t _ hks (by decide)).mono ?_
  rintro e w4 ⟨rfl,hE4⟩
  refine ⟨_,rfl,(by assumption),hR _ _ ?_⟩
  clear hR R
  replace hA0:=hA0.next hE4
  replace hB1:=hB1.keep hE4
  simp [go_sem,za0,za4,za1,hB1.cell,h1,h1']
  apply hK;clear hK K
  refine zad ?_
  repeat first|refine za3 ?_|refine za2 ?_
  refine ⟨trivial,?_,hA0⟩
  simp [go_sem,zar,zam,h1,isKw]
 ·have h1':¬(t.k:Int)=1:=by omega
  have hD5:=Below.drew1 w1
  replace hA0:=hA0.next hD5
  replace hB1:=hB1.keep hD5
  refine W_rd [(0,0),(1,0),(2,0),(3,0),(5,0),(6,0),(4,1),(7,1),(8,0),(9,0),(10,0)] (by kernel_rfl) (by kernel_rfl) (fun K hK=>?_)
  simp [go_sem,za0,za4,za1,hB1.cell, h1,h1']
  apply hK;clear hK K
  refine zad ?_
  repeat first|refine za3 ?_|refine za2 ?_
  refine ⟨trivial,?_,hA0⟩
  simp [go_sem,zar,zam,h1]
theorem rkindOf_any (t:Tok) (sort:Int) (w:World):Calls Tryz.prog 18 #[.agg (zcV t).toArray,.int .i64 sort] w fun e w'=>e = .returned (.int .i64 (if t.k≠1 then 0 else if sort=0 then max (wsS t.t 2) (wsS t.t 3) else wsS t.t sort))∧Below w.heap.size w w':=by
 refine za5 (args:=[.agg #[.int .i64 t.k,.int .i64 t.p,.int .i64 t.e,.string ⟨t.t.toArray⟩],.int .i64 sort]) (rs:=[.tmp 4]) (n:=21) Tryz.func18 rfl rfl rfl (by kernel_rfl) ?_
 have hA0:=Below.refl w.heap.size w
 refine zzr fun K hK=>?_
 simp [go_sem,za0,za4,za1]
 refine zbF #[.int .i64 t.k,.int .i64 t.p,.int .i64 t.e,.string ⟨t.t.toArray⟩] (by simp [go_sem,za0,za4,za1]) rfl (by simp [go_sem,Value.cells,za0,za4,za1]) (fun w1 b1 hE1 hle1 hB1=>?_)
 have hb1_0:=Nat.le_trans hA0.size hle1
 replace hA0:=hA0.next hE1
 simp [go_sem,za0,za4,za1,hB1.cell]
 apply hK;clear hK K
 refine zab (fun K1 hK1=>?_)
 by_cases h1:t.k=1
 ·have h1':(t.k:Int)=1:=by omega
  refine zzr fun K hK=>?_
  simp [go_sem,za0,za4,za1,hB1.cell, h1,h1']
  apply hK;clear hK K
  refine zaf (t:=false) (by simp [go_sem, h1,h1']) rfl ?_
  refine za7 ?_
  apply hK1
  refine zab (fun K2 hK2=>?_)
  refine zzr fun K hK=>?_
  simp [go_sem,za0,za4,za1,hB1.cell]
  apply hK;clear hK K
  by_cases h0:sort=0
  ·refine zaf (t:=true) (by simp [go_sem,h0]) rfl ?_
   have hD2:=Below.drew1 w1
   replace hA0:=hA0.next hD2
   replace hB1:=hB1.keep hD2
   refine W_rd [(0,0),(1,0),(3,0),(4,0),(2,1),(5,1),(6,0),(7,0)] (by kernel_rfl) (by kernel_rfl) (fun K hK=>?_)
   simp [go_sem,za0,za4,za1,hB1.cell]
   refine zzc rfl Tryz.call38 (fun R hR=>?_)
   simp [go_sem,za0,za4,za1,hB1.cell]
   refine (withSort_any t.t 2 _).mono ?_
   rintro e w3 ⟨rfl,hE3⟩
   refine ⟨_,rfl,(by assumption),hR _ _ ?_⟩
   clear hR R
   replace hA0:=hA0.next hE3
   replace hB1:=hB1.keep hE3
   simp [go_sem,za0,za4,za1,hB1.cell]
   refine zzc rfl Tryz.call38 (fun R hR=>?_)
   simp [go_sem,za0,za4,za1,hB1.cell]
   refine (withSort_any t.t 3 _).mono ?_
   rintro e w4 ⟨rfl,hE4⟩
   refine ⟨_,rfl,(by assumption),hR _ _ ?_⟩
   clear hR R
   replace hA0:=hA0.next hE4
   replace hB1:=hB1.keep hE4
   simp [go_sem,za0,za4,za1,hB1.cell]
   apply hK;clear hK K
   refine zad ?_
   repeat first|refine za3 ?_|refine za2 ?_
   refine ⟨trivial,?_,hA0⟩
   simp [go_sem,zar,zam,h1,h0]
   split<;>omega
  ·refine zaf (t:=false) (by simp [go_sem, h0]) rfl ?_
   refine za7 ?_
   apply hK2
   refine zzr fun K hK=>?_
   simp [go_sem,za0,za4,za1,hB1.cell]
   refine zzc rfl Tryz.call38 (fun R hR=>?_)
   simp [go_sem,za0,za4,za1,hB1.cell]
   refine (withSort_any t.t sort _).mono ?_
   rintro e w5 ⟨rfl,hE5⟩
   refine ⟨_,rfl,hR _ _ ?_⟩
   clear hR R
   replace hA0:=hA0.next hE5
   replace hB1:=hB1.keep hE5
   simp [go_sem,za0,za4,za1,hB1.cell]
   apply hK;clear hK K
   refine zad ?_
   repeat first|refine za3 ?_|refine za2 ?_
   refine ⟨trivial,?_,hA0⟩
   simp [go_sem,zar,zam,h1,h0]
 ·have h1':¬(t.k:Int)=1:=by omega
  refine zzr fun K hK=>?_
  simp [go_sem,za0,za4,za1,hB1.cell, h1,h1']
  apply hK;clear hK K
  refine zaf (t:=true) (by simp [go_sem,h1,h1']) rfl ?_
  refine zzr fun K hK=>?_
  simp [go_sem,za0,za4,za1,hB1.cell]
  apply hK;clear hK K
  refine zad ?_
  repeat first|refine za3 ?_|refine za2 ?_
  refine ⟨trivial,?_,hA0⟩
  simp [go_sem,zar,zam,h1]
theorem toks_len {w:World} {la:Option Addr} {T:List Tok} (hsl:SL w la (zc2 T)) {i:Nat} (hi:i<T.length):∃ lb lo,la=some ⟨lb,lo,none⟩∧w.cell? ⟨lb,lo+i*4,none⟩=some (.int .i64 (zai T i).k)∧w.cell? ⟨lb,lo+i*4+1,none⟩=some (.int .i64 (zai T i).p)∧w.cell? ⟨lb,lo+i*4+3,none⟩=some (.string ⟨(zai T i).t.toArray⟩):=by
 have hrow:((zc2 T).drop (i*4)).take 4=zcV (zai T i):=by
  unfold zc2 zai
  refine zdz (zes T) ?_
  simp [List.getD_eq_getElem?_getD,hi]
 have key:∀ j,j<4→(zc2 T)[i*4+j]? = (zcV (zai T i))[j]? := by
  intro j hj
  have h4:(((zc2 T).drop (i*4)).take 4)[j]? = (zcV (zai T i))[j]? := by rw [hrow]
  rwa [List.getElem?_take_of_lt hj,List.getElem?_drop] at h4
 rcases hsl with h0|⟨lb,lo,e,h1⟩
 ·have:=key 0 (by decide);rw [h0] at this;simp [zcV] at this
 ·refine ⟨lb,lo,e,?_,?_,?_⟩
  ·have:=h1 (i*4+0) _ (key 0 (by decide));simpa using this
  ·have:=h1 (i*4+1) _ (key 1 (by decide));rw [←Nat.add_assoc] at this;exact this
  ·have:=h1 (i*4+3) _ (key 3 (by decide));rw [←Nat.add_assoc] at this;exact this
def zbB {α:Type}:Res α→Nat
 | .ok _ j=>j
 | .er j _=>j
def zcu {α:Type}:Res α→Int
 | .ok _ _=>0
 | .er _ e=>e
theorem zdp {w:World} {la:Option Addr} {cap:Nat} {T:List Tok} (hsl:SL w la (zc2 T)) (hT:T.length≤20001) (i:Nat) (hi:i<T.length) (t:List UInt8) :
  Calls Tryz.prog 47 #[.slice la T.length cap,.int .i64 i,.string ⟨t.toArray⟩] w fun e w'=>e = .returned (.tuple #[.int .i64 (zbB (zeE T t i)),.int .i64 (zcu (zeE T t i))])∧Below w.heap.size w w':=by
 obtain ⟨lb,lo,rfl,q1,q2,q3⟩:=toks_len hsl hi
 have hi':(i:Int)<T.length:=by omega
 have hw1:IntKind.i64.wrap ((i:Int)+1)=(i+1:Nat):=zzw (by omega)
 obtain ⟨E,hE0⟩:∃ E,E=zeE T t i:=⟨_,rfl⟩
 rw [←hE0]
 unfold zeE at hE0
 refine za5 (args:=[.slice (some ⟨lb,lo,none⟩) T.length cap,.int .i64 i,.string ⟨t.toArray⟩]) (rs:=[.tmp 6,.tmp 7]) (n:=26) Tryz.func47 rfl rfl rfl (by kernel_rfl) ?_
 have hA0:=Below.refl w.heap.size w
 refine zzr fun K hK=>?_
 simp [go_sem,za0,za4,za1]
 apply hK;clear hK K
 refine zab (fun K1 hK1=>?_)
 by_cases h0:(zai T i).k=0
 ·have h0':((zai T i).k:Int)=0:=by omega
  rw [if_pos (.inl h0)] at hE0
  refine zzr fun K hK=>?_
  simp [go_sem,za0,za4,za1, hi,hi',q1,q3,h0,h0']
  apply hK;clear hK K
  refine zaf (t:=true) (by simp [go_sem,h0,h0']) rfl ?_
  refine zzr fun K hK=>?_
  simp [go_sem,za0,za4,za1]
  apply hK;clear hK K
  refine zad ?_
  repeat first|refine za3 ?_|refine za2 ?_
  refine ⟨trivial,?_,hA0⟩
  simp [go_sem,zar,zam,hE0,zbB,zcu]
 ·have h0':¬((zai T i).k:Int)=0:=by omega
  by_cases ht:(zai T i).t=t
  ·rw [if_neg (fun h=>h.elim h0 (fun h=>h ht))] at hE0
   refine zzr fun K hK=>?_
   simp [go_sem,za0,za4,za1, hi,hi',q1,q3,h0,h0',ht]
   apply hK;clear hK K
   refine zaf (t:=false) (by simp [go_sem,h0,h0',ht]) rfl ?_
   refine za7 ?_
   apply hK1
   refine zzr fun K hK=>?_
   simp [go_sem,za0,za4,za1, hw1]
   apply hK;clear hK K
   refine zad ?_
   repeat first|refine za3 ?_|refine za2 ?_
   refine ⟨trivial,?_,hA0⟩
   simp [go_sem,zar,zam,hE0,zbB,zcu]
  ·rw [if_pos (.inr ht)] at hE0
   refine zzr fun K hK=>?_
   simp [go_sem,za0,za4,za1, hi,hi',q1,q3,h0,h0',ht]
   apply hK;clear hK K
   refine zaf (t:=true) (by simp [go_sem,h0,h0',ht]) rfl ?_
   refine zzr fun K hK=>?_
   simp [go_sem,za0,za4,za1]
   apply hK;clear hK K
   refine zad ?_
   repeat first|refine za3 ?_|refine za2 ?_
   refine ⟨trivial,?_,hA0⟩
   simp [go_sem,zar,zam,hE0,zbB,zcu]
section
variable {T:List Tok}
theorem exp_lt (hW:Wf T) {t:List UInt8} {i:Nat} (hi:i<T.length):zbB (zeE T t i)<T.length:=by
 unfold zeE
 split
 ·exact hi
 ·rename_i h
  exact hW.next hi (fun e=>h (.inl e))
theorem exp_ok_lt (hW:Wf T) {t:List UInt8} {i j:Nat} {u:Unit} (hi:i<T.length) (h:zeE T t i = .ok u j):j<T.length:=by
 have:=exp_lt hW (t:=t) hi
 rw [h] at this;exact this
theorem rat2_lt (hW:Wf T) {a:Rat} {i:Nat} (hi:i<T.length):zbB (ratS2 T a i)<T.length:=by
 unfold ratS2
 by_cases h1:(zai T i).t=sSL
 ·have hk:(zai T i).k≠0:=fun h=>by have:=hW.text i h;rw [h1] at this;cases this
  have hj:=hW.next hi hk
  rw [if_neg (fun h=>h h1)]
  by_cases h2:(zai T (i+1)).k=2
  ·have hj2:=hW.next hj (by rw [h2];decide)
   rw [if_neg (fun h=>h h2)]
   split
   ·exact hj
   ·exact hj2
  ·rw [if_pos h2];exact hj
 ·rw [if_pos h1];exact hi
theorem rat1_lt (hW:Wf T) {neg:Bool} {i:Nat} (hi:i<T.length):zbB (ratS1 T neg i)<T.length:=by
 unfold ratS1
 by_cases h2:(zai T i).k=2
 ·rw [if_neg (fun h=>h h2)]
  exact rat2_lt hW (hW.next hi (by rw [h2];decide))
 ·rw [if_pos h2];exact hi
theorem rat_lt (hW:Wf T) {i:Nat} (hi:i<T.length):zbB (ratS T i)<T.length:=by
 unfold ratS
 have h:=exp_lt hW (t:=sCM) hi
 cases he:zeE T sCM i with
 | er j e=>rw [he] at h;exact h
 | ok u j =>
  rw [he] at h
  have hj:j<T.length:=h
  simp only
  by_cases hm:(zai T j).t=sMI
  ·have hk:(zai T j).k≠0:=fun h=>by have:=hW.text j h;rw [hm] at this;cases this
   rw [if_pos hm]
   exact rat1_lt hW (hW.next hj hk)
  ·rw [if_neg hm];exact rat1_lt hW hj
theorem args_lt (hW:Wf T) {arg:Int→Nat→Res Tre} (ha:∀ p i,i<T.length→zbB (arg p i)<T.length):∀ (ps:List Int) (first:Bool) (i:Nat),i<T.length→zbB (zdi T arg first ps i)<T.length
 | [],first,i,hi=>hi
 | p::r,first,i,hi=>by
  unfold zdi
  have h:=exp_lt hW (t:=if first=true then sLP else sCM) hi
  cases he:zeE T (if first=true then sLP else sCM) i with
  | er j e=>rw [he] at h;exact h
  | ok u j =>
   rw [he] at h
   have hj:j<T.length:=h
   simp only
   have h1:=ha p j hj
   cases hr:arg p j with
   | er j e=>rw [hr] at h1;exact h1
   | ok x j2 =>
    rw [hr] at h1
    have hj2:j2<T.length:=h1
    simp only
    have h2:=args_lt hW ha r false j2 hj2
    cases hz:zdi T arg false r j2 with
    | er j e=>rw [hz] at h2;exact h2
    | ok xs j3=>rw [hz] at h2;exact h2
theorem end_lt (hW:Wf T) {k:Int} {i:Nat} (hi:i<T.length):zbB (endS T k i)<T.length:=by
 unfold endS
 have h0:zbB (if hasR k=true then (match ratS T i with | .er j e=>Res.er j e | .ok x j=>.ok (qR3 x) j) else .ok r30 i)<T.length:=by
  split
  ·have:=rat_lt hW hi
   cases hr:ratS T i with
   | er j e=>rw [hr] at this;exact this
   | ok x j=>rw [hr] at this;exact this
  ·exact hi
 generalize (if hasR k=true then (match ratS T i with | .er j e=>Res.er j e | .ok x j=>.ok (qR3 x) j) else .ok r30 i)=r at h0
 cases r with
 | er j e=>exact h0
 | ok q j =>
  have hj:j<T.length:=h0
  simp only
  have h:=exp_lt hW (t:=sRP) hj
  cases he:zeE T sRP j with
  | er j e=>rw [he] at h;exact h
  | ok u j=>rw [he] at h;exact h
theorem con_lt (hW:Wf T) {arg:Int→Nat→Res Tre} (ha:∀ p i,i<T.length→zbB (arg p i)<T.length) {sort:Int} {i:Nat} (hi:i<T.length):zbB (conS T arg sort i)<T.length:=by
 unfold conS
 by_cases h0:kofS T i sort=0
 ·rw [if_pos h0];exact hi
 ·rw [if_neg h0]
  have hk:(zai T i).k≠0:=by
   intro h;apply h0;unfold kofS;rw [if_pos (by rw [h];decide)]
  have h1:=args_lt hW ha (zc6 (kofS T i sort)) true (i+1) (hW.next hi hk)
  cases hz:zdi T arg true (zc6 (kofS T i sort)) (i+1) with
  | er j e=>rw [hz] at h1;exact h1
  | ok xs j =>
   rw [hz] at h1
   have hj:j<T.length:=h1
   have h2:=end_lt hW (k:=kofS T i sort) hj
   simp only
   cases he:endS T (kofS T i sort) j with
   | er j e=>rw [he] at h2;exact h2
   | ok q j2=>rw [he] at h2;exact h2
theorem arg_lt (hW:Wf T):∀ (f:Nat) (sort:Int) (i:Nat),i<T.length→zbB (argS T f sort i)<T.length
 | 0,sort,i,hi=>by
  unfold argS
  split<;>exact hi
 | f+1,sort,i,hi=>by
  unfold argS
  split
  ·exact hi
  ·simp only
   by_cases hn:nmS T i=true
   ·rw [if_pos hn]
    exact hW.next hi (by rw [nmS_k hn];decide)
   ·rw [if_neg hn]
    exact con_lt hW (fun p i hi=>arg_lt hW f p i hi) hi
end
end Go.Proofs.YtefhenfofomjhaaGreat
namespace Go.Proofs.YtefhenfofomjhaaGreat
open Go Go.RowKit Go.V Go.ChangeMaps
inductive LexL:Nat→List UInt8→List Tok→Prop
 | fin (o:Nat) (l:List UInt8) (h:zcN false l=l.length):LexL o l [⟨0,o+l.length,o+l.length,[]⟩]
 | tok (o:Nat) (l:List UInt8) (n m K:Nat) (T:List Tok) (hn:zcN false l=n) (hlt:n<l.length) (ht:tokL (l.drop n)=(0,K,m)) (hl:LexL (o+n+m) (l.drop (n+m)) T):LexL o l (⟨K,o+n,o+n+m,(l.drop n).take m⟩::T)
end Go.Proofs.YtefhenfofomjhaaGreat
namespace Go.Proofs.YtefhenfofomjhaaGreat
open Go Go.RowKit Go.V
structure Sim (T T':List Tok) (d N:Nat) (mv:Tre→Tre) (mp:Int→Int):Prop where
 tk:∀ i,i<N→(zai T' (i+d)).k=(zai T i).k∧(zai T' (i+d)).t=(zai T i).t
 mv:∀ i,i<N→∀ k n b l m args,mv (.mk k n b l m args (zai T i).p) = .mk k n b l m (args.map mv) (zai T' (i+d)).p
 mp:∀ i,i<N→mp (zai T i).p=(zai T' (i+d)).p
section
variable {T T':List Tok} {d N:Nat} {mv:Tre→Tre} {mp:Int→Int}
theorem Sim.nm (S:Sim T T' d N mv mp) {i:Nat} (hi:i<N):nmS T' (i+d)=nmS T i:=by
 obtain ⟨h1,h2⟩:=S.tk i hi
 unfold nmS;rw [h1,h2]
theorem Sim.exp (S:Sim T T' d N mv mp) {t:List UInt8} {i j:Nat} {u:Unit} (h:zeE T t i = .ok u j) (hj:j≤N):zeE T' t (i+d) = .ok u (j+d):=by
 have e:=zej h
 subst e
 obtain ⟨h1,h2⟩:=S.tk i (by omega)
 unfold zeE at h ⊢
 rw [h1,h2]
 split at h
 ·cases h
 ·rename_i hc
  rw [if_neg hc,show i+d+1=i+1+d by omega]
theorem rat2_le {a x:Rat} {i j:Nat} (h:ratS2 T a i = .ok x j):i≤j:=by
 unfold ratS2 at h
 (repeat' split at h)<;>first|(injection h with _ h;omega)|(exfalso;cases h;done)
theorem Sim.rat2 (S:Sim T T' d N mv mp) {a x:Rat} {i j:Nat} (h:ratS2 T a i = .ok x j) (hj:j<N):ratS2 T' a (i+d) = .ok x (j+d):=by
 have hle:=rat2_le h
 obtain ⟨h1,h2⟩:=S.tk i (by omega)
 unfold ratS2 at h ⊢
 rw [h2]
 by_cases c1:(zai T i).t≠sSL
 ·rw [if_pos c1] at h ⊢
  injection h with e1 e2;subst e1;subst e2;rfl
 ·rw [if_neg c1] at h ⊢
  by_cases c2:(zai T (i+1)).k≠2
  ·rw [if_pos c2] at h;cases h
  ·rw [if_neg c2] at h
   by_cases c3:qrV (zai T (i+1)).t=0
   ·rw [if_pos c3] at h;cases h
   ·rw [if_neg c3] at h
    injection h with e1 e2
    subst e2
    obtain ⟨g1,g2⟩:=S.tk (i+1) (by omega)
    rw [show i+d+1=i+1+d by omega,g1,g2,if_neg c2,if_neg c3,←e1,show i+d+2=i+2+d by omega]
theorem rat1_le {neg:Bool} {x:Rat} {i j:Nat} (h:ratS1 T neg i = .ok x j):i<j:=by
 unfold ratS1 at h
 split at h
 ·cases h
 ·have:=rat2_le h;omega
theorem Sim.rat1 (S:Sim T T' d N mv mp) {neg:Bool} {x:Rat} {i j:Nat} (h:ratS1 T neg i = .ok x j) (hj:j<N):ratS1 T' neg (i+d) = .ok x (j+d):=by
 have hle:=rat1_le h
 obtain ⟨h1,h2⟩:=S.tk i (by omega)
 unfold ratS1 at h ⊢
 rw [h1,h2]
 split at h
 ·cases h
 ·rename_i hc
  rw [if_neg hc,show i+d+1=i+1+d by omega]
  exact S.rat2 h hj
theorem rat_le {x:Rat} {i j:Nat} (h:ratS T i = .ok x j):i<j:=by
 unfold ratS at h
 cases he:zeE T sCM i with
 | er j e=>rw [he] at h;cases h
 | ok u j1 =>
  rw [he] at h
  have e1:=zej he
  simp only at h
  split at h
  ·have:=rat1_le h;omega
  ·have:=rat1_le h;omega
theorem Sim.rat (S:Sim T T' d N mv mp) {x:Rat} {i j:Nat} (h:ratS T i = .ok x j) (hj:j<N):ratS T' (i+d) = .ok x (j+d):=by
 unfold ratS at h ⊢
 cases he:zeE T sCM i with
 | er j e=>rw [he] at h;cases h
 | ok u j1 =>
  rw [he] at h
  have e1:=zej he
  simp only at h
  have hj1:j1<j:=by
   split at h
   ·have:=rat1_le h;omega
   ·exact rat1_le h
  rw [S.exp he (by omega)]
  simp only
  obtain ⟨h1,h2⟩:=S.tk j1 (by omega)
  rw [h2]
  split at h
  ·rename_i hc
   rw [if_pos hc,show j1+d+1=j1+1+d by omega]
   exact S.rat1 h hj
  ·rename_i hc
   rw [if_neg hc]
   exact S.rat1 h hj
theorem args_le {arg:Int→Nat→Res Tre} (hle:∀ p i x j,arg p i = .ok x j→i≤j):∀ (ps:List Int) (first:Bool) (i:Nat) (xs:List Tre) (j:Nat),zdi T arg first ps i = .ok xs j→i≤j
 | [],first,i,xs,j,h=>by unfold zdi at h;injection h with _ h;omega
 | p::r,first,i,xs,j,h=>by
  unfold zdi at h
  cases he:zeE T (if first=true then sLP else sCM) i with
  | er j e=>rw [he] at h;cases h
  | ok u j1 =>
   rw [he] at h
   have e1:=zej he
   simp only at h
   cases ha:arg p j1 with
   | er j e=>rw [ha] at h;cases h
   | ok x j2 =>
    rw [ha] at h
    have e2:=hle _ _ _ _ ha
    simp only at h
    cases hz:zdi T arg false r j2 with
    | er j e=>rw [hz] at h;cases h
    | ok ys j3 =>
     rw [hz] at h
     have e3:=args_le hle r false j2 ys j3 hz
     injection h with _ h
     omega
theorem Sim.args (S:Sim T T' d N mv mp) {arg arg':Int→Nat→Res Tre} (hle:∀ p i x j,arg p i = .ok x j→i≤j) (hs:∀ p i x j,arg p i = .ok x j→j≤N→arg' p (i+d) = .ok (mv x) (j+d)) :
  ∀ (ps:List Int) (first:Bool) (i:Nat) (xs:List Tre) (j:Nat),zdi T arg first ps i = .ok xs j→j≤N→zdi T' arg' first ps (i+d) = .ok (xs.map mv) (j+d)
 | [],first,i,xs,j,h,hj=>by
  unfold zdi at h ⊢
  injection h with e1 e2;subst e1;subst e2;rfl
 | p::r,first,i,xs,j,h,hj=>by
  unfold zdi at h ⊢
  cases he:zeE T (if first=true then sLP else sCM) i with
  | er j e=>rw [he] at h;cases h
  | ok u j1 =>
   rw [he] at h
   simp only at h
   cases ha:arg p j1 with
   | er j e=>rw [ha] at h;cases h
   | ok x j2 =>
    rw [ha] at h
    have e2:=hle _ _ _ _ ha
    simp only at h
    cases hz:zdi T arg false r j2 with
    | er j e=>rw [hz] at h;cases h
    | ok ys j3 =>
     rw [hz] at h
     have e3:=args_le hle r false j2 ys j3 hz
     injection h with h1 h2
     subst h2;subst h1
     rw [S.exp he (by omega)]
     simp only
     rw [hs _ _ _ _ ha (by omega)]
     simp only
     rw [S.args hle hs r false j2 ys j3 hz hj]
     rfl
theorem end_le {k:Int} {q:R3} {i j:Nat} (h:endS T k i = .ok q j):i<j:=by
 unfold endS at h
 by_cases hr:hasR k=true
 ·rw [if_pos hr] at h
  cases hq:ratS T i with
  | er j e=>rw [hq] at h;cases h
  | ok x j1 =>
   rw [hq] at h
   simp only at h
   have:=rat_le hq
   cases he:zeE T sRP j1 with
   | er j e=>rw [he] at h;cases h
   | ok u j2 =>
    rw [he] at h
    have:=zej he
    injection h with _ h
    omega
 ·rw [if_neg hr] at h
  simp only at h
  cases he:zeE T sRP i with
  | er j e=>rw [he] at h;cases h
  | ok u j2 =>
   rw [he] at h
   have:=zej he
   injection h with _ h
   omega
theorem Sim.fin (S:Sim T T' d N mv mp) {k:Int} {q:R3} {i j:Nat} (h:endS T k i = .ok q j) (hj:j≤N):endS T' k (i+d) = .ok q (j+d):=by
 unfold endS at h ⊢
 by_cases hr:hasR k=true
 ·rw [if_pos hr] at h ⊢
  cases hq:ratS T i with
  | er j e=>rw [hq] at h;cases h
  | ok x j1 =>
   rw [hq] at h
   simp only at h
   cases he:zeE T sRP j1 with
   | er j e=>rw [he] at h;cases h
   | ok u j2 =>
    rw [he] at h
    have:=zej he
    injection h with h1 h2
    subst h2;subst h1
    rw [S.rat hq (by omega)]
    simp only
    rw [S.exp he (by omega)]
 ·rw [if_neg hr] at h ⊢
  simp only at h ⊢
  cases he:zeE T sRP i with
  | er j e=>rw [he] at h;cases h
  | ok u j2 =>
   rw [he] at h
   have:=zej he
   injection h with h1 h2
   subst h2;subst h1
   rw [S.exp he (by omega)]
theorem con_le {arg:Int→Nat→Res Tre} (hle:∀ p i x j,arg p i = .ok x j→i≤j) {sort:Int} {i j:Nat} {x:Tre} (h:conS T arg sort i = .ok x j):i<j:=by
 unfold conS at h
 split at h
 ·cases h
 ·cases ha:zdi T arg true (zc6 (kofS T i sort)) (i+1) with
  | er j e=>rw [ha] at h;cases h
  | ok xs j1 =>
   rw [ha] at h
   have e1:=args_le hle _ _ _ _ _ ha
   simp only at h
   cases he:endS T (kofS T i sort) j1 with
   | er j e=>rw [he] at h;cases h
   | ok q j2 =>
    rw [he] at h
    have e2:=end_le he
    injection h with _ h
    omega
theorem arg_le:∀ (f:Nat) (sort:Int) (i:Nat) (x:Tre) (j:Nat),argS T f sort i = .ok x j→i≤j
 | 0,sort,i,x,j,h=>by
  unfold argS at h
  split at h<;>cases h
 | f+1,sort,i,x,j,h=>by
  unfold argS at h
  split at h
  ·cases h
  ·simp only at h
   split at h
   ·injection h with _ h;omega
   ·exact Nat.le_of_lt (con_le (arg_le f) h)
theorem arg_lt':∀ (f:Nat) (sort:Int) (i:Nat) (x:Tre) (j:Nat),argS T f sort i = .ok x j→i<j
 | 0,sort,i,x,j,h=>by
  unfold argS at h
  split at h<;>cases h
 | f+1,sort,i,x,j,h=>by
  unfold argS at h
  split at h
  ·cases h
  ·simp only at h
   split at h
   ·injection h with _ h;omega
   ·exact con_le (arg_le f) h
theorem names_le:∀ (n i:Nat) (acc l:List (List UInt8)) (j:Nat),zcC T n i acc = .ok l j→i<j
 | 0,i,acc,l,j,h=>by unfold zcC at h;cases h
 | n+1,i,acc,l,j,h=>by
  unfold zcC at h
  split at h
  ·cases h
  ·split at h
   ·injection h with _ h;omega
   ·have:=names_le n _ _ _ _ h;omega
theorem Sim.names (S:Sim T T' d N mv mp):∀ (n n' i:Nat) (acc l:List (List UInt8)) (j:Nat),zcC T n i acc = .ok l j→j<N→n≤n'→zcC T' n' (i+d) acc = .ok l (j+d)
 | 0,n',i,acc,l,j,h,hj,hn=>by unfold zcC at h;cases h
 | n+1,0,i,acc,l,j,h,hj,hn=>by omega
 | n+1,n'+1,i,acc,l,j,h,hj,hn=>by
  have hle:=names_le _ _ _ _ _ h
  obtain ⟨h1,h2⟩:=S.tk i (by omega)
  obtain ⟨g1,g2⟩:=S.tk (i+1) (by omega)
  have hnm:=S.nm (i:=i) (by omega)
  unfold zcC at h ⊢
  rw [hnm,h2,show i+d+1=i+1+d by omega,g2]
  split at h
  ·cases h
  ·rename_i c1
   rw [if_neg c1]
   split at h
   ·rename_i c2
    rw [if_pos c2]
    injection h with e1 e2
    subst e2;subst e1;rfl
   ·rename_i c2
    rw [if_neg c2,show i+d+2=i+2+d by omega]
    exact S.names n n' _ _ _ _ h hj (by omega)
theorem def_le {kind:Int} {i j:Nat} {s:Stm} (h:defS T kind i = .ok s j):i<j:=by
 unfold defS at h
 split at h
 ·split at h
  ·cases h
  ·cases he:zeE T sAS (i+1) with
   | er j e=>rw [he] at h;cases h
   | ok u j1 =>
    rw [he] at h
    have e1:=zej he
    simp only at h
    cases hc:conS T (argS T 19) (srtS kind) j1 with
    | er j e=>rw [hc] at h;cases h
    | ok x j2 =>
     rw [hc] at h
     have e2:=con_le (arg_le 19) hc
     injection h with _ h
     omega
 ·cases hc:conS T (argS T 19) (srtS kind) i with
  | er j e=>rw [hc] at h;cases h
  | ok x j2 =>
   rw [hc] at h
   have e2:=con_le (arg_le 19) hc
   injection h with _ h
   omega
theorem stm1_le {i j:Nat} {s:Stm} (h:stmS1 T i = .ok s j):i<j:=by
 unfold stmS1 at h
 split at h
 ·cases hn:zcC T T.length (i+1) [] with
  | er j e=>rw [hn] at h;cases h
  | ok l j1 =>
   rw [hn] at h
   have:=names_le _ _ _ _ _ hn
   injection h with _ h
   omega
 ·split at h
  ·have:=def_le h;omega
  ·split at h
   ·have:=def_le h;omega
   ·split at h
    ·have:=def_le h;omega
    ·exact def_le h
theorem stm_le {i j:Nat} {s:Stm} (h:stmS T i = .ok s j):i+1<j:=by
 unfold stmS at h
 cases h1:stmS1 T i with
 | er j e=>rw [h1] at h;cases h
 | ok s1 j1 =>
  rw [h1] at h
  have:=stm1_le h1
  simp only at h
  cases he:zeE T sSC j1 with
  | er j e=>rw [he] at h;cases h
  | ok u j2 =>
   rw [he] at h
   have:=zej he
   injection h with _ h
   omega
inductive Chain (T:List Tok):Nat→List Stm→Nat→Prop
 | nil (i:Nat):Chain T i [] i
 | cons {i j k:Nat} {s:Stm} {l:List Stm} (hk:(zai T i).k≠0) (h:stmS T i = .ok s j) (hl:Chain T j l k):Chain T i (s::l) k
theorem Chain.le {i j:Nat} {l:List Stm} (h:Chain T i l j):i≤j:=by
 induction h with
 | nil i=>exact Nat.le_refl _
 | cons hk h hl ih=>have:=stm_le h;omega
theorem Chain.app {i j k:Nat} {l l':List Stm} (h:Chain T i l j) (h':Chain T j l' k):Chain T i (l++l') k:=by
 induction h with
 | nil i=>exact h'
 | cons hk h hl ih=>exact .cons hk h (ih h')
theorem def_lt (hW:Wf T) {kind:Int} {i:Nat} (hi:i<T.length):zbB (defS T kind i)<T.length:=by
 unfold defS
 split
 ·split
  ·exact hi
  ·rename_i hn
   have hk:(zai T i).k≠0:=by
    cases hb:nmS T i with
    | false=>exact absurd hb hn
    | true=>rw [nmS_k hb];decide
   have h1:=exp_lt hW (t:=sAS) (hW.next hi hk)
   cases he:zeE T sAS (i+1) with
   | er j e=>rw [he] at h1;exact h1
   | ok u j =>
    rw [he] at h1
    have h2:=con_lt hW (arg_lt hW 19) (sort:=srtS kind) (i:=j) h1
    simp only
    cases hc:conS T (argS T 19) (srtS kind) j with
    | er j e=>rw [hc] at h2;exact h2
    | ok x j=>rw [hc] at h2;exact h2
 ·have h2:=con_lt hW (arg_lt hW 19) (sort:=srtS kind) hi
  cases hc:conS T (argS T 19) (srtS kind) i with
  | er j e=>rw [hc] at h2;exact h2
  | ok x j=>rw [hc] at h2;exact h2
theorem names_lt (hW:Wf T):∀ (n i:Nat) (acc:List (List UInt8)),i<T.length→zbB (zcC T n i acc)<T.length
 | 0,i,acc,hi=>hi
 | n+1,i,acc,hi=>by
  unfold zcC
  split
  ·exact hi
  ·rename_i hn
   have hk:(zai T i).k≠0:=by
    cases hb:nmS T i with
    | false=>exact absurd hb hn
    | true=>rw [nmS_k hb];decide
   have h1:=hW.next hi hk
   split
   ·exact h1
   ·rename_i hc
    have hk2:(zai T (i+1)).k≠0:=fun h=>hc (by rw [hW.text _ h];decide)
    exact names_lt hW n (i+2) _ (hW.next h1 hk2)
theorem stm1_lt (hW:Wf T) {i:Nat} (hi:i<T.length):zbB (stmS1 T i)<T.length:=by
 unfold stmS1
 have ht:∀ t:List UInt8,t≠[]→(zai T i).t=t→i+1<T.length:=fun t h0 h=>hW.next hi (fun hk=>h0 (by rw [←h,hW.text i hk]))
 split
 ·rename_i hc
  have h1:=names_lt hW T.length (i+1) [] (ht _ (by decide) hc)
  cases hn:zcC T T.length (i+1) [] with
  | er j e=>rw [hn] at h1;exact h1
  | ok l j=>rw [hn] at h1;exact h1
 ·split
  ·rename_i hc;exact def_lt hW (ht _ (by decide) hc)
  ·split
   ·rename_i hc;exact def_lt hW (ht _ (by decide) hc)
   ·split
    ·rename_i hc;exact def_lt hW (ht _ (by decide) hc)
    ·exact def_lt hW hi
theorem stm_lt (hW:Wf T) {i:Nat} (hi:i<T.length):zbB (stmS T i)<T.length:=by
 unfold stmS
 have h1:=stm1_lt hW hi
 cases hs:stmS1 T i with
 | er j e=>rw [hs] at h1;exact h1
 | ok s j =>
  rw [hs] at h1
  have h2:=exp_lt hW (t:=sSC) (i:=j) h1
  simp only
  cases he:zeE T sSC j with
  | er j e=>rw [he] at h2;exact h2
  | ok u j=>rw [he] at h2;exact h2
end
theorem below_of_grown {w w':World} {b:Nat} (h:w.grownBy w' (some b)) (hb:w.heap.size≤b):Below w.heap.size w w':=⟨h.os,h.tape,h.output,h.size,fun k hk=>h.block k hk (by intro e;injection e with e;omega)⟩
theorem _root_.Go.V.Keep.sto {L:List Addr} {w0 w:World} {b:Nat} (hL:∀ a∈L,a.block≠b) (h:Sto w0 w b):Keep L w0 w:=fun a ha=>World.cell?_of_block (w:=w0) (a:=a) (h.block _ (hL a ha))
theorem la_lt {w:World} {la:Option Addr} {T:List Tok} (hsl:SL w la (zc2 T)) (hT:0<T.length):∀ ad,la=some ad→ad.block<w.heap.size:=by
 intro ad ha
 obtain ⟨b',off,e,hlt⟩:=hsl.lt (by intro e;have h4:=zd4 (zes T);rw [show (T.map zcV).flatten=zc2 T from rfl,e,List.length_map] at h4;simp at h4;omega)
 rw [ha] at e;injection e with e;subst e;exact hlt
end Go.Proofs.YtefhenfofomjhaaGreat
