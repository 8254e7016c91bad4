/- The specification's parser on tokens that stand elsewhere: two programs, one behind the other; an expression within a program. -/
import Derived.Test.YtefhenfofomjhaaLx3
import Derived.Test.YtefhenfofomjhaaTk1
set_option linter.unusedSimpArgs false
set_option linter.unusedVariables false
namespace Go.Proofs.Ytefhenfofomjhaa
open Go Go.RowKit Go.V
set_option maxRecDepth 20000
theorem kIx_cases (k:Int):(kIx k=30∧¬(10≤k∧k≤24)∧¬(40≤k∧k≤43)∧¬(50≤k∧k≤51)∧¬(60≤k∧k≤68))∨(kIx k<30∧k=(zaf (kIx k)).1):=by
 by_cases h1:10≤k∧k≤24
 ·right
  have h:k=10∨k=11∨k=12∨k=13∨k=14∨k=15∨k=16∨k=17∨k=18∨k=19∨k=20∨k=21∨k=22∨k=23∨k=24:=by omega
  rcases h with rfl|rfl|rfl|rfl|rfl|rfl|rfl|rfl|rfl|rfl|rfl|rfl|rfl|rfl|rfl<;>decide
 by_cases h2:40≤k∧k≤43
 ·right
  have h:k=40∨k=41∨k=42∨k=43:=by omega
  rcases h with rfl|rfl|rfl|rfl<;>decide
 by_cases h3:50≤k∧k≤51
 ·right
  have h:k=50∨k=51:=by omega
  rcases h with rfl|rfl<;>decide
 by_cases h4:60≤k∧k≤68
 ·right
  have h:k=60∨k=61∨k=62∨k=63∨k=64∨k=65∨k=66∨k=67∨k=68:=by omega
  rcases h with rfl|rfl|rfl|rfl|rfl|rfl|rfl|rfl|rfl<;>decide
 ·left
  refine ⟨?_,h1,h2,h3,h4⟩
  unfold kIx
  rw [if_neg h1,if_neg h2,if_neg h3,if_neg h4]
theorem kt_kind:∀ i,i<30→kIx (zaf i).1=i:=by decide +kernel
theorem rows_row {w:World} {ad t:Nat} {bl:Nat→Nat} (h:Bx w ad (rowsC bl).toArray t) {j:Nat} (hj:j<30):za2 w ⟨ad,j*4,none⟩ 0 4=rowC bl j∧za1 w ⟨ad,j*4,none⟩ 0 4:=by
 have hs:=SL.whole h
 have hall:∀ R∈(List.range 30).map (rowC bl),R.length=4:=by
  intro R hR
  obtain ⟨i,_,rfl⟩:=List.mem_map.1 hR
  rfl
 have hlen:(rowsC bl).length=120:=by
  unfold rowsC;rw [zc1 hall];simp
 obtain ⟨q1,q2,_⟩:=hs.row (j*4) 4 (by simp only [List.toList_toArray];rw [hlen];omega) (by decide)
 simp only [Option.getD_some,za0,Nat.zero_add,List.toList_toArray] at q1 q2
 refine ⟨?_,q2⟩
 rw [q1]
 unfold rowsC
 refine zcT hall ?_
 rw [List.getElem?_map,List.getElem?_range hj];rfl
def FindPost (w:World) (k:Int) (e:Ending) (w':World):Prop:=∃ (a:Option Addr) (c:Nat),e = .returned (.agg #[.int .i64 (zaf (kIx k)).1,.int .i64 (ze1 k),.string ⟨(zdY k).toArray⟩,.slice a (zbq k).length c])∧SL w' a (intC (zbq k))∧(∀ ad,a=some ad→w.heap.size≤ad.block)∧Below w.heap.size w w'
set_option maxHeartbeats 2000000 in
theorem find_any (k:Int) (w:World):Calls Try.prog 20 #[.int .i64 k] w (FindPost w k):=by
 refine za8 (args:=[.int .i64 k]) (rs:=[.cell 2 68]) (n:=18) Try.func20 rfl rfl rfl (by kernel_rfl) ?_
 have hA0:=Below.refl w.heap.size w
 first|refine zzr fun K hK=>?_|refine zzt fun K hK=>?_
 simp [go_sem,za0,za2,za1]
 refine zar (by simp [go_sem,za0,za2,za1]) rfl ty_zeroC68 (fun w20 b20 hE20 hle20 hB20=>?_)
 have hb20_0:=Nat.le_trans hA0.size hle20
 replace hA0:=hA0.next hE20
 simp [go_sem,za0,za2,za1,hB20.cell]
 refine hK _ _ ?_;clear hK K
 refine zad (fun K1 hK1=>?_)
 have hBZ:=hB20.lt
 first|refine zzr fun K hK=>?_|refine zzt fun K hK=>?_
 simp [go_sem,za0,za2,za1,hB20.cell]
 refine za5 (by simp [go_sem,za0,za2,za1,hB20.cell]) rfl Try.call34 (fun R hR=>?_)
 simp [go_sem,za0,za2,za1,hB20.cell]
 refine (rows_any _).mono ?_
 rintro e w21 ⟨b90,bl,rfl,hB90,hpr,hle90,hE21⟩
 refine ⟨_,rfl,hR _ _ ?_⟩
 clear hR R
 replace hA0:=hA0.next hE21
 replace hB20:=hB20.keep hE21
 have hle20':w.heap.size≤b20:=hle20
 have hne:b20≠b90:=Nat.ne_of_lt (Nat.lt_of_lt_of_le hBZ hle90)
 simp [go_sem,za0,za2,za1,hB20.cell]
 refine hK _ _ ?_;clear hK K
 refine zag ?_
 refine zaJ (fun m' g w'=>Below w.heap.size w w'∧Bx w' b90 (rowsC bl).toArray 68∧Bx w' b20 #[.int .i64 0,.int .i64 0,.string ⟨#[]⟩,.slice none 0 0] 68∧(∀ j,j<30→Bx w' (bl j) (intC (zaf j).2.2.2).toArray 3∧w.heap.size≤bl j∧bl j≠b20)∧∃ j:Nat,j≤30∧m'=30-j∧(∀ i,i<j→(zaf i).1≠k)∧g 0 = .int .i64 k∧g 2 = .pointer (some ⟨b20,0,none⟩)∧g 5 = .slice (some ⟨b90,0,none⟩) 30 30∧g 6 = .int .i64 30∧g 7 = .int .i64 j) 30 ?_ ?_
 ·exact ⟨hA0,hB90,hB20,fun j hj=>⟨(hpr j hj).1,by have:=(hpr j hj).2;have:=hE20.size;omega,by have:=(hpr j hj).2;omega⟩,0,by omega,rfl,fun i hi=>by omega,by simp [go_sem],by simp [go_sem],by simp [go_sem],by simp [go_sem],by simp [go_sem]⟩
 clear hA0 hB90 hpr hle90 hBZ hB20
 rintro m' g w' ⟨hA0,hB90,hB20,hpr,j,hj,rfl,hno,g0,g2,g5,g6,g7⟩
 have hd90_20:b90≠b20:=hne.symm
 by_cases hlt:j<30
 ·have c1:(j:Int)<30:=by omega
  have hw1:IntKind.i64.wrap ((j:Int)+1)=(j+1:Nat):=by rw [IntWalk.i64_in _ (by omega)];omega
  obtain ⟨r1,r2⟩:=rows_row hB90 hlt
  first|refine zzr fun K hK=>?_|refine zzt fun K hK=>?_
  simp [go_sem,za0,za2,za1,hB20.cell,g0,g2,g5,g6,g7, c1]
  refine hK _ _ ?_;clear hK K
  refine zad (fun K2 hK2=>?_)
  refine zao (t:=true) (by simp [go_sem,za0,za2,za1,hB20.cell,g0,g2,g5,g6,g7,c1]) rfl ?_
  refine zae ?_
  refine hK2 _ _ ?_
  refine zad (fun K3 hK3=>?_)
  refine zag ?_
  first|refine zzr fun K hK=>?_|refine zzt fun K hK=>?_
  simp [go_sem,za0,hB20.cell,g0,g2,g5,g6,g7, c1,r1,r2]
  refine zar (by simp [go_sem,za0,hB20.cell,g0,g2,g5,g6,g7]) rfl ty_zeroC68 (fun w10 b10 hE10 hle10 hB10=>?_)
  have hb10_0:=Nat.le_trans hA0.size hle10
  have hd90_10:b90≠b10:=Nat.ne_of_lt (Nat.lt_of_lt_of_le hB90.lt hle10)
  have hd20_10:b20≠b10:=Nat.ne_of_lt (Nat.lt_of_lt_of_le hB20.lt hle10)
  replace hA0:=hA0.next hE10
  replace hB90:=hB90.keep hE10
  replace hB20:=hB20.keep hE10
  simp [go_sem,za0,hB20.cell,g0,g2,g5,g6,g7,hB10.cell]
  have hprA:∀ j,j<30→Bx w10 (bl j) (intC (zaf j).2.2.2).toArray 3∧w.heap.size≤bl j∧bl j≠b20∧bl j≠b10:=fun j hj=>⟨(hpr j hj).1.keep hE10,(hpr j hj).2.1,(hpr j hj).2.2,by have:=(hpr j hj).1.lt;omega⟩
  refine za7 (b:=b10) (off:=0) [.int .i64 (zaf j).1,.int .i64 (zaf j).2.1,.string ⟨(zaf j).2.2.1.toArray⟩,.slice (some ⟨bl j,0,none⟩) (zaf j).2.2.2.length (zaf j).2.2.2.length] (by simp [go_sem,za0,hB20.cell,g0,g2,g5,g6,g7,hB10.cell,c1,r1,r2,rowC]) rfl (by simp [go_sem,za0,hB20.cell,g0,g2,g5,g6,g7,hB10.cell,c1,r1,r2,rowC]) (by simp [go_sem,Value.cells,za0,hB20.cell,g0,g2,g5,g6,g7,hB10.cell,c1,r1,r2,rowC]) ty_size68 hB10 (by simp) (by simp [Value.oneCell']) (by decide) (fun w11 hS11 hB11=>?_)
  simp [zaD] at hB11
  replace hA0:=hA0.nextS hS11 (by first|exact hb10_0|omega)
  replace hB90:=hB90.sto hS11 (by first|exact hd90_10|exact (hd10_90).symm)
  replace hB20:=hB20.sto hS11 (by first|exact hd20_10|exact (hd10_20).symm)
  simp [go_sem,za0,hB20.cell,g0,g2,g5,g6,g7,hB11.cell,c1,r1,r2,rowC]
  replace hpr:∀ j,j<30→Bx w11 (bl j) (intC (zaf j).2.2.2).toArray 3∧w.heap.size≤bl j∧bl j≠b20:=fun j hj=>⟨(hprA j hj).1.sto hS11 (hprA j hj).2.2.2,(hprA j hj).2.1,(hprA j hj).2.2.1⟩
  refine hK _ _ ?_;clear hK K
  by_cases hk:(zaf j).1=k
  ·have hix:kIx k=j:=by rw [←hk];exact kt_kind j hlt
   first|refine zzr fun K hK=>?_|refine zzt fun K hK=>?_
   simp [go_sem,za0,hB20.cell,g0,g2,g5,g6,g7,hB11.cell,za2,za1, hk]
   refine hK _ _ ?_;clear hK K
   refine zao (t:=true) (by simp [go_sem,za0,hB20.cell,g0,g2,g5,g6,g7,hB11.cell,za2,za1,hk]) rfl ?_
   first|refine zzr fun K hK=>?_|refine zzt fun K hK=>?_
   simp [go_sem,za0,hB20.cell,g0,g2,g5,g6,g7,hB11.cell,za2,za1]
   refine za7 (b:=b20) (off:=0) [.int .i64 (zaf j).1,.int .i64 (zaf j).2.1,.string ⟨(zaf j).2.2.1.toArray⟩,.slice (some ⟨bl j,0,none⟩) (zaf j).2.2.2.length (zaf j).2.2.2.length] (by simp [go_sem,za0,hB20.cell,g0,g2,g5,g6,g7,hB11.cell,za2,za1,hk]) rfl (by simp [go_sem,za0,hB20.cell,g0,g2,g5,g6,g7,hB11.cell,za2,za1,hk]) (by simp [go_sem,Value.cells,za0,hB20.cell,g0,g2,g5,g6,g7,hB11.cell,za2,za1,hk]) ty_size68 hB20 (by simp) (by simp [Value.oneCell']) (by decide) (fun w12 hS12 hB12=>?_)
   simp [zaD] at hB12
   replace hA0:=hA0.nextS hS12 (by first|exact hb20_0|omega)
   replace hB90:=hB90.sto hS12 (by first|exact hd90_20|exact (hd20_90).symm)
   replace hB11:=hB11.sto hS12 (by first|exact hd10_20|exact (hd20_10).symm)
   simp [go_sem,za0,g0,g2,g5,g6,g7,hB11.cell,za2,za1,hB12.cell,hk]
   refine hK _ _ ?_;clear hK K
   refine zal ?_
   repeat (first|refine za4 ?_|refine za3 ?_)
   refine ⟨by simp [go_sem,zb6,zav,za2,za1,za0,hB12.cell,g2],some ⟨bl j,0,none⟩,(zaf j).2.2.2.length,?_,?_,fun ad ha=>by injection ha with ha;subst ha;exact (hpr j hlt).2.1,hA0⟩
   ·unfold ze1 zdY zbq
    rw [hix]
    simp [go_sem,zaw,zav,hB12.cell,za0,g2,za2]
   ·unfold zbq
    rw [hix]
    have:=SL.whole ((hpr j hlt).1.sto hS12 (hpr j hlt).2.2)
    simpa using this
  ·first|refine zzr fun K hK=>?_|refine zzt fun K hK=>?_
   simp [go_sem,za0,hB20.cell,g0,g2,g5,g6,g7,hB11.cell,za2,za1, hk]
   refine hK _ _ ?_;clear hK K
   refine zao (t:=false) (by simp [go_sem,za0,hB20.cell,g0,g2,g5,g6,g7,hB11.cell,za2,za1,hk]) rfl ?_
   refine zae ?_
   refine hK3 _ _ ?_
   refine zzt fun K hK=>?_
   simp [go_sem,g7,hw1]
   refine hK _ _ ⟨30-(j+1),by omega,hA0,hB90,hB20,hpr,j+1,by omega,rfl,fun i hi=>?_,by simp [go_sem,g0],by simp [go_sem,g2],by simp [go_sem,g5],by simp [go_sem,g6],by simp [go_sem]⟩
   by_cases hij:i=j
   ·rw [hij];exact hk
   ·exact hno i (by omega)
 ·have hje:j=30:=by omega
  subst hje
  have hix:kIx k=30:=by
   rcases kIx_cases k with ⟨h,_⟩|⟨h,h2⟩
   ·exact h
   ·exact absurd h2.symm (hno _ h)
  first|refine zzr fun K hK=>?_|refine zzt fun K hK=>?_
  simp [go_sem,za0,za2,za1,hB20.cell,g0,g2,g5,g6,g7]
  refine hK _ _ ?_;clear hK K
  refine zad (fun K2 hK2=>?_)
  refine zao (t:=false) (by simp [go_sem,za0,za2,za1,hB20.cell,g0,g2,g5,g6,g7]) rfl ?_
  refine zaB ?_
  repeat (first|refine zak ?_|refine za9 rfl ?_|refine zac ?_)
  refine hK1 _ _ ?_
  first|refine zzr fun K hK=>?_|refine zzt fun K hK=>?_
  simp [go_sem,za0,za2,za1,hB20.cell,g0,g2,g5,g6,g7]
  refine zap #[.int .i64 0,.int .i64 0,.string ⟨#[]⟩,.slice none 0 0] (by simp [go_sem]) rfl ty_stZ68 [] (by simp [go_sem]) rfl ?_
  simp [go_sem,za0]
  refine za7 (b:=b20) (off:=0) [.int .i64 0,.int .i64 0,.string ⟨#[]⟩,.slice none 0 0] (by simp [go_sem,za0,za2,za1,hB20.cell,g0,g2,g5,g6,g7]) rfl (by simp [go_sem,za0,za2,za1,hB20.cell,g0,g2,g5,g6,g7]) (by simp [go_sem,Value.cells,za0,za2,za1,hB20.cell,g0,g2,g5,g6,g7]) ty_size68 hB20 (by simp) (by simp [Value.oneCell']) (by decide) (fun w30 hS30 hB30=>?_)
  simp [zaD] at hB30
  replace hA0:=hA0.nextS hS30 (by first|exact hb20_0|omega)
  replace hB90:=hB90.sto hS30 (by first|exact hd90_20|exact (hd20_90).symm)
  simp [go_sem,za0,za2,za1,g0,g2,g5,g6,g7,hB30.cell]
  refine hK _ _ ?_;clear hK K
  refine zal ?_
  repeat (first|refine za4 ?_|refine za3 ?_)
  refine ⟨by simp [go_sem,zb6,zav,za2,za1,za0,hB30.cell,g2],none,0,?_,?_,fun ad ha=>absurd ha (by simp),hA0⟩
  ·unfold ze1 zdY zbq
   rw [hix]
   simp [go_sem,zaw,zav,hB30.cell,za0,g2,za2,zaf,KT]
  ·unfold zbq
   rw [hix]
   exact SL.nil _ _
theorem strL_at {l:List (List UInt8)} {i:Nat} (h:i<l.length):(l.map strV).getD i undef=strV (l.getD i []):=by
 simp [List.getD_eq_getElem?_getD,h]
def resI {α:Type}:Res α→Nat
 | .ok _ j=>j
 | .er j _=>j
end Go.Proofs.Ytefhenfofomjhaa
namespace Go.Proofs.Ytefhenfofomjhaa
open Go Go.RowKit Go.V
section
variable {T:List Tok}
theorem exp_lt (hW:Wf T) {t:List UInt8} {i:Nat} (hi:i<T.length):resI (expS T t i)<T.length:=by
 unfold expS
 split
 ·exact hi
 ·rename_i h
  exact hW.next hi (fun e=>h (.inl e))
theorem rat2_lt (hW:Wf T) {a:Rat} {i:Nat} (hi:i<T.length):resI (ratS2 T a i)<T.length:=by
 unfold ratS2
 by_cases h1:(zai T i).t=sSL
 ·have hk:(zai T i).k≠0:=fun h=>by have:=hW.text i h;rw [h1] at this;cases this
  have hj:=hW.next hi hk
  rw [if_neg (fun h=>h h1)]
  by_cases h2:(zai T (i+1)).k=2
  ·have hj2:=hW.next hj (by rw [h2];decide)
   rw [if_neg (fun h=>h h2)]
   split
   ·exact hj
   ·exact hj2
  ·rw [if_pos h2];exact hj
 ·rw [if_pos h1];exact hi
theorem rat1_lt (hW:Wf T) {neg:Bool} {i:Nat} (hi:i<T.length):resI (ratS1 T neg i)<T.length:=by
 unfold ratS1
 by_cases h2:(zai T i).k=2
 ·rw [if_neg (fun h=>h h2)]
  exact rat2_lt hW (hW.next hi (by rw [h2];decide))
 ·rw [if_pos h2];exact hi
theorem rat_lt (hW:Wf T) {i:Nat} (hi:i<T.length):resI (ratS T i)<T.length:=by
 unfold ratS
 have h:=exp_lt hW (t:=sCM) hi
 cases he:expS T sCM i with
 | er j e=>rw [he] at h;exact h
 | ok u j =>
  rw [he] at h
  have hj:j<T.length:=h
  simp only
  by_cases hm:(zai T j).t=sMI
  ·have hk:(zai T j).k≠0:=fun h=>by have:=hW.text j h;rw [hm] at this;cases this
   rw [if_pos hm]
   exact rat1_lt hW (hW.next hj hk)
  ·rw [if_neg hm];exact rat1_lt hW hj
theorem args_lt (hW:Wf T) {arg:Int→Nat→Res Tre} (ha:∀ p i,i<T.length→resI (arg p i)<T.length):∀ (ps:List Int) (first:Bool) (i:Nat),i<T.length→resI (zc9 T arg first ps i)<T.length
 | [],first,i,hi=>hi
 | p::r,first,i,hi=>by
  unfold zc9
  have h:=exp_lt hW (t:=if first=true then sLP else sCM) hi
  cases he:expS T (if first=true then sLP else sCM) i with
  | er j e=>rw [he] at h;exact h
  | ok u j =>
   rw [he] at h
   have hj:j<T.length:=h
   simp only
   have h1:=ha p j hj
   cases hr:arg p j with
   | er j e=>rw [hr] at h1;exact h1
   | ok x j2 =>
    rw [hr] at h1
    have hj2:j2<T.length:=h1
    simp only
    have h2:=args_lt hW ha r false j2 hj2
    cases hz:zc9 T arg false r j2 with
    | er j e=>rw [hz] at h2;exact h2
    | ok xs j3=>rw [hz] at h2;exact h2
theorem end_lt (hW:Wf T) {k:Int} {i:Nat} (hi:i<T.length):resI (endS T k i)<T.length:=by
 unfold endS
 have h0:resI (if hasR k=true then (match ratS T i with | .er j e=>Res.er j e | .ok x j=>.ok (qR3 x) j) else .ok r30 i)<T.length:=by
  split
  ·have:=rat_lt hW hi
   cases hr:ratS T i with
   | er j e=>rw [hr] at this;exact this
   | ok x j=>rw [hr] at this;exact this
  ·exact hi
 generalize (if hasR k=true then (match ratS T i with | .er j e=>Res.er j e | .ok x j=>.ok (qR3 x) j) else .ok r30 i)=r at h0
 cases r with
 | er j e=>exact h0
 | ok q j =>
  have hj:j<T.length:=h0
  simp only
  have h:=exp_lt hW (t:=sRP) hj
  cases he:expS T sRP j with
  | er j e=>rw [he] at h;exact h
  | ok u j=>rw [he] at h;exact h
theorem con_lt (hW:Wf T) {arg:Int→Nat→Res Tre} (ha:∀ p i,i<T.length→resI (arg p i)<T.length) {sort:Int} {i:Nat} (hi:i<T.length):resI (conS T arg sort i)<T.length:=by
 unfold conS
 by_cases h0:zdZ T i sort=0
 ·rw [if_pos h0];exact hi
 ·rw [if_neg h0]
  have hk:(zai T i).k≠0:=by
   intro h;apply h0;unfold zdZ;rw [if_pos (by rw [h];decide)]
  have h1:=args_lt hW ha (zbq (zdZ T i sort)) true (i+1) (hW.next hi hk)
  cases hz:zc9 T arg true (zbq (zdZ T i sort)) (i+1) with
  | er j e=>rw [hz] at h1;exact h1
  | ok xs j =>
   rw [hz] at h1
   have hj:j<T.length:=h1
   have h2:=end_lt hW (k:=zdZ T i sort) hj
   simp only
   cases he:endS T (zdZ T i sort) j with
   | er j e=>rw [he] at h2;exact h2
   | ok q j2=>rw [he] at h2;exact h2
theorem arg_lt (hW:Wf T):∀ (f:Nat) (sort:Int) (i:Nat),i<T.length→resI (argS T f sort i)<T.length
 | 0,sort,i,hi=>by
  unfold argS
  split<;>exact hi
 | f+1,sort,i,hi=>by
  unfold argS
  split
  ·exact hi
  ·simp only
   by_cases hn:nmS T i=true
   ·rw [if_pos hn]
    exact hW.next hi (by rw [nmS_k hn];decide)
   ·rw [if_neg hn]
    exact con_lt hW (fun p i hi=>arg_lt hW f p i hi) hi
end
end Go.Proofs.Ytefhenfofomjhaa
namespace Go.Proofs.Ytefhenfofomjhaa
open Go Go.RowKit Go.V Go.ChangeMaps
set_option maxRecDepth 20000
inductive LexL:Nat→List UInt8→List Tok→Prop
 | fin (o:Nat) (l:List UInt8) (h:zaW false l=l.length):LexL o l [⟨0,o+l.length,o+l.length,[]⟩]
 | tok (o:Nat) (l:List UInt8) (n m K:Nat) (T:List Tok) (hn:zaW false l=n) (hlt:n<l.length) (ht:tokL (l.drop n)=(0,K,m)) (hl:LexL (o+n+m) (l.drop (n+m)) T):LexL o l (⟨K,o+n,o+n+m,(l.drop n).take m⟩::T)
theorem lexL_of (s:ByteArray) (k:Nat) (l:List Tk) (h:Lexed s k l):k≤s.size→LexL k ((bs s).drop k) (l.map (tkOf s)):=by
 induction h with
 | fin k h =>
  intro hk
  obtain ⟨n1,n2⟩:=zdE s k hk
  have e:nxt s k=k+zaW false ((bs s).drop k):=rfl
  have hlen:((bs s).drop k).length=s.size-k:=by rw [List.length_drop,zaR]
  have hf:=LexL.fin k ((bs s).drop k) (by omega)
  have e2:k+((bs s).drop k).length=s.size:=by omega
  rw [e2] at hf
  have e3:tkOf s (0,s.size,s.size)=⟨0,s.size,s.size,[]⟩:=by unfold tkOf;simp [zdF,bs]
  rw [List.map_cons,List.map_nil,e3]
  exact hf
 | tok k l h he hl ih =>
  intro hk
  obtain ⟨t1,t2⟩:=zc6 s _ h he
  obtain ⟨tl,_⟩:=tok_list s _ h
  obtain ⟨n1,n2⟩:=zdE s k hk
  have e:nxt s k=k+zaW false ((bs s).drop k):=rfl
  have ih:=ih t2
  generalize hq:nxt s k=q at *
  obtain ⟨n,hn⟩:∃ n,n=zaW false ((bs s).drop k):=⟨_,rfl⟩
  rw [←hn] at e
  have hlen:((bs s).drop k).length=s.size-k:=by rw [List.length_drop,zaR]
  have hz:zb5 s q=k+n+(zb5 s q-q):=by omega
  have hm:tkOf s (tokK s q,q,zb5 s q)=⟨tokK s q,k+n,k+n+(zb5 s q-q),(((bs s).drop k).drop n).take (zb5 s q-q)⟩:=by
   unfold tkOf
   rw [List.drop_drop,←e,zdn];simp only [Tok.mk.injEq,true_and,and_true];omega
  rw [List.map_cons,hm]
  refine .tok k _ n (zb5 s q-q) _ _ hn.symm (by omega) ?_ ?_
  ·rw [List.drop_drop,←e,tl,he]
  ·rw [List.drop_drop,show k+(n+(zb5 s q-q))=zb5 s q by omega,←hz]
   exact ih
theorem lexL_to (s:ByteArray) (k:Nat) (l:List UInt8) (T:List Tok) (h:LexL k l T):k≤s.size→l=(bs s).drop k→∃ m:List Tk,Lexed s k m∧m.map (tkOf s)=T:=by
 induction h with
 | fin k l h =>
  intro hk hl
  subst hl
  have hlen:((bs s).drop k).length=s.size-k:=by rw [List.length_drop,zaR]
  have e:nxt s k=k+zaW false ((bs s).drop k):=rfl
  refine ⟨[(0,s.size,s.size)],.fin k (by omega),?_⟩
  have e3:tkOf s (0,s.size,s.size)=⟨0,s.size,s.size,[]⟩:=by unfold tkOf;simp [zdF,bs]
  have e2:k+((bs s).drop k).length=s.size:=by omega
  rw [e2,List.map_cons,List.map_nil,e3]
 | tok k l n m K T hn hlt ht hl ih =>
  intro hk hll
  subst hll
  have hlen:((bs s).drop k).length=s.size-k:=by rw [List.length_drop,zaR]
  have e:nxt s k=k+zaW false ((bs s).drop k):=rfl
  rw [hn] at e
  have hlt2:nxt s k<s.size:=by omega
  obtain ⟨tl,tz⟩:=tok_list s _ hlt2
  rw [e,←List.drop_drop,ht] at tl
  injection tl with t1 tl
  injection tl with t2 t3
  rw [e] at tz
  obtain ⟨s1,s2⟩:=zc6 s (nxt s k) hlt2 (by rw [e];exact t1.symm)
  rw [e] at s1 s2
  have hz:zb5 s (k+n)=k+n+m:=by omega
  obtain ⟨ml,m1,m2⟩:=ih (by omega) (by rw [List.drop_drop,Nat.add_assoc])
  refine ⟨(tokK s (nxt s k),nxt s k,zb5 s (nxt s k))::ml,.tok k ml hlt2 (by rw [e];exact t1.symm) (by rw [e,hz];exact m1),?_⟩
  rw [List.map_cons,m2,e]
  congr 1
  unfold tkOf
  rw [zdn]
  simp only [hz,←t2]
  rw [←List.drop_drop,Nat.add_sub_cancel_left]
theorem lexL_allR {s:ByteArray} (h:(ze0 s).2.2=0):LexL 0 (bs s) (tokT s):=by
 rcases allR_cases s with ⟨l,e,hl⟩|e|⟨p,er,_,hne,e,_⟩
 ·have:=lexL_of s 0 l hl (Nat.zero_le _)
  unfold tokT
  rw [e]
  simpa using this
 ·rw [e] at h;cases h
 ·rw [e] at h;exact absurd h hne
theorem allR_lexL {s:ByteArray} {T:List Tok} (h:LexL 0 (bs s) T) (hs:s.size≤20000):(ze0 s).2.2=0∧tokT s=T:=by
 obtain ⟨m,h1,h2⟩:=lexL_to s 0 _ T h (Nat.zero_le _) (by simp)
 have e:ze0 s=(m,0,0):=by
  unfold ze0
  rw [if_pos hs,lexed_all s 0 m h1 [] (Nat.zero_le _),List.nil_append]
 unfold tokT
 rw [e]
 exact ⟨rfl,h2⟩
def shK (d:Nat) (t:Tok):Tok:=⟨t.k,t.p+d,t.e+d,t.t⟩
theorem lexL_shift (d:Nat) {o:Nat} {l:List UInt8} {T:List Tok} (h:LexL o l T):LexL (o+d) l (T.map (shK d)):=by
 induction h with
 | fin o l h =>
  have:=LexL.fin (o+d) l h
  rw [show o+d+l.length=o+l.length+d by omega] at this
  exact this
 | tok o l n m K T hn hlt ht hl ih =>
  rw [show o+n+m+d=o+d+n+m by omega] at ih
  have:=LexL.tok (o+d) l n m K _ hn hlt ht ih
  rw [List.map_cons]
  unfold shK at this ⊢
  simp only
  rw [show o+n+d=o+d+n by omega,show o+n+m+d=o+d+n+m by omega]
  exact this
theorem lexL_skip {o n:Nat} {l:List UInt8} {T:List Tok} (h:LexL (o+n) (l.drop n) T) (hn:n≤l.length) (hs:zaW false l=n+zaW false (l.drop n)):LexL o l T:=by
 have hld:(l.drop n).length=l.length-n:=List.length_drop ..
 generalize hx:l.drop n=x at *
 generalize ho:o+n=q at *
 cases h with
 | fin _ _ h =>
  have:=LexL.fin o l (by omega)
  rw [show o+l.length=q+x.length by omega] at this
  exact this
 | tok _ _ n1 m K T h1 h2 h3 h4 =>
  have hd:l.drop (n+n1)=x.drop n1:=by rw [←hx,List.drop_drop]
  have:=LexL.tok o l (n+n1) m K T (by omega) (by omega) (by rw [hd];exact h3) (by rw [show n+n1+m=n+(n1+m) by omega,←List.drop_drop,hx,show o+(n+n1)+m=q+n1+m by omega];exact h4)
  rw [hd,show o+(n+n1)=q+n1 by omega] at this
  exact this
theorem zdo:∀ (b:Bool) (l r:List UInt8),zaW b l=l.length→zaW b (l++10::r)=l.length+1+zaW false r
 | true,[],r,_=>by simp [zaW];omega
 | false,[],r,_=>by
  have:blkB (10:UInt8).toNat=true:=by decide
  simp only [List.nil_append,zaW,this,if_true,List.length_nil];omega
 | true,c::l,r,h=>by
  simp only [zaW,List.length_cons,List.cons_append] at h ⊢
  split at h
  ·rename_i hc;rw [if_pos hc,zdo false l r (by omega)];omega
  ·rename_i hc;rw [if_neg hc,zdo true l r (by omega)];omega
 | false,c::l,r,h=>by
  simp only [zaW,List.length_cons,List.cons_append] at h ⊢
  split at h
  ·rename_i hc;rw [if_pos hc,zdo false l r (by omega)];omega
  ·rename_i hc
   rw [if_neg hc]
   split at h
   ·rename_i hd;rw [if_pos hd,zdo true l r (by omega)];omega
   ·omega
theorem skip_ltA:∀ (b:Bool) (l r:List UInt8),zaW b l<l.length→zaW b (l++r)=zaW b l
 | b,[],r,h=>by simp at h
 | true,c::l,r,h=>by
  simp only [zaW,List.length_cons,List.cons_append] at h ⊢
  split at h
  ·rename_i hc;rw [if_pos hc,if_pos hc,skip_ltA false l r (by omega)]
  ·rename_i hc;rw [if_neg hc,if_neg hc,skip_ltA true l r (by omega)]
 | false,c::l,r,h=>by
  simp only [zaW,List.length_cons,List.cons_append] at h ⊢
  split at h
  ·rename_i hc;rw [if_pos hc,if_pos hc,skip_ltA false l r (by omega)]
  ·rename_i hc
   rw [if_neg hc,if_neg hc]
   split at h
   ·rename_i hd;rw [if_pos hd,if_pos hd,skip_ltA true l r (by omega)]
   ·rename_i hd;rw [if_neg hd,if_neg hd]
theorem endN_ltA (L:Bool):∀ (l r:List UInt8),zdJ L l<l.length→zdJ L (l++r)=zdJ L l
 | [],r,h=>by simp at h
 | c::l,r,h=>by
  simp only [zdJ,List.length_cons,List.cons_append] at h ⊢
  split at h
  ·rename_i hc;rw [if_pos hc,if_pos hc,endN_ltA L l r (by omega)]
  ·rename_i hc;rw [if_neg hc,if_neg hc]
theorem endN_allA (L:Bool):∀ (T r:List UInt8),zdJ L T=T.length→zdJ L (T++r)=T.length+zdJ L r
 | [],r,_=>by simp
 | c::T,r,h=>by
  have:=endN_le L T
  simp only [zdJ,List.length_cons] at h
  simp only [List.cons_append,zdJ,List.length_cons]
  split at h
  ·rename_i hc
   rw [if_pos hc,endN_allA L T r (by omega)];omega
  ·omega
theorem tokL_len {l:List UInt8} {K m:Nat} (h:tokL l=(0,K,m)):m≤l.length:=by
 cases l with
 | nil=>simp [tokL] at h
 | cons c r =>
  have e1:=endN_le true (c::r)
  have e2:=endN_le false (c::r)
  unfold tokL at h
  by_cases a1:letB c.toNat=true
  ·simp only [a1,if_true,Prod.mk.injEq] at h;omega
  ·by_cases a2:digB c.toNat=true
   ·simp only [a1,a2,Bool.false_eq_true,if_true,if_false,Prod.mk.injEq] at h;omega
   ·by_cases a3:sgnB c.toNat=true
    ·simp only [a1,a2,a3,Bool.false_eq_true,if_true,if_false,Prod.mk.injEq] at h
     simp only [List.length_cons];omega
    ·by_cases a4:c.toNat=58
     ·simp only [a1,a2,a3,Bool.false_eq_true,if_false,if_pos a4,Prod.mk.injEq] at h
      cases r with
      | nil=>simp at h
      | cons d r=>simp only [List.length_cons];omega
     ·simp only [a1,a2,a3,Bool.false_eq_true,if_false,if_neg a4,Prod.mk.injEq] at h;omega
theorem tokL_nl {l:List UInt8} {K m:Nat} (h:tokL l=(0,K,m)) (b:List UInt8):tokL (l++10::b)=(0,K,m):=by
 have hm:=tokL_len h
 have hl:(l.take m).length=m:=by rw [List.length_take];omega
 have e0:tokL (l.take m++l.drop m)=(0,K,(l.take m).length):=by rw [List.take_append_drop,h,hl]
 have:=tok_app (l.take m) (l.drop m) (l.drop m++10::b) K e0 (by
  intro L hL
  by_cases hd:l.drop m=[]
  ·rw [hd,List.append_nil] at hL
   rw [hd,List.nil_append,endN_allA L _ _ hL]
   have:goOn L 10=false:=by cases L<;>decide
   simp [zdJ,this]
  ·have h1:0<(l.drop m).length:=by
    cases hx:l.drop m with
    | nil=>exact absurd hx hd
    | cons c r=>simp
   rw [←List.append_assoc,endN_ltA L _ _ (by rw [hL,List.length_append];omega),hL])
 rw [←List.append_assoc,List.take_append_drop,hl] at this
 exact this
theorem lexL_join {o:Nat} {a:List UInt8} {TA:List Tok} (h:LexL o a TA):∃ TI:List Tok,TA=TI++[⟨0,o+a.length,o+a.length,[]⟩]∧∀ b TB,LexL (o+a.length+1) b TB→LexL o (a++10::b) (TI++TB):=by
 induction h with
 | fin o l h =>
  refine ⟨[],rfl,fun b TB hb=>?_⟩
  have e:=zdo false l b h
  have hd:(l++10::b).drop (l.length+1)=b:=by
   rw [←List.drop_drop,List.drop_left];rfl
  refine lexL_skip (n:=l.length+1) ?_ (by simp) ?_
  ·rw [hd];exact hb
  ·rw [hd];exact e
 | tok o l n m K T hn hlt ht hl ih =>
  obtain ⟨TI,h1,h2⟩:=ih
  have hm:=tokL_len ht
  rw [List.length_drop] at hm
  have hld:(l.drop (n+m)).length=l.length-(n+m):=List.length_drop ..
  have hlen:o+n+m+(l.drop (n+m)).length=o+l.length:=by omega
  refine ⟨⟨K,o+n,o+n+m,(l.drop n).take m⟩::TI,by rw [h1,hlen];rfl,fun b TB hb=>?_⟩
  have hd1:(l++10::b).drop n=l.drop n++10::b:=by rw [List.drop_append_of_le_length (by omega)]
  have hd2:(l++10::b).drop (n+m)=l.drop (n+m)++10::b:=by rw [List.drop_append_of_le_length (by omega)]
  have hnn:=skip_ltA false l (10::b) (by omega)
  have:=LexL.tok o (l++10::b) n m K (TI++TB) (by omega) (by simp;omega) (by rw [hd1];exact tokL_nl ht b) (by rw [hd2];exact h2 b TB (by rw [hlen];exact hb))
  rw [hd1,List.take_append_of_le_length (by rw [List.length_drop];omega)] at this
  exact this
theorem lexL_within {s:List UInt8} {T:List Tok} (h:LexL 0 s T):∃ TI:List Tok,T=TI++[⟨0,s.length,s.length,[]⟩] ∧
  LexL 0 ([88,32,58,61,32]++(s++10::[59])) (⟨1,0,1,[88]⟩::⟨3,2,4,[58,61]⟩::(TI.map (shK 5)++[⟨3,s.length+6,s.length+7,[59]⟩,⟨0,s.length+7,s.length+7,[]⟩])):=by
 obtain ⟨TI,h1,_⟩:=lexL_join h
 have h5:=lexL_shift 5 h
 obtain ⟨TJ,h2,h3⟩:=lexL_join h5
 have hTJ:TJ=TI.map (shK 5):=by
  rw [h1,List.map_append] at h2
  exact (List.append_inj_left h2 (by have:=congrArg List.length h2;simp at this;simpa using this)).symm
 rw [Nat.zero_add] at h1
 refine ⟨TI,h1,?_⟩
 subst hTJ
 have hsc:LexL (0+5+s.length+1) [59] [⟨3,0+5+s.length+1+0,0+5+s.length+1+0+1,[59]⟩,⟨0,0+5+s.length+1+0+1+0,0+5+s.length+1+0+1+0,[]⟩] :=
  LexL.tok _ [59] 0 1 3 _ (by decide) (by decide) (by decide) (LexL.fin _ [] rfl)
 have h6:=h3 [59] _ hsc
 have e1:0+5+s.length+1+0=s.length+6:=by omega
 have e2:0+5+s.length+1+0+1=s.length+7:=by omega
 rw [e2,e1] at h6
 generalize (TI.map (shK 5)++[(⟨3,s.length+6,s.length+7,[59]⟩:Tok),⟨0,s.length+7+0,s.length+7+0,[]⟩])=TT at h6
 generalize s++10::[59]=r at h6 ⊢
 have h7:LexL 4 (32::r) TT:=lexL_skip (n:=1) h6 (by simp) (by
  have hb:blkB (32:UInt8).toNat=true:=by decide
  simp only [zaW,hb,if_true,List.drop_succ_cons,List.drop_zero];omega)
 have h8:=LexL.tok 1 (32::58::61::32::r) 1 2 3 TT (by
   have hb:blkB (32:UInt8).toNat=true:=by decide
   have hb2:blkB (58:UInt8).toNat=false:=by decide
   have hb3:¬(58:UInt8)=35:=by decide
   simp only [zaW,hb,hb2,hb3,if_true,if_false,Bool.false_eq_true]) (by simp) (by
   have a1:letB (58:UInt8).toNat=false:=by decide
   have a2:digB (58:UInt8).toNat=false:=by decide
   have a3:sgnB (58:UInt8).toNat=false:=by decide
   have a4:(58:UInt8).toNat=58:=by decide
   simp only [List.drop_succ_cons,List.drop_zero]
   unfold tokL
   simp only [a1,a2,a3,Bool.false_eq_true,if_false,if_pos a4,List.head?_cons,if_true]) h7
 have h9:=LexL.tok 0 (88::32::58::61::32::r) 0 1 1 _ (by
   have hb2:blkB (88:UInt8).toNat=false:=by decide
   have hb3:¬(88:UInt8)=35:=by decide
   simp only [zaW,hb2,hb3,if_false,Bool.false_eq_true]) (by simp) (by
   have a1:letB (88:UInt8).toNat=true:=by decide
   have g1:goOn true 88=true:=by decide
   have g2:goOn true 32=false:=by decide
   simp only [List.drop_zero]
   unfold tokL
   simp only [a1,zdJ,g1,g2,if_true,if_false,Bool.false_eq_true];simp) h8
 exact h9
end Go.Proofs.Ytefhenfofomjhaa
namespace Go.Proofs.Ytefhenfofomjhaa
open Go Go.RowKit Go.V
set_option maxRecDepth 20000
mutual
def mvW (c:Int):Tre→Tre
 | .mk k n b l m args p=>.mk k n b l m (mvL c args) (IntKind.i64.wrap (p+c))
def mvL (c:Int):List Tre→List Tre
 | []=>[]
 | x::r=>mvW c x::mvL c r
end
theorem mvL_map (c:Int):∀ l:List Tre,mvL c l=l.map (mvW c)
 | []=>by rw [mvL];rfl
 | x::r=>by rw [mvL,mvL_map c r];rfl
theorem mvW_mk (c k:Int) (n:List UInt8) (b:Bool) (l m:List Nat) (args:List Tre) (p:Int):mvW c (.mk k n b l m args p) = .mk k n b l m (args.map (mvW c)) (IntKind.i64.wrap (p+c)):=by rw [mvW,mvL_map]
structure Sim (T T':List Tok) (d N:Nat) (mv:Tre→Tre) (mp:Int→Int):Prop where
 tk:∀ i,i<N→(zai T' (i+d)).k=(zai T i).k∧(zai T' (i+d)).t=(zai T i).t
 mv:∀ i,i<N→∀ k n b l m args,mv (.mk k n b l m args (zai T i).p) = .mk k n b l m (args.map mv) (zai T' (i+d)).p
 mp:∀ i,i<N→mp (zai T i).p=(zai T' (i+d)).p
section
variable {T T':List Tok} {d N:Nat} {mv:Tre→Tre} {mp:Int→Int}
theorem Sim.nm (S:Sim T T' d N mv mp) {i:Nat} (hi:i<N):nmS T' (i+d)=nmS T i:=by
 obtain ⟨h1,h2⟩:=S.tk i hi
 unfold nmS;rw [h1,h2]
theorem Sim.kof (S:Sim T T' d N mv mp) {i:Nat} (hi:i<N) (sort:Int):zdZ T' (i+d) sort=zdZ T i sort:=by
 obtain ⟨h1,h2⟩:=S.tk i hi
 unfold zdZ;rw [h1,h2]
theorem Sim.exp (S:Sim T T' d N mv mp) {t:List UInt8} {i j:Nat} {u:Unit} (h:expS T t i = .ok u j) (hj:j≤N):expS T' t (i+d) = .ok u (j+d):=by
 have e:=zdC h
 subst e
 obtain ⟨h1,h2⟩:=S.tk i (by omega)
 unfold expS at h ⊢
 rw [h1,h2]
 split at h
 ·cases h
 ·rename_i hc
  rw [if_neg hc,show i+d+1=i+1+d by omega]
theorem rat2_le {a x:Rat} {i j:Nat} (h:ratS2 T a i = .ok x j):i≤j:=by
 unfold ratS2 at h
 (repeat' split at h)<;>first|(injection h with _ h;omega)|(exfalso;cases h;done)
theorem Sim.rat2 (S:Sim T T' d N mv mp) {a x:Rat} {i j:Nat} (h:ratS2 T a i = .ok x j) (hj:j<N):ratS2 T' a (i+d) = .ok x (j+d):=by
 have hle:=rat2_le h
 obtain ⟨h1,h2⟩:=S.tk i (by omega)
 unfold ratS2 at h ⊢
 rw [h2]
 by_cases c1:(zai T i).t≠sSL
 ·rw [if_pos c1] at h ⊢
  injection h with e1 e2;subst e1;subst e2;rfl
 ·rw [if_neg c1] at h ⊢
  by_cases c2:(zai T (i+1)).k≠2
  ·rw [if_pos c2] at h;cases h
  ·rw [if_neg c2] at h
   by_cases c3:qrV (zai T (i+1)).t=0
   ·rw [if_pos c3] at h;cases h
   ·rw [if_neg c3] at h
    injection h with e1 e2
    subst e2
    obtain ⟨g1,g2⟩:=S.tk (i+1) (by omega)
    rw [show i+d+1=i+1+d by omega,g1,g2,if_neg c2,if_neg c3,←e1,show i+d+2=i+2+d by omega]
theorem rat1_le {neg:Bool} {x:Rat} {i j:Nat} (h:ratS1 T neg i = .ok x j):i<j:=by
 unfold ratS1 at h
 split at h
 ·cases h
 ·have:=rat2_le h;omega
theorem Sim.rat1 (S:Sim T T' d N mv mp) {neg:Bool} {x:Rat} {i j:Nat} (h:ratS1 T neg i = .ok x j) (hj:j<N):ratS1 T' neg (i+d) = .ok x (j+d):=by
 have hle:=rat1_le h
 obtain ⟨h1,h2⟩:=S.tk i (by omega)
 unfold ratS1 at h ⊢
 rw [h1,h2]
 split at h
 ·cases h
 ·rename_i hc
  rw [if_neg hc,show i+d+1=i+1+d by omega]
  exact S.rat2 h hj
theorem rat_le {x:Rat} {i j:Nat} (h:ratS T i = .ok x j):i<j:=by
 unfold ratS at h
 cases he:expS T sCM i with
 | er j e=>rw [he] at h;cases h
 | ok u j1 =>
  rw [he] at h
  have e1:=zdC he
  simp only at h
  split at h
  ·have:=rat1_le h;omega
  ·have:=rat1_le h;omega
theorem Sim.rat (S:Sim T T' d N mv mp) {x:Rat} {i j:Nat} (h:ratS T i = .ok x j) (hj:j<N):ratS T' (i+d) = .ok x (j+d):=by
 unfold ratS at h ⊢
 cases he:expS T sCM i with
 | er j e=>rw [he] at h;cases h
 | ok u j1 =>
  rw [he] at h
  have e1:=zdC he
  simp only at h
  have hj1:j1<j:=by
   split at h
   ·have:=rat1_le h;omega
   ·exact rat1_le h
  rw [S.exp he (by omega)]
  simp only
  obtain ⟨h1,h2⟩:=S.tk j1 (by omega)
  rw [h2]
  split at h
  ·rename_i hc
   rw [if_pos hc,show j1+d+1=j1+1+d by omega]
   exact S.rat1 h hj
  ·rename_i hc
   rw [if_neg hc]
   exact S.rat1 h hj
theorem args_le {arg:Int→Nat→Res Tre} (hle:∀ p i x j,arg p i = .ok x j→i≤j):∀ (ps:List Int) (first:Bool) (i:Nat) (xs:List Tre) (j:Nat),zc9 T arg first ps i = .ok xs j→i≤j
 | [],first,i,xs,j,h=>by unfold zc9 at h;injection h with _ h;omega
 | p::r,first,i,xs,j,h=>by
  unfold zc9 at h
  cases he:expS T (if first=true then sLP else sCM) i with
  | er j e=>rw [he] at h;cases h
  | ok u j1 =>
   rw [he] at h
   have e1:=zdC he
   simp only at h
   cases ha:arg p j1 with
   | er j e=>rw [ha] at h;cases h
   | ok x j2 =>
    rw [ha] at h
    have e2:=hle _ _ _ _ ha
    simp only at h
    cases hz:zc9 T arg false r j2 with
    | er j e=>rw [hz] at h;cases h
    | ok ys j3 =>
     rw [hz] at h
     have e3:=args_le hle r false j2 ys j3 hz
     injection h with _ h
     omega
theorem Sim.args (S:Sim T T' d N mv mp) {arg arg':Int→Nat→Res Tre} (hle:∀ p i x j,arg p i = .ok x j→i≤j) (hs:∀ p i x j,arg p i = .ok x j→j≤N→arg' p (i+d) = .ok (mv x) (j+d)) :
  ∀ (ps:List Int) (first:Bool) (i:Nat) (xs:List Tre) (j:Nat),zc9 T arg first ps i = .ok xs j→j≤N→zc9 T' arg' first ps (i+d) = .ok (xs.map mv) (j+d)
 | [],first,i,xs,j,h,hj=>by
  unfold zc9 at h ⊢
  injection h with e1 e2;subst e1;subst e2;rfl
 | p::r,first,i,xs,j,h,hj=>by
  unfold zc9 at h ⊢
  cases he:expS T (if first=true then sLP else sCM) i with
  | er j e=>rw [he] at h;cases h
  | ok u j1 =>
   rw [he] at h
   simp only at h
   cases ha:arg p j1 with
   | er j e=>rw [ha] at h;cases h
   | ok x j2 =>
    rw [ha] at h
    have e2:=hle _ _ _ _ ha
    simp only at h
    cases hz:zc9 T arg false r j2 with
    | er j e=>rw [hz] at h;cases h
    | ok ys j3 =>
     rw [hz] at h
     have e3:=args_le hle r false j2 ys j3 hz
     injection h with h1 h2
     subst h2;subst h1
     rw [S.exp he (by omega)]
     simp only
     rw [hs _ _ _ _ ha (by omega)]
     simp only
     rw [S.args hle hs r false j2 ys j3 hz hj]
     rfl
theorem end_le {k:Int} {q:R3} {i j:Nat} (h:endS T k i = .ok q j):i<j:=by
 unfold endS at h
 by_cases hr:hasR k=true
 ·rw [if_pos hr] at h
  cases hq:ratS T i with
  | er j e=>rw [hq] at h;cases h
  | ok x j1 =>
   rw [hq] at h
   simp only at h
   have:=rat_le hq
   cases he:expS T sRP j1 with
   | er j e=>rw [he] at h;cases h
   | ok u j2 =>
    rw [he] at h
    have:=zdC he
    injection h with _ h
    omega
 ·rw [if_neg hr] at h
  simp only at h
  cases he:expS T sRP i with
  | er j e=>rw [he] at h;cases h
  | ok u j2 =>
   rw [he] at h
   have:=zdC he
   injection h with _ h
   omega
theorem Sim.fin (S:Sim T T' d N mv mp) {k:Int} {q:R3} {i j:Nat} (h:endS T k i = .ok q j) (hj:j≤N):endS T' k (i+d) = .ok q (j+d):=by
 unfold endS at h ⊢
 by_cases hr:hasR k=true
 ·rw [if_pos hr] at h ⊢
  cases hq:ratS T i with
  | er j e=>rw [hq] at h;cases h
  | ok x j1 =>
   rw [hq] at h
   simp only at h
   cases he:expS T sRP j1 with
   | er j e=>rw [he] at h;cases h
   | ok u j2 =>
    rw [he] at h
    have:=zdC he
    injection h with h1 h2
    subst h2;subst h1
    rw [S.rat hq (by omega)]
    simp only
    rw [S.exp he (by omega)]
 ·rw [if_neg hr] at h ⊢
  simp only at h ⊢
  cases he:expS T sRP i with
  | er j e=>rw [he] at h;cases h
  | ok u j2 =>
   rw [he] at h
   have:=zdC he
   injection h with h1 h2
   subst h2;subst h1
   rw [S.exp he (by omega)]
theorem con_le {arg:Int→Nat→Res Tre} (hle:∀ p i x j,arg p i = .ok x j→i≤j) {sort:Int} {i j:Nat} {x:Tre} (h:conS T arg sort i = .ok x j):i<j:=by
 unfold conS at h
 split at h
 ·cases h
 ·cases ha:zc9 T arg true (zbq (zdZ T i sort)) (i+1) with
  | er j e=>rw [ha] at h;cases h
  | ok xs j1 =>
   rw [ha] at h
   have e1:=args_le hle _ _ _ _ _ ha
   simp only at h
   cases he:endS T (zdZ T i sort) j1 with
   | er j e=>rw [he] at h;cases h
   | ok q j2 =>
    rw [he] at h
    have e2:=end_le he
    injection h with _ h
    omega
theorem Sim.con (S:Sim T T' d N mv mp) {arg arg':Int→Nat→Res Tre} (hle:∀ p i x j,arg p i = .ok x j→i≤j) (hs:∀ p i x j,arg p i = .ok x j→j≤N→arg' p (i+d) = .ok (mv x) (j+d)) {sort:Int} {i j:Nat} {x:Tre} (h:conS T arg sort i = .ok x j) (hj:j≤N) :
  conS T' arg' sort (i+d) = .ok (mv x) (j+d):=by
 have hlt:=con_le hle h
 unfold conS at h ⊢
 rw [S.kof (by omega)]
 split at h
 ·cases h
 ·rename_i hc
  rw [if_neg hc]
  cases ha:zc9 T arg true (zbq (zdZ T i sort)) (i+1) with
  | er j e=>rw [ha] at h;cases h
  | ok xs j1 =>
   rw [ha] at h
   simp only at h
   cases he:endS T (zdZ T i sort) j1 with
   | er j e=>rw [he] at h;cases h
   | ok q j2 =>
    rw [he] at h
    have e2:=end_le he
    injection h with h1 h2
    subst h2;subst h1
    rw [show i+d+1=i+1+d by omega,S.args hle hs _ _ _ _ _ ha (by omega)]
    simp only
    rw [S.fin he hj]
    simp only
    rw [S.mv i (by omega)]
theorem arg_le:∀ (f:Nat) (sort:Int) (i:Nat) (x:Tre) (j:Nat),argS T f sort i = .ok x j→i≤j
 | 0,sort,i,x,j,h=>by
  unfold argS at h
  split at h<;>cases h
 | f+1,sort,i,x,j,h=>by
  unfold argS at h
  split at h
  ·cases h
  ·simp only at h
   split at h
   ·injection h with _ h;omega
   ·exact Nat.le_of_lt (con_le (arg_le f) h)
theorem arg_lt':∀ (f:Nat) (sort:Int) (i:Nat) (x:Tre) (j:Nat),argS T f sort i = .ok x j→i<j
 | 0,sort,i,x,j,h=>by
  unfold argS at h
  split at h<;>cases h
 | f+1,sort,i,x,j,h=>by
  unfold argS at h
  split at h
  ·cases h
  ·simp only at h
   split at h
   ·injection h with _ h;omega
   ·exact con_le (arg_le f) h
theorem Sim.arg (S:Sim T T' d N mv mp):∀ (f:Nat) (sort:Int) (i:Nat) (x:Tre) (j:Nat),argS T f sort i = .ok x j→j≤N→argS T' f sort (i+d) = .ok (mv x) (j+d)
 | 0,sort,i,x,j,h,hj=>by
  unfold argS at h
  split at h<;>cases h
 | f+1,sort,i,x,j,h,hj=>by
  have hlt:=arg_lt' _ _ _ _ _ h
  have hk:=S.kof (i:=i) (by omega) sort
  have hn:=S.nm (i:=i) (by omega)
  unfold argS at h ⊢
  rw [hk,hn]
  split at h
  ·cases h
  ·rename_i hc
   rw [if_neg hc]
   simp only at h ⊢
   split at h
   ·rename_i h1
    rw [if_pos h1]
    injection h with e1 e2
    subst e2;subst e1
    rw [S.mv i (by omega),show i+d+1=i+1+d by omega,(S.tk i (by omega)).2]
    rfl
   ·rename_i h1
    rw [if_neg h1]
    exact S.con (arg_le f) (S.arg f) h hj
theorem names_le:∀ (n i:Nat) (acc l:List (List UInt8)) (j:Nat),zdU T n i acc = .ok l j→i<j
 | 0,i,acc,l,j,h=>by unfold zdU at h;cases h
 | n+1,i,acc,l,j,h=>by
  unfold zdU at h
  split at h
  ·cases h
  ·split at h
   ·injection h with _ h;omega
   ·have:=names_le n _ _ _ _ h;omega
theorem Sim.names (S:Sim T T' d N mv mp):∀ (n n' i:Nat) (acc l:List (List UInt8)) (j:Nat),zdU T n i acc = .ok l j→j<N→n≤n'→zdU T' n' (i+d) acc = .ok l (j+d)
 | 0,n',i,acc,l,j,h,hj,hn=>by unfold zdU at h;cases h
 | n+1,0,i,acc,l,j,h,hj,hn=>by omega
 | n+1,n'+1,i,acc,l,j,h,hj,hn=>by
  have hle:=names_le _ _ _ _ _ h
  obtain ⟨h1,h2⟩:=S.tk i (by omega)
  obtain ⟨g1,g2⟩:=S.tk (i+1) (by omega)
  have hnm:=S.nm (i:=i) (by omega)
  unfold zdU at h ⊢
  rw [hnm,h2,show i+d+1=i+1+d by omega,g2]
  split at h
  ·cases h
  ·rename_i c1
   rw [if_neg c1]
   split at h
   ·rename_i c2
    rw [if_pos c2]
    injection h with e1 e2
    subst e2;subst e1;rfl
   ·rename_i c2
    rw [if_neg c2,show i+d+2=i+2+d by omega]
    exact S.names n n' _ _ _ _ h hj (by omega)
theorem def_le {kind:Int} {i j:Nat} {s:Stm} (h:defS T kind i = .ok s j):i<j:=by
 unfold defS at h
 split at h
 ·split at h
  ·cases h
  ·cases he:expS T sAS (i+1) with
   | er j e=>rw [he] at h;cases h
   | ok u j1 =>
    rw [he] at h
    have e1:=zdC he
    simp only at h
    cases hc:conS T (argS T 19) (srtS kind) j1 with
    | er j e=>rw [hc] at h;cases h
    | ok x j2 =>
     rw [hc] at h
     have e2:=con_le (arg_le 19) hc
     injection h with _ h
     omega
 ·cases hc:conS T (argS T 19) (srtS kind) i with
  | er j e=>rw [hc] at h;cases h
  | ok x j2 =>
   rw [hc] at h
   have e2:=con_le (arg_le 19) hc
   injection h with _ h
   omega
theorem stm1_le {i j:Nat} {s:Stm} (h:stmS1 T i = .ok s j):i<j:=by
 unfold stmS1 at h
 split at h
 ·cases hn:zdU T T.length (i+1) [] with
  | er j e=>rw [hn] at h;cases h
  | ok l j1 =>
   rw [hn] at h
   have:=names_le _ _ _ _ _ hn
   injection h with _ h
   omega
 ·split at h
  ·have:=def_le h;omega
  ·split at h
   ·have:=def_le h;omega
   ·split at h
    ·have:=def_le h;omega
    ·exact def_le h
theorem stm_le {i j:Nat} {s:Stm} (h:stmS T i = .ok s j):i+1<j:=by
 unfold stmS at h
 cases h1:stmS1 T i with
 | er j e=>rw [h1] at h;cases h
 | ok s1 j1 =>
  rw [h1] at h
  have:=stm1_le h1
  simp only at h
  cases he:expS T sSC j1 with
  | er j e=>rw [he] at h;cases h
  | ok u j2 =>
   rw [he] at h
   have:=zdC he
   injection h with _ h
   omega
inductive Chain (T:List Tok):Nat→List Stm→Nat→Prop
 | nil (i:Nat):Chain T i [] i
 | cons {i j k:Nat} {s:Stm} {l:List Stm} (hk:(zai T i).k≠0) (h:stmS T i = .ok s j) (hl:Chain T j l k):Chain T i (s::l) k
theorem Chain.le {i j:Nat} {l:List Stm} (h:Chain T i l j):i≤j:=by
 induction h with
 | nil i=>exact Nat.le_refl _
 | cons hk h hl ih=>have:=stm_le h;omega
theorem Chain.app {i j k:Nat} {l l':List Stm} (h:Chain T i l j) (h':Chain T j l' k):Chain T i (l++l') k:=by
 induction h with
 | nil i=>exact h'
 | cons hk h hl ih=>exact .cons hk h (ih h')
theorem tkAt_end {i:Nat} (h:T.length≤i):(zai T i).k=0:=by
 unfold zai
 rw [List.getD_eq_getElem?_getD,List.getElem?_eq_none h];rfl
theorem chain_stms {i j:Nat} {l:List Stm} (h:Chain T i l j) (hj:(zai T j).k=0):∀ (n:Nat) (acc:List Stm),T.length≤n+i→stmsS T n i acc = .ok (acc++l) j:=by
 induction h with
 | nil i =>
  intro n acc hn
  rw [List.append_nil]
  cases n with
  | zero=>rfl
  | succ n=>unfold stmsS;rw [if_pos hj]
 | cons hk h hl ih =>
  intro n acc hn
  have e1:=stm_le h
  cases n with
  | zero=>exact absurd (tkAt_end (by omega)) hk
  | succ n =>
   unfold stmsS
   rw [if_neg hk,h]
   simp only
   rw [ih hj n _ (by omega)]
   simp
theorem last_at (hW:Wf T) {j:Nat} (h:(zai T j).k=0) (hj:j<T.length):j+1=T.length:=by
 rcases Nat.lt_or_ge (j+1) T.length with h1|h1
 ·exact absurd h (hW.mid j h1)
 ·omega
end
theorem progS_of {T:List Tok} {l:List Stm} {j:Nat} (h:Chain T 0 l j) (hj:(zai T j).k=0):progS T=(l,0,0):=by
 unfold progS
 rw [chain_stms h hj T.length [] (by omega)]
 rfl
theorem tkAt_left {A B:List Tok} {i:Nat} (h:i<A.length):zai (A++B) i=zai A i:=by
 unfold zai
 rw [List.getD_eq_getElem?_getD,List.getD_eq_getElem?_getD,List.getElem?_append_left h]
theorem tkAt_right {A B:List Tok} {i:Nat}:zai (A++B) (i+A.length)=zai B i:=by
 unfold zai
 rw [List.getD_eq_getElem?_getD,List.getD_eq_getElem?_getD,List.getElem?_append_right (by omega),Nat.add_sub_cancel]
theorem tkAt_map {B:List Tok} {f:Tok→Tok} {i:Nat} (h:i<B.length):zai (B.map f) i=f (zai B i):=by
 unfold zai
 rw [List.getD_eq_getElem?_getD,List.getD_eq_getElem?_getD,List.getElem?_map,List.getElem?_eq_getElem h];rfl
def mvP (c:Int) (p:Int):Int:=IntKind.i64.wrap (p+c)
theorem mvP_small {c p:Nat} (hc:c≤20000) (hp:p≤20000):mvP c p=((p+c:Nat):Int):=by
 unfold mvP
 rw [IntWalk.i64_in _ (by omega)];omega
theorem sim_shift {T T':List Tok} {d c N:Nat} (hW:Wf T) (hc:c≤20000) (h:∀ i,i<N→zai T' (i+d)=shK c (zai T i)):Sim T T' d N (mvW c) (mvP c):=by
 refine ⟨fun i hi=>by rw [h i hi];exact ⟨rfl,rfl⟩,fun i hi k n b l m args=>?_,fun i hi=>?_⟩
 ·rw [mvW_mk,h i hi]
  have:=mvP_small hc (hW.at' i)
  unfold mvP at this
  rw [this];rfl
 ·rw [mvP_small hc (hW.at' i),h i hi];rfl
theorem rsort_tab:∀ r∈KT,ze1 r.1=r.2.1:=by decide +kernel
theorem rsort_name:ze1 1≠1:=by decide +kernel
theorem ws_sort {t:List UInt8} {sort:Int} (h:wsS t sort≠0):ze1 (wsS t sort)=sort:=by
 unfold wsS at h ⊢
 split at h
 ·rename_i r hr
  have h1:=List.mem_of_find?_eq_some hr
  have h2:=List.find?_some hr
  simp at h2
  rw [rsort_tab r h1];exact h2.2
 ·exact absurd rfl h
theorem con_kind {T:List Tok} {arg:Int→Nat→Res Tre} {sort:Int} {i j:Nat} {x:Tre} (h:conS T arg sort i = .ok x j):x.kind=zdZ T i sort∧zdZ T i sort≠0:=by
 unfold conS at h
 split at h
 ·cases h
 ·rename_i hc
  cases ha:zc9 T arg true (zbq (zdZ T i sort)) (i+1) with
  | er j e=>rw [ha] at h;cases h
  | ok xs j1 =>
   rw [ha] at h
   simp only at h
   cases he:endS T (zdZ T i sort) j1 with
   | er j e=>rw [he] at h;cases h
   | ok q j2 =>
    rw [he] at h
    injection h with h1 _
    subst h1
    exact ⟨rfl,hc⟩
theorem prog_within {TI:List Tok} {n:Nat} (hW:Wf (TI++[⟨0,n,n,[]⟩])) {x:Tre} (h:exprS (TI++[⟨0,n,n,[]⟩])=(x,0,0)) (hk:ze1 x.kind=1) :
  progS (⟨1,0,1,[88]⟩::⟨3,2,4,[58,61]⟩::(TI.map (shK 5)++[⟨3,n+6,n+7,[59]⟩,⟨0,n+7,n+7,[]⟩]))=([⟨2,[[88]],mvW 5 x,0⟩],0,0):=by
 obtain ⟨T,hT⟩:∃ T,T=TI++[(⟨0,n,n,[]⟩:Tok)]:=⟨_,rfl⟩
 obtain ⟨T',hT'⟩:∃ T',T'=((⟨1,0,1,[88]⟩:Tok)::⟨3,2,4,[58,61]⟩::(TI.map (shK 5)++[⟨3,n+6,n+7,[59]⟩,⟨0,n+7,n+7,[]⟩])):=⟨_,rfl⟩
 rw [←hT] at hW h
 rw [←hT']
 have hlen:T.length=TI.length+1:=by rw [hT];simp
 unfold exprS at h
 obtain ⟨S,hS⟩:∃ S,S=(if (zai T 0).k=1 then topS (zai T 0).t else 1):=⟨_,rfl⟩
 have hSne:S≠0:=by
  rw [hS];unfold topS;(repeat' split)<;>omega
 have hS4:0≤S∧S≤4:=by
  rw [hS];unfold topS;(repeat' split)<;>omega
 rw [←hS] at h
 have hag:=arg_agr hW (a0:=0) 20 S 0 hS4
 have hlt:=arg_lt hW 20 S 0 hW.pos
 cases hr:argS T 20 S 0 with
 | er j e =>
  rw [hr] at h hag
  injection h with _ h;injection h with _ h
  exact absurd h hag.1
 | ok y j =>
  rw [hr] at h hlt
  have hj:j<T.length:=hlt
  simp only at h
  split at h
  ·rename_i hkj
   injection h with h _
   subst h
   have hjn:=last_at hW hkj hj
   have hc:conS T (argS T 19) S 0 = .ok y j:=by
    unfold argS at hr
    split at hr
    ·cases hr
    ·simp only at hr
     split at hr
     ·injection hr with h1 _
      subst h1
      exact absurd hk rsort_name
     ·exact hr
   obtain ⟨k1,k2⟩:=con_kind hc
   have hS1:S=1:=by
    have hkw:zdZ T 0 S=wsS (zai T 0).t S:=by
     unfold zdZ at k2 ⊢
     split at k2
     ·exact absurd rfl k2
     ·rename_i hh;rw [if_neg hh,if_neg hSne]
    rw [k1,hkw,ws_sort (by rw [←hkw];exact k2)] at hk
    exact hk
   subst hS1
   have hat:∀ i,i<TI.length→zai T' (i+2)=shK 5 (zai T i):=by
    intro i hi
    rw [hT,tkAt_left hi,hT']
    show zai (TI.map (shK 5)++_) i=_
    rw [tkAt_left (by simpa using hi),tkAt_map hi]
   have hm:(TI.map (shK 5)).length=TI.length:=by simp
   have a1:zai T' (TI.length+2)=⟨3,n+6,n+7,[59]⟩:=by
    rw [hT']
    show zai (TI.map (shK 5)++_) TI.length=_
    have:=tkAt_right (A:=TI.map (shK 5)) (B:=[⟨3,n+6,n+7,[59]⟩,⟨0,n+7,n+7,[]⟩]) (i:=0)
    rw [hm,Nat.zero_add] at this
    rw [this];rfl
   have a2:zai T' (TI.length+3)=⟨0,n+7,n+7,[]⟩:=by
    rw [hT']
    show zai (TI.map (shK 5)++_) (TI.length+1)=_
    have:=tkAt_right (A:=TI.map (shK 5)) (B:=[⟨3,n+6,n+7,[59]⟩,⟨0,n+7,n+7,[]⟩]) (i:=1)
    rw [hm,Nat.add_comm 1 TI.length] at this
    rw [this];rfl
   have t0:zai T' 0=⟨1,0,1,[88]⟩:=by rw [hT'];rfl
   have t1:zai T' 1=⟨3,2,4,[58,61]⟩:=by rw [hT'];rfl
   have SM:Sim T T' 2 TI.length (mvW (5:Nat)) (mvP (5:Nat)):=sim_shift hW (by decide) hat
   have hcon:=SM.con (arg_le 19) (SM.arg 19) hc (by omega)
   rw [show j=TI.length by omega] at hcon
   have hnm:nmS T' 0=true:=by unfold nmS;rw [t0];decide +kernel
   have hex:expS T' sAS 1 = .ok () 2:=by unfold expS;rw [t1];rfl
   have hsc:expS T' sSC (TI.length+2) = .ok () (TI.length+3):=by unfold expS;rw [a1];rfl
   have hdef:defS T' 2 0 = .ok ⟨2,[[88]],mvW 5 y,0⟩ (TI.length+2):=by
    unfold defS
    rw [if_pos (by decide),hnm,if_neg (by decide)]
    simp only [Nat.zero_add]
    rw [hex]
    simp only
    rw [show srtS 2=1 from rfl]
    have h2:conS T' (argS T' 19) 1 2 = .ok (mvW 5 y) (TI.length+2):=hcon
    rw [h2,t0]
   have hst1:stmS1 T' 0 = .ok ⟨2,[[88]],mvW 5 y,0⟩ (TI.length+2):=by
    unfold stmS1
    rw [t0]
    simp only
    rw [if_neg (by decide),if_neg (by decide),if_neg (by decide),if_neg (by decide)]
    exact hdef
   have hst:stmS T' 0 = .ok ⟨2,[[88]],mvW 5 y,0⟩ (TI.length+3):=by
    unfold stmS
    rw [hst1]
    simp only
    rw [hsc,t0]
    rfl
   exact progS_of (.cons (by rw [t0];decide) hst (.nil _)) (by rw [a2])
  ·injection h with _ h;injection h with _ h;cases h
end Go.Proofs.Ytefhenfofomjhaa
