/- The reference's parser: constructions. -/
import Derived.Test.YtefhenfofomjhaaGreatSx2
import Derived.Test.YtefhenfofomjhaaGreatRx1
import Derived.Test.YtefhenfofomjhaaGreatLx7
import Derived.Test.YtefhenfofomjhaaGreatPa1
set_option linter.unusedSimpArgs false
set_option linter.unusedVariables false
set_option maxHeartbeats 4000000
set_option maxRecDepth 20000
namespace Go.Proofs.YtefhenfofomjhaaGreat
open Go Go.RowKit Go.V
theorem _root_.Go.World.ownsRow.keep {w w':World} {B e size n:Nat} {v:Value} {xs:List Value} (h:w.ownsRow B e size v n xs) (hb:Below w.heap.size w w'):w'.ownsRow B e size v n xs:=zas h hb
def resN:Res (List (List UInt8))→List (List UInt8)
 | .ok l _=>l
 | .er _ _=>[]
def NamesPost (w:World) (r:Res (List (List UInt8))) (e:Ending) (w':World):Prop :=
 ∃ (a:Option Addr) (c:Nat),e = .returned (.tuple #[.slice a (resN r).length c,.int .i64 (zbB r),.int .i64 (zcu r)])∧NmS w' (fun k=>w.heap.size≤k) a (resN r)∧Below w.heap.size w w'
theorem rnames_any {cap:Nat} {lb lo:Nat} {T:List Tok} (hW:Wf T) {w:World} {i:Nat} (hi:i<T.length) (hsl:SL w (some ⟨lb,lo,none⟩) (zc2 T)) :
  Calls Tryz.prog 45 #[.slice (some ⟨lb,lo,none⟩) T.length cap,.int .i64 i] w (NamesPost w (zcC T T.length i [])):=by
 have hT:T.length≤20001:=hW.size
 obtain ⟨R,hR⟩:∃ R,R=zcC T T.length i []:=⟨_,rfl⟩
 rw [←hR]
 refine za5 (rs:=[.tmp 4,.tmp 5,.tmp 6]) (n:=35) Tryz.func45 rfl rfl rfl (by kernel_rfl) ?_
 have hA0:=Below.refl w.heap.size w
 refine zzr fun K hK=>?_
 simp [go_sem,za0,za4,za1]
 apply hK;clear hK K
 refine zzr fun K hK=>?_
 simp [go_sem,za0,za4,za1]
 apply hK;clear hK K
 refine zac ?_
 refine zaz (fun m g w'=>Below w.heap.size w w'∧∃ (j:Nat) (acc:List (List UInt8)) (v:Value),j<T.length∧T.length≤m+j∧zcC T m j acc=R∧acc.length≤j∧g 0 = .slice (some ⟨lb,lo,none⟩) T.length cap∧g 1 = .int .i64 j∧g 7=v∧w'.ownsRow w.heap.size 9 1 v acc.length (acc.map strV)) T.length ?_ ?_
 ·exact ⟨hA0,i,[],.slice none 0 0,hi,by omega,hR.symm,Nat.zero_le _,by simp [go_sem],by simp [go_sem],by simp [go_sem],World.ownsRow_nil _ _ _ _⟩
 clear hA0
 rintro m g w' ⟨hA0,j,acc,v,hj,hm,hz,hal,g0,g1,g7,hown⟩
 refine zac ?_
 cases m with
 | zero=>omega
 | succ m =>
  unfold zcC at hz
  have hj':(j:Int)<T.length:=by omega
  obtain ⟨nm,hnmv⟩:∃ nm,nm=nmS T j:=⟨_,rfl⟩
  rw [←hnmv] at hz
  have hnv:(decide ((zai T j).k=1) && !isKw (zai T j).t)=nm:=by rw [hnmv];rfl
  have hcn:∀ w:World,Calls Tryz.prog 39 #[.agg (zcV (zai T j)).toArray] w fun e w'=>e = .returned (.bool nm)∧Below w.heap.size w w':=fun w=>by
   have:=risName_any (zai T j) w
   rw [hnv] at this;exact this
  obtain ⟨r1,r2,_⟩:=zdt (hsl.ext hA0) hj
  simp only [Option.getD_some,za0] at r1 r2
  refine zab (fun K1 hK1=>?_)
  refine zzr fun K hK=>?_
  simp [go_sem,za0,g0,g1,g7, hj,hj',r1,r2]
  refine zzc rfl Tryz.call39 (fun R hR=>?_)
  simp [go_sem,za0,g0,g1,g7,hj,hj']
  refine (hcn _).mono ?_
  rintro e w10 ⟨rfl,hE10⟩
  refine ⟨_,rfl,hR _ _ ?_⟩
  clear hR R
  replace hA0:=hA0.next hE10
  replace hown:=hown.keep hE10
  cases nm with
  | false =>
   rw [if_pos rfl] at hz
   simp [go_sem,za0,g0,g1,g7,za4,za1]
   apply hK;clear hK K
   refine zaf (t:=true) (by simp [go_sem,g0,g1,g7]) rfl ?_
   refine zzr fun K hK=>?_
   simp [go_sem,za0,g0,g1,g7,za4,za1]
   apply hK;clear hK K
   refine zad ?_
   repeat first|refine za3 ?_|refine za2 ?_
   subst hz
   refine ⟨trivial,none,0,?_,NmS.nil _ _ _,hA0⟩
   simp [go_sem,zar,zam,resN,zbB,zcu,g1]
  | true =>
   rw [if_neg (by decide)] at hz
   have hk1:=nmS_k hnmv.symm
   have hj1:j+1<T.length:=hW.next hj (by rw [hk1];decide)
   simp [go_sem,za0,g0,g1,g7,za4,za1]
   apply hK;clear hK K
   refine zaf (t:=false) (by simp [go_sem,g0,g1,g7]) rfl ?_
   refine za7 ?_
   apply hK1
   obtain ⟨c0,cp,ct⟩:=zbg (hsl.ext hA0) hj
   refine zzr fun K hK=>?_
   simp [go_sem,za0,g0,g1,g7,za4,za1, hj,hj',ct]
   refine zak #[.string ⟨(zai T j).t.toArray⟩] (by simp [go_sem,za0,g0,g1,g7,za4,za1,ct]) rfl zcO (by decide) [(0,.string ⟨(zai T j).t.toArray⟩)] (by simp [go_sem,za0,g0,g1,g7,za4,za1,ct]) (by kernel_rfl) (fun w20 b20 hE20 hle20 hB20=>?_)
   have hb20_0:=Nat.le_trans hA0.size hle20
   replace hA0:=hA0.next hE20
   replace hown:=hown.keep hE20
   simp [go_sem,za0,g0,g1,g7,za4,za1,hB20.cell,ct]
   refine zbv (v:=v) (b:=b20) (len:=1) (c:=1) hB20 (by simp [go_sem]) rfl zcO ty_bytes9 rfl (by decide) (by simp [go_sem,za0,g0,g1,g7,za4,za1,hB20.cell,ct]) (by simp [go_sem]) hown rfl (by first|(simp [Value.oneCell'];done)|simpa using hone) (by unfold maxLen;omega) (by omega) hA0.size (by decide) (fun v30 w30 h30 hg30 _=>?_)
   have hne30:=fun b e=>(hown.lt b e).1
   replace hA0:=hA0.nextG hg30 hne30
   simp [go_sem,za0,g0,g1,g7,za4,za1,ct]
   apply hK;clear hK K
   have hw1:IntKind.i64.wrap ((j:Int)+1)=(j+1:Nat):=zzw (by omega)
   have hw2:IntKind.i64.wrap ((j:Int)+1+1)=(j+2:Nat):=by rw [IntWalk.i64_in _ (by omega)];omega
   refine zzr fun K hK=>?_
   simp [go_sem,za0,g0,g1,g7,za4,za1, hw1]
   apply hK;clear hK K
   have hj1':(0:Int)≤(j:Int)+1:=by omega
   have hj1b:(j:Int)+1<T.length:=by omega
   obtain ⟨d0,dp,dt⟩:=zbg (hsl.ext hA0) hj1
   refine zab (fun K2 hK2=>?_)
   have hown3:_:=h30
   rw [show acc.map strV ++ #[Value.string ⟨(zai T j).t.toArray⟩].toList=(acc++[(zai T j).t]).map strV by rw [List.map_append];rfl,show acc.length+1=(acc++[(zai T j).t]).length by simp] at hown3
   obtain ⟨a,c,hv⟩:=zbf hown3
   by_cases hc:(zai T (j+1)).t=sCM
   ·rw [if_neg (fun h=>h hc)] at hz
    have hc':(zai T (j+1)).t=[44]:=hc
    have hk2:(zai T (j+1)).k≠0:=fun h=>by have:=hW.text _ h;rw [hc] at this;cases this
    have hj2:=hW.next hj1 hk2
    refine zzr fun K hK=>?_
    simp [go_sem,za0,g0,g1,g7,za4,za1, hj1,hj1',hj1b,dt,hc']
    apply hK;clear hK K
    refine zaf (t:=false) (by simp [go_sem,g0,g1,g7,hc']) rfl ?_
    refine za7 ?_
    apply hK2
    refine zzt fun K hK=>?_
    simp [go_sem,hw2]
    refine hK _ _ ⟨m,by omega,hA0,j+2,acc++[(zai T j).t],v30,hj2,by omega,hz,by simp;omega,by simp [go_sem,g0],by simp [go_sem],by simp [go_sem],hown3⟩
   ·rw [if_pos hc] at hz
    have hc':¬(zai T (j+1)).t=[44]:=hc
    refine zzr fun K hK=>?_
    simp [go_sem,za0,g0,g1,g7,za4,za1, hj1,hj1',hj1b,dt,hc']
    apply hK;clear hK K
    refine zaf (t:=true) (by simp [go_sem,g0,g1,g7,hc']) rfl ?_
    refine zzr fun K hK=>?_
    simp [go_sem,za0,g0,g1,g7,za4,za1]
    apply hK;clear hK K
    refine zad ?_
    repeat first|refine za3 ?_|refine za2 ?_
    subst hz
    refine ⟨trivial,a,c,?_,⟨zca (by rw [←hv];exact hown3),fun ad ha hn=>(hown3.lt ad.block (by rw [hv,ha];rfl)).1,by simp [resN];unfold maxLen;omega⟩,hA0⟩
    simp [go_sem,zar,zam,resN,zbB,zcu,g1,hv]
def resX:Res Tre→Tre
 | .ok x _=>x
 | .er _ _=>ex0
def RArgPost (w:World) (r:Res Tre) (e:Ending) (w':World):Prop :=
 ∃ R:List Value,e = .returned (.tuple #[.agg R.toArray,.int .i64 (zbB r),.int .i64 (zcu r)])∧EX w' (fun k=>w.heap.size≤k) R (resX r)∧Below w.heap.size w w'
def endS0 (T:List Tok) (k:Int) (i:Nat):Res R3:=if hasR k=true then (match ratS T i with | .er j e=>Res.er j e | .ok x j=>.ok (qR3 x) j) else .ok r30 i
theorem endS0_er {T:List Tok} {k:Int} {i j:Nat} {e:Int} (h:hasR k=true) (hr:ratS T i = .er j e):endS0 T k i = .er j e:=by unfold endS0;rw [if_pos h,hr]
theorem endS0_ok {T:List Tok} {k:Int} {i j:Nat} {x:Rat} (h:hasR k=true) (hr:ratS T i = .ok x j):endS0 T k i = .ok (qR3 x) j:=by unfold endS0;rw [if_pos h,hr]
theorem endS0_no {T:List Tok} {k:Int} {i:Nat} (h:¬hasR k=true):endS0 T k i = .ok r30 i:=by unfold endS0;rw [if_neg h]
theorem endS_eq (T:List Tok) (k:Int) (i:Nat):endS T k i=(match endS0 T k i with
 | .er j e=>.er j e
 | .ok q j=>match zeE T sRP j with
  | .er j e=>.er j e
  | .ok _ j=>.ok q j):=rfl
def preS (xs:List Tre):Res (List Tre)→Res (List Tre)
 | .er j e=>.er j e
 | .ok ys j=>.ok (xs++ys) j
theorem preS_nil (r:Res (List Tre)):preS [] r=r:=by cases r<;>rfl
theorem preS_snoc (xs:List Tre) (x:Tre) (r:Res (List Tre)):preS (xs++[x]) r=preS xs (match r with | .er j e=>.er j e | .ok ys j=>.ok (x::ys) j):=by cases r<;>simp [preS]
theorem rcon_any {cap f:Nat} {lb lo:Nat} {T:List Tok} (hW:Wf T) (d:Int) (hd:0≤d∧d≤20)
  (harg:∀ (w:World) (i:Nat) (sort:Int),0≤sort∧sort≤4→i<T.length→SL w (some ⟨lb,lo,none⟩) (zc2 T)→Calls Tryz.prog 19 #[.slice (some ⟨lb,lo,none⟩) T.length cap,.int .i64 i,.int .i64 sort,.int .i64 (d+1)] w (RArgPost w (argS T f sort i)))
  {w:World} {i:Nat} {sort:Int} (hsr:0≤sort∧sort≤4) (hi:i<T.length) (hsl:SL w (some ⟨lb,lo,none⟩) (zc2 T)) :
  Calls Tryz.prog 40 #[.slice (some ⟨lb,lo,none⟩) T.length cap,.int .i64 i,.int .i64 sort,.int .i64 d] w (RArgPost w (conS T (argS T f) sort i)):=by
 have hT:T.length≤20001:=hW.size
 have hi':(i:Int)<T.length:=by omega
 obtain ⟨C,hC⟩:∃ C,C=conS T (argS T f) sort i:=⟨_,rfl⟩
 rw [←hC]
 unfold conS at hC
 obtain ⟨kn,hkn⟩:∃ kn,kn=kofS T i sort:=⟨_,rfl⟩
 rw [←hkn] at hC
 have hkv:(if (zai T i).k≠1 then 0 else if sort=0 then max (wsS (zai T i).t 2) (wsS (zai T i).t 3) else wsS (zai T i).t sort)=kn:=by rw [hkn];rfl
 have hwd:IntKind.i64.wrap (d+1)=d+1:=IntWalk.i64_in _ (by omega)
 refine za5 (rs:=[.cell 8 30,.tmp 9,.tmp 10]) (n:=120) Tryz.func40 rfl rfl rfl (by kernel_rfl) ?_
 have hA0:=Below.refl w.heap.size w
 refine zzr fun K hK=>?_
 simp [go_sem,za0,za4,za1]
 refine zza rfl zbY (fun w1 b1 hE1 hle1 hB1=>?_)
 have hb1_0:=Nat.le_trans hA0.size hle1
 replace hA0:=hA0.next hE1
 simp [go_sem,za0,za4,za1,hB1.cell]
 apply hK;clear hK K
 obtain ⟨J,hJ⟩:∃ J:G→World→Prop,J=fun g' w2=>∃ b20,g' 0 = .slice (some ⟨lb,lo,none⟩) T.length cap∧g' 1 = .int .i64 i∧g' 2 = .int .i64 sort∧g' 3 = .int .i64 d∧g' 8 = .pointer (some ⟨b1,0,none⟩)∧g' 11 = .pointer (some ⟨b20,0,none⟩)∧b1≠b20∧w.heap.size≤b20∧Below w.heap.size w w2∧Bx w2 b1 #[.int .i64 0,.string ⟨#[]⟩,.bool false,.slice none 0 0,.slice none 0 0,.slice none 0 0,.int .i64 0] 30∧Bx w2 b20 #[.int .i64 kn,.string ⟨#[]⟩,.bool false,.slice none 0 0,.slice none 0 0,.slice none 0 0,.int .i64 (zai T i).p] 30:=⟨_,rfl⟩
 refine W_rdTJ (J) (.li 0 (.li 1 (.li 2 (.li 3 (.li 4 (.li 6 (.li 7 (.li 8 (.li 9 (.li 10 (.fork 5 (.fork 11 (.hv 12 (.hv 13 .done)) (.hv 12 (.hv 11 (.hv 13 .done)))) (.hv 12 (.hv 5 (.hv 11 (.hv 13 .done))))))))))))))) (by kernel_rfl) (by kernel_rfl) ?_ ?_
 ·intro w0 hw0
  have hA:Below w.heap.size w w0:=by rw [hw0];exact hA0.next (Below.drew1 _)
  replace hB1:Bx w0 b1 #[.int .i64 0,.string ⟨#[]⟩,.bool false,.slice none 0 0,.slice none 0 0,.slice none 0 0,.int .i64 0] 30:=by rw [hw0];exact hB1.keep (Below.drew1 _)
  clear hw0 hA0
  obtain ⟨r1,r2,_⟩:=zdt (hsl.ext hA) hi
  obtain ⟨_,c1,_⟩:=zbg (hsl.ext hA) hi
  simp only [Option.getD_some,za0] at r1 r2
  have hz:=Nat.le_refl w0.heap.size
  simp [go_sem,hi,hi',r1,r2,c1,za0]
  refine ⟨?_,?_⟩
  ·skip
   refine zzc rfl Tryz.call18 (fun R hR=>?_)
   simp [go_sem,hi,hi',r1,r2,c1,za0]
   refine (rkindOf_any (zai T i) sort _).mono ?_
   rintro e w51 ⟨rfl,hE51⟩
   refine ⟨_,rfl,hR _ _ ?_⟩
   clear hR R
   refine zay (hE51.mono hz) ?_
   replace hz:=Nat.le_trans hz hE51.size
   replace hA:=hA.next hE51
   replace hB1:=hB1.keep hE51
   try replace hB60:=hB60.keep hE51
   rw [hkv]
   simp [go_sem,hi,hi',r1,r2,c1,za0]
   refine ⟨?_,?_⟩
   ·skip
    refine zal #[.int .i64 kn,.string ⟨#[]⟩,.bool false,.slice none 0 0,.slice none 0 0,.slice none 0 0,.int .i64 (zai T i).p] (by simp [go_sem]) rfl zbI [(0,.int .i64 kn),(4,.int .i64 (zai T i).p)] (by simp [go_sem]) rfl ?_
    refine zay ((Below.refl _ _).mono hz) ?_
    simp [go_sem,hi,hi',r1,r2,c1,za0]
    refine zza rfl zbY (fun w60 b60 hE60 hle60 hB60=>?_)
    refine zay (hE60.mono hz) ?_
    have hw060:w0.heap.size≤b60:=Nat.le_trans hz hle60
    have hw60:w.heap.size≤b60:=Nat.le_trans hA.size hle60
    have hne60:b1≠b60:=Nat.ne_of_lt (Nat.lt_of_lt_of_le hB1.lt hle60)
    replace hz:=Nat.le_trans hz hE60.size
    replace hA:=hA.next hE60
    replace hB1:=hB1.keep hE60
    simp [go_sem,hi,hi',r1,r2,c1,za0]
    refine zzs (b:=b60) (off:=0) [.int .i64 kn,.string ⟨#[]⟩,.bool false,.slice none 0 0,.slice none 0 0,.slice none 0 0,.int .i64 (zai T i).p] rfl zaC hB60 (fun w61 hS61 hB61=>?_) (by simp [go_sem,Value.cells])
    simp [zaw] at hB61
    refine zay (hS61.below hw060) ?_
    simp [go_sem,za0]
    rw [hJ]
    refine ⟨b60,?_,?_,?_,?_,?_,?_,hne60,hw60,hA.nextS hS61 hw60,hB1.sto hS61 hne60,hB61⟩<;>simp [go_sem]
   ·skip
    refine zza rfl zbY (fun w60 b60 hE60 hle60 hB60=>?_)
    refine zay (hE60.mono hz) ?_
    have hw060:w0.heap.size≤b60:=Nat.le_trans hz hle60
    have hw60:w.heap.size≤b60:=Nat.le_trans hA.size hle60
    have hne60:b1≠b60:=Nat.ne_of_lt (Nat.lt_of_lt_of_le hB1.lt hle60)
    replace hz:=Nat.le_trans hz hE60.size
    replace hA:=hA.next hE60
    replace hB1:=hB1.keep hE60
    simp [go_sem,hi,hi',r1,r2,c1,za0]
    refine zal #[.int .i64 kn,.string ⟨#[]⟩,.bool false,.slice none 0 0,.slice none 0 0,.slice none 0 0,.int .i64 (zai T i).p] (by simp [go_sem]) rfl zbI [(0,.int .i64 kn),(4,.int .i64 (zai T i).p)] (by simp [go_sem]) rfl ?_
    refine zay ((Below.refl _ _).mono hz) ?_
    simp [go_sem,hi,hi',r1,r2,c1,za0]
    refine zzs (b:=b60) (off:=0) [.int .i64 kn,.string ⟨#[]⟩,.bool false,.slice none 0 0,.slice none 0 0,.slice none 0 0,.int .i64 (zai T i).p] rfl zaC hB60 (fun w61 hS61 hB61=>?_) (by simp [go_sem,Value.cells])
    simp [zaw] at hB61
    refine zay (hS61.below hw060) ?_
    simp [go_sem,za0]
    rw [hJ]
    refine ⟨b60,?_,?_,?_,?_,?_,?_,hne60,hw60,hA.nextS hS61 hw60,hB1.sto hS61 hne60,hB61⟩<;>simp [go_sem]
  ·skip
   refine zza rfl zbY (fun w60 b60 hE60 hle60 hB60=>?_)
   refine zay (hE60.mono hz) ?_
   have hw060:w0.heap.size≤b60:=Nat.le_trans hz hle60
   have hw60:w.heap.size≤b60:=Nat.le_trans hA.size hle60
   have hne60:b1≠b60:=Nat.ne_of_lt (Nat.lt_of_lt_of_le hB1.lt hle60)
   replace hz:=Nat.le_trans hz hE60.size
   replace hA:=hA.next hE60
   replace hB1:=hB1.keep hE60
   simp [go_sem,hi,hi',r1,r2,c1,za0]
   refine zzc rfl Tryz.call18 (fun R hR=>?_)
   simp [go_sem,hi,hi',r1,r2,c1,za0]
   refine (rkindOf_any (zai T i) sort _).mono ?_
   rintro e w51 ⟨rfl,hE51⟩
   refine ⟨_,rfl,hR _ _ ?_⟩
   clear hR R
   refine zay (hE51.mono hz) ?_
   replace hz:=Nat.le_trans hz hE51.size
   replace hA:=hA.next hE51
   replace hB1:=hB1.keep hE51
   try replace hB60:=hB60.keep hE51
   rw [hkv]
   simp [go_sem,hi,hi',r1,r2,c1,za0]
   refine zal #[.int .i64 kn,.string ⟨#[]⟩,.bool false,.slice none 0 0,.slice none 0 0,.slice none 0 0,.int .i64 (zai T i).p] (by simp [go_sem]) rfl zbI [(0,.int .i64 kn),(4,.int .i64 (zai T i).p)] (by simp [go_sem]) rfl ?_
   refine zay ((Below.refl _ _).mono hz) ?_
   simp [go_sem,hi,hi',r1,r2,c1,za0]
   refine zzs (b:=b60) (off:=0) [.int .i64 kn,.string ⟨#[]⟩,.bool false,.slice none 0 0,.slice none 0 0,.slice none 0 0,.int .i64 (zai T i).p] rfl zaC hB60 (fun w61 hS61 hB61=>?_) (by simp [go_sem,Value.cells])
   simp [zaw] at hB61
   refine zay (hS61.below hw060) ?_
   simp [go_sem,za0]
   rw [hJ]
   refine ⟨b60,?_,?_,?_,?_,?_,?_,hne60,hw60,hA.nextS hS61 hw60,hB1.sto hS61 hne60,hB61⟩<;>simp [go_sem]
 ·intro g w2 hJ'
  rw [hJ] at hJ'
  clear hJ J hA0 hB1
  obtain ⟨b20,g0,g1,g2,g3,g8,g11,hne,hwb20,hA0,hB1,hB20⟩:=hJ'
  have hd1_20:b1≠b20:=hne
  have hd20_1:b20≠b1:=hne.symm
  have hb20_0:w.heap.size≤b20:=hwb20
  refine zab (fun K1 hK1=>?_)
  refine zzr fun K hK=>?_
  simp [go_sem,za0,za4,za1,hB1.cell,hB20.cell,g0,g1,g2,g3,g8,g11]
  apply hK;clear hK K
  by_cases hkz:kn=0
  ·rw [if_pos hkz] at hC
   have hC1:C = .er i 5:=hC
   refine zaf (t:=true) (by simp [go_sem,g0,g1,g2,g3,g8,g11,hkz]) rfl ?_
   refine zzr fun K hK=>?_
   simp [go_sem,za0,za4,za1,hB1.cell,hB20.cell,g0,g1,g2,g3,g8,g11]
   refine zal #[.int .i64 0,.string ⟨#[]⟩,.bool false,.slice none 0 0,.slice none 0 0,.slice none 0 0,.int .i64 0] (by simp [go_sem]) rfl zbI [] (by simp [go_sem]) rfl ?_
   simp [go_sem,za0]
   refine zzs (b:=b1) (off:=0) [.int .i64 0,.string ⟨#[]⟩,.bool false,.slice none 0 0,.slice none 0 0,.slice none 0 0,.int .i64 0] rfl zaC hB1 (fun w2 hS2 hB2=>?_) (by simp [go_sem,Value.cells,g0,g1,g2,g3,g8,g11])
   simp [zaw] at hB2
   replace hA0:=hA0.nextS hS2 (by first|exact hb1_0|omega)
   replace hB20:=hB20.sto hS2 (by first|exact hd20_1|exact (hd1_20).symm)
   simp [go_sem,za0,za4,za1,hB20.cell,g0,g1,g2,g3,g8,g11,hB2.cell]
   apply hK;clear hK K
   refine zad ?_
   repeat first|refine za3 ?_|refine za2 ?_
   rw [hC1]
   refine ⟨by simp [go_sem,zaD,zam,za4,za1,za0,hB2.cell,g8],?_⟩
   refine ⟨_,?_,EX.ex0 _ _ _ rfl,hA0⟩
   simp [go_sem,zar,zam,za4,za1,za0,hB2.cell,resX,zbB,zcu,g8]
  ·rw [if_neg hkz] at hC
   have hp:=kindP_pars hW (sorts:=sortL sort) (s:=⟨i,0,0⟩) (by rw [zeF hW hsr,←hkn];exact hkz)
   rw [zeF hW hsr,←hkn] at hp
   obtain ⟨hpne,hpr,hpl,hk1,hk2,_,htk⟩:=hp
   simp only at htk
   have hlt0:=hW.next hi (show (zai T i).k≠0 by rw [htk];decide)
   obtain ⟨m,hm⟩:∃ m,m=i+1:=⟨_,rfl⟩
   rw [←hm] at hlt0 hC
   have hw1:IntKind.i64.wrap ((i:Int)+1)=(m:Int):=by rw [IntWalk.i64_in _ (by omega)];omega
   obtain ⟨Z,hZ⟩:∃ Z,Z=zdi T (argS T f) true (zc6 kn) m:=⟨_,rfl⟩
   rw [←hZ] at hC
   refine zaf (t:=false) (by simp [go_sem,g0,g1,g2,g3,g8,g11, hkz]) rfl ?_
   refine za7 ?_
   apply hK1
   refine zzr fun K hK=>?_
   simp [go_sem,za0,za4,za1,hB1.cell,hB20.cell,g0,g2,g3,g8,g11, hw1,g1]
   apply hK;clear hK K
   refine zab (fun K2 hK2=>?_)
   have h1N3:=hB1.lt
   have h20N3:=hB20.lt
   refine zzr fun K hK=>?_
   simp [go_sem,za0,za4,za1,hB1.cell,hB20.cell,g0,g2,g3,g8,g11]
   refine zzc rfl Tryz.call63 (fun R hR=>?_)
   simp [go_sem,za0,za4,za1,hB1.cell,hB20.cell,g0,g2,g3,g8,g11]
   refine (rparams_any kn _).mono ?_
   rintro e w24 ⟨pa,pc,rfl,hps,hpb,hE24⟩
   refine ⟨_,rfl,hR _ _ ?_⟩
   clear hR R
   replace hA0:=hA0.next hE24
   replace hB1:=hB1.keep hE24
   replace hB20:=hB20.keep hE24
   have hN34:=hE24.size
   obtain ⟨N3,hN3⟩:∃ N,N=w2.heap.size:=⟨_,rfl⟩
   have hpl2:SLF w24 (fun k=>N3≤k∧k<w24.heap.size) pa (intC (zc6 kn)):=⟨hps,fun ad ha hn=>⟨by rw [hN3];exact hpb ad ha,hps.blt ad ha hn⟩⟩
   obtain ⟨N4,hN4⟩:∃ N,N=w24.heap.size:=⟨_,rfl⟩
   rw [←hN4] at hpl2 hN34
   rw [←hN3] at h1N3 h20N3 hN34
   have hwN3:w.heap.size≤N3:=by omega
   clear hps hpb
   simp [go_sem,za0,za4,za1,hB1.cell,hB20.cell,g0,g2,g3,g8,g11]
   apply hK;clear hK K
   obtain ⟨ps,hps0⟩:∃ ps,ps=zc6 kn:=⟨_,rfl⟩
   rw [←hps0] at hpne hpr hpl hpl2 hZ ⊢
   refine zac ?_
   refine zaz (fun m' g w'=>∃ (j i':Nat) (v:Value) (rows:List (List Value)) (xs:List Tre),j≤ps.length∧m'=ps.length-j∧i'<T.length∧Below w.heap.size w w'∧N4≤w'.heap.size∧Bx w' b1 #[.int .i64 0,.string ⟨#[]⟩,.bool false,.slice none 0 0,.slice none 0 0,.slice none 0 0,.int .i64 0] 30∧Bx w' b20 #[.int .i64 kn,.string ⟨#[]⟩,.bool false,.slice none 0 0,.slice none 0 0,v,.int .i64 (zai T i).p] 30∧w'.ownsRow N4 30 7 v j rows.flatten∧NB w' v∧SLF w' (fun k=>N3≤k∧k<N4) pa (intC ps)∧RXs w' (fun k=>N4≤k∧v.ownBlock≠some k) rows xs∧xs.length=j∧Z=preS xs (zdi T (argS T f) (decide (j=0)) (ps.drop j) i')∧g 0 = .slice (some ⟨lb,lo,none⟩) T.length cap∧g 1 = .int .i64 i'∧g 3 = .int .i64 d∧g 8 = .pointer (some ⟨b1,0,none⟩)∧g 11 = .pointer (some ⟨b20,0,none⟩)∧g 45 = .slice pa ps.length pc∧g 46 = .int .i64 ps.length∧g 47 = .int .i64 j) ps.length ?_ ?_
   ·exact ⟨0,m,.slice none 0 0,[],[],Nat.zero_le _,rfl,hlt0,hA0,by rw [hN4];exact Nat.le_refl _,hB1,hB20,World.ownsRow_nil _ _ _ _,NB.nil _,hpl2,RXs.nil _ _,rfl,by rw [preS_nil];exact hZ,by simp [go_sem,g0],by simp [go_sem],by simp [go_sem,g3],by simp [go_sem,g8],by simp [go_sem,g11],by simp [go_sem],by simp [go_sem],by simp [go_sem]⟩
   clear hA0 hB1 hB20 hpl2 g0 g1 g2 g3 g8 g11
   rintro m' g w' ⟨j,i',v,rows,xs,hj,rfl,hi',hA0,hNs,hB1,hB20,hown,hnb,hpl2,hrx,hxl,hz1,g0,g1,g3,g8,g11,g45,g46,g47⟩
   obtain ⟨va,vc,rfl⟩:=zbf hown
   refine zzr fun K hK=>?_
   simp [go_sem,za0,za4,za1,g0,g3,g8,g11,hB1.cell,hB20.cell,g45,g46,g47, g1]
   apply hK;clear hK K
   refine zab (fun K3 hK3=>?_)
   by_cases hlt:j<ps.length
   ·have c1:(j:Int)<ps.length:=by omega
    have hw2:IntKind.i64.wrap ((j:Int)+1)=(j+1:Nat):=zzw (by omega)
    obtain ⟨q1,q2⟩:=hpl2.sl.getD (j:=j) (by simp [intC];omega)
    rw [intC_at hlt] at q1
    have hpi:0≤ps.getD j 0∧ps.getD j 0≤3:=hpr _ (by rw [List.getD_eq_getElem?_getD,List.getElem?_eq_getElem hlt];exact List.getElem_mem hlt)
    have hdr:ps.drop j=ps.getD j 0::ps.drop (j+1):=by rw [List.drop_eq_getElem_cons hlt,List.getD_eq_getElem?_getD,List.getElem?_eq_getElem hlt];rfl
    rw [hdr] at hz1
    generalize ps.getD j 0=p at *
    obtain ⟨tS,htS⟩:∃ tS,tS=(if decide (j=0)=true then sLP else sCM):=⟨_,rfl⟩
    unfold zdi at hz1
    rw [←htS] at hz1
    refine zaf (t:=true) (by simp [go_sem,g0,g3,g8,g11,g45,g46,g47,c1,hlt]) rfl ?_
    refine za7 ?_
    apply hK3
    refine zab (fun K4 hK4=>?_)
    refine zac ?_
    refine zzr fun K hK=>?_
    simp [go_sem,za0,za4,za1,g0,g3,g8,g11,hB1.cell,hB20.cell,g45,g46,g47, c1,hlt,q1,q2]
    apply hK;clear hK K
    refine zzr fun K hK=>?_
    simp [go_sem,za0,za4,za1,g0,g3,g8,g11,hB1.cell,hB20.cell,g45,g46,g47]
    apply hK;clear hK K
    refine zab (fun K5 hK5=>?_)
    have tail:∀ (g:G),g 0 = .slice (some ⟨lb,lo,none⟩) T.length cap→g 1 = .int .i64 i'→g 3 = .int .i64 d→g 8 = .pointer (some ⟨b1,0,none⟩)→g 11 = .pointer (some ⟨b20,0,none⟩)→g 13 = .int .i64 p→g 14 = .string ⟨tS.toArray⟩→g 45 = .slice pa ps.length pc→g 46 = .int .i64 ps.length→g 47 = .int .i64 j→K5 g w':=by
     clear g0 g1 g3 g8 g11 g45 g46 g47 q1 q2
     intro g g0 g1 g3 g8 g11 g13 g14 g45 g46 g47
     apply hK5
     refine zzr fun K hK=>?_
     simp [go_sem,za0,za4,za1,g0,g3,g8,g11,hB1.cell,hB20.cell,g45,g46,g47,g13,g14,g1]
     refine zzc rfl Tryz.call47 (fun R hR=>?_)
     simp [go_sem,za0,za4,za1,g0,g3,g8,g11,hB1.cell,hB20.cell,g45,g46,g47,g13,g14,g1]
     refine (zdp (hsl.ext hA0) hT i' hi' tS).mono ?_
     rintro e w30 ⟨rfl,hE30⟩
     refine ⟨_,rfl,hR _ _ ?_⟩
     clear hR R
     replace hA0:=hA0.next hE30
     replace hB1:=hB1.keep hE30
     replace hB20:=hB20.keep hE30
     replace hpl2:=hpl2.ext hE30
     replace hrx:=hrx.ext hE30
     replace hnb:=hnb.keep hE30
     replace hown:=zas hown hE30
     simp [go_sem,za0,za4,za1,g0,g3,g8,g11,hB1.cell,hB20.cell,g45,g46,g47,g13,g14,g1]
     apply hK;clear hK K
     refine zab (fun K6 hK6=>?_)
     rcases zct (T:=T) tS i' 0 with ⟨e1,_⟩|⟨e1,_⟩
     ·obtain ⟨n1,hn1⟩:∃ n1,n1=i'+1:=⟨_,rfl⟩
      have hn1T:n1<T.length:=exp_ok_lt hW hi' (by rw [e1,hn1])
      rw [e1,←hn1] at hz1 ⊢
      simp only at hz1
      refine zzr fun K hK=>?_
      simp [go_sem,za0,za4,za1,g0,g3,g8,g11,hB1.cell,hB20.cell,g45,g46,g47,g13,g14,g1, zbB,zcu]
      apply hK;clear hK K
      refine zaf (t:=false) (by simp [go_sem,g0,g3,g8,g11,g45,g46,g47,g13,g14,g1, zbB,zcu]) rfl ?_
      refine za7 ?_
      apply hK6
      have hN30:N4≤w30.heap.size:=Nat.le_trans hNs hE30.size
      have hown29:=hown
      refine zzr fun K hK=>?_
      simp [go_sem,za0,za4,za1,g0,g3,g8,g11,hB1.cell,hB20.cell,g45,g46,g47,g13,g14, hwd]
      refine zzc rfl Tryz.call19 (fun R hR=>?_)
      simp [go_sem,za0,za4,za1,g0,g3,g8,g11,hB1.cell,hB20.cell,g45,g46,g47,g13,g14,hwd]
      refine (harg _ n1 p ⟨hpi.1,by omega⟩ hn1T (hsl.ext hA0)).mono ?_
      rintro e w31 ⟨Rx,rfl,hxe,hE31⟩
      refine ⟨_,rfl,hR _ _ ?_⟩
      clear hR R
      replace hA0:=hA0.next hE31
      replace hB1:=hB1.keep hE31
      replace hB20:=hB20.keep hE31
      replace hpl2:=hpl2.ext hE31
      replace hrx:=hrx.ext hE31
      replace hnb:=hnb.keep hE31
      replace hown:=zas hown hE31
      obtain ⟨r,hr⟩:∃ r,r=argS T f p n1:=⟨_,rfl⟩
      have hrl:=arg_lt hW f p n1 hn1T
      have hra:=arg_agr hW (a0:=0) f p n1 ⟨hpi.1,by omega⟩
      rw [←hr] at hxe hz1 hrl hra ⊢
      obtain ⟨x,hx⟩:∃ x,x=resX r:=⟨_,rfl⟩
      rw [←hx] at hxe
      obtain ⟨xa,xc,xb,xd,xad,xcap,xrows,hRx,_⟩:=hxe.open
      subst hRx
      have hownD:=hown
      have hN31:N4≤w31.heap.size:=Nat.le_trans hN30 hE31.size
      replace hxe:=hxe.blt.mono (F':=fun k=>(N4≤k∧Value.ownBlock (.slice va j vc)≠some k)∧k<w31.heap.size) (fun k hk=>⟨⟨Nat.le_trans hN30 hk.1,fun e=>by have:=(hown29.lt k e).2;exact absurd hk.1 (by omega)⟩,hk.2⟩)
      replace hrx:=hrx.blt
      simp [go_sem,za0,za4,za1,g0,g3,g8,g11,hB1.cell,hB20.cell,g45,g46,g47,g13,g14,hwd]
      refine zza rfl zbY (fun w40 b40 hE40 hle40 hB40=>?_)
      have hb40_0:=Nat.le_trans hA0.size hle40
      have hd1_40:b1≠b40:=Nat.ne_of_lt (Nat.lt_of_lt_of_le hB1.lt hle40)
      have hd20_40:b20≠b40:=Nat.ne_of_lt (Nat.lt_of_lt_of_le hB20.lt hle40)
      replace hA0:=hA0.next hE40
      replace hB1:=hB1.keep hE40
      replace hB20:=hB20.keep hE40
      replace hpl2:=hpl2.ext hE40
      replace hrx:=hrx.ext hE40
      replace hxe:=hxe.ext hE40
      simp [go_sem,za0,za4,za1,g0,g3,g8,g11,hB1.cell,hB20.cell,g45,g46,g47,g13,g14,hB40.cell]
      replace hown:=zas hown hE40
      replace hnb:=hnb.keep hE40
      refine zzs (b:=b40) (off:=0) [.int .i64 x.kind,.string ⟨x.name.toArray⟩,.bool x.neg,.slice xa x.num.length xc,.slice xb x.den.length xd,.slice xad x.args.length xcap,.int .i64 x.pos] rfl zaC hB40 (fun w41 hS41 hB41=>?_) (by simp [go_sem,Value.cells])
      simp [zaw] at hB41
      replace hnb:=hnb.grown (zaS hS41) (.inr fun e=>by have:=(hownD.lt b40 e).2;omega)
      replace hown:=zdV hown hS41 (fun e=>by have:=(hownD.lt b40 e).2;omega)
      replace hrx:=hrx.ch (Ch.of_sto hS41 (NL.of_bx hB40 (by intro u hu x e;subst e;simp at hu))) (fun k hk e=>by have:=hk.2;omega)
      replace hxe:=hxe.ch (Ch.of_sto hS41 (NL.of_bx hB40 (by intro u hu x e;subst e;simp at hu))) (fun k hk e=>by have:=hk.2;omega)
      replace hpl2:=hpl2.ch (Ch.of_sto hS41 (NL.of_bx hB40 (by intro u hu x e;subst e;simp at hu))) (fun k hk e=>by have:=hk.2;omega)
      replace hA0:=hA0.nextS hS41 (by have:=hA0.size;omega)
      replace hB1:=hB1.sto hS41 (by omega)
      replace hB20:=hB20.sto hS41 (by omega)
      have hN41:N4≤w41.heap.size:=by rw [hS41.size];exact Nat.le_trans hN31 hE40.size
      simp [go_sem,za0,za4,za1,g0,g3,g8,g11,g45,g46,g47,g13,g14,hB1.cell,hB20.cell,hB41.cell]
      apply hK;clear hK K
      refine zab (fun K7 hK7=>?_)
      cases r with
      | er j2 e2 =>
       have he2:¬e2=0:=hra.1
       have hC1:C = .er j2 e2:=by rw [hC,hz1];rfl
       refine zzr fun K hK=>?_
       simp [go_sem,za0,za4,za1,g0,g3,g8,g11,g45,g46,g47,g13,g14,hB1.cell,hB20.cell,hB41.cell, zbB,zcu,he2]
       apply hK;clear hK K
       refine zaf (t:=true) (by simp [go_sem,g0,g3,g8,g11,g45,g46,g47,g13,g14,zbB,zcu,he2]) rfl ?_
       refine zzr fun K hK=>?_
       simp [go_sem,za0,za4,za1,g0,g3,g8,g11,g45,g46,g47,g13,g14,hB1.cell,hB20.cell,hB41.cell]
       refine zal #[.int .i64 0,.string ⟨#[]⟩,.bool false,.slice none 0 0,.slice none 0 0,.slice none 0 0,.int .i64 0] (by simp [go_sem]) rfl zbI [] (by simp [go_sem]) rfl ?_
       simp [go_sem,za0]
       refine zzs (b:=b1) (off:=0) [.int .i64 0,.string ⟨#[]⟩,.bool false,.slice none 0 0,.slice none 0 0,.slice none 0 0,.int .i64 0] rfl zaC hB1 (fun w45 hS45 hB45=>?_) (by simp [go_sem,Value.cells,g0,g3,g8,g11,g45,g46,g47,g13,g14])
       simp [zaw] at hB45
       replace hA0:=hA0.nextS hS45 (by first|exact hb1_0|omega)
       replace hB20:=hB20.sto hS45 (by first|exact hd20_1|exact (hd1_20).symm)
       replace hB41:=hB41.sto hS45 (by first|exact hd40_1|exact (hd1_40).symm)
       simp [go_sem,za0,za4,za1,g0,g3,g8,g11,g45,g46,g47,g13,g14,hB20.cell,hB41.cell,hB45.cell]
       apply hK;clear hK K
       refine zad ?_
       repeat first|refine za3 ?_|refine za2 ?_
       rw [hC1]
       refine ⟨by simp [go_sem,zaD,zam,za4,za1,za0,hB45.cell,g8],?_⟩
       refine ⟨_,?_,EX.ex0 _ _ _ rfl,hA0⟩
       simp [go_sem,zar,zam,za4,za1,za0,hB45.cell,resX,zbB,zcu,g8]
      | ok x0 j2 =>
       have hx0:x=x0:=hx
       subst hx0
       simp only at hz1
       have hj2:j2<T.length:=hrl
       refine zzr fun K hK=>?_
       simp [go_sem,za0,za4,za1,g0,g3,g8,g11,g45,g46,g47,g13,g14,hB1.cell,hB20.cell,hB41.cell, zbB,zcu]
       apply hK;clear hK K
       refine zaf (t:=false) (by simp [go_sem,g0,g3,g8,g11,g45,g46,g47,g13,g14, zbB,zcu]) rfl ?_
       refine za7 ?_
       apply hK7
       refine zzr fun K hK=>?_
       simp [go_sem,za0,za4,za1,g0,g3,g8,g11,g45,g46,g47,g13,g14,hB1.cell,hB20.cell,hB41.cell]
       refine zak #[.int .i64 x.kind,.string ⟨x.name.toArray⟩,.bool x.neg,.slice xa x.num.length xc,.slice xb x.den.length xd,.slice xad x.args.length xcap,.int .i64 x.pos] (by simp [go_sem,za0,za4,za1,g0,g3,g8,g11,g45,g46,g47,g13,g14,hB1.cell,hB20.cell,hB41.cell]) rfl ty_slZ28 (by decide) [(0,.agg #[.int .i64 x.kind,.string ⟨x.name.toArray⟩,.bool x.neg,.slice xa x.num.length xc,.slice xb x.den.length xd,.slice xad x.args.length xcap,.int .i64 x.pos])] (by simp [go_sem,za0,za4,za1,g0,g3,g8,g11,g45,g46,g47,g13,g14,hB1.cell,hB20.cell,hB41.cell]) (by kernel_rfl) (fun w50 b50 hE50 hle50 hB50=>?_)
       have hb50_0:=Nat.le_trans hA0.size hle50
       have hd1_50:b1≠b50:=Nat.ne_of_lt (Nat.lt_of_lt_of_le hB1.lt hle50)
       have hd20_50:b20≠b50:=Nat.ne_of_lt (Nat.lt_of_lt_of_le hB20.lt hle50)
       have hd40_50:b40≠b50:=Nat.ne_of_lt (Nat.lt_of_lt_of_le hB41.lt hle50)
       replace hA0:=hA0.next hE50
       replace hB1:=hB1.keep hE50
       replace hB20:=hB20.keep hE50
       replace hB41:=hB41.keep hE50
       simp [go_sem,za0,za4,za1,g0,g3,g8,g11,g45,g46,g47,g13,g14,hB1.cell,hB20.cell,hB41.cell,hB50.cell]
       have hN50:N4≤w50.heap.size:=Nat.le_trans hN41 hE50.size
       replace hown:=zas hown hE50
       replace hnb:=hnb.keep hE50
       replace hrx:=hrx.ext hE50
       replace hxe:=hxe.ext hE50
       replace hpl2:=hpl2.ext hE50
       refine zcn (v:=.slice va j vc) (b:=b50) (len:=1) (c:=1) hB50 (by simp [go_sem]) rfl ty_slZ28 ty_bytes30 rfl (by decide) (by simp [go_sem,za0,hB20.cell]) (by simp [go_sem]) hown rfl (by simp [Value.oneCell']) (by unfold maxLen;omega) (by omega) hN50 (by decide) (by intro u hu x e;subst e;simp at hu) (by intro u hu x e;subst e;simp at hu) hnb (fun v' w60 hown' hg60 hat60 hnb'=>?_)
       obtain ⟨va',vc',rfl⟩:=zbf hown'
       have hob:∀ k,(Value.ownBlock (.slice va j vc))=some k→N4≤k:=fun k e=>(hown.lt k e).1
       replace hrx:=((hrx.snoc hxe).blt).ch (Ch.of_grown hg60 (NL.of_nb hnb)) (fun k hk e=>hk.1.1.2 e)
       replace hrx:=hrx.mono (F':=fun k=>N4≤k∧Value.ownBlock (.slice va' (j+1) vc')≠some k) (fun k hk=>⟨hk.1.1.1,fun e=>by
        rcases hat60 with h|h
        ·exact hk.1.1.2 (h▸e)
        ·rw [h] at e;injection e with e;have:=hk.2;omega⟩)
       replace hpl2:=hpl2.ch (Ch.of_grown hg60 (NL.of_nb hnb)) (fun k hk e=>by have:=hob k e;have:=hk.2;omega)
       replace hA0:=hA0.nextG hg60 (fun k e=>by have:=hob k e;omega)
       replace hB1:=hB1.grown hg60 (fun e=>by have:=hob b1 e.symm;omega)
       replace hB20:=hB20.grown hg60 (fun e=>by have:=hob b20 e.symm;omega)
       simp [go_sem,za0,za4,za1,g0,g3,g8,g11,g45,g46,g47,g13,g14,hB1.cell,hB20.cell]
       refine zzs (b:=b20) (off:=5) [.slice va' (j+1) vc'] rfl ty_size28 hB20 (fun w70 hS70 hB70=>?_) (by simp [go_sem,Value.cells,g0,g3,g8,g11,g45,g46,g47,g13,g14])
       simp [zaw] at hB70
       replace hA0:=hA0.nextS hS70 (by first|exact hb20_0|omega)
       replace hpl2:=hpl2.ch (Ch.of_sto hS70 (NL.of_bx hB20 (by intro u hu x e;subst e;simp at hu))) (by intro k hk e;subst e;first|exact hk.2 rfl|omega)
       replace hrx:=hrx.ch (Ch.of_sto hS70 (NL.of_bx hB20 (by intro u hu x e;subst e;simp at hu))) (by intro k hk e;subst e;first|exact hk.2 rfl|omega)
       replace hnb':=zdf hnb' hown' hS70 (by omega)
       replace hown':=zbu hown' hS70 (by omega)
       replace hB1:=hB1.sto hS70 (by first|exact hd1_20|exact (hd20_1).symm)
       simp [go_sem,za0,za4,za1,g0,g3,g8,g11,g45,g46,g47,g13,g14,hB1.cell,hB70.cell]
       apply hK;clear hK K
       refine zzt fun K hK=>?_
       simp [go_sem,za0,za4,za1,g0,g3,g8,g11,g45,g46,g47,g13,g14,hB1.cell,hB70.cell]
       apply hK;clear hK K
       apply hK4
       have hN70:N4≤w70.heap.size:=by rw [hS70.size];exact Nat.le_trans hN50 hg60.size
       refine zzt fun K hK=>?_
       simp [go_sem,g47,hw2]
       refine hK _ _ ⟨ps.length-(j+1),by omega,j+1,j2,.slice va' (j+1) vc',rows++[[.int .i64 x.kind,.string ⟨x.name.toArray⟩,.bool x.neg,.slice xa x.num.length xc,.slice xb x.den.length xd,.slice xad x.args.length xcap,.int .i64 x.pos]],xs++[x],by omega,rfl,hj2,hA0,hN70,hB1,hB70,by simpa using hown',hnb',hpl2,hrx,by simp [hxl],?_,by simp [go_sem,g0],by simp [go_sem],by simp [go_sem,g3],by simp [go_sem,g8],by simp [go_sem,g11],by simp [go_sem,g45],by simp [go_sem,g46],by simp [go_sem]⟩
       rw [hz1,preS_snoc]
       rfl
     ·rw [e1] at hz1 ⊢
      have hC1:C = .er i' 5:=by rw [hC,hz1];rfl
      refine zzr fun K hK=>?_
      simp [go_sem,za0,za4,za1,g0,g3,g8,g11,hB1.cell,hB20.cell,g45,g46,g47,g13,g14,g1, zbB,zcu]
      apply hK;clear hK K
      refine zaf (t:=true) (by simp [go_sem,g0,g3,g8,g11,g45,g46,g47,g13,g14,g1,zbB,zcu]) rfl ?_
      refine zzr fun K hK=>?_
      simp [go_sem,za0,za4,za1,g0,g3,g8,g11,hB1.cell,hB20.cell,g45,g46,g47,g13,g14,g1]
      refine zal #[.int .i64 0,.string ⟨#[]⟩,.bool false,.slice none 0 0,.slice none 0 0,.slice none 0 0,.int .i64 0] (by simp [go_sem]) rfl zbI [] (by simp [go_sem]) rfl ?_
      simp [go_sem,za0]
      refine zzs (b:=b1) (off:=0) [.int .i64 0,.string ⟨#[]⟩,.bool false,.slice none 0 0,.slice none 0 0,.slice none 0 0,.int .i64 0] rfl zaC hB1 (fun w71 hS71 hB71=>?_) (by simp [go_sem,Value.cells,g0,g3,g8,g11,g45,g46,g47,g13,g14,g1])
      simp [zaw] at hB71
      replace hA0:=hA0.nextS hS71 (by first|exact hb1_0|omega)
      replace hpl2:=hpl2.ch (Ch.of_sto hS71 (NL.of_bx hB1 (by intro u hu x e;subst e;simp at hu))) (by intro k hk e;subst e;first|exact hk.2 rfl|omega)
      replace hrx:=hrx.ch (Ch.of_sto hS71 (NL.of_bx hB1 (by intro u hu x e;subst e;simp at hu))) (by intro k hk e;subst e;first|exact hk.2 rfl|omega)
      replace hnb:=zdf hnb hown hS71 (by omega)
      replace hown:=zbu hown hS71 (by omega)
      replace hB20:=hB20.sto hS71 (by first|exact hd20_1|exact (hd1_20).symm)
      simp [go_sem,za0,za4,za1,g0,g3,g8,g11,hB20.cell,g45,g46,g47,g13,g14,g1,hB71.cell]
      apply hK;clear hK K
      refine zad ?_
      repeat first|refine za3 ?_|refine za2 ?_
      rw [hC1]
      refine ⟨by simp [go_sem,zaD,zam,za4,za1,za0,hB71.cell,g8],?_⟩
      refine ⟨_,?_,EX.ex0 _ _ _ rfl,hA0⟩
      simp [go_sem,zar,zam,za4,za1,za0,hB71.cell,resX,zbB,zcu,g8]
    by_cases hj0:j=0
    ·have c5:¬(0:Int)<j:=by omega
     refine zzr fun K hK=>?_
     simp [go_sem,za0,za4,za1,g0,g3,g8,g11,hB1.cell,hB20.cell,g45,g46,g47, c5,hj0]
     apply hK;clear hK K
     refine zaf (t:=false) (by simp [go_sem,g0,g3,g8,g11,g45,g46,g47,c5,hj0]) rfl ?_
     refine za7 ?_
     refine tail _ (by simp [go_sem,g0]) (by simp [go_sem,g1]) (by simp [go_sem,g3]) (by simp [go_sem,g8]) (by simp [go_sem,g11]) (by simp [go_sem]) (by rw [htS];simp [go_sem,hj0,sLP]) (by simp [go_sem,g45]) (by simp [go_sem,g46]) (by simp [go_sem,g47])
    ·have c5:(0:Int)<j:=by omega
     have c6:0<j:=by omega
     refine zzr fun K hK=>?_
     simp [go_sem,za0,za4,za1,g0,g3,g8,g11,hB1.cell,hB20.cell,g45,g46,g47, c5,c6]
     apply hK;clear hK K
     refine zaf (t:=true) (by simp [go_sem,g0,g3,g8,g11,g45,g46,g47,c5,c6]) rfl ?_
     refine zzt fun K hK=>?_
     simp [go_sem]
     apply hK;clear hK K
     refine tail _ (by simp [go_sem,g0]) (by simp [go_sem,g1]) (by simp [go_sem,g3]) (by simp [go_sem,g8]) (by simp [go_sem,g11]) (by simp [go_sem]) (by rw [htS];simp [go_sem,hj0,sCM]) (by simp [go_sem,g45]) (by simp [go_sem,g46]) (by simp [go_sem,g47])
   ·have c1:¬(j:Int)<ps.length:=by omega
    subst hxl
    have hie:xs.length=ps.length:=by omega
    rw [List.drop_eq_nil_of_le (by omega)] at hz1
    simp only [zdi,preS,List.append_nil] at hz1
    refine zaf (t:=false) (by simp [go_sem,g0,g3,g8,g11,g45,g46,g47,c1,hlt]) rfl ?_
    refine zav ?_
    repeat (first|refine zae ?_|refine za6 rfl ?_|refine za8 ?_)
    apply hK2
    rw [hz1] at hC
    simp only at hC
    rw [endS_eq] at hC
    refine zab (fun K8 hK8=>?_)
    have tail3:∀ (g:G) (w9:World) (i2:Nat) (q:R3) (a a':Option Addr) (c c':Nat),i2<T.length→endS0 T kn i' = .ok q i2→g 0 = .slice (some ⟨lb,lo,none⟩) T.length cap→g 1 = .int .i64 i2→g 8 = .pointer (some ⟨b1,0,none⟩)→g 11 = .pointer (some ⟨b20,0,none⟩)→qS q 200000→Below w.heap.size w w9→RV w9 q (.agg #[.bool q.1,.slice a q.2.1.length c,.slice a' q.2.2.length c'])→Bx w9 b1 #[.int .i64 0,.string ⟨#[]⟩,.bool false,.slice none 0 0,.slice none 0 0,.slice none 0 0,.int .i64 0] 30→Bx w9 b20 #[.int .i64 kn,.string ⟨#[]⟩,.bool q.1,.slice a q.2.1.length c,.slice a' q.2.2.length c',.slice va xs.length vc,.int .i64 (zai T i).p] 30→w9.ownsRow N4 30 7 (.slice va xs.length vc) xs.length rows.flatten→NB w9 (.slice va xs.length vc)→RXs w9 (fun k=>N4≤k∧Value.ownBlock (.slice va xs.length vc)≠some k) rows xs→K8 g w9:=by
     clear hA0 hNs hB1 hB20 hown hnb hpl2 hrx g0 g1 g3 g8 g11 g45 g46 g47
     intro g w9 i2 q a a' c c' hi2 hE1 g0 g1 g8 g11 hqz hA0 hv hB1 hB20 hown hnb hrx
     rw [hE1] at hC
     simp only at hC
     apply hK8
     refine zzr fun K hK=>?_
     simp [go_sem,za0,za4,za1,g0,g8,g11,g1,hB1.cell,hB20.cell,g1]
     refine zzc rfl Tryz.call47 (fun R hR=>?_)
     simp [go_sem,za0,za4,za1,g0,g8,g11,g1,hB1.cell,hB20.cell,g1]
     refine (zdp (hsl.ext hA0) hT i2 hi2 sRP).mono ?_
     rintro e w72 ⟨rfl,hE72⟩
     refine ⟨_,rfl,hR _ _ ?_⟩
     clear hR R
     replace hA0:=hA0.next hE72
     replace hB1:=hB1.keep hE72
     replace hB20:=hB20.keep hE72
     replace hv:=hv.ext hE72
     replace hrx:=hrx.ext hE72
     replace hnb:=hnb.keep hE72
     replace hown:=zas hown hE72
     simp [go_sem,za0,za4,za1,g0,g8,g11,g1,hB1.cell,hB20.cell,g1]
     apply hK;clear hK K
     refine zab (fun K9 hK9=>?_)
     rcases zct (T:=T) sRP i2 0 with ⟨e1,_⟩|⟨e1,_⟩
     ·obtain ⟨n1,hn1⟩:∃ n1,n1=i2+1:=⟨_,rfl⟩
      rw [e1,←hn1] at hC ⊢
      simp only at hC
      have hC1:C = .ok (.mk kn [] q.1 q.2.1 q.2.2 xs (zai T i).p) n1:=hC
      refine zzr fun K hK=>?_
      simp [go_sem,za0,za4,za1,g0,g8,g11,g1,hB1.cell,hB20.cell,g1, zbB,zcu]
      apply hK;clear hK K
      refine zaf (t:=false) (by simp [go_sem,g0,g8,g11,g1,g1, zbB,zcu]) rfl ?_
      refine za7 ?_
      apply hK9
      refine zzr fun K hK=>?_
      simp [go_sem,za0,za4,za1,g0,g8,g11,g1,hB1.cell,hB20.cell,g1]
      refine zzs (b:=b1) (off:=0) [.int .i64 kn,.string ⟨#[]⟩,.bool q.1,.slice a q.2.1.length c,.slice a' q.2.2.length c',.slice va xs.length vc,.int .i64 (zai T i).p] rfl zaC hB1 (fun w73 hS73 hB73=>?_) (by simp [go_sem,Value.cells,g0,g8,g11,g1,g1])
      simp [zaw] at hB73
      replace hA0:=hA0.nextS hS73 (by first|exact hb1_0|omega)
      replace hv:=hv.ch (Ch.of_sto hS73 (NL.of_bx hB1 (by intro u hu x e;subst e;simp at hu)))
      replace hrx:=hrx.ch (Ch.of_sto hS73 (NL.of_bx hB1 (by intro u hu x e;subst e;simp at hu))) (by intro k hk e;subst e;first|exact hk.2 rfl|omega)
      replace hnb:=zdf hnb hown hS73 (by omega)
      replace hown:=zbu hown hS73 (by omega)
      replace hB20:=hB20.sto hS73 (by first|exact hd20_1|exact (hd1_20).symm)
      simp [go_sem,za0,za4,za1,g0,g8,g11,g1,hB20.cell,g1,hB73.cell]
      apply hK;clear hK K
      refine zad ?_
      repeat first|refine za3 ?_|refine za2 ?_
      rw [hC1]
      have hwN4:w.heap.size≤N4:=Nat.le_trans hwN3 hN34
      have hex:=own_exs (F:=fun k=>w.heap.size≤k) hown (hrx.mono (fun k hk=>Nat.le_trans hwN4 hk.1)) (by unfold maxLen;omega) (fun k hk=>Nat.le_trans hwN4 hk)
      refine ⟨by simp [go_sem,zaD,zam,za4,za1,za0,hB73.cell,g8],?_⟩
      obtain ⟨_,_,_,_,he,r1,r2⟩:=hv
      simp only [Value.agg.injEq] at he
      injection he with he
      simp only [List.cons.injEq,Value.slice.injEq,Value.bool.injEq,and_true,true_and] at he
      obtain ⟨⟨rfl,rfl⟩,⟨rfl,rfl⟩⟩:=he
      refine ⟨_,?_,EX.mk (cap:=vc) r1 r2 ⟨by have:=hqz.1;unfold maxLen;omega,by have:=hqz.2;unfold maxLen;omega⟩ hex.sl hex.fs hex.len (Nat.zero_le _) hex.max hex.he,hA0⟩
      simp [go_sem,zar,zam,za4,za1,za0,hB73.cell,resX,zbB,zcu,g8]
     ·rw [e1] at hC ⊢
      have hC1:C = .er i2 5:=hC
      refine zzr fun K hK=>?_
      simp [go_sem,za0,za4,za1,g0,g8,g11,g1,hB1.cell,hB20.cell,g1, zbB,zcu]
      apply hK;clear hK K
      refine zaf (t:=true) (by simp [go_sem,g0,g8,g11,g1,g1,zbB,zcu]) rfl ?_
      refine zzr fun K hK=>?_
      simp [go_sem,za0,za4,za1,g0,g8,g11,g1,hB1.cell,hB20.cell,g1]
      refine zal #[.int .i64 0,.string ⟨#[]⟩,.bool false,.slice none 0 0,.slice none 0 0,.slice none 0 0,.int .i64 0] (by simp [go_sem]) rfl zbI [] (by simp [go_sem]) rfl ?_
      simp [go_sem,za0]
      refine zzs (b:=b1) (off:=0) [.int .i64 0,.string ⟨#[]⟩,.bool false,.slice none 0 0,.slice none 0 0,.slice none 0 0,.int .i64 0] rfl zaC hB1 (fun w74 hS74 hB74=>?_) (by simp [go_sem,Value.cells,g0,g8,g11,g1,g1])
      simp [zaw] at hB74
      replace hA0:=hA0.nextS hS74 (by first|exact hb1_0|omega)
      replace hv:=hv.ch (Ch.of_sto hS74 (NL.of_bx hB1 (by intro u hu x e;subst e;simp at hu)))
      replace hB20:=hB20.sto hS74 (by first|exact hd20_1|exact (hd1_20).symm)
      simp [go_sem,za0,za4,za1,g0,g8,g11,g1,hB20.cell,g1,hB74.cell]
      apply hK;clear hK K
      refine zad ?_
      repeat first|refine za3 ?_|refine za2 ?_
      rw [hC1]
      refine ⟨by simp [go_sem,zaD,zam,za4,za1,za0,hB74.cell,g8],?_⟩
      refine ⟨_,?_,EX.ex0 _ _ _ rfl,hA0⟩
      simp [go_sem,zar,zam,za4,za1,za0,hB74.cell,resX,zbB,zcu,g8]
    refine zzr fun K hK=>?_
    simp [go_sem,za0,za4,za1,g0,g3,g8,g11,hB1.cell,hB20.cell,g45,g46,g47,g1]
    refine zzc rfl Tryz.call64 (fun R hR=>?_)
    simp [go_sem,za0,za4,za1,g0,g3,g8,g11,hB1.cell,hB20.cell,g45,g46,g47,g1]
    refine (rhas_any kn _).mono ?_
    rintro e w80 ⟨rfl,hE80⟩
    refine ⟨_,rfl,hR _ _ ?_⟩
    clear hR R
    replace hA0:=hA0.next hE80
    replace hB1:=hB1.keep hE80
    replace hB20:=hB20.keep hE80
    replace hpl2:=hpl2.ext hE80
    replace hrx:=hrx.ext hE80
    replace hnb:=hnb.keep hE80
    replace hown:=zas hown hE80
    simp [go_sem,za0,za4,za1,g0,g3,g8,g11,hB1.cell,hB20.cell,g45,g46,g47,g1]
    apply hK;clear hK K
    have hN80:N4≤w80.heap.size:=Nat.le_trans hNs hE80.size
    by_cases hr:hasR kn=true
    ·refine zaf (t:=true) (by simp [go_sem,g0,g3,g8,g11,g45,g46,g47,g1,hr]) rfl ?_
     refine zzr fun K hK=>?_
     simp [go_sem,za0,za4,za1,g0,g3,g8,g11,hB1.cell,hB20.cell,g45,g46,g47,g1]
     refine zzc rfl Tryz.call65 (fun R hR=>?_)
     simp [go_sem,za0,za4,za1,g0,g3,g8,g11,hB1.cell,hB20.cell,g45,g46,g47,g1]
     refine (rratio_any (hsl.ext hA0) hW i' hi').mono ?_
     rintro e w81 ⟨a,a',c,c',rfl,hv,hqs,hE81⟩
     refine ⟨_,rfl,hR _ _ ?_⟩
     clear hR R
     replace hA0:=hA0.next hE81
     replace hB1:=hB1.keep hE81
     replace hB20:=hB20.keep hE81
     replace hpl2:=hpl2.ext hE81
     replace hrx:=hrx.ext hE81
     replace hnb:=hnb.keep hE81
     replace hown:=zas hown hE81
     obtain ⟨rr,hrr⟩:∃ rr,rr=ratS T i':=⟨_,rfl⟩
     have hrl:=rat_lt hW hi'
     have hra:=rat_agr hW (i:=i') (a0:=0)
     rw [←hrr] at hv hqs hrl hra ⊢
     have hN81:N4≤w81.heap.size:=Nat.le_trans hN80 hE81.size
     obtain ⟨q,hq⟩:∃ q,q=resQ rr:=⟨_,rfl⟩
     rw [←hq] at hv hqs ⊢
     have hownD:=hown
     replace hrx:=hrx.blt
     simp [go_sem,za0,za4,za1,g0,g3,g8,g11,hB1.cell,hB20.cell,g45,g46,g47,g1]
     refine zza rfl zb2 (fun w90 b90 hE90 hle90 hB90=>?_)
     have hb90_0:=Nat.le_trans hA0.size hle90
     have hd1_90:b1≠b90:=Nat.ne_of_lt (Nat.lt_of_lt_of_le hB1.lt hle90)
     have hd20_90:b20≠b90:=Nat.ne_of_lt (Nat.lt_of_lt_of_le hB20.lt hle90)
     replace hA0:=hA0.next hE90
     replace hB1:=hB1.keep hE90
     replace hB20:=hB20.keep hE90
     replace hv:=hv.ext hE90
     replace hpl2:=hpl2.ext hE90
     replace hrx:=hrx.ext hE90
     simp [go_sem,za0,za4,za1,g0,g3,g8,g11,hB1.cell,hB20.cell,g45,g46,g47,g1,hB90.cell]
     replace hown:=zas hown hE90
     replace hnb:=hnb.keep hE90
     refine zzs (b:=b90) (off:=0) [.bool q.1,.slice a q.2.1.length c,.slice a' q.2.2.length c'] rfl zax hB90 (fun w91 hS91 hB91=>?_) (by simp [go_sem,Value.cells])
     simp [zaw] at hB91
     replace hnb:=hnb.grown (zaS hS91) (.inr fun e=>by have:=(hownD.lt b90 e).2;omega)
     replace hown:=zdV hown hS91 (fun e=>by have:=(hownD.lt b90 e).2;omega)
     replace hrx:=hrx.ch (Ch.of_sto hS91 (NL.of_bx hB90 (by intro u hu x e;subst e;simp at hu))) (fun k hk e=>by have:=hk.2;omega)
     replace hv:=hv.ch (Ch.of_sto hS91 (NL.of_bx hB90 (by intro u hu x e;subst e;simp at hu)))
     replace hA0:=hA0.nextS hS91 (by have:=hA0.size;omega)
     replace hB1:=hB1.sto hS91 (by omega)
     replace hB20:=hB20.sto hS91 (by omega)
     replace hrx:=hrx.mono (fun k hk=>hk.1)
     simp [go_sem,za0,za4,za1,g0,g3,g8,g11,g45,g46,g47,g1,hB1.cell,hB20.cell,hB91.cell]
     apply hK;clear hK K
     refine zab (fun K10 hK10=>?_)
     cases rr with
     | er j2 e2 =>
      have he2:¬e2=0:=hra.1
      rw [endS0_er hr hrr.symm] at hC
      have hC1:C = .er j2 e2:=hC
      refine zzr fun K hK=>?_
      simp [go_sem,za0,za4,za1,g0,g3,g8,g11,g45,g46,g47,g1,hB1.cell,hB20.cell,hB91.cell, zbB,zcu,he2]
      apply hK;clear hK K
      refine zaf (t:=true) (by simp [go_sem,g0,g3,g8,g11,g45,g46,g47,g1,zbB,zcu,he2]) rfl ?_
      refine zzr fun K hK=>?_
      simp [go_sem,za0,za4,za1,g0,g3,g8,g11,g45,g46,g47,g1,hB1.cell,hB20.cell,hB91.cell]
      refine zal #[.int .i64 0,.string ⟨#[]⟩,.bool false,.slice none 0 0,.slice none 0 0,.slice none 0 0,.int .i64 0] (by simp [go_sem]) rfl zbI [] (by simp [go_sem]) rfl ?_
      simp [go_sem,za0]
      refine zzs (b:=b1) (off:=0) [.int .i64 0,.string ⟨#[]⟩,.bool false,.slice none 0 0,.slice none 0 0,.slice none 0 0,.int .i64 0] rfl zaC hB1 (fun w100 hS100 hB100=>?_) (by simp [go_sem,Value.cells,g0,g3,g8,g11,g45,g46,g47,g1])
      simp [zaw] at hB100
      replace hA0:=hA0.nextS hS100 (by first|exact hb1_0|omega)
      replace hB20:=hB20.sto hS100 (by first|exact hd20_1|exact (hd1_20).symm)
      replace hB91:=hB91.sto hS100 (by first|exact hd90_1|exact (hd1_90).symm)
      simp [go_sem,za0,za4,za1,g0,g3,g8,g11,g45,g46,g47,g1,hB20.cell,hB91.cell,hB100.cell]
      apply hK;clear hK K
      refine zad ?_
      repeat first|refine za3 ?_|refine za2 ?_
      rw [hC1]
      refine ⟨by simp [go_sem,zaD,zam,za4,za1,za0,hB100.cell,g8],?_⟩
      refine ⟨_,?_,EX.ex0 _ _ _ rfl,hA0⟩
      simp [go_sem,zar,zam,za4,za1,za0,hB100.cell,resX,zbB,zcu,g8]
     | ok y j2 =>
      have hj2:j2<T.length:=hrl
      refine zzr fun K hK=>?_
      simp [go_sem,za0,za4,za1,g0,g3,g8,g11,g45,g46,g47,g1,hB1.cell,hB20.cell,hB91.cell, zbB,zcu]
      apply hK;clear hK K
      refine zaf (t:=false) (by simp [go_sem,g0,g3,g8,g11,g45,g46,g47,g1, zbB,zcu]) rfl ?_
      refine za7 ?_
      apply hK10
      refine zzr fun K hK=>?_
      simp [go_sem,za0,za4,za1,g0,g3,g8,g11,g45,g46,g47,g1,hB1.cell,hB20.cell,hB91.cell]
      refine zzs (b:=b20) (off:=2) [.bool q.1,.slice a q.2.1.length c,.slice a' q.2.2.length c'] rfl zax hB20 (fun w110 hS110 hB110=>?_) (by simp [go_sem,Value.cells,g0,g3,g8,g11,g45,g46,g47,g1])
      simp [zaw] at hB110
      replace hA0:=hA0.nextS hS110 (by first|exact hb20_0|omega)
      replace hv:=hv.ch (Ch.of_sto hS110 (NL.of_bx hB20 (by intro u hu x e;subst e;simp at hu)))
      replace hrx:=hrx.ch (Ch.of_sto hS110 (NL.of_bx hB20 (by intro u hu x e;subst e;simp at hu))) (by intro k hk e;subst e;first|exact hk.2 rfl|omega)
      replace hnb:=zdf hnb hown hS110 (by omega)
      replace hown:=zbu hown hS110 (by omega)
      replace hB1:=hB1.sto hS110 (by first|exact hd1_20|exact (hd20_1).symm)
      replace hB91:=hB91.sto hS110 (by first|exact hd90_20|exact (hd20_90).symm)
      simp [go_sem,za0,za4,za1,g0,g3,g8,g11,g45,g46,g47,g1,hB1.cell,hB91.cell,hB110.cell]
      apply hK;clear hK K
      refine zzt fun K hK=>?_
      simp [go_sem,za0,za4,za1,g0,g3,g8,g11,g45,g46,g47,g1,hB1.cell,hB91.cell,hB110.cell]
      apply hK;clear hK K
      refine tail3 _ _ j2 q a a' c c' hj2 (by rw [hq];exact endS0_ok hr hrr.symm) (by simp [go_sem,g0]) (by simp [go_sem]) (by simp [go_sem,g8]) (by simp [go_sem,g11]) hqs hA0 hv hB1 hB110 hown hnb hrx
    ·have he0:endS0 T kn i' = .ok r30 i':=endS0_no hr
     refine zaf (t:=false) (by simp [go_sem,g0,g3,g8,g11,g45,g46,g47,g1,hr]) rfl ?_
     refine za7 ?_
     refine tail3 _ _ i' r30 none none 0 0 hi' he0 (by simp [go_sem,g0]) (by simp [go_sem,g1]) (by simp [go_sem,g8]) (by simp [go_sem,g11]) ⟨Nat.zero_le _,Nat.zero_le _⟩ hA0 (RV.nil _) hB1 hB20 hown hnb hrx
end Go.Proofs.YtefhenfofomjhaaGreat
