/- The lexer, seventh part: what the statements' own functions compute; LexerPrefixes. -/
import Derived.Test.YtefhenfofomjhaaGreatPt7
import Derived.Test.YtefhenfofomjhaaGreatVF
import Derived.Test.YtefhenfofomjhaaGreatEv1
set_option linter.unusedSimpArgs false
set_option linter.unusedVariables false
set_option maxHeartbeats 4000000
set_option maxRecDepth 20000
namespace Go.Proofs.YtefhenfofomjhaaGreat
open Go Go.RowKit Go.V
structure RXs (w:World) (F:Nat→Prop) (rows:List (List Value)) (xs:List Tre):Prop where
 len:rows.length=xs.length
 he:∀ (i:Nat) (R:List Value) (x:Tre),rows[i]? = some R→xs[i]? = some x→EX w F R x
theorem RXs.nil (w:World) (F:Nat→Prop):RXs w F [] []:=⟨rfl,fun i R x h=>by simp at h⟩
theorem RXs.ch {w w':World} {F S:Nat→Prop} {rows:List (List Value)} {xs:List Tre} (h:RXs w F rows xs) (hc:Ch w w' S) (hd:∀ k,F k→¬S k):RXs w' F rows xs:=⟨h.len,fun i R x hR hx=>(h.he i R x hR hx).ch hc hd⟩
theorem RXs.ext {w w':World} {F:Nat→Prop} {rows:List (List Value)} {xs:List Tre} (h:RXs w F rows xs) (hb:Below w.heap.size w w'):RXs w' F rows xs:=⟨h.len,fun i R x hR hx=>(h.he i R x hR hx).ext hb⟩
theorem RXs.mono {w:World} {F F':Nat→Prop} {rows:List (List Value)} {xs:List Tre} (h:RXs w F rows xs) (hF:∀ k,F k→F' k):RXs w F' rows xs:=⟨h.len,fun i R x hR hx=>(h.he i R x hR hx).mono hF⟩
theorem RXs.blt {w:World} {F:Nat→Prop} {rows:List (List Value)} {xs:List Tre} (h:RXs w F rows xs):RXs w (fun k=>F k∧k<w.heap.size) rows xs:=⟨h.len,fun i R x hR hx=>(h.he i R x hR hx).blt⟩
theorem RXs.snoc {w:World} {F:Nat→Prop} {rows:List (List Value)} {xs:List Tre} {R:List Value} {x:Tre} (h:RXs w F rows xs) (hx:EX w F R x):RXs w F (rows++[R]) (xs++[x]):=by
 refine ⟨by simp [h.len],fun i R' x' hR hx'=>?_⟩
 rcases Nat.lt_trichotomy i rows.length with hi|hi|hi
 ·rw [List.getElem?_append_left hi] at hR
  rw [List.getElem?_append_left (by rw [←h.len];exact hi)] at hx'
  exact h.he i R' x' hR hx'
 ·rw [List.getElem?_append_right (by omega)] at hR
  rw [List.getElem?_append_right (by rw [←h.len];omega)] at hx'
  rw [hi,Nat.sub_self] at hR
  rw [hi,h.len,Nat.sub_self] at hx'
  simp at hR hx'
  subst hR;subst hx'
  exact hx
 ·rw [List.getElem?_eq_none (by simp;omega)] at hR
  cases hR
theorem own_exs {w:World} {B t:Nat} {ad:Option Addr} {cap:Nat} {F:Nat→Prop} {rows:List (List Value)} {xs:List Tre} (h:w.ownsRow B t 7 (.slice ad xs.length cap) xs.length rows.flatten) (hx:RXs w (fun k=>F k) rows xs) (hm:xs.length≤maxLen) (hF:∀ k,B≤k→F k):EXS w F ad xs rows:=by
 refine ⟨zca h,fun a ha hn=>hF _ ?_,hx.len,hm,hx.he⟩
 subst ha
 exact (h.lt a.block rfl).1
structure SLF (w:World) (F:Nat→Prop) (a:Option Addr) (xs:List Value):Prop where
 sl:SL w a xs
 bl:Bl F a xs.length
theorem SLF.ch {w w':World} {F S:Nat→Prop} {a:Option Addr} {xs:List Value} (h:SLF w F a xs) (hc:Ch w w' S) (hd:∀ k,F k→¬S k):SLF w' F a xs:=⟨h.sl.ch h.bl hc hd,h.bl⟩
theorem SLF.ext {w w':World} {F:Nat→Prop} {a:Option Addr} {xs:List Value} (h:SLF w F a xs) (hb:Below w.heap.size w w'):SLF w' F a xs:=⟨h.sl.ext hb,h.bl⟩
theorem grown_own {w w1 w2:World} {r r':Option Nat} (h:w.grownBy w1 r) (hg:w1.grownBy w2 r') (hr:∀ k,r'=some k→w.heap.size≤k):w.grownBy w2 r :=
 ⟨hg.os.trans h.os,hg.tape.trans h.tape,hg.output.trans h.output,Nat.le_trans h.size hg.size,fun k hk hn=>(hg.block k (Nat.lt_of_lt_of_le hk h.size) (fun e=>by have:=hr k e.symm;omega)).trans (h.block k hk hn)⟩
theorem zcF {w w':World} {B e size n b:Nat} {v:Value} {xs:List Value} (h:w.ownsRow B e size v n xs) (hg:w.grownBy w' (some b)) (hb:b<B):w'.ownsRow B e size v n xs:=by
 refine ⟨h.1,?_⟩
 rcases h.2 with hn|⟨g,cap,cur,hv,hg1,hh,r⟩
 ·exact .inl hn
 ·exact .inr ⟨g,cap,cur,hv,hg1,by rw [hg.block g (Array.getElem?_eq_some_iff.1 hh).1 (fun e=>by injection e with e;omega)];exact hh,r⟩
theorem zbu {w w':World} {B e size n b:Nat} {v:Value} {xs:List Value} (h:w.ownsRow B e size v n xs) (hs:Sto w w' b) (hb:b<B):w'.ownsRow B e size v n xs:=zdV h hs (fun e=>by have:=(h.lt b e).1;omega)
theorem zdO {w w':World} {B e size n b:Nat} {v:Value} {xs:List Value} (hn:NB w v) (h:w.ownsRow B e size v n xs) (hg:w.grownBy w' (some b)) (hb:b<B):NB w' v:=hn.grown hg (.inr fun e=>by have:=(h.lt b e).1;omega)
theorem zdf {w w':World} {B e size n b:Nat} {v:Value} {xs:List Value} (hn:NB w v) (h:w.ownsRow B e size v n xs) (hs:Sto w w' b) (hb:b<B):NB w' v:=hn.grown (zaS hs) (.inr fun e=>by have:=(h.lt b e).1;omega)
def ArgPost (w:World) (b:Nat) (tb:TypeId) (la:Option Addr) (cap:Nat) (T:List Tok) (p:PSt × Tre) (e:Ending) (w':World):Prop :=
 ∃ (R:List Value) (x:Tre),e = .returned (.agg R.toArray)∧EX w' (fun k=>w.heap.size≤k) R x∧(p.1.er=0→x=p.2)∧PSS w' b tb la cap T p.1∧w.grownBy w' (some b)
theorem con_any {b tb cap f:Nat} {la:Option Addr} {T:List Tok} (hW:Wf T) (d:Int) (hd:0≤d∧d≤20)
  (harg:∀ (w:World) (s:PSt) (sort:Int),0≤sort∧sort≤3→PSS w b tb la cap T s→Calls Tryz.prog 31 #[.pointer (some ⟨b,0,none⟩),.int .i64 (d+1),.int .i64 sort] w (ArgPost w b tb la cap T (argP T f sort s)))
  {w:World} {s:PSt} (h:PSS w b tb la cap T s) (sa:Option Addr) (sc:Nat) (sorts:List Int) (hs:SL w sa (intC sorts)) (hn:sorts.length≤10) :
  Calls Tryz.prog 14 #[.pointer (some ⟨b,0,none⟩),.int .i64 d,.slice sa sorts.length sc] w (ArgPost w b tb la cap T (conP T (argP T f) sorts s)):=by
 have hT:T.length≤maxLen:=by have:=hW.size;unfold maxLen;omega
 obtain ⟨C,hC⟩:∃ C,C=conP T (argP T f) sorts s:=⟨_,rfl⟩
 rw [←hC]
 obtain ⟨kn,hK0⟩:∃ kn,kn=zdU T sorts s:=⟨_,rfl⟩
 have hwd:IntKind.i64.wrap (d+1)=d+1:=IntWalk.i64_in _ (by omega)
 refine za5 (rs:=[.cell 6 30]) (n:=86) Tryz.func14 rfl rfl rfl (by kernel_rfl) ?_
 have hP:=h
 have hG:w.grownBy w (some b):=zaa (Below.refl _ _)
 have hb0:=h.lt'
 have hla0:=h.lab
 refine zzr fun K hK=>?_
 simp [go_sem,za0,za4,za1]
 refine zza rfl zbY (fun w1 b1 hE1 hle1 hB1=>?_)
 have hwb1:_≤b1:=Nat.le_trans hG.size hle1
 replace hG:=hG.trans (zaa hE1)
 replace hP:=hP.ext hE1
 simp [go_sem,za0,za4,za1,hB1.cell]
 replace hs:=hs.ext hE1
 apply hK;clear hK K
 refine zzr fun K hK=>?_
 simp [go_sem,za0,za4,za1,hB1.cell]
 refine zzc rfl Tryz.call28 (fun R hR=>?_)
 simp [go_sem,za0,za4,za1,hB1.cell]
 refine (kindS_any hP hW sa sc sorts hs hn).mono ?_
 rintro e w2 ⟨rfl,hE2⟩
 refine ⟨_,rfl,hR _ _ ?_⟩
 clear hR R
 replace hB1:=hB1.keep hE2
 replace hG:=hG.trans (zaa hE2)
 replace hP:=hP.ext hE2
 simp [go_sem,za0,za4,za1,hB1.cell]
 rw [←hK0]
 apply hK;clear hK K
 refine zab (fun K1 hK1=>?_)
 refine zzr fun K hK=>?_
 simp [go_sem,za0,za4,za1,hB1.cell]
 apply hK;clear hK K
 by_cases hKz:kn=0
 ·have hC1:C=(zbN T 5 s,ex0):=by rw [hC];unfold conP;rw [if_pos (by rw [←hK0];exact hKz)]
  refine zaf (t:=true) (by simp [go_sem,hKz]) rfl ?_
  refine zzr fun K hK=>?_
  simp [go_sem,za0,za4,za1,hB1.cell]
  refine zzc rfl Tryz.call16 (fun R hR=>?_)
  simp [go_sem,za0,za4,za1,hB1.cell]
  refine (zdG hP hW 5).mono ?_
  rintro e w3 ⟨rfl,hQ3,hg3⟩
  refine ⟨_,rfl,hR _ _ ?_⟩
  clear hR R
  replace hB1:=hB1.grown hg3 (by intro e;injection e with e;omega)
  replace hP:=hQ3
  replace hG:=hG.trans hg3
  clear hQ3
  simp [go_sem,za0,za4,za1,hB1.cell]
  apply hK;clear hK K
  refine zzr fun K hK=>?_
  simp [go_sem,za0,za4,za1,hB1.cell]
  refine zal #[.int .i64 0,.string ⟨#[]⟩,.bool false,.slice none 0 0,.slice none 0 0,.slice none 0 0,.int .i64 0] (by simp [go_sem]) rfl zbI [] (by simp [go_sem]) rfl ?_
  simp [go_sem,za0]
  refine zzs (b:=b1) (off:=0) [.int .i64 0,.string ⟨#[]⟩,.bool false,.slice none 0 0,.slice none 0 0,.slice none 0 0,.int .i64 0] rfl zaC hB1 (fun w4 hS4 hB4=>?_) (by simp [go_sem,Value.cells])
  simp [zaw] at hB4
  replace hG:=zan hG hS4 hwb1
  replace hP:=hP.sto hS4 (by omega) (fun ad ha=>by have:=hla0 ad ha;omega)
  simp [go_sem,za0,za4,za1,hB4.cell]
  apply hK;clear hK K
  refine zad ?_
  repeat first|refine za3 ?_|refine za2 ?_
  subst hC1
  refine ⟨by simp [go_sem,zaD,zam,za4,za1,za0,hB4.cell],?_⟩
  refine ⟨_,ex0,?_,EX.ex0 _ _ _ rfl,fun _=>rfl,hP,hG⟩
  simp [go_sem,zar,zam,za4,za1,za0,hB4.cell]
 ·obtain ⟨hpne,hpr,hpl,hk1,hk2,her,htk⟩:=kindP_pars hW (sorts:=sorts) (s:=s) (by rw [←hK0];exact hKz)
  rw [←hK0] at hpne hpr hpl hk1 hk2
  obtain ⟨i,a0,er⟩:=s
  simp only at her htk
  subst her
  have hi:i<T.length:=h.lt
  have hlt:=hW.next h.lt (show (zai T i).k≠0 by rw [htk];decide)
  have hw1:IntKind.i64.wrap ((i:Int)+1)=(i+1:Nat):=by rw [IntWalk.i64_in _ (by unfold maxLen at hT;omega)];omega
  refine zaf (t:=false) (by simp [go_sem, hKz]) rfl ?_
  refine za7 ?_
  apply hK1
  refine zzr fun K hK=>?_
  simp [go_sem,za0,za4,za1,hB1.cell]
  refine zzc rfl Tryz.call13 (fun R hR=>?_)
  simp [go_sem,za0,za4,za1,hB1.cell,zcV]
  refine (zcd hP hT).mono ?_
  rintro e w5 ⟨rfl,hE5⟩
  refine ⟨_,rfl,hR _ _ ?_⟩
  clear hR R
  replace hB1:=hB1.keep hE5
  replace hG:=hG.trans (zaa hE5)
  replace hP:=hP.ext hE5
  simp [go_sem,za0,za4,za1,hB1.cell,zcV]
  refine zal #[.int .i64 kn,.string ⟨#[]⟩,.bool false,.slice none 0 0,.slice none 0 0,.slice none 0 0,.int .i64 (zai T i).p] (by simp [go_sem]) rfl zbI [(0,.int .i64 kn),(4,.int .i64 (zai T i).p)] (by simp [go_sem]) rfl ?_
  simp [go_sem,za0]
  refine zza rfl zbY (fun w20 b20 hE20 hle20 hB20=>?_)
  have hwb20:_≤b20:=Nat.le_trans hG.size hle20
  have hd1_20:b1≠b20:=Nat.ne_of_lt (Nat.lt_of_lt_of_le hB1.lt hle20)
  replace hB1:=hB1.keep hE20
  replace hG:=hG.trans (zaa hE20)
  replace hP:=hP.ext hE20
  simp [go_sem,za0,za4,za1,hB1.cell,hB20.cell]
  refine zzs (b:=b20) (off:=0) [.int .i64 kn,.string ⟨#[]⟩,.bool false,.slice none 0 0,.slice none 0 0,.slice none 0 0,.int .i64 (zai T i).p] rfl zaC hB20 (fun w21 hS21 hB21=>?_) (by simp [go_sem,Value.cells])
  simp [zaw] at hB21
  replace hG:=zan hG hS21 hwb20
  replace hP:=hP.sto hS21 (by omega) (fun ad ha=>by have:=hla0 ad ha;omega)
  replace hB1:=hB1.sto hS21 (by first|exact hd1_20|exact (hd20_1).symm)
  simp [go_sem,za0,za4,za1,hB1.cell,hB21.cell]
  apply hK;clear hK K
  obtain ⟨k0,k1,k2,k3⟩:=PS.cells hP
  refine zzr fun K hK=>?_
  simp [go_sem,za0,za4,za1,hB1.cell,hB21.cell, k1,hw1]
  have hbx22:=hP.bx
  refine zzs (b:=b) (off:=1) [.int .i64 ((i+1:Nat):Int)] rfl zaQ hbx22 (fun w22 hS22 hB22=>?_) (by simp [go_sem,Value.cells,k1,hw1])
  simp [zaw] at hB22
  have hQ22:PSS w22 b _ la cap T ⟨i+1,a0,0⟩:=PS.next hP (zaS hS22) (by simpa using hB22) hlt
  replace hB1:=hB1.sto hS22 (by omega)
  replace hB21:=hB21.sto hS22 (by omega)
  replace hG:=hG.trans (zaS hS22)
  replace hP:=hQ22
  clear hQ22 hbx22 hS22
  simp [go_sem,za0,za4,za1,hB1.cell,hB21.cell,k1,hw1]
  apply hK;clear hK K
  refine zzr fun K hK=>?_
  simp [go_sem,za0,za4,za1,hB1.cell,hB21.cell]
  refine zzc rfl Tryz.call29 (fun R hR=>?_)
  simp [go_sem,za0,za4,za1,hB1.cell,hB21.cell]
  refine (zdH hP hW sLP).mono ?_
  rintro e w23 ⟨rfl,hQ23,hg23⟩
  refine ⟨_,rfl,hR _ _ ?_⟩
  clear hR R
  replace hB1:=hB1.grown hg23 (by intro e;injection e with e;omega)
  replace hB21:=hB21.grown hg23 (by intro e;injection e with e;omega)
  replace hP:=hQ23
  replace hG:=hG.trans hg23
  clear hQ23
  simp [go_sem,za0,za4,za1,hB1.cell,hB21.cell]
  apply hK;clear hK K
  obtain ⟨s0,hs0⟩:∃ s0,s0=zc8 T sLP ⟨i+1,a0,0⟩:=⟨_,rfl⟩
  rw [←hs0] at hP
  obtain ⟨Z,hZ⟩:∃ Z,Z=argsP T (argP T f) true (zc6 kn) s0:=⟨_,rfl⟩
  have hbN3:=hP.lt'
  have h1N3:=hB1.lt
  have h20N3:=hB21.lt
  obtain ⟨N3,hN3⟩:∃ N,N=w23.heap.size:=⟨_,rfl⟩
  rw [←hN3] at hbN3 h1N3 h20N3
  have hwN3:w.heap.size≤N3:=by rw [hN3];exact hG.size
  refine zab (fun K2 hK2=>?_)
  refine zzr fun K hK=>?_
  simp [go_sem,za0,za4,za1,hB1.cell,hB21.cell]
  refine zzc rfl Tryz.call30 (fun R hR=>?_)
  simp [go_sem,za0,za4,za1,hB1.cell,hB21.cell]
  refine (params_any kn hk1 hk2 _).mono ?_
  rintro e w24 ⟨pa,pc,rfl,hps,hpb,hE24⟩
  refine ⟨_,rfl,hR _ _ ?_⟩
  clear hR R
  replace hB1:=hB1.keep hE24
  replace hB21:=hB21.keep hE24
  replace hG:=hG.trans (zaa hE24)
  replace hP:=hP.ext hE24
  have hN34:N3≤w24.heap.size:=by rw [hN3];exact hE24.size
  have hpl2:SLF w24 (fun k=>N3≤k∧k<w24.heap.size) pa (intC (zc6 kn)):=⟨hps,fun ad ha hn=>⟨by rw [hN3];exact hpb ad ha,hps.blt ad ha hn⟩⟩
  obtain ⟨N4,hN4⟩:∃ N,N=w24.heap.size:=⟨_,rfl⟩
  rw [←hN4] at hpl2 hN34
  clear hps hpb
  simp [go_sem,za0,za4,za1,hB1.cell,hB21.cell]
  apply hK;clear hK K
  obtain ⟨ps,hps0⟩:∃ ps,ps=zc6 kn:=⟨_,rfl⟩
  rw [←hps0] at hpne hpr hpl hpl2 hZ ⊢
  refine zac ?_
  refine zaz (fun m' g w'=>∃ (j:Nat) (s':PSt) (v:Value) (rows:List (List Value)) (xs:List Tre),j≤ps.length∧m'=ps.length-j∧PSS w' b tb la cap T s'∧w.grownBy w' (some b)∧N4≤w'.heap.size∧Bx w' b1 #[.int .i64 0,.string ⟨#[]⟩,.bool false,.slice none 0 0,.slice none 0 0,.slice none 0 0,.int .i64 0] 30∧Bx w' b20 #[.int .i64 kn,.string ⟨#[]⟩,.bool false,.slice none 0 0,.slice none 0 0,v,.int .i64 (zai T i).p] 30 ∧
    w'.ownsRow N4 30 7 v j rows.flatten∧NB w' v∧SLF w' (fun k=>N3≤k∧k<N4) pa (intC ps)∧RXs w' (fun k=>N4≤k∧v.ownBlock≠some k) rows xs∧xs.length=j∧Z.1=(argsP T (argP T f) (decide (j=0)) (ps.drop j) s').1∧(s'.er=0→Z.2=xs++(argsP T (argP T f) (decide (j=0)) (ps.drop j) s').2) ∧
    g 0 = .pointer (some ⟨b,0,none⟩)∧g 1 = .int .i64 d∧g 6 = .pointer (some ⟨b1,0,none⟩)∧g 7 = .int .i64 kn∧g 8 = .pointer (some ⟨b20,0,none⟩)∧g 42 = .slice pa ps.length pc∧g 43 = .int .i64 ps.length∧g 44 = .int .i64 j) ps.length ?_ ?_
  ·exact ⟨0,s0,.slice none 0 0,[],[],Nat.zero_le _,rfl,hP,hG,by rw [hN4];exact Nat.le_refl _,hB1,hB21,World.ownsRow_nil _ _ _ _,NB.nil _,hpl2,RXs.nil _ _,rfl,by rw [hZ];rfl,fun _=>by rw [hZ];rfl,by simp [go_sem],by simp [go_sem],by simp [go_sem],by simp [go_sem],by simp [go_sem],by simp [go_sem],by simp [go_sem],by simp [go_sem]⟩
  clear hP hG hB1 hB21 hpl2
  rintro m' g w' ⟨j,s',v,rows,xs,hj,rfl,hP,hG,hNs,hB1,hB20,hown,hnb,hpl2,hrx,hxl,hz1,hz2,g0,g1,g6,g7,g8,g42,g43,g44⟩
  obtain ⟨va,vc,rfl⟩:=zbf hown
  refine zzr fun K hK=>?_
  simp [go_sem,za0,za4,za1,hB1.cell,hB20.cell,g0,g1,g6,g7,g8,g42,g43,g44]
  apply hK;clear hK K
  refine zab (fun K3 hK3=>?_)
  by_cases hlt:j<ps.length
  ·have c1:(j:Int)<ps.length:=by omega
   have hw2:IntKind.i64.wrap ((j:Int)+1)=(j+1:Nat):=zzw (by omega)
   obtain ⟨q1,q2⟩:=hpl2.sl.getD (j:=j) (by simp [intC];omega)
   rw [intC_at hlt] at q1
   have hpi:0≤ps.getD j 0∧ps.getD j 0≤3:=hpr _ (by rw [List.getD_eq_getElem?_getD,List.getElem?_eq_getElem hlt];exact List.getElem_mem hlt)
   have hdr:ps.drop j=ps.getD j 0::ps.drop (j+1):=by rw [List.drop_eq_getElem_cons hlt,List.getD_eq_getElem?_getD,List.getElem?_eq_getElem hlt];rfl
   rw [hdr] at hz1 hz2
   simp only [argsP] at hz1 hz2
   generalize ps.getD j 0=p at *
   refine zaf (t:=true) (by simp [go_sem,g0,g1,g6,g7,g8,g42,g43,g44,c1,hlt]) rfl ?_
   refine za7 ?_
   apply hK3
   refine zab (fun K4 hK4=>?_)
   refine zac ?_
   refine zzr fun K hK=>?_
   simp [go_sem,za0,za4,za1,hB1.cell,hB20.cell,g0,g1,g6,g7,g8,g42,g43,g44, c1,hlt,q1,q2]
   apply hK;clear hK K
   refine zab (fun K5 hK5=>?_)
   have tail:∀ (g:G) (w9:World) (s1:PSt),s1=(if decide (j=0)=true then s' else zc8 T sCM s')→g 0 = .pointer (some ⟨b,0,none⟩)→g 1 = .int .i64 d→g 6 = .pointer (some ⟨b1,0,none⟩)→g 7 = .int .i64 kn→g 8 = .pointer (some ⟨b20,0,none⟩)→g 42 = .slice pa ps.length pc→g 43 = .int .i64 ps.length→g 44 = .int .i64 j→g 10 = .int .i64 p→PSS w9 b tb la cap T s1→w.grownBy w9 (some b)→N4≤w9.heap.size→Bx w9 b1 #[.int .i64 0,.string ⟨#[]⟩,.bool false,.slice none 0 0,.slice none 0 0,.slice none 0 0,.int .i64 0] 30→Bx w9 b20 #[.int .i64 kn,.string ⟨#[]⟩,.bool false,.slice none 0 0,.slice none 0 0,.slice va j vc,.int .i64 (zai T i).p] 30→w9.ownsRow N4 30 7 (.slice va j vc) j rows.flatten→NB w9 (.slice va j vc)→SLF w9 (fun k=>N3≤k∧k<N4) pa (intC ps)→RXs w9 (fun k=>N4≤k∧Value.ownBlock (.slice va j vc)≠some k) rows xs→K5 g w9:=by
    clear hP hG hNs hB1 hB20 hown hnb hpl2 hrx g0 g1 g6 g7 g8 g42 g43 g44 q1 q2
    intro g w9 s1 hs1 g0 g1 g6 g7 g8 g42 g43 g44 g10 hP hG hNs hB1 hB20 hown hnb hpl2 hrx
    rw [←hs1] at hz1 hz2
    apply hK5
    have hD25:=Below.drew1 w9
    replace hB1:=hB1.keep hD25
    replace hB20:=hB20.keep hD25
    replace hG:=hG.trans (zaa hD25)
    replace hP:=hP.ext hD25
    replace hpl2:=hpl2.ext hD25
    replace hrx:=hrx.ext hD25
    replace hnb:=hnb.keep hD25
    replace hown:=zas hown hD25
    refine zeJ ([⟨b20,5,none⟩]) [(0,0),(1,0),(2,0),(3,0),(4,0),(5,0),(6,1),(7,1),(8,2),(9,0),(10,2)] (by kernel_rfl) (by kernel_rfl) (fun K hK=>?_)
    simp [go_sem,za0,za4,za1,g0,g1,g6,g7,g8,g42,g43,g44,hB1.cell,hB20.cell,g10,hwd]
    have hkp:Keep ([⟨b20,5,none⟩]) w9.drew w9.drew:=zdc _ _
    have hds:w9.heap.size≤w9.drew.heap.size:=(Below.drew1 w9).size
    have hownD:=hown
    refine zzc rfl Tryz.call31 (fun R hR=>?_)
    simp [go_sem,za0,za4,za1,g0,g1,g6,g7,g8,g42,g43,g44,hB1.cell,hB20.cell,g10,hwd]
    refine (harg _ s1 p hpi hP).mono ?_
    rintro e w30 ⟨Rx,x,rfl,hxe,hxv,hQ30,hg30⟩
    refine ⟨_,rfl,hR _ _ ?_⟩
    clear hR R
    replace hkp:=hkp.trans (Keep.grown (by intro a ha;simp only [List.mem_cons,List.not_mem_nil,or_false] at ha;rcases ha with rfl<;>exact ⟨by first|exact hB20.lt,(by intro e;injection e with e;simp at e;omega)⟩) hg30)
    replace hpl2:=hpl2.ch (hP.ch hg30) (by intro k hk e;subst e;first|omega|(have:=hk.1;omega))
    replace hrx:=hrx.ch (hP.ch hg30) (by intro k hk e;subst e;first|omega|(have:=hk.1;omega))
    replace hnb:=zdO hnb hown hg30 (by omega)
    replace hown:=zcF hown hg30 (by omega)
    replace hB1:=hB1.grown hg30 (by intro e;injection e with e;omega)
    replace hB20:=hB20.grown hg30 (by intro e;injection e with e;omega)
    replace hP:=hQ30
    replace hG:=hG.trans hg30
    clear hQ30
    refine zbb hkp ?_
    obtain ⟨xa,xc,xb,xd,xad,xcap,xrows,hRx,_⟩:=hxe.open
    subst hRx
    replace hxe:=hxe.mono (F':=fun k=>N4≤k∧Value.ownBlock (.slice va j vc)≠some k) (fun k hk=>⟨Nat.le_trans hNs (Nat.le_trans hds hk),fun e=>by have:=(hownD.lt k e).2;exact absurd hk (by omega)⟩)
    simp [go_sem,za0,za4,za1,g0,g1,g6,g7,g8,g42,g43,g44,hB1.cell,hB20.cell,g10,hwd]
    refine zak #[.int .i64 x.kind,.string ⟨x.name.toArray⟩,.bool x.neg,.slice xa x.num.length xc,.slice xb x.den.length xd,.slice xad x.args.length xcap,.int .i64 x.pos] (by simp [go_sem,za0,za4,za1,g0,g1,g6,g7,g8,g42,g43,g44,hB1.cell,hB20.cell,g10]) rfl ty_slZ28 (by decide) [(0,.agg #[.int .i64 x.kind,.string ⟨x.name.toArray⟩,.bool x.neg,.slice xa x.num.length xc,.slice xb x.den.length xd,.slice xad x.args.length xcap,.int .i64 x.pos])] (by simp [go_sem,za0,za4,za1,g0,g1,g6,g7,g8,g42,g43,g44,hB1.cell,hB20.cell,g10]) (by kernel_rfl) (fun w40 b40 hE40 hle40 hB40=>?_)
    replace hkp:=hkp.trans (Keep.below (by intro a ha;simp only [List.mem_cons,List.not_mem_nil,or_false] at ha;rcases ha with rfl<;>first|exact hB20.lt) hE40)
    have hwb40:_≤b40:=Nat.le_trans hG.size hle40
    have hd1_40:b1≠b40:=Nat.ne_of_lt (Nat.lt_of_lt_of_le hB1.lt hle40)
    have hd20_40:b20≠b40:=Nat.ne_of_lt (Nat.lt_of_lt_of_le hB20.lt hle40)
    replace hB1:=hB1.keep hE40
    replace hB20:=hB20.keep hE40
    replace hG:=hG.trans (zaa hE40)
    replace hP:=hP.ext hE40
    replace hpl2:=hpl2.ext hE40
    replace hrx:=hrx.ext hE40
    replace hxe:=hxe.ext hE40
    replace hnb:=hnb.keep hE40
    replace hown:=zas hown hE40
    refine zbb hkp ?_
    simp [go_sem,za0,za4,za1,g0,g1,g6,g7,g8,g42,g43,g44,hB1.cell,hB20.cell,g10,hB40.cell]
    have hN40:N4≤w40.heap.size:=Nat.le_trans hNs (Nat.le_trans hds (Nat.le_trans hg30.size hE40.size))
    refine zcn (v:=.slice va j vc) (b:=b40) (len:=1) (c:=1) hB40 (by simp [go_sem]) rfl ty_slZ28 ty_bytes30 rfl (by decide) (by simp [go_sem,za0,hB20.cell]) (by simp [go_sem]) hown rfl (by simp [Value.oneCell']) (by unfold maxLen;omega) (by omega) hN40 (by decide) (by intro u hu x e;subst e;simp at hu) (by intro u hu x e;subst e;simp at hu) hnb (fun v' w50 hown' hg50 hat50 hnb'=>?_)
    obtain ⟨va',vc',rfl⟩:=zbf hown'
    have hob:∀ k,(Value.ownBlock (.slice va j vc))=some k→N4≤k:=fun k e=>(hown.lt k e).1
    replace hrx:=((hrx.snoc hxe).blt).ch (Ch.of_grown hg50 (NL.of_nb hnb)) (fun k hk e=>hk.1.2 e)
    replace hrx:=hrx.mono (F':=fun k=>N4≤k∧Value.ownBlock (.slice va' (j+1) vc')≠some k) (fun k hk=>⟨hk.1.1,fun e=>by
     rcases hat50 with h|h
     ·exact hk.1.2 (h▸e)
     ·rw [h] at e;injection e with e;have:=hk.2;omega⟩)
    replace hpl2:=hpl2.ch (Ch.of_grown hg50 (NL.of_nb hnb)) (fun k hk e=>by have:=hob k e;have:=hk.2;omega)
    replace hP:=hP.grown hg50 (fun e=>by have:=hob b e.symm;omega) (fun ad ha e=>by have:=hob ad.block e.symm;have:=hla0 ad ha;omega)
    replace hG:=grown_own hG hg50 (fun k e=>by have:=hob k e;omega)
    replace hB1:=hB1.grown hg50 (fun e=>by have:=hob b1 e.symm;omega)
    have hkp2:=hkp.trans (Keep.grown (by intro a ha;simp only [List.mem_cons,List.not_mem_nil,or_false] at ha;subst ha;exact ⟨hB20.lt,fun e=>by have:=hob b20 e.symm;omega⟩) hg50)
    replace hB20:=hB20.grown hg50 (fun e=>by have:=hob b20 e.symm;omega)
    refine zde ?_
    simp [go_sem,za0,za4,za1,g0,g1,g6,g7,g8,g42,g43,g44,g10,hB1.cell,hB20.cell,hwd,hkp2]
    refine zzs (b:=b20) (off:=5) [.slice va' (j+1) vc'] rfl ty_size28 hB20 (fun w60 hS60 hB60=>?_) (by simp [go_sem,Value.cells,g0,g1,g6,g7,g8,g42,g43,g44,g10])
    simp [zaw] at hB60
    replace hpl2:=hpl2.ch (Ch.of_sto hS60 (NL.of_bx hB20 (by intro u hu x e;subst e;simp at hu))) (by intro k hk e;subst e;first|exact hk.2 rfl|omega)
    replace hrx:=hrx.ch (Ch.of_sto hS60 (NL.of_bx hB20 (by intro u hu x e;subst e;simp at hu))) (by intro k hk e;subst e;first|exact hk.2 rfl|omega)
    replace hnb':=zdf hnb' hown' hS60 (by omega)
    replace hown':=zbu hown' hS60 (by omega)
    replace hG:=zan hG hS60 hwb20
    replace hP:=hP.sto hS60 (by omega) (fun ad ha=>by have:=hla0 ad ha;omega)
    replace hB1:=hB1.sto hS60 (by first|exact hd1_20|exact (hd20_1).symm)
    refine zde ?_
    simp [go_sem,za0,za4,za1,g0,g1,g6,g7,g8,g42,g43,g44,g10,hB1.cell,hB60.cell]
    apply hK;clear hK K
    apply hK4
    have hN60:N4≤w60.heap.size:=by rw [hS60.size];exact Nat.le_trans hN40 hg50.size
    refine zzt fun K hK=>?_
    simp [go_sem,g44,hw2]
    have hse:(argP T f p s1).1.er=0→s'.er=0:=by
     intro e
     by_cases h0:s'.er=0
     ·exact h0
     ·exfalso
      have h1:s1=s':=by
       rw [hs1];split
       ·rfl
       ·exact zcs h0
      rw [h1,argP_bad h0] at e
      exact h0 e
    refine hK _ _ ⟨ps.length-(j+1),by omega,j+1,(argP T f p s1).1,.slice va' (j+1) vc',rows++[[.int .i64 x.kind,.string ⟨x.name.toArray⟩,.bool x.neg,.slice xa x.num.length xc,.slice xb x.den.length xd,.slice xad x.args.length xcap,.int .i64 x.pos]],xs++[x],by omega,rfl,hP,hG,hN60,hB1,hB60,by simpa using hown',hnb',hpl2,hrx,by simp [hxl],by rw [hz1];rfl,?_,by simp [go_sem,g0],by simp [go_sem,g1],by simp [go_sem,g6],by simp [go_sem,g7],by simp [go_sem,g8],by simp [go_sem,g42],by simp [go_sem,g43],by simp [go_sem]⟩
    intro e
    rw [hz2 (hse e),hxv e]
    simp
   by_cases hj0:j=0
   ·have c5:¬(0:Int)<j:=by omega
    refine zzr fun K hK=>?_
    simp [go_sem,za0,za4,za1,hB1.cell,hB20.cell,g0,g1,g6,g7,g8,g42,g43,g44, c5,hj0]
    apply hK;clear hK K
    refine zaf (t:=false) (by simp [go_sem,g0,g1,g6,g7,g8,g42,g43,g44,c5,hj0]) rfl ?_
    refine za7 ?_
    refine tail _ _ s' (by simp [hj0]) (by simp [go_sem,g0]) (by simp [go_sem,g1]) (by simp [go_sem,g6]) (by simp [go_sem,g7]) (by simp [go_sem,g8]) (by simp [go_sem,g42]) (by simp [go_sem,g43]) (by simp [go_sem,g44]) (by simp [go_sem]) hP hG hNs hB1 hB20 hown hnb hpl2 hrx
   ·have c5:(0:Int)<j:=by omega
    have c6:0<j:=by omega
    refine zzr fun K hK=>?_
    simp [go_sem,za0,za4,za1,hB1.cell,hB20.cell,g0,g1,g6,g7,g8,g42,g43,g44, c5,c6]
    apply hK;clear hK K
    refine zaf (t:=true) (by simp [go_sem,g0,g1,g6,g7,g8,g42,g43,g44,c5,c6]) rfl ?_
    refine zzt fun K hK=>?_
    simp [go_sem,za0,za4,za1,hB1.cell,hB20.cell,g0,g1,g6,g7,g8,g42,g43,g44]
    refine zzc rfl Tryz.call29 (fun R hR=>?_)
    simp [go_sem,za0,za4,za1,hB1.cell,hB20.cell,g0,g1,g6,g7,g8,g42,g43,g44]
    refine (zdH hP hW sCM).mono ?_
    rintro e w70 ⟨rfl,hQ70,hg70⟩
    refine ⟨_,rfl,hR _ _ ?_⟩
    clear hR R
    replace hpl2:=hpl2.ch (hP.ch hg70) (by intro k hk e;subst e;first|omega|(have:=hk.1;omega))
    replace hrx:=hrx.ch (hP.ch hg70) (by intro k hk e;subst e;first|omega|(have:=hk.1;omega))
    replace hnb:=zdO hnb hown hg70 (by omega)
    replace hown:=zcF hown hg70 (by omega)
    replace hB1:=hB1.grown hg70 (by intro e;injection e with e;omega)
    replace hB20:=hB20.grown hg70 (by intro e;injection e with e;omega)
    replace hP:=hQ70
    replace hG:=hG.trans hg70
    clear hQ70
    simp [go_sem,za0,za4,za1,hB1.cell,hB20.cell,g0,g1,g6,g7,g8,g42,g43,g44]
    apply hK;clear hK K
    refine tail _ _ (zc8 T sCM s') (by simp [hj0]) (by simp [go_sem,g0]) (by simp [go_sem,g1]) (by simp [go_sem,g6]) (by simp [go_sem,g7]) (by simp [go_sem,g8]) (by simp [go_sem,g42]) (by simp [go_sem,g43]) (by simp [go_sem,g44]) (by simp [go_sem]) hP hG (Nat.le_trans hNs hg70.size) hB1 hB20 hown hnb hpl2 hrx
  ·have c1:¬(j:Int)<ps.length:=by omega
   subst hxl
   have hie:xs.length=ps.length:=by omega
   rw [List.drop_eq_nil_of_le (by omega)] at hz1 hz2
   simp only [argsP,List.append_nil] at hz1 hz2
   refine zaf (t:=false) (by simp [go_sem,g0,g1,g6,g7,g8,g42,g43,g44,c1,hlt]) rfl ?_
   refine zav ?_
   repeat (first|refine zae ?_|refine za6 rfl ?_|refine za8 ?_)
   apply hK2
   have hC1:C=((endP T kn Z.1).1,.mk kn [] (endP T kn Z.1).2.1 (endP T kn Z.1).2.2.1 (endP T kn Z.1).2.2.2 Z.2 (zai T i).p):=by
    rw [hC];unfold conP;rw [if_neg (by rw [←hK0];exact hKz)]
    simp only
    rw [←hK0,←hps0,←hs0,←hZ]
   refine zab (fun K6 hK6=>?_)
   have tail3:∀ (g:G) (w9:World) (s2:PSt) (q:R3) (a a':Option Addr) (c c':Nat),(endP T kn Z.1).1=zc8 T sRP s2→((endP T kn Z.1).1.er=0→q=(endP T kn Z.1).2)→g 0 = .pointer (some ⟨b,0,none⟩)→g 6 = .pointer (some ⟨b1,0,none⟩)→g 8 = .pointer (some ⟨b20,0,none⟩)→qS q 200000→PSS w9 b tb la cap T s2→w.grownBy w9 (some b)→RV w9 q (.agg #[.bool q.1,.slice a q.2.1.length c,.slice a' q.2.2.length c'])→Bx w9 b1 #[.int .i64 0,.string ⟨#[]⟩,.bool false,.slice none 0 0,.slice none 0 0,.slice none 0 0,.int .i64 0] 30→Bx w9 b20 #[.int .i64 kn,.string ⟨#[]⟩,.bool q.1,.slice a q.2.1.length c,.slice a' q.2.2.length c',.slice va xs.length vc,.int .i64 (zai T i).p] 30→w9.ownsRow N4 30 7 (.slice va xs.length vc) xs.length rows.flatten→NB w9 (.slice va xs.length vc)→RXs w9 (fun k=>N4≤k∧Value.ownBlock (.slice va xs.length vc)≠some k) rows xs→K6 g w9:=by
    clear hP hG hNs hB1 hB20 hown hnb hpl2 hrx g0 g1 g6 g7 g8 g42 g43 g44
    intro g w9 s2 q a a' c c' hE1 hE2 g0 g6 g8 hqz hP hG hv hB1 hB20 hown hnb hrx
    apply hK6
    refine zzr fun K hK=>?_
    simp [go_sem,za0,za4,za1,g0,g6,g8,hB1.cell,hB20.cell]
    refine zzc rfl Tryz.call29 (fun R hR=>?_)
    simp [go_sem,za0,za4,za1,g0,g6,g8,hB1.cell,hB20.cell]
    refine (zdH hP hW sRP).mono ?_
    rintro e w80 ⟨rfl,hQ80,hg80⟩
    refine ⟨_,rfl,hR _ _ ?_⟩
    clear hR R
    replace hv:=hv.ch (hP.ch hg80)
    replace hrx:=hrx.ch (hP.ch hg80) (by intro k hk e;subst e;first|omega|(have:=hk.1;omega))
    replace hnb:=zdO hnb hown hg80 (by omega)
    replace hown:=zcF hown hg80 (by omega)
    replace hB1:=hB1.grown hg80 (by intro e;injection e with e;omega)
    replace hB20:=hB20.grown hg80 (by intro e;injection e with e;omega)
    replace hP:=hQ80
    replace hG:=hG.trans hg80
    clear hQ80
    simp [go_sem,za0,za4,za1,g0,g6,g8,hB1.cell,hB20.cell]
    apply hK;clear hK K
    refine zzr fun K hK=>?_
    simp [go_sem,za0,za4,za1,g0,g6,g8,hB1.cell,hB20.cell]
    refine zzs (b:=b1) (off:=0) [.int .i64 kn,.string ⟨#[]⟩,.bool q.1,.slice a q.2.1.length c,.slice a' q.2.2.length c',.slice va xs.length vc,.int .i64 (zai T i).p] rfl zaC hB1 (fun w81 hS81 hB81=>?_) (by simp [go_sem,Value.cells,g0,g6,g8])
    simp [zaw] at hB81
    replace hv:=hv.ch (Ch.of_sto hS81 (NL.of_bx hB1 (by intro u hu x e;subst e;simp at hu)))
    replace hrx:=hrx.ch (Ch.of_sto hS81 (NL.of_bx hB1 (by intro u hu x e;subst e;simp at hu))) (by intro k hk e;subst e;first|exact hk.2 rfl|omega)
    replace hnb:=zdf hnb hown hS81 (by omega)
    replace hown:=zbu hown hS81 (by omega)
    replace hG:=zan hG hS81 hwb1
    replace hP:=hP.sto hS81 (by omega) (fun ad ha=>by have:=hla0 ad ha;omega)
    replace hB20:=hB20.sto hS81 (by first|exact hd20_1|exact (hd1_20).symm)
    simp [go_sem,za0,za4,za1,g0,g6,g8,hB20.cell,hB81.cell]
    apply hK;clear hK K
    refine zad ?_
    repeat first|refine za3 ?_|refine za2 ?_
    rw [←hE1] at hP
    subst hC1
    have hex:=own_exs (F:=fun k=>w.heap.size≤k) hown (hrx.mono (fun k hk=>Nat.le_trans (Nat.le_trans hwN3 hN34) hk.1)) (by unfold maxLen;omega) (fun k hk=>Nat.le_trans (Nat.le_trans hwN3 hN34) hk)
    refine ⟨by simp [go_sem,zaD,zam,za4,za1,za0,hB81.cell,g6],?_⟩
    obtain ⟨_,_,_,_,he,r1,r2⟩:=hv
    simp only [Value.agg.injEq] at he
    injection he with he
    simp only [List.cons.injEq,Value.slice.injEq,Value.bool.injEq,and_true,true_and] at he
    obtain ⟨⟨rfl,rfl⟩,⟨rfl,rfl⟩⟩:=he
    refine ⟨_,.mk kn [] q.1 q.2.1 q.2.2 xs (zai T i).p,?_,EX.mk (cap:=vc) r1 r2 ⟨by have:=hqz.1;unfold maxLen;omega,by have:=hqz.2;unfold maxLen;omega⟩ hex.sl hex.fs hex.len (Nat.zero_le _) hex.max hex.he,?_,hP,hG⟩
    ·simp [go_sem,zar,zam,za4,za1,za0,hB81.cell,g6]
    ·intro e
     have hz:Z.1.er=0:=by
      by_cases h0:Z.1.er=0
      ·exact h0
      ·rw [endP_bad h0] at e;exact absurd e h0
     rw [hE2 e,hz2 (by rw [←hz1];exact hz)]
   by_cases hr:kn=11∨kn=68
   ·have hhr:hasR kn=true:=by unfold hasR;rcases hr with h|h<;>simp [h]
    have he1:endP T kn Z.1=(zc8 T sRP (ratP T (zc8 T sCM s')).1,qR3 (ratP T (zc8 T sCM s')).2):=by unfold endP;rw [if_pos hhr,hz1]
    by_cases h11:kn=11
    ·refine zzr fun K hK=>?_
     simp [go_sem,za0,za4,za1,hB1.cell,hB20.cell,g0,g1,g6,g7,g8,g42,g43,g44, h11]
     apply hK;clear hK K
     refine zaf (t:=true) (by simp [go_sem,g0,g1,g6,g7,g8,g42,g43,g44,h11]) rfl ?_
     refine zzr fun K hK=>?_
     simp [go_sem,za0,za4,za1,hB1.cell,hB20.cell,g0,g1,g6,g7,g8,g42,g43,g44]
     refine zzc rfl Tryz.call29 (fun R hR=>?_)
     simp [go_sem,za0,za4,za1,hB1.cell,hB20.cell,g0,g1,g6,g7,g8,g42,g43,g44]
     refine (zdH hP hW sCM).mono ?_
     rintro e w90 ⟨rfl,hQ90,hg90⟩
     refine ⟨_,rfl,hR _ _ ?_⟩
     clear hR R
     replace hpl2:=hpl2.ch (hP.ch hg90) (by intro k hk e;subst e;first|omega|(have:=hk.1;omega))
     replace hrx:=hrx.ch (hP.ch hg90) (by intro k hk e;subst e;first|omega|(have:=hk.1;omega))
     replace hnb:=zdO hnb hown hg90 (by omega)
     replace hown:=zcF hown hg90 (by omega)
     replace hB1:=hB1.grown hg90 (by intro e;injection e with e;omega)
     replace hB20:=hB20.grown hg90 (by intro e;injection e with e;omega)
     replace hP:=hQ90
     replace hG:=hG.trans hg90
     clear hQ90
     simp [go_sem,za0,za4,za1,hB1.cell,hB20.cell,g0,g1,g6,g7,g8,g42,g43,g44]
     apply hK;clear hK K
     refine zzt fun K hK=>?_
     simp [go_sem,za0,za4,za1,hB1.cell,hB20.cell,g0,g1,g6,g7,g8,g42,g43,g44]
     refine zzc rfl Tryz.call32 (fun R hR=>?_)
     simp [go_sem,za0,za4,za1,hB1.cell,hB20.cell,g0,g1,g6,g7,g8,g42,g43,g44]
     refine (ratP_any hP hW).mono ?_
     rintro e w91 ⟨q,a,a',c,c',rfl,hv,hqs,hqv,hQ91,hg91⟩
     refine ⟨_,rfl,hR _ _ ?_⟩
     clear hR R
     replace hpl2:=hpl2.ch (hP.ch hg91) (by intro k hk e;subst e;first|omega|(have:=hk.1;omega))
     replace hrx:=hrx.ch (hP.ch hg91) (by intro k hk e;subst e;first|omega|(have:=hk.1;omega))
     replace hnb:=zdO hnb hown hg91 (by omega)
     replace hown:=zcF hown hg91 (by omega)
     replace hB1:=hB1.grown hg91 (by intro e;injection e with e;omega)
     replace hB20:=hB20.grown hg91 (by intro e;injection e with e;omega)
     replace hP:=hQ91
     replace hG:=hG.trans hg91
     clear hQ91
     simp [go_sem,za0,za4,za1,hB1.cell,hB20.cell,g0,g1,g6,g7,g8,g42,g43,g44]
     refine zzs (b:=b20) (off:=2) [.bool q.1,.slice a q.2.1.length c,.slice a' q.2.2.length c'] rfl zax hB20 (fun w92 hS92 hB92=>?_) (by simp [go_sem,Value.cells,g0,g1,g6,g7,g8,g42,g43,g44])
     simp [zaw] at hB92
     replace hv:=hv.ch (Ch.of_sto hS92 (NL.of_bx hB20 (by intro u hu x e;subst e;simp at hu)))
     replace hpl2:=hpl2.ch (Ch.of_sto hS92 (NL.of_bx hB20 (by intro u hu x e;subst e;simp at hu))) (by intro k hk e;subst e;first|exact hk.2 rfl|omega)
     replace hrx:=hrx.ch (Ch.of_sto hS92 (NL.of_bx hB20 (by intro u hu x e;subst e;simp at hu))) (by intro k hk e;subst e;first|exact hk.2 rfl|omega)
     replace hnb:=zdf hnb hown hS92 (by omega)
     replace hown:=zbu hown hS92 (by omega)
     replace hG:=zan hG hS92 hwb20
     replace hP:=hP.sto hS92 (by omega) (fun ad ha=>by have:=hla0 ad ha;omega)
     replace hB1:=hB1.sto hS92 (by first|exact hd1_20|exact (hd20_1).symm)
     simp [go_sem,za0,za4,za1,hB1.cell,g0,g1,g6,g7,g8,g42,g43,g44,hB92.cell]
     apply hK;clear hK K
     refine tail3 _ _ (ratP T (zc8 T sCM s')).1 q a a' c c' (by rw [he1]) (fun e=>?_) (by simp [go_sem,g0]) (by simp [go_sem,g6]) (by simp [go_sem,g8]) hqs hP hG hv hB1 hB92 hown hnb hrx
     rw [he1] at e ⊢
     refine hqv ?_
     by_cases h0:(ratP T (zc8 T sCM s')).1.er=0
     ·exact h0
     ·rw [zcs h0] at e;exact absurd e h0
    ·have h68:kn=68:=by omega
     refine zzr fun K hK=>?_
     simp [go_sem,za0,za4,za1,hB1.cell,hB20.cell,g0,g1,g6,g7,g8,g42,g43,g44, h68]
     apply hK;clear hK K
     refine zaf (t:=true) (by simp [go_sem,g0,g1,g6,g7,g8,g42,g43,g44,h68]) rfl ?_
     refine zzr fun K hK=>?_
     simp [go_sem,za0,za4,za1,hB1.cell,hB20.cell,g0,g1,g6,g7,g8,g42,g43,g44]
     refine zzc rfl Tryz.call29 (fun R hR=>?_)
     simp [go_sem,za0,za4,za1,hB1.cell,hB20.cell,g0,g1,g6,g7,g8,g42,g43,g44]
     refine (zdH hP hW sCM).mono ?_
     rintro e w90 ⟨rfl,hQ90,hg90⟩
     refine ⟨_,rfl,hR _ _ ?_⟩
     clear hR R
     replace hpl2:=hpl2.ch (hP.ch hg90) (by intro k hk e;subst e;first|omega|(have:=hk.1;omega))
     replace hrx:=hrx.ch (hP.ch hg90) (by intro k hk e;subst e;first|omega|(have:=hk.1;omega))
     replace hnb:=zdO hnb hown hg90 (by omega)
     replace hown:=zcF hown hg90 (by omega)
     replace hB1:=hB1.grown hg90 (by intro e;injection e with e;omega)
     replace hB20:=hB20.grown hg90 (by intro e;injection e with e;omega)
     replace hP:=hQ90
     replace hG:=hG.trans hg90
     clear hQ90
     simp [go_sem,za0,za4,za1,hB1.cell,hB20.cell,g0,g1,g6,g7,g8,g42,g43,g44]
     apply hK;clear hK K
     refine zzt fun K hK=>?_
     simp [go_sem,za0,za4,za1,hB1.cell,hB20.cell,g0,g1,g6,g7,g8,g42,g43,g44]
     refine zzc rfl Tryz.call32 (fun R hR=>?_)
     simp [go_sem,za0,za4,za1,hB1.cell,hB20.cell,g0,g1,g6,g7,g8,g42,g43,g44]
     refine (ratP_any hP hW).mono ?_
     rintro e w91 ⟨q,a,a',c,c',rfl,hv,hqs,hqv,hQ91,hg91⟩
     refine ⟨_,rfl,hR _ _ ?_⟩
     clear hR R
     replace hpl2:=hpl2.ch (hP.ch hg91) (by intro k hk e;subst e;first|omega|(have:=hk.1;omega))
     replace hrx:=hrx.ch (hP.ch hg91) (by intro k hk e;subst e;first|omega|(have:=hk.1;omega))
     replace hnb:=zdO hnb hown hg91 (by omega)
     replace hown:=zcF hown hg91 (by omega)
     replace hB1:=hB1.grown hg91 (by intro e;injection e with e;omega)
     replace hB20:=hB20.grown hg91 (by intro e;injection e with e;omega)
     replace hP:=hQ91
     replace hG:=hG.trans hg91
     clear hQ91
     simp [go_sem,za0,za4,za1,hB1.cell,hB20.cell,g0,g1,g6,g7,g8,g42,g43,g44]
     refine zzs (b:=b20) (off:=2) [.bool q.1,.slice a q.2.1.length c,.slice a' q.2.2.length c'] rfl zax hB20 (fun w92 hS92 hB92=>?_) (by simp [go_sem,Value.cells,g0,g1,g6,g7,g8,g42,g43,g44])
     simp [zaw] at hB92
     replace hv:=hv.ch (Ch.of_sto hS92 (NL.of_bx hB20 (by intro u hu x e;subst e;simp at hu)))
     replace hpl2:=hpl2.ch (Ch.of_sto hS92 (NL.of_bx hB20 (by intro u hu x e;subst e;simp at hu))) (by intro k hk e;subst e;first|exact hk.2 rfl|omega)
     replace hrx:=hrx.ch (Ch.of_sto hS92 (NL.of_bx hB20 (by intro u hu x e;subst e;simp at hu))) (by intro k hk e;subst e;first|exact hk.2 rfl|omega)
     replace hnb:=zdf hnb hown hS92 (by omega)
     replace hown:=zbu hown hS92 (by omega)
     replace hG:=zan hG hS92 hwb20
     replace hP:=hP.sto hS92 (by omega) (fun ad ha=>by have:=hla0 ad ha;omega)
     replace hB1:=hB1.sto hS92 (by first|exact hd1_20|exact (hd20_1).symm)
     simp [go_sem,za0,za4,za1,hB1.cell,g0,g1,g6,g7,g8,g42,g43,g44,hB92.cell]
     apply hK;clear hK K
     refine tail3 _ _ (ratP T (zc8 T sCM s')).1 q a a' c c' (by rw [he1]) (fun e=>?_) (by simp [go_sem,g0]) (by simp [go_sem,g6]) (by simp [go_sem,g8]) hqs hP hG hv hB1 hB92 hown hnb hrx
     rw [he1] at e ⊢
     refine hqv ?_
     by_cases h0:(ratP T (zc8 T sCM s')).1.er=0
     ·exact h0
     ·rw [zcs h0] at e;exact absurd e h0
   ·have hhr:¬hasR kn=true:=by unfold hasR;simp only [not_or] at hr;simp [hr.1,hr.2]
    simp only [not_or] at hr
    have he1:endP T kn Z.1=(zc8 T sRP s',r30):=by unfold endP;rw [if_neg hhr,hz1]
    refine zzr fun K hK=>?_
    simp [go_sem,za0,za4,za1,hB1.cell,hB20.cell,g0,g1,g6,g7,g8,g42,g43,g44, hr.1,hr.2]
    apply hK;clear hK K
    refine zaf (t:=false) (by simp [go_sem,g0,g1,g6,g7,g8,g42,g43,g44,hr.1,hr.2]) rfl ?_
    refine za7 ?_
    refine tail3 _ _ s' r30 none none 0 0 (by rw [he1]) (fun _=>by rw [he1]) (by simp [go_sem,g0]) (by simp [go_sem,g6]) (by simp [go_sem,g8]) ⟨Nat.zero_le _,Nat.zero_le _⟩ hP hG (RV.nil _) hB1 hB20 hown hnb hrx
theorem intC_sl {w:World} {b t:Nat} {l:List Int} (h:Bx w b (intC l).toArray t):SL w (some ⟨b,0,none⟩) (intC l):=by
 have:=SL.whole h
 simpa using this
theorem EX.leaf {w:World} {F:Nat→Prop} {name:List UInt8} {pos:Int} (h:name.length≤maxLen):EX w F [.int .i64 1,.string ⟨name.toArray⟩,.bool false,.slice none 0 0,.slice none 0 0,.slice none 0 0,.int .i64 pos] (.mk 1 name false [] [] [] pos) :=
 .mk (rows:=[]) (ad:=none) (kind:=1) (pos:=pos) (name:=name) (neg:=false) (num:=[]) (den:=[]) (args:=[]) (RD.nil _ _ _) (RD.nil _ _ _) ⟨Nat.zero_le _,Nat.zero_le _⟩ (SL.nil _ _) (fun _ h=>by cases h) rfl h (Nat.zero_le _) (fun i R x h=>by simp at h)
theorem arg1_any {b tb cap f:Nat} {la:Option Addr} {T:List Tok} (hW:Wf T) (d:Int) (hd:d=21-(f:Int)) (hf:f≤20)
  (hcon:∀ (f':Nat),f=f'+1→∀ (w:World) (s:PSt) (sa:Option Addr) (sc:Nat) (sorts:List Int),PSS w b tb la cap T s→SL w sa (intC sorts)→sorts.length≤10→Calls Tryz.prog 14 #[.pointer (some ⟨b,0,none⟩),.int .i64 d,.slice sa sorts.length sc] w (ArgPost w b tb la cap T (conP T (argP T f') sorts s)))
  {w:World} {s:PSt} (sort:Int) (hsr:0≤sort∧sort≤3) (h:PSS w b tb la cap T s) :
  Calls Tryz.prog 31 #[.pointer (some ⟨b,0,none⟩),.int .i64 d,.int .i64 sort] w (ArgPost w b tb la cap T (argP T f sort s)):=by
 have hT:T.length≤maxLen:=by have:=hW.size;unfold maxLen;omega
 obtain ⟨A,hA⟩:∃ A,A=argP T f sort s:=⟨_,rfl⟩
 rw [←hA]
 unfold argP at hA
 obtain ⟨S,hS⟩:∃ S,S=sortL sort:=⟨_,rfl⟩
 rw [←hS] at hA
 have hSl:S.length≤10:=by rw [hS];unfold sortL;split<;>simp
 refine za5 (rs:=[.cell 6 30]) (n:=56) Tryz.func31 rfl rfl rfl (by kernel_rfl) ?_
 have hP:=h
 have hG:w.grownBy w (some b):=zaa (Below.refl _ _)
 have hb0:=h.lt'
 have hla0:=h.lab
 refine zzr fun K hK=>?_
 simp [go_sem,za0,za4,za1]
 refine zza rfl zbY (fun w1 b1 hE1 hle1 hB1=>?_)
 have hwb1:_≤b1:=Nat.le_trans hG.size hle1
 replace hG:=hG.trans (zaa hE1)
 replace hP:=hP.ext hE1
 simp [go_sem,za0,za4,za1,hB1.cell]
 apply hK;clear hK K
 refine zzr fun K hK=>?_
 simp [go_sem,za0,za4,za1,hB1.cell]
 refine zak #[.int .i64 sort] (by simp [go_sem,za0,za4,za1,hB1.cell]) rfl zep (by decide) [(0,.int .i64 sort)] (by simp [go_sem,za0,za4,za1,hB1.cell]) (by kernel_rfl) (fun w2 b2 hE2 hle2 hB2=>?_)
 have hwb2:_≤b2:=Nat.le_trans hG.size hle2
 have hd1_2:b1≠b2:=Nat.ne_of_lt (Nat.lt_of_lt_of_le hB1.lt hle2)
 replace hB1:=hB1.keep hE2
 replace hG:=hG.trans (zaa hE2)
 replace hP:=hP.ext hE2
 simp [go_sem,za0,za4,za1,hB1.cell,hB2.cell]
 apply hK;clear hK K
 refine zab (fun K1 hK1=>?_)
 refine zzr fun K hK=>?_
 simp [go_sem,za0,za4,za1,hB1.cell,hB2.cell]
 apply hK;clear hK K
 have tail:∀ (g:G) (w9:World) (bs c:Nat),g 0 = .pointer (some ⟨b,0,none⟩)→g 1 = .int .i64 d→g 6 = .pointer (some ⟨b1,0,none⟩)→g 7 = .slice (some ⟨bs,0,none⟩) S.length c→SL w9 (some ⟨bs,0,none⟩) (intC S)→PSS w9 b tb la cap T s→w.grownBy w9 (some b)→Bx w9 b1 #[.int .i64 0,.string ⟨#[]⟩,.bool false,.slice none 0 0,.slice none 0 0,.slice none 0 0,.int .i64 0] 30→K1 g w9:=by
  clear hP hG hB1 hB2
  intro g w9 bs c g0 g1 g6 g7 hsl hP hG hB1
  apply hK1
  refine zab (fun K2 hK2=>?_)
  have tail2:∀ (g:G) (w9:World),¬(nmT T s.er s.i=false∧zdU T S s=0)→g 0 = .pointer (some ⟨b,0,none⟩)→g 1 = .int .i64 d→g 6 = .pointer (some ⟨b1,0,none⟩)→g 7 = .slice (some ⟨bs,0,none⟩) S.length c→SL w9 (some ⟨bs,0,none⟩) (intC S)→PSS w9 b tb la cap T s→w.grownBy w9 (some b)→Bx w9 b1 #[.int .i64 0,.string ⟨#[]⟩,.bool false,.slice none 0 0,.slice none 0 0,.slice none 0 0,.int .i64 0] 30→K2 g w9:=by
   clear hP hG hB1 hsl g0 g1 g6 g7
   intro g w9 hne g0 g1 g6 g7 hsl hP hG hB1
   rw [if_neg hne] at hA
   apply hK2
   refine zab (fun K3 hK3=>?_)
   refine zzr fun K hK=>?_
   simp [go_sem,za0,za4,za1,g0,g1,g6,g7,hB1.cell]
   apply hK;clear hK K
   cases f with
   | zero =>
    have c1:(20:Int)<d:=by omega
    have hA1:A=(zbN T 4 s,ex0):=hA
    refine zaf (t:=true) (by simp [go_sem,g0,g1,g6,g7,c1]) rfl ?_
    refine zzr fun K hK=>?_
    simp [go_sem,za0,za4,za1,g0,g1,g6,g7,hB1.cell]
    refine zzc rfl Tryz.call16 (fun R hR=>?_)
    simp [go_sem,za0,za4,za1,g0,g1,g6,g7,hB1.cell]
    refine (zdG hP hW 4).mono ?_
    rintro e w3 ⟨rfl,hQ3,hg3⟩
    refine ⟨_,rfl,hR _ _ ?_⟩
    clear hR R
    replace hB1:=hB1.grown hg3 (by intro e;injection e with e;omega)
    replace hP:=hQ3
    replace hG:=hG.trans hg3
    clear hQ3
    simp [go_sem,za0,za4,za1,g0,g1,g6,g7,hB1.cell]
    apply hK;clear hK K
    refine zzr fun K hK=>?_
    simp [go_sem,za0,za4,za1,g0,g1,g6,g7,hB1.cell]
    refine zal #[.int .i64 0,.string ⟨#[]⟩,.bool false,.slice none 0 0,.slice none 0 0,.slice none 0 0,.int .i64 0] (by simp [go_sem]) rfl zbI [] (by simp [go_sem]) rfl ?_
    simp [go_sem,za0]
    refine zzs (b:=b1) (off:=0) [.int .i64 0,.string ⟨#[]⟩,.bool false,.slice none 0 0,.slice none 0 0,.slice none 0 0,.int .i64 0] rfl zaC hB1 (fun w4 hS4 hB4=>?_) (by simp [go_sem,Value.cells,g0,g1,g6,g7])
    simp [zaw] at hB4
    replace hG:=zan hG hS4 hwb1
    replace hP:=hP.sto hS4 (by omega) (fun ad ha=>by have:=hla0 ad ha;omega)
    simp [go_sem,za0,za4,za1,g0,g1,g6,g7,hB4.cell]
    apply hK;clear hK K
    refine zad ?_
    repeat first|refine za3 ?_|refine za2 ?_
    rw [hA1]
    refine ⟨by simp [go_sem,zaD,zam,za4,za1,za0,hB4.cell,g6],?_⟩
    refine ⟨_,ex0,?_,EX.ex0 _ _ _ rfl,fun _=>rfl,hP,hG⟩
    simp [go_sem,zar,zam,za4,za1,za0,hB4.cell,g6]
   | succ f =>
    have c1:¬(20:Int)<d:=by omega
    simp only at hA
    refine zaf (t:=false) (by simp [go_sem,g0,g1,g6,g7, c1]) rfl ?_
    refine za7 ?_
    apply hK3
    refine zab (fun K4 hK4=>?_)
    refine zzr fun K hK=>?_
    simp [go_sem,za0,za4,za1,g0,g1,g6,g7,hB1.cell]
    refine zzc rfl Tryz.call12 (fun R hR=>?_)
    simp [go_sem,za0,za4,za1,g0,g1,g6,g7,hB1.cell]
    refine (namedS_any hP hW).mono ?_
    rintro e w10 ⟨rfl,hE10⟩
    refine ⟨_,rfl,hR _ _ ?_⟩
    clear hR R
    replace hB1:=hB1.keep hE10
    replace hG:=hG.trans (zaa hE10)
    replace hP:=hP.ext hE10
    simp [go_sem,za0,za4,za1,g0,g1,g6,g7,hB1.cell]
    replace hsl:=hsl.ext hE10
    apply hK;clear hK K
    by_cases hnm:nmT T s.er s.i=true
    ·rw [if_pos hnm] at hA
     obtain ⟨h0,hk1⟩:=nmT_k hnm
     have hn:zbM T s=(⟨s.i+1,s.at',s.er⟩,(zai T s.i).t):=by unfold zbM;rw [if_pos hnm]
     refine zaf (t:=true) (by simp [go_sem,g0,g1,g6,g7,hnm]) rfl ?_
     refine zzr fun K hK=>?_
     simp [go_sem,za0,za4,za1,g0,g1,g6,g7,hB1.cell]
     refine zzc rfl Tryz.call13 (fun R hR=>?_)
     simp [go_sem,za0,za4,za1,g0,g1,g6,g7,hB1.cell,zcV]
     refine (zcd hP hT).mono ?_
     rintro e w11 ⟨rfl,hE11⟩
     refine ⟨_,rfl,hR _ _ ?_⟩
     clear hR R
     replace hB1:=hB1.keep hE11
     replace hG:=hG.trans (zaa hE11)
     replace hP:=hP.ext hE11
     simp [go_sem,za0,za4,za1,g0,g1,g6,g7,hB1.cell,zcV]
     apply hK;clear hK K
     have hcn:=nameS_any hP hW
     rw [hn] at hcn
     refine zzr fun K hK=>?_
     simp [go_sem,za0,za4,za1,g0,g1,g6,g7,hB1.cell]
     refine zzc rfl Tryz.call54 (fun R hR=>?_)
     simp [go_sem,za0,za4,za1,g0,g1,g6,g7,hB1.cell]
     refine (hcn).mono ?_
     rintro e w20 ⟨rfl,hQ20,hg20⟩
     refine ⟨_,rfl,hR _ _ ?_⟩
     clear hR R
     replace hB1:=hB1.grown hg20 (by intro e;injection e with e;omega)
     replace hP:=hQ20
     replace hG:=hG.trans hg20
     clear hQ20
     simp [go_sem,za0,za4,za1,g0,g1,g6,g7,hB1.cell]
     refine zal #[.int .i64 1,.string ⟨(zai T s.i).t.toArray⟩,.bool false,.slice none 0 0,.slice none 0 0,.slice none 0 0,.int .i64 (zai T s.i).p] (by simp [go_sem]) rfl zbI [(0,.int .i64 1),(4,.int .i64 (zai T s.i).p),(1,.string ⟨(zai T s.i).t.toArray⟩)] (by simp [go_sem]) rfl ?_
     simp [go_sem,za0]
     refine zzs (b:=b1) (off:=0) [.int .i64 1,.string ⟨(zai T s.i).t.toArray⟩,.bool false,.slice none 0 0,.slice none 0 0,.slice none 0 0,.int .i64 (zai T s.i).p] rfl zaC hB1 (fun w21 hS21 hB21=>?_) (by simp [go_sem,Value.cells,g0,g1,g6,g7])
     simp [zaw] at hB21
     replace hG:=zan hG hS21 hwb1
     replace hP:=hP.sto hS21 (by omega) (fun ad ha=>by have:=hla0 ad ha;omega)
     simp [go_sem,za0,za4,za1,g0,g1,g6,g7,hB21.cell]
     apply hK;clear hK K
     refine zad ?_
     repeat first|refine za3 ?_|refine za2 ?_
     rw [hA]
     refine ⟨by simp [go_sem,zaD,zam,za4,za1,za0,hB21.cell,g6],?_⟩
     refine ⟨_,.mk 1 (zai T s.i).t false [] [] [] (zai T s.i).p,?_,EX.leaf (by have:=hW.len s.i;unfold maxLen;omega),fun _=>rfl,hP,hG⟩
     simp [go_sem,zar,zam,za4,za1,za0,hB21.cell,g6]
    ·rw [if_neg hnm] at hA
     refine zaf (t:=false) (by simp [go_sem,g0,g1,g6,g7, hnm]) rfl ?_
     refine za7 ?_
     apply hK4
     have hG0:=hG
     have h1lt0:=hB1.lt
     refine zzr fun K hK=>?_
     simp [go_sem,za0,za4,za1,g0,g1,g6,g7,hB1.cell]
     refine zzc rfl Tryz.call14 (fun R hR=>?_)
     simp [go_sem,za0,za4,za1,g0,g1,g6,g7,hB1.cell]
     refine (hcon f rfl _ s _ c S hP hsl hSl).mono ?_
     rintro e w30 ⟨Rx,x,rfl,hxe,hxv,hQ30,hg30⟩
     refine ⟨_,rfl,hR _ _ ?_⟩
     clear hR R
     replace hB1:=hB1.grown hg30 (by intro e;injection e with e;omega)
     replace hP:=hQ30
     replace hG:=hG.trans hg30
     clear hQ30
     obtain ⟨xa,xc,xb,xd,xad,xcap,xrows,hRx,_⟩:=hxe.open
     subst hRx
     replace hxe:=hxe.mono (F':=fun k=>w.heap.size≤k∧k≠b1) (fun k hk=>⟨Nat.le_trans hG0.size hk,fun e=>by subst e;exact absurd hk (Nat.not_le.2 h1lt0)⟩)
     simp [go_sem,za0,za4,za1,g0,g1,g6,g7,hB1.cell]
     refine zzs (b:=b1) (off:=0) [.int .i64 x.kind,.string ⟨x.name.toArray⟩,.bool x.neg,.slice xa x.num.length xc,.slice xb x.den.length xd,.slice xad x.args.length xcap,.int .i64 x.pos] rfl zaC hB1 (fun w31 hS31 hB31=>?_) (by simp [go_sem,Value.cells,g0,g1,g6,g7])
     simp [zaw] at hB31
     replace hxe:=hxe.ch (Ch.of_sto hS31 (NL.of_bx hB1 (by intro u hu x e;subst e;simp at hu))) (by intro k hk e;subst e;first|exact hk.2 rfl|omega)
     replace hG:=zan hG hS31 hwb1
     replace hP:=hP.sto hS31 (by omega) (fun ad ha=>by have:=hla0 ad ha;omega)
     simp [go_sem,za0,za4,za1,g0,g1,g6,g7,hB31.cell]
     apply hK;clear hK K
     refine zad ?_
     repeat first|refine za3 ?_|refine za2 ?_
     rw [←hA] at hP hxv
     refine ⟨by simp [go_sem,zaD,zam,za4,za1,za0,hB31.cell,g6],?_⟩
     refine ⟨_,x,?_,hxe.mono (fun k hk=>hk.1),hxv,hP,hG⟩
     simp [go_sem,zar,zam,za4,za1,za0,hB31.cell,g6]
  refine zzr fun K hK=>?_
  simp [go_sem,za0,za4,za1,hB1.cell,g0,g1,g6,g7]
  refine zzc rfl Tryz.call12 (fun R hR=>?_)
  simp [go_sem,za0,za4,za1,hB1.cell,g0,g1,g6,g7]
  refine (namedS_any hP hW).mono ?_
  rintro e w50 ⟨rfl,hE50⟩
  refine ⟨_,rfl,hR _ _ ?_⟩
  clear hR R
  replace hB1:=hB1.keep hE50
  replace hG:=hG.trans (zaa hE50)
  replace hP:=hP.ext hE50
  simp [go_sem,za0,za4,za1,hB1.cell,g0,g1,g6,g7]
  replace hsl:=hsl.ext hE50
  by_cases hnm:nmT T s.er s.i=true
  ·simp [go_sem,za0,za4,za1,hB1.cell,g0,g1,g6,g7,hnm]
   apply hK;clear hK K
   refine zaf (t:=false) (by simp [go_sem,g0,g1,g6,g7,hnm]) rfl ?_
   refine za7 ?_
   refine tail2 _ _ (fun e=>by rw [hnm] at e;cases e.1) (by simp [go_sem,g0]) (by simp [go_sem,g1]) (by simp [go_sem,g6]) (by simp [go_sem,g7]) hsl hP hG hB1
  ·have hnf:nmT T s.er s.i=false:=by simpa using hnm
   simp [go_sem,za0,za4,za1,hB1.cell,g0,g1,g6,g7,hnf]
   refine zzc rfl Tryz.call28 (fun R hR=>?_)
   simp [go_sem,za0,za4,za1,hB1.cell,g0,g1,g6,g7,hnf]
   refine (kindS_any hP hW (some ⟨bs,0,none⟩) c S hsl hSl).mono ?_
   rintro e w51 ⟨rfl,hE51⟩
   refine ⟨_,rfl,hR _ _ ?_⟩
   clear hR R
   replace hB1:=hB1.keep hE51
   replace hG:=hG.trans (zaa hE51)
   replace hP:=hP.ext hE51
   simp [go_sem,za0,za4,za1,hB1.cell,g0,g1,g6,g7,hnf]
   replace hsl:=hsl.ext hE51
   by_cases hkz:zdU T S s=0
   ·have hA1:A=(zbN T 5 s,ex0):=by rw [hA,if_pos ⟨hnf,hkz⟩]
    simp [go_sem,za0,za4,za1,hB1.cell,g0,g1,g6,g7,hnf,hkz]
    apply hK;clear hK K
    refine zaf (t:=true) (by simp [go_sem,g0,g1,g6,g7,hnf,hkz]) rfl ?_
    refine zzr fun K hK=>?_
    simp [go_sem,za0,za4,za1,hB1.cell,g0,g1,g6,g7]
    refine zzc rfl Tryz.call16 (fun R hR=>?_)
    simp [go_sem,za0,za4,za1,hB1.cell,g0,g1,g6,g7]
    refine (zdG hP hW 5).mono ?_
    rintro e w52 ⟨rfl,hQ52,hg52⟩
    refine ⟨_,rfl,hR _ _ ?_⟩
    clear hR R
    replace hB1:=hB1.grown hg52 (by intro e;injection e with e;omega)
    replace hP:=hQ52
    replace hG:=hG.trans hg52
    clear hQ52
    simp [go_sem,za0,za4,za1,hB1.cell,g0,g1,g6,g7]
    apply hK;clear hK K
    refine zzr fun K hK=>?_
    simp [go_sem,za0,za4,za1,hB1.cell,g0,g1,g6,g7]
    refine zal #[.int .i64 0,.string ⟨#[]⟩,.bool false,.slice none 0 0,.slice none 0 0,.slice none 0 0,.int .i64 0] (by simp [go_sem]) rfl zbI [] (by simp [go_sem]) rfl ?_
    simp [go_sem,za0]
    refine zzs (b:=b1) (off:=0) [.int .i64 0,.string ⟨#[]⟩,.bool false,.slice none 0 0,.slice none 0 0,.slice none 0 0,.int .i64 0] rfl zaC hB1 (fun w53 hS53 hB53=>?_) (by simp [go_sem,Value.cells,g0,g1,g6,g7])
    simp [zaw] at hB53
    replace hG:=zan hG hS53 hwb1
    replace hP:=hP.sto hS53 (by omega) (fun ad ha=>by have:=hla0 ad ha;omega)
    simp [go_sem,za0,za4,za1,g0,g1,g6,g7,hB53.cell]
    apply hK;clear hK K
    refine zad ?_
    repeat first|refine za3 ?_|refine za2 ?_
    rw [hA1]
    refine ⟨by simp [go_sem,zaD,zam,za4,za1,za0,hB53.cell,g6],?_⟩
    refine ⟨_,ex0,?_,EX.ex0 _ _ _ rfl,fun _=>rfl,hP,hG⟩
    simp [go_sem,zar,zam,za4,za1,za0,hB53.cell,g6]
   ·simp [go_sem,za0,za4,za1,hB1.cell,g0,g1,g6,g7,hnf,hkz]
    apply hK;clear hK K
    refine zaf (t:=false) (by simp [go_sem,g0,g1,g6,g7,hnf,hkz]) rfl ?_
    refine za7 ?_
    refine tail2 _ _ (fun e=>hkz e.2) (by simp [go_sem,g0]) (by simp [go_sem,g1]) (by simp [go_sem,g6]) (by simp [go_sem,g7]) hsl hP hG hB1
 by_cases hs0:sort=0
 ·have hS2:S=[2,3]:=by rw [hS];unfold sortL;rw [if_pos hs0]
  refine zaf (t:=true) (by simp [go_sem,hs0]) rfl ?_
  refine zzt fun K hK=>?_
  simp [go_sem,za0,za4,za1,hB1.cell,hB2.cell]
  refine zak #[.int .i64 2,.int .i64 3] (by simp [go_sem,za0,za4,za1,hB1.cell,hB2.cell]) rfl zep (by decide) [(0,.int .i64 2),(1,.int .i64 3)] (by simp [go_sem,za0,za4,za1,hB1.cell,hB2.cell]) (by kernel_rfl) (fun w60 b60 hE60 hle60 hB60=>?_)
  have hwb60:_≤b60:=Nat.le_trans hG.size hle60
  have hd1_60:b1≠b60:=Nat.ne_of_lt (Nat.lt_of_lt_of_le hB1.lt hle60)
  have hd2_60:b2≠b60:=Nat.ne_of_lt (Nat.lt_of_lt_of_le hB2.lt hle60)
  replace hB1:=hB1.keep hE60
  replace hB2:=hB2.keep hE60
  replace hG:=hG.trans (zaa hE60)
  replace hP:=hP.ext hE60
  simp [go_sem,za0,za4,za1,hB1.cell,hB2.cell,hB60.cell]
  apply hK;clear hK K
  refine tail _ _ b60 2 (by simp [go_sem]) (by simp [go_sem]) (by simp [go_sem]) (by rw [hS2];simp [go_sem]) (by rw [hS2];exact intC_sl hB60) hP hG hB1
 ·have hS2:S=[sort]:=by rw [hS];unfold sortL;rw [if_neg hs0]
  refine zaf (t:=false) (by simp [go_sem,hs0]) rfl ?_
  refine za7 ?_
  refine tail _ _ b2 1 (by simp [go_sem]) (by simp [go_sem]) (by simp [go_sem]) (by rw [hS2];simp [go_sem]) (by rw [hS2];exact intC_sl hB2) hP hG hB1
theorem arg_any {b tb cap:Nat} {la:Option Addr} {T:List Tok} (hW:Wf T):∀ (f:Nat),f≤20→∀ (w:World) (s:PSt) (sort:Int),0≤sort∧sort≤3→PSS w b tb la cap T s →
  Calls Tryz.prog 31 #[.pointer (some ⟨b,0,none⟩),.int .i64 (21-(f:Int)),.int .i64 sort] w (ArgPost w b tb la cap T (argP T f sort s))
 | 0,hf,w,s,sort,hs,h=>arg1_any hW _ rfl hf (fun f' e=>by omega) sort hs h
 | f+1,hf,w,s,sort,hs,h=>by
  refine arg1_any hW _ rfl hf (fun f' e w s sa sc sorts h hsl hn=>?_) sort hs h
  have e':f=f':=by omega
  subst e'
  refine con_any hW _ (by omega) (fun w s sort hs h=>?_) h sa sc sorts hsl hn
  rw [show (21-((f+1:Nat):Int)+1)=21-(f:Int) by omega]
  exact arg_any hW f (by omega) w s sort hs h
theorem con1_any {b tb cap:Nat} {la:Option Addr} {T:List Tok} (hW:Wf T) {w:World} {s:PSt} (h:PSS w b tb la cap T s) (sa:Option Addr) (sc:Nat) (sorts:List Int) (hs:SL w sa (intC sorts)) (hn:sorts.length≤10) :
  Calls Tryz.prog 14 #[.pointer (some ⟨b,0,none⟩),.int .i64 1,.slice sa sorts.length sc] w (ArgPost w b tb la cap T (conP T (argP T 19) sorts s)) :=
 con_any hW 1 (by omega) (fun w s sort hs h=>arg_any hW 19 (by omega) w s sort hs h) h sa sc sorts hs hn
end Go.Proofs.YtefhenfofomjhaaGreat
namespace Go.Proofs.YtefhenfofomjhaaGreat
open Go.RowKit Go.V
end Go.Proofs.YtefhenfofomjhaaGreat
