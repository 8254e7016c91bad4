/- Natural numbers: the specification's Mul. -/
import Derived.Test.YtefhenfofomjhaaGreatNt9
set_option linter.unusedSimpArgs false
set_option linter.unusedVariables false
namespace Go.Proofs.YtefhenfofomjhaaGreat
open Go.RowKit Go.V
set_option maxRecDepth 20000
def DivPost (w:World) (A B:Nat) (e:Ending) (w':World):Prop :=
 (B=0∧e = .returned (.tuple #[.slice none 0 0,.slice none 0 0,.int .i64 3])∧Below w.heap.size w w') ∨
 (B≠0∧∃ a c a' c',e = .returned (.tuple #[.slice a (lim (A / B)).length c,.slice a' (lim (A % B)).length c',.int .i64 0])∧RD w' a c (lim (A / B))∧RD w' a' c' (lim (A % B))∧Below w.heap.size w w')
theorem byLimb_gen (l:List Nat) (a:Option Addr) (c d rr:Nat) (w:World) (hr:RD w a c l) (hl:l.length≤zbS) (hd:0<d) (hd2:d<65536) (hR:val l % d=rr) :
  Calls Tryz.prog 114 #[.slice a l.length c,.int .u16 d] w fun e w'=>∃ a' c',e = .returned (.tuple #[.slice a' (lim (val l / d)).length c',.int .u16 rr])∧RD w' a' c' (lim (val l / d))∧Below w.heap.size w w':=by
 subst hR;exact byLimb_any l a c d w hr hl hd hd2
theorem val_one (m:List Nat) (h:m.length=1):val m=lat m 0:=by
 match m,h with
 | [x],_=>simp [val,lat]
theorem nrm_idem (l:List Nat):nrm (nrm l)=nrm l:=by
 induction l with
 | nil=>rfl
 | cons x l ih =>
  rw [nrm]
  split
  ·rfl
  ·rename_i h
   rw [nrm,ih,if_neg h]
set_option maxHeartbeats 1000000 in
theorem divmod1_any (l m:List Nat) (a b:Option Addr) (c d:Nat) (w:World) (hr:RD w a c l) (hs:RD w b d m) (hl:l.length≤zbS) (hm:m.length≤zbS) (h1:(nrm m).length≤1) :
  Calls Tryz.prog 98 #[.slice a l.length c,.slice b m.length d] w (DivPost w (val l) (val m)):=by
 have hl':l.length≤1000000000000:=hl
 have hm':m.length≤1000000000000:=hm
 have hn1:=zba l
 have hn2:=zba m
 refine za7 (args:=[.slice a l.length c,.slice b m.length d]) (rs:=[.tmp 4,.tmp 5,.tmp 6]) (n:=71) Tryz.func98 rfl rfl rfl (by kernel_rfl) ?_
 first|refine zzr fun K hK=>?_|refine zzt fun K hK=>?_
 simp [go_sem]
 refine hK _ _ ?_;clear hK K
 first|refine zzr fun K hK=>?_|refine zzt fun K hK=>?_
 simp [go_sem]
 refine za5 (by simp [go_sem]) rfl Tryz.call108 (fun R hR=>?_)
 simp [go_sem]
 refine (zb8 l a c _ hr hl).mono ?_
 rintro e w1 ⟨rfl,rfl⟩
 refine ⟨_,rfl,hR _ _ ?_⟩
 clear hR R
 simp [go_sem]
 refine za5 (by simp [go_sem]) rfl Tryz.call108 (fun R hR=>?_)
 simp [go_sem]
 refine (zb8 m b d _ hs hm).mono ?_
 rintro e w1 ⟨rfl,rfl⟩
 refine ⟨_,rfl,hR _ _ ?_⟩
 clear hR R
 simp [go_sem]
 refine hK _ _ ?_;clear hK K
 replace hr:=hr.nrm
 replace hs:=hs.nrm
 have hvl:=zbU l
 have hvm:=zbU m
 have hz:=zcZ m
 have hll:=nrm_idem l
 rw [←hvm] at hz
 rw [←hvl,←hvm]
 generalize nrm l=L at *
 generalize nrm m=M at *
 refine zac (fun K1 hK1=>?_)
 refine zae ?_
 first|refine zzr fun K hK=>?_|refine zzt fun K hK=>?_
 simp [go_sem]
 refine hK _ _ ?_;clear hK K
 by_cases h0:M.length=0
 ·have e0:M=[]:=List.length_eq_zero_iff.1 h0
  have hv:val M=0:=hz.1 e0
  subst e0
  refine zai (by simp [go_sem];rfl) rfl ?_
  first|refine zzr fun K hK=>?_|refine zzt fun K hK=>?_
  simp [go_sem]
  refine hK _ _ ?_;clear hK K
  refine zaf ?_
  repeat (first|refine za3 ?_|refine za2 ?_)
  refine ⟨trivial,.inl ⟨hv,?_,Below.refl _ _⟩⟩
  simp [go_sem,zat,zas]
 ·have h0':¬(M.length:Int)=0:=by omega
  have h0'':¬M=[]:=by intro e;subst e;exact h0 rfl
  have hv0:val M≠0:=fun e=>h0'' (hz.2 e)
  have hM1:M.length=1:=by omega
  refine zai (by simp [go_sem,h0,h0',h0''];rfl) rfl ?_
  first|refine zzr fun K hK=>?_|refine zzt fun K hK=>?_
  simp [go_sem]
  refine za5 (by simp [go_sem]) rfl Tryz.call113 (fun R hR=>?_)
  simp [go_sem]
  refine (cmp_any L M a b c d _ hr hs (by omega) (by omega)).mono ?_
  rintro e w2 ⟨rfl,hE2⟩
  refine ⟨_,rfl,hR _ _ ?_⟩
  clear hR R
  replace hr:=hr.ext hE2
  replace hs:=hs.ext hE2
  simp [go_sem]
  refine hK _ _ ?_;clear hK K
  by_cases hlt:val L<val M
  ·have hc:=cmpV_lt hlt
   refine zai (by simp [go_sem,hc];rfl) rfl ?_
   first|refine zzr fun K hK=>?_|refine zzt fun K hK=>?_
   simp [go_sem]
   refine za5 (by simp [go_sem]) rfl Tryz.call94 (fun R hR=>?_)
   simp [go_sem]
   refine (norm_any L a c _ hr (by omega)).mono ?_
   rintro e w3 ⟨a3,c3,rfl,hr3,hE3⟩
   refine ⟨_,rfl,hR _ _ ?_⟩
   clear hR R
   simp [go_sem]
   refine hK _ _ ?_;clear hK K
   refine zaf ?_
   repeat (first|refine za3 ?_|refine za2 ?_)
   refine ⟨trivial,.inr ⟨hv0,none,0,a3,c3,?_,?_,?_,hE2.next hE3⟩⟩
   ·rw [Nat.div_eq_of_lt hlt,Nat.mod_eq_of_lt hlt,zao,zaP L hr.ok]
    simp [go_sem,zat,zas]
   ·rw [Nat.div_eq_of_lt hlt,zao];exact RD.nil _ _ _
   ·rw [Nat.mod_eq_of_lt hlt,zaP L hr.ok];exact hr3
  ·have hc:¬cmpV (val L) (val M)<0:=by unfold cmpV;rw [if_neg hlt];split<;>omega
   refine zai (by simp [go_sem,hc];rfl) rfl ?_
   first|refine zzr fun K hK=>?_|refine zzt fun K hK=>?_
   simp [go_sem]
   refine hK _ _ ?_;clear hK K
   have hM1':(M.length:Int)=1:=by omega
   have hval:=val_one M hM1
   obtain ⟨c1,c2⟩:=hs.at (i:=0) (by omega)
   rw [Addr.add_zero'] at c1
   have hx:=zbb hs.ok 0
   rw [hval] at hv0 ⊢
   generalize lat M 0=x at *
   have p1:(0:Int)<M.length:=by omega
   have p2:0<M.length:=by omega
   refine zai (by simp [go_sem,hM1,hM1'];rfl) rfl ?_
   have hmod:=Nat.mod_lt (val L) (show 0<x by omega)
   generalize hRm:val L % x=rr at hmod ⊢
   have hw:IntKind.u64.wrap (rr:Int)=rr:=zbf _ (by omega)
   first|refine zzr fun K hK=>?_|refine zzt fun K hK=>?_
   simp [go_sem,c1,c2,p1,p2]
   refine za5 (by simp [go_sem,c1,c2,p1,p2]) rfl Tryz.call114 (fun R hR=>?_)
   simp [go_sem,c1,c2,p1,p2]
   refine (byLimb_gen L a c x rr _ hr (by omega) (by omega) hx hRm).mono ?_
   rintro e w3 ⟨a3,c3,rfl,hr3,hE3⟩
   refine ⟨_,rfl,hR _ _ ?_⟩
   clear hR R
   simp [go_sem]
   refine hK _ _ ?_;clear hK K
   first|refine zzr fun K hK=>?_|refine zzt fun K hK=>?_
   simp [go_sem,hw]
   refine za5 (by simp [go_sem,hw]) rfl Tryz.call112 (fun R hR=>?_)
   simp [go_sem,hw]
   refine (of_any rr _ (by omega)).mono ?_
   rintro e w4 ⟨a4,c4,rfl,hr4,hE4⟩
   refine ⟨_,rfl,hR _ _ ?_⟩
   clear hR R
   simp [go_sem]
   refine hK _ _ ?_;clear hK K
   refine zaf ?_
   repeat (first|refine za3 ?_|refine za2 ?_)
   refine ⟨trivial,.inr ⟨hv0,a3,c3,a4,c4,?_,hr3.ext hE4,?_,(hE2.next hE3).next hE4⟩⟩
   ·rw [hRm];simp [go_sem,zat,zas]
   ·rw [hRm];exact hr4
theorem zbc (l:List Nat) (i:Nat):val (l.take (i+1))=val (l.take i)+65536 ^ i*lat l i:=by
 by_cases h:i<l.length
 ·exact val_take l i h
 ·rw [List.take_of_length_le (by omega),List.take_of_length_le (by omega),zdI (by omega)];omega
theorem nrm_full (l:List Nat) (hok:Ok l) (k:Nat) (hk:l.length=k+1) (h:65536 ^ k≤val l):nrm l=l:=by
 have h1:=zba l
 have h2:=zc6 (nrm l) (nrm_ok l hok)
 rw [zbU] at h2
 have h3:(nrm l).length=l.length:=by
  by_cases e:(nrm l).length≤k
  ·have:65536 ^ (nrm l).length≤65536 ^ k:=Nat.pow_le_pow_right (by decide) e
   omega
  ·omega
 rw [nrm_pre,h3,List.take_length]
theorem add_step (ws A B:List Nat) (i cy s:Nat) (hw:ws.length=i) (h:val ws+65536 ^ i*cy=val (A.take i)+val (B.take i)) (hs:s=cy+lat A i+lat B i) :
  val (ws++[s % 65536])+65536 ^ (i+1)*(s / 65536)=val (A.take (i+1))+val (B.take (i+1)):=by
 rw [zdH,hw,zbc A i,zbc B i,Nat.pow_succ]
 generalize 65536 ^ i=P at *
 have e1:P*(s % 65536)+P*65536*(s / 65536)=P*s:=by rw [Nat.mul_assoc,←Nat.mul_add,Nat.mod_add_div]
 have e2:P*s=P*cy+P*lat A i+P*lat B i:=by rw [hs,Nat.mul_add,Nat.mul_add]
 simp only [val,Nat.mul_zero,Nat.add_zero]
 omega
theorem set_next (ws:List Nat) (i n x:Nat) (hw:ws.length=i):(ws++List.replicate (n+1) 0).set i x=(ws++[x])++List.replicate n 0:=by
 rw [List.set_append_right _ _ (by omega),hw,Nat.sub_self,List.replicate_succ,List.set_cons_zero,List.append_assoc];rfl
abbrev zcq:Nat:=100000000000
theorem RD.lt {w:World} {a:Option Addr} {c:Nat} {l:List Nat} (h:RD w a c l):∀ ad,a=some ad→l≠[]→ad.block<w.heap.size:=by
 intro ad ha hn
 obtain ⟨b',off,e,hlt⟩:=h.sl.lt (by intro e;exact hn (List.map_eq_nil_iff.1 e))
 rw [ha] at e;injection e with e;subst e
 exact hlt
theorem RD.grown {w w':World} {a:Option Addr} {c:Nat} {l:List Nat} {row:Option Nat} (h:RD w a c l) (hg:w.grownBy w' row) (hne:∀ ad,a=some ad→l≠[]→some ad.block≠row):RD w' a c l:=by
 refine ⟨?_,h.ok,h.cap⟩
 rcases h.sl with h'|⟨b,off,e,h'⟩
 ·exact .inl h'
 ·by_cases hx:l=[]
  ·exact .inl (by subst hx;rfl)
  ·exact .inr ⟨b,off,e,fun j v hv=>hg.cell (h' j v hv) (show some b≠row from hne ⟨b,off,none⟩ e hx)⟩
theorem own_ne {w0 w:World} {e size n:Nat} {v:Value} {xs:List Value} {a:Option Addr} {l:List Nat} (hown:w.ownsRow w0.heap.size e size v n xs) (h:∀ ad,a=some ad→l≠[]→ad.block<w0.heap.size):∀ ad,a=some ad→l≠[]→some ad.block≠v.ownBlock:=by
 intro ad ha hn e
 have h1:=h ad ha hn
 have h2:=(hown.lt _ e.symm).1
 omega
set_option maxHeartbeats 2000000 in
theorem addR_any (l m:List Nat) (a b:Option Addr) (c d:Nat) (w:World) (hr:RD w a c l) (hs:RD w b d m) (hl:l.length≤zcq) (hm:m.length≤zcq) :
  Calls Tryz.prog 133 #[.slice a l.length c,.slice b m.length d] w (RetN w (lim (val l+val m))):=by
 have hl':l.length≤100000000000:=hl
 have hm':m.length≤100000000000:=hm
 obtain ⟨N,hN1,hN2,hN3,hN4⟩:∃ N,l.length≤N∧m.length≤N∧N≤100000000000∧(N=l.length∨N=m.length):=by
  by_cases h:l.length≤m.length
  ·exact ⟨m.length,h,Nat.le_refl _,hm',.inr rfl⟩
  ·exact ⟨l.length,Nat.le_refl _,by omega,hl',.inl rfl⟩
 have hba:=hr.lt
 have hbb:=hs.lt
 refine za7 (args:=[.slice a l.length c,.slice b m.length d]) (rs:=[.tmp 4]) (n:=44) Tryz.func133 rfl rfl rfl (by kernel_rfl) ?_
 first|refine zzr fun K hK=>?_|refine zzt fun K hK=>?_
 simp [go_sem]
 refine hK _ _ ?_;clear hK K
 first|refine zzr fun K hK=>?_|refine zzt fun K hK=>?_
 simp [go_sem]
 refine hK _ _ ?_;clear hK K
 first|refine zzr fun K hK=>?_|refine zzt fun K hK=>?_
 simp [go_sem]
 refine hK _ _ ?_;clear hK K
 refine zac (fun K1 hK1=>?_)
 first|refine zzr fun K hK=>?_|refine zzt fun K hK=>?_
 simp [go_sem]
 refine hK _ _ ?_;clear hK K
 refine zae ?_
 refine zaE (fun k g w'=>Below w.heap.size w w'∧RD w' a c l∧RD w' b d m∧∃ (i cy:Nat) (ws:List Nat) (v:Value),i≤N+1∧k=N+1-i∧g 0 = .slice a l.length c∧g 1 = .slice b m.length d∧g 5=v∧g 6 = .int .i64 cy∧g 7 = .int .i64 i ∧
  w'.ownsRow w.heap.size 123 1 v i (lmC ws)∧ws.length=i∧Ok ws∧cy≤1∧(i=N+1→cy=0)∧val ws+65536 ^ i*cy=val (l.take i)+val (m.take i)) (N+1) ?_ ?_
 ·exact ⟨Below.refl _ _,hr,hs,0,0,[],.slice none 0 0,by omega,rfl,by simp [go_sem],by simp [go_sem],by simp [go_sem],by simp [go_sem],by simp [go_sem],World.ownsRow_nil _ _ _ _,rfl,Ok.nil,by omega,by omega,by simp [val]⟩
 ·clear hr hs
  rintro k g w' ⟨hE,hr,hs,i,cy,ws,v,hi,rfl,g0,g1,g5,g6,g7,hown,hwl,hwok,hcy,hlast,hval⟩
  refine zac (fun K2 hK2=>?_)
  refine zei (fun g' w1=>w1=w'∧g' 0 = .slice a l.length c∧g' 1 = .slice b m.length d∧g' 5=v∧g' 6 = .int .i64 cy∧g' 7 = .int .i64 i∧g' 22 = .bool (decide (i<l.length) || (decide (i<m.length) || decide (0<cy)))) (by kernel_rfl) ?_ ?_
  ·by_cases h1:i<l.length
   ·have h1':(i:Int)<l.length:=by omega
    simp [go_sem,g0,g1,g5,g6,g7,h1,h1']
   ·have h1':¬(i:Int)<l.length:=by omega
    by_cases h2:i<m.length
    ·have h2':(i:Int)<m.length:=by omega
     simp [go_sem,g0,g1,g5,g6,g7,h1,h1',h2,h2']
    ·have h2':¬(i:Int)<m.length:=by omega
     simp [go_sem,g0,g1,g5,g6,g7,h1,h1',h2,h2']
  ·clear g0 g1 g5 g6 g7
   rintro g' w1 ⟨rfl,g0,g1,g5,g6,g7,g22⟩
   refine zai g22 rfl ?_
   by_cases hgo:i<l.length∨i<m.length∨0<cy
   ·have hgb:(decide (i<l.length) || (decide (i<m.length) || decide (0<cy)))=true:=by simpa using hgo
    have hiN:i≤N:=by
     by_cases e:i=N+1
     ·have:=hlast e;omega
     ·omega
    have hx:=zbb hr.ok i
    have hy:=zbb hs.ok i
    obtain ⟨sm,hsm⟩:∃ sm,sm=cy+lat l i+lat m i:=⟨_,rfl⟩
    have hstep:=add_step ws l m i cy sm hwl hval hsm
    have hlast':i+1=N+1→sm / 65536=0:=by
     intro e
     have z1:lat l i=0:=zdI (by omega)
     have z2:lat m i=0:=zdI (by omega)
     omega
    have e3:IntKind.i64.wrap ((lat l i:Int)+lat m i)=(lat l i:Int)+lat m i:=IntWalk.i64_in _ (by omega)
    have e4:IntKind.i64.wrap ((lat l i:Int)+lat m i+cy)=(sm:Int):=by rw [IntWalk.i64_in _ (by omega)];omega
    have e5:(sm:Int).tmod 65536=((sm % 65536:Nat):Int):=rfl
    have e5':IntKind.u16.wrap ((sm % 65536:Nat):Int)=((sm % 65536:Nat):Int):=ze2 _ (by omega)
    have e6:(sm:Int).tdiv 65536=((sm / 65536:Nat):Int):=rfl
    have e6':IntKind.i64.wrap ((sm / 65536:Nat):Int)=((sm / 65536:Nat):Int):=IntWalk.i64_in _ (by omega)
    have hw1:IntKind.i64.wrap (↑i+1)=(i:Int)+1:=IntWalk.i64_in _ (by omega)
    have hQ':sm % 65536<65536:=by omega
    have hC':sm / 65536≤1:=by omega
    generalize hQ:sm % 65536=Q at *
    generalize hC:sm / 65536=C at *
    simp only [hgb]
    refine zaa ?_
    refine hK2 _ _ ?_;clear hK2 K2
    refine zac (fun K2 hK2=>?_)
    refine zae ?_
    first|refine zzr fun K hK=>?_|refine zzt fun K hK=>?_
    simp [go_sem,g0,g1,g7]
    refine za5 (by simp [go_sem,g0,g1,g7]) rfl Tryz.call137 (fun R hR=>?_)
    simp [go_sem,g0,g1,g7]
    refine (zd5 l a c i _ hr).mono ?_
    rintro e w2 ⟨rfl,rfl⟩
    refine ⟨_,rfl,hR _ _ ?_⟩
    clear hR R
    simp [go_sem,g0,g1,g7]
    refine za5 (by simp [go_sem,g0,g1,g7]) rfl Tryz.call137 (fun R hR=>?_)
    simp [go_sem,g0,g1,g7]
    refine (zd5 m b d i _ hs).mono ?_
    rintro e w2 ⟨rfl,rfl⟩
    refine ⟨_,rfl,hR _ _ ?_⟩
    clear hR R
    simp [go_sem,g6,e3,e4]
    refine hK _ _ ?_;clear hK K
    first|refine zzr fun K hK=>?_|refine zzt fun K hK=>?_
    simp [go_sem,g5,e5,e5']
    refine zaq #[.int .u16 Q] (by simp [go_sem,e5,e5']) rfl zaU (by decide) [(0,.int .u16 Q)] (by simp [go_sem,e5,e5']) (by kernel_rfl) (fun w8 b8 hE8 hle8 hB8=>?_)
    have hown8:=own_keep hown hE8
    replace hr:=hr.ext hE8
    replace hs:=hs.ext hE8
    replace hE:=hE.next hE8
    simp [go_sem]
    refine zbz (v:=v) (b:=b8) (len:=1) (c:=1) hB8 (by simp [go_sem]) rfl zaU zaK rfl (by decide) (by simp [go_sem,g5]) (by simp [go_sem]) hown8 rfl (by simp [Value.oneCell']) (by unfold maxLen;omega) (by omega) hE.size (by decide) (fun v' w9 hown9 hg9 _=>?_)
    have hn1:=own_ne hown8 hba
    have hn2:=own_ne hown8 hbb
    replace hr:=hr.grown hg9 hn1
    replace hs:=hs.grown hg9 hn2
    replace hE:=hE.nextG hg9 (fun b e=>(hown8.lt b e).1)
    clear hn1 hn2 hown hown8 hE8 hB8 hg9
    simp [go_sem]
    refine hK _ _ ?_;clear hK K
    refine zzt fun K hK=>?_
    simp [go_sem,e6,e6']
    refine hK _ _ ?_;clear hK K
    refine hK2 _ _ ?_;clear hK2 K2
    refine zzt fun K hK=>?_
    simp [go_sem,g7,hw1]
    refine hK _ _ ⟨N+1-(i+1),by omega,hE,hr,hs,i+1,C,ws++[Q],v',by omega,rfl,by simp [go_sem,g0],by simp [go_sem,g1],by simp [go_sem],by simp [go_sem],by simp [go_sem],?_,by simp [hwl],hwok.app (Ok.cons hQ' Ok.nil),hC',hlast',hstep⟩
    rw [lmC_snoc];exact hown9
   ·have hgb:(decide (i<l.length) || (decide (i<m.length) || decide (0<cy)))=false:=by
     simp only [not_or] at hgo
     simp [hgo.1,hgo.2.1];omega
    have hc0:cy=0:=by omega
    subst hc0
    rw [List.take_of_length_le (by omega),List.take_of_length_le (by omega),Nat.mul_zero,Nat.add_zero] at hval
    have hres:lim (val l+val m)=nrm ws:=by rw [←hval,zaP ws hwok]
    obtain ⟨a9,c9,rfl,hr9⟩:=RD.of_own hown hwok
    simp only [hgb]
    refine zaz ?_
    repeat (first|refine zag ?_|refine za8 rfl ?_|refine zab ?_)
    refine hK1 _ _ ?_;clear hK1 K1 hK2 K2
    rw [hres]
    first|refine zzr fun K hK=>?_|refine zzt fun K hK=>?_
    simp [go_sem,g5]
    refine za5 (by simp [go_sem,g5]) rfl Tryz.call121 (fun R hR=>?_)
    simp [go_sem,g5]
    refine (zbX ws a9 c9 _ hr9 (by unfold zbS;omega)).mono ?_
    rintro e w2 ⟨a2,c2,rfl,hr2,hE2⟩
    refine ⟨_,rfl,hR _ _ ?_⟩
    clear hR R
    simp [go_sem]
    refine hK _ _ ?_;clear hK K
    refine zaf ?_
    repeat (first|refine za3 ?_|refine za2 ?_)
    refine ⟨trivial,a2,c2,?_,hr2,hE.next hE2⟩
    simp [go_sem,zat,zas]
def SubPost (w:World) (A B:Nat) (e:Ending) (w':World):Prop :=
 (A<B∧e = .returned (.tuple #[.slice none 0 0,.int .i64 2])∧Below w.heap.size w w') ∨
 (B≤A∧∃ a c,e = .returned (.tuple #[.slice a (lim (A-B)).length c,.int .i64 0])∧RD w' a c (lim (A-B))∧Below w.heap.size w w')
theorem sub_step (ws A B:List Nat) (i bo bo' Q:Nat) (hw:ws.length=i) (h:val ws+val (B.take i)=val (A.take i)+65536 ^ i*bo) (hs:lat A i+65536*bo'=Q+bo+lat B i) :
  val (ws++[Q])+val (B.take (i+1))=val (A.take (i+1))+65536 ^ (i+1)*bo':=by
 rw [zdH,hw,zbc A i,zbc B i,Nat.pow_succ]
 generalize 65536 ^ i=P at *
 have e1:P*(lat A i+65536*bo')=P*(Q+bo+lat B i):=by rw [hs]
 rw [Nat.mul_add,Nat.mul_add,Nat.mul_add,←Nat.mul_assoc] at e1
 simp only [val,Nat.mul_zero,Nat.add_zero]
 omega
theorem sub_end (ws A B:List Nat) (bo:Nat) (hok:Ok ws) (hw:ws.length=A.length) (h:val ws+val B=val A+65536 ^ A.length*bo) (hle:val B≤val A):lim (val A-val B)=nrm ws:=by
 have h1:=zc6 ws hok
 rw [hw] at h1
 have hb:bo=0:=by
  rcases bo with _|n
  ·rfl
  ·exfalso
   have:65536 ^ A.length*1≤65536 ^ A.length*(n+1):=Nat.mul_le_mul_left _ (by omega)
   omega
 subst hb
 rw [←zaP ws hok]
 congr 1
 omega
theorem val_split:∀ (i:Nat) (l:List Nat),val l=val (l.take i)+65536 ^ i*val (l.drop i)
 | 0,l=>by simp [val]
 | i+1,[]=>by simp [val]
 | i+1,x::l=>by
  rw [List.take_succ_cons,List.drop_succ_cons,val,val,val_split i l,Nat.pow_succ,Nat.mul_add,←Nat.mul_assoc,Nat.mul_comm 65536 (65536 ^ i)]
  omega
theorem zdK (l:List Nat) (h:Ok l) (i:Nat):val (l.take i)<65536 ^ i:=by
 have h1:=zc6 (l.take i) (h.take i)
 have:65536 ^ (l.take i).length≤65536 ^ i:=Nat.pow_le_pow_right (by decide) (by rw [List.length_take];omega)
 omega
theorem val_take_full (l:List Nat) (h:Ok l) (i:Nat) (hv:val l<65536 ^ i):val (l.take i)=val l:=by
 have h1:=val_split i l
 have h2:val (l.drop i)=0:=by
  rcases hz:val (l.drop i) with _|n
  ·rfl
  ·exfalso
   rw [hz] at h1
   have:65536 ^ i*1≤65536 ^ i*(n+1):=Nat.mul_le_mul_left _ (by omega)
   omega
 rw [h2] at h1;omega
set_option maxHeartbeats 2000000 in
theorem subR_any (l m:List Nat) (a b:Option Addr) (c d:Nat) (w:World) (hr:RD w a c l) (hs:RD w b d m) (hl:l.length≤zbS) (hm:m.length≤zbS) :
  Calls Tryz.prog 136 #[.slice a l.length c,.slice b m.length d] w (SubPost w (val l) (val m)):=by
 have hl':l.length≤1000000000000:=hl
 have hm':m.length≤1000000000000:=hm
 have hba:=hr.lt
 have hbb:=hs.lt
 refine za7 (args:=[.slice a l.length c,.slice b m.length d]) (rs:=[.tmp 4,.tmp 5]) (n:=40) Tryz.func136 rfl rfl rfl (by kernel_rfl) ?_
 first|refine zzr fun K hK=>?_|refine zzt fun K hK=>?_
 simp [go_sem]
 refine hK _ _ ?_;clear hK K
 refine zac (fun K1 hK1=>?_)
 first|refine zzr fun K hK=>?_|refine zzt fun K hK=>?_
 simp [go_sem]
 refine za5 (by simp [go_sem]) rfl Tryz.call139 (fun R hR=>?_)
 simp [go_sem]
 refine (cmpR_any l m a b c d _ hr hs hl hm).mono ?_
 rintro e w2 ⟨rfl,rfl⟩
 refine ⟨_,rfl,hR _ _ ?_⟩
 clear hR R
 simp [go_sem]
 refine hK _ _ ?_;clear hK K
 by_cases hlt:val l<val m
 ·have hc:=cmpV_lt hlt
  refine zai (by simp [go_sem,hc];rfl) rfl ?_
  first|refine zzr fun K hK=>?_|refine zzt fun K hK=>?_
  simp [go_sem]
  refine hK _ _ ?_;clear hK K
  refine zaf ?_
  repeat (first|refine za3 ?_|refine za2 ?_)
  refine ⟨trivial,.inl ⟨hlt,?_,Below.refl _ _⟩⟩
  simp [go_sem,zat,zas]
 ·have hc:¬cmpV (val l) (val m)<0:=by unfold cmpV;rw [if_neg hlt];split<;>omega
  refine zai (by simp [go_sem,hc];rfl) rfl ?_
  refine zaa ?_
  refine hK1 _ _ ?_;clear hK1 K1
  first|refine zzr fun K hK=>?_|refine zzt fun K hK=>?_
  simp [go_sem]
  refine hK _ _ ?_;clear hK K
  first|refine zzr fun K hK=>?_|refine zzt fun K hK=>?_
  simp [go_sem]
  refine hK _ _ ?_;clear hK K
  refine zac (fun K1 hK1=>?_)
  first|refine zzr fun K hK=>?_|refine zzt fun K hK=>?_
  simp [go_sem]
  refine hK _ _ ?_;clear hK K
  refine zae ?_
  refine zaE (fun k g w'=>Below w.heap.size w w'∧RD w' a c l∧RD w' b d m∧∃ (i bo:Nat) (ws:List Nat) (v:Value),i≤l.length∧k=l.length-i∧g 0 = .slice a l.length c∧g 1 = .slice b m.length d∧g 6=v∧g 7 = .int .i64 bo∧g 8 = .int .i64 i ∧
   w'.ownsRow w.heap.size 123 1 v i (lmC ws)∧ws.length=i∧Ok ws∧bo≤1∧val ws+val (m.take i)=val (l.take i)+65536 ^ i*bo) l.length ?_ ?_
  ·exact ⟨Below.refl _ _,hr,hs,0,0,[],.slice none 0 0,by omega,rfl,by simp [go_sem],by simp [go_sem],by simp [go_sem],by simp [go_sem],by simp [go_sem],World.ownsRow_nil _ _ _ _,rfl,Ok.nil,by omega,by simp [val]⟩
  ·clear hr hs
   rintro k g w' ⟨hE,hr,hs,i,bo,ws,v,hi,rfl,g0,g1,g6,g7,g8,hown,hwl,hwok,hbo,hval⟩
   refine zac (fun K2 hK2=>?_)
   first|refine zzr fun K hK=>?_|refine zzt fun K hK=>?_
   simp [go_sem,g0,g8]
   refine hK _ _ ?_;clear hK K
   by_cases hlt2:i<l.length
   ·have hlt':(i:Int)<l.length:=by omega
    have hx:=zbb hr.ok i
    have hy:=zbb hs.ok i
    have e3:IntKind.i64.wrap ((lat l i:Int)-lat m i)=(lat l i:Int)-lat m i:=IntWalk.i64_in _ (by omega)
    obtain ⟨D,hD⟩:∃ D:Int,D=(lat l i:Int)-lat m i-bo:=⟨_,rfl⟩
    have e4:IntKind.i64.wrap ((lat l i:Int)-lat m i-bo)=D:=by rw [hD];exact IntWalk.i64_in _ (by omega)
    have hw1:IntKind.i64.wrap (↑i+1)=(i:Int)+1:=IntWalk.i64_in _ (by omega)
    refine zai (by simp [go_sem,hlt2,hlt'];rfl) rfl ?_
    refine zaa ?_
    refine hK2 _ _ ?_;clear hK2 K2
    refine zac (fun K2 hK2=>?_)
    refine zae ?_
    first|refine zzr fun K hK=>?_|refine zzt fun K hK=>?_
    simp [go_sem,g0,g1,g8]
    refine za5 (by simp [go_sem,g0,g1,g8]) rfl Tryz.call137 (fun R hR=>?_)
    simp [go_sem,g0,g1,g8]
    refine (zd5 l a c i _ hr).mono ?_
    rintro e w2 ⟨rfl,rfl⟩
    refine ⟨_,rfl,hR _ _ ?_⟩
    clear hR R
    simp [go_sem,g0,g1,g8]
    refine za5 (by simp [go_sem,g0,g1,g8]) rfl Tryz.call137 (fun R hR=>?_)
    simp [go_sem,g0,g1,g8]
    refine (zd5 m b d i _ hs).mono ?_
    rintro e w2 ⟨rfl,rfl⟩
    refine ⟨_,rfl,hR _ _ ?_⟩
    clear hR R
    simp [go_sem,g7,e3,e4]
    refine hK _ _ ?_;clear hK K
    first|refine zzr fun K hK=>?_|refine zzt fun K hK=>?_
    simp [go_sem]
    refine hK _ _ ?_;clear hK K
    refine zac (fun K3 hK3=>?_)
    first|refine zzr fun K hK=>?_|refine zzt fun K hK=>?_
    simp [go_sem]
    refine hK _ _ ?_;clear hK K
    have store:∀ (g':G) (bo' Q:Nat),Q<65536→bo'≤1→lat l i+65536*bo'=Q+bo+lat m i→g' 0 = .slice a l.length c→g' 1 = .slice b m.length d→g' 6=v→g' 7 = .int .i64 bo'→g' 8 = .int .i64 i→g' 9 = .int .i64 Q→K3 g' w':=by
     clear g0 g1 g6 g7 g8
     intro g' bo' Q hQ hbo' heq g0 g1 g6 g7 g8 g9
     refine hK3 _ _ ?_;clear hK3 K3
     have e5:IntKind.u16.wrap (Q:Int)=Q:=ze2 _ (by omega)
     have hstep:=sub_step ws l m i bo bo' Q hwl hval heq
     refine zzt fun K hK=>?_
     simp [go_sem,g6,g9,e5]
     refine zaq #[.int .u16 Q] (by simp [go_sem,g9,e5]) rfl zaU (by decide) [(0,.int .u16 Q)] (by simp [go_sem,g9,e5]) (by kernel_rfl) (fun w8 b8 hE8 hle8 hB8=>?_)
     have hown8:=own_keep hown hE8
     replace hr:=hr.ext hE8
     replace hs:=hs.ext hE8
     replace hE:=hE.next hE8
     simp [go_sem]
     refine zbz (v:=v) (b:=b8) (len:=1) (c:=1) hB8 (by simp [go_sem]) rfl zaU zaK rfl (by decide) (by simp [go_sem,g6]) (by simp [go_sem]) hown8 rfl (by simp [Value.oneCell']) (by unfold maxLen;omega) (by omega) hE.size (by decide) (fun v' w9 hown9 hg9 _=>?_)
     have hn1:=own_ne hown8 hba
     have hn2:=own_ne hown8 hbb
     replace hr:=hr.grown hg9 hn1
     replace hs:=hs.grown hg9 hn2
     replace hE:=hE.nextG hg9 (fun b e=>(hown8.lt b e).1)
     clear hn1 hn2 hown hown8 hE8 hB8 hg9
     simp [go_sem]
     refine hK _ _ ?_;clear hK K
     refine hK2 _ _ ?_;clear hK2 K2
     refine zzt fun K hK=>?_
     simp [go_sem,g8,hw1]
     refine hK _ _ ⟨l.length-(i+1),by omega,hE,hr,hs,i+1,bo',ws++[Q],v',by omega,rfl,by simp [go_sem,g0],by simp [go_sem,g1],by simp [go_sem],by simp [go_sem,g7],by simp [go_sem],?_,by simp [hwl],hwok.app (Ok.cons hQ Ok.nil),hbo',hstep⟩
     rw [lmC_snoc];exact hown9
    by_cases hneg:D<0
    ·obtain ⟨Q,hQ⟩:∃ Q:Nat,D+65536=Q:=⟨(D+65536).toNat,by omega⟩
     have e6:IntKind.i64.wrap (D+65536)=D+65536:=IntWalk.i64_in _ (by omega)
     rw [hQ] at e6
     refine zai (by simp [go_sem,hneg];rfl) rfl ?_
     first|refine zzr fun K hK=>?_|refine zzt fun K hK=>?_
     simp [go_sem,e6,hQ]
     refine hK _ _ ?_;clear hK K
     refine zzt fun K hK=>?_
     simp [go_sem]
     refine hK _ _ ?_;clear hK K
     exact store _ 1 Q (by omega) (by omega) (by omega) (by simp [go_sem,g0]) (by simp [go_sem,g1]) (by simp [go_sem,g6]) (by simp [go_sem]) (by simp [go_sem,g8]) (by simp [go_sem])
    ·obtain ⟨Q,hQ⟩:∃ Q:Nat,D=Q:=⟨D.toNat,by omega⟩
     refine zai (by simp [go_sem,hneg];rfl) rfl ?_
     refine zaa ?_
     exact store _ 0 Q (by omega) (by omega) (by omega) (by simp [go_sem,g0]) (by simp [go_sem,g1]) (by simp [go_sem,g6]) (by simp [go_sem]) (by simp [go_sem,g8]) (by simp [go_sem,hQ])
   ·have him:i=l.length:=by omega
    subst him
    have hml:val m<65536 ^ l.length:=by have:=zc6 l hr.ok;omega
    rw [List.take_length,val_take_full m hs.ok l.length hml] at hval
    have hres:=sub_end ws l m bo hwok hwl hval (by omega)
    obtain ⟨a9,c9,rfl,hr9⟩:=RD.of_own hown hwok
    refine zai (by simp [go_sem,hlt2];rfl) rfl ?_
    refine zaz ?_
    repeat (first|refine zag ?_|refine za8 rfl ?_|refine zab ?_)
    refine hK1 _ _ ?_;clear hK1 K1 hK2 K2
    first|refine zzr fun K hK=>?_|refine zzt fun K hK=>?_
    simp [go_sem,g6]
    refine za5 (by simp [go_sem,g6]) rfl Tryz.call121 (fun R hR=>?_)
    simp [go_sem,g6]
    refine (zbX ws a9 c9 _ hr9 (by omega)).mono ?_
    rintro e w2 ⟨a2,c2,rfl,hr2,hE2⟩
    refine ⟨_,rfl,hR _ _ ?_⟩
    clear hR R
    simp [go_sem]
    refine hK _ _ ?_;clear hK K
    refine zaf ?_
    repeat (first|refine za3 ?_|refine za2 ?_)
    refine ⟨trivial,.inr ⟨by omega,a2,c2,?_,?_,hE.next hE2⟩⟩
    ·rw [hres];simp [go_sem,zat,zas]
    ·rw [hres];exact hr2
theorem val_set (l:List Nat) (j x:Nat) (h:j<l.length):val (l.set j x)+65536 ^ j*lat l j=val l+65536 ^ j*x:=by
 induction l generalizing j with
 | nil=>simp at h
 | cons y l ih =>
  cases j with
  | zero=>simp [val,lat];omega
  | succ j =>
   have:=ih j (by simpa using h)
   have e:lat (y::l) (j+1)=lat l j:=rfl
   rw [List.set_cons_succ,val,val,e,Nat.pow_succ,Nat.mul_comm (65536 ^ j) 65536,Nat.mul_assoc,Nat.mul_assoc]
   omega
theorem zd0 (l:List Nat) (i j x:Nat) (h:i≠j):lat (l.set i x) j=lat l j:=by
 simp [lat,List.getD_eq_getElem?_getD,List.getElem?_set_ne h]
theorem Ok.set {l:List Nat} (h:Ok l) (j x:Nat) (hx:x<65536):Ok (l.set j x):=by
 intro y hy
 rcases List.mem_or_eq_of_mem_set hy with h'|h'
 ·exact h y h'
 ·rw [h'];exact hx
theorem bx_at {w:World} {b:Nat} {t:TypeId} {l:List Nat} (h:Bx w b (lmC l).toArray t) {j:Nat} (hj:j<l.length):w.cell? ⟨b,j,none⟩=some (.int .u16 (lat l j)):=by
 rw [h.cell,List.getElem?_toArray,lmC_get,List.getElem?_eq_getElem hj]
 simp [lat,List.getD_eq_getElem?_getD,List.getElem?_eq_getElem hj]
theorem mul_step (O O0 B:List Nat) (i k cy x s:Nat) (hj:i+k<O.length) (h:val O+65536 ^ (i+k)*cy=val O0+65536 ^ i*(x*val (B.take k))) (hs:s=cy+lat O (i+k)+x*lat B k) :
  val (O.set (i+k) (s % 65536))+65536 ^ (i+(k+1))*(s / 65536)=val O0+65536 ^ i*(x*val (B.take (k+1))):=by
 have h1:=val_set O (i+k) (s % 65536) hj
 rw [zbc B k,←Nat.add_assoc,Nat.pow_succ,Nat.mul_add,Nat.mul_add]
 have e3:65536 ^ i*(x*(65536 ^ k*lat B k))=65536 ^ (i+k)*(x*lat B k):=by
  rw [Nat.pow_add,Nat.mul_assoc,Nat.mul_left_comm x]
 rw [e3]
 generalize 65536 ^ (i+k)=P at *
 have e1:P*(s % 65536)+P*65536*(s / 65536)=P*s:=by rw [Nat.mul_assoc,←Nat.mul_add,Nat.mod_add_div]
 have e2:P*s=P*cy+P*lat O (i+k)+P*(x*lat B k):=by rw [hs,Nat.mul_add,Nat.mul_add]
 omega
set_option maxHeartbeats 4000000 in
theorem mul_any (l m:List Nat) (a b:Option Addr) (c d:Nat) (w:World) (hr:RD w a c l) (hs:RD w b d m) (hl:l.length≤zcq) (hm:m.length≤zcq) :
  Calls Tryz.prog 93 #[.slice a l.length c,.slice b m.length d] w (RetN w (lim (val l*val m))):=by
 have hl':l.length≤100000000000:=hl
 have hm':m.length≤100000000000:=hm
 have hn1:=zba l
 have hn2:=zba m
 refine za7 (args:=[.slice a l.length c,.slice b m.length d]) (rs:=[.tmp 4]) (n:=79) Tryz.func93 rfl rfl rfl (by kernel_rfl) ?_
 first|refine zzr fun K hK=>?_|refine zzt fun K hK=>?_
 simp [go_sem]
 refine hK _ _ ?_;clear hK K
 first|refine zzr fun K hK=>?_|refine zzt fun K hK=>?_
 simp [go_sem]
 refine za5 (by simp [go_sem]) rfl Tryz.call108 (fun R hR=>?_)
 simp [go_sem]
 refine (zb8 l a c _ hr (by unfold zbS;omega)).mono ?_
 rintro e w1 ⟨rfl,rfl⟩
 refine ⟨_,rfl,hR _ _ ?_⟩
 clear hR R
 simp [go_sem]
 refine za5 (by simp [go_sem]) rfl Tryz.call108 (fun R hR=>?_)
 simp [go_sem]
 refine (zb8 m b d _ hs (by unfold zbS;omega)).mono ?_
 rintro e w1 ⟨rfl,rfl⟩
 refine ⟨_,rfl,hR _ _ ?_⟩
 clear hR R
 simp [go_sem]
 refine hK _ _ ?_;clear hK K
 have hvl:=zbU l
 have hvm:=zbU m
 replace hr:=hr.nrm
 replace hs:=hs.nrm
 rw [←hvl,←hvm]
 generalize nrm l=A at *
 generalize nrm m=B at *
 clear hvl hvm
 refine zac (fun K1 hK1=>?_)
 by_cases h0:A=[]∨B=[]
 ·have hv:lim (val A*val B)=[]:=by
   rcases h0 with rfl|rfl
   ·simp [val,zao]
   ·simp [val,zao]
  refine zei (fun g' w'=>w'=w∧g' 22 = .bool true) (by kernel_rfl) ?_ ?_
  ·by_cases hA:A=[]
   ·subst hA
    simp [go_sem]
   ·have hB:B=[]:=by rcases h0 with h|h;exact absurd h hA;exact h
    subst hB
    have hA':¬A.length=0:=fun e=>hA (List.length_eq_zero_iff.1 e)
    have hA'':¬(A.length:Int)=0:=by omega
    simp [go_sem,hA,hA',hA'']
  ·rintro g' w' ⟨rfl,g22⟩
   refine zai g22 rfl ?_
   first|refine zzr fun K hK=>?_|refine zzt fun K hK=>?_
   simp [go_sem]
   refine hK _ _ ?_;clear hK K
   refine zaf ?_
   repeat (first|refine za3 ?_|refine za2 ?_)
   rw [hv]
   refine ⟨trivial,none,0,?_,RD.nil _ _ _,Below.refl _ _⟩
   simp [go_sem,zat,zas]
 ·simp only [not_or] at h0
  obtain ⟨hA,hB⟩:=h0
  have hA':¬A.length=0:=fun e=>hA (List.length_eq_zero_iff.1 e)
  have hA'':¬(A.length:Int)=0:=by omega
  have hB':¬B.length=0:=fun e=>hB (List.length_eq_zero_iff.1 e)
  have hB'':¬(B.length:Int)=0:=by omega
  first|refine zzr fun K hK=>?_|refine zzt fun K hK=>?_
  simp [go_sem,hA,hA',hA'',hB,hB',hB'']
  refine hK _ _ ?_;clear hK K
  refine zai (by simp [go_sem,hA,hA',hA'',hB,hB',hB''];rfl) rfl ?_
  refine zaa ?_
  refine hK1 _ _ ?_;clear hK1 K1
  obtain ⟨N,hN⟩:∃ N,N=A.length+B.length:=⟨_,rfl⟩
  have hwN:IntKind.i64.wrap (↑A.length + ↑B.length)=(N:Int):=by rw [IntWalk.i64_in _ (by omega)];omega
  have hbr:=fun b (hb:w.heap.size≤b)=>hr.below hb
  have hbs:=fun b (hb:w.heap.size≤b)=>hs.below hb
  first|refine zzr fun K hK=>?_|refine zzt fun K hK=>?_
  simp [go_sem,hwN]
  refine hv_make (kl:=.i64) (kc:=.i64) N N (by simp [go_sem,hwN]) rfl zaU zaK (by simp [go_sem,hwN]) (by simp [go_sem,hwN]) (by omega) (by omega) (by omega) (fun w2 b2 hE2 hle2 hB2=>?_)
  rw [Nat.mul_one,zbB,lm_zeros] at hB2
  replace hr:=hr.ext hE2
  replace hs:=hs.ext hE2
  have hne1:=hbr b2 hle2
  have hne2:=hbs b2 hle2
  clear hbr hbs
  simp [go_sem]
  refine hK _ _ ?_;clear hK K
  refine zac (fun K1 hK1=>?_)
  first|refine zzr fun K hK=>?_|refine zzt fun K hK=>?_
  simp [go_sem]
  refine hK _ _ ?_;clear hK K
  refine zae ?_
  refine zaE (fun k g w'=>Below w.heap.size w w'∧RD w' a c A∧RD w' b d B∧∃ (i:Nat) (O:List Nat),i≤A.length∧k=A.length-i∧g 1 = .slice b B.length d∧g 5 = .slice (some ⟨b2,0,none⟩) N N ∧
   g 29 = .slice a A.length c∧g 30 = .int .i64 A.length∧g 31 = .int .i64 i∧Bx w' b2 (lmC O).toArray 123∧O.length=N∧Ok O∧(∀ j,i+B.length≤j→lat O j=0)∧val O=val (A.take i)*val B) A.length ?_ ?_
  ·refine ⟨hE2,hr,hs,0,List.replicate N 0,by omega,rfl,by simp [go_sem],by simp [go_sem],by simp [go_sem],by simp [go_sem],by simp [go_sem],hB2,by simp,Ok.zeros N,?_,by simp [val_zeros,val]⟩
   intro j _
   unfold lat;rw [List.getD_eq_getElem?_getD,List.getElem?_replicate]
   split<;>rfl
  ·clear hr hs hE2 hB2
   rintro k g w' ⟨hE,hr,hs,i,O0,hi,rfl,g1,g5,g29,g30,g31,hBx,hOl,hOok,hOz,hval⟩
   first|refine zzr fun K hK=>?_|refine zzt fun K hK=>?_
   simp [go_sem,g30,g31]
   refine hK _ _ ?_;clear hK K
   refine zac (fun K2 hK2=>?_)
   by_cases hlt:i<A.length
   ·have hlt':(i:Int)<A.length:=by omega
    obtain ⟨c1,c2⟩:=hr.at hlt
    have hx:=zbb hr.ok i
    have hw1:IntKind.i64.wrap (↑i+1)=(i:Int)+1:=IntWalk.i64_in _ (by omega)
    have hvA:=val_take A i hlt
    generalize hX:lat A i=x at *
    have ex:IntKind.u32.wrap (x:Int)=x:=zbC _ (by omega)
    refine zai (by simp [go_sem,hlt,hlt'];rfl) rfl ?_
    refine zaa ?_
    refine hK2 _ _ ?_;clear hK2 K2
    refine zac (fun K2 hK2=>?_)
    refine zae ?_
    first|refine zzr fun K hK=>?_|refine zzt fun K hK=>?_
    simp [go_sem,g29,g31,hlt,hlt',c1,c2]
    refine hK _ _ ?_;clear hK K
    first|refine zzr fun K hK=>?_|refine zzt fun K hK=>?_
    simp [go_sem]
    refine hK _ _ ?_;clear hK K
    refine zac (fun K3 hK3=>?_)
    first|refine zzr fun K hK=>?_|refine zzt fun K hK=>?_
    simp [go_sem,g1]
    refine hK _ _ ?_;clear hK K
    refine zae ?_
    refine zaE (fun t g w'=>Below w.heap.size w w'∧RD w' a c A∧RD w' b d B∧∃ (k cy:Nat) (O:List Nat),k≤B.length∧t=B.length-k∧g 1 = .slice b B.length d∧g 5 = .slice (some ⟨b2,0,none⟩) N N∧g 6 = .int .i64 i∧g 7 = .int .u16 x∧g 8 = .int .u32 cy ∧
     g 29 = .slice a A.length c∧g 30 = .int .i64 A.length∧g 31 = .int .i64 i∧g 36 = .slice b B.length d∧g 37 = .int .i64 B.length∧g 38 = .int .i64 k∧Bx w' b2 (lmC O).toArray 123∧O.length=N∧Ok O∧(∀ j,i+B.length≤j→lat O j=0)∧cy<65536∧val O+65536 ^ (i+k)*cy=val O0+65536 ^ i*(x*val (B.take k))) B.length ?_ ?_
    ·exact ⟨hE,hr,hs,0,0,O0,by omega,rfl,by simp [go_sem,g1],by simp [go_sem,g5],by simp [go_sem],by simp [go_sem],by simp [go_sem],by simp [go_sem,g29],by simp [go_sem,g30],by simp [go_sem,g31],by simp [go_sem],by simp [go_sem],by simp [go_sem],hBx,hOl,hOok,hOz,by omega,by simp [val]⟩
    ·clear hr hs hE hBx hOok hOz hOl g1 g5 g29 g30 g31 c1 c2
     rintro t g w' ⟨hE,hr,hs,k,cy,O,hk,rfl,g1,g5,g6,g7,g8,g29,g30,g31,g36,g37,g38,hBx,hOl,hOok,hOz,hcy,hv⟩
     first|refine zzr fun K hK=>?_|refine zzt fun K hK=>?_
     simp [go_sem,g37,g38]
     refine hK _ _ ?_;clear hK K
     refine zac (fun K4 hK4=>?_)
     by_cases hkl:k<B.length
     ·have hkl':(k:Int)<B.length:=by omega
      obtain ⟨d1,d2⟩:=hs.at hkl
      have hy:=zbb hs.ok k
      obtain ⟨j,hj⟩:∃ j,j=i+k:=⟨_,rfl⟩
      have hjl:j<O.length:=by omega
      have hjN:j<N:=by omega
      have hjN':(j:Int)<N:=by omega
      have d3:=bx_at hBx hjl
      have ho:=zbb hOok j
      obtain ⟨XY,hXY⟩:∃ XY,XY=x*lat B k:=⟨_,rfl⟩
      have hXYb:XY≤65535*65535:=by rw [hXY];exact Nat.mul_le_mul (by omega) (by omega)
      obtain ⟨s,hsm⟩:∃ s,s=cy+lat O j+XY:=⟨_,rfl⟩
      have hstep:=mul_step O O0 B i k cy x s (by omega) hv (by rw [hsm,hXY,hj])
      rw [←hj] at hstep
      have e0:IntKind.i64.wrap (↑i + ↑k)=(j:Int):=by rw [IntWalk.i64_in _ (by omega)];omega
      have e1:IntKind.u32.wrap (lat O j:Int)=lat O j:=zbC _ (by omega)
      have e2:IntKind.u32.wrap (lat B k:Int)=lat B k:=zbC _ (by omega)
      have eXY:(x:Int)*(lat B k:Int)=(XY:Int):=by rw [hXY];simp
      have e3:IntKind.u32.wrap (XY:Int)=XY:=zbC _ (by omega)
      have e4:IntKind.u32.wrap ((lat O j:Int)+XY)=(lat O j:Int)+XY:=zbC _ (by omega)
      have e5:IntKind.u32.wrap ((cy:Int)+((lat O j:Int)+XY))=(s:Int):=by rw [zbC _ (by omega)];omega
      have e6:IntKind.u16.wrap (s:Int)=((s % 65536:Nat):Int):=w16 s
      have e7:shrI .u32 (s:Int) 16=((s / 65536:Nat):Int):=shr_nat .u32 s 16 (by decide)
      have hw2:IntKind.i64.wrap (↑k+1)=(k:Int)+1:=IntWalk.i64_in _ (by omega)
      have hQ':s % 65536<65536:=by omega
      have hC':s / 65536<65536:=by omega
      generalize hQ:s % 65536=Q at *
      generalize hC:s / 65536=C at *
      refine zai (by simp [go_sem,hkl,hkl'];rfl) rfl ?_
      refine zaa ?_
      refine hK4 _ _ ?_;clear hK4 K4
      refine zac (fun K4 hK4=>?_)
      refine zae ?_
      first|refine zzr fun K hK=>?_|refine zzt fun K hK=>?_
      simp [go_sem,g36,g38,hkl,hkl',d1,d2]
      refine hK _ _ ?_;clear hK K
      first|refine zzr fun K hK=>?_|refine zzt fun K hK=>?_
      simp [go_sem,g5,g6,g7,g8,e0,hjN,hjN',za0,d3,e1,ex,e2,eXY,e3,e4,e5]
      refine hK _ _ ?_;clear hK K
      first|refine zzr fun K hK=>?_|refine zzt fun K hK=>?_
      simp [go_sem,g5,g6,e0,e6,hjN,hjN',za0]
      refine za6 (b:=b2) (off:=j) [.int .u16 Q] (by simp [go_sem]) rfl (by simp [go_sem]) (by simp [go_sem,Value.cells]) zbe hBx (by simp [zb6]<;>omega) (by simp [Value.oneCell']) (by decide) (fun w3 hS3 hB3=>?_)
      rw [putC_lm] at hB3
      replace hr:=hr.sto hS3 hne1
      replace hs:=hs.sto hS3 hne2
      replace hE:=hE.nextS hS3 hle2
      simp [go_sem]
      refine hK _ _ ?_;clear hK K
      refine zzt fun K hK=>?_
      simp [go_sem,e7]
      refine hK _ _ ?_;clear hK K
      refine hK4 _ _ ?_;clear hK4 K4
      refine zzt fun K hK=>?_
      simp [go_sem,g38,hw2]
      refine hK _ _ ⟨B.length-(k+1),by omega,hE,hr,hs,k+1,C,O.set j Q,by omega,rfl,by simp [go_sem,g1],by simp [go_sem,g5],by simp [go_sem,g6],by simp [go_sem,g7],by simp [go_sem],by simp [go_sem,g29],by simp [go_sem,g30],by simp [go_sem,g31],by simp [go_sem,g36],by simp [go_sem,g37],by simp [go_sem],hB3,by simp [hOl],hOok.set j Q hQ',?_,hC',hstep⟩
      intro j' hj'
      rw [zd0 O j j' Q (by omega)];exact hOz j' hj'
     ·have hkb:k=B.length:=by omega
      subst hkb
      rw [List.take_length] at hv
      obtain ⟨j,hj⟩:∃ j,j=i+B.length:=⟨_,rfl⟩
      have hjl:j<O.length:=by omega
      have hjN:j<N:=by omega
      have hjN':(j:Int)<N:=by omega
      have e0:IntKind.i64.wrap (↑i + ↑B.length)=(j:Int):=by rw [IntWalk.i64_in _ (by omega)];omega
      have e6:IntKind.u16.wrap (cy:Int)=cy:=ze2 _ (by omega)
      refine zai (by simp [go_sem,hkl];rfl) rfl ?_
      refine zaz ?_
      repeat (first|refine zag ?_|refine za8 rfl ?_|refine zab ?_)
      refine hK3 _ _ ?_;clear hK3 K3 hK4 K4
      refine zzt fun K hK=>?_
      simp [go_sem,g1,g5,g6,g8,e0,e6,hjN,hjN',za0]
      refine za6 (b:=b2) (off:=j) [.int .u16 cy] (by simp [go_sem]) rfl (by simp [go_sem]) (by simp [go_sem,Value.cells]) zbe hBx (by simp [zb6]<;>omega) (by simp [Value.oneCell']) (by decide) (fun w3 hS3 hB3=>?_)
      rw [putC_lm] at hB3
      replace hr:=hr.sto hS3 hne1
      replace hs:=hs.sto hS3 hne2
      replace hE:=hE.nextS hS3 hle2
      have hset:=val_set O j cy hjl
      have hz:=hOz j (by omega)
      simp [go_sem]
      refine hK _ _ ?_;clear hK K
      refine hK2 _ _ ?_;clear hK2 K2
      refine zzt fun K hK=>?_
      simp [go_sem,g31,hw1]
      refine hK _ _ ⟨A.length-(i+1),by omega,hE,hr,hs,i+1,O.set j cy,by omega,rfl,by simp [go_sem,g1],by simp [go_sem,g5],by simp [go_sem,g29],by simp [go_sem,g30],by simp [go_sem],hB3,by simp [hOl],hOok.set j cy hcy,?_,?_⟩
      ·intro j' hj'
       rw [zd0 O j j' cy (by omega)];exact hOz j' (by omega)
      ·rw [hz] at hset
       rw [hvA,Nat.add_mul,←hval,Nat.mul_assoc,←hv,←hj];omega
   ·have him:i=A.length:=by omega
    subst him
    rw [List.take_length] at hval
    have hrw:=RD.of_lm hBx hOok (c:=N) (by omega)
    have hres:lim (val A*val B)=nrm O0:=by rw [←hval,zaP O0 hOok]
    rw [←hOl] at g5 hrw
    refine zai (by simp [go_sem,hlt];rfl) rfl ?_
    refine zaz ?_
    repeat (first|refine zag ?_|refine za8 rfl ?_|refine zab ?_)
    refine hK1 _ _ ?_;clear hK1 K1 hK2 K2
    first|refine zzr fun K hK=>?_|refine zzt fun K hK=>?_
    simp [go_sem,g5]
    refine za5 (by simp [go_sem,g5]) rfl Tryz.call108 (fun R hR=>?_)
    simp [go_sem,g5]
    refine (zb8 O0 _ _ _ hrw (by unfold zbS;omega)).mono ?_
    rintro e w4 ⟨rfl,rfl⟩
    refine ⟨_,rfl,hR _ _ ?_⟩
    clear hR R
    simp [go_sem]
    refine hK _ _ ?_;clear hK K
    refine zaf ?_
    repeat (first|refine za3 ?_|refine za2 ?_)
    rw [hres]
    refine ⟨trivial,some ⟨b2,0,none⟩,O0.length,?_,hrw.nrm,hE⟩
    simp [go_sem,zat,zas]
set_option maxHeartbeats 4000000 in
theorem mulR_any (l m:List Nat) (a b:Option Addr) (c d:Nat) (w:World) (hr:RD w a c l) (hs:RD w b d m) (hl:l.length≤zcq) (hm:m.length≤zcq) :
  Calls Tryz.prog 127 #[.slice a l.length c,.slice b m.length d] w (RetN w (lim (val l*val m))):=by
 have hl':l.length≤100000000000:=hl
 have hm':m.length≤100000000000:=hm
 obtain ⟨N,hN⟩:∃ N,N=l.length+m.length+1:=⟨_,rfl⟩
 have hwN0:IntKind.i64.wrap (↑l.length + ↑m.length)=(l.length:Int)+m.length:=IntWalk.i64_in _ (by omega)
 have hwN:IntKind.i64.wrap ((l.length:Int)+m.length+1)=(N:Int):=by rw [IntWalk.i64_in _ (by omega)];omega
 have hbr:=fun b (hb:w.heap.size≤b)=>hr.below hb
 have hbs:=fun b (hb:w.heap.size≤b)=>hs.below hb
 refine za7 (args:=[.slice a l.length c,.slice b m.length d]) (rs:=[.tmp 4]) (n:=65) Tryz.func127 rfl rfl rfl (by kernel_rfl) ?_
 first|refine zzr fun K hK=>?_|refine zzt fun K hK=>?_
 simp [go_sem]
 refine hK _ _ ?_;clear hK K
 first|refine zzr fun K hK=>?_|refine zzt fun K hK=>?_
 simp [go_sem,hwN0,hwN]
 refine hv_make (kl:=.i64) (kc:=.i64) N N (by simp [go_sem,hwN0,hwN]) rfl zaU zaK (by simp [go_sem,hwN0,hwN]) (by simp [go_sem,hwN0,hwN]) (by omega) (by omega) (by omega) (fun w2 b2 hE2 hle2 hB2=>?_)
 rw [Nat.mul_one,zbB,lm_zeros] at hB2
 replace hr:=hr.ext hE2
 replace hs:=hs.ext hE2
 have hne1:=hbr b2 hle2
 have hne2:=hbs b2 hle2
 clear hbr hbs
 simp [go_sem]
 refine hK _ _ ?_;clear hK K
 refine zac (fun K1 hK1=>?_)
 first|refine zzr fun K hK=>?_|refine zzt fun K hK=>?_
 simp [go_sem]
 refine hK _ _ ?_;clear hK K
 refine zae ?_
 refine zaE (fun t g w'=>Below w.heap.size w w'∧RD w' a c l∧RD w' b d m∧∃ (i:Nat) (O:List Nat),i≤l.length∧t=l.length-i∧g 0 = .slice a l.length c∧g 1 = .slice b m.length d∧g 5 = .slice (some ⟨b2,0,none⟩) N N∧g 6 = .int .i64 i ∧
  Bx w' b2 (lmC O).toArray 123∧O.length=N∧Ok O∧(∀ j,i+m.length≤j→lat O j=0)∧val O=val (l.take i)*val m) l.length ?_ ?_
 ·refine ⟨hE2,hr,hs,0,List.replicate N 0,by omega,rfl,by simp [go_sem],by simp [go_sem],by simp [go_sem],by simp [go_sem],hB2,by simp,Ok.zeros N,?_,by simp [val_zeros,val]⟩
  intro j _
  unfold lat;rw [List.getD_eq_getElem?_getD,List.getElem?_replicate]
  split<;>rfl
 ·clear hr hs hE2 hB2
  rintro t g w' ⟨hE,hr,hs,i,O0,hi,rfl,g0,g1,g5,g6,hBx,hOl,hOok,hOz,hval⟩
  refine zac (fun K2 hK2=>?_)
  first|refine zzr fun K hK=>?_|refine zzt fun K hK=>?_
  simp [go_sem,g0,g6]
  refine hK _ _ ?_;clear hK K
  by_cases hlt:i<l.length
  ·have hlt':(i:Int)<l.length:=by omega
   have hw1:IntKind.i64.wrap (↑i+1)=(i:Int)+1:=IntWalk.i64_in _ (by omega)
   have hvA:=val_take l i hlt
   have hx:=zbb hr.ok i
   generalize hX:lat l i=x at *
   have ex:IntKind.u64.wrap (x:Int)=x:=zbf _ (by omega)
   refine zai (by simp [go_sem,hlt,hlt'];rfl) rfl ?_
   refine zaa ?_
   refine hK2 _ _ ?_;clear hK2 K2
   refine zac (fun K2 hK2=>?_)
   refine zae ?_
   first|refine zzr fun K hK=>?_|refine zzt fun K hK=>?_
   simp [go_sem]
   refine hK _ _ ?_;clear hK K
   first|refine zzr fun K hK=>?_|refine zzt fun K hK=>?_
   simp [go_sem]
   refine hK _ _ ?_;clear hK K
   refine zae ?_
   refine zaE (fun t g w'=>Below w.heap.size w w'∧RD w' a c l∧RD w' b d m∧∃ (k cy:Nat) (O:List Nat),k≤m.length+1∧t=m.length+1-k∧g 0 = .slice a l.length c∧g 1 = .slice b m.length d∧g 5 = .slice (some ⟨b2,0,none⟩) N N∧g 6 = .int .i64 i∧g 7 = .int .u64 cy∧g 8 = .int .i64 k ∧
    Bx w' b2 (lmC O).toArray 123∧O.length=N∧Ok O∧(∀ j,i+m.length≤j→i+k≤j→lat O j=0)∧cy<65536∧(k=m.length+1→cy=0)∧val O+65536 ^ (i+k)*cy=val O0+65536 ^ i*(x*val (m.take k))) (m.length+1) ?_ ?_
   ·exact ⟨hE,hr,hs,0,0,O0,by omega,rfl,by simp [go_sem,g0],by simp [go_sem,g1],by simp [go_sem,g5],by simp [go_sem,g6],by simp [go_sem],by simp [go_sem],hBx,hOl,hOok,fun j h _=>hOz j h,by omega,by omega,by simp [val]⟩
   ·clear hr hs hE hBx hOok hOz hOl g0 g1 g5 g6
    rintro t g w' ⟨hE,hr,hs,k,cy,O,hk,rfl,g0,g1,g5,g6,g7,g8,hBx,hOl,hOok,hOz,hcy,hlast,hv⟩
    refine zac (fun K3 hK3=>?_)
    refine zei (fun g' w1=>w1=w'∧g' 0 = .slice a l.length c∧g' 1 = .slice b m.length d∧g' 5 = .slice (some ⟨b2,0,none⟩) N N∧g' 6 = .int .i64 i∧g' 7 = .int .u64 cy∧g' 8 = .int .i64 k∧g' 30 = .bool (decide (k<m.length) || decide (0<cy))) (by kernel_rfl) ?_ ?_
    ·by_cases h1:k<m.length
     ·have h1':(k:Int)<m.length:=by omega
      simp [go_sem,g0,g1,g5,g6,g7,g8,h1,h1']
     ·have h1':¬(k:Int)<m.length:=by omega
      simp [go_sem,g0,g1,g5,g6,g7,g8,h1,h1']
    ·clear g0 g1 g5 g6 g7 g8
     rintro g' w1 ⟨rfl,g0,g1,g5,g6,g7,g8,g30⟩
     refine zai g30 rfl ?_
     by_cases hgo:k<m.length∨0<cy
     ·have hgb:(decide (k<m.length) || decide (0<cy))=true:=by simpa using hgo
      have hkm:k≤m.length:=by
       by_cases e:k=m.length+1
       ·have:=hlast e;omega
       ·omega
      have hD:Below w1.heap.size w1 w1.drew:=Below.drew1 _
      replace hE:=hE.next hD
      replace hr:=hr.ext hD
      replace hs:=hs.ext hD
      replace hBx:=hBx.keep hD
      obtain ⟨c1,c2⟩:=hr.at hlt
      rw [hX] at c1
      have hy:=zbb hs.ok k
      obtain ⟨j,hj⟩:∃ j,j=i+k:=⟨_,rfl⟩
      have hjl:j<O.length:=by omega
      have hjN:j<N:=by omega
      have hjN':(j:Int)<N:=by omega
      have d3:=bx_at hBx hjl
      have ho:=zbb hOok j
      obtain ⟨XY,hXY⟩:∃ XY,XY=x*lat m k:=⟨_,rfl⟩
      have hXYb:XY≤65535*65535:=by rw [hXY];exact Nat.mul_le_mul (by omega) (by omega)
      obtain ⟨s,hsm⟩:∃ s,s=cy+lat O j+XY:=⟨_,rfl⟩
      have hstep:=mul_step O O0 m i k cy x s (by omega) hv (by rw [hsm,hXY,hj])
      rw [←hj] at hstep
      have hfin:k+1=m.length+1→s / 65536=0:=by
       intro e
       have z1:lat m k=0:=zdI (by omega)
       have z2:lat O j=0:=hOz j (by omega) (by omega)
       rw [z1,Nat.mul_zero] at hXY
       omega
      have e0:IntKind.i64.wrap (↑i + ↑k)=(j:Int):=by rw [IntWalk.i64_in _ (by omega)];omega
      have e1:IntKind.u64.wrap (lat O j:Int)=lat O j:=zbf _ (by omega)
      have e2:IntKind.u64.wrap (lat m k:Int)=lat m k:=zbf _ (by omega)
      have eXY:(x:Int)*(lat m k:Int)=(XY:Int):=by rw [hXY];simp
      have e3:IntKind.u64.wrap (XY:Int)=XY:=zbf _ (by omega)
      have e4:IntKind.u64.wrap ((lat O j:Int)+XY)=(lat O j:Int)+XY:=zbf _ (by omega)
      have e5:IntKind.u64.wrap ((lat O j:Int)+XY+cy)=(s:Int):=by rw [zbf _ (by omega)];omega
      have e6:(s:Int).tmod 65536=((s % 65536:Nat):Int):=rfl
      have e6':IntKind.u16.wrap ((s % 65536:Nat):Int)=((s % 65536:Nat):Int):=ze2 _ (by omega)
      have e7:(s:Int).tdiv 65536=((s / 65536:Nat):Int):=rfl
      have e7':IntKind.u64.wrap ((s / 65536:Nat):Int)=((s / 65536:Nat):Int):=zbf _ (by omega)
      have hw2:IntKind.i64.wrap (↑k+1)=(k:Int)+1:=IntWalk.i64_in _ (by omega)
      have hQ':s % 65536<65536:=by omega
      have hC':s / 65536<65536:=by omega
      generalize hQ:s % 65536=Q at *
      generalize hC:s / 65536=C at *
      simp only [hgb]
      refine zaa ?_
      refine hK3 _ _ ?_;clear hK3 K3
      refine zac (fun K3 hK3=>?_)
      refine zae ?_
      first|refine W_rd [(0,0),(1,0),(2,0),(3,0),(4,0),(5,0),(6,0),(7,0),(8,0),(9,0),(10,0),(11,0),(12,0),(13,0),(18,0),(14,1),(15,0),(16,0),(17,0),(19,0),(20,0)] (by kernel_rfl) (by kernel_rfl) (fun K hK=>?_)|refine zbG [(0,0),(1,0),(2,0),(3,0),(4,0),(5,0),(6,0),(7,0),(8,0),(9,0),(10,0),(11,0),(12,0),(13,0),(18,0),(14,1),(15,0),(16,0),(17,0),(19,0),(20,0)] (by kernel_rfl) (by kernel_rfl) (fun K hK=>?_)
      simp [go_sem,g0,g1,g5,g6,g7,g8,e0,hjN,hjN',za0,d3,e1,hlt,hlt',c1,c2,ex]
      refine za5 (by simp [go_sem,g0,g1,g5,g6,g7,g8,e0,hjN,hjN',za0,d3,e1,hlt,hlt',c1,c2,ex]) rfl Tryz.call137 (fun R hR=>?_)
      simp [go_sem,g0,g1,g5,g6,g7,g8,e0,hjN,hjN',za0,d3,e1,hlt,hlt',c1,c2,ex]
      refine (zd5 m b d k _ hs).mono ?_
      rintro e w2 ⟨rfl,rfl⟩
      refine ⟨_,rfl,Below.refl _ _,hR _ _ ?_⟩
      clear hR R
      simp [go_sem,g0,g1,g5,g6,g7,g8,e0,hjN,hjN',za0,d3,e1,ex,e2,eXY,e3,e4,e5]
      refine hK _ _ ?_;clear hK K
      first|refine zzr fun K hK=>?_|refine zzt fun K hK=>?_
      simp [go_sem,g5,g6,g8,e0,e6,e6',hjN,hjN',za0]
      refine za6 (b:=b2) (off:=j) [.int .u16 Q] (by simp [go_sem]) rfl (by simp [go_sem]) (by simp [go_sem,Value.cells]) zbe hBx (by simp [zb6]<;>omega) (by simp [Value.oneCell']) (by decide) (fun w3 hS3 hB3=>?_)
      rw [putC_lm] at hB3
      replace hr:=hr.sto hS3 hne1
      replace hs:=hs.sto hS3 hne2
      replace hE:=hE.nextS hS3 hle2
      simp [go_sem]
      refine hK _ _ ?_;clear hK K
      refine zzt fun K hK=>?_
      simp [go_sem,e7,e7']
      refine hK _ _ ?_;clear hK K
      refine hK3 _ _ ?_;clear hK3 K3
      refine zzt fun K hK=>?_
      simp [go_sem,g8,hw2]
      refine hK _ _ ⟨m.length+1-(k+1),by omega,hE,hr,hs,k+1,C,O.set j Q,by omega,rfl,by simp [go_sem,g0],by simp [go_sem,g1],by simp [go_sem,g5],by simp [go_sem,g6],by simp [go_sem],by simp [go_sem],hB3,by simp [hOl],hOok.set j Q hQ',?_,hC',hfin,hstep⟩
      intro j' h1 h2
      rw [zd0 O j j' Q (by omega)];exact hOz j' h1 (by omega)
     ·have hgb:(decide (k<m.length) || decide (0<cy))=false:=by
       simp only [not_or] at hgo
       simp [hgo.1];omega
      have hc0:cy=0:=by omega
      subst hc0
      rw [List.take_of_length_le (by omega),Nat.mul_zero,Nat.add_zero] at hv
      simp only [hgb]
      refine zaz ?_
      repeat (first|refine zag ?_|refine za8 rfl ?_|refine zab ?_)
      refine hK2 _ _ ?_;clear hK2 K2 hK3 K3
      refine zzt fun K hK=>?_
      simp [go_sem,g6,hw1]
      refine hK _ _ ⟨l.length-(i+1),by omega,hE,hr,hs,i+1,O,by omega,rfl,by simp [go_sem,g0],by simp [go_sem,g1],by simp [go_sem,g5],by simp [go_sem],hBx,hOl,hOok,fun j h=>hOz j (by omega) (by omega),?_⟩
      rw [hvA,Nat.add_mul,←hval,Nat.mul_assoc,←hv]
  ·have him:i=l.length:=by omega
   subst him
   rw [List.take_length] at hval
   have hrw:=RD.of_lm hBx hOok (c:=N) (by omega)
   have hres:lim (val l*val m)=nrm O0:=by rw [←hval,zaP O0 hOok]
   rw [←hOl] at g5 hrw
   refine zai (by simp [go_sem,hlt];rfl) rfl ?_
   refine zaz ?_
   repeat (first|refine zag ?_|refine za8 rfl ?_|refine zab ?_)
   refine hK1 _ _ ?_;clear hK1 K1 hK2 K2
   rw [hres]
   first|refine zzr fun K hK=>?_|refine zzt fun K hK=>?_
   simp [go_sem,g5]
   refine za5 (by simp [go_sem,g5]) rfl Tryz.call121 (fun R hR=>?_)
   simp [go_sem,g5]
   refine (zbX O0 _ _ _ hrw (by unfold zbS;omega)).mono ?_
   rintro e w4 ⟨a4,c4,rfl,hr4,hE4⟩
   refine ⟨_,rfl,hR _ _ ?_⟩
   clear hR R
   simp [go_sem]
   refine hK _ _ ?_;clear hK K
   refine zaf ?_
   repeat (first|refine za3 ?_|refine za2 ?_)
   refine ⟨trivial,a4,c4,?_,hr4,hE.next hE4⟩
   simp [go_sem,zat,zas]
end Go.Proofs.YtefhenfofomjhaaGreat
