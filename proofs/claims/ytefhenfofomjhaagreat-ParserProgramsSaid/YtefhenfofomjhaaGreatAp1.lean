/- An own slice whose cells are no limbs: what is appended, and where it lies. -/
import Derived.Test.YtefhenfofomjhaaGreatNt9
import Derived.Maps.AppendAt
set_option linter.unusedSimpArgs false
set_option linter.unusedVariables false
set_option maxHeartbeats 4000000
set_option maxRecDepth 20000
namespace Go.Proofs.YtefhenfofomjhaaGreat
open Go.RowKit Go.V
def DivPost (w:World) (A B:Nat) (e:Ending) (w':World):Prop :=
 (B=0∧e = .returned (.tuple #[.slice none 0 0,.slice none 0 0,.int .i64 3])∧Below w.heap.size w w') ∨
 (B≠0∧∃ a c a' c',e = .returned (.tuple #[.slice a (lim (A / B)).length c,.slice a' (lim (A % B)).length c',.int .i64 0])∧RD w' a c (lim (A / B))∧RD w' a' c' (lim (A % B))∧Below w.heap.size w w')
theorem byLimb_gen (l:List Nat) (a:Option Addr) (c d rr:Nat) (w:World) (hr:RD w a c l) (hl:l.length≤zbZ) (hd:0<d) (hd2:d<65536) (hR:val l % d=rr) :
  Calls Tryz.prog 114 #[.slice a l.length c,.int .u16 d] w fun e w'=>∃ a' c',e = .returned (.tuple #[.slice a' (lim (val l / d)).length c',.int .u16 rr])∧RD w' a' c' (lim (val l / d))∧Below w.heap.size w w':=by
 subst hR;exact byLimb_any l a c d w hr hl hd hd2
theorem val_one (m:List Nat) (h:m.length=1):val m=lat m 0:=by
 match m,h with
 | [x],_=>simp [val,lat]
theorem nrm_idem (l:List Nat):nrm (nrm l)=nrm l:=by
 induction l with
 | nil=>rfl
 | cons x l ih =>
  rw [nrm]
  split
  ·rfl
  ·rename_i h
   rw [nrm,ih,if_neg h]
theorem divmod1_any (l m:List Nat) (a b:Option Addr) (c d:Nat) (w:World) (hr:RD w a c l) (hs:RD w b d m) (hl:l.length≤zbZ) (hm:m.length≤zbZ) (h1:(nrm m).length≤1) :
  Calls Tryz.prog 98 #[.slice a l.length c,.slice b m.length d] w (DivPost w (val l) (val m)):=by
 have hl':l.length≤1000000000000:=hl
 have hm':m.length≤1000000000000:=hm
 have hn1:=zb8 l
 have hn2:=zb8 m
 refine za5 (rs:=[.tmp 4,.tmp 5,.tmp 6]) (n:=71) Tryz.func98 rfl rfl rfl (by kernel_rfl) ?_
 refine zzr fun K hK=>?_
 simp [go_sem]
 apply hK;clear hK K
 refine zzr fun K hK=>?_
 simp [go_sem]
 refine zzc rfl Tryz.call108 (fun R hR=>?_)
 simp [go_sem]
 refine (zb6 l a c _ hr hl).mono ?_
 rintro e w1 ⟨rfl,rfl⟩
 refine ⟨_,rfl,hR _ _ ?_⟩
 clear hR R
 simp [go_sem]
 refine zzc rfl Tryz.call108 (fun R hR=>?_)
 simp [go_sem]
 refine (zb6 m b d _ hs hm).mono ?_
 rintro e w1 ⟨rfl,rfl⟩
 refine ⟨_,rfl,hR _ _ ?_⟩
 clear hR R
 simp [go_sem]
 apply hK;clear hK K
 replace hr:=hr.nrm
 replace hs:=hs.nrm
 have hvl:=zc4 l
 have hvm:=zc4 m
 have hz:=zdl m
 have hll:=nrm_idem l
 rw [←hvm] at hz
 rw [←hvl,←hvm]
 generalize nrm l=L at *
 generalize nrm m=M at *
 refine zab (fun K1 hK1=>?_)
 refine zac ?_
 refine zzr fun K hK=>?_
 simp [go_sem]
 apply hK;clear hK K
 by_cases h0:M.length=0
 ·have e0:M=[]:=List.length_eq_zero_iff.1 h0
  have hv:val M=0:=hz.1 e0
  subst e0
  refine zaf (by simp [go_sem];rfl) rfl ?_
  refine zzr fun K hK=>?_
  simp [go_sem]
  apply hK;clear hK K
  refine zad ?_
  repeat first|refine za3 ?_|refine za2 ?_
  refine ⟨trivial,.inl ⟨hv,?_,Below.refl _ _⟩⟩
  simp [go_sem,zar,zam]
 ·have h0':¬(M.length:Int)=0:=by omega
  have h0'':¬M=[]:=by intro e;subst e;exact h0 rfl
  have hv0:val M≠0:=fun e=>h0'' (hz.2 e)
  have hM1:M.length=1:=by omega
  refine zaf (by simp [go_sem,h0,h0',h0''];rfl) rfl ?_
  refine zzr fun K hK=>?_
  simp [go_sem]
  refine zzc rfl Tryz.call113 (fun R hR=>?_)
  simp [go_sem]
  refine (cmp_any L M a b c d _ hr hs (by omega) (by omega)).mono ?_
  rintro e w2 ⟨rfl,hE2⟩
  refine ⟨_,rfl,hR _ _ ?_⟩
  clear hR R
  replace hr:=hr.ext hE2
  replace hs:=hs.ext hE2
  simp [go_sem]
  apply hK;clear hK K
  by_cases hlt:val L<val M
  ·have hc:=cmpV_lt hlt
   refine zaf (by simp [go_sem,hc];rfl) rfl ?_
   refine zzr fun K hK=>?_
   simp [go_sem]
   refine zzc rfl Tryz.call94 (fun R hR=>?_)
   simp [go_sem]
   refine (norm_any L a c _ hr (by omega)).mono ?_
   rintro e w3 ⟨a3,c3,rfl,hr3,hE3⟩
   refine ⟨_,rfl,hR _ _ ?_⟩
   clear hR R
   simp [go_sem]
   apply hK;clear hK K
   refine zad ?_
   repeat first|refine za3 ?_|refine za2 ?_
   refine ⟨trivial,.inr ⟨hv0,none,0,a3,c3,?_,?_,?_,hE2.next hE3⟩⟩
   ·rw [Nat.div_eq_of_lt hlt,Nat.mod_eq_of_lt hlt,zap,zaO L hr.ok]
    simp [go_sem,zar,zam]
   ·rw [Nat.div_eq_of_lt hlt,zap];exact RD.nil _ _ _
   ·rw [Nat.mod_eq_of_lt hlt,zaO L hr.ok];exact hr3
  ·have hc:¬cmpV (val L) (val M)<0:=by unfold cmpV;rw [if_neg hlt];split<;>omega
   refine zaf (by simp [go_sem,hc];rfl) rfl ?_
   refine zzr fun K hK=>?_
   simp [go_sem]
   apply hK;clear hK K
   have hM1':(M.length:Int)=1:=by omega
   have hval:=val_one M hM1
   obtain ⟨c1,c2⟩:=hs.at (i:=0) (by omega)
   rw [Addr.add_zero'] at c1
   have hx:=zb9 hs.ok 0
   rw [hval] at hv0 ⊢
   generalize lat M 0=x at *
   have p1:(0:Int)<M.length:=by omega
   have p2:0<M.length:=by omega
   refine zaf (by simp [go_sem,hM1,hM1'];rfl) rfl ?_
   have hmod:=Nat.mod_lt (val L) (show 0<x by omega)
   generalize hRm:val L % x=rr at hmod ⊢
   have hw:IntKind.u64.wrap (rr:Int)=rr:=zbd _ (by omega)
   refine zzr fun K hK=>?_
   simp [go_sem,c1,c2,p1,p2]
   refine zzc rfl Tryz.call114 (fun R hR=>?_)
   simp [go_sem,c1,c2,p1,p2]
   refine (byLimb_gen L a c x rr _ hr (by omega) (by omega) hx hRm).mono ?_
   rintro e w3 ⟨a3,c3,rfl,hr3,hE3⟩
   refine ⟨_,rfl,hR _ _ ?_⟩
   clear hR R
   simp [go_sem]
   apply hK;clear hK K
   refine zzr fun K hK=>?_
   simp [go_sem,hw]
   refine zzc rfl Tryz.call112 (fun R hR=>?_)
   simp [go_sem,hw]
   refine (of_any rr _ (by omega)).mono ?_
   rintro e w4 ⟨a4,c4,rfl,hr4,hE4⟩
   refine ⟨_,rfl,hR _ _ ?_⟩
   clear hR R
   simp [go_sem]
   apply hK;clear hK K
   refine zad ?_
   repeat first|refine za3 ?_|refine za2 ?_
   refine ⟨trivial,.inr ⟨hv0,a3,c3,a4,c4,?_,hr3.ext hE4,?_,(hE2.next hE3).next hE4⟩⟩
   ·rw [hRm];simp [go_sem,zar,zam]
   ·rw [hRm];exact hr4
theorem zba (l:List Nat) (i:Nat):val (l.take (i+1))=val (l.take i)+65536 ^ i*lat l i:=by
 by_cases h:i<l.length
 ·exact val_take l i h
 ·rw [List.take_of_length_le (by omega),List.take_of_length_le (by omega),ze8 (by omega)];omega
theorem nrm_full (l:List Nat) (hok:Ok l) (k:Nat) (hk:l.length=k+1) (h:65536 ^ k≤val l):nrm l=l:=by
 have h1:=zb8 l
 have h2:=zck (nrm l) (nrm_ok l hok)
 rw [zc4] at h2
 have h3:(nrm l).length=l.length:=by
  by_cases e:(nrm l).length≤k
  ·have:65536 ^ (nrm l).length≤65536 ^ k:=Nat.pow_le_pow_right (by decide) e
   omega
  ·omega
 rw [nrm_pre,h3,List.take_length]
theorem add_step (ws A B:List Nat) (i cy s:Nat) (hw:ws.length=i) (h:val ws+65536 ^ i*cy=val (A.take i)+val (B.take i)) (hs:s=cy+lat A i+lat B i) :
  val (ws++[s % 65536])+65536 ^ (i+1)*(s / 65536)=val (A.take (i+1))+val (B.take (i+1)):=by
 rw [ze7,hw,zba A i,zba B i,Nat.pow_succ]
 generalize 65536 ^ i=P at *
 have e1:P*(s % 65536)+P*65536*(s / 65536)=P*s:=by rw [Nat.mul_assoc,←Nat.mul_add,Nat.mod_add_div]
 have e2:P*s=P*cy+P*lat A i+P*lat B i:=by rw [hs,Nat.mul_add,Nat.mul_add]
 simp only [val,Nat.mul_zero,Nat.add_zero]
 omega
theorem set_next (ws:List Nat) (i n x:Nat) (hw:ws.length=i):(ws++List.replicate (n+1) 0).set i x=(ws++[x])++List.replicate n 0:=by
 rw [List.set_append_right _ _ (by omega),hw,Nat.sub_self,List.replicate_succ,List.set_cons_zero,List.append_assoc];rfl
abbrev zcH:Nat:=100000000000
theorem RD.lt {w:World} {a:Option Addr} {c:Nat} {l:List Nat} (h:RD w a c l):∀ ad,a=some ad→l≠[]→ad.block<w.heap.size:=by
 intro ad ha hn
 obtain ⟨b',off,e,hlt⟩:=h.sl.lt (by intro e;exact hn (List.map_eq_nil_iff.1 e))
 rw [ha] at e;injection e with e;subst e
 exact hlt
theorem RD.grown {w w':World} {a:Option Addr} {c:Nat} {l:List Nat} {row:Option Nat} (h:RD w a c l) (hg:w.grownBy w' row) (hne:∀ ad,a=some ad→l≠[]→some ad.block≠row):RD w' a c l:=by
 refine ⟨?_,h.ok,h.cap⟩
 rcases h.sl with h'|⟨b,off,e,h'⟩
 ·exact .inl h'
 ·by_cases hx:l=[]
  ·exact .inl (by subst hx;rfl)
  ·exact .inr ⟨b,off,e,fun j v hv=>hg.cell (h' j v hv) (show some b≠row from hne ⟨b,off,none⟩ e hx)⟩
theorem own_ne {w0 w:World} {e size n:Nat} {v:Value} {xs:List Value} {a:Option Addr} {l:List Nat} (hown:w.ownsRow w0.heap.size e size v n xs) (h:∀ ad,a=some ad→l≠[]→ad.block<w0.heap.size):∀ ad,a=some ad→l≠[]→some ad.block≠v.ownBlock:=by
 intro ad ha hn e
 have h1:=h ad ha hn
 have h2:=(hown.lt _ e.symm).1
 omega
theorem addR_any (l m:List Nat) (a b:Option Addr) (c d:Nat) (w:World) (hr:RD w a c l) (hs:RD w b d m) (hl:l.length≤zcH) (hm:m.length≤zcH) :
  Calls Tryz.prog 133 #[.slice a l.length c,.slice b m.length d] w (RetN w (lim (val l+val m))):=by
 have hl':l.length≤100000000000:=hl
 have hm':m.length≤100000000000:=hm
 obtain ⟨N,hN1,hN2,hN3,hN4⟩:∃ N,l.length≤N∧m.length≤N∧N≤100000000000∧(N=l.length∨N=m.length):=by
  by_cases h:l.length≤m.length
  ·exact ⟨m.length,h,Nat.le_refl _,hm',.inr rfl⟩
  ·exact ⟨l.length,Nat.le_refl _,by omega,hl',.inl rfl⟩
 have hba:=hr.lt
 have hbb:=hs.lt
 refine za5 (rs:=[.tmp 4]) (n:=44) Tryz.func133 rfl rfl rfl (by kernel_rfl) ?_
 refine zzr fun K hK=>?_
 simp [go_sem]
 apply hK;clear hK K
 refine zzr fun K hK=>?_
 simp [go_sem]
 apply hK;clear hK K
 refine zzr fun K hK=>?_
 simp [go_sem]
 apply hK;clear hK K
 refine zab (fun K1 hK1=>?_)
 refine zzr fun K hK=>?_
 simp [go_sem]
 apply hK;clear hK K
 refine zac ?_
 refine zaz (fun k g w'=>Below w.heap.size w w'∧RD w' a c l∧RD w' b d m∧∃ (i cy:Nat) (ws:List Nat) (v:Value),i≤N+1∧k=N+1-i∧g 0 = .slice a l.length c∧g 1 = .slice b m.length d∧g 5=v∧g 6 = .int .i64 cy∧g 7 = .int .i64 i ∧
  w'.ownsRow w.heap.size 123 1 v i (lmC ws)∧ws.length=i∧Ok ws∧cy≤1∧(i=N+1→cy=0)∧val ws+65536 ^ i*cy=val (l.take i)+val (m.take i)) (N+1) ?_ ?_
 ·exact ⟨Below.refl _ _,hr,hs,0,0,[],.slice none 0 0,by omega,rfl,by simp [go_sem],by simp [go_sem],by simp [go_sem],by simp [go_sem],by simp [go_sem],World.ownsRow_nil _ _ _ _,rfl,Ok.nil,by omega,by omega,by simp [val]⟩
 ·clear hr hs
  rintro k g w' ⟨hE,hr,hs,i,cy,ws,v,hi,rfl,g0,g1,g5,g6,g7,hown,hwl,hwok,hcy,hlast,hval⟩
  refine zab (fun K2 hK2=>?_)
  refine zeH (fun g' w1=>w1=w'∧g' 0 = .slice a l.length c∧g' 1 = .slice b m.length d∧g' 5=v∧g' 6 = .int .i64 cy∧g' 7 = .int .i64 i∧g' 22 = .bool (decide (i<l.length) || (decide (i<m.length) || decide (0<cy)))) (by kernel_rfl) ?_ ?_
  ·by_cases h1:i<l.length
   ·have h1':(i:Int)<l.length:=by omega
    simp [go_sem,g0,g1,g5,g6,g7,h1,h1']
   ·have h1':¬(i:Int)<l.length:=by omega
    by_cases h2:i<m.length
    ·have h2':(i:Int)<m.length:=by omega
     simp [go_sem,g0,g1,g5,g6,g7,h1,h1',h2,h2']
    ·have h2':¬(i:Int)<m.length:=by omega
     simp [go_sem,g0,g1,g5,g6,g7,h1,h1',h2,h2']
  ·clear g0 g1 g5 g6 g7
   rintro g' w1 ⟨rfl,g0,g1,g5,g6,g7,g22⟩
   refine zaf g22 rfl ?_
   by_cases hgo:i<l.length∨i<m.length∨0<cy
   ·have hgb:(decide (i<l.length) || (decide (i<m.length) || decide (0<cy)))=true:=by simpa using hgo
    have hiN:i≤N:=by
     by_cases e:i=N+1
     ·have:=hlast e;omega
     ·omega
    have hx:=zb9 hr.ok i
    have hy:=zb9 hs.ok i
    obtain ⟨sm,hsm⟩:∃ sm,sm=cy+lat l i+lat m i:=⟨_,rfl⟩
    have hstep:=add_step ws l m i cy sm hwl hval hsm
    have hlast':i+1=N+1→sm / 65536=0:=by
     intro e
     have z1:lat l i=0:=ze8 (by omega)
     have z2:lat m i=0:=ze8 (by omega)
     omega
    have e3:IntKind.i64.wrap ((lat l i:Int)+lat m i)=(lat l i:Int)+lat m i:=IntWalk.i64_in _ (by omega)
    have e4:IntKind.i64.wrap ((lat l i:Int)+lat m i+cy)=(sm:Int):=by rw [IntWalk.i64_in _ (by omega)];omega
    have e5:(sm:Int).tmod 65536=((sm % 65536:Nat):Int):=rfl
    have e5':IntKind.u16.wrap ((sm % 65536:Nat):Int)=((sm % 65536:Nat):Int):=zeq _ (by omega)
    have e6:(sm:Int).tdiv 65536=((sm / 65536:Nat):Int):=rfl
    have e6':IntKind.i64.wrap ((sm / 65536:Nat):Int)=((sm / 65536:Nat):Int):=IntWalk.i64_in _ (by omega)
    have hw1:IntKind.i64.wrap (↑i+1)=(i:Int)+1:=IntWalk.i64_in _ (by omega)
    have hQ':sm % 65536<65536:=by omega
    have hC':sm / 65536≤1:=by omega
    generalize hQ:sm % 65536=Q at *
    generalize hC:sm / 65536=C at *
    simp only [hgb]
    refine za7 ?_
    apply hK2;clear hK2 K2
    refine zab (fun K2 hK2=>?_)
    refine zac ?_
    refine zzr fun K hK=>?_
    simp [go_sem,g0,g1,g7]
    refine zzc rfl Tryz.call137 (fun R hR=>?_)
    simp [go_sem,g0,g1,g7]
    refine (zds l a c i _ hr).mono ?_
    rintro e w2 ⟨rfl,rfl⟩
    refine ⟨_,rfl,hR _ _ ?_⟩
    clear hR R
    simp [go_sem,g0,g1,g7]
    refine zzc rfl Tryz.call137 (fun R hR=>?_)
    simp [go_sem,g0,g1,g7]
    refine (zds m b d i _ hs).mono ?_
    rintro e w2 ⟨rfl,rfl⟩
    refine ⟨_,rfl,hR _ _ ?_⟩
    clear hR R
    simp [go_sem,g6,e3,e4]
    apply hK;clear hK K
    refine zzr fun K hK=>?_
    simp [go_sem,g5,e5,e5']
    refine zak #[.int .u16 Q] (by simp [go_sem,e5,e5']) rfl zaT (by decide) [(0,.int .u16 Q)] (by simp [go_sem,e5,e5']) (by kernel_rfl) (fun w8 b8 hE8 hle8 hB8=>?_)
    have hown8:=own_keep hown hE8
    replace hr:=hr.ext hE8
    replace hs:=hs.ext hE8
    replace hE:=hE.next hE8
    simp [go_sem]
    refine zbv (v:=v) (b:=b8) (len:=1) (c:=1) hB8 (by simp [go_sem]) rfl zaT zaK rfl (by decide) (by simp [go_sem,g5]) (by simp [go_sem]) hown8 rfl (by simp [Value.oneCell']) (by unfold maxLen;omega) (by omega) hE.size (by decide) (fun v' w9 hown9 hg9 _=>?_)
    have hn1:=own_ne hown8 hba
    have hn2:=own_ne hown8 hbb
    replace hr:=hr.grown hg9 hn1
    replace hs:=hs.grown hg9 hn2
    replace hE:=hE.nextG hg9 (fun b e=>(hown8.lt b e).1)
    clear hn1 hn2 hown hown8 hE8 hB8 hg9
    simp [go_sem]
    apply hK;clear hK K
    refine zzt fun K hK=>?_
    simp [go_sem,e6,e6']
    apply hK;clear hK K
    apply hK2;clear hK2 K2
    refine zzt fun K hK=>?_
    simp [go_sem,g7,hw1]
    refine hK _ _ ⟨N+1-(i+1),by omega,hE,hr,hs,i+1,C,ws++[Q],v',by omega,rfl,by simp [go_sem,g0],by simp [go_sem,g1],by simp [go_sem],by simp [go_sem],by simp [go_sem],?_,by simp [hwl],hwok.app (Ok.cons hQ' Ok.nil),hC',hlast',hstep⟩
    rw [lmC_snoc];exact hown9
   ·have hgb:(decide (i<l.length) || (decide (i<m.length) || decide (0<cy)))=false:=by
     simp only [not_or] at hgo
     simp [hgo.1,hgo.2.1];omega
    have hc0:cy=0:=by omega
    subst hc0
    rw [List.take_of_length_le (by omega),List.take_of_length_le (by omega),Nat.mul_zero,Nat.add_zero] at hval
    have hres:lim (val l+val m)=nrm ws:=by rw [←hval,zaO ws hwok]
    obtain ⟨a9,c9,rfl,hr9⟩:=RD.of_own hown hwok
    simp only [hgb]
    refine zav ?_
    repeat (first|refine zae ?_|refine za6 rfl ?_|refine za8 ?_)
    apply hK1;clear hK1 K1 hK2 K2
    rw [hres]
    refine zzr fun K hK=>?_
    simp [go_sem,g5]
    refine zzc rfl Tryz.call121 (fun R hR=>?_)
    simp [go_sem,g5]
    refine (zc7 ws a9 c9 _ hr9 (by unfold zbZ;omega)).mono ?_
    rintro e w2 ⟨a2,c2,rfl,hr2,hE2⟩
    refine ⟨_,rfl,hR _ _ ?_⟩
    clear hR R
    simp [go_sem]
    apply hK;clear hK K
    refine zad ?_
    repeat first|refine za3 ?_|refine za2 ?_
    refine ⟨trivial,a2,c2,?_,hr2,hE.next hE2⟩
    simp [go_sem,zar,zam]
def SubPost (w:World) (A B:Nat) (e:Ending) (w':World):Prop :=
 (A<B∧e = .returned (.tuple #[.slice none 0 0,.int .i64 2])∧Below w.heap.size w w') ∨
 (B≤A∧∃ a c,e = .returned (.tuple #[.slice a (lim (A-B)).length c,.int .i64 0])∧RD w' a c (lim (A-B))∧Below w.heap.size w w')
theorem sub_step (ws A B:List Nat) (i bo bo' Q:Nat) (hw:ws.length=i) (h:val ws+val (B.take i)=val (A.take i)+65536 ^ i*bo) (hs:lat A i+65536*bo'=Q+bo+lat B i) :
  val (ws++[Q])+val (B.take (i+1))=val (A.take (i+1))+65536 ^ (i+1)*bo':=by
 rw [ze7,hw,zba A i,zba B i,Nat.pow_succ]
 generalize 65536 ^ i=P at *
 have e1:P*(lat A i+65536*bo')=P*(Q+bo+lat B i):=by rw [hs]
 rw [Nat.mul_add,Nat.mul_add,Nat.mul_add,←Nat.mul_assoc] at e1
 simp only [val,Nat.mul_zero,Nat.add_zero]
 omega
theorem sub_end (ws A B:List Nat) (bo:Nat) (hok:Ok ws) (hw:ws.length=A.length) (h:val ws+val B=val A+65536 ^ A.length*bo) (hle:val B≤val A):lim (val A-val B)=nrm ws:=by
 have h1:=zck ws hok
 rw [hw] at h1
 have hb:bo=0:=by
  rcases bo with _|n
  ·rfl
  ·exfalso
   have:65536 ^ A.length*1≤65536 ^ A.length*(n+1):=Nat.mul_le_mul_left _ (by omega)
   omega
 subst hb
 rw [←zaO ws hok]
 congr 1
 omega
theorem val_split:∀ (i:Nat) (l:List Nat),val l=val (l.take i)+65536 ^ i*val (l.drop i)
 | 0,l=>by simp [val]
 | i+1,[]=>by simp [val]
 | i+1,x::l=>by
  rw [List.take_succ_cons,List.drop_succ_cons,val,val,val_split i l,Nat.pow_succ,Nat.mul_add,←Nat.mul_assoc,Nat.mul_comm 65536 (65536 ^ i)]
  omega
theorem zea (l:List Nat) (h:Ok l) (i:Nat):val (l.take i)<65536 ^ i:=by
 have h1:=zck (l.take i) (h.take i)
 have:65536 ^ (l.take i).length≤65536 ^ i:=Nat.pow_le_pow_right (by decide) (by rw [List.length_take];omega)
 omega
theorem val_take_full (l:List Nat) (h:Ok l) (i:Nat) (hv:val l<65536 ^ i):val (l.take i)=val l:=by
 have h1:=val_split i l
 have h2:val (l.drop i)=0:=by
  rcases hz:val (l.drop i) with _|n
  ·rfl
  ·exfalso
   rw [hz] at h1
   have:65536 ^ i*1≤65536 ^ i*(n+1):=Nat.mul_le_mul_left _ (by omega)
   omega
 rw [h2] at h1;omega
theorem subR_any (l m:List Nat) (a b:Option Addr) (c d:Nat) (w:World) (hr:RD w a c l) (hs:RD w b d m) (hl:l.length≤zbZ) (hm:m.length≤zbZ) :
  Calls Tryz.prog 136 #[.slice a l.length c,.slice b m.length d] w (SubPost w (val l) (val m)):=by
 have hl':l.length≤1000000000000:=hl
 have hm':m.length≤1000000000000:=hm
 have hba:=hr.lt
 have hbb:=hs.lt
 refine za5 (rs:=[.tmp 4,.tmp 5]) (n:=40) Tryz.func136 rfl rfl rfl (by kernel_rfl) ?_
 refine zzr fun K hK=>?_
 simp [go_sem]
 apply hK;clear hK K
 refine zab (fun K1 hK1=>?_)
 refine zzr fun K hK=>?_
 simp [go_sem]
 refine zzc rfl Tryz.call139 (fun R hR=>?_)
 simp [go_sem]
 refine (cmpR_any l m a b c d _ hr hs hl hm).mono ?_
 rintro e w2 ⟨rfl,rfl⟩
 refine ⟨_,rfl,hR _ _ ?_⟩
 clear hR R
 simp [go_sem]
 apply hK;clear hK K
 by_cases hlt:val l<val m
 ·have hc:=cmpV_lt hlt
  refine zaf (by simp [go_sem,hc];rfl) rfl ?_
  refine zzr fun K hK=>?_
  simp [go_sem]
  apply hK;clear hK K
  refine zad ?_
  repeat first|refine za3 ?_|refine za2 ?_
  refine ⟨trivial,.inl ⟨hlt,?_,Below.refl _ _⟩⟩
  simp [go_sem,zar,zam]
 ·have hc:¬cmpV (val l) (val m)<0:=by unfold cmpV;rw [if_neg hlt];split<;>omega
  refine zaf (by simp [go_sem,hc];rfl) rfl ?_
  refine za7 ?_
  apply hK1;clear hK1 K1
  refine zzr fun K hK=>?_
  simp [go_sem]
  apply hK;clear hK K
  refine zzr fun K hK=>?_
  simp [go_sem]
  apply hK;clear hK K
  refine zab (fun K1 hK1=>?_)
  refine zzr fun K hK=>?_
  simp [go_sem]
  apply hK;clear hK K
  refine zac ?_
  refine zaz (fun k g w'=>Below w.heap.size w w'∧RD w' a c l∧RD w' b d m∧∃ (i bo:Nat) (ws:List Nat) (v:Value),i≤l.length∧k=l.length-i∧g 0 = .slice a l.length c∧g 1 = .slice b m.length d∧g 6=v∧g 7 = .int .i64 bo∧g 8 = .int .i64 i ∧
   w'.ownsRow w.heap.size 123 1 v i (lmC ws)∧ws.length=i∧Ok ws∧bo≤1∧val ws+val (m.take i)=val (l.take i)+65536 ^ i*bo) l.length ?_ ?_
  ·exact ⟨Below.refl _ _,hr,hs,0,0,[],.slice none 0 0,by omega,rfl,by simp [go_sem],by simp [go_sem],by simp [go_sem],by simp [go_sem],by simp [go_sem],World.ownsRow_nil _ _ _ _,rfl,Ok.nil,by omega,by simp [val]⟩
  ·clear hr hs
   rintro k g w' ⟨hE,hr,hs,i,bo,ws,v,hi,rfl,g0,g1,g6,g7,g8,hown,hwl,hwok,hbo,hval⟩
   refine zab (fun K2 hK2=>?_)
   refine zzr fun K hK=>?_
   simp [go_sem,g0,g8]
   apply hK;clear hK K
   by_cases hlt2:i<l.length
   ·have hlt':(i:Int)<l.length:=by omega
    have hx:=zb9 hr.ok i
    have hy:=zb9 hs.ok i
    have e3:IntKind.i64.wrap ((lat l i:Int)-lat m i)=(lat l i:Int)-lat m i:=IntWalk.i64_in _ (by omega)
    obtain ⟨D,hD⟩:∃ D:Int,D=(lat l i:Int)-lat m i-bo:=⟨_,rfl⟩
    have e4:IntKind.i64.wrap ((lat l i:Int)-lat m i-bo)=D:=by rw [hD];exact IntWalk.i64_in _ (by omega)
    have hw1:IntKind.i64.wrap (↑i+1)=(i:Int)+1:=IntWalk.i64_in _ (by omega)
    refine zaf (by simp [go_sem,hlt2,hlt'];rfl) rfl ?_
    refine za7 ?_
    apply hK2;clear hK2 K2
    refine zab (fun K2 hK2=>?_)
    refine zac ?_
    refine zzr fun K hK=>?_
    simp [go_sem,g0,g1,g8]
    refine zzc rfl Tryz.call137 (fun R hR=>?_)
    simp [go_sem,g0,g1,g8]
    refine (zds l a c i _ hr).mono ?_
    rintro e w2 ⟨rfl,rfl⟩
    refine ⟨_,rfl,hR _ _ ?_⟩
    clear hR R
    simp [go_sem,g0,g1,g8]
    refine zzc rfl Tryz.call137 (fun R hR=>?_)
    simp [go_sem,g0,g1,g8]
    refine (zds m b d i _ hs).mono ?_
    rintro e w2 ⟨rfl,rfl⟩
    refine ⟨_,rfl,hR _ _ ?_⟩
    clear hR R
    simp [go_sem,g7,e3,e4]
    apply hK;clear hK K
    refine zzr fun K hK=>?_
    simp [go_sem]
    apply hK;clear hK K
    refine zab (fun K3 hK3=>?_)
    refine zzr fun K hK=>?_
    simp [go_sem]
    apply hK;clear hK K
    have store:∀ (g':G) (bo' Q:Nat),Q<65536→bo'≤1→lat l i+65536*bo'=Q+bo+lat m i→g' 0 = .slice a l.length c→g' 1 = .slice b m.length d→g' 6=v→g' 7 = .int .i64 bo'→g' 8 = .int .i64 i→g' 9 = .int .i64 Q→K3 g' w':=by
     clear g0 g1 g6 g7 g8
     intro g' bo' Q hQ hbo' heq g0 g1 g6 g7 g8 g9
     apply hK3;clear hK3 K3
     have e5:IntKind.u16.wrap (Q:Int)=Q:=zeq _ (by omega)
     have hstep:=sub_step ws l m i bo bo' Q hwl hval heq
     refine zzt fun K hK=>?_
     simp [go_sem,g6,g9,e5]
     refine zak #[.int .u16 Q] (by simp [go_sem,g9,e5]) rfl zaT (by decide) [(0,.int .u16 Q)] (by simp [go_sem,g9,e5]) (by kernel_rfl) (fun w8 b8 hE8 hle8 hB8=>?_)
     have hown8:=own_keep hown hE8
     replace hr:=hr.ext hE8
     replace hs:=hs.ext hE8
     replace hE:=hE.next hE8
     simp [go_sem]
     refine zbv (v:=v) (b:=b8) (len:=1) (c:=1) hB8 (by simp [go_sem]) rfl zaT zaK rfl (by decide) (by simp [go_sem,g6]) (by simp [go_sem]) hown8 rfl (by simp [Value.oneCell']) (by unfold maxLen;omega) (by omega) hE.size (by decide) (fun v' w9 hown9 hg9 _=>?_)
     have hn1:=own_ne hown8 hba
     have hn2:=own_ne hown8 hbb
     replace hr:=hr.grown hg9 hn1
     replace hs:=hs.grown hg9 hn2
     replace hE:=hE.nextG hg9 (fun b e=>(hown8.lt b e).1)
     clear hn1 hn2 hown hown8 hE8 hB8 hg9
     simp [go_sem]
     apply hK;clear hK K
     apply hK2;clear hK2 K2
     refine zzt fun K hK=>?_
     simp [go_sem,g8,hw1]
     refine hK _ _ ⟨l.length-(i+1),by omega,hE,hr,hs,i+1,bo',ws++[Q],v',by omega,rfl,by simp [go_sem,g0],by simp [go_sem,g1],by simp [go_sem],by simp [go_sem,g7],by simp [go_sem],?_,by simp [hwl],hwok.app (Ok.cons hQ Ok.nil),hbo',hstep⟩
     rw [lmC_snoc];exact hown9
    by_cases hneg:D<0
    ·obtain ⟨Q,hQ⟩:∃ Q:Nat,D+65536=Q:=⟨(D+65536).toNat,by omega⟩
     have e6:IntKind.i64.wrap (D+65536)=D+65536:=IntWalk.i64_in _ (by omega)
     rw [hQ] at e6
     refine zaf (by simp [go_sem,hneg];rfl) rfl ?_
     refine zzr fun K hK=>?_
     simp [go_sem,e6,hQ]
     apply hK;clear hK K
     refine zzt fun K hK=>?_
     simp [go_sem]
     apply hK;clear hK K
     exact store _ 1 Q (by omega) (by omega) (by omega) (by simp [go_sem,g0]) (by simp [go_sem,g1]) (by simp [go_sem,g6]) (by simp [go_sem]) (by simp [go_sem,g8]) (by simp [go_sem])
    ·obtain ⟨Q,hQ⟩:∃ Q:Nat,D=Q:=⟨D.toNat,by omega⟩
     refine zaf (by simp [go_sem,hneg];rfl) rfl ?_
     refine za7 ?_
     exact store _ 0 Q (by omega) (by omega) (by omega) (by simp [go_sem,g0]) (by simp [go_sem,g1]) (by simp [go_sem,g6]) (by simp [go_sem]) (by simp [go_sem,g8]) (by simp [go_sem,hQ])
   ·have him:i=l.length:=by omega
    subst him
    have hml:val m<65536 ^ l.length:=by have:=zck l hr.ok;omega
    rw [List.take_length,val_take_full m hs.ok l.length hml] at hval
    have hres:=sub_end ws l m bo hwok hwl hval (by omega)
    obtain ⟨a9,c9,rfl,hr9⟩:=RD.of_own hown hwok
    refine zaf (by simp [go_sem,hlt2];rfl) rfl ?_
    refine zav ?_
    repeat (first|refine zae ?_|refine za6 rfl ?_|refine za8 ?_)
    apply hK1;clear hK1 K1 hK2 K2
    refine zzr fun K hK=>?_
    simp [go_sem,g6]
    refine zzc rfl Tryz.call121 (fun R hR=>?_)
    simp [go_sem,g6]
    refine (zc7 ws a9 c9 _ hr9 (by omega)).mono ?_
    rintro e w2 ⟨a2,c2,rfl,hr2,hE2⟩
    refine ⟨_,rfl,hR _ _ ?_⟩
    clear hR R
    simp [go_sem]
    apply hK;clear hK K
    refine zad ?_
    repeat first|refine za3 ?_|refine za2 ?_
    refine ⟨trivial,.inr ⟨by omega,a2,c2,?_,?_,hE.next hE2⟩⟩
    ·rw [hres];simp [go_sem,zar,zam]
    ·rw [hres];exact hr2
theorem val_set (l:List Nat) (j x:Nat) (h:j<l.length):val (l.set j x)+65536 ^ j*lat l j=val l+65536 ^ j*x:=by
 induction l generalizing j with
 | nil=>simp at h
 | cons y l ih =>
  cases j with
  | zero=>simp [val,lat];omega
  | succ j =>
   have:=ih j (by simpa using h)
   have e:lat (y::l) (j+1)=lat l j:=rfl
   rw [List.set_cons_succ,val,val,e,Nat.pow_succ,Nat.mul_comm (65536 ^ j) 65536,Nat.mul_assoc,Nat.mul_assoc]
   omega
theorem zdm (l:List Nat) (i j x:Nat) (h:i≠j):lat (l.set i x) j=lat l j:=by
 simp [lat,List.getD_eq_getElem?_getD,List.getElem?_set_ne h]
theorem Ok.set {l:List Nat} (h:Ok l) (j x:Nat) (hx:x<65536):Ok (l.set j x):=by
 intro y hy
 rcases List.mem_or_eq_of_mem_set hy with h'|h'
 ·exact h y h'
 ·rw [h'];exact hx
theorem bx_at {w:World} {b:Nat} {t:TypeId} {l:List Nat} (h:Bx w b (lmC l).toArray t) {j:Nat} (hj:j<l.length):w.cell? ⟨b,j,none⟩=some (.int .u16 (lat l j)):=by
 rw [h.cell,List.getElem?_toArray,lmC_get,List.getElem?_eq_getElem hj]
 simp [lat,List.getD_eq_getElem?_getD,List.getElem?_eq_getElem hj]
theorem mul_step (O O0 B:List Nat) (i k cy x s:Nat) (hj:i+k<O.length) (h:val O+65536 ^ (i+k)*cy=val O0+65536 ^ i*(x*val (B.take k))) (hs:s=cy+lat O (i+k)+x*lat B k) :
  val (O.set (i+k) (s % 65536))+65536 ^ (i+(k+1))*(s / 65536)=val O0+65536 ^ i*(x*val (B.take (k+1))):=by
 have h1:=val_set O (i+k) (s % 65536) hj
 rw [zba B k,←Nat.add_assoc,Nat.pow_succ,Nat.mul_add,Nat.mul_add]
 have e3:65536 ^ i*(x*(65536 ^ k*lat B k))=65536 ^ (i+k)*(x*lat B k):=by
  rw [Nat.pow_add,Nat.mul_assoc,Nat.mul_left_comm x]
 rw [e3]
 generalize 65536 ^ (i+k)=P at *
 have e1:P*(s % 65536)+P*65536*(s / 65536)=P*s:=by rw [Nat.mul_assoc,←Nat.mul_add,Nat.mod_add_div]
 have e2:P*s=P*cy+P*lat O (i+k)+P*(x*lat B k):=by rw [hs,Nat.mul_add,Nat.mul_add]
 omega
theorem mul_any (l m:List Nat) (a b:Option Addr) (c d:Nat) (w:World) (hr:RD w a c l) (hs:RD w b d m) (hl:l.length≤zcH) (hm:m.length≤zcH) :
  Calls Tryz.prog 93 #[.slice a l.length c,.slice b m.length d] w (RetN w (lim (val l*val m))):=by
 have hl':l.length≤100000000000:=hl
 have hm':m.length≤100000000000:=hm
 have hn1:=zb8 l
 have hn2:=zb8 m
 refine za5 (rs:=[.tmp 4]) (n:=79) Tryz.func93 rfl rfl rfl (by kernel_rfl) ?_
 refine zzr fun K hK=>?_
 simp [go_sem]
 apply hK;clear hK K
 refine zzr fun K hK=>?_
 simp [go_sem]
 refine zzc rfl Tryz.call108 (fun R hR=>?_)
 simp [go_sem]
 refine (zb6 l a c _ hr (by unfold zbZ;omega)).mono ?_
 rintro e w1 ⟨rfl,rfl⟩
 refine ⟨_,rfl,hR _ _ ?_⟩
 clear hR R
 simp [go_sem]
 refine zzc rfl Tryz.call108 (fun R hR=>?_)
 simp [go_sem]
 refine (zb6 m b d _ hs (by unfold zbZ;omega)).mono ?_
 rintro e w1 ⟨rfl,rfl⟩
 refine ⟨_,rfl,hR _ _ ?_⟩
 clear hR R
 simp [go_sem]
 apply hK;clear hK K
 have hvl:=zc4 l
 have hvm:=zc4 m
 replace hr:=hr.nrm
 replace hs:=hs.nrm
 rw [←hvl,←hvm]
 generalize nrm l=A at *
 generalize nrm m=B at *
 clear hvl hvm
 refine zab (fun K1 hK1=>?_)
 by_cases h0:A=[]∨B=[]
 ·have hv:lim (val A*val B)=[]:=by
   rcases h0 with rfl|rfl
   ·simp [val,zap]
   ·simp [val,zap]
  refine zeH (fun g' w'=>w'=w∧g' 22 = .bool true) (by kernel_rfl) ?_ ?_
  ·by_cases hA:A=[]
   ·subst hA
    simp [go_sem]
   ·have hB:B=[]:=by rcases h0 with h|h;exact absurd h hA;exact h
    subst hB
    have hA':¬A.length=0:=fun e=>hA (List.length_eq_zero_iff.1 e)
    have hA'':¬(A.length:Int)=0:=by omega
    simp [go_sem,hA,hA',hA'']
  ·rintro g' w' ⟨rfl,g22⟩
   refine zaf g22 rfl ?_
   refine zzr fun K hK=>?_
   simp [go_sem]
   apply hK;clear hK K
   refine zad ?_
   repeat first|refine za3 ?_|refine za2 ?_
   rw [hv]
   refine ⟨trivial,none,0,?_,RD.nil _ _ _,Below.refl _ _⟩
   simp [go_sem,zar,zam]
 ·simp only [not_or] at h0
  obtain ⟨hA,hB⟩:=h0
  have hA':¬A.length=0:=fun e=>hA (List.length_eq_zero_iff.1 e)
  have hA'':¬(A.length:Int)=0:=by omega
  have hB':¬B.length=0:=fun e=>hB (List.length_eq_zero_iff.1 e)
  have hB'':¬(B.length:Int)=0:=by omega
  refine zzr fun K hK=>?_
  simp [go_sem,hA,hA',hA'',hB,hB',hB'']
  apply hK;clear hK K
  refine zaf (by simp [go_sem,hA,hA',hA'',hB,hB',hB''];rfl) rfl ?_
  refine za7 ?_
  apply hK1;clear hK1 K1
  obtain ⟨N,hN⟩:∃ N,N=A.length+B.length:=⟨_,rfl⟩
  have hwN:IntKind.i64.wrap (↑A.length + ↑B.length)=(N:Int):=by rw [IntWalk.i64_in _ (by omega)];omega
  have hbr:=fun b (hb:w.heap.size≤b)=>hr.below hb
  have hbs:=fun b (hb:w.heap.size≤b)=>hs.below hb
  refine zzr fun K hK=>?_
  simp [go_sem,hwN]
  refine hv_make (kl:=.i64) (kc:=.i64) N N (by simp [go_sem,hwN]) rfl zaT zaK (by simp [go_sem,hwN]) (by simp [go_sem,hwN]) (by omega) (by omega) (by omega) (fun w2 b2 hE2 hle2 hB2=>?_)
  rw [Nat.mul_one,zbH,lm_zeros] at hB2
  replace hr:=hr.ext hE2
  replace hs:=hs.ext hE2
  have hne1:=hbr b2 hle2
  have hne2:=hbs b2 hle2
  clear hbr hbs
  simp [go_sem]
  apply hK;clear hK K
  refine zab (fun K1 hK1=>?_)
  refine zzr fun K hK=>?_
  simp [go_sem]
  apply hK;clear hK K
  refine zac ?_
  refine zaz (fun k g w'=>Below w.heap.size w w'∧RD w' a c A∧RD w' b d B∧∃ (i:Nat) (O:List Nat),i≤A.length∧k=A.length-i∧g 1 = .slice b B.length d∧g 5 = .slice (some ⟨b2,0,none⟩) N N ∧
   g 29 = .slice a A.length c∧g 30 = .int .i64 A.length∧g 31 = .int .i64 i∧Bx w' b2 (lmC O).toArray 123∧O.length=N∧Ok O∧(∀ j,i+B.length≤j→lat O j=0)∧val O=val (A.take i)*val B) A.length ?_ ?_
  ·refine ⟨hE2,hr,hs,0,List.replicate N 0,by omega,rfl,by simp [go_sem],by simp [go_sem],by simp [go_sem],by simp [go_sem],by simp [go_sem],hB2,by simp,Ok.zeros N,?_,by simp [val_zeros,val]⟩
   intro j _
   unfold lat;rw [List.getD_eq_getElem?_getD,List.getElem?_replicate]
   split<;>rfl
  ·clear hr hs hE2 hB2
   rintro k g w' ⟨hE,hr,hs,i,O0,hi,rfl,g1,g5,g29,g30,g31,hBx,hOl,hOok,hOz,hval⟩
   refine zzr fun K hK=>?_
   simp [go_sem,g30,g31]
   apply hK;clear hK K
   refine zab (fun K2 hK2=>?_)
   by_cases hlt:i<A.length
   ·have hlt':(i:Int)<A.length:=by omega
    obtain ⟨c1,c2⟩:=hr.at hlt
    have hx:=zb9 hr.ok i
    have hw1:IntKind.i64.wrap (↑i+1)=(i:Int)+1:=IntWalk.i64_in _ (by omega)
    have hvA:=val_take A i hlt
    generalize hX:lat A i=x at *
    have ex:IntKind.u32.wrap (x:Int)=x:=zbJ _ (by omega)
    refine zaf (by simp [go_sem,hlt,hlt'];rfl) rfl ?_
    refine za7 ?_
    apply hK2;clear hK2 K2
    refine zab (fun K2 hK2=>?_)
    refine zac ?_
    refine zzr fun K hK=>?_
    simp [go_sem,g29,g31,hlt,hlt',c1,c2]
    apply hK;clear hK K
    refine zzr fun K hK=>?_
    simp [go_sem]
    apply hK;clear hK K
    refine zab (fun K3 hK3=>?_)
    refine zzr fun K hK=>?_
    simp [go_sem,g1]
    apply hK;clear hK K
    refine zac ?_
    refine zaz (fun t g w'=>Below w.heap.size w w'∧RD w' a c A∧RD w' b d B∧∃ (k cy:Nat) (O:List Nat),k≤B.length∧t=B.length-k∧g 1 = .slice b B.length d∧g 5 = .slice (some ⟨b2,0,none⟩) N N∧g 6 = .int .i64 i∧g 7 = .int .u16 x∧g 8 = .int .u32 cy ∧
     g 29 = .slice a A.length c∧g 30 = .int .i64 A.length∧g 31 = .int .i64 i∧g 36 = .slice b B.length d∧g 37 = .int .i64 B.length∧g 38 = .int .i64 k∧Bx w' b2 (lmC O).toArray 123∧O.length=N∧Ok O∧(∀ j,i+B.length≤j→lat O j=0)∧cy<65536∧val O+65536 ^ (i+k)*cy=val O0+65536 ^ i*(x*val (B.take k))) B.length ?_ ?_
    ·exact ⟨hE,hr,hs,0,0,O0,by omega,rfl,by simp [go_sem,g1],by simp [go_sem,g5],by simp [go_sem],by simp [go_sem],by simp [go_sem],by simp [go_sem,g29],by simp [go_sem,g30],by simp [go_sem,g31],by simp [go_sem],by simp [go_sem],by simp [go_sem],hBx,hOl,hOok,hOz,by omega,by simp [val]⟩
    ·clear hr hs hE hBx hOok hOz hOl g1 g5 g29 g30 g31 c1 c2
     rintro t g w' ⟨hE,hr,hs,k,cy,O,hk,rfl,g1,g5,g6,g7,g8,g29,g30,g31,g36,g37,g38,hBx,hOl,hOok,hOz,hcy,hv⟩
     refine zzr fun K hK=>?_
     simp [go_sem,g37,g38]
     apply hK;clear hK K
     refine zab (fun K4 hK4=>?_)
     by_cases hkl:k<B.length
     ·have hkl':(k:Int)<B.length:=by omega
      obtain ⟨d1,d2⟩:=hs.at hkl
      have hy:=zb9 hs.ok k
      obtain ⟨j,hj⟩:∃ j,j=i+k:=⟨_,rfl⟩
      have hjl:j<O.length:=by omega
      have hjN:j<N:=by omega
      have hjN':(j:Int)<N:=by omega
      have d3:=bx_at hBx hjl
      have ho:=zb9 hOok j
      obtain ⟨XY,hXY⟩:∃ XY,XY=x*lat B k:=⟨_,rfl⟩
      have hXYb:XY≤65535*65535:=by rw [hXY];exact Nat.mul_le_mul (by omega) (by omega)
      obtain ⟨s,hsm⟩:∃ s,s=cy+lat O j+XY:=⟨_,rfl⟩
      have hstep:=mul_step O O0 B i k cy x s (by omega) hv (by rw [hsm,hXY,hj])
      rw [←hj] at hstep
      have e0:IntKind.i64.wrap (↑i + ↑k)=(j:Int):=by rw [IntWalk.i64_in _ (by omega)];omega
      have e1:IntKind.u32.wrap (lat O j:Int)=lat O j:=zbJ _ (by omega)
      have e2:IntKind.u32.wrap (lat B k:Int)=lat B k:=zbJ _ (by omega)
      have eXY:(x:Int)*(lat B k:Int)=(XY:Int):=by rw [hXY];simp
      have e3:IntKind.u32.wrap (XY:Int)=XY:=zbJ _ (by omega)
      have e4:IntKind.u32.wrap ((lat O j:Int)+XY)=(lat O j:Int)+XY:=zbJ _ (by omega)
      have e5:IntKind.u32.wrap ((cy:Int)+((lat O j:Int)+XY))=(s:Int):=by rw [zbJ _ (by omega)];omega
      have e6:IntKind.u16.wrap (s:Int)=((s % 65536:Nat):Int):=w16 s
      have e7:shrI .u32 (s:Int) 16=((s / 65536:Nat):Int):=shr_nat .u32 s 16 (by decide)
      have hw2:IntKind.i64.wrap (↑k+1)=(k:Int)+1:=IntWalk.i64_in _ (by omega)
      have hQ':s % 65536<65536:=by omega
      have hC':s / 65536<65536:=by omega
      generalize hQ:s % 65536=Q at *
      generalize hC:s / 65536=C at *
      refine zaf (by simp [go_sem,hkl,hkl'];rfl) rfl ?_
      refine za7 ?_
      apply hK4;clear hK4 K4
      refine zab (fun K4 hK4=>?_)
      refine zac ?_
      refine zzr fun K hK=>?_
      simp [go_sem,g36,g38,hkl,hkl',d1,d2]
      apply hK;clear hK K
      refine zzr fun K hK=>?_
      simp [go_sem,g5,g6,g7,g8,e0,hjN,hjN',za0,d3,e1,ex,e2,eXY,e3,e4,e5]
      apply hK;clear hK K
      refine zzr fun K hK=>?_
      simp [go_sem,g5,g6,e0,e6,hjN,hjN',za0]
      refine zbG (b:=b2) (off:=j) [.int .u16 Q] (by simp [go_sem]) rfl (by simp [go_sem]) (by simp [go_sem,Value.cells]) zbc hBx (by simp [zb3]<;>omega) (by simp [Value.oneCell']) (by decide) (fun w3 hS3 hB3=>?_)
      rw [putC_lm] at hB3
      replace hr:=hr.sto hS3 hne1
      replace hs:=hs.sto hS3 hne2
      replace hE:=hE.nextS hS3 hle2
      simp [go_sem]
      apply hK;clear hK K
      refine zzt fun K hK=>?_
      simp [go_sem,e7]
      apply hK;clear hK K
      apply hK4;clear hK4 K4
      refine zzt fun K hK=>?_
      simp [go_sem,g38,hw2]
      refine hK _ _ ⟨B.length-(k+1),by omega,hE,hr,hs,k+1,C,O.set j Q,by omega,rfl,by simp [go_sem,g1],by simp [go_sem,g5],by simp [go_sem,g6],by simp [go_sem,g7],by simp [go_sem],by simp [go_sem,g29],by simp [go_sem,g30],by simp [go_sem,g31],by simp [go_sem,g36],by simp [go_sem,g37],by simp [go_sem],hB3,by simp [hOl],hOok.set j Q hQ',?_,hC',hstep⟩
      intro j' hj'
      rw [zdm O j j' Q (by omega)];exact hOz j' hj'
     ·have hkb:k=B.length:=by omega
      subst hkb
      rw [List.take_length] at hv
      obtain ⟨j,hj⟩:∃ j,j=i+B.length:=⟨_,rfl⟩
      have hjl:j<O.length:=by omega
      have hjN:j<N:=by omega
      have hjN':(j:Int)<N:=by omega
      have e0:IntKind.i64.wrap (↑i + ↑B.length)=(j:Int):=by rw [IntWalk.i64_in _ (by omega)];omega
      have e6:IntKind.u16.wrap (cy:Int)=cy:=zeq _ (by omega)
      refine zaf (by simp [go_sem,hkl];rfl) rfl ?_
      refine zav ?_
      repeat (first|refine zae ?_|refine za6 rfl ?_|refine za8 ?_)
      apply hK3;clear hK3 K3 hK4 K4
      refine zzt fun K hK=>?_
      simp [go_sem,g1,g5,g6,g8,e0,e6,hjN,hjN',za0]
      refine zbG (b:=b2) (off:=j) [.int .u16 cy] (by simp [go_sem]) rfl (by simp [go_sem]) (by simp [go_sem,Value.cells]) zbc hBx (by simp [zb3]<;>omega) (by simp [Value.oneCell']) (by decide) (fun w3 hS3 hB3=>?_)
      rw [putC_lm] at hB3
      replace hr:=hr.sto hS3 hne1
      replace hs:=hs.sto hS3 hne2
      replace hE:=hE.nextS hS3 hle2
      have hset:=val_set O j cy hjl
      have hz:=hOz j (by omega)
      simp [go_sem]
      apply hK;clear hK K
      apply hK2;clear hK2 K2
      refine zzt fun K hK=>?_
      simp [go_sem,g31,hw1]
      refine hK _ _ ⟨A.length-(i+1),by omega,hE,hr,hs,i+1,O.set j cy,by omega,rfl,by simp [go_sem,g1],by simp [go_sem,g5],by simp [go_sem,g29],by simp [go_sem,g30],by simp [go_sem],hB3,by simp [hOl],hOok.set j cy hcy,?_,?_⟩
      ·intro j' hj'
       rw [zdm O j j' cy (by omega)];exact hOz j' (by omega)
      ·rw [hz] at hset
       rw [hvA,Nat.add_mul,←hval,Nat.mul_assoc,←hv,←hj];omega
   ·have him:i=A.length:=by omega
    subst him
    rw [List.take_length] at hval
    have hrw:=RD.of_lm hBx hOok (c:=N) (by omega)
    have hres:lim (val A*val B)=nrm O0:=by rw [←hval,zaO O0 hOok]
    rw [←hOl] at g5 hrw
    refine zaf (by simp [go_sem,hlt];rfl) rfl ?_
    refine zav ?_
    repeat (first|refine zae ?_|refine za6 rfl ?_|refine za8 ?_)
    apply hK1;clear hK1 K1 hK2 K2
    refine zzr fun K hK=>?_
    simp [go_sem,g5]
    refine zzc rfl Tryz.call108 (fun R hR=>?_)
    simp [go_sem,g5]
    refine (zb6 O0 _ _ _ hrw (by unfold zbZ;omega)).mono ?_
    rintro e w4 ⟨rfl,rfl⟩
    refine ⟨_,rfl,hR _ _ ?_⟩
    clear hR R
    simp [go_sem]
    apply hK;clear hK K
    refine zad ?_
    repeat first|refine za3 ?_|refine za2 ?_
    rw [hres]
    refine ⟨trivial,some ⟨b2,0,none⟩,O0.length,?_,hrw.nrm,hE⟩
    simp [go_sem,zar,zam]
theorem mulR_any (l m:List Nat) (a b:Option Addr) (c d:Nat) (w:World) (hr:RD w a c l) (hs:RD w b d m) (hl:l.length≤zcH) (hm:m.length≤zcH) :
  Calls Tryz.prog 127 #[.slice a l.length c,.slice b m.length d] w (RetN w (lim (val l*val m))):=by
 have hl':l.length≤100000000000:=hl
 have hm':m.length≤100000000000:=hm
 obtain ⟨N,hN⟩:∃ N,N=l.length+m.length+1:=⟨_,rfl⟩
 have hwN0:IntKind.i64.wrap (↑l.length + ↑m.length)=(l.length:Int)+m.length:=IntWalk.i64_in _ (by omega)
 have hwN:IntKind.i64.wrap ((l.length:Int)+m.length+1)=(N:Int):=by rw [IntWalk.i64_in _ (by omega)];omega
 have hbr:=fun b (hb:w.heap.size≤b)=>hr.below hb
 have hbs:=fun b (hb:w.heap.size≤b)=>hs.below hb
 refine za5 (rs:=[.tmp 4]) (n:=65) Tryz.func127 rfl rfl rfl (by kernel_rfl) ?_
 refine zzr fun K hK=>?_
 simp [go_sem]
 apply hK;clear hK K
 refine zzr fun K hK=>?_
 simp [go_sem,hwN0,hwN]
 refine hv_make (kl:=.i64) (kc:=.i64) N N (by simp [go_sem,hwN0,hwN]) rfl zaT zaK (by simp [go_sem,hwN0,hwN]) (by simp [go_sem,hwN0,hwN]) (by omega) (by omega) (by omega) (fun w2 b2 hE2 hle2 hB2=>?_)
 rw [Nat.mul_one,zbH,lm_zeros] at hB2
 replace hr:=hr.ext hE2
 replace hs:=hs.ext hE2
 have hne1:=hbr b2 hle2
 have hne2:=hbs b2 hle2
 clear hbr hbs
 simp [go_sem]
 apply hK;clear hK K
 refine zab (fun K1 hK1=>?_)
 refine zzr fun K hK=>?_
 simp [go_sem]
 apply hK;clear hK K
 refine zac ?_
 refine zaz (fun t g w'=>Below w.heap.size w w'∧RD w' a c l∧RD w' b d m∧∃ (i:Nat) (O:List Nat),i≤l.length∧t=l.length-i∧g 0 = .slice a l.length c∧g 1 = .slice b m.length d∧g 5 = .slice (some ⟨b2,0,none⟩) N N∧g 6 = .int .i64 i ∧
  Bx w' b2 (lmC O).toArray 123∧O.length=N∧Ok O∧(∀ j,i+m.length≤j→lat O j=0)∧val O=val (l.take i)*val m) l.length ?_ ?_
 ·refine ⟨hE2,hr,hs,0,List.replicate N 0,by omega,rfl,by simp [go_sem],by simp [go_sem],by simp [go_sem],by simp [go_sem],hB2,by simp,Ok.zeros N,?_,by simp [val_zeros,val]⟩
  intro j _
  unfold lat;rw [List.getD_eq_getElem?_getD,List.getElem?_replicate]
  split<;>rfl
 ·clear hr hs hE2 hB2
  rintro t g w' ⟨hE,hr,hs,i,O0,hi,rfl,g0,g1,g5,g6,hBx,hOl,hOok,hOz,hval⟩
  refine zab (fun K2 hK2=>?_)
  refine zzr fun K hK=>?_
  simp [go_sem,g0,g6]
  apply hK;clear hK K
  by_cases hlt:i<l.length
  ·have hlt':(i:Int)<l.length:=by omega
   have hw1:IntKind.i64.wrap (↑i+1)=(i:Int)+1:=IntWalk.i64_in _ (by omega)
   have hvA:=val_take l i hlt
   have hx:=zb9 hr.ok i
   generalize hX:lat l i=x at *
   have ex:IntKind.u64.wrap (x:Int)=x:=zbd _ (by omega)
   refine zaf (by simp [go_sem,hlt,hlt'];rfl) rfl ?_
   refine za7 ?_
   apply hK2;clear hK2 K2
   refine zab (fun K2 hK2=>?_)
   refine zac ?_
   refine zzr fun K hK=>?_
   simp [go_sem]
   apply hK;clear hK K
   refine zzr fun K hK=>?_
   simp [go_sem]
   apply hK;clear hK K
   refine zac ?_
   refine zaz (fun t g w'=>Below w.heap.size w w'∧RD w' a c l∧RD w' b d m∧∃ (k cy:Nat) (O:List Nat),k≤m.length+1∧t=m.length+1-k∧g 0 = .slice a l.length c∧g 1 = .slice b m.length d∧g 5 = .slice (some ⟨b2,0,none⟩) N N∧g 6 = .int .i64 i∧g 7 = .int .u64 cy∧g 8 = .int .i64 k ∧
    Bx w' b2 (lmC O).toArray 123∧O.length=N∧Ok O∧(∀ j,i+m.length≤j→i+k≤j→lat O j=0)∧cy<65536∧(k=m.length+1→cy=0)∧val O+65536 ^ (i+k)*cy=val O0+65536 ^ i*(x*val (m.take k))) (m.length+1) ?_ ?_
   ·exact ⟨hE,hr,hs,0,0,O0,by omega,rfl,by simp [go_sem,g0],by simp [go_sem,g1],by simp [go_sem,g5],by simp [go_sem,g6],by simp [go_sem],by simp [go_sem],hBx,hOl,hOok,fun j h _=>hOz j h,by omega,by omega,by simp [val]⟩
   ·clear hr hs hE hBx hOok hOz hOl g0 g1 g5 g6
    rintro t g w' ⟨hE,hr,hs,k,cy,O,hk,rfl,g0,g1,g5,g6,g7,g8,hBx,hOl,hOok,hOz,hcy,hlast,hv⟩
    refine zab (fun K3 hK3=>?_)
    refine zeH (fun g' w1=>w1=w'∧g' 0 = .slice a l.length c∧g' 1 = .slice b m.length d∧g' 5 = .slice (some ⟨b2,0,none⟩) N N∧g' 6 = .int .i64 i∧g' 7 = .int .u64 cy∧g' 8 = .int .i64 k∧g' 30 = .bool (decide (k<m.length) || decide (0<cy))) (by kernel_rfl) ?_ ?_
    ·by_cases h1:k<m.length
     ·have h1':(k:Int)<m.length:=by omega
      simp [go_sem,g0,g1,g5,g6,g7,g8,h1,h1']
     ·have h1':¬(k:Int)<m.length:=by omega
      simp [go_sem,g0,g1,g5,g6,g7,g8,h1,h1']
    ·clear g0 g1 g5 g6 g7 g8
     rintro g' w1 ⟨rfl,g0,g1,g5,g6,g7,g8,g30⟩
     refine zaf g30 rfl ?_
     by_cases hgo:k<m.length∨0<cy
     ·have hgb:(decide (k<m.length) || decide (0<cy))=true:=by simpa using hgo
      have hkm:k≤m.length:=by
       by_cases e:k=m.length+1
       ·have:=hlast e;omega
       ·omega
      have hD:Below w1.heap.size w1 w1.drew:=Below.drew1 _
      replace hE:=hE.next hD
      replace hr:=hr.ext hD
      replace hs:=hs.ext hD
      replace hBx:=hBx.keep hD
      obtain ⟨c1,c2⟩:=hr.at hlt
      rw [hX] at c1
      have hy:=zb9 hs.ok k
      obtain ⟨j,hj⟩:∃ j,j=i+k:=⟨_,rfl⟩
      have hjl:j<O.length:=by omega
      have hjN:j<N:=by omega
      have hjN':(j:Int)<N:=by omega
      have d3:=bx_at hBx hjl
      have ho:=zb9 hOok j
      obtain ⟨XY,hXY⟩:∃ XY,XY=x*lat m k:=⟨_,rfl⟩
      have hXYb:XY≤65535*65535:=by rw [hXY];exact Nat.mul_le_mul (by omega) (by omega)
      obtain ⟨s,hsm⟩:∃ s,s=cy+lat O j+XY:=⟨_,rfl⟩
      have hstep:=mul_step O O0 m i k cy x s (by omega) hv (by rw [hsm,hXY,hj])
      rw [←hj] at hstep
      have hfin:k+1=m.length+1→s / 65536=0:=by
       intro e
       have z1:lat m k=0:=ze8 (by omega)
       have z2:lat O j=0:=hOz j (by omega) (by omega)
       rw [z1,Nat.mul_zero] at hXY
       omega
      have e0:IntKind.i64.wrap (↑i + ↑k)=(j:Int):=by rw [IntWalk.i64_in _ (by omega)];omega
      have e1:IntKind.u64.wrap (lat O j:Int)=lat O j:=zbd _ (by omega)
      have e2:IntKind.u64.wrap (lat m k:Int)=lat m k:=zbd _ (by omega)
      have eXY:(x:Int)*(lat m k:Int)=(XY:Int):=by rw [hXY];simp
      have e3:IntKind.u64.wrap (XY:Int)=XY:=zbd _ (by omega)
      have e4:IntKind.u64.wrap ((lat O j:Int)+XY)=(lat O j:Int)+XY:=zbd _ (by omega)
      have e5:IntKind.u64.wrap ((lat O j:Int)+XY+cy)=(s:Int):=by rw [zbd _ (by omega)];omega
      have e6:(s:Int).tmod 65536=((s % 65536:Nat):Int):=rfl
      have e6':IntKind.u16.wrap ((s % 65536:Nat):Int)=((s % 65536:Nat):Int):=zeq _ (by omega)
      have e7:(s:Int).tdiv 65536=((s / 65536:Nat):Int):=rfl
      have e7':IntKind.u64.wrap ((s / 65536:Nat):Int)=((s / 65536:Nat):Int):=zbd _ (by omega)
      have hw2:IntKind.i64.wrap (↑k+1)=(k:Int)+1:=IntWalk.i64_in _ (by omega)
      have hQ':s % 65536<65536:=by omega
      have hC':s / 65536<65536:=by omega
      generalize hQ:s % 65536=Q at *
      generalize hC:s / 65536=C at *
      simp only [hgb]
      refine za7 ?_
      apply hK3;clear hK3 K3
      refine zab (fun K3 hK3=>?_)
      refine zac ?_
      refine W_rd [(0,0),(1,0),(2,0),(3,0),(4,0),(5,0),(6,0),(7,0),(8,0),(9,0),(10,0),(11,0),(12,0),(13,0),(18,0),(14,1),(15,0),(16,0),(17,0),(19,0),(20,0)] (by kernel_rfl) (by kernel_rfl) (fun K hK=>?_)
      simp [go_sem,g0,g1,g5,g6,g7,g8,e0,hjN,hjN',za0,d3,e1,hlt,hlt',c1,c2,ex]
      refine zzc rfl Tryz.call137 (fun R hR=>?_)
      simp [go_sem,g0,g1,g5,g6,g7,g8,e0,hjN,hjN',za0,d3,e1,hlt,hlt',c1,c2,ex]
      refine (zds m b d k _ hs).mono ?_
      rintro e w2 ⟨rfl,rfl⟩
      refine ⟨_,rfl,Below.refl _ _,hR _ _ ?_⟩
      clear hR R
      simp [go_sem,g0,g1,g5,g6,g7,g8,e0,hjN,hjN',za0,d3,e1,ex,e2,eXY,e3,e4,e5]
      apply hK;clear hK K
      refine zzr fun K hK=>?_
      simp [go_sem,g5,g6,g8,e0,e6,e6',hjN,hjN',za0]
      refine zbG (b:=b2) (off:=j) [.int .u16 Q] (by simp [go_sem]) rfl (by simp [go_sem]) (by simp [go_sem,Value.cells]) zbc hBx (by simp [zb3]<;>omega) (by simp [Value.oneCell']) (by decide) (fun w3 hS3 hB3=>?_)
      rw [putC_lm] at hB3
      replace hr:=hr.sto hS3 hne1
      replace hs:=hs.sto hS3 hne2
      replace hE:=hE.nextS hS3 hle2
      simp [go_sem]
      apply hK;clear hK K
      refine zzt fun K hK=>?_
      simp [go_sem,e7,e7']
      apply hK;clear hK K
      apply hK3;clear hK3 K3
      refine zzt fun K hK=>?_
      simp [go_sem,g8,hw2]
      refine hK _ _ ⟨m.length+1-(k+1),by omega,hE,hr,hs,k+1,C,O.set j Q,by omega,rfl,by simp [go_sem,g0],by simp [go_sem,g1],by simp [go_sem,g5],by simp [go_sem,g6],by simp [go_sem],by simp [go_sem],hB3,by simp [hOl],hOok.set j Q hQ',?_,hC',hfin,hstep⟩
      intro j' h1 h2
      rw [zdm O j j' Q (by omega)];exact hOz j' h1 (by omega)
     ·have hgb:(decide (k<m.length) || decide (0<cy))=false:=by
       simp only [not_or] at hgo
       simp [hgo.1];omega
      have hc0:cy=0:=by omega
      subst hc0
      rw [List.take_of_length_le (by omega),Nat.mul_zero,Nat.add_zero] at hv
      simp only [hgb]
      refine zav ?_
      repeat (first|refine zae ?_|refine za6 rfl ?_|refine za8 ?_)
      apply hK2;clear hK2 K2 hK3 K3
      refine zzt fun K hK=>?_
      simp [go_sem,g6,hw1]
      refine hK _ _ ⟨l.length-(i+1),by omega,hE,hr,hs,i+1,O,by omega,rfl,by simp [go_sem,g0],by simp [go_sem,g1],by simp [go_sem,g5],by simp [go_sem],hBx,hOl,hOok,fun j h=>hOz j (by omega) (by omega),?_⟩
      rw [hvA,Nat.add_mul,←hval,Nat.mul_assoc,←hv]
  ·have him:i=l.length:=by omega
   subst him
   rw [List.take_length] at hval
   have hrw:=RD.of_lm hBx hOok (c:=N) (by omega)
   have hres:lim (val l*val m)=nrm O0:=by rw [←hval,zaO O0 hOok]
   rw [←hOl] at g5 hrw
   refine zaf (by simp [go_sem,hlt];rfl) rfl ?_
   refine zav ?_
   repeat (first|refine zae ?_|refine za6 rfl ?_|refine za8 ?_)
   apply hK1;clear hK1 K1 hK2 K2
   rw [hres]
   refine zzr fun K hK=>?_
   simp [go_sem,g5]
   refine zzc rfl Tryz.call121 (fun R hR=>?_)
   simp [go_sem,g5]
   refine (zc7 O0 _ _ _ hrw (by unfold zbZ;omega)).mono ?_
   rintro e w4 ⟨a4,c4,rfl,hr4,hE4⟩
   refine ⟨_,rfl,hR _ _ ?_⟩
   clear hR R
   simp [go_sem]
   apply hK;clear hK K
   refine zad ?_
   repeat first|refine za3 ?_|refine za2 ?_
   refine ⟨trivial,a4,c4,?_,hr4,hE.next hE4⟩
   simp [go_sem,zar,zam]
end Go.Proofs.YtefhenfofomjhaaGreat
namespace Go.Proofs.YtefhenfofomjhaaGreat
open Go Go.RowKit Go.V
def no16c (u:Value):Prop:=∀ x,u≠.int .u16 x
def NB (w:World) (v:Value):Prop:=∀ g,v.ownBlock=some g→∃ cur e f,w.heap[g]? = some (.cells cur e f)∧∀ u∈cur.toList,no16c u
theorem NB.nil (w:World):NB w (.slice none 0 0):=fun g h=>by cases h
theorem NB.keep {w w':World} {v:Value} (h:NB w v) (hE:Below w.heap.size w w'):NB w' v:=fun g hg=>by
 obtain ⟨cur,e,f,h1,h2⟩:=h g hg
 exact ⟨cur,e,f,by rw [hE.block g (Array.getElem?_eq_some_iff.1 h1).1];exact h1,h2⟩
theorem NB.grown {w w':World} {v:Value} {row:Option Nat} (h:NB w v) (hg:w.grownBy w' row) (hne:v.ownBlock=none∨v.ownBlock≠row):NB w' v:=fun g hv=>by
 obtain ⟨cur,e,f,h1,h2⟩:=h g hv
 refine ⟨cur,e,f,?_,h2⟩
 rw [hg.block g (Array.getElem?_eq_some_iff.1 h1).1 (by
                             rw [←hv];rcases hne with h|h;· rw [h] at hv;cases hv
                             ·exact h)]
 exact h1
theorem rd_nb {w:World} {v:Value} {a:Option Addr} {c:Nat} {l:List Nat} (h:RD w a c l) (hn:NB w v):∀ ad,a=some ad→l≠[]→some ad.block≠v.ownBlock:=by
 intro ad ha hl e
 cases l with
 | nil=>exact hl rfl
 | cons x r =>
  rcases h.sl with h0|⟨b,off,e1,h1⟩
  ·simp [lmC] at h0
  ·rw [ha] at e1;injection e1 with e1;subst e1
   have h2:=h1 0 (.int .u16 x) (by simp [lmC])
   obtain ⟨cur,t,f,h3,h4⟩:=hn b e.symm
   have h5:cur[off+0]? = some (.int .u16 x):=by simpa [World.cell?,h3] using h2
   exact h4 _ (Array.mem_toList_iff.2 (Array.mem_of_getElem? h5)) x rfl
theorem RD.app {w w':World} {v:Value} {a:Option Addr} {c:Nat} {l:List Nat} (h:RD w a c l) (hg:w.grownBy w' v.ownBlock) (hn:NB w v):RD w' a c l:=h.grown hg (rd_nb h hn)
section
variable {P:Program} (w:World)
theorem zero_no16 {z:Array Value} (hz:∀ u∈z.toList,no16c u) (hs:0<z.size) (n:Nat):∀ u∈(Builtin.zeroCells z n).toList,no16c u:=by
 intro u hu
 simp only [Builtin.zeroCells,Array.toList_map,List.mem_map] at hu
 obtain ⟨i,_,rfl⟩:=hu
 have hlt:i % z.size<z.size:=Nat.mod_lt _ hs
 rw [getElem!_pos z (i % z.size) hlt]
 exact hz _ (Array.mem_toList_iff.2 (Array.getElem_mem hlt))
theorem run_append16 (base:Nat) (t ty e:TypeId) (i:TypeInfo) (z:Value) (size bytes:Nat) (ht:P.underlying t=some (.slice e)) (hi:P.info? e=some i) (hz:i.zero=some z)
  (hsize:i.size=size) (hby:i.bytes=bytes) (hzs:z.cells.size=size) (hsz:0<size)
  (v:Value) (n:Nat) (xs:List Value) (hown:w.ownsRow base e size v n xs)
  (a:Addr) (m c:Nat) (news:List Value) (hl:news.length=m*size) (hnews:∀ j u,news[j]? = some u→w.cell? (a.add j)=some u) (h1:∀ u∈news,u.oneCell'=true)
  (h63:n+m≤maxLen) (hbytes:(n+m)*bytes≤140737488355328) (hbase:base≤w.heap.size) (hz16:∀ u∈z.cells.toList,no16c u) (hn16:∀ u∈news,no16c u) (hNB:NB w v) :
  ∃ v' w',(Builtin.append_ #[t,t] ty #[v,.slice (some a) m c]).run P w = .ok v' w'∧w'.ownsRow base e size v' (n+m) (xs++news)∧w.grownBy w' v.ownBlock ∧
   (v'.ownBlock=v.ownBlock∨v'.ownBlock=some w.heap.size)∧NB w' v':=by
 obtain ⟨v',w',hr,h2,h3,_,h5⟩:=run_append_own_at (P:=P) w base t ty e i z size bytes ht hi hz hsize hby hzs hsz v n xs hown a m c news hl hnews h1 h63 hbytes hbase
 refine ⟨v',w',hr,h2,h3,h5,?_⟩
 subst hsize
 subst hby
 have hz0:0<z.cells.size:=by rw [hzs];exact hsz
 have h63':n+m≤9223372036854775807:=by unfold maxLen at h63;omega
 rcases hown.2 with ⟨rfl,rfl⟩|⟨g,cap,cur,rfl,hbg,hg,hnc,hcm,hcs,htake⟩
 ·by_cases hm:m=0
  ·intro g hg
   subst hm
   have hn:news=[]:=List.eq_nil_of_length_eq_zero (by simpa using hl)
   subst hn
   have hx:xs=[]:=List.eq_nil_of_length_eq_zero (by simpa using hown.1)
   subst hx
   have e0:(Builtin.append_ #[t,t] ty #[.slice none 0 0,.slice (some a) 0 c]).run P w = .ok (.slice none 0 0) w:=by
    simp [Builtin.append_,run_underlying ht,sizeOf,typeInfo,hi,Builtin.lenOf,Builtin.firstCells,loadCells,loadCellsFrom]
   rw [e0] at hr
   injection hr with hv hw
   subst hv
   cases hg
  ·have e0:=run_append_nil (P:=P) w t ty e i z ht hi hz a m c news hl hnews (by omega) (by omega) (by have hb:=hbytes;simp only [Nat.zero_add] at hb;omega)
   rw [e0] at hr
   injection hr with hv hw
   subst hv;subst hw
   intro g hg
   injection hg with hg
   subst hg
   refine ⟨_,_,_,heap_alloc_new w.drew _,fun u hu=>?_⟩
   rw [Array.toList_append,List.mem_append] at hu
   rcases hu with hu|hu
   ·exact hn16 u (by simpa using hu)
   ·exact zero_no16 hz16 hz0 _ u hu
 ·by_cases hroom:n+m≤cap
  ·have hfit:n*i.size+news.length≤cur.size:=by rw [hl,hcs,←Nat.add_mul];exact Nat.mul_le_mul_right _ hroom
   have e0:=run_append_room (P:=P) w t ty e i ht hi g n cap cur hg a m c news hl hnews h1 hroom hfit
   rw [e0] at hr
   injection hr with hv hw
   subst hv;subst hw
   intro g' hg'
   injection hg' with hg'
   subst hg'
   obtain ⟨cur',e',f',h6,h7⟩:=hNB g rfl
   rw [hg] at h6
   injection h6 with h6
   injection h6 with h6 _ _
   subst h6
   refine ⟨_,_,_,setRow_heap w g cur _ e _ hg,fun u hu=>?_⟩
   simp only [List.mem_append] at hu
   rcases hu with (hu|hu)|hu
   ·exact h7 u (List.mem_of_mem_take hu)
   ·exact hn16 u hu
   ·exact h7 u (List.mem_of_mem_drop hu)
  ·have holds:∀ j u,xs[j]? = some u→w.cell? ((⟨g,0,none⟩:Addr).add j)=some u:=hown.cells (g:=g) rfl
   have e0:=run_append_grow (P:=P) w t ty e i z ht hi hz ⟨g,0,none⟩ n cap xs hown.1 holds a m c news hl hnews (by omega) (by omega) (growslice_fits (by omega) hbytes)
   rw [e0] at hr
   injection hr with hv hw
   subst hv;subst hw
   intro g' hg'
   injection hg' with hg'
   subst hg'
   obtain ⟨cur',e',f',h6,h7⟩:=hNB g rfl
   rw [hg] at h6
   injection h6 with h6
   injection h6 with h6 _ _
   subst h6
   refine ⟨_,_,_,heap_alloc_new w.drew _,fun u hu=>?_⟩
   rw [Array.toList_append,Array.toList_append,List.mem_append,List.mem_append] at hu
   rcases hu with (hu|hu)|hu
   ·rw [←htake] at hu;exact h7 u (List.mem_of_mem_take (by simpa using hu))
   ·exact hn16 u (by simpa using hu)
   ·exact zero_no16 hz16 hz0 _ u hu
end
section
variable {P:Program} {ops:Array Oper} {o:Oper} {k:Nat} {nx:G→World→Prop} {g:G} {w:World}
theorem zcn {t e size bytes:Nat} {z:Array Value} {s x:Operand} {B:Nat} {v:Value} {m:Nat} {xs:List Value} {b len c:Nat} {news:Array Value} {tb:TypeId} (hbx:Bx w b news tb) (hw:zcg ops g o=true)
  (ho:o.op = .call { callee:=.builtin .append,args:=#[s,x],argTypes:=#[t,t] }) (hz:slZ P t=some (e,size,z)) (hby:(P.info? e).map (·.bytes)=some bytes) (hzs:z.size=size) (hsz:0<size)
  (hs:evG g s=v) (hx:evG g x = .slice (some ⟨b,0,none⟩) len c) (hown:w.ownsRow B e size v m xs) (hl:news.size=len*size) (h1:∀ u∈news.toList,u.oneCell'=true)
  (h63:m+len≤maxLen) (hbytes:(m+len)*bytes≤140737488355328) (hB:B≤w.heap.size) (hk:k≠0) (hz16:∀ u∈z.toList,no16c u) (hn16:∀ u∈news.toList,no16c u) (hNB:NB w v)
  (h:∀ v' w1,w1.ownsRow B e size v' (m+len) (xs++news.toList)→w.grownBy w1 v.ownBlock→(v'.ownBlock=v.ownBlock∨v'.ownBlock=some w.heap.size)→NB w1 v'→nx (zci g o.dst v') w1):hvX P ops o k nx g w:=by
 obtain ⟨i,hu,hi,hsize,hzc⟩:=slZ_some hz
 have hby':i.bytes=bytes:=by rw [hi] at hby;simpa using hby
 obtain ⟨zv,hzv,hzc'⟩:∃ zv,i.zero=some zv∧zv.cells=z:=by
  unfold zdI at hzc
  rw [hi] at hzc
  cases hzz:i.zero with
  | none=>simp [hzz] at hzc
  | some zv=>simp [hzz] at hzc;exact ⟨zv,rfl,hzc⟩
 obtain ⟨v',w',hr,h2,h3,h4,h5⟩:=run_append16 (P:=P) w B t o.type e i zv size bytes hu hi hzv hsize hby' (by rw [hzc'];exact hzs) hsz v m xs hown ⟨b,0,none⟩ len c news.toList (by simpa using hl) (fun j u hu=>by rw [za0,hbx.cell];simpa using hu) h1 h63 hbytes hB (by rw [hzc'];exact hz16) hn16 hNB
 refine zdL hw (v:=v') (w':=w') ?_ (fun e=>absurd e hk) (h _ _ h2 h3 h4 h5)
 unfold execOp
 simp only [ho,resolve,invoke,builtin,Sem.run_bind,Sem.run_pure,Result.andThen_ok,List.map_toArray,List.map_cons,List.map_nil,hs,hx,hr]
end
end Go.Proofs.YtefhenfofomjhaaGreat
