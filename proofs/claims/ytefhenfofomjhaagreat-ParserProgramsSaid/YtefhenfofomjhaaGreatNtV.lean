/- Natural numbers: the greatest common divisor. -/
import Derived.Test.YtefhenfofomjhaaGreatNtT
import Derived.Test.YtefhenfofomjhaaGreatAp1
import Derived.Test.YtefhenfofomjhaaGreatNt9
set_option linter.unusedSimpArgs false
set_option linter.unusedVariables false
set_option maxHeartbeats 4000000
set_option maxRecDepth 20000
namespace Go.Proofs.YtefhenfofomjhaaGreat
open Go.RowKit Go.V
theorem cmpV_le {a b:Nat} (h:a≤b):cmpV a b≤0:=by unfold cmpV;split<;>(try split)<;>omega
theorem cmpV_nle {a b:Nat} (h:¬a≤b):¬cmpV a b≤0:=by unfold cmpV;rw [if_neg (by omega),if_pos (by omega)];omega
theorem digitR_any (l m:List Nat) (a b:Option Addr) (c d:Nat) (w:World) (hr:RD w a c l) (hs:RD w b d m) (hl:l.length≤zbZ) (hm:m.length+1≤zcH) (hm0:0<val m) (hR:val l<65536*val m) :
  Calls Tryz.prog 135 #[.slice a l.length c,.slice b m.length d] w fun e w'=>e = .returned (.int .u64 ((val l / val m:Nat):Int))∧Below w.heap.size w w':=by
 have hm':m.length+1≤100000000000:=hm
 refine za5 (rs:=[.tmp 4]) (n:=27) Tryz.func135 rfl rfl rfl (by kernel_rfl) ?_
 refine zzr fun K hK=>?_
 simp [go_sem]
 apply hK;clear hK K
 refine zzr fun K hK=>?_
 simp [go_sem]
 apply hK;clear hK K
 refine zab (fun K1 hK1=>?_)
 refine zac ?_
 refine zaz (fun t g w'=>Below w.heap.size w w'∧∃ lo hi:Nat,t=hi-lo∧lo≤hi∧hi<65536∧g 0 = .slice a l.length c∧g 1 = .slice b m.length d∧g 5 = .int .u64 lo∧g 6 = .int .u64 hi∧lo*val m≤val l∧val l<(hi+1)*val m) 65535 ?_ ?_
 ·exact ⟨Below.refl _ _,0,65535,by omega,by omega,by omega,by simp [go_sem],by simp [go_sem],by simp [go_sem],by simp [go_sem],by omega,by omega⟩
 ·rintro t g w' ⟨hE,lo,hi,rfl,hlh,hhi,g0,g1,g5,g6,h1,h2⟩
  replace hr:=hr.ext hE
  replace hs:=hs.ext hE
  refine zab (fun K2 hK2=>?_)
  by_cases hlt:lo<hi
  ·have hlt':(lo:Int)<hi:=by omega
   obtain ⟨S,hS⟩:∃ S,S=lo+hi+1:=⟨_,rfl⟩
   have f1:IntKind.u64.wrap ((lo:Int)+hi)=(lo:Int)+hi:=zbd _ (by omega)
   have f2:IntKind.u64.wrap ((lo:Int)+hi+1)=(S:Int):=by rw [zbd _ (by omega)];omega
   have f3:(S:Int).tdiv 2=((S / 2:Nat):Int):=rfl
   obtain ⟨mid,hmid⟩:∃ mid,mid=S / 2:=⟨_,rfl⟩
   rw [←hmid] at f3
   have f4:IntKind.u64.wrap (mid:Int)=mid:=zbd _ (by omega)
   have hml:(lim mid).length≤zcH:=Nat.le_trans (zbx 4 mid (by omega)) (by decide)
   have hmv:=zao mid
   have hprod:(lim (val m*val (lim mid))).length≤zbZ:=by
    refine Nat.le_trans (zbx (m.length+1) _ ?_) (by unfold zbZ;omega)
    rw [hmv,Nat.pow_succ]
    exact Nat.mul_lt_mul'' (zck m hs.ok) (by omega)
   have hpv:=zao (val m*val (lim mid))
   rw [hmv,Nat.mul_comm] at hpv
   refine zzr fun K hK=>?_
   simp [go_sem,g5,g6,hlt,hlt']
   apply hK;clear hK K
   refine zaf (by simp [go_sem,hlt,hlt'];rfl) rfl ?_
   refine za7 ?_
   apply hK2;clear hK2 K2
   refine zac ?_
   refine zzr fun K hK=>?_
   simp [go_sem,g5,g6,f1,f2,f3,f4]
   apply hK;clear hK K
   refine zzr fun K hK=>?_
   simp [go_sem,g0,g1]
   refine zzc rfl Tryz.call119 (fun R hR=>?_)
   simp [go_sem,g0,g1]
   refine (ofR_any mid _ (by omega)).mono ?_
   rintro e w2 ⟨a2,c2,rfl,hr2,hE2⟩
   refine ⟨_,rfl,hR _ _ ?_⟩
   clear hR R
   replace hr:=hr.ext hE2
   replace hs:=hs.ext hE2
   replace hE:=hE.next hE2
   simp [go_sem,g0,g1]
   refine zzc rfl Tryz.call127 (fun R hR=>?_)
   simp [go_sem,g0,g1]
   refine (mulR_any m (lim mid) b a2 d c2 _ hs hr2 (by omega) hml).mono ?_
   rintro e w3 ⟨a3,c3,rfl,hr3,hE3⟩
   refine ⟨_,rfl,hR _ _ ?_⟩
   clear hR R
   replace hr:=hr.ext hE3
   replace hE:=hE.next hE3
   simp [go_sem,g0,g1]
   refine zzc rfl Tryz.call139 (fun R hR=>?_)
   simp [go_sem,g0,g1]
   refine (cmpR_any _ l a3 a c3 c _ hr3 hr hprod hl).mono ?_
   rintro e w4 ⟨rfl,rfl⟩
   refine ⟨_,rfl,hR _ _ ?_⟩
   clear hR R
   rw [hmv,Nat.mul_comm,hpv]
   simp [go_sem]
   apply hK;clear hK K
   by_cases hle:mid*val m≤val l
   ·have hc:=cmpV_le hle
    refine zaf (by simp [go_sem,hc];rfl) rfl ?_
    refine zzt fun K hK=>?_
    simp [go_sem]
    refine hK _ _ ⟨hi-mid,by omega,hE,mid,hi,rfl,by omega,hhi,by simp [go_sem,g0],by simp [go_sem,g1],by simp [go_sem],by simp [go_sem,g6],hle,h2⟩
   ·have hc:=cmpV_nle hle
    obtain ⟨mid1,rfl⟩:∃ mid1,mid=mid1+1:=⟨mid-1,by omega⟩
    have f5:IntKind.u64.wrap (((mid1+1:Nat):Int)-1)=(mid1:Int):=by rw [zbd _ (by omega)];omega
    generalize hm1:((mid1+1:Nat):Int)=M1 at *
    refine zaf (by simp [go_sem,hc];rfl) rfl ?_
    refine zzt fun K hK=>?_
    simp [go_sem,f5]
    refine hK _ _ ⟨mid1-lo,by omega,hE,lo,mid1,rfl,by omega,by omega,by simp [go_sem,g0],by simp [go_sem,g1],by simp [go_sem,g5],by simp [go_sem],h1,by omega⟩
  ·have hlt':¬(lo:Int)<hi:=by omega
   have e:lo=hi:=by omega
   subst e
   have hdiv:val l / val m=lo:=Nat.div_eq_of_lt_le h1 h2
   refine zzr fun K hK=>?_
   simp [go_sem,g5,g6,hlt,hlt']
   apply hK;clear hK K
   refine zaf (by simp [go_sem,hlt,hlt'];rfl) rfl ?_
   refine zav ?_
   repeat (first|refine zae ?_|refine za6 rfl ?_|refine za8 ?_)
   apply hK1;clear hK1 K1 hK2 K2
   refine zzr fun K hK=>?_
   simp [go_sem,g5]
   apply hK;clear hK K
   refine zad ?_
   repeat first|refine za3 ?_|refine za2 ?_
   refine ⟨trivial,?_,hE⟩
   rw [hdiv];simp [go_sem,zar,zam]
theorem drop_step (L:List Nat) (j B:Nat) (hB:0<B):val (L.drop j) / B=(lat L j+65536*(val (L.drop (j+1)) % B)) / B+65536*(val (L.drop (j+1)) / B)∧val (L.drop j) % B=(lat L j+65536*(val (L.drop (j+1)) % B)) % B:=by
 have h:=div_step (lat L j) (val (L.drop (j+1))) B hB
 rw [←zcm L j] at h
 rw [Nat.mul_comm _ 65536,Nat.add_comm (65536*_)] at h
 exact h
theorem divmodR_any (l m:List Nat) (a b:Option Addr) (c d:Nat) (w:World) (hr:RD w a c l) (hs:RD w b d m) (hl:l.length+1≤zcH) (hm:m.length+1≤zcH) :
  Calls Tryz.prog 123 #[.slice a l.length c,.slice b m.length d] w (DivPost w (val l) (val m)):=by
 have hl':l.length+1≤100000000000:=hl
 have hm':m.length+1≤100000000000:=hm
 have hn1:=zb8 l
 have hn2:=zb8 m
 have hvl:=zc4 l
 have hvm:=zc4 m
 have hz:=zdl m
 refine za5 (rs:=[.tmp 4,.tmp 5,.tmp 6]) (n:=73) Tryz.func123 rfl rfl rfl (by kernel_rfl) ?_
 refine zzr fun K hK=>?_
 simp [go_sem]
 apply hK;clear hK K
 refine zzr fun K hK=>?_
 simp [go_sem]
 refine zzc rfl Tryz.call121 (fun R hR=>?_)
 simp [go_sem]
 refine (zc7 l a c _ hr (by unfold zbZ;omega)).mono ?_
 rintro e w1 ⟨a1,c1,rfl,hr1,hE1⟩
 refine ⟨_,rfl,hR _ _ ?_⟩
 clear hR R
 replace hs:=hs.ext hE1
 simp [go_sem]
 refine zzc rfl Tryz.call121 (fun R hR=>?_)
 simp [go_sem]
 refine (zc7 m b d _ hs (by unfold zbZ;omega)).mono ?_
 rintro e w2 ⟨b1,d1,rfl,hs1,hE2⟩
 refine ⟨_,rfl,hR _ _ ?_⟩
 clear hR R
 replace hr1:=hr1.ext hE2
 have hE:=hE1.next hE2
 simp [go_sem]
 apply hK;clear hK K
 clear hr hs hE1 hE2
 rw [←hvm] at hz
 rw [←hvl,←hvm]
 clear hvl hvm
 generalize nrm l=L at *
 generalize nrm m=M at *
 refine zab (fun K1 hK1=>?_)
 refine zzr fun K hK=>?_
 simp [go_sem]
 apply hK;clear hK K
 by_cases h0:M.length=0
 ·have e0:M=[]:=List.length_eq_zero_iff.1 h0
  have hv:val M=0:=hz.1 e0
  subst e0
  refine zaf (by simp [go_sem];rfl) rfl ?_
  refine zzr fun K hK=>?_
  simp [go_sem]
  apply hK;clear hK K
  refine zad ?_
  repeat first|refine za3 ?_|refine za2 ?_
  refine ⟨trivial,.inl ⟨hv,?_,hE⟩⟩
  simp [go_sem,zar,zam]
 ·have h0':¬(M.length:Int)=0:=by omega
  have h0'':¬M=[]:=by intro e;subst e;exact h0 rfl
  have hv0:val M≠0:=fun e=>h0'' (hz.2 e)
  refine zaf (by simp [go_sem,h0,h0',h0''];rfl) rfl ?_
  refine za7 ?_
  apply hK1;clear hK1 K1
  refine zab (fun K1 hK1=>?_)
  have main:∀ g:G,g 0 = .slice a1 L.length c1→g 1 = .slice b1 M.length d1→K1 g w2:=by
   intro g g0 g1
   apply hK1;clear hK1 K1
   have hMlt:=zck M hs1.ok
   refine zzr fun K hK=>?_
   simp [go_sem]
   apply hK;clear hK K
   refine zab (fun K1 hK1=>?_)
   have f0:IntKind.i64.wrap ((L.length:Int)-1)=(L.length:Int)-1:=IntWalk.i64_in _ (by omega)
   refine zzr fun K hK=>?_
   simp [go_sem,g0,f0]
   apply hK;clear hK K
   refine zac ?_
   refine zaz (fun t g w'=>Below w.heap.size w w'∧RD w' a1 c1 L∧RD w' b1 d1 M∧∃ Q aq cq ar cr,t≤L.length∧g 0 = .slice a1 L.length c1∧g 1 = .slice b1 M.length d1∧g 7 = .slice aq Q.length cq∧g 8 = .slice ar (lim (val (L.drop t) % val M)).length cr∧g 9 = .int .i64 ((t:Int)-1) ∧
    RD w' aq cq Q∧RD w' ar cr (lim (val (L.drop t) % val M))∧Q.length+t=L.length∧val Q=val (L.drop t) / val M) L.length ?_ ?_
   ·have e:lim (val (L.drop L.length) % val M)=[]:=by simp [val,zap]
    rw [e]
    exact ⟨hE,hr1,hs1,[],none,0,none,0,by omega,by simp [go_sem,g0],by simp [go_sem,g1],by simp [go_sem],by simp [go_sem],by simp [go_sem],RD.nil _ _ _,RD.nil _ _ _,by simp,by simp [val]⟩
   ·clear hE hr1 hs1 g0 g1
    clear g
    rintro t g w' ⟨hE,hr1,hs1,Q,aq,cq,ar,cr,htl,g0,g1,g7,g8,g9,hQ,hRm,hQl,hQv⟩
    refine zab (fun K2 hK2=>?_)
    rcases t with _|j
    ·rw [List.drop_zero] at hRm hQv g8
     have hres:lim (val L / val M)=nrm Q:=by rw [←hQv,zaO Q hQ.ok]
     refine zzr fun K hK=>?_
     simp [go_sem,g9]
     apply hK;clear hK K
     refine zaf (by simp [go_sem];rfl) rfl ?_
     refine zav ?_
     repeat (first|refine zae ?_|refine za6 rfl ?_|refine za8 ?_)
     apply hK1;clear hK1 K1 hK2 K2
     refine zzr fun K hK=>?_
     simp [go_sem,g7,g8]
     refine zzc rfl Tryz.call121 (fun R hR=>?_)
     simp [go_sem,g7,g8]
     refine (zc7 Q aq cq _ hQ (by unfold zbZ;omega)).mono ?_
     rintro e w3 ⟨a3,c3,rfl,hr3,hE3⟩
     refine ⟨_,rfl,hR _ _ ?_⟩
     clear hR R
     replace hRm:=hRm.ext hE3
     simp [go_sem,g7,g8]
     apply hK;clear hK K
     refine zad ?_
     repeat first|refine za3 ?_|refine za2 ?_
     refine ⟨trivial,.inr ⟨hv0,a3,c3,ar,cr,?_,by rw [hres];exact hr3,hRm,hE.next hE3⟩⟩
     rw [hres]
     simp [go_sem,zar,zam,g8]
    ·have ej:((j+1:Nat):Int)-1=(j:Int):=by omega
     rw [ej] at g9
     have p0:(0:Int)≤j:=by omega
     have hjl:j<L.length:=by omega
     have hjl':(j:Int)<L.length:=by omega
     obtain ⟨ds1,ds2⟩:=drop_step L j (val M) (by omega)
     have hx:=zb9 hr1.ok j
     have hRlt:=Nat.mod_lt (val (L.drop (j+1))) (show 0<val M by omega)
     rw [←hQv] at ds1
     generalize hRm0:val (L.drop (j+1)) % val M=Rm at *
     obtain ⟨x,hxe⟩:∃ x,x=lat L j:=⟨_,rfl⟩
     obtain ⟨cc1,cc2⟩:=hr1.at hjl
     rw [←hxe] at hx ds1 ds2 cc1
     obtain ⟨R',hR'⟩:∃ R',R'=x+65536*Rm:=⟨_,rfl⟩
     rw [←hR'] at ds1 ds2
     have hR'b:R'<65536*val M:=by omega
     have hdb:R' / val M<65536:=by rw [Nat.div_lt_iff_lt_mul (by omega)];exact hR'b
     have hRml:(lim Rm).length≤M.length:=zbx _ _ (by omega)
     have hR'l:(lim R').length≤M.length+1:=zbx _ _ (by rw [Nat.pow_succ];omega)
     refine zzr fun K hK=>?_
     simp [go_sem,g9,p0]
     apply hK;clear hK K
     refine zaf (by simp [go_sem,p0];rfl) rfl ?_
     refine za7 ?_
     apply hK2;clear hK2 K2
     refine zab (fun K2 hK2=>?_)
     refine zac ?_
     refine zzr fun K hK=>?_
     simp [go_sem,g0,g9,p0,hjl,hjl',cc1,cc2]
     refine zak #[.int .u16 x] (by simp [go_sem,g0,g9,p0,hjl,hjl',cc1,cc2]) rfl ty_slZ23 (by decide) [(0,.int .u16 x)] (by simp [go_sem,g0,g9,p0,hjl,hjl',cc1,cc2]) (by kernel_rfl) (fun w3 b3 hE3 hle3 hB3=>?_)
     have hown3:w3.ownsRow w'.heap.size 123 1 (.slice (some ⟨b3,0,none⟩) 1 1) 1 (lmC [x]):=own_of_bx (xs:=lmC [x]) hB3 hle3 rfl (by decide)
     have hE3':=hE3
     simp [go_sem,g8]
     refine hv_appendL (a:=ar) (c:=cr) (len:=(lim Rm).length) (lmC (lim Rm)) (by simp [go_sem]) rfl zaT zaK rfl (by simp [go_sem]) (by simp [go_sem,g8]) hown3 (zb3 _) (hRm.ext hE3).sl (lmC_one _) (by unfold maxLen;omega) (by omega) hE3.size (by decide) (fun v4 w4 hown4 hg4=>?_)
     rw [←lmC_app] at hown4
     replace hE3':=hE3'.nextG hg4 (fun k e=>(hown3.lt k e).1)
     have hok4:Ok ([x]++lim Rm):=Ok.cons hx (zdM _)
     have hv4:val ([x]++lim Rm)=R':=by rw [hR'];simp [val,zao]
     obtain ⟨a4,c4,rfl,hr4⟩:=RD.of_own hown4 hok4
     have hl4:([x]++lim Rm).length≤zbZ:=by simp only [List.length_append,List.length_cons,List.length_nil];unfold zbZ;omega
     have hn4:=zc7 ([x]++lim Rm) a4 c4 _ hr4 hl4
     rw [←zaO _ hok4,hv4] at hn4
     generalize ([x]++lim Rm).length=len4 at *
     simp [go_sem]
     refine zzc rfl Tryz.call121 (fun R hR=>?_)
     simp [go_sem]
     refine (hn4).mono ?_
     rintro e w5 ⟨a5,c5,rfl,hr5,hE5⟩
     refine ⟨_,rfl,hR _ _ ?_⟩
     clear hR R
     replace hE3':=hE3'.next hE5
     replace hr1:=hr1.ext hE3'
     replace hs1:=hs1.ext hE3'
     replace hQ:=hQ.ext hE3'
     replace hE:=hE.next hE3'
     clear hRm hE3 hB3 hown3 hown4 hg4 hE3' hr4 hE5 hn4
     have hv5:=zao R'
     simp [go_sem]
     apply hK;clear hK K
     have hdg:=digitR_any (lim R') M a5 b1 c5 d1 _ hr5 hs1 (by unfold zbZ;omega) (by omega) (by omega) (by rw [hv5];exact hR'b)
     rw [hv5] at hdg
     obtain ⟨dg,hdge⟩:∃ dg,dg=R' / val M:=⟨_,rfl⟩
     rw [←hdge] at hdg ds1 hdb
     refine zzr fun K hK=>?_
     simp [go_sem,g1]
     refine zzc rfl Tryz.call135 (fun R hR=>?_)
     simp [go_sem,g1]
     refine (hdg).mono ?_
     rintro e w6 ⟨rfl,hE6⟩
     refine ⟨_,rfl,hR _ _ ?_⟩
     clear hR R
     replace hr1:=hr1.ext hE6
     replace hs1:=hs1.ext hE6
     replace hQ:=hQ.ext hE6
     replace hr5:=hr5.ext hE6
     replace hE:=hE.next hE6
     simp [go_sem]
     apply hK;clear hK K
     have f1:IntKind.u16.wrap (dg:Int)=dg:=zeq _ (by omega)
     refine zzr fun K hK=>?_
     simp [go_sem,g7,f1]
     refine zak #[.int .u16 dg] (by simp [go_sem,g7,f1]) rfl ty_slZ23 (by decide) [(0,.int .u16 dg)] (by simp [go_sem,g7,f1]) (by kernel_rfl) (fun w7 b7 hE7 hle7 hB7=>?_)
     have hown7:w7.ownsRow w6.heap.size 123 1 (.slice (some ⟨b7,0,none⟩) 1 1) 1 (lmC [dg]):=own_of_bx (xs:=lmC [dg]) hB7 hle7 rfl (by decide)
     have hE7':=hE7
     simp [go_sem,g7]
     refine hv_appendL (a:=aq) (c:=cq) (len:=Q.length) (lmC Q) (by simp [go_sem]) rfl zaT zaK rfl (by simp [go_sem]) (by simp [go_sem,g7]) hown7 (zb3 _) (hQ.ext hE7).sl (lmC_one _) (by unfold maxLen;omega) (by omega) hE7.size (by decide) (fun v8 w8 hown8 hg8=>?_)
     rw [←lmC_app] at hown8
     replace hE7':=hE7'.nextG hg8 (fun k e=>(hown7.lt k e).1)
     have hok8:Ok ([dg]++Q):=Ok.cons (by omega) hQ.ok
     obtain ⟨a8,c8,rfl,hr8⟩:=RD.of_own hown8 hok8
     replace hr1:=hr1.ext hE7'
     replace hs1:=hs1.ext hE7'
     replace hr5:=hr5.ext hE7'
     replace hE:=hE.next hE7'
     clear hQ hE7 hB7 hown7 hown8 hg8 hE7'
     obtain ⟨Q2,hQ2⟩:∃ Q2,Q2=[dg]++Q:=⟨_,rfl⟩
     rw [←hQ2] at hr8 hok8 ⊢
     have hQ2l:Q2.length=Q.length+1:=by rw [hQ2];simp
     have hQ2v:val Q2=dg+65536*val Q:=by rw [hQ2];simp [val]
     simp [go_sem]
     apply hK;clear hK K
     have hdl:(lim dg).length≤zcH:=Nat.le_trans (zbx 4 dg (by omega)) (by decide)
     have hdv:=zao dg
     have hmu:val M*val (lim dg)≤R':=by rw [hdv,hdge];exact Nat.mul_div_le _ _
     have hmul:(lim (val M*val (lim dg))).length≤zbZ:=by
      refine Nat.le_trans (zbx (M.length+1) _ ?_) (by unfold zbZ;omega)
      rw [Nat.pow_succ];omega
     have hrem:R' - val M*val (lim dg)=val (L.drop j) % val M:=by
      rw [ds2,hdv,hdge]
      have:=Nat.div_add_mod R' (val M)
      omega
     have hmv:=zao (val M*val (lim dg))
     refine zzt fun K hK=>?_
     simp [go_sem,g1]
     refine zzc rfl Tryz.call119 (fun R hR=>?_)
     simp [go_sem,g1]
     refine (ofR_any dg _ (by omega)).mono ?_
     rintro e w9 ⟨a9,c9,rfl,hr9,hE9⟩
     refine ⟨_,rfl,hR _ _ ?_⟩
     clear hR R
     replace hs1:=hs1.ext hE9
     replace hr1:=hr1.ext hE9
     replace hr5:=hr5.ext hE9
     replace hr8:=hr8.ext hE9
     replace hE:=hE.next hE9
     simp [go_sem,g1]
     refine zzc rfl Tryz.call127 (fun R hR=>?_)
     simp [go_sem,g1]
     refine (mulR_any M (lim dg) b1 a9 d1 c9 _ hs1 hr9 (by omega) hdl).mono ?_
     rintro e w10 ⟨a10,c10,rfl,hr10,hE10⟩
     refine ⟨_,rfl,hR _ _ ?_⟩
     clear hR R
     replace hs1:=hs1.ext hE10
     replace hr1:=hr1.ext hE10
     replace hr5:=hr5.ext hE10
     replace hr8:=hr8.ext hE10
     replace hE:=hE.next hE10
     simp [go_sem,g1]
     have hsub:=subR_any (lim R') _ a5 a10 c5 c10 _ hr5 hr10 (by unfold zbZ;omega) hmul
     rw [hv5,hmv] at hsub
     refine zzc rfl Tryz.call136 (fun R hR=>?_)
     simp [go_sem,g1]
     refine hsub.mono ?_
     rintro e w11 (⟨hbad,_⟩|⟨_,a11,c11,rfl,hr11,hE11⟩)
     ·omega
     rw [hrem] at hr11
     rw [hrem]
     refine ⟨_,rfl,hR _ _ ?_⟩
     clear hR R
     replace hs1:=hs1.ext hE11
     replace hr1:=hr1.ext hE11
     replace hr8:=hr8.ext hE11
     replace hE:=hE.next hE11
     simp [go_sem]
     apply hK;clear hK K
     apply hK2;clear hK2 K2
     have f2:IntKind.i64.wrap ((j:Int)-1)=(j:Int)-1:=IntWalk.i64_in _ (by omega)
     refine zzt fun K hK=>?_
     simp [go_sem,g9,f2]
     exact hK _ _ ⟨j,by omega,hE,hr1,hs1,Q2,a8,c8,a11,c11,by omega,by simp [go_sem,g0],by simp [go_sem,g1],by simp [go_sem],by simp [go_sem],by simp [go_sem],hr8,hr11,by omega,by rw [hQ2v,ds1]⟩
  by_cases h1:L.length≤4
  ·have h1':(L.length:Int)≤4:=by omega
   by_cases h2:M.length≤4
   ·have h2':(M.length:Int)≤4:=by omega
    have hb1:=val_lt4 L hr1.ok h1
    have hb2:=val_lt4 M hs1.ok h2
    obtain ⟨A,hA⟩:∃ A,A=val L:=⟨_,rfl⟩
    obtain ⟨B,hB⟩:∃ B,B=val M:=⟨_,rfl⟩
    have hs1':=short_any L a1 c1 _ hr1 h1
    have hs2':=short_any M b1 d1 _ hs1 h2
    rw [←hA] at hb1 hs1' ⊢
    rw [←hB] at hb2 hv0 hs2' ⊢
    have hB':¬(B:Int)=0:=by omega
    have hq1:=Nat.div_le_self A B
    have hq2:=Nat.mod_lt A (show 0<B by omega)
    obtain ⟨q,hq⟩:∃ q,q=A / B:=⟨_,rfl⟩
    obtain ⟨rr,hrr⟩:∃ rr,rr=A % B:=⟨_,rfl⟩
    rw [←hq] at hq1
    rw [←hrr] at hq2
    have f1:(A:Int).tdiv B=(q:Int):=by rw [hq];rfl
    have f2:IntKind.u64.wrap (q:Int)=q:=zbd _ (by omega)
    have f3:(A:Int).tmod B=(rr:Int):=by rw [hrr];rfl
    refine zzr fun K hK=>?_
    simp [go_sem,h1,h1',h2,h2']
    apply hK;clear hK K
    refine zaf (by simp [go_sem,h1,h1',h2,h2'];rfl) rfl ?_
    refine zzr fun K hK=>?_
    simp [go_sem]
    refine zzc rfl Tryz.call134 (fun R hR=>?_)
    simp [go_sem]
    refine (hs1').mono ?_
    rintro e w3 ⟨rfl,rfl⟩
    refine ⟨_,rfl,hR _ _ ?_⟩
    clear hR R
    simp [go_sem]
    refine zzc rfl Tryz.call134 (fun R hR=>?_)
    simp [go_sem]
    refine (hs2').mono ?_
    rintro e w3 ⟨rfl,rfl⟩
    refine ⟨_,rfl,hR _ _ ?_⟩
    clear hR R
    simp [go_sem,hB',hv0,f1,f2,f3]
    refine zzc rfl Tryz.call119 (fun R hR=>?_)
    simp [go_sem,hB',hv0,f1,f2,f3]
    refine (ofR_any q _ (by omega)).mono ?_
    rintro e w3 ⟨a3,c3,rfl,hr3,hE3⟩
    refine ⟨_,rfl,hR _ _ ?_⟩
    clear hR R
    replace hr1:=hr1.ext hE3
    replace hs1:=hs1.ext hE3
    have hs1':=short_any L a1 c1 _ hr1 h1
    have hs2':=short_any M b1 d1 _ hs1 h2
    rw [←hA] at hs1'
    rw [←hB] at hs2'
    simp [go_sem]
    refine zzc rfl Tryz.call134 (fun R hR=>?_)
    simp [go_sem]
    refine (hs1').mono ?_
    rintro e w4 ⟨rfl,rfl⟩
    refine ⟨_,rfl,hR _ _ ?_⟩
    clear hR R
    simp [go_sem]
    refine zzc rfl Tryz.call134 (fun R hR=>?_)
    simp [go_sem]
    refine (hs2').mono ?_
    rintro e w4 ⟨rfl,rfl⟩
    refine ⟨_,rfl,hR _ _ ?_⟩
    clear hR R
    simp [go_sem,hB',hv0,f1,f2,f3]
    refine zzc rfl Tryz.call119 (fun R hR=>?_)
    simp [go_sem,hB',hv0,f1,f2,f3]
    refine (ofR_any rr _ (by omega)).mono ?_
    rintro e w5 ⟨a5,c5,rfl,hr5,hE5⟩
    refine ⟨_,rfl,hR _ _ ?_⟩
    clear hR R
    replace hr3:=hr3.ext hE5
    simp [go_sem]
    apply hK;clear hK K
    refine zad ?_
    repeat first|refine za3 ?_|refine za2 ?_
    refine ⟨trivial,.inr ⟨hv0,a3,c3,a5,c5,?_,by rw [←hq];exact hr3,by rw [←hrr];exact hr5,(hE.next hE3).next hE5⟩⟩
    rw [←hq,←hrr]
    simp [go_sem,zar,zam]
   ·have h2':¬(M.length:Int)≤4:=by omega
    refine zzr fun K hK=>?_
    simp [go_sem,h1,h1',h2,h2']
    apply hK;clear hK K
    refine zaf (by simp [go_sem,h1,h1',h2,h2'];rfl) rfl ?_
    refine za7 ?_
    exact main _ (by simp [go_sem]) (by simp [go_sem])
  ·have h1':¬(L.length:Int)≤4:=by omega
   refine zzr fun K hK=>?_
   simp [go_sem,h1,h1']
   apply hK;clear hK K
   refine zaf (by simp [go_sem,h1,h1'];rfl) rfl ?_
   refine za7 ?_
   exact main _ (by simp [go_sem]) (by simp [go_sem])
theorem lim_mono {A B k:Nat} (h:A≤B) (hk:(lim B).length≤k):(lim A).length≤k:=by
 refine Nat.le_trans (zbx (lim B).length A ?_) hk
 have:=zck _ (zdM B)
 rw [zao] at this
 omega
theorem lim_ne {B:Nat} (h:B≠0):0<(lim B).length:=by
 rw [lim_pos B h];simp
theorem lim_small {A:Nat} (h:(lim A).length≤4):A<18446744073709551616:=by
 have:=val_lt4 _ (zdM A) h
 rwa [zao] at this
theorem gcd_any (l m:List Nat) (a b:Option Addr) (c d:Nat) (w:World) (hr:RD w a c l) (hs:RD w b d m) (hl:l.length+1≤zcH) (hm:m.length+1≤zcH) :
  Calls Tryz.prog 97 #[.slice a l.length c,.slice b m.length d] w (RetN w (lim (Nat.gcd (val l) (val m)))):=by
 have hl':l.length+1≤100000000000:=hl
 have hm':m.length+1≤100000000000:=hm
 have hn1:=zb8 l
 have hn2:=zb8 m
 refine za5 (rs:=[.tmp 4]) (n:=51) Tryz.func97 rfl rfl rfl (by kernel_rfl) ?_
 refine zzr fun K hK=>?_
 simp [go_sem]
 apply hK;clear hK K
 refine zzr fun K hK=>?_
 simp [go_sem]
 refine zzc rfl Tryz.call94 (fun R hR=>?_)
 simp [go_sem]
 refine (norm_any l a c _ hr (by unfold zbZ;omega)).mono ?_
 rintro e w1 ⟨a1,c1,rfl,hr1,hE1⟩
 refine ⟨_,rfl,hR _ _ ?_⟩
 clear hR R
 replace hs:=hs.ext hE1
 simp [go_sem]
 refine zzc rfl Tryz.call94 (fun R hR=>?_)
 simp [go_sem]
 refine (norm_any m b d _ hs (by unfold zbZ;omega)).mono ?_
 rintro e w2 ⟨b1,d1,rfl,hs1,hE2⟩
 refine ⟨_,rfl,hR _ _ ?_⟩
 clear hR R
 replace hr1:=hr1.ext hE2
 have hE:=hE1.next hE2
 have hokl:=hr.ok
 have hokm:=hs.ok
 rw [←zaO l hokl] at hr1 hn1
 rw [←zaO m hokm] at hs1 hn2
 rw [←zaO l hokl,←zaO m hokm]
 simp [go_sem]
 apply hK;clear hK K
 clear hr hs hE1 hE2
 generalize val l=A0 at *
 generalize val m=B0 at *
 have hkA:(lim A0).length+1≤zcH:=by unfold zcH;omega
 have hkB:(lim B0).length+1≤zcH:=by unfold zcH;omega
 refine zab (fun K1 hK1=>?_)
 refine zac ?_
 refine zaz (fun t g w'=>Below w.heap.size w w'∧∃ A B a1 c1 b1 d1,B=t∧g 0 = .slice a1 (lim A).length c1∧g 1 = .slice b1 (lim B).length d1∧RD w' a1 c1 (lim A)∧RD w' b1 d1 (lim B)∧(lim A).length+1≤zcH∧(lim B).length+1≤zcH∧Nat.gcd A B=Nat.gcd A0 B0) B0 ?_ ?_
 ·exact ⟨hE,A0,B0,a1,c1,b1,d1,rfl,by simp [go_sem],by simp [go_sem],hr1,hs1,hkA,hkB,rfl⟩
 ·clear hE hr1 hs1
  rintro t g w' ⟨hE,A,B,a1,c1,b1,d1,rfl,g0,g1,hr1,hs1,hA,hB,hg⟩
  refine zab (fun K2 hK2=>?_)
  by_cases h0:B=0
  ·subst h0
   rw [Nat.gcd_zero_right] at hg
   rw [zap] at g1
   refine zzr fun K hK=>?_
   simp [go_sem,g1]
   apply hK;clear hK K
   refine zaf (by simp [go_sem];rfl) rfl ?_
   refine zav ?_
   repeat (first|refine zae ?_|refine za6 rfl ?_|refine za8 ?_)
   apply hK1;clear hK1 K1 hK2 K2
   refine zzr fun K hK=>?_
   simp [go_sem,g0]
   apply hK;clear hK K
   refine zad ?_
   repeat first|refine za3 ?_|refine za2 ?_
   rw [←hg]
   refine ⟨trivial,a1,c1,?_,hr1,hE⟩
   simp [go_sem,zar,zam,g0]
  ·have hp:0<(lim B).length:=lim_ne h0
   have hp':(0:Int)<(lim B).length:=by omega
   have hu1:=uint_any (lim A) a1 c1 _ hr1 (by unfold zbZ;unfold zcH at hA;omega)
   have hu2:=uint_any (lim B) b1 d1 _ hs1 (by unfold zbZ;unfold zcH at hB;omega)
   unfold uintV at hu1 hu2
   rw [nrm_lim,zao] at hu1 hu2
   generalize hla:(lim A).length=la at *
   generalize hlb:(lim B).length=lb at *
   refine zzr fun K hK=>?_
   simp [go_sem,g1,hp,hp']
   apply hK;clear hK K
   refine zaf (by simp [go_sem,hp,hp'];rfl) rfl ?_
   refine za7 ?_
   apply hK2;clear hK2 K2
   refine zac ?_
   refine zzr fun K hK=>?_
   simp [go_sem,g0]
   refine zzc rfl Tryz.call111 (fun R hR=>?_)
   simp [go_sem,g0]
   refine (hu1).mono ?_
   rintro e w3 ⟨rfl,rfl⟩
   refine ⟨_,rfl,hR _ _ ?_⟩
   clear hR R
   simp [go_sem]
   apply hK;clear hK K
   refine zzr fun K hK=>?_
   simp [go_sem,g1]
   refine zzc rfl Tryz.call111 (fun R hR=>?_)
   simp [go_sem,g1]
   refine (hu2).mono ?_
   rintro e w3 ⟨rfl,rfl⟩
   refine ⟨_,rfl,hR _ _ ?_⟩
   clear hR R
   simp [go_sem]
   apply hK;clear hK K
   refine zab (fun K3 hK3=>?_)
   have big:∀ g:G,g 0 = .slice a1 la c1→g 1 = .slice b1 lb d1→K3 g w':=by
    clear g0 g1
    clear g
    intro g g0 g1
    apply hK3;clear hK3 K3
    rw [←hla] at g0
    rw [←hlb] at g1
    have hdm:=divmod_any (lim A) (lim B) a1 b1 c1 d1 _ hr1 hs1 (by rw [hla];exact hA) (by rw [hlb];omega)
    rw [zao,zao] at hdm
    refine zzr fun K hK=>?_
    simp [go_sem,g0,g1]
    refine zzc rfl Tryz.call98 (fun R hR=>?_)
    simp [go_sem,g0,g1]
    refine hdm.mono ?_
    rintro e w4 (⟨hbad,_⟩|⟨_,a4,c4,a5,c5,rfl,hr4,hr5,hE4⟩)
    ·exact absurd hbad h0
    refine ⟨_,rfl,hR _ _ ?_⟩
    clear hR R
    replace hs1:=hs1.ext hE4
    simp [go_sem]
    apply hK;clear hK K
    refine zzt fun K hK=>?_
    simp [go_sem,g1]
    have hlt:=Nat.mod_lt A (show 0<B by omega)
    exact hK _ _ ⟨A % B,hlt,hE.next hE4,B,A % B,b1,d1,a5,c5,rfl,by simp [go_sem],by simp [go_sem],hs1,hr5,by rw [hlb];exact hB,by
     have:=lim_mono (Nat.le_of_lt hlt) (Nat.le_of_eq hlb)
     omega,by rw [←hg,Nat.gcd_comm A B,Nat.gcd_comm B,←Nat.gcd_rec]⟩
   by_cases h1:la≤4
   ·by_cases h2:lb≤4
    ·have hAs:=lim_small (by rw [hla];exact h1)
     have hBs:=lim_small (by rw [hlb];exact h2)
     refine zzr fun K hK=>?_
     simp [go_sem,h1,h2]
     apply hK;clear hK K
     refine zaf (by simp [go_sem,h1,h2];rfl) rfl ?_
     refine zab (fun K4 hK4=>?_)
     refine zac ?_
     refine zaz (fun t g w1=>Below w.heap.size w w1∧∃ x y:Nat,y=t∧x<18446744073709551616∧y<18446744073709551616∧g 5 = .int .u64 x∧g 7 = .int .u64 y∧Nat.gcd x y=Nat.gcd A0 B0) B ?_ ?_
     ·exact ⟨hE,A,B,rfl,hAs,hBs,by simp [go_sem,h1],by simp [go_sem,h2],hg⟩
     ·clear big g0 g1
      clear g
      rintro t g w1 ⟨hE,x,y,rfl,hx,hy,g5,g7,hg⟩
      refine zab (fun K5 hK5=>?_)
      by_cases hy0:y=0
      ·subst hy0
       rw [Nat.gcd_zero_right] at hg
       refine zzr fun K hK=>?_
       simp [go_sem,g7]
       apply hK;clear hK K
       refine zaf (by simp [go_sem];rfl) rfl ?_
       refine zav ?_
       repeat (first|refine zae ?_|refine za6 rfl ?_|refine za8 ?_)
       apply hK4;clear hK4 K4 hK5 K5
       refine zzr fun K hK=>?_
       simp [go_sem,g5]
       refine zzc rfl Tryz.call112 (fun R hR=>?_)
       simp [go_sem,g5]
       refine (of_any x _ hx).mono ?_
       rintro e w5 ⟨a5,c5,rfl,hr5,hE5⟩
       refine ⟨_,rfl,hR _ _ ?_⟩
       clear hR R
       simp [go_sem]
       apply hK;clear hK K
       refine zad ?_
       repeat first|refine za3 ?_|refine za2 ?_
       rw [←hg]
       refine ⟨trivial,a5,c5,?_,hr5,hE.next hE5⟩
       simp [go_sem,zar,zam]
      ·have hy':(0:Int)<y:=by omega
       have hyp:0<y:=by omega
       have hy'':¬(y:Int)=0:=by omega
       have hlt:=Nat.mod_lt x hyp
       have f1:(x:Int).tmod y=((x % y:Nat):Int):=rfl
       obtain ⟨z,hz⟩:∃ z,z=x % y:=⟨_,rfl⟩
       rw [←hz] at f1 hlt
       refine zzr fun K hK=>?_
       simp [go_sem,g7,hy',hyp]
       apply hK;clear hK K
       refine zaf (by simp [go_sem,hy',hyp];rfl) rfl ?_
       refine za7 ?_
       apply hK5;clear hK5 K5
       refine zac ?_
       refine zbE [(0,0),(1,0),(2,0),(3,0),(4,0),(5,0)] (by kernel_rfl) (by kernel_rfl) (fun K hK=>?_)
       simp [go_sem,g5,g7,hy0,hy'',f1]
       refine hK _ _ ⟨z,hlt,?_,y,z,rfl,hy,by omega,by simp [go_sem],by simp [go_sem],by rw [←hg,hz,Nat.gcd_comm x y,Nat.gcd_comm y,←Nat.gcd_rec]⟩
       exact hE.next (Below.drew1 _)
    ·refine zzr fun K hK=>?_
     simp [go_sem,h1,h2]
     apply hK;clear hK K
     refine zaf (by simp [go_sem,h1,h2];rfl) rfl ?_
     refine za7 ?_
     exact big _ (by simp [go_sem,g0]) (by simp [go_sem,g1])
   ·refine zzr fun K hK=>?_
    simp [go_sem,h1]
    apply hK;clear hK K
    refine zaf (by simp [go_sem,h1];rfl) rfl ?_
    refine za7 ?_
    exact big _ (by simp [go_sem,g0]) (by simp [go_sem,g1])
theorem gcdR_any (l m:List Nat) (a b:Option Addr) (c d:Nat) (w:World) (hr:RD w a c l) (hs:RD w b d m) (hl:l.length+1≤zcH) (hm:m.length+1≤zcH) :
  Calls Tryz.prog 122 #[.slice a l.length c,.slice b m.length d] w (RetN w (lim (Nat.gcd (val l) (val m)))):=by
 have hl':l.length+1≤100000000000:=hl
 have hm':m.length+1≤100000000000:=hm
 have hn1:=zb8 l
 have hn2:=zb8 m
 refine za5 (rs:=[.tmp 4]) (n:=25) Tryz.func122 rfl rfl rfl (by kernel_rfl) ?_
 refine zzr fun K hK=>?_
 simp [go_sem]
 apply hK;clear hK K
 refine zzr fun K hK=>?_
 simp [go_sem]
 refine zzc rfl Tryz.call121 (fun R hR=>?_)
 simp [go_sem]
 refine (zc7 l a c _ hr (by unfold zbZ;omega)).mono ?_
 rintro e w1 ⟨a1,c1,rfl,hr1,hE1⟩
 refine ⟨_,rfl,hR _ _ ?_⟩
 clear hR R
 replace hs:=hs.ext hE1
 simp [go_sem]
 refine zzc rfl Tryz.call121 (fun R hR=>?_)
 simp [go_sem]
 refine (zc7 m b d _ hs (by unfold zbZ;omega)).mono ?_
 rintro e w2 ⟨b1,d1,rfl,hs1,hE2⟩
 refine ⟨_,rfl,hR _ _ ?_⟩
 clear hR R
 replace hr1:=hr1.ext hE2
 have hE:=hE1.next hE2
 have hokl:=hr.ok
 have hokm:=hs.ok
 rw [←zaO l hokl] at hr1 hn1
 rw [←zaO m hokm] at hs1 hn2
 rw [←zaO l hokl,←zaO m hokm]
 simp [go_sem]
 apply hK;clear hK K
 clear hr hs hE1 hE2
 generalize val l=A0 at *
 generalize val m=B0 at *
 have hkA:(lim A0).length+1≤zcH:=by unfold zcH;omega
 have hkB:(lim B0).length+1≤zcH:=by unfold zcH;omega
 refine zab (fun K1 hK1=>?_)
 refine zac ?_
 refine zaz (fun t g w'=>Below w.heap.size w w'∧∃ A B a1 c1 b1 d1,B=t∧g 0 = .slice a1 (lim A).length c1∧g 1 = .slice b1 (lim B).length d1∧RD w' a1 c1 (lim A)∧RD w' b1 d1 (lim B)∧(lim A).length+1≤zcH∧(lim B).length+1≤zcH∧Nat.gcd A B=Nat.gcd A0 B0) B0 ?_ ?_
 ·exact ⟨hE,A0,B0,a1,c1,b1,d1,rfl,by simp [go_sem],by simp [go_sem],hr1,hs1,hkA,hkB,rfl⟩
 ·clear hE hr1 hs1
  rintro t g w' ⟨hE,A,B,a1,c1,b1,d1,rfl,g0,g1,hr1,hs1,hA,hB,hg⟩
  refine zab (fun K2 hK2=>?_)
  by_cases h0:B=0
  ·subst h0
   rw [Nat.gcd_zero_right] at hg
   rw [zap] at g1
   refine zzr fun K hK=>?_
   simp [go_sem,g1]
   apply hK;clear hK K
   refine zaf (by simp [go_sem];rfl) rfl ?_
   refine zav ?_
   repeat (first|refine zae ?_|refine za6 rfl ?_|refine za8 ?_)
   apply hK1;clear hK1 K1 hK2 K2
   refine zzr fun K hK=>?_
   simp [go_sem,g0]
   apply hK;clear hK K
   refine zad ?_
   repeat first|refine za3 ?_|refine za2 ?_
   rw [←hg]
   refine ⟨trivial,a1,c1,?_,hr1,hE⟩
   simp [go_sem,zar,zam,g0]
  ·have hp:0<(lim B).length:=lim_ne h0
   have hp':(0:Int)<(lim B).length:=by omega
   have hdm:=divmodR_any (lim A) (lim B) a1 b1 c1 d1 _ hr1 hs1 hA hB
   rw [zao,zao] at hdm
   refine zzr fun K hK=>?_
   simp [go_sem,g1,hp,hp']
   apply hK;clear hK K
   refine zaf (by simp [go_sem,hp,hp'];rfl) rfl ?_
   refine za7 ?_
   apply hK2;clear hK2 K2
   refine zac ?_
   refine zzr fun K hK=>?_
   simp [go_sem,g0,g1]
   refine zzc rfl Tryz.call123 (fun R hR=>?_)
   simp [go_sem,g0,g1]
   refine hdm.mono ?_
   rintro e w4 (⟨hbad,_⟩|⟨_,a4,c4,a5,c5,rfl,hr4,hr5,hE4⟩)
   ·exact absurd hbad h0
   refine ⟨_,rfl,hR _ _ ?_⟩
   clear hR R
   replace hs1:=hs1.ext hE4
   simp [go_sem]
   apply hK;clear hK K
   refine zzt fun K hK=>?_
   simp [go_sem,g1]
   have hlt:=Nat.mod_lt A (show 0<B by omega)
   exact hK _ _ ⟨A % B,hlt,hE.next hE4,B,A % B,b1,d1,a5,c5,rfl,by simp [go_sem],by simp [go_sem],hs1,hr5,hB,by
    have:=lim_mono (Nat.le_of_lt hlt) (Nat.le_refl _)
    omega,by rw [←hg,Nat.gcd_comm A B,Nat.gcd_comm B,←Nat.gcd_rec]⟩
end Go.Proofs.YtefhenfofomjhaaGreat
