/- The lexer, third part: the reference's IsName. -/
import Derived.Test.YtefhenfofomjhaaGreatPp2
import Derived.Test.YtefhenfofomjhaaGreatIc2
import Derived.Test.YtefhenfofomjhaaGreatPt2
set_option linter.unusedSimpArgs false
set_option linter.unusedVariables false
set_option maxHeartbeats 4000000
set_option maxRecDepth 20000
namespace Go.Proofs.YtefhenfofomjhaaGreat
open Go Go.RowKit Go.V
theorem aword_any (k:Int) (h1:10≤k) (h2:k≤68) (w:World):Calls Tryz.prog 50 #[.int .i64 k] w fun e w'=>e = .returned (.string ⟨(zeI k).toArray⟩)∧Below w.heap.size w w' :=
 ct_s ev_aword rfl (Nat.zero_le _) (ints1 k) (zs1 k 0) (aword_den h1 h2)
theorem asort_any (k:Int) (h1:10≤k) (h2:k≤68) (w:World):Calls Tryz.prog 51 #[.int .i64 k] w fun e w'=>e = .returned (.int .i64 (sortK k))∧Below w.heap.size w w' :=
 ct_n ev_asort rfl (Nat.zero_le _) (ints1 k) (zs1 k 0) (asort_den h1 h2)
def PSS (w:World) (b:Nat) (tb:TypeId) (la:Option Addr) (cap:Nat) (T:List Tok) (s:PSt):Prop:=PS w b tb la cap T s.i s.at' s.er
section
variable {w w':World} {b tb cap:Nat} {la:Option Addr} {T:List Tok} {s:PSt}
theorem PSS.ext (h:PSS w b tb la cap T s) (hb:Below w.heap.size w w'):PSS w' b tb la cap T s:=PS.ext h hb
theorem PSS.keep (h:PSS w b tb la cap T s) (hb:Below w.heap.size w w'):PSS w' b tb la cap T s:=PS.ext h hb
theorem PSS.nl (h:PSS w b tb la cap T s):NL w b:=NL.of_bx h.bx (by
 intro u hu x e
 subst e
 simp at hu)
theorem PSS.ch (h:PSS w b tb la cap T s) (hg:w.grownBy w' (some b)):Ch w w' (fun k=>k=b):=(Ch.of_grown hg (fun k hk=>by injection hk with hk;subst hk;exact h.nl)).mono (fun k hk=>by injection hk with hk;exact hk.symm)
theorem PSS.lt' (h:PSS w b tb la cap T s):b<w.heap.size:=h.bx.lt
theorem PSS.sto {b':Nat} (h:PSS w b tb la cap T s) (hs:Sto w w' b') (hb:b≠b') (hl:∀ ad,la=some ad→ad.block≠b'):PSS w' b tb la cap T s :=
 ⟨h.bx.sto hs hb,h.sl.sto hs (fun ad ha _=>hl ad ha),h.ne,h.lt⟩
theorem PSS.lab (h:PSS w b tb la cap T s):∀ ad,la=some ad→ad.block<w.heap.size:=by
 intro ad ha
 obtain ⟨b',off,e,hlt⟩:=h.sl.lt (by intro e;have h4:=zd4 (zes T);rw [show (T.map zcV).flatten=zc2 T from rfl,e,List.length_map] at h4;have:=h.lt;simp at h4;omega)
 rw [ha] at e;injection e with e;subst e;exact hlt
theorem PSS.grown {r:Option Nat} (h:PSS w b tb la cap T s) (hg:w.grownBy w' r) (hb:some b≠r) (hl:∀ ad,la=some ad→some ad.block≠r):PSS w' b tb la cap T s:=by
 refine ⟨h.bx.grown hg hb,?_,h.ne,h.lt⟩
 rcases h.sl with h0|⟨b',off,e,h1⟩
 ·exact .inl h0
 ·exact .inr ⟨b',off,e,fun j v hv=>hg.cell (h1 j v hv) (hl ⟨b',off,none⟩ e)⟩
end
section
variable {w:World} {b tb cap:Nat} {la:Option Addr} {T:List Tok} {s:PSt}
theorem zdG (h:PSS w b tb la cap T s) (hW:Wf T) (er:Int) :
  Calls Tryz.prog 16 #[.pointer (some ⟨b,0,none⟩),.int .i64 er] w fun x w'=>x = .returned (.tuple #[])∧PSS w' b tb la cap T (zbN T er s)∧w.grownBy w' (some b):=by
 have hT:T.length≤maxLen:=by have:=hW.size;unfold maxLen;omega
 obtain ⟨i,a,e⟩:=s
 by_cases h0:e=0
 ·subst h0
  refine (failG_any h hT er).mono ?_
  rintro x w' ⟨h1,h2,h3⟩
  exact ⟨h1,by rw [failP_good rfl];exact h2,h3⟩
 ·refine (failB_any h h0 er).mono ?_
  rintro x w' ⟨h1,hE⟩
  exact ⟨h1,by rw [zdF h0];exact PSS.ext h hE,zaa hE⟩
theorem zc1 (h:PSS w b tb la cap T s) (hW:Wf T) (t:List UInt8) :
  Calls Tryz.prog 42 #[.pointer (some ⟨b,0,none⟩),.string ⟨t.toArray⟩] w fun x w'=>x = .returned (.bool (isT T s.er s.i t))∧PSS w' b tb la cap T (zb4 T t s)∧w.grownBy w' (some b):=by
 have hT:T.length≤maxLen:=by have:=hW.size;unfold maxLen;omega
 unfold zb4
 cases hs:isT T s.er s.i t with
 | false =>
  refine (takeF_any h hT t hs).mono ?_
  rintro x w' ⟨h1,hE⟩
  exact ⟨h1,PSS.ext h hE,zaa hE⟩
 | true =>
  refine (takeT_any h hT t hs (hW.next h.lt (isT_ok hs).2.1)).mono ?_
  rintro x w' ⟨h1,h2,h3⟩
  exact ⟨h1,h2,h3⟩
theorem zdH (h:PSS w b tb la cap T s) (hW:Wf T) (t:List UInt8) :
  Calls Tryz.prog 29 #[.pointer (some ⟨b,0,none⟩),.string ⟨t.toArray⟩] w fun x w'=>x = .returned (.tuple #[])∧PSS w' b tb la cap T (zc8 T t s)∧w.grownBy w' (some b):=by
 have hT:T.length≤maxLen:=by have:=hW.size;unfold maxLen;omega
 unfold zc8
 cases hs:isT T s.er s.i t with
 | true =>
  refine (mustT_any h hT t hs (hW.next h.lt (isT_ok hs).2.1)).mono ?_
  rintro x w' ⟨h1,h2,h3⟩
  exact ⟨h1,h2,h3⟩
 | false =>
  obtain ⟨i,a,e⟩:=s
  by_cases h0:e=0
  ·subst h0
   refine (mustF_any h hT t hs).mono ?_
   rintro x w' ⟨h1,h2,h3⟩
   refine ⟨h1,?_,h3⟩
   rw [if_neg (by decide),failP_good rfl];exact h2
  ·refine (mustB_any h hT t h0).mono ?_
   rintro x w' ⟨h1,hE⟩
   refine ⟨h1,?_,zaa hE⟩
   rw [if_neg (by decide),zdF h0];exact PSS.ext h hE
theorem nmT_k {er:Int} {i:Nat} (h:nmT T er i=true):er=0∧(zai T i).k=1:=by
 unfold nmT at h
 simp at h
 exact ⟨h.1,h.2.1⟩
theorem nameS_any (h:PSS w b tb la cap T s) (hW:Wf T) :
  Calls Tryz.prog 54 #[.pointer (some ⟨b,0,none⟩)] w fun x w'=>x = .returned (.string ⟨(zbM T s).2.toArray⟩)∧PSS w' b tb la cap T (zbM T s).1∧w.grownBy w' (some b):=by
 have hT:T.length≤maxLen:=by have:=hW.size;unfold maxLen;omega
 have hl:(zai T s.i).t.length≤maxLen:=by have:=hW.len s.i;unfold maxLen;omega
 unfold zbM
 cases hs:nmT T s.er s.i with
 | true =>
  refine (nameT_any h hT hl hs (hW.next h.lt (by rw [(nmT_k hs).2];decide))).mono ?_
  rintro x w' ⟨h1,h2,h3⟩
  exact ⟨h1,h2,h3⟩
 | false =>
  obtain ⟨i,a,e⟩:=s
  by_cases h0:e=0
  ·subst h0
   refine (nameF_any h hT hl hs).mono ?_
   rintro x w' ⟨h1,h2,h3⟩
   refine ⟨h1,?_,h3⟩
   rw [if_neg (by decide),failP_good rfl];exact h2
  ·refine (nameB_any h hT hl h0).mono ?_
   rintro x w' ⟨h1,hE⟩
   refine ⟨h1,?_,zaa hE⟩
   rw [if_neg (by decide),zdF h0];exact PSS.ext h hE
theorem namedS_any (h:PSS w b tb la cap T s) (hW:Wf T) :
  Calls Tryz.prog 12 #[.pointer (some ⟨b,0,none⟩)] w fun x w'=>x = .returned (.bool (nmT T s.er s.i))∧Below w.heap.size w w' :=
 named_any h (by have:=hW.size;unfold maxLen;omega) (by have:=hW.len s.i;unfold maxLen;omega)
end
theorem kindF_step (t:List UInt8) (sorts:List Int) (j:Nat) (h:j<59):zeL t sorts (10+j) (59-j)=if zeI (10+j)=t∧sortK (10+j)∈sorts then (10+j:Int) else zeL t sorts (10+(j+1:Nat)) (59-(j+1)):=by
 rw [show 59-j=(59-(j+1))+1 by omega]
 rw [zeL,show (10:Int)+j+1=10+(j+1:Nat) by omega]
theorem kindS_any {w:World} {b tb cap:Nat} {la:Option Addr} {T:List Tok} {s:PSt} (h:PSS w b tb la cap T s) (hW:Wf T) (sa:Option Addr) (sc:Nat) (sorts:List Int) (hs:SL w sa (intC sorts)) (hn:sorts.length≤10) :
  Calls Tryz.prog 28 #[.pointer (some ⟨b,0,none⟩),.slice sa sorts.length sc] w fun e w'=>e = .returned (.int .i64 (zdU T sorts s))∧Below w.heap.size w w':=by
 have hT:T.length≤maxLen:=by have:=hW.size;unfold maxLen;omega
 obtain ⟨K,hK0⟩:∃ K,K=zdU T sorts s:=⟨_,rfl⟩
 rw [←hK0]
 obtain ⟨i,a0,er⟩:=s
 unfold zdU at hK0
 simp only at hK0
 refine za5 (rs:=[.tmp 4]) (n:=45) Tryz.func28 rfl rfl rfl (by kernel_rfl) ?_
 have hA0:=Below.refl w.heap.size w
 refine zzr fun K hK=>?_
 simp [go_sem,za0,za4,za1]
 apply hK;clear hK K
 refine zab (fun K1 hK1=>?_)
 refine zzr fun K hK=>?_
 simp [go_sem,za0,za4,za1]
 refine zzc rfl Tryz.call15 (fun R hR=>?_)
 simp [go_sem,za0,za4,za1]
 refine (zd5 (h.ext hA0)).mono ?_
 rintro e w1 ⟨rfl,hE1⟩
 refine ⟨_,rfl,hR _ _ ?_⟩
 clear hR R
 replace hA0:=hA0.next hE1
 simp [go_sem,za0,za4,za1]
 by_cases h0:er=0
 ·by_cases h1:(zai T i).k=1
  ·have h1':((zai T i).k:Int)=1:=by omega
   rw [if_pos ⟨h0,h1⟩] at hK0
   simp [go_sem,za0,za4,za1,h0]
   refine zzc rfl Tryz.call13 (fun R hR=>?_)
   simp [go_sem,za0,za4,za1,h0,h1,h1',zcV]
   refine (zcd (h.ext hA0) hT).mono ?_
   rintro e w2 ⟨rfl,hE2⟩
   refine ⟨_,rfl,hR _ _ ?_⟩
   clear hR R
   replace hA0:=hA0.next hE2
   simp [go_sem,za0,za4,za1,h0,h1,h1',zcV]
   apply hK;clear hK K
   refine zaf (t:=false) (by simp [go_sem, h0,h1,h1']) rfl ?_
   refine za7 ?_
   apply hK1
   refine zab (fun K2 hK2=>?_)
   refine zzr fun K hK=>?_
   simp [go_sem,za0,za4,za1]
   apply hK;clear hK K
   refine zac ?_
   refine zaz (fun m' g w'=>Below w.heap.size w w'∧∃ j:Nat,j≤59∧m'=59-j∧zeL (zai T i).t sorts (10+j) (59-j)=K∧g 0 = .pointer (some ⟨b,0,none⟩)∧g 1 = .slice sa sorts.length sc∧g 5 = .int .i64 (10+j)) 59 ?_ ?_
   ·exact ⟨hA0,0,by omega,rfl,hK0.symm,by simp [go_sem],by simp [go_sem],by simp [go_sem]⟩
   rintro m' g w' ⟨hA0,j,hj,rfl,hK1,g0,g1,g5⟩
   refine zab (fun K3 hK3=>?_)
   refine zzr fun K hK=>?_
   simp [go_sem,za0,za4,za1,g0,g1,g5]
   apply hK;clear hK K
   by_cases hlt:j<59
   ·have c1:(10:Int)+j≤68:=by omega
    have hw1:IntKind.i64.wrap ((10:Int)+j+1)=10+(j+1:Nat):=by rw [IntWalk.i64_in _ (by omega)];omega
    rw [kindF_step _ _ _ hlt] at hK1
    refine zaf (t:=true) (by simp [go_sem,g0,g1,g5,c1]) rfl ?_
    refine za7 ?_
    apply hK3
    refine zab (fun K4 hK4=>?_)
    refine zac ?_
    refine zab (fun K5 hK5=>?_)
    have hD3:=Below.drew1 w'
    replace hA0:=hA0.next hD3
    refine W_rd [(0,0),(2,0),(3,0),(4,0),(1,1),(5,1),(6,0),(7,0)] (by kernel_rfl) (by kernel_rfl) (fun K hK=>?_)
    simp [go_sem,za0,za4,za1,g0,g1,g5]
    refine zzc rfl Tryz.call50 (fun R hR=>?_)
    simp [go_sem,za0,za4,za1,g0,g1,g5]
    refine (aword_any (10+j) (by omega) c1 _).mono ?_
    rintro e w4 ⟨rfl,hE4⟩
    refine ⟨_,rfl,(by assumption),hR _ _ ?_⟩
    clear hR R
    replace hA0:=hA0.next hE4
    simp [go_sem,za0,za4,za1,g0,g1,g5]
    refine zzc rfl Tryz.call13 (fun R hR=>?_)
    simp [go_sem,za0,za4,za1,g0,g1,g5,zcV]
    refine (zcd (h.ext hA0) hT).mono ?_
    rintro e w5 ⟨rfl,hE5⟩
    refine ⟨_,rfl,(by assumption),hR _ _ ?_⟩
    clear hR R
    replace hA0:=hA0.next hE5
    simp [go_sem,za0,za4,za1,g0,g1,g5,zcV]
    apply hK;clear hK K
    by_cases hwd:zeI (10+j)=(zai T i).t
    ·refine zaf (t:=false) (by simp [go_sem,g0,g1,g5, hwd]) rfl ?_
     refine za7 ?_
     apply hK5
     refine zzr fun K hK=>?_
     simp [go_sem,za0,za4,za1,g0,g1,g5]
     apply hK;clear hK K
     refine zac ?_
     refine zaz (fun m' g w'=>Below w.heap.size w w'∧∃ q:Nat,q≤sorts.length∧m'=sorts.length-q∧(∀ p,p<q→sorts.getD p 0≠sortK (10+j))∧g 0 = .pointer (some ⟨b,0,none⟩)∧g 1 = .slice sa sorts.length sc∧g 5 = .int .i64 (10+j)∧g 33 = .slice sa sorts.length sc∧g 34 = .int .i64 sorts.length∧g 35 = .int .i64 q) sorts.length ?_ ?_
     ·exact ⟨hA0,0,by omega,rfl,fun p hp=>by omega,by simp [go_sem,g0],by simp [go_sem,g1],by simp [go_sem,g5],by simp [go_sem,g1],by simp [go_sem,g1],by simp [go_sem]⟩
     clear hA0 g0 g1 g5
     rintro m' g w' ⟨hA0,q,hq,rfl,hno,g0,g1,g5,g33,g34,g35⟩
     refine zzr fun K hK=>?_
     simp [go_sem,za0,za4,za1,g0,g1,g5,g0,g1,g5,g33,g34,g35]
     apply hK;clear hK K
     refine zab (fun K6 hK6=>?_)
     by_cases hlq:q<sorts.length
     ·have c2:(q:Int)<sorts.length:=by omega
      have hw2:IntKind.i64.wrap ((q:Int)+1)=(q+1:Nat):=zzw (by omega)
      have hs1:=hs.ext hA0
      obtain ⟨q1,q2⟩:=hs1.getD (j:=q) (by simp [intC];omega)
      rw [intC_at hlq] at q1
      have hno':=hno
      obtain ⟨z,hz⟩:∃ z,z=sorts.getD q 0:=⟨_,rfl⟩
      rw [←hz] at q1
      refine zaf (t:=true) (by simp [go_sem,g0,g1,g5,g0,g1,g5,g33,g34,g35,c2,hlq]) rfl ?_
      refine za7 ?_
      apply hK6
      refine zab (fun K7 hK7=>?_)
      refine zac ?_
      refine zzr fun K hK=>?_
      simp [go_sem,za0,za4,za1,g0,g1,g5,g0,g1,g5,g33,g34,g35, c2,hlq,q1,q2]
      apply hK;clear hK K
      refine zzr fun K hK=>?_
      simp [go_sem,za0,za4,za1,g0,g1,g5,g0,g1,g5,g33,g34,g35]
      refine zzc rfl Tryz.call51 (fun R hR=>?_)
      simp [go_sem,za0,za4,za1,g0,g1,g5,g0,g1,g5,g33,g34,g35]
      refine (asort_any (10+j) (by omega) c1 _).mono ?_
      rintro e w6 ⟨rfl,hE6⟩
      refine ⟨_,rfl,hR _ _ ?_⟩
      clear hR R
      replace hA0:=hA0.next hE6
      simp [go_sem,za0,za4,za1,g0,g1,g5,g0,g1,g5,g33,g34,g35]
      apply hK;clear hK K
      by_cases hse:sortK (10+j)=z
      ·have hin:sortK (10+j)∈sorts:=by
        rw [hse,hz,List.getD_eq_getElem?_getD,List.getElem?_eq_getElem hlq];exact List.getElem_mem hlq
       rw [if_pos ⟨hwd,hin⟩] at hK1
       refine zaf (t:=true) (by simp [go_sem,g0,g1,g5,g0,g1,g5,g33,g34,g35,hse]) rfl ?_
       refine zzr fun K hK=>?_
       simp [go_sem,za0,za4,za1,g0,g1,g5,g0,g1,g5,g33,g34,g35]
       apply hK;clear hK K
       refine zad ?_
       repeat first|refine za3 ?_|refine za2 ?_
       refine ⟨trivial,?_,hA0⟩
       simp [go_sem,zar,zam,hK1,g5]
      ·refine zaf (t:=false) (by simp [go_sem,g0,g1,g5,g0,g1,g5,g33,g34,g35,hse]) rfl ?_
       refine za7 ?_
       apply hK7
       refine zzt fun K hK=>?_
       simp [go_sem,g35,hw2]
       refine hK _ _ ⟨sorts.length-(q+1),by omega,hA0,q+1,by omega,rfl,?_,by simp [go_sem,g0],by simp [go_sem,g1],by simp [go_sem,g5],by simp [go_sem,g33],by simp [go_sem,g34],by simp [go_sem]⟩
       intro p hp
       by_cases hpq:p=q
       ·rw [hpq,←hz];exact fun e=>hse e.symm
       ·exact hno p (by omega)
     ·have c2:¬(q:Int)<sorts.length:=by omega
      have hnin:¬(zeI (10+j)=(zai T i).t∧sortK (10+j)∈sorts):=by
       rintro ⟨_,hin⟩
       obtain ⟨p,hp,e⟩:=List.getElem_of_mem hin
       refine hno p (by omega) ?_
       rw [List.getD_eq_getElem?_getD,List.getElem?_eq_getElem hp];exact e
      rw [if_neg hnin] at hK1
      refine zaf (t:=false) (by simp [go_sem,g0,g1,g5,g0,g1,g5,g33,g34,g35,c2,hlq]) rfl ?_
      refine zav ?_
      repeat (first|refine zae ?_|refine za6 rfl ?_|refine za8 ?_)
      apply hK4
      refine zzt fun K hK=>?_
      simp [go_sem,g5,hw1]
      refine hK _ _ ⟨59-(j+1),by omega,hA0,j+1,by omega,rfl,hK1,by simp [go_sem,g0],by simp [go_sem,g1],by simp [go_sem]⟩
    ·rw [if_neg (fun hh=>hwd hh.1)] at hK1
     refine zaf (t:=true) (by simp [go_sem,g0,g1,g5,hwd]) rfl ?_
     refine zav ?_
     repeat (first|refine zae ?_|refine za6 rfl ?_|refine za8 ?_)
     apply hK4
     refine zzt fun K hK=>?_
     simp [go_sem,g5,hw1]
     refine hK _ _ ⟨59-(j+1),by omega,hA0,j+1,by omega,rfl,hK1,by simp [go_sem,g0],by simp [go_sem,g1],by simp [go_sem]⟩
   ·have c1:¬(10:Int)+j≤68:=by omega
    have hj':j=59:=by omega
    subst hj'
    have hKz:K=0:=hK1.symm
    refine zaf (t:=false) (by simp [go_sem,g0,g1,g5,c1]) rfl ?_
    refine zav ?_
    repeat (first|refine zae ?_|refine za6 rfl ?_|refine za8 ?_)
    apply hK2
    refine zzr fun K hK=>?_
    simp [go_sem,za0,za4,za1,g0,g1,g5]
    apply hK;clear hK K
    refine zad ?_
    repeat first|refine za3 ?_|refine za2 ?_
    refine ⟨trivial,?_,hA0⟩
    simp [go_sem,zar,zam,hKz]
  ·have h1':¬((zai T i).k:Int)=1:=by omega
   rw [if_neg (fun hh=>h1 hh.2)] at hK0
   simp [go_sem,za0,za4,za1,h0]
   refine zzc rfl Tryz.call13 (fun R hR=>?_)
   simp [go_sem,za0,za4,za1,h0,h1,h1',zcV]
   refine (zcd (h.ext hA0) hT).mono ?_
   rintro e w7 ⟨rfl,hE7⟩
   refine ⟨_,rfl,hR _ _ ?_⟩
   clear hR R
   replace hA0:=hA0.next hE7
   simp [go_sem,za0,za4,za1,h0,h1,h1',zcV]
   apply hK;clear hK K
   refine zaf (t:=true) (by simp [go_sem,h0,h1,h1']) rfl ?_
   refine zzr fun K hK=>?_
   simp [go_sem,za0,za4,za1]
   apply hK;clear hK K
   refine zad ?_
   repeat first|refine za3 ?_|refine za2 ?_
   refine ⟨trivial,?_,hA0⟩
   simp [go_sem,zar,zam,hK0]
 ·rw [if_neg (fun hh=>h0 hh.1)] at hK0
  simp [go_sem,za0,za4,za1,h0]
  apply hK;clear hK K
  refine zaf (t:=true) (by simp [go_sem,h0]) rfl ?_
  refine zzr fun K hK=>?_
  simp [go_sem,za0,za4,za1]
  apply hK;clear hK K
  refine zad ?_
  repeat first|refine za3 ?_|refine za2 ?_
  refine ⟨trivial,?_,hA0⟩
  simp [go_sem,zar,zam,hK0]
theorem zan {w w1 w2:World} {b:Nat} {r:Option Nat} (h:w.grownBy w1 r) (hs:Sto w1 w2 b) (hb:w.heap.size≤b):w.grownBy w2 r :=
 ⟨hs.os.trans h.os,hs.tape.trans h.tape,hs.output.trans h.output,by rw [hs.size];exact h.size,fun k hk hn=>(hs.block k (by omega)).trans (h.block k hk hn)⟩
def NumPost (w:World) (b:Nat) (tb:TypeId) (la:Option Addr) (cap:Nat) (T:List Tok) (p:PSt × Rat) (S:Nat) (e:Ending) (w':World):Prop :=
 ∃ (q:R3) (a a':Option Addr) (c c':Nat),e = .returned (.agg #[.bool q.1,.slice a q.2.1.length c,.slice a' q.2.2.length c'])∧RV w' q (.agg #[.bool q.1,.slice a q.2.1.length c,.slice a' q.2.2.length c'])∧qS q S∧(p.1.er=0→q=qR3 p.2)∧PSS w' b tb la cap T p.1∧w.grownBy w' (some b)
theorem failP_er {T:List Tok} {e:Int} {s:PSt} (h:e≠0):(zbN T e s).er≠0:=by
 unfold zbN
 split
 ·exact h
 ·assumption
theorem RV.nil (w:World):RV w r30 (.agg #[.bool false,.slice none 0 0,.slice none 0 0]):=⟨none,0,none,0,rfl,RD.nil _ _ _,RD.nil _ _ _⟩
theorem numS_any {w:World} {b tb cap:Nat} {la:Option Addr} {T:List Tok} {s:PSt} (h:PSS w b tb la cap T s) (hW:Wf T) :
  Calls Tryz.prog 55 #[.pointer (some ⟨b,0,none⟩)] w (NumPost w b tb la cap T (numP T s) 1005):=by
 have hT:T.length≤maxLen:=by have:=hW.size;unfold maxLen;omega
 obtain ⟨N,hN⟩:∃ N,N=numP T s:=⟨_,rfl⟩
 rw [←hN]
 obtain ⟨i,a0,er⟩:=s
 refine za5 (rs:=[.cell 2 27]) (n:=38) Tryz.func55 rfl rfl rfl (by kernel_rfl) ?_
 have hP:=h
 have hG:w.grownBy w (some b):=zaa (Below.refl _ _)
 have hb0:=h.lt'
 have hla0:=h.lab
 refine zzr fun K hK=>?_
 simp [go_sem,za0,za4,za1]
 refine zza rfl zb2 (fun w1 b1 hE1 hle1 hB1=>?_)
 have hwb1:_≤b1:=Nat.le_trans hG.size hle1
 replace hG:=hG.trans (zaa hE1)
 replace hP:=hP.ext hE1
 simp [go_sem,za0,za4,za1,hB1.cell]
 apply hK;clear hK K
 refine zab (fun K1 hK1=>?_)
 refine zzr fun K hK=>?_
 simp [go_sem,za0,za4,za1,hB1.cell]
 refine zzc rfl Tryz.call15 (fun R hR=>?_)
 simp [go_sem,za0,za4,za1,hB1.cell]
 refine (zd5 hP).mono ?_
 rintro e w2 ⟨rfl,hE2⟩
 refine ⟨_,rfl,hR _ _ ?_⟩
 clear hR R
 replace hB1:=hB1.keep hE2
 replace hG:=hG.trans (zaa hE2)
 replace hP:=hP.ext hE2
 simp [go_sem,za0,za4,za1,hB1.cell]
 by_cases hc:er=0∧(zai T i).k=2
 ·obtain ⟨h0,h2⟩:=hc
  subst h0
  have h2':((zai T i).k:Int)=2:=by omega
  have hn:N=(⟨i+1,a0,0⟩,qrV (zai T i).t):=by rw [hN];unfold numP;rw [if_pos ⟨rfl,h2⟩]
  have hq:=hW.num i h2
  have hlt:=hW.next h.lt (show (zai T i).k≠0 by rw [h2];decide)
  have hi:i<T.length:=h.lt
  have hw1:IntKind.i64.wrap ((i:Int)+1)=(i+1:Nat):=by rw [IntWalk.i64_in _ (by unfold maxLen at hT;omega)];omega
  simp [go_sem,za0,za4,za1,hB1.cell]
  refine zzc rfl Tryz.call13 (fun R hR=>?_)
  simp [go_sem,za0,za4,za1,hB1.cell,h2',zcV]
  refine (zcd hP hT).mono ?_
  rintro e w3 ⟨rfl,hE3⟩
  refine ⟨_,rfl,hR _ _ ?_⟩
  clear hR R
  replace hB1:=hB1.keep hE3
  replace hG:=hG.trans (zaa hE3)
  replace hP:=hP.ext hE3
  simp [go_sem,za0,za4,za1,hB1.cell,h2',zcV]
  apply hK;clear hK K
  refine zaf (t:=false) (by simp [go_sem, h2']) rfl ?_
  refine za7 ?_
  apply hK1
  refine zzr fun K hK=>?_
  simp [go_sem,za0,za4,za1,hB1.cell]
  refine zzc rfl Tryz.call13 (fun R hR=>?_)
  simp [go_sem,za0,za4,za1,hB1.cell,zcV]
  refine (zcd hP hT).mono ?_
  rintro e w4 ⟨rfl,hE4⟩
  refine ⟨_,rfl,hR _ _ ?_⟩
  clear hR R
  replace hB1:=hB1.keep hE4
  replace hG:=hG.trans (zaa hE4)
  replace hP:=hP.ext hE4
  simp [go_sem,za0,za4,za1,hB1.cell,zcV]
  refine zzc rfl Tryz.call75 (fun R hR=>?_)
  simp [go_sem,za0,za4,za1,hB1.cell,zcV]
  refine (readQ_any (zai T i).t _ (hW.len i) hq).mono ?_
  rintro e w5 ⟨v,rfl,⟨a,c,a',c',rfl,r1,r2⟩,hqs,hE5⟩
  refine ⟨_,rfl,hR _ _ ?_⟩
  clear hR R
  replace hB1:=hB1.keep hE5
  replace hG:=hG.trans (zaa hE5)
  replace hP:=hP.ext hE5
  have hR:RV w5 (qR3 (qrV (zai T i).t)) _:=⟨a,c,a',c',rfl,r1,r2⟩
  simp [go_sem,za0,za4,za1,hB1.cell]
  refine zza rfl zb2 (fun w6 b6 hE6 hle6 hB6=>?_)
  have hwb6:_≤b6:=Nat.le_trans hG.size hle6
  have hd1_6:b1≠b6:=Nat.ne_of_lt (Nat.lt_of_lt_of_le hB1.lt hle6)
  replace hB1:=hB1.keep hE6
  replace hG:=hG.trans (zaa hE6)
  replace hP:=hP.ext hE6
  replace hR:=hR.ext hE6
  simp [go_sem,za0,za4,za1,hB1.cell,hB6.cell]
  refine zzs (b:=b6) (off:=0) [.bool (qR3 (qrV (zai T i).t)).1,.slice a (qR3 (qrV (zai T i).t)).2.1.length c,.slice a' (qR3 (qrV (zai T i).t)).2.2.length c'] rfl zax hB6 (fun w7 hS7 hB7=>?_) (by simp [go_sem,Value.cells])
  simp [zaw] at hB7
  replace hR:=hR.ch (Ch.of_sto hS7 (NL.of_bx hB6 (by intro u hu x e;subst e;simp at hu)))
  replace hG:=zan hG hS7 hwb6
  replace hP:=hP.sto hS7 (by omega) (fun ad ha=>by have:=hla0 ad ha;omega)
  replace hB1:=hB1.sto hS7 (by first|exact hd1_6|exact (hd6_1).symm)
  simp [go_sem,za0,za4,za1,hB1.cell,hB7.cell]
  apply hK;clear hK K
  refine zab (fun K2 hK2=>?_)
  refine zzr fun K hK=>?_
  simp [go_sem,za0,za4,za1,hB1.cell,hB7.cell]
  apply hK;clear hK K
  refine zaf (t:=false) (by simp [go_sem]) rfl ?_
  refine za7 ?_
  apply hK2
  obtain ⟨k0,k1,k2,k3⟩:=PS.cells hP
  refine zzr fun K hK=>?_
  simp [go_sem,za0,za4,za1,hB1.cell,hB7.cell, k1,hw1]
  have hbx:=hP.bx
  refine zzs (b:=b) (off:=1) [.int .i64 (i+1:Nat)] rfl zaQ hbx (fun w20 hS20 hB20=>?_) (by simp [go_sem,Value.cells,k1,hw1])
  simp [zaw] at hB20
  have hQ:PSS w20 b tb la cap T ⟨i+1,a0,0⟩:=PS.next hP (zaS hS20) (by simpa using hB20) hlt
  replace hR:=hR.ch (hP.ch (zaS hS20))
  replace hB1:=hB1.sto hS20 (by omega)
  replace hB7:=hB7.sto hS20 (by omega)
  replace hG:=hG.trans (zaS hS20)
  replace hP:=hQ
  simp [go_sem]
  apply hK;clear hK K
  refine zzr fun K hK=>?_
  simp [go_sem,za0,za4,za1,hB1.cell,hB7.cell]
  refine zzs (b:=b1) (off:=0) [.bool (qR3 (qrV (zai T i).t)).1,.slice a (qR3 (qrV (zai T i).t)).2.1.length c,.slice a' (qR3 (qrV (zai T i).t)).2.2.length c'] rfl zax hB1 (fun w8 hS8 hB8=>?_) (by simp [go_sem,Value.cells])
  simp [zaw] at hB8
  replace hR:=hR.ch (Ch.of_sto hS8 (NL.of_bx hB1 (by intro u hu x e;subst e;simp at hu)))
  replace hG:=zan hG hS8 hwb1
  replace hP:=hP.sto hS8 (by omega) (fun ad ha=>by have:=hla0 ad ha;omega)
  replace hB7:=hB7.sto hS8 (by first|exact hd6_1|exact (hd1_6).symm)
  simp [go_sem,za0,za4,za1,hB7.cell,hB8.cell]
  apply hK;clear hK K
  refine zad ?_
  repeat first|refine za3 ?_|refine za2 ?_
  subst hn
  refine ⟨by simp [go_sem,zaD,zam,za4,za1,za0,hB8.cell],?_⟩
  refine ⟨qR3 (qrV (zai T i).t),a,a',c,c',?_,hR,hqs,fun _=>rfl,hP,hG⟩
  simp [go_sem,zar,zam,za4,za1,za0,hB8.cell]
 ·have hn:N=(zbN T 5 ⟨i,a0,er⟩,0):=by rw [hN];unfold numP;rw [if_neg hc]
  by_cases h0:er=0
  ·have h2':¬((zai T i).k:Int)=2:=fun e=>hc ⟨h0,by omega⟩
   simp [go_sem,za0,za4,za1,hB1.cell,h0]
   refine zzc rfl Tryz.call13 (fun R hR=>?_)
   simp [go_sem,za0,za4,za1,hB1.cell,h0,h2',zcV]
   refine (zcd hP hT).mono ?_
   rintro e w9 ⟨rfl,hE9⟩
   refine ⟨_,rfl,hR _ _ ?_⟩
   clear hR R
   replace hB1:=hB1.keep hE9
   replace hG:=hG.trans (zaa hE9)
   replace hP:=hP.ext hE9
   simp [go_sem,za0,za4,za1,hB1.cell,h0,h2',zcV]
   apply hK;clear hK K
   refine zaf (t:=true) (by simp [go_sem,h0,h2']) rfl ?_
   refine zzr fun K hK=>?_
   simp [go_sem,za0,za4,za1,hB1.cell]
   refine zzc rfl Tryz.call16 (fun R hR=>?_)
   simp [go_sem,za0,za4,za1,hB1.cell]
   refine (zdG hP hW 5).mono ?_
   rintro e w10 ⟨rfl,hQ10,hg10⟩
   refine ⟨_,rfl,hR _ _ ?_⟩
   clear hR R
   replace hB1:=hB1.grown hg10 (by intro e;injection e with e;omega)
   replace hP:=hQ10
   replace hG:=hG.trans hg10
   clear hQ10
   simp [go_sem,za0,za4,za1,hB1.cell]
   apply hK;clear hK K
   refine zzr fun K hK=>?_
   simp [go_sem,za0,za4,za1,hB1.cell]
   refine zal #[.bool false,.slice none 0 0,.slice none 0 0] (by simp [go_sem]) rfl zdr [] (by simp [go_sem]) rfl ?_
   simp [go_sem,za0]
   refine zzs (b:=b1) (off:=0) [.bool false,.slice none 0 0,.slice none 0 0] rfl zax hB1 (fun w11 hS11 hB11=>?_) (by simp [go_sem,Value.cells])
   simp [zaw] at hB11
   replace hG:=zan hG hS11 hwb1
   replace hP:=hP.sto hS11 (by omega) (fun ad ha=>by have:=hla0 ad ha;omega)
   simp [go_sem,za0,za4,za1,hB11.cell]
   apply hK;clear hK K
   refine zad ?_
   repeat first|refine za3 ?_|refine za2 ?_
   subst hn
   refine ⟨by simp [go_sem,zaD,zam,za4,za1,za0,hB11.cell],?_⟩
   refine ⟨r30,none,none,0,0,?_,RV.nil _,⟨Nat.zero_le _,Nat.zero_le _⟩,fun e=>absurd e (failP_er (by decide)),hP,hG⟩
   simp [go_sem,zar,zam,za4,za1,za0,hB11.cell,r30]
  ·simp [go_sem,za0,za4,za1,hB1.cell,h0]
   apply hK;clear hK K
   refine zaf (t:=true) (by simp [go_sem,h0]) rfl ?_
   refine zzr fun K hK=>?_
   simp [go_sem,za0,za4,za1,hB1.cell]
   refine zzc rfl Tryz.call16 (fun R hR=>?_)
   simp [go_sem,za0,za4,za1,hB1.cell]
   refine (zdG hP hW 5).mono ?_
   rintro e w12 ⟨rfl,hQ12,hg12⟩
   refine ⟨_,rfl,hR _ _ ?_⟩
   clear hR R
   replace hB1:=hB1.grown hg12 (by intro e;injection e with e;omega)
   replace hP:=hQ12
   replace hG:=hG.trans hg12
   clear hQ12
   simp [go_sem,za0,za4,za1,hB1.cell]
   apply hK;clear hK K
   refine zzr fun K hK=>?_
   simp [go_sem,za0,za4,za1,hB1.cell]
   refine zal #[.bool false,.slice none 0 0,.slice none 0 0] (by simp [go_sem]) rfl zdr [] (by simp [go_sem]) rfl ?_
   simp [go_sem,za0]
   refine zzs (b:=b1) (off:=0) [.bool false,.slice none 0 0,.slice none 0 0] rfl zax hB1 (fun w13 hS13 hB13=>?_) (by simp [go_sem,Value.cells])
   simp [zaw] at hB13
   replace hG:=zan hG hS13 hwb1
   replace hP:=hP.sto hS13 (by omega) (fun ad ha=>by have:=hla0 ad ha;omega)
   simp [go_sem,za0,za4,za1,hB13.cell]
   apply hK;clear hK K
   refine zad ?_
   repeat first|refine za3 ?_|refine za2 ?_
   subst hn
   refine ⟨by simp [go_sem,zaD,zam,za4,za1,za0,hB13.cell],?_⟩
   refine ⟨r30,none,none,0,0,?_,RV.nil _,⟨Nat.zero_le _,Nat.zero_le _⟩,fun e=>absurd e (failP_er (by decide)),hP,hG⟩
   simp [go_sem,zar,zam,za4,za1,za0,hB13.cell,r30]
theorem ratP_any {w:World} {b tb cap:Nat} {la:Option Addr} {T:List Tok} {s:PSt} (h:PSS w b tb la cap T s) (hW:Wf T) :
  Calls Tryz.prog 32 #[.pointer (some ⟨b,0,none⟩)] w (NumPost w b tb la cap T (ratP T s) 200000):=by
 have hT:T.length≤maxLen:=by have:=hW.size;unfold maxLen;omega
 obtain ⟨M,hM⟩:∃ M,M=isT T s.er s.i sMI:=⟨_,rfl⟩
 obtain ⟨A,hA⟩:∃ A,A=numP T (zb4 T sMI s):=⟨_,rfl⟩
 obtain ⟨Q,hQ⟩:∃ Q,Q=ratP2 T A:=⟨_,rfl⟩
 have hN:ratP T s=(Q.1,if M=true∧Q.1.er=0 then -Q.2 else Q.2):=by rw [hQ,hA,hM];rfl
 rw [hN]
 refine za5 (rs:=[.cell 2 27]) (n:=46) Tryz.func32 rfl rfl rfl (by kernel_rfl) ?_
 have hP:=h
 have hG:w.grownBy w (some b):=zaa (Below.refl _ _)
 have hb0:=h.lt'
 have hla0:=h.lab
 refine zzr fun K hK=>?_
 simp [go_sem,za0,za4,za1]
 refine zza rfl zb2 (fun w1 b1 hE1 hle1 hB1=>?_)
 have hwb1:_≤b1:=Nat.le_trans hG.size hle1
 replace hG:=hG.trans (zaa hE1)
 replace hP:=hP.ext hE1
 simp [go_sem,za0,za4,za1,hB1.cell]
 apply hK;clear hK K
 refine zzr fun K hK=>?_
 simp [go_sem,za0,za4,za1,hB1.cell]
 refine zzc rfl Tryz.call42 (fun R hR=>?_)
 simp [go_sem,za0,za4,za1,hB1.cell]
 refine (zc1 hP hW sMI).mono ?_
 rintro e w2 ⟨rfl,hQ2,hg2⟩
 refine ⟨_,rfl,hR _ _ ?_⟩
 clear hR R
 replace hB1:=hB1.grown hg2 (by intro e;injection e with e;omega)
 replace hP:=hQ2
 replace hG:=hG.trans hg2
 clear hQ2
 simp [go_sem,za0,za4,za1,hB1.cell]
 apply hK;clear hK K
 rw [←hM]
 refine zzr fun K hK=>?_
 simp [go_sem,za0,za4,za1,hB1.cell]
 refine zzc rfl Tryz.call55 (fun R hR=>?_)
 simp [go_sem,za0,za4,za1,hB1.cell]
 refine (numS_any hP hW).mono ?_
 rintro e w3 ⟨q,a,a',c,c',rfl,hv,hqs,hqv,hQ3,hg3⟩
 refine ⟨_,rfl,hR _ _ ?_⟩
 clear hR R
 replace hB1:=hB1.grown hg3 (by intro e;injection e with e;omega)
 replace hP:=hQ3
 replace hG:=hG.trans hg3
 clear hQ3
 simp [go_sem,za0,za4,za1,hB1.cell]
 rw [←hA] at hP hqv
 refine zza rfl zb2 (fun w4 b4 hE4 hle4 hB4=>?_)
 have hwb4:_≤b4:=Nat.le_trans hG.size hle4
 have hd1_4:b1≠b4:=Nat.ne_of_lt (Nat.lt_of_lt_of_le hB1.lt hle4)
 replace hB1:=hB1.keep hE4
 replace hG:=hG.trans (zaa hE4)
 replace hP:=hP.ext hE4
 replace hv:=hv.ext hE4
 simp [go_sem,za0,za4,za1,hB1.cell,hB4.cell]
 refine zzs (b:=b4) (off:=0) [.bool q.1,.slice a q.2.1.length c,.slice a' q.2.2.length c'] rfl zax hB4 (fun w5 hS5 hB5=>?_) (by simp [go_sem,Value.cells])
 simp [zaw] at hB5
 replace hv:=hv.ch (Ch.of_sto hS5 (NL.of_bx hB4 (by intro u hu x e;subst e;simp at hu)))
 replace hG:=zan hG hS5 hwb4
 replace hP:=hP.sto hS5 (by omega) (fun ad ha=>by have:=hla0 ad ha;omega)
 replace hB1:=hB1.sto hS5 (by first|exact hd1_4|exact (hd4_1).symm)
 simp [go_sem,za0,za4,za1,hB1.cell,hB5.cell]
 apply hK;clear hK K
 refine zab (fun K1 hK1=>?_)
 refine zzr fun K hK=>?_
 simp [go_sem,za0,za4,za1,hB1.cell,hB5.cell]
 refine zzc rfl Tryz.call42 (fun R hR=>?_)
 simp [go_sem,za0,za4,za1,hB1.cell,hB5.cell]
 refine (zc1 hP hW sSL).mono ?_
 rintro e w6 ⟨rfl,hQ6,hg6⟩
 refine ⟨_,rfl,hR _ _ ?_⟩
 clear hR R
 replace hv:=hv.ch (hP.ch hg6)
 replace hB1:=hB1.grown hg6 (by intro e;injection e with e;omega)
 replace hB5:=hB5.grown hg6 (by intro e;injection e with e;omega)
 replace hP:=hQ6
 replace hG:=hG.trans hg6
 clear hQ6
 simp [go_sem,za0,za4,za1,hB1.cell,hB5.cell]
 apply hK;clear hK K
 have tail:∀ (g:G) (w9:World) (q:R3) (a a':Option Addr) (c c':Nat),g 0 = .pointer (some ⟨b,0,none⟩)→g 2 = .pointer (some ⟨b1,0,none⟩)→g 3 = .bool M→g 4 = .pointer (some ⟨b4,0,none⟩)→b1≠b4→w.heap.size≤b1→w.heap.size≤b4→RV w9 q (.agg #[.bool q.1,.slice a q.2.1.length c,.slice a' q.2.2.length c'])→qS q 100000→(Q.1.er=0→q=qR3 Q.2)→PSS w9 b tb la cap T Q.1→w.grownBy w9 (some b)→Bx w9 b1 #[.bool false,.slice none 0 0,.slice none 0 0] 27→Bx w9 b4 #[.bool q.1,.slice a q.2.1.length c,.slice a' q.2.2.length c'] 27→K1 g w9:=by
  clear hv hqs hqv hP hG hB1 hB5
  intro g w9 q a a' c c' g0 g2 g3 g4 hd1_4 hwb1 hwb4 hv hqs hqv hP hG hB1 hB5
  apply hK1
  refine zab (fun K1 hK1=>?_)
  refine zzr fun K hK=>?_
  simp [go_sem,za0,za4,za1,hB1.cell,hB5.cell,g0,g2,g3,g4]
  have tail2:∀ (g:G) (w9:World) (q:R3) (a a':Option Addr) (c c':Nat),g 0 = .pointer (some ⟨b,0,none⟩)→g 2 = .pointer (some ⟨b1,0,none⟩)→g 4 = .pointer (some ⟨b4,0,none⟩)→RV w9 q (.agg #[.bool q.1,.slice a q.2.1.length c,.slice a' q.2.2.length c'])→qS q 200000→(Q.1.er=0→q=qR3 (if M=true∧Q.1.er=0 then -Q.2 else Q.2))→PSS w9 b tb la cap T Q.1→w.grownBy w9 (some b)→Bx w9 b1 #[.bool false,.slice none 0 0,.slice none 0 0] 27→Bx w9 b4 #[.bool q.1,.slice a q.2.1.length c,.slice a' q.2.2.length c'] 27→K1 g w9:=by
   clear hv hqs hqv hP hG hB1 hB5 g0 g2 g3 g4
   intro g w9 q a a' c c' g0 g2 g4 hv hqs hqv hP hG hB1 hB5
   apply hK1
   refine zzr fun K hK=>?_
   simp [go_sem,za0,za4,za1,g0,g2,g4,hB1.cell,hB5.cell]
   refine zzs (b:=b1) (off:=0) [.bool q.1,.slice a q.2.1.length c,.slice a' q.2.2.length c'] rfl zax hB1 (fun w7 hS7 hB7=>?_) (by simp [go_sem,Value.cells,g0,g2,g4])
   simp [zaw] at hB7
   replace hv:=hv.ch (Ch.of_sto hS7 (NL.of_bx hB1 (by intro u hu x e;subst e;simp at hu)))
   replace hG:=zan hG hS7 hwb1
   replace hP:=hP.sto hS7 (by omega) (fun ad ha=>by have:=hla0 ad ha;omega)
   replace hB5:=hB5.sto hS7 (by first|exact hd4_1|exact (hd1_4).symm)
   simp [go_sem,za0,za4,za1,g0,g2,g4,hB5.cell,hB7.cell]
   apply hK;clear hK K
   refine zad ?_
   repeat first|refine za3 ?_|refine za2 ?_
   refine ⟨by simp [go_sem,zaD,zam,za4,za1,za0,hB7.cell,g2],?_⟩
   refine ⟨q,a,a',c,c',?_,hv,hqs,hqv,hP,hG⟩
   simp [go_sem,zar,zam,za4,za1,za0,hB7.cell,g2]
  cases M with
  | false =>
   simp [go_sem,za0,za4,za1,hB1.cell,hB5.cell,g0,g2,g3,g4]
   apply hK;clear hK K
   refine zaf (t:=false) (by simp [go_sem,g0,g2,g3,g4]) rfl ?_
   refine za7 ?_
   refine tail2 _ _ q a a' c c' (by simp [go_sem,g0]) (by simp [go_sem,g2]) (by simp [go_sem,g4]) hv ⟨by have:=hqs.1;omega,by have:=hqs.2;omega⟩ (fun e=>by rw [hqv e];rfl) hP hG hB1 hB5
  | true =>
   simp [go_sem,za0,za4,za1,hB1.cell,hB5.cell,g0,g2,g3,g4]
   refine zzc rfl Tryz.call15 (fun R hR=>?_)
   simp [go_sem,za0,za4,za1,hB1.cell,hB5.cell,g0,g2,g3,g4]
   refine (zd5 hP).mono ?_
   rintro e w8 ⟨rfl,hE8⟩
   refine ⟨_,rfl,hR _ _ ?_⟩
   clear hR R
   replace hB1:=hB1.keep hE8
   replace hB5:=hB5.keep hE8
   replace hG:=hG.trans (zaa hE8)
   replace hP:=hP.ext hE8
   replace hv:=hv.ext hE8
   simp [go_sem,za0,za4,za1,hB1.cell,hB5.cell,g0,g2,g3,g4]
   apply hK;clear hK K
   by_cases hQe:Q.1.er=0
   ·have e1:=hqv hQe
    subst e1
    refine zaf (t:=true) (by simp [go_sem,g0,g2,g3,g4,hQe]) rfl ?_
    refine zzt fun K hK=>?_
    simp [go_sem,za0,za4,za1,hB1.cell,hB5.cell,g0,g2,g3,g4]
    refine zzc rfl Tryz.call58 (fun R hR=>?_)
    simp [go_sem,za0,za4,za1,hB1.cell,hB5.cell,g0,g2,g3,g4]
    refine (negQ_any hv hqs).mono ?_
    rintro e w9 ⟨v,rfl,⟨a3,c3,a3',c3',rfl,r1,r2⟩,hqs3,hE9⟩
    refine ⟨_,rfl,hR _ _ ?_⟩
    clear hR R
    replace hB1:=hB1.keep hE9
    replace hB5:=hB5.keep hE9
    replace hG:=hG.trans (zaa hE9)
    replace hP:=hP.ext hE9
    replace hv:=hv.ext hE9
    have hv3:RV _ (qR3 (-Q.2)) _:=⟨a3,c3,a3',c3',rfl,r1,r2⟩
    simp [go_sem,za0,za4,za1,hB1.cell,hB5.cell,g0,g2,g3,g4]
    refine zzs (b:=b4) (off:=0) [.bool (qR3 (-Q.2)).1,.slice a3 (qR3 (-Q.2)).2.1.length c3,.slice a3' (qR3 (-Q.2)).2.2.length c3'] rfl zax hB5 (fun w10 hS10 hB10=>?_) (by simp [go_sem,Value.cells,g0,g2,g3,g4])
    simp [zaw] at hB10
    replace hv:=hv.ch (Ch.of_sto hS10 (NL.of_bx hB5 (by intro u hu x e;subst e;simp at hu)))
    replace hv3:=hv3.ch (Ch.of_sto hS10 (NL.of_bx hB5 (by intro u hu x e;subst e;simp at hu)))
    replace hG:=zan hG hS10 hwb4
    replace hP:=hP.sto hS10 (by omega) (fun ad ha=>by have:=hla0 ad ha;omega)
    replace hB1:=hB1.sto hS10 (by first|exact hd1_4|exact (hd4_1).symm)
    simp [go_sem,za0,za4,za1,hB1.cell,g0,g2,g3,g4,hB10.cell]
    apply hK;clear hK K
    refine tail2 _ _ (qR3 (-Q.2)) a3 a3' c3 c3' (by simp [go_sem,g0]) (by simp [go_sem,g2]) (by simp [go_sem,g4]) hv3 hqs3 (fun e=>by rw [if_pos ⟨rfl,e⟩]) hP hG hB1 hB10
   ·refine zaf (t:=false) (by simp [go_sem,g0,g2,g3,g4,hQe]) rfl ?_
    refine za7 ?_
    refine tail2 _ _ q a a' c c' (by simp [go_sem,g0]) (by simp [go_sem,g2]) (by simp [go_sem,g4]) hv ⟨by have:=hqs.1;omega,by have:=hqs.2;omega⟩ (fun e=>absurd e hQe) hP hG hB1 hB5
 by_cases hsl:isT T A.1.er A.1.i sSL=true
 ·obtain ⟨B,hB⟩:∃ B,B=numP T (zb4 T sSL A.1):=⟨_,rfl⟩
  have hAe:=(isT_ok hsl).1
  refine zaf (t:=true) (by simp [go_sem,hsl]) rfl ?_
  refine zzr fun K hK=>?_
  simp [go_sem,za0,za4,za1,hB1.cell,hB5.cell]
  refine zzc rfl Tryz.call55 (fun R hR=>?_)
  simp [go_sem,za0,za4,za1,hB1.cell,hB5.cell]
  refine (numS_any hP hW).mono ?_
  rintro e w11 ⟨q2,a2,a2',c2,c2',rfl,hv2,hqs2,hqv2,hQ11,hg11⟩
  refine ⟨_,rfl,hR _ _ ?_⟩
  clear hR R
  replace hv:=hv.ch (hP.ch hg11)
  replace hB1:=hB1.grown hg11 (by intro e;injection e with e;omega)
  replace hB5:=hB5.grown hg11 (by intro e;injection e with e;omega)
  replace hP:=hQ11
  replace hG:=hG.trans hg11
  clear hQ11
  simp [go_sem,za0,za4,za1,hB1.cell,hB5.cell]
  rw [←hB] at hP hqv2
  refine zza rfl zb2 (fun w41 b41 hE41 hle41 hB41=>?_)
  have hwb41:_≤b41:=Nat.le_trans hG.size hle41
  have hd1_41:b1≠b41:=Nat.ne_of_lt (Nat.lt_of_lt_of_le hB1.lt hle41)
  have hd4_41:b4≠b41:=Nat.ne_of_lt (Nat.lt_of_lt_of_le hB5.lt hle41)
  replace hB1:=hB1.keep hE41
  replace hB5:=hB5.keep hE41
  replace hG:=hG.trans (zaa hE41)
  replace hP:=hP.ext hE41
  replace hv:=hv.ext hE41
  replace hv2:=hv2.ext hE41
  simp [go_sem,za0,za4,za1,hB1.cell,hB5.cell,hB41.cell]
  refine zzs (b:=b41) (off:=0) [.bool q2.1,.slice a2 q2.2.1.length c2,.slice a2' q2.2.2.length c2'] rfl zax hB41 (fun w42 hS42 hB42=>?_) (by simp [go_sem,Value.cells])
  simp [zaw] at hB42
  replace hv:=hv.ch (Ch.of_sto hS42 (NL.of_bx hB41 (by intro u hu x e;subst e;simp at hu)))
  replace hv2:=hv2.ch (Ch.of_sto hS42 (NL.of_bx hB41 (by intro u hu x e;subst e;simp at hu)))
  replace hG:=zan hG hS42 hwb41
  replace hP:=hP.sto hS42 (by omega) (fun ad ha=>by have:=hla0 ad ha;omega)
  replace hB1:=hB1.sto hS42 (by first|exact hd1_41|exact (hd41_1).symm)
  replace hB5:=hB5.sto hS42 (by first|exact hd4_41|exact (hd41_4).symm)
  simp [go_sem,za0,za4,za1,hB1.cell,hB5.cell,hB42.cell]
  apply hK;clear hK K
  have hQ0:Q=if B.1.er=0 then (if B.2=0 then (zbN T 3 ⟨B.1.i-1,B.1.at',B.1.er⟩,A.2) else (B.1,A.2 / B.2)) else (B.1,A.2):=by rw [hQ,hB];unfold ratP2 isP;rw [if_pos hsl]
  refine zzr fun K hK=>?_
  simp [go_sem,za0,za4,za1,hB1.cell,hB5.cell,hB42.cell]
  refine zzc rfl Tryz.call15 (fun R hR=>?_)
  simp [go_sem,za0,za4,za1,hB1.cell,hB5.cell,hB42.cell]
  refine (zd5 hP).mono ?_
  rintro e w43 ⟨rfl,hE43⟩
  refine ⟨_,rfl,hR _ _ ?_⟩
  clear hR R
  replace hB1:=hB1.keep hE43
  replace hB5:=hB5.keep hE43
  replace hB42:=hB42.keep hE43
  replace hG:=hG.trans (zaa hE43)
  replace hP:=hP.ext hE43
  replace hv:=hv.ext hE43
  replace hv2:=hv2.ext hE43
  simp [go_sem,za0,za4,za1,hB1.cell,hB5.cell,hB42.cell]
  by_cases hBe:B.1.er=0
  ·rw [if_pos hBe] at hQ0
   have e2:=hqv2 hBe
   have e1:=hqv hAe
   subst e2;subst e1
   obtain ⟨j,hj⟩:∃ j,B.1.i=j+1:=by
    rw [hB] at hBe ⊢
    unfold numP at hBe ⊢
    split
    ·exact ⟨_,rfl⟩
    ·rename_i hn;rw [if_neg hn] at hBe;exact absurd hBe (failP_er (by decide))
   have hsz2:qS (qR3 B.2) 100000:=⟨by have:=hqs2.1;omega,by have:=hqs2.2;omega⟩
   simp [go_sem,za0,za4,za1,hB1.cell,hB5.cell,hB42.cell,hBe]
   refine zzc rfl Tryz.call56 (fun R hR=>?_)
   simp [go_sem,za0,za4,za1,hB1.cell,hB5.cell,hB42.cell,hBe]
   refine (sgnQ_any hv2 hsz2).mono ?_
   rintro e w44 ⟨rfl,hE44⟩
   refine ⟨_,rfl,hR _ _ ?_⟩
   clear hR R
   replace hB1:=hB1.keep hE44
   replace hB5:=hB5.keep hE44
   replace hB42:=hB42.keep hE44
   replace hG:=hG.trans (zaa hE44)
   replace hP:=hP.ext hE44
   replace hv:=hv.ext hE44
   replace hv2:=hv2.ext hE44
   simp [go_sem,za0,za4,za1,hB1.cell,hB5.cell,hB42.cell,hBe]
   apply hK;clear hK K
   by_cases hz:B.2=0
   ·rw [if_pos hz] at hQ0
    have hz':qsg B.2=0:=by rw [qsg_0];exact hz
    have hw1:IntKind.i64.wrap (((j+1:Nat):Int)-1)=j:=by rw [IntWalk.i64_in _ (by have:=PS.lt hP;unfold maxLen at hT;omega)];omega
    refine zaf (t:=true) (by simp [go_sem,hz']) rfl ?_
    obtain ⟨k0,k1,k2,k3⟩:=PS.cells hP
    rw [hj] at k1
    have hjl:j<T.length:=by have:=PS.lt hP;omega
    have hw2:IntKind.i64.wrap (j:Int)=j:=IntWalk.i64_in _ (by unfold maxLen at hT;omega)
    refine zzr fun K hK=>?_
    simp [go_sem,za0,za4,za1,hB1.cell,hB5.cell,hB42.cell, k1,hw1,hw2]
    have hbx45:=hP.bx
    refine zzs (b:=b) (off:=1) [.int .i64 ((j:Nat):Int)] rfl zaQ hbx45 (fun w45 hS45 hB45=>?_) (by simp [go_sem,Value.cells,k1,hw1,hw2])
    simp [zaw] at hB45
    have hQ45:PSS w45 b _ la cap T ⟨j,B.1.at',B.1.er⟩:=PS.next hP (zaS hS45) (by simpa using hB45) hjl
    replace hv:=hv.ch (hP.ch (zaS hS45))
    replace hv2:=hv2.ch (hP.ch (zaS hS45))
    replace hB1:=hB1.sto hS45 (by omega)
    replace hB5:=hB5.sto hS45 (by omega)
    replace hB42:=hB42.sto hS45 (by omega)
    replace hG:=hG.trans (zaS hS45)
    replace hP:=hQ45
    clear hQ45 hbx45 hS45
    simp [go_sem,za0,za4,za1,hB1.cell,hB5.cell,hB42.cell,k1,hw1,hw2]
    apply hK;clear hK K
    refine zzt fun K hK=>?_
    simp [go_sem,za0,za4,za1,hB1.cell,hB5.cell,hB42.cell]
    refine zzc rfl Tryz.call16 (fun R hR=>?_)
    simp [go_sem,za0,za4,za1,hB1.cell,hB5.cell,hB42.cell]
    refine (zdG hP hW 3).mono ?_
    rintro e w46 ⟨rfl,hQ46,hg46⟩
    refine ⟨_,rfl,hR _ _ ?_⟩
    clear hR R
    replace hv:=hv.ch (hP.ch hg46)
    replace hv2:=hv2.ch (hP.ch hg46)
    replace hB1:=hB1.grown hg46 (by intro e;injection e with e;omega)
    replace hB5:=hB5.grown hg46 (by intro e;injection e with e;omega)
    replace hB42:=hB42.grown hg46 (by intro e;injection e with e;omega)
    replace hP:=hQ46
    replace hG:=hG.trans hg46
    clear hQ46
    simp [go_sem,za0,za4,za1,hB1.cell,hB5.cell,hB42.cell]
    apply hK;clear hK K
    have hQ1:Q=(zbN T 3 ⟨j,B.1.at',B.1.er⟩,A.2):=by rw [hQ0,hj];rfl
    refine tail _ _ (qR3 A.2) a a' c c' (by simp [go_sem]) (by simp [go_sem]) (by simp [go_sem]) (by simp [go_sem]) hd1_4 hwb1 hwb4 hv ⟨by have:=hqs.1;omega,by have:=hqs.2;omega⟩ (fun e=>absurd e (by rw [hQ1];exact failP_er (by decide))) (by rw [hQ1];exact hP) hG hB1 hB5
   ·rw [if_neg hz] at hQ0
    have hz':¬qsg B.2=0:=by rw [qsg_0];exact hz
    refine zaf (t:=false) (by simp [go_sem,hz']) rfl ?_
    refine zzr fun K hK=>?_
    simp [go_sem,za0,za4,za1,hB1.cell,hB5.cell,hB42.cell]
    refine zzc rfl Tryz.call15 (fun R hR=>?_)
    simp [go_sem,za0,za4,za1,hB1.cell,hB5.cell,hB42.cell]
    refine (zd5 hP).mono ?_
    rintro e w47 ⟨rfl,hE47⟩
    refine ⟨_,rfl,hR _ _ ?_⟩
    clear hR R
    replace hB1:=hB1.keep hE47
    replace hB5:=hB5.keep hE47
    replace hB42:=hB42.keep hE47
    replace hG:=hG.trans (zaa hE47)
    replace hP:=hP.ext hE47
    replace hv:=hv.ext hE47
    replace hv2:=hv2.ext hE47
    simp [go_sem,za0,za4,za1,hB1.cell,hB5.cell,hB42.cell]
    apply hK;clear hK K
    refine zaf (t:=true) (by simp [go_sem,hBe]) rfl ?_
    refine zzt fun K hK=>?_
    simp [go_sem,za0,za4,za1,hB1.cell,hB5.cell,hB42.cell]
    refine zzc rfl Tryz.call57 (fun R hR=>?_)
    simp [go_sem,za0,za4,za1,hB1.cell,hB5.cell,hB42.cell]
    refine (divQ_any hv hv2 ⟨by have:=hqs.1;omega,by have:=hqs.2;omega⟩ ⟨by have:=hqs2.1;omega,by have:=hqs2.2;omega⟩ hz).mono ?_
    rintro e w48 ⟨v,rfl,⟨a3,c3,a3',c3',rfl,r1,r2⟩,hqs3,hE48⟩
    refine ⟨_,rfl,hR _ _ ?_⟩
    clear hR R
    replace hB1:=hB1.keep hE48
    replace hB5:=hB5.keep hE48
    replace hB42:=hB42.keep hE48
    replace hG:=hG.trans (zaa hE48)
    replace hP:=hP.ext hE48
    replace hv:=hv.ext hE48
    replace hv2:=hv2.ext hE48
    have hv3:RV _ (qR3 (A.2 / B.2)) _:=⟨a3,c3,a3',c3',rfl,r1,r2⟩
    simp [go_sem,za0,za4,za1,hB1.cell,hB5.cell,hB42.cell]
    refine zzs (b:=b4) (off:=0) [.bool (qR3 (A.2 / B.2)).1,.slice a3 (qR3 (A.2 / B.2)).2.1.length c3,.slice a3' (qR3 (A.2 / B.2)).2.2.length c3'] rfl zax hB5 (fun w49 hS49 hB49=>?_) (by simp [go_sem,Value.cells])
    simp [zaw] at hB49
    replace hv:=hv.ch (Ch.of_sto hS49 (NL.of_bx hB5 (by intro u hu x e;subst e;simp at hu)))
    replace hv2:=hv2.ch (Ch.of_sto hS49 (NL.of_bx hB5 (by intro u hu x e;subst e;simp at hu)))
    replace hv3:=hv3.ch (Ch.of_sto hS49 (NL.of_bx hB5 (by intro u hu x e;subst e;simp at hu)))
    replace hG:=zan hG hS49 hwb4
    replace hP:=hP.sto hS49 (by omega) (fun ad ha=>by have:=hla0 ad ha;omega)
    replace hB1:=hB1.sto hS49 (by first|exact hd1_4|exact (hd4_1).symm)
    replace hB42:=hB42.sto hS49 (by first|exact hd41_4|exact (hd4_41).symm)
    simp [go_sem,za0,za4,za1,hB1.cell,hB42.cell,hB49.cell]
    apply hK;clear hK K
    have hQ1:Q=(B.1,A.2 / B.2):=hQ0
    refine tail _ _ (qR3 (A.2 / B.2)) a3 a3' c3 c3' (by simp [go_sem]) (by simp [go_sem]) (by simp [go_sem]) (by simp [go_sem]) hd1_4 hwb1 hwb4 hv3 hqs3 (fun _=>by rw [hQ1]) (by rw [hQ1];exact hP) hG hB1 hB49
  ·rw [if_neg hBe] at hQ0
   simp [go_sem,za0,za4,za1,hB1.cell,hB5.cell,hB42.cell,hBe]
   apply hK;clear hK K
   refine zaf (t:=false) (by simp [go_sem,hBe]) rfl ?_
   refine zzr fun K hK=>?_
   simp [go_sem,za0,za4,za1,hB1.cell,hB5.cell,hB42.cell]
   refine zzc rfl Tryz.call15 (fun R hR=>?_)
   simp [go_sem,za0,za4,za1,hB1.cell,hB5.cell,hB42.cell]
   refine (zd5 hP).mono ?_
   rintro e w50 ⟨rfl,hE50⟩
   refine ⟨_,rfl,hR _ _ ?_⟩
   clear hR R
   replace hB1:=hB1.keep hE50
   replace hB5:=hB5.keep hE50
   replace hB42:=hB42.keep hE50
   replace hG:=hG.trans (zaa hE50)
   replace hP:=hP.ext hE50
   replace hv:=hv.ext hE50
   replace hv2:=hv2.ext hE50
   simp [go_sem,za0,za4,za1,hB1.cell,hB5.cell,hB42.cell]
   apply hK;clear hK K
   refine zaf (t:=false) (by simp [go_sem,hBe]) rfl ?_
   refine za7 ?_
   have hQ1:Q=(B.1,A.2):=hQ0
   refine tail _ _ q a a' c c' (by simp [go_sem]) (by simp [go_sem]) (by simp [go_sem]) (by simp [go_sem]) hd1_4 hwb1 hwb4 hv ⟨by have:=hqs.1;omega,by have:=hqs.2;omega⟩ (fun e=>absurd e (by rw [hQ1];exact hBe)) (by rw [hQ1];exact hP) hG hB1 hB5
 ·have hQ1:Q=A:=by rw [hQ];unfold ratP2 isP;rw [if_neg hsl]
  have htk:zb4 T sSL A.1=A.1:=by unfold zb4;rw [if_neg hsl]
  rw [htk] at hP
  refine zaf (t:=false) (by simp [go_sem,hsl]) rfl ?_
  refine za7 ?_
  refine tail _ _ q a a' c c' (by simp [go_sem]) (by simp [go_sem]) (by simp [go_sem]) (by simp [go_sem]) hd1_4 hwb1 hwb4 hv ⟨by have:=hqs.1;omega,by have:=hqs.2;omega⟩ (by rw [hQ1];exact hqv) (by rw [hQ1];exact hP) hG hB1 hB5
def letP (p:Int):UInt8:=if p=0 then 42 else if p=1 then 80 else if p=2 then 76 else 67
def letK (k:Int):List UInt8:=(zc6 k).map letP
def tr_ashape_0:Tr (List SA):=(.br (.eq (.var 0) (.lit 67)) (.leaf [(.s (.lit [115,97,109,101])),(.s (.lit [80,80]))]) (.leaf [(.s (.lit [114,97,116,105,111])),(.s (.lit [80,80,80,80]))]))
def tr_ashape_1:Tr (List SA):=(.br (.eq (.var 0) (.lit 50)) (.leaf [(.s (.lit [99,105,114,99,108,101])),(.s (.lit [80,80]))]) (.br (.eq (.var 0) (.lit 51)) (.leaf [(.s (.lit [99,105,114,99,117,109])),(.s (.lit [80,80,80]))]) (.leaf [(.s (.lit [])),(.s (.lit []))])))
def tr_ashape_2:Tr (List SA):=(.br (.eq (.var 0) (.lit 66)) (.leaf [(.s (.lit [97,110,103,108,101])),(.s (.lit [80,80,80,80,80,80]))]) tr_ashape_0)
def tr_ashape_3:Tr (List SA):=(.br (.eq (.var 0) (.lit 43)) (.leaf [(.s (.lit [98,105,115,101,99,116,111,114])),(.s (.lit [80,80]))]) tr_ashape_1)
def tr_ashape_4:Tr (List SA):=(.br (.eq (.var 0) (.lit 65)) (.leaf [(.s (.lit [99,111,110,99,121,99,108,105,99])),(.s (.lit [80,80,80,80]))]) tr_ashape_2)
def tr_ashape_5:Tr (List SA):=(.br (.eq (.var 0) (.lit 42)) (.leaf [(.s (.lit [112,101,114,112,101,110,100,105,99,117,108,97,114])),(.s (.lit [80,76]))]) tr_ashape_3)
def tr_ashape_6:Tr (List SA):=(.br (.eq (.var 0) (.lit 64)) (.leaf [(.s (.lit [109,105,100,112,111,105,110,116])),(.s (.lit [80,80,80]))]) tr_ashape_4)
def tr_ashape_7:Tr (List SA):=(.br (.eq (.var 0) (.lit 41)) (.leaf [(.s (.lit [112,97,114,97,108,108,101,108])),(.s (.lit [80,76]))]) tr_ashape_5)
def tr_ashape_8:Tr (List SA):=(.br (.eq (.var 0) (.lit 63)) (.leaf [(.s (.lit [99,111,110,103,114,117,101,110,116])),(.s (.lit [80,80,80,80]))]) tr_ashape_6)
def zeg:Tr (List SA):=(.br (.eq (.var 0) (.lit 40)) (.leaf [(.s (.lit [108,105,110,101])),(.s (.lit [80,80]))]) tr_ashape_7)
def tr_ashape_10:Tr (List SA):=(.br (.eq (.var 0) (.lit 62)) (.leaf [(.s (.lit [112,101,114,112,101,110,100,105,99,117,108,97,114])),(.s (.lit [76,76]))]) tr_ashape_8)
def tr_ashape_11:Tr (List SA):=(.br (.eq (.var 0) (.lit 61)) (.leaf [(.s (.lit [112,97,114,97,108,108,101,108])),(.s (.lit [76,76]))]) tr_ashape_10)
def tr_ashape_12:Tr (List SA):=(.br (.eq (.var 0) (.lit 60)) (.leaf [(.s (.lit [99,111,108,108,105,110,101,97,114])),(.s (.lit [80,80,80]))]) tr_ashape_11)
def tr_ashape_13:Tr (List SA):=(.br (.le (.var 0) (.lit 68)) tr_ashape_12 zeg)
def tr_ashape_14:Tr (List SA):=(.br (.le (.lit 60) (.var 0)) tr_ashape_13 zeg)
def tr_ashape_15:Tr (List SA):=(.br (.le (.var 0) (.lit 51)) zeg tr_ashape_14)
def tr_ashape_16:Tr (List SA):=(.br (.le (.lit 50) (.var 0)) tr_ashape_15 tr_ashape_14)
def tr_ashape_17:Tr (List SA):=(.br (.le (.var 0) (.lit 43)) zeg tr_ashape_16)
def tr_ashape_18:Tr (List SA):=(.br (.le (.lit 40) (.var 0)) tr_ashape_17 tr_ashape_16)
def tr_ashape:Tr (List SA):=(.br (.le (.lit 10) (.var 0)) (.br (.le (.var 0) (.lit 24)) (.br (.eq (.var 0) (.lit 10)) (.leaf [(.s (.lit [109,105,100,112,111,105,110,116])),(.s (.lit [80,80]))]) (.br (.eq (.var 0) (.lit 11)) (.leaf [(.s (.lit [100,105,118,105,100,101])),(.s (.lit [80,80]))]) (.br (.eq (.var 0) (.lit 12)) (.leaf [(.s (.lit [114,101,102,108,101,99,116])),(.s (.lit [80,80]))]) (.br (.eq (.var 0) (.lit 13)) (.leaf [(.s (.lit [109,105,114,114,111,114])),(.s (.lit [80,76]))]) (.br (.eq (.var 0) (.lit 14)) (.leaf [(.s (.lit [102,111,111,116])),(.s (.lit [80,76]))]) (.br (.eq (.var 0) (.lit 15)) (.leaf [(.s (.lit [109,101,101,116])),(.s (.lit [76,76]))]) (.br (.eq (.var 0) (.lit 16)) (.leaf [(.s (.lit [111,110])),(.s (.lit [42]))]) (.br (.eq (.var 0) (.lit 17)) (.leaf [(.s (.lit [111,116,104,101,114])),(.s (.lit [80,80,80]))]) (.br (.eq (.var 0) (.lit 18)) (.leaf [(.s (.lit [99,111,109,109,111,110])),(.s (.lit [80,80,80]))]) (.br (.eq (.var 0) (.lit 19)) (.leaf [(.s (.lit [99,101,110,116,101,114])),(.s (.lit [80,80,80]))]) (.br (.eq (.var 0) (.lit 20)) (.leaf [(.s (.lit [115,104,105,102,116])),(.s (.lit [80,80,80]))]) (.br (.eq (.var 0) (.lit 21)) (.leaf [(.s (.lit [116,117,114,110])),(.s (.lit [80,80]))]) (.br (.eq (.var 0) (.lit 22)) (.leaf [(.s (.lit [99,117,116])),(.s (.lit [76,67]))]) (.br (.eq (.var 0) (.lit 23)) (.leaf [(.s (.lit [99,114,111,115,115])),(.s (.lit [67,67]))]) (.leaf [(.s (.lit [97,112,101,120])),(.s (.lit [80,80]))]))))))))))))))) tr_ashape_18) tr_ashape_18)
theorem ev_ashape:Ct.ok Tryz.prog 52 { args:=[[.n]],res:=[[.s],[.s]],F:=fun als=>tr_ashape.den GAs0 (zdh als),L:=1000,A:=0,B:=0 } :=
 top_ok (by kernel_rfl) GAs0_ok (plans:=planF) (lf:=60) (k:=20) (by kernel_rfl)
theorem ashape_den {k:Int} (h1:10≤k) (h2:k≤68):tr_ashape.den GAs0 (zdh [.n k])=some [.s (zeI k),.s (letK k)]:=by
 have h:k=10∨k=11∨k=12∨k=13∨k=14∨k=15∨k=16∨k=17∨k=18∨k=19∨k=20∨k=21∨k=22∨k=23∨k=24∨k=25∨k=26∨k=27∨k=28∨k=29∨k=30∨k=31∨k=32∨k=33∨k=34∨k=35∨k=36∨k=37∨k=38∨k=39∨k=40∨k=41∨k=42∨k=43∨k=44∨k=45∨k=46∨k=47∨k=48∨k=49∨k=50∨k=51∨k=52∨k=53∨k=54∨k=55∨k=56∨k=57∨k=58∨k=59∨k=60∨k=61∨k=62∨k=63∨k=64∨k=65∨k=66∨k=67∨k=68:=by omega
 rcases h with rfl|rfl|rfl|rfl|rfl|rfl|rfl|rfl|rfl|rfl|rfl|rfl|rfl|rfl|rfl|rfl|rfl|rfl|rfl|rfl|rfl|rfl|rfl|rfl|rfl|rfl|rfl|rfl|rfl|rfl|rfl|rfl|rfl|rfl|rfl|rfl|rfl|rfl|rfl|rfl|rfl|rfl|rfl|rfl|rfl|rfl|rfl|rfl|rfl|rfl|rfl|rfl|rfl|rfl|rfl|rfl|rfl|rfl|rfl
 all_goals rfl
end Go.Proofs.YtefhenfofomjhaaGreat
namespace Go.Proofs.YtefhenfofomjhaaGreat
open Go.RowKit Go.V
theorem goOn_true (c:UInt8):goOn true c=(letB c.toNat || digB c.toNat):=by
 unfold goOn
 rw [zeb,ze1]
 simp [Bool.or_comm]
end Go.Proofs.YtefhenfofomjhaaGreat
