/- The parser: the kind of a construction. -/
import Derived.Test.YtefhenfofomjhaaGreatPp2
set_option linter.unusedSimpArgs false
set_option linter.unusedVariables false
namespace Go.Proofs.YtefhenfofomjhaaGreat
open Go Go.RowKit Go.V
set_option maxRecDepth 20000
theorem aword_any (k:Int) (h1:10≤k) (h2:k≤68) (w:World):Calls Tryz.prog 50 #[.int .i64 k] w fun e w'=>e = .returned (.string ⟨(zej k).toArray⟩)∧Below w.heap.size w w' :=
 ct_s ev_aword rfl (Nat.zero_le _) (ints1 k) (zs1 k 0) (aword_den h1 h2)
theorem asort_any (k:Int) (h1:10≤k) (h2:k≤68) (w:World):Calls Tryz.prog 51 #[.int .i64 k] w fun e w'=>e = .returned (.int .i64 (sortK k))∧Below w.heap.size w w' :=
 ct_n ev_asort rfl (Nat.zero_le _) (ints1 k) (zs1 k 0) (asort_den h1 h2)
def PSS (w:World) (b:Nat) (tb:TypeId) (la:Option Addr) (cap:Nat) (T:List Tok) (s:PSt):Prop:=PS w b tb la cap T s.i s.at' s.er
section
variable {w w':World} {b tb cap:Nat} {la:Option Addr} {T:List Tok} {s:PSt}
theorem PSS.ext (h:PSS w b tb la cap T s) (hb:Below w.heap.size w w'):PSS w' b tb la cap T s:=PS.ext h hb
theorem PSS.keep (h:PSS w b tb la cap T s) (hb:Below w.heap.size w w'):PSS w' b tb la cap T s:=PS.ext h hb
theorem PSS.nl (h:PSS w b tb la cap T s):NL w b:=NL.of_bx h.bx (by
 intro u hu x e
 subst e
 simp at hu)
theorem PSS.ch (h:PSS w b tb la cap T s) (hg:w.grownBy w' (some b)):Ch w w' (fun k=>k=b):=(Ch.of_grown hg (fun k hk=>by injection hk with hk;subst hk;exact h.nl)).mono (fun k hk=>by injection hk with hk;exact hk.symm)
theorem PSS.lt' (h:PSS w b tb la cap T s):b<w.heap.size:=h.bx.lt
theorem PSS.sto {b':Nat} (h:PSS w b tb la cap T s) (hs:Sto w w' b') (hb:b≠b') (hl:∀ ad,la=some ad→ad.block≠b'):PSS w' b tb la cap T s :=
 ⟨h.bx.sto hs hb,h.sl.sto hs (fun ad ha _=>hl ad ha),h.ne,h.lt⟩
theorem PSS.lab (h:PSS w b tb la cap T s):∀ ad,la=some ad→ad.block<w.heap.size:=by
 intro ad ha
 obtain ⟨b',off,e,hlt⟩:=h.sl.lt (by intro e;have h4:=zdL (ze4 T);rw [show (T.map zbH).flatten=zc9 T from rfl,e,List.length_map] at h4;have:=h.lt;simp at h4;omega)
 rw [ha] at e;injection e with e;subst e;exact hlt
theorem PSS.grown {r:Option Nat} (h:PSS w b tb la cap T s) (hg:w.grownBy w' r) (hb:some b≠r) (hl:∀ ad,la=some ad→some ad.block≠r):PSS w' b tb la cap T s:=by
 refine ⟨h.bx.grown hg hb,?_,h.ne,h.lt⟩
 rcases h.sl with h0|⟨b',off,e,h1⟩
 ·exact .inl h0
 ·exact .inr ⟨b',off,e,fun j v hv=>hg.cell (h1 j v hv) (hl ⟨b',off,none⟩ e)⟩
end
section
variable {w:World} {b tb cap:Nat} {la:Option Addr} {T:List Tok} {s:PSt}
theorem zdh (h:PSS w b tb la cap T s) (hW:Wf T) (er:Int) :
  Calls Tryz.prog 16 #[.pointer (some ⟨b,0,none⟩),.int .i64 er] w fun x w'=>x = .returned (.tuple #[])∧PSS w' b tb la cap T (zbF T er s)∧w.grownBy w' (some b):=by
 have hT:T.length≤maxLen:=by have:=hW.size;unfold maxLen;omega
 obtain ⟨i,a,e⟩:=s
 by_cases h0:e=0
 ·subst h0
  refine (failG_any h hT er).mono ?_
  rintro x w' ⟨h1,h2,h3⟩
  exact ⟨h1,by rw [failP_good rfl];exact h2,h3⟩
 ·refine (failB_any h h0 er).mono ?_
  rintro x w' ⟨h1,hE⟩
  exact ⟨h1,by rw [zdR h0];exact PSS.ext h hE,zad hE⟩
theorem takeS_any (h:PSS w b tb la cap T s) (hW:Wf T) (t:List UInt8) :
  Calls Tryz.prog 42 #[.pointer (some ⟨b,0,none⟩),.string ⟨t.toArray⟩] w fun x w'=>x = .returned (.bool (isT T s.er s.i t))∧PSS w' b tb la cap T (takeP T t s)∧w.grownBy w' (some b):=by
 have hT:T.length≤maxLen:=by have:=hW.size;unfold maxLen;omega
 unfold takeP
 cases hs:isT T s.er s.i t with
 | false =>
  refine (takeF_any h hT t hs).mono ?_
  rintro x w' ⟨h1,hE⟩
  exact ⟨h1,PSS.ext h hE,zad hE⟩
 | true =>
  refine (takeT_any h hT t hs (hW.next h.lt (isT_ok hs).2.1)).mono ?_
  rintro x w' ⟨h1,h2,h3⟩
  exact ⟨h1,h2,h3⟩
theorem mustS_any (h:PSS w b tb la cap T s) (hW:Wf T) (t:List UInt8) :
  Calls Tryz.prog 29 #[.pointer (some ⟨b,0,none⟩),.string ⟨t.toArray⟩] w fun x w'=>x = .returned (.tuple #[])∧PSS w' b tb la cap T (zcy T t s)∧w.grownBy w' (some b):=by
 have hT:T.length≤maxLen:=by have:=hW.size;unfold maxLen;omega
 unfold zcy
 cases hs:isT T s.er s.i t with
 | true =>
  refine (mustT_any h hT t hs (hW.next h.lt (isT_ok hs).2.1)).mono ?_
  rintro x w' ⟨h1,h2,h3⟩
  exact ⟨h1,h2,h3⟩
 | false =>
  obtain ⟨i,a,e⟩:=s
  by_cases h0:e=0
  ·subst h0
   refine (mustF_any h hT t hs).mono ?_
   rintro x w' ⟨h1,h2,h3⟩
   refine ⟨h1,?_,h3⟩
   rw [if_neg (by decide),failP_good rfl];exact h2
  ·refine (mustB_any h hT t h0).mono ?_
   rintro x w' ⟨h1,hE⟩
   refine ⟨h1,?_,zad hE⟩
   rw [if_neg (by decide),zdR h0];exact PSS.ext h hE
theorem nmT_k {er:Int} {i:Nat} (h:nmT T er i=true):er=0∧(zan T i).k=1:=by
 unfold nmT at h
 simp at h
 exact ⟨h.1,h.2.1⟩
theorem nameS_any (h:PSS w b tb la cap T s) (hW:Wf T) :
  Calls Tryz.prog 54 #[.pointer (some ⟨b,0,none⟩)] w fun x w'=>x = .returned (.string ⟨(nameP T s).2.toArray⟩)∧PSS w' b tb la cap T (nameP T s).1∧w.grownBy w' (some b):=by
 have hT:T.length≤maxLen:=by have:=hW.size;unfold maxLen;omega
 have hl:(zan T s.i).t.length≤maxLen:=by have:=hW.len s.i;unfold maxLen;omega
 unfold nameP
 cases hs:nmT T s.er s.i with
 | true =>
  refine (nameT_any h hT hl hs (hW.next h.lt (by rw [(nmT_k hs).2];decide))).mono ?_
  rintro x w' ⟨h1,h2,h3⟩
  exact ⟨h1,h2,h3⟩
 | false =>
  obtain ⟨i,a,e⟩:=s
  by_cases h0:e=0
  ·subst h0
   refine (nameF_any h hT hl hs).mono ?_
   rintro x w' ⟨h1,h2,h3⟩
   refine ⟨h1,?_,h3⟩
   rw [if_neg (by decide),failP_good rfl];exact h2
  ·refine (nameB_any h hT hl h0).mono ?_
   rintro x w' ⟨h1,hE⟩
   refine ⟨h1,?_,zad hE⟩
   rw [if_neg (by decide),zdR h0];exact PSS.ext h hE
theorem namedS_any (h:PSS w b tb la cap T s) (hW:Wf T) :
  Calls Tryz.prog 12 #[.pointer (some ⟨b,0,none⟩)] w fun x w'=>x = .returned (.bool (nmT T s.er s.i))∧Below w.heap.size w w' :=
 named_any h (by have:=hW.size;unfold maxLen;omega) (by have:=hW.len s.i;unfold maxLen;omega)
end
theorem kindF_step (t:List UInt8) (sorts:List Int) (j:Nat) (h:j<59):zdZ t sorts (10+j) (59-j)=if zej (10+j)=t∧sortK (10+j)∈sorts then (10+j:Int) else zdZ t sorts (10+(j+1:Nat)) (59-(j+1)):=by
 rw [show 59-j=(59-(j+1))+1 by omega]
 rw [zdZ,show (10:Int)+j+1=10+(j+1:Nat) by omega]
set_option maxHeartbeats 2000000 in
theorem kindS_any {w:World} {b tb cap:Nat} {la:Option Addr} {T:List Tok} {s:PSt} (h:PSS w b tb la cap T s) (hW:Wf T) (sa:Option Addr) (sc:Nat) (sorts:List Int) (hs:SL w sa (intC sorts)) (hn:sorts.length≤10) :
  Calls Tryz.prog 28 #[.pointer (some ⟨b,0,none⟩),.slice sa sorts.length sc] w fun e w'=>e = .returned (.int .i64 (zdu T sorts s))∧Below w.heap.size w w':=by
 have hT:T.length≤maxLen:=by have:=hW.size;unfold maxLen;omega
 obtain ⟨K,hK0⟩:∃ K,K=zdu T sorts s:=⟨_,rfl⟩
 rw [←hK0]
 obtain ⟨i,a0,er⟩:=s
 unfold zdu at hK0
 simp only at hK0
 refine za7 (args:=[.pointer (some ⟨b,0,none⟩),.slice sa sorts.length sc]) (rs:=[.tmp 4]) (n:=45) Tryz.func28 rfl rfl rfl (by kernel_rfl) ?_
 have hA0:=Below.refl w.heap.size w
 first|refine zzr fun K hK=>?_|refine zzt fun K hK=>?_
 simp [go_sem,za0,za4,za1]
 refine hK _ _ ?_;clear hK K
 refine zac (fun K1 hK1=>?_)
 first|refine zzr fun K hK=>?_|refine zzt fun K hK=>?_
 simp [go_sem,za0,za4,za1]
 refine za5 (by simp [go_sem,za0,za4,za1]) rfl Tryz.call15 (fun R hR=>?_)
 simp [go_sem,za0,za4,za1]
 refine (zcw (h.ext hA0)).mono ?_
 rintro e w1 ⟨rfl,hE1⟩
 refine ⟨_,rfl,hR _ _ ?_⟩
 clear hR R
 replace hA0:=hA0.next hE1
 simp [go_sem,za0,za4,za1]
 by_cases h0:er=0
 ·by_cases h1:(zan T i).k=1
  ·have h1':((zan T i).k:Int)=1:=by omega
   rw [if_pos ⟨h0,h1⟩] at hK0
   simp [go_sem,za0,za4,za1,h0]
   refine za5 (by simp [go_sem,za0,za4,za1,h0,h1,h1',zbH]) rfl Tryz.call13 (fun R hR=>?_)
   simp [go_sem,za0,za4,za1,h0,h1,h1',zbH]
   refine (zbV (h.ext hA0) hT).mono ?_
   rintro e w2 ⟨rfl,hE2⟩
   refine ⟨_,rfl,hR _ _ ?_⟩
   clear hR R
   replace hA0:=hA0.next hE2
   simp [go_sem,za0,za4,za1,h0,h1,h1',zbH]
   refine hK _ _ ?_;clear hK K
   refine zai (t:=false) (by simp [go_sem,za0,za4,za1, h0,h1,h1']) rfl ?_
   refine zaa ?_
   refine hK1 _ _ ?_
   refine zac (fun K2 hK2=>?_)
   first|refine zzr fun K hK=>?_|refine zzt fun K hK=>?_
   simp [go_sem,za0,za4,za1]
   refine hK _ _ ?_;clear hK K
   refine zae ?_
   refine zaE (fun m' g w'=>Below w.heap.size w w'∧∃ j:Nat,j≤59∧m'=59-j∧zdZ (zan T i).t sorts (10+j) (59-j)=K∧g 0 = .pointer (some ⟨b,0,none⟩)∧g 1 = .slice sa sorts.length sc∧g 5 = .int .i64 (10+j)) 59 ?_ ?_
   ·exact ⟨hA0,0,by omega,rfl,hK0.symm,by simp [go_sem],by simp [go_sem],by simp [go_sem]⟩
   rintro m' g w' ⟨hA0,j,hj,rfl,hK1,g0,g1,g5⟩
   refine zac (fun K3 hK3=>?_)
   first|refine zzr fun K hK=>?_|refine zzt fun K hK=>?_
   simp [go_sem,za0,za4,za1,g0,g1,g5]
   refine hK _ _ ?_;clear hK K
   by_cases hlt:j<59
   ·have c1:(10:Int)+j≤68:=by omega
    have hw1:IntKind.i64.wrap ((10:Int)+j+1)=10+(j+1:Nat):=by rw [IntWalk.i64_in _ (by omega)];omega
    rw [kindF_step _ _ _ hlt] at hK1
    refine zai (t:=true) (by simp [go_sem,za0,za4,za1,g0,g1,g5,c1]) rfl ?_
    refine zaa ?_
    refine hK3 _ _ ?_
    refine zac (fun K4 hK4=>?_)
    refine zae ?_
    refine zac (fun K5 hK5=>?_)
    have hD3:=Below.drew1 w'
    replace hA0:=hA0.next hD3
    first|refine W_rd [(0,0),(2,0),(3,0),(4,0),(1,1),(5,1),(6,0),(7,0)] (by kernel_rfl) (by kernel_rfl) (fun K hK=>?_)|refine zbG [(0,0),(2,0),(3,0),(4,0),(1,1),(5,1),(6,0),(7,0)] (by kernel_rfl) (by kernel_rfl) (fun K hK=>?_)
    simp [go_sem,za0,za4,za1,g0,g1,g5]
    refine za5 (by simp [go_sem,za0,za4,za1,g0,g1,g5]) rfl Tryz.call50 (fun R hR=>?_)
    simp [go_sem,za0,za4,za1,g0,g1,g5]
    refine (aword_any (10+j) (by omega) c1 _).mono ?_
    rintro e w4 ⟨rfl,hE4⟩
    refine ⟨_,rfl,(by assumption),hR _ _ ?_⟩
    clear hR R
    replace hA0:=hA0.next hE4
    simp [go_sem,za0,za4,za1,g0,g1,g5]
    refine za5 (by simp [go_sem,za0,za4,za1,g0,g1,g5,zbH]) rfl Tryz.call13 (fun R hR=>?_)
    simp [go_sem,za0,za4,za1,g0,g1,g5,zbH]
    refine (zbV (h.ext hA0) hT).mono ?_
    rintro e w5 ⟨rfl,hE5⟩
    refine ⟨_,rfl,(by assumption),hR _ _ ?_⟩
    clear hR R
    replace hA0:=hA0.next hE5
    simp [go_sem,za0,za4,za1,g0,g1,g5,zbH]
    refine hK _ _ ?_;clear hK K
    by_cases hwd:zej (10+j)=(zan T i).t
    ·refine zai (t:=false) (by simp [go_sem,za0,za4,za1,g0,g1,g5, hwd]) rfl ?_
     refine zaa ?_
     refine hK5 _ _ ?_
     first|refine zzr fun K hK=>?_|refine zzt fun K hK=>?_
     simp [go_sem,za0,za4,za1,g0,g1,g5]
     refine hK _ _ ?_;clear hK K
     refine zae ?_
     refine zaE (fun m' g w'=>Below w.heap.size w w'∧∃ q:Nat,q≤sorts.length∧m'=sorts.length-q∧(∀ p,p<q→sorts.getD p 0≠sortK (10+j))∧g 0 = .pointer (some ⟨b,0,none⟩)∧g 1 = .slice sa sorts.length sc∧g 5 = .int .i64 (10+j)∧g 33 = .slice sa sorts.length sc∧g 34 = .int .i64 sorts.length∧g 35 = .int .i64 q) sorts.length ?_ ?_
     ·exact ⟨hA0,0,by omega,rfl,fun p hp=>by omega,by simp [go_sem,g0],by simp [go_sem,g1],by simp [go_sem,g5],by simp [go_sem,g1],by simp [go_sem,g1],by simp [go_sem]⟩
     clear hA0 g0 g1 g5
     rintro m' g w' ⟨hA0,q,hq,rfl,hno,g0,g1,g5,g33,g34,g35⟩
     first|refine zzr fun K hK=>?_|refine zzt fun K hK=>?_
     simp [go_sem,za0,za4,za1,g0,g1,g5,g0,g1,g5,g33,g34,g35]
     refine hK _ _ ?_;clear hK K
     refine zac (fun K6 hK6=>?_)
     by_cases hlq:q<sorts.length
     ·have c2:(q:Int)<sorts.length:=by omega
      have hw2:IntKind.i64.wrap ((q:Int)+1)=(q+1:Nat):=by rw [IntWalk.i64_in _ (by omega)];omega
      have hs1:=hs.ext hA0
      obtain ⟨q1,q2⟩:=hs1.getD (j:=q) (by simp [intC];omega)
      rw [intC_at hlq] at q1
      have hno':=hno
      obtain ⟨z,hz⟩:∃ z,z=sorts.getD q 0:=⟨_,rfl⟩
      rw [←hz] at q1
      refine zai (t:=true) (by simp [go_sem,za0,za4,za1,g0,g1,g5,g0,g1,g5,g33,g34,g35,c2,hlq]) rfl ?_
      refine zaa ?_
      refine hK6 _ _ ?_
      refine zac (fun K7 hK7=>?_)
      refine zae ?_
      first|refine zzr fun K hK=>?_|refine zzt fun K hK=>?_
      simp [go_sem,za0,za4,za1,g0,g1,g5,g0,g1,g5,g33,g34,g35, c2,hlq,q1,q2]
      refine hK _ _ ?_;clear hK K
      first|refine zzr fun K hK=>?_|refine zzt fun K hK=>?_
      simp [go_sem,za0,za4,za1,g0,g1,g5,g0,g1,g5,g33,g34,g35]
      refine za5 (by simp [go_sem,za0,za4,za1,g0,g1,g5,g0,g1,g5,g33,g34,g35]) rfl Tryz.call51 (fun R hR=>?_)
      simp [go_sem,za0,za4,za1,g0,g1,g5,g0,g1,g5,g33,g34,g35]
      refine (asort_any (10+j) (by omega) c1 _).mono ?_
      rintro e w6 ⟨rfl,hE6⟩
      refine ⟨_,rfl,hR _ _ ?_⟩
      clear hR R
      replace hA0:=hA0.next hE6
      simp [go_sem,za0,za4,za1,g0,g1,g5,g0,g1,g5,g33,g34,g35]
      refine hK _ _ ?_;clear hK K
      by_cases hse:sortK (10+j)=z
      ·have hin:sortK (10+j)∈sorts:=by
        rw [hse,hz,List.getD_eq_getElem?_getD,List.getElem?_eq_getElem hlq];exact List.getElem_mem hlq
       rw [if_pos ⟨hwd,hin⟩] at hK1
       refine zai (t:=true) (by simp [go_sem,za0,za4,za1,g0,g1,g5,g0,g1,g5,g33,g34,g35,hse]) rfl ?_
       first|refine zzr fun K hK=>?_|refine zzt fun K hK=>?_
       simp [go_sem,za0,za4,za1,g0,g1,g5,g0,g1,g5,g33,g34,g35]
       refine hK _ _ ?_;clear hK K
       refine zaf ?_
       repeat (first|refine za3 ?_|refine za2 ?_)
       refine ⟨trivial,?_,hA0⟩
       simp [go_sem,zat,zas,hK1,g5]
      ·refine zai (t:=false) (by simp [go_sem,za0,za4,za1,g0,g1,g5,g0,g1,g5,g33,g34,g35,hse]) rfl ?_
       refine zaa ?_
       refine hK7 _ _ ?_
       refine zzt fun K hK=>?_
       simp [go_sem,g35,hw2]
       refine hK _ _ ⟨sorts.length-(q+1),by omega,hA0,q+1,by omega,rfl,?_,by simp [go_sem,g0],by simp [go_sem,g1],by simp [go_sem,g5],by simp [go_sem,g33],by simp [go_sem,g34],by simp [go_sem]⟩
       intro p hp
       by_cases hpq:p=q
       ·rw [hpq,←hz];exact fun e=>hse e.symm
       ·exact hno p (by omega)
     ·have c2:¬(q:Int)<sorts.length:=by omega
      have hnin:¬(zej (10+j)=(zan T i).t∧sortK (10+j)∈sorts):=by
       rintro ⟨_,hin⟩
       obtain ⟨p,hp,e⟩:=List.getElem_of_mem hin
       refine hno p (by omega) ?_
       rw [List.getD_eq_getElem?_getD,List.getElem?_eq_getElem hp];exact e
      rw [if_neg hnin] at hK1
      refine zai (t:=false) (by simp [go_sem,za0,za4,za1,g0,g1,g5,g0,g1,g5,g33,g34,g35,c2,hlq]) rfl ?_
      refine zaz ?_
      repeat (first|refine zag ?_|refine za8 rfl ?_|refine zab ?_)
      refine hK4 _ _ ?_
      refine zzt fun K hK=>?_
      simp [go_sem,g5,hw1]
      refine hK _ _ ⟨59-(j+1),by omega,hA0,j+1,by omega,rfl,hK1,by simp [go_sem,g0],by simp [go_sem,g1],by simp [go_sem]⟩
    ·rw [if_neg (fun hh=>hwd hh.1)] at hK1
     refine zai (t:=true) (by simp [go_sem,za0,za4,za1,g0,g1,g5,hwd]) rfl ?_
     refine zaz ?_
     repeat (first|refine zag ?_|refine za8 rfl ?_|refine zab ?_)
     refine hK4 _ _ ?_
     refine zzt fun K hK=>?_
     simp [go_sem,g5,hw1]
     refine hK _ _ ⟨59-(j+1),by omega,hA0,j+1,by omega,rfl,hK1,by simp [go_sem,g0],by simp [go_sem,g1],by simp [go_sem]⟩
   ·have c1:¬(10:Int)+j≤68:=by omega
    have hj':j=59:=by omega
    subst hj'
    have hKz:K=0:=hK1.symm
    refine zai (t:=false) (by simp [go_sem,za0,za4,za1,g0,g1,g5,c1]) rfl ?_
    refine zaz ?_
    repeat (first|refine zag ?_|refine za8 rfl ?_|refine zab ?_)
    refine hK2 _ _ ?_
    first|refine zzr fun K hK=>?_|refine zzt fun K hK=>?_
    simp [go_sem,za0,za4,za1,g0,g1,g5]
    refine hK _ _ ?_;clear hK K
    refine zaf ?_
    repeat (first|refine za3 ?_|refine za2 ?_)
    refine ⟨trivial,?_,hA0⟩
    simp [go_sem,zat,zas,hKz]
  ·have h1':¬((zan T i).k:Int)=1:=by omega
   rw [if_neg (fun hh=>h1 hh.2)] at hK0
   simp [go_sem,za0,za4,za1,h0]
   refine za5 (by simp [go_sem,za0,za4,za1,h0,h1,h1',zbH]) rfl Tryz.call13 (fun R hR=>?_)
   simp [go_sem,za0,za4,za1,h0,h1,h1',zbH]
   refine (zbV (h.ext hA0) hT).mono ?_
   rintro e w7 ⟨rfl,hE7⟩
   refine ⟨_,rfl,hR _ _ ?_⟩
   clear hR R
   replace hA0:=hA0.next hE7
   simp [go_sem,za0,za4,za1,h0,h1,h1',zbH]
   refine hK _ _ ?_;clear hK K
   refine zai (t:=true) (by simp [go_sem,za0,za4,za1,h0,h1,h1']) rfl ?_
   first|refine zzr fun K hK=>?_|refine zzt fun K hK=>?_
   simp [go_sem,za0,za4,za1]
   refine hK _ _ ?_;clear hK K
   refine zaf ?_
   repeat (first|refine za3 ?_|refine za2 ?_)
   refine ⟨trivial,?_,hA0⟩
   simp [go_sem,zat,zas,hK0]
 ·rw [if_neg (fun hh=>h0 hh.1)] at hK0
  simp [go_sem,za0,za4,za1,h0]
  refine hK _ _ ?_;clear hK K
  refine zai (t:=true) (by simp [go_sem,za0,za4,za1,h0]) rfl ?_
  first|refine zzr fun K hK=>?_|refine zzt fun K hK=>?_
  simp [go_sem,za0,za4,za1]
  refine hK _ _ ?_;clear hK K
  refine zaf ?_
  repeat (first|refine za3 ?_|refine za2 ?_)
  refine ⟨trivial,?_,hA0⟩
  simp [go_sem,zat,zas,hK0]
end Go.Proofs.YtefhenfofomjhaaGreat
