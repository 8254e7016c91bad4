/- The same program, with positions. -/
import Derived.Test.YtefhenfofomjhaaGreatSy3
import Derived.Test.YtefhenfofomjhaaGreatRx1
import Derived.Test.YtefhenfofomjhaaGreatLxI
import Derived.Test.YtefhenfofomjhaaGreatLx7
import Derived.Test.YtefhenfofomjhaaGreatPa1
set_option linter.unusedSimpArgs false
set_option linter.unusedVariables false
set_option maxHeartbeats 4000000
set_option maxRecDepth 20000
namespace Go.Proofs.YtefhenfofomjhaaGreat
open Go Go.RowKit Go.V
theorem stm_ne {T:List Tok} (hW:Wf T) {i j:Nat} {e:Int} (h:stmS T i = .er j e):e≠0:=by
 have ha:=stm_agr hW (a0:=0) i
 rw [h] at ha
 exact ha.1
theorem refProg_any (s:ByteArray) (w:World) (hs:s.size≤maxLen):Calls Tryz.prog 9 #[.string s] w (ProgPost w (progV s)):=by
 obtain ⟨V,hV⟩:∃ V,V=progV s:=⟨_,rfl⟩
 rw [←hV]
 unfold progV at hV
 refine za5 (rs:=[.cell 2 38,.tmp 3,.tmp 4]) (n:=51) Tryz.func9 rfl rfl rfl (by kernel_rfl) ?_
 have hA0:=Below.refl w.heap.size w
 refine zzr fun K hK=>?_
 simp [go_sem,za0,za4,za1]
 refine zza rfl zdk (fun w1 b1 hE1 hle1 hB1=>?_)
 have hb1_0:=Nat.le_trans hA0.size hle1
 replace hA0:=hA0.next hE1
 simp [go_sem,za0,za4,za1,hB1.cell]
 apply hK;clear hK K
 refine zzr fun K hK=>?_
 simp [go_sem,za0,za4,za1,hB1.cell]
 refine zzc rfl Tryz.call17 (fun R hR=>?_)
 simp [go_sem,za0,za4,za1,hB1.cell]
 refine (allRef_any s _ hs).mono ?_
 rintro e w2 ⟨la,cap,rfl,hsl,hE2⟩
 refine ⟨_,rfl,hR _ _ ?_⟩
 clear hR R
 replace hA0:=hA0.next hE2
 replace hB1:=hB1.keep hE2
 simp [go_sem,za0,za4,za1,hB1.cell]
 apply hK;clear hK K
 refine zab (fun K1 hK1=>?_)
 refine zzr fun K hK=>?_
 simp [go_sem,za0,za4,za1,hB1.cell]
 apply hK;clear hK K
 by_cases he:(allR s).2.2=0
 ·rw [if_pos he] at hV
  have he':((allR s).2.2:Int)=0:=by omega
  have hW:=wf_tok he
  rw [prog_eq hW] at hV
  have hlen:(allR s).1.length=(tokT s).length:=by simp [tokT]
  have hsv:tksC s (allR s).1=zc2 (tokT s):=(toks_tks s _).symm
  rw [hlen] at *
  rw [hsv] at hsl
  generalize tokT s=T at *
  have hT:T.length≤20001:=hW.size
  have hpos:=hW.pos
  have hlan:=la_neP hsl hpos hB1
  have hlal:=la_lt hsl hpos
  obtain ⟨lb,lo,rfl,_⟩:=toks_len hsl hpos
  have hlb1:lb≠b1:=hlan _ rfl
  have hwb1:w.heap.size≤b1:=hle1
  refine zaf (t:=false) (by simp [go_sem, he',he]) rfl ?_
  refine za7 ?_
  apply hK1
  refine zzr fun K hK=>?_
  simp [go_sem,za0,za4,za1,hB1.cell]
  apply hK;clear hK K
  obtain ⟨N4,hN4⟩:∃ N,N=w2.heap.size:=⟨_,rfl⟩
  have h1N4:=hB1.lt
  have hwN4:w.heap.size≤N4:=by rw [hN4];exact hA0.size
  have hlbN:lb<N4:=by rw [hN4];exact hlal _ rfl
  rw [←hN4] at h1N4
  have hts:SLF w2 (fun k=>k<N4∧k≠b1) (some ⟨lb,lo,none⟩) (zc2 T):=⟨hsl,fun ad ha _=>by injection ha with ha;subst ha;exact ⟨hlbN,hlb1⟩⟩
  clear hsl
  unfold progS at hV
  obtain ⟨Z,hZ⟩:∃ Z,Z=stmsS T T.length 0 []:=⟨_,rfl⟩
  rw [←hZ] at hV
  refine zab (fun K2 hK2=>?_)
  refine zac ?_
  refine zaz (fun m g w'=>∃ (j:Nat) (xs:List Stm) (rows:List (List Value)) (va:Option Addr) (vc:Nat),j<T.length∧T.length≤m+j∧xs.length+m≤T.length∧stmsS T m j xs=Z∧Below w.heap.size w w'∧N4≤w'.heap.size∧SLF w' (fun k=>k<N4∧k≠b1) (some ⟨lb,lo,none⟩) (zc2 T)∧Bx w' b1 #[.slice va xs.length vc] 38∧w'.ownsRow N4 64 10 (.slice va xs.length vc) xs.length rows.flatten∧NB w' (.slice va xs.length vc)∧RSs w' (fun k=>N4≤k∧Value.ownBlock (.slice va xs.length vc)≠some k) rows xs∧g 2 = .pointer (some ⟨b1,0,none⟩)∧g 5 = .slice (some ⟨lb,lo,none⟩) T.length cap∧g 6 = .int .i64 j) T.length ?_ ?_
  ·exact ⟨0,[],[],none,0,hpos,by omega,by simp,hZ.symm,hA0,by omega,hts,hB1,World.ownsRow_nil _ _ _ _,NB.nil _,RSs.nil _ _,by simp [go_sem],by simp [go_sem],by simp [go_sem]⟩
  clear hA0 hB1 hts
  rintro m g w' ⟨j,xs,rows,va,vc,hj,hm,hxm,hz,hA0,hNs,hts,hB1,hown,hnb,hrx,g2,g5,g6⟩
  have hj':(j:Int)<T.length:=by omega
  obtain ⟨c0,cp,ct⟩:=zbg hts.sl hj
  refine zab (fun K3 hK3=>?_)
  cases m with
  | zero=>omega
  | succ m =>
   unfold stmsS at hz
   by_cases hk:(zai T j).k=0
   ·have hk':((zai T j).k:Int)=0:=by omega
    rw [if_pos hk] at hz
    rw [←hz] at hV
    simp only at hV
    refine zzr fun K hK=>?_
    simp [go_sem,za0,za4,za1,hB1.cell,g2,g5,g6, hj,hj',c0,hk',hk]
    apply hK;clear hK K
    refine zaf (t:=false) (by simp [go_sem,g2,g5,g6,hk',hk]) rfl ?_
    refine zav ?_
    repeat (first|refine zae ?_|refine za6 rfl ?_|refine za8 ?_)
    apply hK2
    refine zzr fun K hK=>?_
    simp [go_sem,za0,za4,za1,hB1.cell,g2,g5,g6]
    refine zzs (b:=b1) (off:=0) [.slice va xs.length vc] rfl zcj hB1 (fun w90 hS90 hB90=>?_) (by simp [go_sem,Value.cells,g2,g5,g6])
    simp [zaw] at hB90
    replace hA0:=hA0.nextS hS90 (by first|exact hb1_0|omega)
    replace hts:=hts.ch (Ch.of_sto hS90 (NL.of_bx hB1 (by intro u hu x e;subst e;simp at hu))) (by intro k hk e;subst e;first|exact hk.2 rfl|omega)
    replace hrx:=hrx.ch (Ch.of_sto hS90 (NL.of_bx hB1 (by intro u hu x e;subst e;simp at hu))) (by intro k hk e;subst e;first|exact hk.2 rfl|omega)
    replace hnb:=zdf hnb hown hS90 (by omega)
    replace hown:=zbu hown hS90 (by omega)
    simp [go_sem,za0,za4,za1,g2,g5,g6,hB90.cell]
    apply hK;clear hK K
    refine zad ?_
    repeat first|refine za3 ?_|refine za2 ?_
    subst hV
    refine ⟨by simp [go_sem,zaD,zam,za4,za1,za0,hB90.cell,g2],?_⟩
    refine ⟨va,vc,rows,?_,own_base hown hwN4,hnb,hrx.mono (fun k hk=>⟨Nat.le_trans hwN4 hk.1,hk.2⟩),(by show xs.length≤20001;omega),hA0⟩
    simp [go_sem,zar,zam,za4,za1,za0,hB90.cell,g2]
   ·have hk':¬((zai T j).k:Int)=0:=by omega
    rw [if_neg hk] at hz
    refine zzr fun K hK=>?_
    simp [go_sem,za0,za4,za1,hB1.cell,g2,g5,g6, hj,hj',c0,hk',hk]
    apply hK;clear hK K
    refine zaf (t:=true) (by simp [go_sem,g2,g5,g6,hk',hk]) rfl ?_
    refine za7 ?_
    apply hK3
    refine zac ?_
    refine zzr fun K hK=>?_
    simp [go_sem,za0,za4,za1,hB1.cell,g2,g5,g6]
    have hownD:=hown
    refine zzc rfl Tryz.call22 (fun R hR=>?_)
    simp [go_sem,za0,za4,za1,hB1.cell,g2,g5,g6]
    refine (rstm_any hW hj hts.sl).mono ?_
    rintro e w10 ⟨Rx,x,rfl,hsx,hxv,hE10⟩
    refine ⟨_,rfl,hR _ _ ?_⟩
    clear hR R
    replace hA0:=hA0.next hE10
    replace hB1:=hB1.keep hE10
    replace hts:=hts.ext hE10
    replace hrx:=hrx.ext hE10
    replace hnb:=hnb.keep hE10
    replace hown:=zas hown hE10
    have hN10:N4≤w10.heap.size:=Nat.le_trans hNs hE10.size
    obtain ⟨a,c,ya,yc,yb,yd,ye,yp,hRx,_⟩:=id hsx.open
    subst hRx
    replace hsx:=hsx.blt.mono (F':=fun k=>N4≤k∧Value.ownBlock (.slice va xs.length vc)≠some k∧k<w10.heap.size) (fun k hk=>⟨Nat.le_trans hNs hk.1,fun e=>by have:=(hownD.lt k e).2;exact absurd hk.1 (by omega),hk.2⟩)
    replace hrx:=hrx.blt.mono (F':=fun k=>N4≤k∧Value.ownBlock (.slice va xs.length vc)≠some k∧k<w10.heap.size) (fun k hk=>⟨hk.1.1,hk.1.2,hk.2⟩)
    obtain ⟨r,hr⟩:∃ r,r=stmS T j:=⟨_,rfl⟩
    have hrl:=stm_lt hW hj
    have hne:∀ j2 e,r = .er j2 e→e≠0:=fun j2 e h=>stm_ne hW (by rw [←hr];exact h)
    rw [←hr] at hxv hz hrl ⊢
    simp [go_sem,za0,za4,za1,hB1.cell,g2,g5,g6]
    refine zza rfl zbD (fun w20 b20 hE20 hle20 hB20=>?_)
    have hb20_0:=Nat.le_trans hA0.size hle20
    have hd1_20:b1≠b20:=Nat.ne_of_lt (Nat.lt_of_lt_of_le hB1.lt hle20)
    replace hA0:=hA0.next hE20
    replace hB1:=hB1.keep hE20
    replace hts:=hts.ext hE20
    replace hrx:=hrx.ext hE20
    replace hsx:=hsx.ext hE20
    replace hnb:=hnb.keep hE20
    replace hown:=zas hown hE20
    simp [go_sem,za0,za4,za1,hB1.cell,g2,g5,g6,hB20.cell]
    have hob20:Value.ownBlock (.slice va xs.length vc)≠some b20:=fun e=>by have:=(hownD.lt b20 e).2;have:=hE10.size;omega
    refine zzs (b:=b20) (off:=0) [.int .i64 x.kind,.slice a x.names.length c,.int .i64 x.expr.kind,.string ⟨x.expr.name.toArray⟩,.bool x.expr.neg,.slice ya x.expr.num.length yc,.slice yb x.expr.den.length yd,.slice ye x.expr.args.length yp,.int .i64 x.expr.pos,.int .i64 x.pos] rfl zaJ hB20 (fun w21 hS21 hB21=>?_) (by simp [go_sem,Value.cells,g2,g5,g6])
    simp [zaw] at hB21
    replace hA0:=hA0.nextS hS21 (by first|exact hb20_0|omega)
    replace hts:=hts.ch (Ch.of_sto hS21 (NL.of_bx hB20 (by intro u hu x e;subst e;simp at hu))) (by intro k hk e;subst e;first|exact hk.2 rfl|omega)
    replace hrx:=hrx.ch (Ch.of_sto hS21 (NL.of_bx hB20 (by intro u hu x e;subst e;simp at hu))) (by intro k hk e;subst e;first|exact hk.2 rfl|omega)
    replace hsx:=hsx.ch (Ch.of_sto hS21 (NL.of_bx hB20 (by intro u hu x e;subst e;simp at hu))) (by intro k hk e;subst e;first|exact hk.2 rfl|omega)
    replace hB1:=hB1.sto hS21 (by first|exact hd1_20|exact (hd20_1).symm)
    simp [go_sem,za0,za4,za1,hB1.cell,g2,g5,g6,hB21.cell]
    replace hnb:=hnb.grown (zaS hS21) (.inr fun e=>hob20 e)
    replace hown:=zdV hown hS21 hob20
    apply hK;clear hK K
    refine zab (fun K4 hK4=>?_)
    cases r with
    | er j2 e2 =>
     have he2:=hne j2 e2 rfl
     have hj2:j2<T.length:=hrl
     have hj2':(j2:Int)<T.length:=by omega
     simp only at hz
     rw [←hz] at hV
     simp only at hV
     refine zzr fun K hK=>?_
     simp [go_sem,za0,za4,za1,hB1.cell,g2,g5,g6,hB21.cell, zcu,zbB,he2]
     apply hK;clear hK K
     refine zaf (t:=true) (by simp [go_sem,g2,g5,g6,zcu,zbB,he2]) rfl ?_
     obtain ⟨d0,dp,dt⟩:=zbg (hts.sl.ext (Below.drew1 _)) hj2
     have hD22:=Below.drew1 w21
     replace hA0:=hA0.next hD22
     replace hB1:=hB1.keep hD22
     replace hB21:=hB21.keep hD22
     refine W_rdS ([⟨lb,lo+j2*4+1,none⟩]) [(1,0),(2,0),(3,0),(4,0),(5,0),(6,0),(0,1),(7,1),(8,0),(9,0)] (by kernel_rfl) (by kernel_rfl) (fun K hK=>?_)
     simp [go_sem,za0,za4,za1,hB1.cell,g2,g5,g6,hB21.cell,hj2,hj2',dp,zcu,zbB]
     have hkp:Keep ([⟨lb,lo+j2*4+1,none⟩]) w21.drew w21.drew:=zdc _ _
     have hbL:∀ a∈[(⟨lb,lo+j2*4+1,none⟩:Addr)],a.block≠b1:=by
      intro a ha
      simp only [List.mem_cons,List.not_mem_nil,or_false] at ha
      subst ha;exact hlb1
     refine zal #[.slice none 0 0] (by simp [go_sem]) rfl ty_stZ38 [] (by simp [go_sem]) rfl ?_
     refine zbb hkp ?_
     simp [go_sem,za0,za4,za1,hB1.cell,g2,g5,g6,hB21.cell,hj2,hj2',dp,zcu,zbB]
     have hB1':=hB1
     refine zzs (b:=b1) (off:=0) [.slice none 0 0] rfl zcj hB1' (fun w70 hS70 hB70=>?_) (by simp [go_sem,Value.cells,g2])
     simp [zaw] at hB70
     have hkp2:Keep [⟨lb,lo+j2*4+1,none⟩] _ w70:=Keep.sto hbL hS70
     refine zbb hkp2 ?_
     simp [go_sem,hkp2]
     apply hK;clear hK K
     refine zad ?_
     repeat first|refine za3 ?_|refine za2 ?_
     rw [hV]
     refine ⟨by simp [go_sem,zaD,zam,za4,za1,za0,hB70.cell,g2],?_⟩
     refine ⟨none,0,[],?_,World.ownsRow_nil _ _ _ _,NB.nil _,RSs.nil _ _,Nat.zero_le _,hA0.nextS hS70 hwb1⟩
     simp [go_sem,zar,zam,za4,za1,za0,hB70.cell,g2,zcu,zbB]
    | ok x0 j2 =>
     have hx0:=hxv x0 j2 rfl
     subst hx0
     have hj2:j2<T.length:=hrl
     have hst:stmS T j = .ok x j2:=hr.symm
     have hle:=stm_le hst
     simp only at hz
     refine zzr fun K hK=>?_
     simp [go_sem,za0,za4,za1,hB1.cell,g2,g5,g6,hB21.cell, zbB,zcu]
     apply hK;clear hK K
     refine zaf (t:=false) (by simp [go_sem,g2,g5,g6, zbB,zcu]) rfl ?_
     refine za7 ?_
     apply hK4
     refine zzr fun K hK=>?_
     simp [go_sem,za0,za4,za1,hB1.cell,g2,g5,g6,hB21.cell]
     refine zak #[.int .i64 x.kind,.slice a x.names.length c,.int .i64 x.expr.kind,.string ⟨x.expr.name.toArray⟩,.bool x.expr.neg,.slice ya x.expr.num.length yc,.slice yb x.expr.den.length yd,.slice ye x.expr.args.length yp,.int .i64 x.expr.pos,.int .i64 x.pos] (by simp [go_sem,za0,za4,za1,hB1.cell,g2,g5,g6,hB21.cell]) rfl ty_slZ36 (by decide) [(0,.agg #[.int .i64 x.kind,.slice a x.names.length c,.int .i64 x.expr.kind,.string ⟨x.expr.name.toArray⟩,.bool x.expr.neg,.slice ya x.expr.num.length yc,.slice yb x.expr.den.length yd,.slice ye x.expr.args.length yp,.int .i64 x.expr.pos,.int .i64 x.pos])] (by simp [go_sem,za0,za4,za1,hB1.cell,g2,g5,g6,hB21.cell]) (by kernel_rfl) (fun w40 b40 hE40 hle40 hB40=>?_)
     have hb40_0:=Nat.le_trans hA0.size hle40
     have hd1_40:b1≠b40:=Nat.ne_of_lt (Nat.lt_of_lt_of_le hB1.lt hle40)
     have hd20_40:b20≠b40:=Nat.ne_of_lt (Nat.lt_of_lt_of_le hB21.lt hle40)
     replace hA0:=hA0.next hE40
     replace hB1:=hB1.keep hE40
     replace hB21:=hB21.keep hE40
     replace hts:=hts.ext hE40
     replace hrx:=hrx.ext hE40
     replace hsx:=hsx.ext hE40
     replace hnb:=hnb.keep hE40
     replace hown:=zas hown hE40
     simp [go_sem,za0,za4,za1,hB1.cell,g2,g5,g6,hB21.cell,hB40.cell]
     have hN40:N4≤w40.heap.size:=by have:=hE20.size;have:=hS21.size;have:=hE40.size;omega
     refine zcn (v:=.slice va xs.length vc) (b:=b40) (len:=1) (c:=1) hB40 (by simp [go_sem]) rfl ty_slZ36 ty_bytes64 rfl (by decide) (by simp [go_sem,za0,hB1.cell,g2]) (by simp [go_sem]) hown rfl (by simp [Value.oneCell']) (by unfold maxLen;omega) (by omega) hN40 (by decide) (by intro u hu x e;subst e;simp at hu) (by intro u hu x e;subst e;simp at hu) hnb (fun v' w50 hown' hg50 hat50 hnb'=>?_)
     obtain ⟨va',vc',rfl⟩:=zbf hown'
     have hob:∀ k,(Value.ownBlock (.slice va xs.length vc))=some k→N4≤k:=fun k e=>(hown.lt k e).1
     replace hrx:=((hrx.snoc hsx).blt).ch (Ch.of_grown hg50 (NL.of_nb hnb)) (fun k hk e=>hk.1.2.1 e)
     replace hrx:=hrx.mono (F':=fun k=>N4≤k∧Value.ownBlock (.slice va' (xs.length+1) vc')≠some k) (fun k hk=>⟨hk.1.1,fun e=>by
      rcases hat50 with h|h
      ·exact hk.1.2.1 (h▸e)
      ·rw [h] at e;injection e with e;have:=hk.2;omega⟩)
     replace hts:=hts.ch (Ch.of_grown hg50 (NL.of_nb hnb)) (fun k hk e=>by have:=hob k e;have:=hk.1;omega)
     replace hA0:=hA0.nextG hg50 (fun k e=>by have:=hob k e;omega)
     replace hB1:=hB1.grown hg50 (fun e=>by have:=hob b1 e.symm;omega)
     simp [go_sem,za0,za4,za1,g2,g5,g6,hB1.cell]
     refine zzs (b:=b1) (off:=0) [.slice va' (xs.length+1) vc'] rfl ty_size36 hB1 (fun w60 hS60 hB60=>?_) (by simp [go_sem,Value.cells,g2,g5,g6])
     simp [zaw] at hB60
     replace hA0:=hA0.nextS hS60 (by first|exact hb1_0|omega)
     replace hts:=hts.ch (Ch.of_sto hS60 (NL.of_bx hB1 (by intro u hu x e;subst e;simp at hu))) (by intro k hk e;subst e;first|exact hk.2 rfl|omega)
     replace hrx:=hrx.ch (Ch.of_sto hS60 (NL.of_bx hB1 (by intro u hu x e;subst e;simp at hu))) (by intro k hk e;subst e;first|exact hk.2 rfl|omega)
     replace hnb':=zdf hnb' hown' hS60 (by omega)
     replace hown':=zbu hown' hS60 (by omega)
     simp [go_sem,za0,za4,za1,g2,g5,g6,hB60.cell]
     apply hK;clear hK K
     have hN60:N4≤w60.heap.size:=by rw [hS60.size];exact Nat.le_trans hN40 hg50.size
     have hlx:(xs++[x]).length=xs.length+1:=by simp
     refine zzt fun K hK=>?_
     simp [go_sem,za0,za4,za1,g2,g5,g6,hB60.cell]
     apply hK;clear hK K
     refine ⟨m,by omega,j2,xs++[x],rows++[[.int .i64 x.kind,.slice a x.names.length c,.int .i64 x.expr.kind,.string ⟨x.expr.name.toArray⟩,.bool x.expr.neg,.slice ya x.expr.num.length yc,.slice yb x.expr.den.length yd,.slice ye x.expr.args.length yp,.int .i64 x.expr.pos,.int .i64 x.pos]],va',vc',hj2,by omega,by omega,hz,hA0,hN60,hts,by rw [hlx];exact hB60,by rw [hlx];simpa using hown',by rw [hlx];exact hnb',by rw [hlx];exact hrx,by simp [go_sem,g2],by simp [go_sem,g5],by simp [go_sem,zbB]⟩
 ·rw [if_neg he] at hV
  have he':¬((allR s).2.2:Int)=0:=by omega
  refine zaf (t:=true) (by simp [go_sem,he',he]) rfl ?_
  refine zzr fun K hK=>?_
  simp [go_sem,za0,za4,za1,hB1.cell]
  refine zal #[.slice none 0 0] (by simp [go_sem]) rfl ty_stZ38 [] (by simp [go_sem]) rfl ?_
  simp [go_sem,za0]
  refine zzs (b:=b1) (off:=0) [.slice none 0 0] rfl zcj hB1 (fun w61 hS61 hB61=>?_) (by simp [go_sem,Value.cells])
  simp [zaw] at hB61
  replace hA0:=hA0.nextS hS61 (by first|exact hb1_0|omega)
  simp [go_sem,za0,za4,za1,hB61.cell]
  apply hK;clear hK K
  refine zad ?_
  repeat first|refine za3 ?_|refine za2 ?_
  subst hV
  refine ⟨by simp [go_sem,zaD,zam,za4,za1,za0,hB61.cell],?_⟩
  refine ⟨none,0,[],?_,World.ownsRow_nil _ _ _ _,NB.nil _,RSs.nil _ _,Nat.zero_le _,hA0⟩
  simp [go_sem,zar,zam,za4,za1,za0,hB61.cell]
theorem lmC_at {l:List Nat} {i:Nat} (h:i<l.length):(lmC l).getD i undef = .int .u16 (l.getD i 0):=by
 unfold lmC
 simp [List.getD_eq_getElem?_getD,h]
theorem sameNat_any {w:World} {a b:Option Addr} {c d:Nat} {l:List Nat} (h1:RD w a c l) (h2:RD w b d l) (hl:l.length≤maxLen):Calls Tryz.prog 66 #[.slice a l.length c,.slice b l.length d] w fun e w'=>e = .returned (.bool true)∧Below w.heap.size w w':=by
 unfold maxLen at hl
 refine za5 (rs:=[.tmp 4]) (n:=26) Tryz.func66 rfl rfl rfl (by kernel_rfl) ?_
 have hA0:=Below.refl w.heap.size w
 refine zzr fun K hK=>?_
 simp [go_sem,za0,za4,za1]
 apply hK;clear hK K
 refine zab (fun K1 hK1=>?_)
 refine zzr fun K hK=>?_
 simp [go_sem,za0,za4,za1]
 apply hK;clear hK K
 refine zaf (t:=false) (by simp [go_sem]) rfl ?_
 refine za7 ?_
 apply hK1
 refine zab (fun K2 hK2=>?_)
 refine zzr fun K hK=>?_
 simp [go_sem,za0,za4,za1]
 apply hK;clear hK K
 refine zac ?_
 refine zaz (fun m' g w'=>Below w.heap.size w w'∧∃ j:Nat,j≤l.length∧m'=l.length-j∧g 0 = .slice a l.length c∧g 1 = .slice b l.length d∧g 12 = .int .i64 l.length∧g 13 = .int .i64 j) l.length ?_ ?_
 ·exact ⟨hA0,0,by omega,rfl,by simp [go_sem],by simp [go_sem],by simp [go_sem],by simp [go_sem]⟩
 clear hA0
 rintro m' g w' ⟨hA0,j,hj,rfl,g0,g1,g12,g13⟩
 by_cases hlt:j<l.length
 ·have c1:(j:Int)<l.length:=by omega
  have hw1:IntKind.i64.wrap ((j:Int)+1)=(j+1:Nat):=zzw (by omega)
  have k1:=h1.sl.ext (hA0.next (Below.drew1 _))
  have k2:=h2.sl.ext (hA0.next (Below.drew1 _))
  obtain ⟨q1,q2⟩:=k1.getD (j:=j) (by simp [lmC];omega)
  obtain ⟨p1,p2⟩:=k2.getD (j:=j) (by simp [lmC];omega)
  rw [lmC_at hlt] at q1 p1
  generalize l.getD j 0=v at q1 p1
  refine zzr fun K hK=>?_
  simp [go_sem,za0,za4,za1,g0,g1,g12,g13, c1,hlt]
  apply hK;clear hK K
  refine zab (fun K3 hK3=>?_)
  refine zaf (t:=true) (by simp [go_sem,g0,g1,g12,g13,c1,hlt]) rfl ?_
  refine za7 ?_
  apply hK3
  refine zab (fun K4 hK4=>?_)
  refine zac ?_
  refine zzr fun K hK=>?_
  simp [go_sem,za0,za4,za1,g0,g1,g12,g13]
  apply hK;clear hK K
  have hD1:=Below.drew1 w'
  replace hA0:=hA0.next hD1
  refine W_rd [(0,0),(1,0),(2,0),(3,0),(4,0),(5,0),(6,0),(7,0),(8,0)] (by kernel_rfl) (by kernel_rfl) (fun K hK=>?_)
  simp [go_sem,za0,za4,za1,g0,g1,g12,g13, c1,hlt,q1,q2,p1,p2]
  apply hK;clear hK K
  refine zaf (t:=false) (by simp [go_sem,g0,g1,g12,g13]) rfl ?_
  refine za7 ?_
  apply hK4
  refine zzt fun K hK=>?_
  simp [go_sem,g13,hw1]
  refine hK _ _ ⟨l.length-(j+1),by omega,hA0,j+1,by omega,rfl,by simp [go_sem,g0],by simp [go_sem,g1],by simp [go_sem,g12],by simp [go_sem]⟩
 ·have c1:¬(j:Int)<l.length:=by omega
  refine zzr fun K hK=>?_
  simp [go_sem,za0,za4,za1,g0,g1,g12,g13, c1,hlt]
  apply hK;clear hK K
  refine zab (fun K3 hK3=>?_)
  refine zaf (t:=false) (by simp [go_sem,g0,g1,g12,g13,c1,hlt]) rfl ?_
  refine zav ?_
  repeat (first|refine zae ?_|refine za6 rfl ?_|refine za8 ?_)
  apply hK2
  refine zzr fun K hK=>?_
  simp [go_sem,za0,za4,za1,g0,g1,g12,g13]
  apply hK;clear hK K
  refine zad ?_
  repeat first|refine za3 ?_|refine za2 ?_
  refine ⟨trivial,?_,hA0⟩
  simp [go_sem,zar,zam]
theorem sameRat_any {w:World} {n:Bool} {ya yb za zb:Option Addr} {yc yd zc zd:Nat} {l m:List Nat} (h1:RD w ya yc l) (h2:RD w yb yd m) (h3:RD w za zc l) (h4:RD w zb zd m) (hl:l.length≤maxLen) (hm:m.length≤maxLen) :
  Calls Tryz.prog 41 #[.agg #[.bool n,.slice ya l.length yc,.slice yb m.length yd],.agg #[.bool n,.slice za l.length zc,.slice zb m.length zd]] w fun e w'=>e = .returned (.bool true)∧Below w.heap.size w w':=by
 refine za5 (rs:=[.tmp 4]) (n:=28) Tryz.func41 rfl rfl rfl (by kernel_rfl) ?_
 have hA0:=Below.refl w.heap.size w
 refine zzr fun K hK=>?_
 simp [go_sem,za0,za4,za1]
 refine zbF #[.bool n,.slice ya l.length yc,.slice yb m.length yd] (by simp [go_sem,za0,za4,za1]) rfl (by simp [go_sem,Value.cells,za0,za4,za1]) (fun w1 b1 hE1 hle1 hB1=>?_)
 have hb1_0:=Nat.le_trans hA0.size hle1
 replace hA0:=hA0.next hE1
 simp [go_sem,za0,za4,za1,hB1.cell]
 refine zbF #[.bool n,.slice za l.length zc,.slice zb m.length zd] (by simp [go_sem,za0,za4,za1,hB1.cell]) rfl (by simp [go_sem,Value.cells,za0,za4,za1,hB1.cell]) (fun w2 b2 hE2 hle2 hB2=>?_)
 have hb2_0:=Nat.le_trans hA0.size hle2
 have hd1_2:b1≠b2:=Nat.ne_of_lt (Nat.lt_of_lt_of_le hB1.lt hle2)
 replace hA0:=hA0.next hE2
 replace hB1:=hB1.keep hE2
 simp [go_sem,za0,za4,za1,hB1.cell,hB2.cell]
 apply hK;clear hK K
 refine zzr fun K hK=>?_
 simp [go_sem,za0,za4,za1,hB1.cell,hB2.cell]
 refine zzc rfl Tryz.call66 (fun R hR=>?_)
 simp [go_sem,za0,za4,za1,hB1.cell,hB2.cell]
 refine (sameNat_any (h1.ext hA0) (h3.ext hA0) hl).mono ?_
 rintro e w3 ⟨rfl,hE3⟩
 refine ⟨_,rfl,hR _ _ ?_⟩
 clear hR R
 replace hA0:=hA0.next hE3
 replace hB1:=hB1.keep hE3
 replace hB2:=hB2.keep hE3
 simp [go_sem,za0,za4,za1,hB1.cell,hB2.cell]
 refine zzc rfl Tryz.call66 (fun R hR=>?_)
 simp [go_sem,za0,za4,za1,hB1.cell,hB2.cell]
 refine (sameNat_any (h2.ext hA0) (h4.ext hA0) hm).mono ?_
 rintro e w4 ⟨rfl,hE4⟩
 refine ⟨_,rfl,hR _ _ ?_⟩
 clear hR R
 replace hA0:=hA0.next hE4
 replace hB1:=hB1.keep hE4
 replace hB2:=hB2.keep hE4
 simp [go_sem,za0,za4,za1,hB1.cell,hB2.cell]
 apply hK;clear hK K
 refine zad ?_
 repeat first|refine za3 ?_|refine za2 ?_
 refine ⟨trivial,?_,hA0⟩
 simp [go_sem,zar,zam]
theorem zdX (x:Tre) (w:World) (F1 F2:Nat→Prop) (R1 R2:List Value) (h1:EX w F1 R1 x) (h2:EX w F2 R2 x):Calls Tryz.prog 20 #[.agg R1.toArray,.agg R2.toArray] w fun e w'=>e = .returned (.bool true)∧Below w.heap.size w w':=by
 obtain ⟨ya,yc,yb,yd,ye,yp,yrows,rfl,y1,y2,y3,y4,y5,y6⟩:=h1.open
 obtain ⟨za,zc,zb,zd,ze,zp,zrows,rfl,z1,z2,z3,z4,z5,z6⟩:=h2.open
 have hal:=y3.max
 unfold maxLen at hal
 refine za5 (args:=[.agg #[.int .i64 x.kind,.string ⟨x.name.toArray⟩,.bool x.neg,.slice ya x.num.length yc,.slice yb x.den.length yd,.slice ye x.args.length yp,.int .i64 x.pos],.agg #[.int .i64 x.kind,.string ⟨x.name.toArray⟩,.bool x.neg,.slice za x.num.length zc,.slice zb x.den.length zd,.slice ze x.args.length zp,.int .i64 x.pos]]) (rs:=[.tmp 4]) (n:=54) Tryz.func20 rfl rfl rfl (by kernel_rfl) ?_
 have hA0:=Below.refl w.heap.size w
 refine zzr fun K hK=>?_
 simp [go_sem,za0,za4,za1]
 refine zbF #[.int .i64 x.kind,.string ⟨x.name.toArray⟩,.bool x.neg,.slice ya x.num.length yc,.slice yb x.den.length yd,.slice ye x.args.length yp,.int .i64 x.pos] (by simp [go_sem,za0,za4,za1]) rfl (by simp [go_sem,Value.cells,za0,za4,za1]) (fun w1 b1 hE1 hle1 hB1=>?_)
 have hb1_0:=Nat.le_trans hA0.size hle1
 replace hA0:=hA0.next hE1
 simp [go_sem,za0,za4,za1,hB1.cell]
 refine zbF #[.int .i64 x.kind,.string ⟨x.name.toArray⟩,.bool x.neg,.slice za x.num.length zc,.slice zb x.den.length zd,.slice ze x.args.length zp,.int .i64 x.pos] (by simp [go_sem,za0,za4,za1,hB1.cell]) rfl (by simp [go_sem,Value.cells,za0,za4,za1,hB1.cell]) (fun w2 b2 hE2 hle2 hB2=>?_)
 have hb2_0:=Nat.le_trans hA0.size hle2
 have hd1_2:b1≠b2:=Nat.ne_of_lt (Nat.lt_of_lt_of_le hB1.lt hle2)
 replace hA0:=hA0.next hE2
 replace hB1:=hB1.keep hE2
 simp [go_sem,za0,za4,za1,hB1.cell,hB2.cell]
 apply hK;clear hK K
 refine zab (fun K1 hK1=>?_)
 refine zzr fun K hK=>?_
 simp [go_sem,za0,za4,za1,hB1.cell,hB2.cell]
 refine zzc rfl Tryz.call41 (fun R hR=>?_)
 simp [go_sem,za0,za4,za1,hB1.cell,hB2.cell]
 refine (sameRat_any (y1.ext hA0) (y2.ext hA0) (z1.ext hA0) (z2.ext hA0) y5 y6).mono ?_
 rintro e w3 ⟨rfl,hE3⟩
 refine ⟨_,rfl,hR _ _ ?_⟩
 clear hR R
 replace hA0:=hA0.next hE3
 replace hB1:=hB1.keep hE3
 replace hB2:=hB2.keep hE3
 simp [go_sem,za0,za4,za1,hB1.cell,hB2.cell]
 apply hK;clear hK K
 refine zaf (t:=false) (by simp [go_sem]) rfl ?_
 refine za7 ?_
 apply hK1
 refine zab (fun K2 hK2=>?_)
 refine zzr fun K hK=>?_
 simp [go_sem,za0,za4,za1,hB1.cell,hB2.cell]
 apply hK;clear hK K
 refine zac ?_
 refine zaz (fun m' g w'=>Below w.heap.size w w'∧Bx w' b1 #[.int .i64 x.kind,.string ⟨x.name.toArray⟩,.bool x.neg,.slice ya x.num.length yc,.slice yb x.den.length yd,.slice ye x.args.length yp,.int .i64 x.pos] 30∧Bx w' b2 #[.int .i64 x.kind,.string ⟨x.name.toArray⟩,.bool x.neg,.slice za x.num.length zc,.slice zb x.den.length zd,.slice ze x.args.length zp,.int .i64 x.pos] 30∧∃ j:Nat,j≤x.args.length∧m'=x.args.length-j∧g 2 = .pointer (some ⟨b1,0,none⟩)∧g 3 = .pointer (some ⟨b2,0,none⟩)∧g 37 = .int .i64 x.args.length∧g 38 = .int .i64 j) x.args.length ?_ ?_
 ·exact ⟨hA0,hB1,hB2,0,by omega,rfl,by simp [go_sem],by simp [go_sem],by simp [go_sem],by simp [go_sem]⟩
 clear hA0 hB1 hB2
 rintro m' g w' ⟨hA0,hB1,hB2,j,hj,rfl,g2,g3,gn,gi⟩
 by_cases hlt:j<x.args.length
 ·have c1:(j:Int)<x.args.length:=by omega
  have hw1:IntKind.i64.wrap ((j:Int)+1)=(j+1:Nat):=zzw (by omega)
  have hAd:=hA0.next (Below.drew1 w')
  obtain ⟨Ra,_,q1,q2,q3,q4⟩:=(y3.ext hAd).row (List.getElem?_eq_getElem hlt)
  obtain ⟨Rb,_,p1,p2,p3,p4⟩:=(z3.ext hAd).row (List.getElem?_eq_getElem hlt)
  have hrec:=zdX (x.args[j]'hlt) w'.drew _ _ Ra Rb q4 p4
  refine zzr fun K hK=>?_
  simp [go_sem,za0,za4,za1,hB1.cell,hB2.cell,g2,g3,gn,gi, c1,hlt]
  apply hK;clear hK K
  refine zab (fun K3 hK3=>?_)
  refine zaf (t:=true) (by simp [go_sem,g2,g3,gn,gi,c1,hlt]) rfl ?_
  refine za7 ?_
  apply hK3
  refine zab (fun K4 hK4=>?_)
  refine zac ?_
  refine zzr fun K hK=>?_
  simp [go_sem,za0,za4,za1,hB1.cell,hB2.cell,g2,g3,gn,gi]
  apply hK;clear hK K
  have hD4:=Below.drew1 w'
  replace hA0:=hA0.next hD4
  replace hB1:=hB1.keep hD4
  replace hB2:=hB2.keep hD4
  refine W_rd [(0,0),(1,0),(2,0),(3,0),(4,0),(5,0),(6,0),(7,0),(8,0),(9,0),(10,1),(11,0)] (by kernel_rfl) (by kernel_rfl) (fun K hK=>?_)
  simp [go_sem,za0,hB1.cell,hB2.cell,g2,g3,gn,gi, c1,hlt,q1,q2,q3,p1,p2,p3]
  refine zzc rfl Tryz.call20 (fun R hR=>?_)
  simp [go_sem,za0,hB1.cell,hB2.cell,g2,g3,gn,gi,za4,za1,c1,hlt]
  refine (hrec).mono ?_
  rintro e w5 ⟨rfl,hE5⟩
  refine ⟨_,rfl,(by assumption),hR _ _ ?_⟩
  clear hR R
  replace hA0:=hA0.next hE5
  replace hB1:=hB1.keep hE5
  replace hB2:=hB2.keep hE5
  simp [go_sem,za0,hB1.cell,hB2.cell,g2,g3,gn,gi,za4,za1,c1,hlt]
  apply hK;clear hK K
  refine zaf (t:=false) (by simp [go_sem,g2,g3,gn,gi]) rfl ?_
  refine za7 ?_
  apply hK4
  refine zzt fun K hK=>?_
  simp [go_sem,gi,hw1]
  refine hK _ _ ⟨x.args.length-(j+1),by omega,hA0,hB1,hB2,j+1,by omega,rfl,by simp [go_sem,g2],by simp [go_sem,g3],by simp [go_sem,gn],by simp [go_sem]⟩
 ·have c1:¬(j:Int)<x.args.length:=by omega
  refine zzr fun K hK=>?_
  simp [go_sem,za0,za4,za1,hB1.cell,hB2.cell,g2,g3,gn,gi, c1,hlt]
  apply hK;clear hK K
  refine zab (fun K3 hK3=>?_)
  refine zaf (t:=false) (by simp [go_sem,g2,g3,gn,gi,c1,hlt]) rfl ?_
  refine zav ?_
  repeat (first|refine zae ?_|refine za6 rfl ?_|refine za8 ?_)
  apply hK2
  refine zzr fun K hK=>?_
  simp [go_sem,za0,za4,za1,hB1.cell,hB2.cell,g2,g3,gn,gi]
  apply hK;clear hK K
  refine zad ?_
  repeat first|refine za3 ?_|refine za2 ?_
  refine ⟨trivial,?_,hA0⟩
  simp [go_sem,zar,zam]
termination_by SizeOf.sizeOf x
decreasing_by
 exact Tre.lt_args (List.getElem_mem _)
theorem sameExpr_any (x:Tre) (w:World) (F1 F2:Nat→Prop) (R1 R2:List Value) (h1:EX w F1 R1 x) (h2:EX w F2 R2 x):Calls Tryz.prog 7 #[.agg R1.toArray,.agg R2.toArray] w fun e w'=>e = .returned (.bool true)∧Below w.heap.size w w':=by
 obtain ⟨ya,yc,yb,yd,ye,yp,yrows,rfl,y1,y2,y3,y4,y5,y6⟩:=h1.open
 obtain ⟨za,zc,zb,zd,ze,zp,zrows,rfl,z1,z2,z3,z4,z5,z6⟩:=h2.open
 have hal:=y3.max
 unfold maxLen at hal
 refine za5 (args:=[.agg #[.int .i64 x.kind,.string ⟨x.name.toArray⟩,.bool x.neg,.slice ya x.num.length yc,.slice yb x.den.length yd,.slice ye x.args.length yp,.int .i64 x.pos],.agg #[.int .i64 x.kind,.string ⟨x.name.toArray⟩,.bool x.neg,.slice za x.num.length zc,.slice zb x.den.length zd,.slice ze x.args.length zp,.int .i64 x.pos]]) (rs:=[.tmp 4]) (n:=36) Tryz.func7 rfl rfl rfl (by kernel_rfl) ?_
 have hA0:=Below.refl w.heap.size w
 refine zzr fun K hK=>?_
 simp [go_sem,za0,za4,za1]
 refine zbF #[.int .i64 x.kind,.string ⟨x.name.toArray⟩,.bool x.neg,.slice ya x.num.length yc,.slice yb x.den.length yd,.slice ye x.args.length yp,.int .i64 x.pos] (by simp [go_sem,za0,za4,za1]) rfl (by simp [go_sem,Value.cells,za0,za4,za1]) (fun w1 b1 hE1 hle1 hB1=>?_)
 have hb1_0:=Nat.le_trans hA0.size hle1
 replace hA0:=hA0.next hE1
 simp [go_sem,za0,za4,za1,hB1.cell]
 refine zbF #[.int .i64 x.kind,.string ⟨x.name.toArray⟩,.bool x.neg,.slice za x.num.length zc,.slice zb x.den.length zd,.slice ze x.args.length zp,.int .i64 x.pos] (by simp [go_sem,za0,za4,za1,hB1.cell]) rfl (by simp [go_sem,Value.cells,za0,za4,za1,hB1.cell]) (fun w2 b2 hE2 hle2 hB2=>?_)
 have hb2_0:=Nat.le_trans hA0.size hle2
 have hd1_2:b1≠b2:=Nat.ne_of_lt (Nat.lt_of_lt_of_le hB1.lt hle2)
 replace hA0:=hA0.next hE2
 replace hB1:=hB1.keep hE2
 simp [go_sem,za0,za4,za1,hB1.cell,hB2.cell]
 apply hK;clear hK K
 refine zab (fun K1 hK1=>?_)
 refine zzr fun K hK=>?_
 simp [go_sem,za0,za4,za1,hB1.cell,hB2.cell]
 refine zzc rfl Tryz.call20 (fun R hR=>?_)
 simp [go_sem,za0,za4,za1,hB1.cell,hB2.cell]
 refine (zdX x _ _ _ _ _ (h1.ext hA0) (h2.ext hA0)).mono ?_
 rintro e w3 ⟨rfl,hE3⟩
 refine ⟨_,rfl,hR _ _ ?_⟩
 clear hR R
 replace hA0:=hA0.next hE3
 replace hB1:=hB1.keep hE3
 replace hB2:=hB2.keep hE3
 simp [go_sem,za0,za4,za1,hB1.cell,hB2.cell]
 apply hK;clear hK K
 refine zaf (t:=false) (by simp [go_sem]) rfl ?_
 refine za7 ?_
 apply hK1
 refine zab (fun K2 hK2=>?_)
 refine zzr fun K hK=>?_
 simp [go_sem,za0,za4,za1,hB1.cell,hB2.cell]
 apply hK;clear hK K
 refine zac ?_
 refine zaz (fun m' g w'=>Below w.heap.size w w'∧Bx w' b1 #[.int .i64 x.kind,.string ⟨x.name.toArray⟩,.bool x.neg,.slice ya x.num.length yc,.slice yb x.den.length yd,.slice ye x.args.length yp,.int .i64 x.pos] 30∧Bx w' b2 #[.int .i64 x.kind,.string ⟨x.name.toArray⟩,.bool x.neg,.slice za x.num.length zc,.slice zb x.den.length zd,.slice ze x.args.length zp,.int .i64 x.pos] 30∧∃ j:Nat,j≤x.args.length∧m'=x.args.length-j∧g 2 = .pointer (some ⟨b1,0,none⟩)∧g 3 = .pointer (some ⟨b2,0,none⟩)∧g 19 = .int .i64 x.args.length∧g 20 = .int .i64 j) x.args.length ?_ ?_
 ·exact ⟨hA0,hB1,hB2,0,by omega,rfl,by simp [go_sem],by simp [go_sem],by simp [go_sem],by simp [go_sem]⟩
 clear hA0 hB1 hB2
 rintro m' g w' ⟨hA0,hB1,hB2,j,hj,rfl,g2,g3,gn,gi⟩
 by_cases hlt:j<x.args.length
 ·have c1:(j:Int)<x.args.length:=by omega
  have hw1:IntKind.i64.wrap ((j:Int)+1)=(j+1:Nat):=zzw (by omega)
  have hAd:=hA0.next (Below.drew1 w')
  obtain ⟨Ra,_,q1,q2,q3,q4⟩:=(y3.ext hAd).row (List.getElem?_eq_getElem hlt)
  obtain ⟨Rb,_,p1,p2,p3,p4⟩:=(z3.ext hAd).row (List.getElem?_eq_getElem hlt)
  have hrec:=sameExpr_any (x.args[j]'hlt) w'.drew _ _ Ra Rb q4 p4
  refine zzr fun K hK=>?_
  simp [go_sem,za0,za4,za1,hB1.cell,hB2.cell,g2,g3,gn,gi, c1,hlt]
  apply hK;clear hK K
  refine zab (fun K3 hK3=>?_)
  refine zaf (t:=true) (by simp [go_sem,g2,g3,gn,gi,c1,hlt]) rfl ?_
  refine za7 ?_
  apply hK3
  refine zab (fun K4 hK4=>?_)
  refine zac ?_
  refine zzr fun K hK=>?_
  simp [go_sem,za0,za4,za1,hB1.cell,hB2.cell,g2,g3,gn,gi]
  apply hK;clear hK K
  have hD4:=Below.drew1 w'
  replace hA0:=hA0.next hD4
  replace hB1:=hB1.keep hD4
  replace hB2:=hB2.keep hD4
  refine W_rd [(0,0),(1,0),(2,0),(3,0),(4,0),(5,0),(6,0),(7,0),(8,0),(9,0),(10,1),(11,0)] (by kernel_rfl) (by kernel_rfl) (fun K hK=>?_)
  simp [go_sem,za0,hB1.cell,hB2.cell,g2,g3,gn,gi, c1,hlt,q1,q2,q3,p1,p2,p3]
  refine zzc rfl Tryz.call7 (fun R hR=>?_)
  simp [go_sem,za0,hB1.cell,hB2.cell,g2,g3,gn,gi,za4,za1,c1,hlt]
  refine (hrec).mono ?_
  rintro e w5 ⟨rfl,hE5⟩
  refine ⟨_,rfl,(by assumption),hR _ _ ?_⟩
  clear hR R
  replace hA0:=hA0.next hE5
  replace hB1:=hB1.keep hE5
  replace hB2:=hB2.keep hE5
  simp [go_sem,za0,hB1.cell,hB2.cell,g2,g3,gn,gi,za4,za1,c1,hlt]
  apply hK;clear hK K
  refine zaf (t:=false) (by simp [go_sem,g2,g3,gn,gi]) rfl ?_
  refine za7 ?_
  apply hK4
  refine zzt fun K hK=>?_
  simp [go_sem,gi,hw1]
  refine hK _ _ ⟨x.args.length-(j+1),by omega,hA0,hB1,hB2,j+1,by omega,rfl,by simp [go_sem,g2],by simp [go_sem,g3],by simp [go_sem,gn],by simp [go_sem]⟩
 ·have c1:¬(j:Int)<x.args.length:=by omega
  refine zzr fun K hK=>?_
  simp [go_sem,za0,za4,za1,hB1.cell,hB2.cell,g2,g3,gn,gi, c1,hlt]
  apply hK;clear hK K
  refine zab (fun K3 hK3=>?_)
  refine zaf (t:=false) (by simp [go_sem,g2,g3,gn,gi,c1,hlt]) rfl ?_
  refine zav ?_
  repeat (first|refine zae ?_|refine za6 rfl ?_|refine za8 ?_)
  apply hK2
  refine zzr fun K hK=>?_
  simp [go_sem,za0,za4,za1,hB1.cell,hB2.cell,g2,g3,gn,gi]
  apply hK;clear hK K
  refine zad ?_
  repeat first|refine za3 ?_|refine za2 ?_
  refine ⟨trivial,?_,hA0⟩
  simp [go_sem,zar,zam]
termination_by SizeOf.sizeOf x
decreasing_by
 exact Tre.lt_args (List.getElem_mem _)
structure SXS (w:World) (F:Nat→Prop) (ad:Option Addr) (xs:List Stm) (rows:List (List Value)):Prop where
 sl:SL w ad rows.flatten
 max:xs.length≤maxLen
 rs:RSs w F rows xs
theorem SXS.ext {w w':World} {F:Nat→Prop} {ad:Option Addr} {xs:List Stm} {rows:List (List Value)} (h:SXS w F ad xs rows) (hb:Below w.heap.size w w'):SXS w' F ad xs rows:=⟨h.sl.ext hb,h.max,h.rs.ext hb⟩
theorem RSs.all {w:World} {F:Nat→Prop} {xs:List Stm} {rows:List (List Value)} (h:RSs w F rows xs):∀ R∈rows,R.length=10:=by
 intro R hR
 obtain ⟨i,hi,rfl⟩:=List.getElem_of_mem hR
 exact (h.he i _ _ (List.getElem?_eq_getElem hi) (List.getElem?_eq_getElem (by have:=h.len;omega))).len
theorem SXS.row {w:World} {F:Nat→Prop} {ad:Option Addr} {xs:List Stm} {rows:List (List Value)} (h:SXS w F ad xs rows) {i:Nat} {x:Stm} (hx:xs[i]? = some x) :
  ∃ R:List Value,rows[i]? = some R∧za4 w ((ad.getD default).add (i*10)) 0 10=R∧za1 w ((ad.getD default).add (i*10)) 0 10∧ad.isSome=true∧SX w F R x:=by
 have hi:i<rows.length:=by rw [h.rs.len];exact (List.getElem?_eq_some_iff.1 hx).1
 obtain ⟨R,hR⟩:∃ R,rows[i]? = some R:=⟨_,List.getElem?_eq_getElem hi⟩
 have hall:=h.rs.all
 have hfl:=zd4 hall
 have hle:i*10+10≤rows.flatten.length:=by rw [hfl];omega
 obtain ⟨q1,q2,q3⟩:=h.sl.row (i*10) 10 hle (by decide)
 exact ⟨R,hR,by rw [q1,zdz hall hR],q2,q3,h.rs.he i R x hR hx⟩
theorem NmS.at {w:World} {F:Nat→Prop} {a:Option Addr} {l:List (List UInt8)} (h:NmS w F a l) {i:Nat} (hi:i<l.length):w.cell? ((a.getD default).add i)=some (.string ⟨(l.getD i []).toArray⟩)∧a.isSome=true:=by
 obtain ⟨q1,q2⟩:=h.sl.getD (j:=i) (by simpa using hi)
 rw [strL_at hi] at q1
 exact ⟨q1,q2⟩
theorem equalProg_any (l:List Stm) (w:World) (F1 F2:Nat→Prop) (a1 a2:Option Addr) (c1 c2:Nat) (rows1 rows2:List (List Value)) (h1:SXS w F1 a1 l rows1) (h2:SXS w F2 a2 l rows2) :
  Calls Tryz.prog 23 #[.agg #[.slice a1 l.length c1],.agg #[.slice a2 l.length c2]] w fun e w'=>e = .returned (.bool true)∧Below w.heap.size w w':=by
 have hal:=h1.max
 unfold maxLen at hal
 refine za5 (rs:=[.tmp 4]) (n:=70) Tryz.func23 rfl rfl rfl (by kernel_rfl) ?_
 have hA0:=Below.refl w.heap.size w
 refine zzr fun K hK=>?_
 simp [go_sem,za0,za4,za1]
 refine zbF #[.slice a1 l.length c1] (by simp [go_sem,za0,za4,za1]) rfl (by simp [go_sem,Value.cells,za0,za4,za1]) (fun w1 b1 hE1 hle1 hB1=>?_)
 have hb1_0:=Nat.le_trans hA0.size hle1
 replace hA0:=hA0.next hE1
 simp [go_sem,za0,za4,za1,hB1.cell]
 refine zbF #[.slice a2 l.length c2] (by simp [go_sem,za0,za4,za1,hB1.cell]) rfl (by simp [go_sem,Value.cells,za0,za4,za1,hB1.cell]) (fun w2 b2 hE2 hle2 hB2=>?_)
 have hb2_0:=Nat.le_trans hA0.size hle2
 have hd1_2:b1≠b2:=Nat.ne_of_lt (Nat.lt_of_lt_of_le hB1.lt hle2)
 replace hA0:=hA0.next hE2
 replace hB1:=hB1.keep hE2
 simp [go_sem,za0,za4,za1,hB1.cell,hB2.cell]
 apply hK;clear hK K
 refine zab (fun K1 hK1=>?_)
 refine zzr fun K hK=>?_
 simp [go_sem,za0,za4,za1,hB1.cell,hB2.cell]
 apply hK;clear hK K
 refine zaf (t:=false) (by simp [go_sem]) rfl ?_
 refine za7 ?_
 apply hK1
 refine zab (fun K2 hK2=>?_)
 refine zzr fun K hK=>?_
 simp [go_sem,za0,za4,za1,hB1.cell,hB2.cell]
 apply hK;clear hK K
 refine zac ?_
 refine zaz (fun m' g w'=>Below w.heap.size w w'∧Bx w' b1 #[.slice a1 l.length c1] 38∧Bx w' b2 #[.slice a2 l.length c2] 38∧∃ j:Nat,j≤l.length∧m'=l.length-j∧g 2 = .pointer (some ⟨b1,0,none⟩)∧g 3 = .pointer (some ⟨b2,0,none⟩)∧g 17 = .slice a1 l.length c1∧g 18 = .int .i64 l.length∧g 19 = .int .i64 j) l.length ?_ ?_
 ·exact ⟨hA0,hB1,hB2,0,by omega,rfl,by simp [go_sem],by simp [go_sem],by simp [go_sem],by simp [go_sem],by simp [go_sem]⟩
 clear hA0 hB1 hB2
 rintro m' g w' ⟨hA0,hB1,hB2,j,hj,rfl,g2,g3,g17,g18,g19⟩
 by_cases hlt:j<l.length
 ·have k1:(j:Int)<l.length:=by omega
  have hw1:IntKind.i64.wrap ((j:Int)+1)=(j+1:Nat):=zzw (by omega)
  obtain ⟨x,hx⟩:∃ x,l[j]? = some x:=⟨_,List.getElem?_eq_getElem hlt⟩
  obtain ⟨Ra,_,q1,q2,q3,q4⟩:=(h1.ext hA0).row hx
  obtain ⟨a,c,ya,yc,yb,yd,ye,yp,hRa,hna,hxa⟩:=q4.open
  rw [hRa] at q1
  replace hna:=hna.blt.mono (F':=fun k=>k<w'.heap.size) (fun k hk=>hk.2)
  replace hxa:=hxa.blt.mono (F':=fun k=>k<w'.heap.size) (fun k hk=>hk.2)
  obtain ⟨Rb,hRb0,_,_,p3,p4⟩:=(h2.ext hA0).row hx
  obtain ⟨b,d,za,zc,zb,zd,ze,zp,hRb,hnb,hxb⟩:=p4.open
  replace hnb:=hnb.blt.mono (F':=fun k=>k<w'.heap.size) (fun k hk=>hk.2)
  replace hxb:=hxb.blt.mono (F':=fun k=>k<w'.heap.size) (fun k hk=>hk.2)
  clear q4 p4
  refine zzr fun K hK=>?_
  simp [go_sem,za0,za4,za1,hB1.cell,hB2.cell,g2,g3,g17,g18,g19, k1,hlt]
  apply hK;clear hK K
  refine zab (fun K3 hK3=>?_)
  refine zaf (t:=true) (by simp [go_sem,g2,g3,g17,g18,g19,k1,hlt]) rfl ?_
  refine za7 ?_
  apply hK3
  refine zab (fun K4 hK4=>?_)
  refine zac ?_
  refine zzr fun K hK=>?_
  simp [go_sem,za0,hB1.cell,hB2.cell,g2,g3,g17,g18,g19, k1,hlt,q1,q2,q3]
  refine zza rfl zbD (fun w20 b20 hE20 hle20 hB20=>?_)
  have hb20_0:=Nat.le_trans hA0.size hle20
  have hd1_20:b1≠b20:=Nat.ne_of_lt (Nat.lt_of_lt_of_le hB1.lt hle20)
  have hd2_20:b2≠b20:=Nat.ne_of_lt (Nat.lt_of_lt_of_le hB2.lt hle20)
  replace hA0:=hA0.next hE20
  replace hB1:=hB1.keep hE20
  replace hB2:=hB2.keep hE20
  replace hna:=hna.ext hE20
  replace hxa:=hxa.ext hE20
  replace hnb:=hnb.ext hE20
  replace hxb:=hxb.ext hE20
  simp [go_sem,za0,hB1.cell,hB2.cell,g2,g3,g17,g18,g19,hB20.cell]
  refine zzs (b:=b20) (off:=0) [.int .i64 x.kind,.slice a x.names.length c,.int .i64 x.expr.kind,.string ⟨x.expr.name.toArray⟩,.bool x.expr.neg,.slice ya x.expr.num.length yc,.slice yb x.expr.den.length yd,.slice ye x.expr.args.length yp,.int .i64 x.expr.pos,.int .i64 x.pos] rfl zaJ hB20 (fun w21 hS21 hB21=>?_) (by simp [go_sem,Value.cells,g2,g3,g17,g18,g19,k1,hlt,q1,q2,q3])
  simp [zaw] at hB21
  replace hA0:=hA0.nextS hS21 (by first|exact hb20_0|omega)
  replace hna:=hna.ch (Ch.of_sto hS21 (NL.of_bx hB20 (by intro u hu x e;subst e;simp at hu))) (by intro k hk e;subst e;first|exact hk.2 rfl|omega)
  replace hxa:=hxa.ch (Ch.of_sto hS21 (NL.of_bx hB20 (by intro u hu x e;subst e;simp at hu))) (by intro k hk e;subst e;first|exact hk.2 rfl|omega)
  replace hnb:=hnb.ch (Ch.of_sto hS21 (NL.of_bx hB20 (by intro u hu x e;subst e;simp at hu))) (by intro k hk e;subst e;first|exact hk.2 rfl|omega)
  replace hxb:=hxb.ch (Ch.of_sto hS21 (NL.of_bx hB20 (by intro u hu x e;subst e;simp at hu))) (by intro k hk e;subst e;first|exact hk.2 rfl|omega)
  replace hB1:=hB1.sto hS21 (by first|exact hd1_20|exact (hd20_1).symm)
  replace hB2:=hB2.sto hS21 (by first|exact hd2_20|exact (hd20_2).symm)
  simp [go_sem,za0,hB1.cell,hB2.cell,g2,g3,g17,g18,g19,hB21.cell,k1,hlt,q1,q2,q3]
  apply hK;clear hK K
  obtain ⟨Rb',hRb',p1,p2,_,_⟩:=(h2.ext hA0).row hx
  rw [Option.some.inj (hRb'.symm.trans hRb0),hRb] at p1
  refine zzr fun K hK=>?_
  simp [go_sem,za0,hB1.cell,hB2.cell,g2,g3,g17,g18,g19,hB21.cell, k1,hlt,p1,p2,p3]
  refine zza rfl zbD (fun w30 b30 hE30 hle30 hB30=>?_)
  have hb30_0:=Nat.le_trans hA0.size hle30
  have hd1_30:b1≠b30:=Nat.ne_of_lt (Nat.lt_of_lt_of_le hB1.lt hle30)
  have hd2_30:b2≠b30:=Nat.ne_of_lt (Nat.lt_of_lt_of_le hB2.lt hle30)
  have hd20_30:b20≠b30:=Nat.ne_of_lt (Nat.lt_of_lt_of_le hB21.lt hle30)
  replace hA0:=hA0.next hE30
  replace hB1:=hB1.keep hE30
  replace hB2:=hB2.keep hE30
  replace hB21:=hB21.keep hE30
  replace hna:=hna.ext hE30
  replace hxa:=hxa.ext hE30
  replace hnb:=hnb.ext hE30
  replace hxb:=hxb.ext hE30
  simp [go_sem,za0,hB1.cell,hB2.cell,g2,g3,g17,g18,g19,hB21.cell,hB30.cell]
  have h30:w'.heap.size≤b30:=by have:=hE20.size;have:=hS21.size;omega
  refine zzs (b:=b30) (off:=0) [.int .i64 x.kind,.slice b x.names.length d,.int .i64 x.expr.kind,.string ⟨x.expr.name.toArray⟩,.bool x.expr.neg,.slice za x.expr.num.length zc,.slice zb x.expr.den.length zd,.slice ze x.expr.args.length zp,.int .i64 x.expr.pos,.int .i64 x.pos] rfl zaJ hB30 (fun w31 hS31 hB31=>?_) (by simp [go_sem,Value.cells,g2,g3,g17,g18,g19,k1,hlt,p1,p2,p3])
  simp [zaw] at hB31
  replace hA0:=hA0.nextS hS31 (by first|exact hb30_0|omega)
  replace hna:=hna.ch (Ch.of_sto hS31 (NL.of_bx hB30 (by intro u hu x e;subst e;simp at hu))) (by intro k hk e;subst e;first|exact hk.2 rfl|omega)
  replace hxa:=hxa.ch (Ch.of_sto hS31 (NL.of_bx hB30 (by intro u hu x e;subst e;simp at hu))) (by intro k hk e;subst e;first|exact hk.2 rfl|omega)
  replace hnb:=hnb.ch (Ch.of_sto hS31 (NL.of_bx hB30 (by intro u hu x e;subst e;simp at hu))) (by intro k hk e;subst e;first|exact hk.2 rfl|omega)
  replace hxb:=hxb.ch (Ch.of_sto hS31 (NL.of_bx hB30 (by intro u hu x e;subst e;simp at hu))) (by intro k hk e;subst e;first|exact hk.2 rfl|omega)
  replace hB1:=hB1.sto hS31 (by first|exact hd1_30|exact (hd30_1).symm)
  replace hB2:=hB2.sto hS31 (by first|exact hd2_30|exact (hd30_2).symm)
  replace hB21:=hB21.sto hS31 (by first|exact hd20_30|exact (hd30_20).symm)
  simp [go_sem,za0,hB1.cell,hB2.cell,g2,g3,g17,g18,g19,hB21.cell,hB31.cell,k1,hlt,p1,p2,p3]
  apply hK;clear hK K
  refine zab (fun K5 hK5=>?_)
  refine zzr fun K hK=>?_
  simp [go_sem,za0,hB1.cell,hB2.cell,g2,g3,g17,g18,g19,hB21.cell,hB31.cell,za4,za1]
  refine zzc rfl Tryz.call20 (fun R hR=>?_)
  simp [go_sem,za0,hB1.cell,hB2.cell,g2,g3,g17,g18,g19,hB21.cell,hB31.cell,za4,za1]
  refine (zdX x.expr _ _ _ _ _ hxa hxb).mono ?_
  rintro e w40 ⟨rfl,hE40⟩
  refine ⟨_,rfl,hR _ _ ?_⟩
  clear hR R
  replace hA0:=hA0.next hE40
  replace hB1:=hB1.keep hE40
  replace hB2:=hB2.keep hE40
  replace hB21:=hB21.keep hE40
  replace hB31:=hB31.keep hE40
  replace hna:=hna.ext hE40
  replace hxa:=hxa.ext hE40
  replace hnb:=hnb.ext hE40
  replace hxb:=hxb.ext hE40
  simp [go_sem,za0,hB1.cell,hB2.cell,g2,g3,g17,g18,g19,hB21.cell,hB31.cell,za4,za1]
  apply hK;clear hK K
  refine zaf (t:=false) (by simp [go_sem,g2,g3,g17,g18,g19]) rfl ?_
  refine za7 ?_
  apply hK5
  refine zzr fun K hK=>?_
  simp [go_sem,za0,hB1.cell,hB2.cell,g2,g3,g17,g18,g19,hB21.cell,hB31.cell,za4,za1]
  apply hK;clear hK K
  refine zac ?_
  refine zaz (fun m' g w''=>Below w.heap.size w w''∧Bx w'' b1 #[.slice a1 l.length c1] 38∧Bx w'' b2 #[.slice a2 l.length c2] 38∧Bx w'' b20 #[.int .i64 x.kind,.slice a x.names.length c,.int .i64 x.expr.kind,.string ⟨x.expr.name.toArray⟩,.bool x.expr.neg,.slice ya x.expr.num.length yc,.slice yb x.expr.den.length yd,.slice ye x.expr.args.length yp,.int .i64 x.expr.pos,.int .i64 x.pos] 64∧Bx w'' b30 #[.int .i64 x.kind,.slice b x.names.length d,.int .i64 x.expr.kind,.string ⟨x.expr.name.toArray⟩,.bool x.expr.neg,.slice za x.expr.num.length zc,.slice zb x.expr.den.length zd,.slice ze x.expr.args.length zp,.int .i64 x.expr.pos,.int .i64 x.pos] 64∧NmS w'' (fun k=>k<w'.heap.size) a x.names∧NmS w'' (fun k=>k<w'.heap.size) b x.names∧∃ q:Nat,q≤x.names.length∧m'=x.names.length-q∧g 2 = .pointer (some ⟨b1,0,none⟩)∧g 3 = .pointer (some ⟨b2,0,none⟩)∧g 6 = .pointer (some ⟨b20,0,none⟩)∧g 7 = .pointer (some ⟨b30,0,none⟩)∧g 17 = .slice a1 l.length c1∧g 18 = .int .i64 l.length∧g 19 = .int .i64 j∧g 53 = .int .i64 x.names.length∧g 54 = .int .i64 q) x.names.length ?_ ?_
  ·exact ⟨hA0,hB1,hB2,hB21,hB31,hna,hnb,0,by omega,rfl,by simp [go_sem,g2],by simp [go_sem,g3],by simp [go_sem],by simp [go_sem],by simp [go_sem,g17],by simp [go_sem,g18],by simp [go_sem,g19],by simp [go_sem],by simp [go_sem]⟩
  have hml:=hna.max
  unfold maxLen at hml
  clear hA0 hB1 hB2 hB21 hB31 hna hnb hxa hxb p1 p2 p3 q1 q2 q3 g2 g3 g17 g18 g19
  rintro m' g w'' ⟨hA0,hB1,hB2,hB20,hB30,hna,hnb,q,hq,rfl,g2,g3,g6,g7,g17,g18,g19,g53,g54⟩
  by_cases hlq:q<x.names.length
  ·have k2:(q:Int)<x.names.length:=by omega
   have hw2:IntKind.i64.wrap ((q:Int)+1)=(q+1:Nat):=zzw (by omega)
   obtain ⟨u1,u2⟩:=(hna.ext (Below.drew1 _)).at hlq
   obtain ⟨v1,v2⟩:=(hnb.ext (Below.drew1 _)).at hlq
   generalize x.names.getD q []=z at u1 v1
   refine zzr fun K hK=>?_
   simp [go_sem,za0,g2,g3,g17,g18,g19,za4,za1,hB1.cell,hB2.cell,hB20.cell,hB30.cell,g6,g7,g53,g54, k2,hlq]
   apply hK;clear hK K
   refine zab (fun K6 hK6=>?_)
   refine zaf (t:=true) (by simp [go_sem,g2,g3,g17,g18,g19,g6,g7,g53,g54,k2,hlq]) rfl ?_
   refine za7 ?_
   apply hK6
   refine zab (fun K7 hK7=>?_)
   refine zac ?_
   refine zzr fun K hK=>?_
   simp [go_sem,za0,g2,g3,g17,g18,g19,za4,za1,hB1.cell,hB2.cell,hB20.cell,hB30.cell,g6,g7,g53,g54]
   apply hK;clear hK K
   have hD41:=Below.drew1 w''
   replace hA0:=hA0.next hD41
   replace hB1:=hB1.keep hD41
   replace hB2:=hB2.keep hD41
   replace hB20:=hB20.keep hD41
   replace hB30:=hB30.keep hD41
   replace hna:=hna.ext hD41
   replace hnb:=hnb.ext hD41
   refine W_rd [(0,0),(1,0),(2,0),(3,0),(4,0),(5,0),(6,0),(7,0),(8,0),(9,0),(10,0)] (by kernel_rfl) (by kernel_rfl) (fun K hK=>?_)
   simp [go_sem,za0,g2,g3,g17,g18,g19,za4,za1,hB1.cell,hB2.cell,hB20.cell,hB30.cell,g6,g7,g53,g54, k2,hlq,u1,u2,v1,v2]
   apply hK;clear hK K
   refine zaf (t:=false) (by simp [go_sem,g2,g3,g17,g18,g19,g6,g7,g53,g54]) rfl ?_
   refine za7 ?_
   apply hK7
   refine zzt fun K hK=>?_
   simp [go_sem,g54,hw2]
   refine hK _ _ ⟨x.names.length-(q+1),by omega,hA0,hB1,hB2,hB20,hB30,hna,hnb,q+1,by omega,rfl,by simp [go_sem,g2],by simp [go_sem,g3],by simp [go_sem,g6],by simp [go_sem,g7],by simp [go_sem,g17],by simp [go_sem,g18],by simp [go_sem,g19],by simp [go_sem,g53],by simp [go_sem]⟩
  ·have k2:¬(q:Int)<x.names.length:=by omega
   refine zzr fun K hK=>?_
   simp [go_sem,za0,g2,g3,g17,g18,g19,za4,za1,hB1.cell,hB2.cell,hB20.cell,hB30.cell,g6,g7,g53,g54, k2,hlq]
   apply hK;clear hK K
   refine zab (fun K6 hK6=>?_)
   refine zaf (t:=false) (by simp [go_sem,g2,g3,g17,g18,g19,g6,g7,g53,g54,k2,hlq]) rfl ?_
   refine zav ?_
   repeat (first|refine zae ?_|refine za6 rfl ?_|refine za8 ?_)
   apply hK4
   refine zzt fun K hK=>?_
   simp [go_sem,g19,hw1]
   refine hK _ _ ⟨l.length-(j+1),by omega,hA0,hB1,hB2,j+1,by omega,rfl,by simp [go_sem,g2],by simp [go_sem,g3],by simp [go_sem,g17],by simp [go_sem,g18],by simp [go_sem]⟩
 ·have k1:¬(j:Int)<l.length:=by omega
  refine zzr fun K hK=>?_
  simp [go_sem,za0,za4,za1,hB1.cell,hB2.cell,g2,g3,g17,g18,g19, k1,hlt]
  apply hK;clear hK K
  refine zab (fun K3 hK3=>?_)
  refine zaf (t:=false) (by simp [go_sem,g2,g3,g17,g18,g19,k1,hlt]) rfl ?_
  refine zav ?_
  repeat (first|refine zae ?_|refine za6 rfl ?_|refine za8 ?_)
  apply hK2
  refine zzr fun K hK=>?_
  simp [go_sem,za0,za4,za1,hB1.cell,hB2.cell,g2,g3,g17,g18,g19]
  apply hK;clear hK K
  refine zad ?_
  repeat first|refine za3 ?_|refine za2 ?_
  refine ⟨trivial,?_,hA0⟩
  simp [go_sem,zar,zam]
theorem SXS.at {w:World} {F:Nat→Prop} {ad:Option Addr} {xs:List Stm} {rows:List (List Value)} (h:SXS w F ad xs rows) {i:Nat} {x:Stm} (hx:xs[i]? = some x) :
  ∃ (lb lo:Nat) (E:List Value),ad=some ⟨lb,lo,none⟩∧w.cell? ⟨lb,lo+i*10+9,none⟩=some (.int .i64 x.pos)∧za4 w ⟨lb,lo+i*10+2,none⟩ 0 7=E∧za1 w ⟨lb,lo+i*10+2,none⟩ 0 7∧EX w F E x.expr:=by
 have hi:i<rows.length:=by rw [h.rs.len];exact (List.getElem?_eq_some_iff.1 hx).1
 obtain ⟨R,hR⟩:∃ R,rows[i]? = some R:=⟨_,List.getElem?_eq_getElem hi⟩
 have hall:=h.rs.all
 have hfl:=zd4 hall
 have hrow:=zdz hall hR
 have hle:i*10+2+7≤rows.flatten.length:=by rw [hfl];omega
 obtain ⟨q1,q2,q3⟩:=h.sl.row (i*10+2) 7 hle (by decide)
 obtain ⟨a,c,E,hRE,hn,hE⟩:=h.rs.he i R x hR hx
 have hEl:=hE.len
 have h2:(rows.flatten.drop (i*10+2)).take 7=E:=by
  have e1:(rows.flatten.drop (i*10+2)).take 7=((((rows.flatten.drop (i*10)).take 10).drop 2).take 7):=by
   rw [List.drop_take,List.drop_drop,List.take_take];rfl
  rw [e1,hrow,hRE]
  simp [List.take_append_of_le_length,hEl]
 have h9:rows.flatten[i*10+9]? = some (.int .i64 x.pos):=by
  have h4:((rows.flatten.drop (i*10)).take 10)[9]? = some (.int .i64 x.pos):=by
   rw [hrow,hRE,List.getElem?_cons_succ,List.getElem?_cons_succ,List.getElem?_append_right (by omega),hEl];rfl
  rwa [List.getElem?_take_of_lt (by decide),List.getElem?_drop] at h4
 rcases h.sl with h0|⟨lb,lo,e,hc⟩
 ·rw [h0] at hle;simp at hle
 ·subst e
  simp only [Option.getD_some,za0] at q1 q2
  refine ⟨lb,lo,E,rfl,?_,?_,?_,hE⟩
  ·have:=hc _ _ h9
   rwa [←Nat.add_assoc] at this
  ·rw [←h2,←q1,←Nat.add_assoc]
  ·rw [←Nat.add_assoc] at q2;exact q2
theorem sameProg_any (l:List Stm) (w:World) (F1 F2:Nat→Prop) (a1 a2:Option Addr) (c1 c2:Nat) (rows1 rows2:List (List Value)) (h1:SXS w F1 a1 l rows1) (h2:SXS w F2 a2 l rows2) :
  Calls Tryz.prog 10 #[.agg #[.slice a1 l.length c1],.agg #[.slice a2 l.length c2]] w fun e w'=>e = .returned (.bool true)∧Below w.heap.size w w':=by
 have hal:=h1.max
 unfold maxLen at hal
 refine za5 (rs:=[.tmp 4]) (n:=46) Tryz.func10 rfl rfl rfl (by kernel_rfl) ?_
 have hA0:=Below.refl w.heap.size w
 refine zzr fun K hK=>?_
 simp [go_sem,za0,za4,za1]
 refine zbF #[.slice a1 l.length c1] (by simp [go_sem,za0,za4,za1]) rfl (by simp [go_sem,Value.cells,za0,za4,za1]) (fun w1 b1 hE1 hle1 hB1=>?_)
 have hb1_0:=Nat.le_trans hA0.size hle1
 replace hA0:=hA0.next hE1
 simp [go_sem,za0,za4,za1,hB1.cell]
 refine zbF #[.slice a2 l.length c2] (by simp [go_sem,za0,za4,za1,hB1.cell]) rfl (by simp [go_sem,Value.cells,za0,za4,za1,hB1.cell]) (fun w2 b2 hE2 hle2 hB2=>?_)
 have hb2_0:=Nat.le_trans hA0.size hle2
 have hd1_2:b1≠b2:=Nat.ne_of_lt (Nat.lt_of_lt_of_le hB1.lt hle2)
 replace hA0:=hA0.next hE2
 replace hB1:=hB1.keep hE2
 simp [go_sem,za0,za4,za1,hB1.cell,hB2.cell]
 apply hK;clear hK K
 refine zab (fun K1 hK1=>?_)
 refine zzr fun K hK=>?_
 simp [go_sem,za0,za4,za1,hB1.cell,hB2.cell]
 refine zzc rfl Tryz.call23 (fun R hR=>?_)
 simp [go_sem,za0,za4,za1,hB1.cell,hB2.cell]
 refine (equalProg_any l _ _ _ _ _ _ _ _ _ (h1.ext hA0) (h2.ext hA0)).mono ?_
 rintro e w3 ⟨rfl,hE3⟩
 refine ⟨_,rfl,hR _ _ ?_⟩
 clear hR R
 replace hA0:=hA0.next hE3
 replace hB1:=hB1.keep hE3
 replace hB2:=hB2.keep hE3
 simp [go_sem,za0,za4,za1,hB1.cell,hB2.cell]
 apply hK;clear hK K
 refine zaf (t:=false) (by simp [go_sem]) rfl ?_
 refine za7 ?_
 apply hK1
 refine zab (fun K2 hK2=>?_)
 refine zzr fun K hK=>?_
 simp [go_sem,za0,za4,za1,hB1.cell,hB2.cell]
 apply hK;clear hK K
 refine zac ?_
 refine zaz (fun m' g w'=>Below w.heap.size w w'∧Bx w' b1 #[.slice a1 l.length c1] 38∧Bx w' b2 #[.slice a2 l.length c2] 38∧∃ j:Nat,j≤l.length∧m'=l.length-j∧g 2 = .pointer (some ⟨b1,0,none⟩)∧g 3 = .pointer (some ⟨b2,0,none⟩)∧g 12 = .int .i64 l.length∧g 13 = .int .i64 j) l.length ?_ ?_
 ·exact ⟨hA0,hB1,hB2,0,by omega,rfl,by simp [go_sem],by simp [go_sem],by simp [go_sem],by simp [go_sem]⟩
 clear hA0 hB1 hB2
 rintro m' g w' ⟨hA0,hB1,hB2,j,hj,rfl,g2,g3,g12,g13⟩
 by_cases hlt:j<l.length
 ·have k1:(j:Int)<l.length:=by omega
  have hw1:IntKind.i64.wrap ((j:Int)+1)=(j+1:Nat):=zzw (by omega)
  obtain ⟨x,hx⟩:∃ x,l[j]? = some x:=⟨_,List.getElem?_eq_getElem hlt⟩
  have hAd:=hA0.next (Below.drew1 w')
  obtain ⟨lb,lo,Ea,e1,q1,q2,q3,q4⟩:=(h1.ext hAd).at hx
  obtain ⟨mb,mo,Eb,e2,p1,p2,p3,p4⟩:=(h2.ext hAd).at hx
  subst e1;subst e2
  have hrec:=sameExpr_any x.expr w'.drew _ _ Ea Eb q4 p4
  refine zzr fun K hK=>?_
  simp [go_sem,za0,za4,za1,hB1.cell,hB2.cell,g2,g3,g12,g13, k1,hlt]
  apply hK;clear hK K
  refine zab (fun K3 hK3=>?_)
  refine zaf (t:=true) (by simp [go_sem,g2,g3,g12,g13,k1,hlt]) rfl ?_
  refine za7 ?_
  apply hK3
  refine zab (fun K4 hK4=>?_)
  refine zac ?_
  refine zzr fun K hK=>?_
  simp [go_sem,za0,za4,za1,hB1.cell,hB2.cell,g2,g3,g12,g13]
  apply hK;clear hK K
  have hD4:=Below.drew1 w'
  replace hA0:=hA0.next hD4
  replace hB1:=hB1.keep hD4
  replace hB2:=hB2.keep hD4
  refine W_rd [(0,0),(1,0),(2,0),(3,0),(4,0),(5,0),(6,0),(7,0),(8,0),(9,0),(10,0),(11,0),(12,0),(13,0),(14,0),(15,0),(16,0),(17,0),(18,0),(19,0),(20,0),(21,0),(22,0),(23,0),(24,0),(25,0),(26,1),(27,0),(28,0)] (by kernel_rfl) (by kernel_rfl) (fun K hK=>?_)
  simp [go_sem,za0,hB1.cell,hB2.cell,g2,g3,g12,g13, k1,hlt,q1,q2,q3,p1,p2,p3]
  refine zzc rfl Tryz.call7 (fun R hR=>?_)
  simp [go_sem,za0,hB1.cell,hB2.cell,g2,g3,g12,g13,za4,za1,k1,hlt]
  refine (hrec).mono ?_
  rintro e w5 ⟨rfl,hE5⟩
  refine ⟨_,rfl,(by assumption),hR _ _ ?_⟩
  clear hR R
  replace hA0:=hA0.next hE5
  replace hB1:=hB1.keep hE5
  replace hB2:=hB2.keep hE5
  simp [go_sem,za0,hB1.cell,hB2.cell,g2,g3,g12,g13,za4,za1,k1,hlt]
  apply hK;clear hK K
  refine zaf (t:=false) (by simp [go_sem,g2,g3,g12,g13]) rfl ?_
  refine za7 ?_
  apply hK4
  refine zzt fun K hK=>?_
  simp [go_sem,g13,hw1]
  refine hK _ _ ⟨l.length-(j+1),by omega,hA0,hB1,hB2,j+1,by omega,rfl,by simp [go_sem,g2],by simp [go_sem,g3],by simp [go_sem,g12],by simp [go_sem]⟩
 ·have k1:¬(j:Int)<l.length:=by omega
  refine zzr fun K hK=>?_
  simp [go_sem,za0,za4,za1,hB1.cell,hB2.cell,g2,g3,g12,g13, k1,hlt]
  apply hK;clear hK K
  refine zab (fun K3 hK3=>?_)
  refine zaf (t:=false) (by simp [go_sem,g2,g3,g12,g13,k1,hlt]) rfl ?_
  refine zav ?_
  repeat (first|refine zae ?_|refine za6 rfl ?_|refine za8 ?_)
  apply hK2
  refine zzr fun K hK=>?_
  simp [go_sem,za0,za4,za1,hB1.cell,hB2.cell,g2,g3,g12,g13]
  apply hK;clear hK K
  refine zad ?_
  repeat first|refine za3 ?_|refine za2 ?_
  refine ⟨trivial,?_,hA0⟩
  simp [go_sem,zar,zam]
end Go.Proofs.YtefhenfofomjhaaGreat
