/- The specification's parser stays within the tokens. -/
import Derived.Test.YtefhenfofomjhaaGreatRw4
import Derived.Test.YtefhenfofomjhaaGreatLx3
import Derived.Test.YtefhenfofomjhaaGreatVF
set_option linter.unusedSimpArgs false
set_option linter.unusedVariables false
namespace Go.Proofs.YtefhenfofomjhaaGreat
open Go Go.RowKit Go.V
set_option maxRecDepth 20000
set_option maxHeartbeats 1000000 in
theorem rnum_any (t:Tok) (h0:qrE t.t=0) (hl:t.t.length≤20000) (w:World):Calls Tryz.prog 83 #[.agg (zbH t).toArray] w fun e w'=>∃ a c a' c',e = .returned (.agg #[.bool (qR3 (qrV t.t)).1,.slice a (qR3 (qrV t.t)).2.1.length c,.slice a' (qR3 (qrV t.t)).2.2.length c'])∧RV w' (qR3 (qrV t.t)) (.agg #[.bool (qR3 (qrV t.t)).1,.slice a (qR3 (qrV t.t)).2.1.length c,.slice a' (qR3 (qrV t.t)).2.2.length c'])∧qS (qR3 (qrV t.t)) 1005∧Below w.heap.size w w':=by
 refine za7 (args:=[.agg #[.int .i64 t.k,.int .i64 t.p,.int .i64 t.e,.string ⟨t.t.toArray⟩]]) (rs:=[.cell 2 27]) (n:=12) Tryz.func83 rfl rfl rfl (by kernel_rfl) ?_
 have hA0:=Below.refl w.heap.size w
 first|refine zzr fun K hK=>?_|refine zzt fun K hK=>?_
 simp [go_sem,za0,za4,za1]
 refine zc5 #[.int .i64 t.k,.int .i64 t.p,.int .i64 t.e,.string ⟨t.t.toArray⟩] (by simp [go_sem,za0,za4,za1]) rfl (by simp [go_sem,Value.cells,za0,za4,za1]) (fun w1 b1 hE1 hle1 hB1=>?_)
 have hb1_0:=Nat.le_trans hA0.size hle1
 replace hA0:=hA0.next hE1
 simp [go_sem,za0,za4,za1,hB1.cell]
 refine zam (by simp [go_sem,za0,za4,za1,hB1.cell]) rfl zb5 (fun w2 b2 hE2 hle2 hB2=>?_)
 have hb2_0:=Nat.le_trans hA0.size hle2
 have hd1_2:b1≠b2:=Nat.ne_of_lt (Nat.lt_of_lt_of_le hB1.lt hle2)
 replace hA0:=hA0.next hE2
 replace hB1:=hB1.keep hE2
 simp [go_sem,za0,za4,za1,hB1.cell,hB2.cell]
 refine hK _ _ ?_;clear hK K
 first|refine zzr fun K hK=>?_|refine zzt fun K hK=>?_
 simp [go_sem,za0,za4,za1,hB1.cell,hB2.cell]
 refine za5 (by simp [go_sem,za0,za4,za1,hB1.cell,hB2.cell]) rfl Tryz.call99 (fun R hR=>?_)
 simp [go_sem,za0,za4,za1,hB1.cell,hB2.cell]
 refine (readRq_any t.t _ hl h0).mono ?_
 rintro e w3 ⟨v,rfl,⟨a,c,a',c',rfl,r1,r2⟩,hqs,hE3⟩
 refine ⟨_,rfl,hR _ _ ?_⟩
 clear hR R
 replace hA0:=hA0.next hE3
 replace hB1:=hB1.keep hE3
 replace hB2:=hB2.keep hE3
 have hv:RV w3 (qR3 (qrV t.t)) _:=⟨a,c,a',c',rfl,r1,r2⟩
 simp [go_sem,za0,za4,za1,hB1.cell,hB2.cell]
 refine zam (by simp [go_sem,za0,za4,za1,hB1.cell,hB2.cell]) rfl zb5 (fun w4 b4 hE4 hle4 hB4=>?_)
 have hb4_0:=Nat.le_trans hA0.size hle4
 have hd1_4:b1≠b4:=Nat.ne_of_lt (Nat.lt_of_lt_of_le hB1.lt hle4)
 have hd2_4:b2≠b4:=Nat.ne_of_lt (Nat.lt_of_lt_of_le hB2.lt hle4)
 replace hA0:=hA0.next hE4
 replace hB1:=hB1.keep hE4
 replace hB2:=hB2.keep hE4
 replace hv:=hv.ext hE4
 simp [go_sem,za0,za4,za1,hB1.cell,hB2.cell,hB4.cell]
 refine za6 (b:=b4) (off:=0) [.bool (qR3 (qrV t.t)).1,.slice a (qR3 (qrV t.t)).2.1.length c,.slice a' (qR3 (qrV t.t)).2.2.length c'] (by simp [go_sem,za0,za4,za1,hB1.cell,hB2.cell,hB4.cell]) rfl (by simp [go_sem,za0,za4,za1,hB1.cell,hB2.cell,hB4.cell]) (by simp [go_sem,Value.cells,za0,za4,za1,hB1.cell,hB2.cell,hB4.cell]) zax hB4 (by simp) (by simp [Value.oneCell']) (by decide) (fun w5 hS5 hB5=>?_)
 simp [zaD] at hB5
 replace hA0:=hA0.nextS hS5 (by first|exact hb4_0|omega)
 replace hv:=hv.ch (Ch.of_sto hS5 (NL.of_bx hB4 (by intro u hu x e;subst e;simp at hu)))
 replace hB1:=hB1.sto hS5 (by first|exact hd1_4|exact (hd4_1).symm)
 replace hB2:=hB2.sto hS5 (by first|exact hd2_4|exact (hd4_2).symm)
 simp [go_sem,za0,za4,za1,hB1.cell,hB2.cell,hB5.cell]
 refine hK _ _ ?_;clear hK K
 first|refine zzr fun K hK=>?_|refine zzt fun K hK=>?_
 simp [go_sem,za0,za4,za1,hB1.cell,hB2.cell,hB5.cell]
 refine za6 (b:=b2) (off:=0) [.bool (qR3 (qrV t.t)).1,.slice a (qR3 (qrV t.t)).2.1.length c,.slice a' (qR3 (qrV t.t)).2.2.length c'] (by simp [go_sem,za0,za4,za1,hB1.cell,hB2.cell,hB5.cell]) rfl (by simp [go_sem,za0,za4,za1,hB1.cell,hB2.cell,hB5.cell]) (by simp [go_sem,Value.cells,za0,za4,za1,hB1.cell,hB2.cell,hB5.cell]) zax hB2 (by simp) (by simp [Value.oneCell']) (by decide) (fun w6 hS6 hB6=>?_)
 simp [zaD] at hB6
 replace hA0:=hA0.nextS hS6 (by first|exact hb2_0|omega)
 replace hv:=hv.ch (Ch.of_sto hS6 (NL.of_bx hB2 (by intro u hu x e;subst e;simp at hu)))
 replace hB1:=hB1.sto hS6 (by first|exact hd1_2|exact (hd2_1).symm)
 replace hB5:=hB5.sto hS6 (by first|exact hd4_2|exact (hd2_4).symm)
 simp [go_sem,za0,za4,za1,hB1.cell,hB5.cell,hB6.cell]
 refine hK _ _ ?_;clear hK K
 refine zaf ?_
 repeat (first|refine za3 ?_|refine za2 ?_)
 refine ⟨by simp [go_sem,zaO,zas,za4,za1,za0,hB6.cell],a,c,a',c',?_,hv,hqs,hA0⟩
 simp [go_sem,zat,zas,za4,za1,za0,hB6.cell]
def resQ:Res Rat→R3
 | .ok x _=>qR3 x
 | .er _ _=>r30
def RatPost (w:World) (r:Res Rat) (e:Ending) (w':World):Prop:=∃ (a a':Option Addr) (c c':Nat),e = .returned (.tuple #[.agg #[.bool (resQ r).1,.slice a (resQ r).2.1.length c,.slice a' (resQ r).2.2.length c'],.int .i64 (zcF r),.int .i64 (zdk r)])∧RV w' (resQ r) (.agg #[.bool (resQ r).1,.slice a (resQ r).2.1.length c,.slice a' (resQ r).2.2.length c'])∧qS (resQ r) 200000∧Below w.heap.size w w'
theorem zck {w:World} {lb lo:Nat} {T:List Tok} (hsl:SL w (some ⟨lb,lo,none⟩) (zc9 T)) {i:Nat} (hi:i<T.length):w.cell? ⟨lb,lo+i*4,none⟩=some (.int .i64 (zan T i).k)∧w.cell? ⟨lb,lo+i*4+1,none⟩=some (.int .i64 (zan T i).p)∧w.cell? ⟨lb,lo+i*4+3,none⟩=some (.string ⟨(zan T i).t.toArray⟩):=by
 obtain ⟨b,o,e,h⟩:=toks_len hsl hi
 injection e with e
 injection e with e1 e2
 subst e1;subst e2
 exact h
theorem rat_row {w:World} {b t:Nat} {x y z:Value} (h:Bx w b #[x,y,z] t):za4 w ⟨b,0,none⟩ 0 3=[x,y,z]∧za1 w ⟨b,0,none⟩ 0 3:=by
 refine ⟨?_,?_⟩
 ·simp [za4,cellV,za0,h.cell]
 ·simp [za1,za0,h.cell]
theorem qS_neg {x:Rat} {s:Nat} (h:qS (qR3 x) s):qS (qR3 (-x)) s:=by
 have e1:(-x).num.natAbs=x.num.natAbs:=by rw [Rat.neg_num,Int.natAbs_neg]
 have e2:(-x).den=x.den:=Rat.neg_den ..
 unfold qR3
 unfold qS
 simp only [e1,e2]
 exact h
set_option maxHeartbeats 4000000 in
theorem rratio_any {w:World} {la:Option Addr} {cap:Nat} {T:List Tok} (hsl:SL w la (zc9 T)) (hW:Wf T) (i:Nat) (hi:i<T.length) :
  Calls Tryz.prog 65 #[.slice la T.length cap,.int .i64 i] w (RatPost w (ratS T i)):=by
 have hT:T.length≤20001:=hW.size
 obtain ⟨R,hR⟩:∃ R,R=ratS T i:=⟨_,rfl⟩
 rw [←hR]
 unfold ratS at hR
 obtain ⟨lb,lo,rfl,_⟩:=toks_len hsl hi
 refine za7 (args:=[.slice (some ⟨lb,lo,none⟩) T.length cap,.int .i64 i]) (rs:=[.cell 4 27,.tmp 5,.tmp 6]) (n:=84) Tryz.func65 rfl rfl rfl (by kernel_rfl) ?_
 have hA0:=Below.refl w.heap.size w
 first|refine zzr fun K hK=>?_|refine zzt fun K hK=>?_
 simp [go_sem,za0,za4,za1]
 refine zam (by simp [go_sem,za0,za4,za1]) rfl zb5 (fun w1 b1 hE1 hle1 hB1=>?_)
 have hb1_0:=Nat.le_trans hA0.size hle1
 replace hA0:=hA0.next hE1
 simp [go_sem,za0,za4,za1,hB1.cell]
 refine hK _ _ ?_;clear hK K
 first|refine zzr fun K hK=>?_|refine zzt fun K hK=>?_
 simp [go_sem,za0,za4,za1,hB1.cell]
 refine za5 (by simp [go_sem,za0,za4,za1,hB1.cell]) rfl Tryz.call47 (fun R hR=>?_)
 simp [go_sem,za0,za4,za1,hB1.cell]
 refine (rexpect_any (hsl.ext hA0) hT i hi sCM).mono ?_
 rintro e w2 ⟨rfl,hE2⟩
 refine ⟨_,rfl,hR _ _ ?_⟩
 clear hR R
 replace hA0:=hA0.next hE2
 replace hB1:=hB1.keep hE2
 simp [go_sem,za0,za4,za1,hB1.cell]
 refine hK _ _ ?_;clear hK K
 refine zac (fun K1 hK1=>?_)
 rcases zcS (T:=T) sCM i 0 with ⟨e1,_⟩|⟨e1,_⟩
 ·rw [e1] at hR ⊢
  simp only at hR
  have hk0:(zan T i).k≠0:=by
   intro h;unfold expS at e1;rw [if_pos (.inl h)] at e1;cases e1
  have hj:=hW.next hi hk0
  have hj':((i+1:Nat):Int)<T.length:=by omega
  obtain ⟨j,hje⟩:∃ j,j=i+1:=⟨_,rfl⟩
  rw [←hje] at hj hj' hR ⊢
  first|refine zzr fun K hK=>?_|refine zzt fun K hK=>?_
  simp [go_sem,za0,za4,za1,hB1.cell, zcF,zdk]
  refine hK _ _ ?_;clear hK K
  refine zai (t:=false) (by simp [go_sem,za0,za4,za1,hB1.cell, zcF,zdk]) rfl ?_
  refine zaa ?_
  refine hK1 _ _ ?_
  obtain ⟨c0,c1,c3⟩:=zck (hsl.ext hA0) hj
  first|refine zzr fun K hK=>?_|refine zzt fun K hK=>?_
  simp [go_sem,za0,za4,za1,hB1.cell, hj,hj',c0,c1,c3]
  refine hK _ _ ?_;clear hK K
  refine zac (fun K2 hK2=>?_)
  have tail:∀ (g:G) (w9:World) (neg:Bool) (j:Nat),j<T.length→ratS1 T neg j=R→g 0 = .slice (some ⟨lb,lo,none⟩) T.length cap→g 1 = .int .i64 j→g 4 = .pointer (some ⟨b1,0,none⟩)→g 8 = .bool neg→Below w.heap.size w w9→Bx w9 b1 #[.bool false,.slice none 0 0,.slice none 0 0] 27→K2 g w9:=by
   clear hA0 hB1 hR c0 c1 c3 hj hj'
   intro g w9 neg j hj hR g0 g1 g4 g8 hA0 hB1
   unfold ratS1 at hR
   have hj':(j:Int)<T.length:=by omega
   obtain ⟨c0,c1,c3⟩:=zck (hsl.ext hA0) hj
   refine hK2 _ _ ?_
   refine zac (fun K3 hK3=>?_)
   by_cases h2:(zan T j).k=2
   ·have h2':((zan T j).k:Int)=2:=by omega
    rw [if_neg (fun h=>h h2)] at hR
    have hj1:=hW.next hj (show (zan T j).k≠0 by rw [h2];decide)
    have hw1:IntKind.i64.wrap ((j:Int)+1)=(j+1:Nat):=by rw [IntWalk.i64_in _ (by omega)];omega
    obtain ⟨r1,r2,_⟩:=zdq (hsl.ext hA0) hj
    simp only [Option.getD_some,za0] at r1 r2
    first|refine zzr fun K hK=>?_|refine zzt fun K hK=>?_
    simp [go_sem,za0,za4,za1,hB1.cell,g0,g1,g4,g8, hj,hj',c0,c1,c3,h2']
    refine hK _ _ ?_;clear hK K
    refine zai (t:=false) (by simp [go_sem,za0,za4,za1,hB1.cell,g0,g1,g4,g8, h2']) rfl ?_
    refine zaa ?_
    refine hK3 _ _ ?_
    first|refine zzr fun K hK=>?_|refine zzt fun K hK=>?_
    simp [go_sem,za0,hB1.cell,g0,g1,g4,g8, hj,hj',r1,r2]
    obtain ⟨x,hx⟩:∃ x,x=qrV (zan T j).t:=⟨_,rfl⟩
    have hnum:=rnum_any (zan T j) (hW.num j h2) (hW.len j)
    rw [←hx] at hnum hR
    refine za5 (by simp [go_sem,za0,hB1.cell,g0,g1,g4,g8,r1,r2]) rfl Tryz.call83 (fun R hR=>?_)
    simp [go_sem,za0,hB1.cell,g0,g1,g4,g8,r1,r2]
    refine (hnum _).mono ?_
    rintro e w20 ⟨a,c,a',c',rfl,hv,hqs,hE20⟩
    refine ⟨_,rfl,hR _ _ ?_⟩
    clear hR R
    replace hA0:=hA0.next hE20
    replace hB1:=hB1.keep hE20
    simp [go_sem,za0,hB1.cell,g0,g1,g4,g8]
    refine zam (by simp [go_sem,za0,hB1.cell,g0,g1,g4,g8]) rfl zb5 (fun w30 b30 hE30 hle30 hB30=>?_)
    have hb30_0:=Nat.le_trans hA0.size hle30
    have hd1_30:b1≠b30:=Nat.ne_of_lt (Nat.lt_of_lt_of_le hB1.lt hle30)
    replace hA0:=hA0.next hE30
    replace hB1:=hB1.keep hE30
    replace hv:=hv.ext hE30
    simp [go_sem,za0,hB1.cell,g0,g1,g4,g8,hB30.cell]
    refine za6 (b:=b30) (off:=0) [.bool (qR3 x).1,.slice a (qR3 x).2.1.length c,.slice a' (qR3 x).2.2.length c'] (by simp [go_sem,za0,hB1.cell,g0,g1,g4,g8,hB30.cell]) rfl (by simp [go_sem,za0,hB1.cell,g0,g1,g4,g8,hB30.cell]) (by simp [go_sem,Value.cells,za0,hB1.cell,g0,g1,g4,g8,hB30.cell]) zax hB30 (by simp) (by simp [Value.oneCell']) (by decide) (fun w31 hS31 hB31=>?_)
    simp [zaD] at hB31
    replace hA0:=hA0.nextS hS31 (by first|exact hb30_0|omega)
    replace hv:=hv.ch (Ch.of_sto hS31 (NL.of_bx hB30 (by intro u hu x e;subst e;simp at hu)))
    replace hB1:=hB1.sto hS31 (by first|exact hd1_30|exact (hd30_1).symm)
    simp [go_sem,za0,hB1.cell,g0,g1,g4,g8,hB31.cell]
    refine hK _ _ ?_;clear hK K
    refine zac (fun K4 hK4=>?_)
    have tail3:∀ (g:G) (w9:World) (X:Rat) (a a':Option Addr) (c c':Nat),ratS2 T X (j+1)=R→g 0 = .slice (some ⟨lb,lo,none⟩) T.length cap→g 1 = .int .i64 j→g 4 = .pointer (some ⟨b1,0,none⟩)→g 9 = .pointer (some ⟨b30,0,none⟩)→Below w.heap.size w w9→Bx w9 b1 #[.bool false,.slice none 0 0,.slice none 0 0] 27→Bx w9 b30 #[.bool (qR3 X).1,.slice a (qR3 X).2.1.length c,.slice a' (qR3 X).2.2.length c'] 27→RV w9 (qR3 X) (.agg #[.bool (qR3 X).1,.slice a (qR3 X).2.1.length c,.slice a' (qR3 X).2.2.length c'])→qS (qR3 X) 10000→K4 g w9:=by
     clear hA0 hB1 hB31 hR c0 c1 c3 r1 r2 hv hqs hx hnum g0 g1 g4 g8
     intro g w9 X a a' c c' hR g0 g1 g4 g9 hA0 hB1 hB30 hv hqs
     unfold ratS2 at hR
     obtain ⟨m,hm⟩:∃ m,m=j+1:=⟨_,rfl⟩
     rw [←hm] at hj1 hR hw1
     have hj1':(m:Int)<T.length:=by omega
     refine hK4 _ _ ?_
     first|refine zzr fun K hK=>?_|refine zzt fun K hK=>?_
     simp [go_sem,za0,g0,g1,g4,za4,za1,hB1.cell,hB30.cell,g9, hw1]
     refine hK _ _ ?_;clear hK K
     refine zac (fun K5 hK5=>?_)
     obtain ⟨c0,c1,c3⟩:=zck (hsl.ext hA0) hj1
     by_cases hs:(zan T m).t=[47]
     ·rw [if_neg (show ¬((zan T m).t≠sSL) from fun h=>h hs)] at hR
      have hmk:(zan T m).k≠0:=fun h=>by have:=hW.text m h;rw [hs] at this;cases this
      have hm1:=hW.next hj1 hmk
      obtain ⟨q,hq⟩:∃ q,q=m+1:=⟨_,rfl⟩
      rw [←hq] at hR hm1
      have hm1':(q:Int)<T.length:=by omega
      have hw2:IntKind.i64.wrap ((m:Int)+1)=(q:Int):=by rw [IntWalk.i64_in _ (by omega)];omega
      first|refine zzr fun K hK=>?_|refine zzt fun K hK=>?_
      simp [go_sem,za0,g0,g1,g4,za4,za1,hB1.cell,hB30.cell,g9, hj1,hj1',c0,c1,c3,hs]
      refine hK _ _ ?_;clear hK K
      refine zai (t:=false) (by simp [go_sem,za0,g0,g1,g4,za4,za1,hB1.cell,hB30.cell,g9, hs]) rfl ?_
      refine zaa ?_
      refine hK5 _ _ ?_
      first|refine zzr fun K hK=>?_|refine zzt fun K hK=>?_
      simp [go_sem,za0,g0,g1,g4,za4,za1,hB1.cell,hB30.cell,g9, hw2]
      refine hK _ _ ?_;clear hK K
      refine zac (fun K6 hK6=>?_)
      obtain ⟨d0,d1,d3⟩:=zck (hsl.ext hA0) hm1
      by_cases hk2:(zan T q).k=2
      ·have hk2':((zan T q).k:Int)=2:=by omega
       rw [if_neg (fun h=>h hk2)] at hR
       first|refine zzr fun K hK=>?_|refine zzt fun K hK=>?_
       simp [go_sem,za0,g0,g1,g4,za4,za1,hB1.cell,hB30.cell,g9, hm1,hm1',d0,d1,d3,hk2']
       refine hK _ _ ?_;clear hK K
       refine zai (t:=false) (by simp [go_sem,za0,g0,g1,g4,za4,za1,hB1.cell,hB30.cell,g9, hk2']) rfl ?_
       refine zaa ?_
       refine hK6 _ _ ?_
       have hqn:=hW.next hm1 (show (zan T q).k≠0 by rw [hk2];decide)
       have hw3:IntKind.i64.wrap ((q:Int)+1)=(m+2:Nat):=by rw [IntWalk.i64_in _ (by omega)];omega
       obtain ⟨y,hy⟩:∃ y,y=qrV (zan T q).t:=⟨_,rfl⟩
       have hnum:=rnum_any (zan T q) (hW.num q hk2) (hW.len q)
       rw [←hy] at hnum hR
       obtain ⟨J,hJ⟩:∃ J:G→World→Prop,J=fun g' w2=>∃ b99 a c a' c',g' 0 = .slice (some ⟨lb,lo,none⟩) T.length cap∧g' 1 = .int .i64 q∧g' 4 = .pointer (some ⟨b1,0,none⟩)∧g' 7 = .int .i64 (if y=0 then 3 else 0)∧g' 10 = .pointer (some ⟨b99,0,none⟩)∧b1≠b99∧w.heap.size≤b99∧Below w.heap.size w w2∧Bx w2 b1 #[.bool false,.slice none 0 0,.slice none 0 0] 27∧Bx w2 b99 #[.bool (if y=0 then r30 else qR3 (X / y)).1,.slice a (if y=0 then r30 else qR3 (X / y)).2.1.length c,.slice a' (if y=0 then r30 else qR3 (X / y)).2.2.length c'] 27∧RV w2 (if y=0 then r30 else qR3 (X / y)) (.agg #[.bool (if y=0 then r30 else qR3 (X / y)).1,.slice a (if y=0 then r30 else qR3 (X / y)).2.1.length c,.slice a' (if y=0 then r30 else qR3 (X / y)).2.2.length c'])∧qS (if y=0 then r30 else qR3 (X / y)) 100000:=⟨_,rfl⟩
       refine W_rdTJ (J) (.li 0 (.li 1 (.li 2 (.li 3 (.li 4 (.fork 5 (.fork 6 (.li 7 (.li 8 (.li 9 (.hv 10 (.hv 11 (.li 12 .done)))))) (.hv 10 (.hv 6 (.li 7 (.li 8 (.li 9 (.hv 11 (.li 12 .done)))))))) (.hv 10 (.hv 5 (.hv 6 (.li 7 (.li 8 (.li 9 (.hv 11 (.li 12 .done)))))))))))))) (by kernel_rfl) (by kernel_rfl) ?_ ?_
       ·intro w0 hw0
        have hA:Below w.heap.size w w0:=by rw [hw0];exact hA0.next (Below.drew1 _)
        replace hB1:Bx w0 b1 #[.bool false,.slice none 0 0,.slice none 0 0] 27:=by rw [hw0];exact hB1.keep (Below.drew1 _)
        replace hB30:=hB30.keep (Below.drew1 _)
        replace hv:=hv.ext (Below.drew1 _)
        rw [←hw0] at hB30 hv
        clear hw0
        obtain ⟨r1,r2,_⟩:=zdq (hsl.ext hA) hm1
        simp only [Option.getD_some,za0] at r1 r2
        obtain ⟨s1,s2⟩:=rat_row hB30
        have hz:=Nat.le_refl w0.heap.size
        have hb1z:=hB1.lt
        clear hA0 c0 c1 c3 d0 d1 d3
        simp [go_sem,hm1,hm1',r1,r2,s1,s2,g0,g1,g4,g9,za0]
        refine ⟨?_,?_⟩
        ·skip
         refine za5 (by simp [go_sem,hm1,hm1',r1,r2,s1,s2,g0,g1,g4,g9,za0]) rfl Tryz.call83 (fun R hR=>?_)
         simp [go_sem,hm1,hm1',r1,r2,s1,s2,g0,g1,g4,g9,za0]
         refine (hnum _).mono ?_
         rintro e w51 ⟨ya,yc,ya',yc',rfl,hvy,hqsy,hE51⟩
         refine ⟨_,rfl,hR _ _ ?_⟩
         clear hR R
         refine zay (hE51.mono hz) ?_
         replace hz:=Nat.le_trans hz hE51.size
         replace hv:=hv.ext hE51
         replace hA:=hA.next hE51
         replace hB1:=hB1.keep hE51
         try replace hB60:=hB60.keep hE51
         simp [go_sem,hm1,hm1',r1,r2,s1,s2,g0,g1,g4,g9,za0]
         refine ⟨?_,?_⟩
         ·skip
          refine za5 (by simp [go_sem,hm1,hm1',r1,r2,s1,s2,g0,g1,g4,g9,za0]) rfl Tryz.call85 (fun R hR=>?_)
          simp [go_sem,hm1,hm1',r1,r2,s1,s2,g0,g1,g4,g9,za0]
          refine (divR_any hv hvy hqs ⟨by have:=hqsy.1;omega,by have:=hqsy.2;omega⟩).mono ?_
          rintro e w52 ⟨v,rfl,⟨da,dc,da',dc',rfl,dd1,dd2⟩,hqd,hE52⟩
          refine ⟨_,rfl,hR _ _ ?_⟩
          clear hR R
          refine zay (hE52.mono hz) ?_
          replace hz:=Nat.le_trans hz hE52.size
          have hvd:RV w52 (if y=0 then r30 else qR3 (X / y)) _:=⟨da,dc,da',dc',rfl,dd1,dd2⟩
          replace hA:=hA.next hE52
          replace hB1:=hB1.keep hE52
          try replace hB60:=hB60.keep hE52
          simp [go_sem,hm1,hm1',r1,r2,s1,s2,g0,g1,g4,g9,za0]
          refine zam (by simp [go_sem,za0]) rfl zb5 (fun w60 b60 hE60 hle60 hB60=>?_)
          refine zay (hE60.mono hz) ?_
          have hw060:w0.heap.size≤b60:=Nat.le_trans hz hle60
          replace hz:=Nat.le_trans hz hE60.size
          try replace hv:=hv.ext hE60
          have hw60:w.heap.size≤b60:=Nat.le_trans hA.size hle60
          replace hA:=hA.next hE60
          replace hB1:=hB1.keep hE60
          try replace hvd:=hvd.ext hE60
          try replace hvy:=hvy.ext hE60
          simp [go_sem,hm1,hm1',r1,r2,s1,s2,g0,g1,g4,g9,za0]
          refine za6 (b:=b60) (off:=0) [.bool (if y=0 then r30 else qR3 (X / y)).1,.slice da (if y=0 then r30 else qR3 (X / y)).2.1.length dc,.slice da' (if y=0 then r30 else qR3 (X / y)).2.2.length dc'] (by simp [go_sem,za0]) rfl (by simp [go_sem,za0]) (by simp [go_sem,Value.cells,za0]) zax hB60 (by simp) (by simp [Value.oneCell']) (by decide) (fun w61 hS61 hB61=>?_)
          simp [zaD] at hB61
          refine zay (hS61.below hw060) ?_
          have hne60:b1≠b60:=by omega
          replace hvd:=hvd.ch (Ch.of_sto hS61 (NL.of_bx hB60 (by intro u hu x e;subst e;simp at hu)))
          simp [go_sem,za0]
          rw [hJ]
          refine ⟨b60,da,dc,da',dc',?_,?_,?_,?_,?_,hne60,hw60,hA.nextS hS61 hw60,hB1.sto hS61 hne60,hB61,hvd,hqd⟩<;>simp [go_sem,g0,g1,g4]
         ·skip
          refine zam (by simp [go_sem,za0]) rfl zb5 (fun w60 b60 hE60 hle60 hB60=>?_)
          refine zay (hE60.mono hz) ?_
          have hw060:w0.heap.size≤b60:=Nat.le_trans hz hle60
          replace hz:=Nat.le_trans hz hE60.size
          try replace hv:=hv.ext hE60
          have hw60:w.heap.size≤b60:=Nat.le_trans hA.size hle60
          replace hA:=hA.next hE60
          replace hB1:=hB1.keep hE60
          try replace hvd:=hvd.ext hE60
          try replace hvy:=hvy.ext hE60
          simp [go_sem,hm1,hm1',r1,r2,s1,s2,g0,g1,g4,g9,za0]
          refine za5 (by simp [go_sem,hm1,hm1',r1,r2,s1,s2,g0,g1,g4,g9,za0]) rfl Tryz.call85 (fun R hR=>?_)
          simp [go_sem,hm1,hm1',r1,r2,s1,s2,g0,g1,g4,g9,za0]
          refine (divR_any hv hvy hqs ⟨by have:=hqsy.1;omega,by have:=hqsy.2;omega⟩).mono ?_
          rintro e w52 ⟨v,rfl,⟨da,dc,da',dc',rfl,dd1,dd2⟩,hqd,hE52⟩
          refine ⟨_,rfl,hR _ _ ?_⟩
          clear hR R
          refine zay (hE52.mono hz) ?_
          replace hz:=Nat.le_trans hz hE52.size
          have hvd:RV w52 (if y=0 then r30 else qR3 (X / y)) _:=⟨da,dc,da',dc',rfl,dd1,dd2⟩
          replace hA:=hA.next hE52
          replace hB1:=hB1.keep hE52
          try replace hB60:=hB60.keep hE52
          simp [go_sem,hm1,hm1',r1,r2,s1,s2,g0,g1,g4,g9,za0]
          refine za6 (b:=b60) (off:=0) [.bool (if y=0 then r30 else qR3 (X / y)).1,.slice da (if y=0 then r30 else qR3 (X / y)).2.1.length dc,.slice da' (if y=0 then r30 else qR3 (X / y)).2.2.length dc'] (by simp [go_sem,za0]) rfl (by simp [go_sem,za0]) (by simp [go_sem,Value.cells,za0]) zax hB60 (by simp) (by simp [Value.oneCell']) (by decide) (fun w61 hS61 hB61=>?_)
          simp [zaD] at hB61
          refine zay (hS61.below hw060) ?_
          have hne60:b1≠b60:=by omega
          replace hvd:=hvd.ch (Ch.of_sto hS61 (NL.of_bx hB60 (by intro u hu x e;subst e;simp at hu)))
          simp [go_sem,za0]
          rw [hJ]
          refine ⟨b60,da,dc,da',dc',?_,?_,?_,?_,?_,hne60,hw60,hA.nextS hS61 hw60,hB1.sto hS61 hne60,hB61,hvd,hqd⟩<;>simp [go_sem,g0,g1,g4]
        ·skip
         refine zam (by simp [go_sem,za0]) rfl zb5 (fun w60 b60 hE60 hle60 hB60=>?_)
         refine zay (hE60.mono hz) ?_
         have hw060:w0.heap.size≤b60:=Nat.le_trans hz hle60
         replace hz:=Nat.le_trans hz hE60.size
         try replace hv:=hv.ext hE60
         have hw60:w.heap.size≤b60:=Nat.le_trans hA.size hle60
         replace hA:=hA.next hE60
         replace hB1:=hB1.keep hE60
         try replace hvd:=hvd.ext hE60
         try replace hvy:=hvy.ext hE60
         simp [go_sem,hm1,hm1',r1,r2,s1,s2,g0,g1,g4,g9,za0]
         refine za5 (by simp [go_sem,hm1,hm1',r1,r2,s1,s2,g0,g1,g4,g9,za0]) rfl Tryz.call83 (fun R hR=>?_)
         simp [go_sem,hm1,hm1',r1,r2,s1,s2,g0,g1,g4,g9,za0]
         refine (hnum _).mono ?_
         rintro e w51 ⟨ya,yc,ya',yc',rfl,hvy,hqsy,hE51⟩
         refine ⟨_,rfl,hR _ _ ?_⟩
         clear hR R
         refine zay (hE51.mono hz) ?_
         replace hz:=Nat.le_trans hz hE51.size
         replace hv:=hv.ext hE51
         replace hA:=hA.next hE51
         replace hB1:=hB1.keep hE51
         try replace hB60:=hB60.keep hE51
         simp [go_sem,hm1,hm1',r1,r2,s1,s2,g0,g1,g4,g9,za0]
         refine za5 (by simp [go_sem,hm1,hm1',r1,r2,s1,s2,g0,g1,g4,g9,za0]) rfl Tryz.call85 (fun R hR=>?_)
         simp [go_sem,hm1,hm1',r1,r2,s1,s2,g0,g1,g4,g9,za0]
         refine (divR_any hv hvy hqs ⟨by have:=hqsy.1;omega,by have:=hqsy.2;omega⟩).mono ?_
         rintro e w52 ⟨v,rfl,⟨da,dc,da',dc',rfl,dd1,dd2⟩,hqd,hE52⟩
         refine ⟨_,rfl,hR _ _ ?_⟩
         clear hR R
         refine zay (hE52.mono hz) ?_
         replace hz:=Nat.le_trans hz hE52.size
         have hvd:RV w52 (if y=0 then r30 else qR3 (X / y)) _:=⟨da,dc,da',dc',rfl,dd1,dd2⟩
         replace hA:=hA.next hE52
         replace hB1:=hB1.keep hE52
         try replace hB60:=hB60.keep hE52
         simp [go_sem,hm1,hm1',r1,r2,s1,s2,g0,g1,g4,g9,za0]
         refine za6 (b:=b60) (off:=0) [.bool (if y=0 then r30 else qR3 (X / y)).1,.slice da (if y=0 then r30 else qR3 (X / y)).2.1.length dc,.slice da' (if y=0 then r30 else qR3 (X / y)).2.2.length dc'] (by simp [go_sem,za0]) rfl (by simp [go_sem,za0]) (by simp [go_sem,Value.cells,za0]) zax hB60 (by simp) (by simp [Value.oneCell']) (by decide) (fun w61 hS61 hB61=>?_)
         simp [zaD] at hB61
         refine zay (hS61.below hw060) ?_
         have hne60:b1≠b60:=by omega
         replace hvd:=hvd.ch (Ch.of_sto hS61 (NL.of_bx hB60 (by intro u hu x e;subst e;simp at hu)))
         simp [go_sem,za0]
         rw [hJ]
         refine ⟨b60,da,dc,da',dc',?_,?_,?_,?_,?_,hne60,hw60,hA.nextS hS61 hw60,hB1.sto hS61 hne60,hB61,hvd,hqd⟩<;>simp [go_sem,g0,g1,g4]
       ·intro g9' w2 hJ'
        rw [hJ] at hJ'
        clear hJ J g0 g1 g4 g9 hA0 hB1 hB30 hv c0 c1 c3 d0 d1 d3
        obtain ⟨b99,a,c,a',c',g0,g1,g4,g7,g10,hne,hb99,hA0,hB1,hB99,hv,hqz⟩:=hJ'
        have hd1_99:b1≠b99:=hne
        have hd99_1:b99≠b1:=hne.symm
        refine zac (fun K7 hK7=>?_)
        by_cases hy0:y=0
        ·simp only [hy0,if_true] at hR g7 hv hB99 hqz
         have hR1:R = .er q 3:=hR.symm
         first|refine zzr fun K hK=>?_|refine zzt fun K hK=>?_
         simp [go_sem,za0,g0,g1,g4,za4,za1,hB1.cell,hB99.cell,g7,g10,za4,za1, hy0]
         refine hK _ _ ?_;clear hK K
         refine zai (t:=true) (by simp [go_sem,za0,g0,g1,g4,za4,za1,hB1.cell,hB99.cell,g7,g10,za4,za1,hy0]) rfl ?_
         first|refine zzr fun K hK=>?_|refine zzt fun K hK=>?_
         simp [go_sem,za0,g0,g1,g4,za4,za1,hB1.cell,hB99.cell,g7,g10,za4,za1]
         refine zal #[.bool false,.slice none 0 0,.slice none 0 0] (by simp [go_sem]) rfl zd4 [] (by simp [go_sem]) rfl ?_
         simp [go_sem,za0]
         refine za6 (b:=b1) (off:=0) [.bool false,.slice none 0 0,.slice none 0 0] (by simp [go_sem,za0,g0,g1,g4,za4,za1,hB1.cell,hB99.cell,g7,g10,za4,za1]) rfl (by simp [go_sem,za0,g0,g1,g4,za4,za1,hB1.cell,hB99.cell,g7,g10,za4,za1]) (by simp [go_sem,Value.cells,za0,g0,g1,g4,za4,za1,hB1.cell,hB99.cell,g7,g10,za4,za1]) zax hB1 (by simp) (by simp [Value.oneCell']) (by decide) (fun w32 hS32 hB32=>?_)
         simp [zaD] at hB32
         replace hA0:=hA0.nextS hS32 (by first|exact hb1_0|omega)
         replace hv:=hv.ch (Ch.of_sto hS32 (NL.of_bx hB1 (by intro u hu x e;subst e;simp at hu)))
         replace hB99:=hB99.sto hS32 (by first|exact hd99_1|exact (hd1_99).symm)
         simp [go_sem,za0,g0,g1,g4,za4,za1,hB99.cell,g7,g10,za4,za1,hB32.cell]
         refine hK _ _ ?_;clear hK K
         refine zaf ?_
         repeat (first|refine za3 ?_|refine za2 ?_)
         rw [hR1]
         refine ⟨by simp [go_sem,zaO,zas,za4,za1,za0,hB32.cell,g4],none,none,0,0,?_,RV.nil _,⟨Nat.zero_le _,Nat.zero_le _⟩,hA0⟩
         simp [go_sem,zat,zas,za4,za1,za0,hB32.cell,resQ,zcF,zdk,r30,g4]
        ·simp only [hy0,if_false] at hR g7 hv hB99 hqz
         have hR1:R = .ok (X / y) (m+2):=hR.symm
         first|refine zzr fun K hK=>?_|refine zzt fun K hK=>?_
         simp [go_sem,za0,g0,g1,g4,za4,za1,hB1.cell,hB99.cell,g7,g10,za4,za1, hy0]
         refine hK _ _ ?_;clear hK K
         refine zai (t:=false) (by simp [go_sem,za0,g0,g1,g4,za4,za1,hB1.cell,hB99.cell,g7,g10,za4,za1, hy0]) rfl ?_
         refine zaa ?_
         refine hK7 _ _ ?_
         first|refine zzr fun K hK=>?_|refine zzt fun K hK=>?_
         simp [go_sem,za0,g0,g1,g4,za4,za1,hB1.cell,hB99.cell,g7,g10,za4,za1, hw3]
         refine za6 (b:=b1) (off:=0) [.bool (qR3 (X / y)).1,.slice a (qR3 (X / y)).2.1.length c,.slice a' (qR3 (X / y)).2.2.length c'] (by simp [go_sem,za0,g0,g1,g4,za4,za1,hB1.cell,hB99.cell,g7,g10,za4,za1,hw3]) rfl (by simp [go_sem,za0,g0,g1,g4,za4,za1,hB1.cell,hB99.cell,g7,g10,za4,za1,hw3]) (by simp [go_sem,Value.cells,za0,g0,g1,g4,za4,za1,hB1.cell,hB99.cell,g7,g10,za4,za1,hw3]) zax hB1 (by simp) (by simp [Value.oneCell']) (by decide) (fun w33 hS33 hB33=>?_)
         simp [zaD] at hB33
         replace hA0:=hA0.nextS hS33 (by first|exact hb1_0|omega)
         replace hv:=hv.ch (Ch.of_sto hS33 (NL.of_bx hB1 (by intro u hu x e;subst e;simp at hu)))
         replace hB99:=hB99.sto hS33 (by first|exact hd99_1|exact (hd1_99).symm)
         simp [go_sem,za0,g0,g1,g4,za4,za1,hB99.cell,g7,g10,za4,za1,hB33.cell,hw3]
         refine hK _ _ ?_;clear hK K
         refine zaf ?_
         repeat (first|refine za3 ?_|refine za2 ?_)
         rw [hR1]
         refine ⟨by simp [go_sem,zaO,zas,za4,za1,za0,hB33.cell,g4],a,a',c,c',?_,hv,⟨by have:=hqz.1;simp only [resQ];omega,by have:=hqz.2;simp only [resQ];omega⟩,hA0⟩
         simp [go_sem,zat,zas,za4,za1,za0,hB33.cell,resQ,zcF,zdk,g4]
      ·have hk2':¬((zan T q).k:Int)=2:=by omega
       rw [if_pos hk2] at hR
       have hR1:R = .er q 5:=hR.symm
       first|refine zzr fun K hK=>?_|refine zzt fun K hK=>?_
       simp [go_sem,za0,g0,g1,g4,za4,za1,hB1.cell,hB30.cell,g9, hm1,hm1',d0,d1,d3,hk2']
       refine hK _ _ ?_;clear hK K
       refine zai (t:=true) (by simp [go_sem,za0,g0,g1,g4,za4,za1,hB1.cell,hB30.cell,g9,hk2']) rfl ?_
       first|refine zzr fun K hK=>?_|refine zzt fun K hK=>?_
       simp [go_sem,za0,g0,g1,g4,za4,za1,hB1.cell,hB30.cell,g9]
       refine zal #[.bool false,.slice none 0 0,.slice none 0 0] (by simp [go_sem]) rfl zd4 [] (by simp [go_sem]) rfl ?_
       simp [go_sem,za0]
       refine za6 (b:=b1) (off:=0) [.bool false,.slice none 0 0,.slice none 0 0] (by simp [go_sem,za0,g0,g1,g4,za4,za1,hB1.cell,hB30.cell,g9]) rfl (by simp [go_sem,za0,g0,g1,g4,za4,za1,hB1.cell,hB30.cell,g9]) (by simp [go_sem,Value.cells,za0,g0,g1,g4,za4,za1,hB1.cell,hB30.cell,g9]) zax hB1 (by simp) (by simp [Value.oneCell']) (by decide) (fun w34 hS34 hB34=>?_)
       simp [zaD] at hB34
       replace hA0:=hA0.nextS hS34 (by first|exact hb1_0|omega)
       replace hv:=hv.ch (Ch.of_sto hS34 (NL.of_bx hB1 (by intro u hu x e;subst e;simp at hu)))
       replace hB30:=hB30.sto hS34 (by first|exact hd30_1|exact (hd1_30).symm)
       simp [go_sem,za0,g0,g1,g4,za4,za1,hB30.cell,g9,hB34.cell]
       refine hK _ _ ?_;clear hK K
       refine zaf ?_
       repeat (first|refine za3 ?_|refine za2 ?_)
       rw [hR1]
       refine ⟨by simp [go_sem,zaO,zas,za4,za1,za0,hB34.cell,g4],none,none,0,0,?_,RV.nil _,⟨Nat.zero_le _,Nat.zero_le _⟩,hA0⟩
       simp [go_sem,zat,zas,za4,za1,za0,hB34.cell,resQ,zcF,zdk,r30,g4]
     ·rw [if_pos (show (zan T m).t≠sSL from hs)] at hR
      have hR1:R = .ok X m:=hR.symm
      first|refine zzr fun K hK=>?_|refine zzt fun K hK=>?_
      simp [go_sem,za0,g0,g1,g4,za4,za1,hB1.cell,hB30.cell,g9, hj1,hj1',c0,c1,c3,hs]
      refine hK _ _ ?_;clear hK K
      refine zai (t:=true) (by simp [go_sem,za0,g0,g1,g4,za4,za1,hB1.cell,hB30.cell,g9,hs]) rfl ?_
      first|refine zzr fun K hK=>?_|refine zzt fun K hK=>?_
      simp [go_sem,za0,g0,g1,g4,za4,za1,hB1.cell,hB30.cell,g9]
      refine za6 (b:=b1) (off:=0) [.bool (qR3 X).1,.slice a (qR3 X).2.1.length c,.slice a' (qR3 X).2.2.length c'] (by simp [go_sem,za0,g0,g1,g4,za4,za1,hB1.cell,hB30.cell,g9]) rfl (by simp [go_sem,za0,g0,g1,g4,za4,za1,hB1.cell,hB30.cell,g9]) (by simp [go_sem,Value.cells,za0,g0,g1,g4,za4,za1,hB1.cell,hB30.cell,g9]) zax hB1 (by simp) (by simp [Value.oneCell']) (by decide) (fun w35 hS35 hB35=>?_)
      simp [zaD] at hB35
      replace hA0:=hA0.nextS hS35 (by first|exact hb1_0|omega)
      replace hv:=hv.ch (Ch.of_sto hS35 (NL.of_bx hB1 (by intro u hu x e;subst e;simp at hu)))
      replace hB30:=hB30.sto hS35 (by first|exact hd30_1|exact (hd1_30).symm)
      simp [go_sem,za0,g0,g1,g4,za4,za1,hB30.cell,g9,hB35.cell]
      refine hK _ _ ?_;clear hK K
      refine zaf ?_
      repeat (first|refine za3 ?_|refine za2 ?_)
      rw [hR1]
      refine ⟨by simp [go_sem,zaO,zas,za4,za1,za0,hB35.cell,g4],a,a',c,c',?_,hv,⟨by have:=hqs.1;simp only [resQ];omega,by have:=hqs.2;simp only [resQ];omega⟩,hA0⟩
      simp [go_sem,zat,zas,za4,za1,za0,hB35.cell,resQ,zcF,zdk,g4]
    cases neg with
    | false =>
     have hR2:ratS2 T x (j+1)=R:=hR
     first|refine zzr fun K hK=>?_|refine zzt fun K hK=>?_
     simp [go_sem,za0,hB1.cell,g0,g1,g4,g8,hB31.cell,za4,za1]
     refine hK _ _ ?_;clear hK K
     refine zai (t:=false) (by simp [go_sem,za0,hB1.cell,g0,g1,g4,g8,hB31.cell,za4,za1]) rfl ?_
     refine zaa ?_
     refine tail3 _ _ x a a' c c' hR2 (by simp [go_sem,g0]) (by simp [go_sem,g1]) (by simp [go_sem,g4]) (by simp [go_sem]) hA0 hB1 hB31 hv ⟨by have:=hqs.1;omega,by have:=hqs.2;omega⟩
    | true =>
     have hR2:ratS2 T (-x) (j+1)=R:=hR
     have hqs1:qS (qR3 x) 100000:=⟨by have:=hqs.1;omega,by have:=hqs.2;omega⟩
     have hqs2:qS (qR3 (-x)) 10000:=qS_neg ⟨by have:=hqs.1;omega,by have:=hqs.2;omega⟩
     first|refine zzr fun K hK=>?_|refine zzt fun K hK=>?_
     simp [go_sem,za0,hB1.cell,g0,g1,g4,g8,hB31.cell,za4,za1]
     refine hK _ _ ?_;clear hK K
     refine zai (t:=true) (by simp [go_sem,za0,hB1.cell,g0,g1,g4,g8,hB31.cell,za4,za1]) rfl ?_
     first|refine zzr fun K hK=>?_|refine zzt fun K hK=>?_
     simp [go_sem,za0,hB1.cell,g0,g1,g4,g8,hB31.cell,za4,za1]
     refine za5 (by simp [go_sem,za0,hB1.cell,g0,g1,g4,g8,hB31.cell,za4,za1]) rfl Tryz.call84 (fun R hR=>?_)
     simp [go_sem,za0,hB1.cell,g0,g1,g4,g8,hB31.cell,za4,za1]
     refine (negR_any hv hqs1).mono ?_
     rintro e w40 ⟨v,rfl,⟨a3,c3,a3',c3',rfl,q1,q2⟩,hqs3,hE40⟩
     refine ⟨_,rfl,hR _ _ ?_⟩
     clear hR R
     replace hA0:=hA0.next hE40
     replace hB1:=hB1.keep hE40
     replace hB31:=hB31.keep hE40
     replace hv:=hv.ext hE40
     have hv3:RV _ (qR3 (-x)) _:=⟨a3,c3,a3',c3',rfl,q1,q2⟩
     simp [go_sem,za0,hB1.cell,g0,g1,g4,g8,hB31.cell,za4,za1]
     refine za6 (b:=b30) (off:=0) [.bool (qR3 (-x)).1,.slice a3 (qR3 (-x)).2.1.length c3,.slice a3' (qR3 (-x)).2.2.length c3'] (by simp [go_sem,za0,hB1.cell,g0,g1,g4,g8,hB31.cell,za4,za1]) rfl (by simp [go_sem,za0,hB1.cell,g0,g1,g4,g8,hB31.cell,za4,za1]) (by simp [go_sem,Value.cells,za0,hB1.cell,g0,g1,g4,g8,hB31.cell,za4,za1]) zax hB31 (by simp) (by simp [Value.oneCell']) (by decide) (fun w41 hS41 hB41=>?_)
     simp [zaD] at hB41
     replace hA0:=hA0.nextS hS41 (by first|exact hb30_0|omega)
     replace hv:=hv.ch (Ch.of_sto hS41 (NL.of_bx hB31 (by intro u hu x e;subst e;simp at hu)))
     replace hv3:=hv3.ch (Ch.of_sto hS41 (NL.of_bx hB31 (by intro u hu x e;subst e;simp at hu)))
     replace hB1:=hB1.sto hS41 (by first|exact hd1_30|exact (hd30_1).symm)
     simp [go_sem,za0,hB1.cell,g0,g1,g4,g8,za4,za1,hB41.cell]
     refine hK _ _ ?_;clear hK K
     refine tail3 _ _ (-x) a3 a3' c3 c3' hR2 (by simp [go_sem,g0]) (by simp [go_sem,g1]) (by simp [go_sem,g4]) (by simp [go_sem]) hA0 hB1 hB41 hv3 hqs2
   ·have h2':¬((zan T j).k:Int)=2:=by omega
    rw [if_pos h2] at hR
    have hR1:R = .er j 5:=hR.symm
    first|refine zzr fun K hK=>?_|refine zzt fun K hK=>?_
    simp [go_sem,za0,za4,za1,hB1.cell,g0,g1,g4,g8, hj,hj',c0,c1,c3,h2']
    refine hK _ _ ?_;clear hK K
    refine zai (t:=true) (by simp [go_sem,za0,za4,za1,hB1.cell,g0,g1,g4,g8,h2']) rfl ?_
    first|refine zzr fun K hK=>?_|refine zzt fun K hK=>?_
    simp [go_sem,za0,za4,za1,hB1.cell,g0,g1,g4,g8]
    refine zal #[.bool false,.slice none 0 0,.slice none 0 0] (by simp [go_sem]) rfl zd4 [] (by simp [go_sem]) rfl ?_
    simp [go_sem,za0]
    refine za6 (b:=b1) (off:=0) [.bool false,.slice none 0 0,.slice none 0 0] (by simp [go_sem,za0,za4,za1,hB1.cell,g0,g1,g4,g8]) rfl (by simp [go_sem,za0,za4,za1,hB1.cell,g0,g1,g4,g8]) (by simp [go_sem,Value.cells,za0,za4,za1,hB1.cell,g0,g1,g4,g8]) zax hB1 (by simp) (by simp [Value.oneCell']) (by decide) (fun w42 hS42 hB42=>?_)
    simp [zaD] at hB42
    replace hA0:=hA0.nextS hS42 (by first|exact hb1_0|omega)
    simp [go_sem,za0,za4,za1,g0,g1,g4,g8,hB42.cell]
    refine hK _ _ ?_;clear hK K
    refine zaf ?_
    repeat (first|refine za3 ?_|refine za2 ?_)
    rw [hR1]
    refine ⟨by simp [go_sem,zaO,zas,za4,za1,za0,hB42.cell,g4],none,none,0,0,?_,RV.nil _,⟨Nat.zero_le _,Nat.zero_le _⟩,hA0⟩
    simp [go_sem,zat,zas,za4,za1,za0,hB42.cell,resQ,zcF,zdk,r30,g4]
  by_cases hm:(zan T j).t=[45]
  ·rw [if_pos (show (zan T j).t=sMI from hm)] at hR
   have hmk:(zan T j).k≠0:=fun h=>by have:=hW.text j h;rw [hm] at this;cases this
   have hj2:=hW.next hj hmk
   have hw1:IntKind.i64.wrap ((j:Int)+1)=(j+1:Nat):=by rw [IntWalk.i64_in _ (by omega)];omega
   first|refine zzr fun K hK=>?_|refine zzt fun K hK=>?_
   simp [go_sem,za0,za4,za1,hB1.cell, hm]
   refine hK _ _ ?_;clear hK K
   refine zai (t:=true) (by simp [go_sem,za0,za4,za1,hB1.cell,hm]) rfl ?_
   refine zzt fun K hK=>?_
   simp [go_sem,hw1,hm]
   refine hK _ _ ?_;clear hK K
   refine tail _ _ true (j+1) hj2 hR.symm (by simp [go_sem]) (by simp [go_sem]) (by simp [go_sem]) (by simp [go_sem,hm]) hA0 hB1
  ·rw [if_neg (show ¬(zan T j).t=sMI from hm)] at hR
   first|refine zzr fun K hK=>?_|refine zzt fun K hK=>?_
   simp [go_sem,za0,za4,za1,hB1.cell, hm]
   refine hK _ _ ?_;clear hK K
   refine zai (t:=false) (by simp [go_sem,za0,za4,za1,hB1.cell,hm]) rfl ?_
   refine zaa ?_
   refine tail _ _ false j hj hR.symm (by simp [go_sem]) (by simp [go_sem]) (by simp [go_sem]) (by simp [go_sem,hm]) hA0 hB1
 ·rw [e1] at hR ⊢
  have hR1:R = .er i 5:=hR
  first|refine zzr fun K hK=>?_|refine zzt fun K hK=>?_
  simp [go_sem,za0,za4,za1,hB1.cell, zcF,zdk]
  refine hK _ _ ?_;clear hK K
  refine zai (t:=true) (by simp [go_sem,za0,za4,za1,hB1.cell]) rfl ?_
  first|refine zzr fun K hK=>?_|refine zzt fun K hK=>?_
  simp [go_sem,za0,za4,za1,hB1.cell]
  refine zal #[.bool false,.slice none 0 0,.slice none 0 0] (by simp [go_sem]) rfl zd4 [] (by simp [go_sem]) rfl ?_
  simp [go_sem,za0]
  refine za6 (b:=b1) (off:=0) [.bool false,.slice none 0 0,.slice none 0 0] (by simp [go_sem,za0,za4,za1,hB1.cell]) rfl (by simp [go_sem,za0,za4,za1,hB1.cell]) (by simp [go_sem,Value.cells,za0,za4,za1,hB1.cell]) zax hB1 (by simp) (by simp [Value.oneCell']) (by decide) (fun w43 hS43 hB43=>?_)
  simp [zaD] at hB43
  replace hA0:=hA0.nextS hS43 (by first|exact hb1_0|omega)
  simp [go_sem,za0,za4,za1,hB43.cell]
  refine hK _ _ ?_;clear hK K
  refine zaf ?_
  repeat (first|refine za3 ?_|refine za2 ?_)
  rw [hR1]
  refine ⟨by simp [go_sem,zaO,zas,za4,za1,za0,hB43.cell,za0],none,none,0,0,?_,RV.nil _,⟨Nat.zero_le _,Nat.zero_le _⟩,hA0⟩
  simp [go_sem,zat,zas,za4,za1,za0,hB43.cell,resQ,zcF,zdk,r30,za0]
end Go.Proofs.YtefhenfofomjhaaGreat
namespace Go.Proofs.YtefhenfofomjhaaGreat
open Go Go.RowKit Go.V
section
variable {T:List Tok}
theorem exp_lt (hW:Wf T) {t:List UInt8} {i:Nat} (hi:i<T.length):zcF (expS T t i)<T.length:=by
 unfold expS
 split
 ·exact hi
 ·rename_i h
  exact hW.next hi (fun e=>h (.inl e))
theorem exp_ok_lt (hW:Wf T) {t:List UInt8} {i j:Nat} {u:Unit} (hi:i<T.length) (h:expS T t i = .ok u j):j<T.length:=by
 have:=exp_lt hW (t:=t) hi
 rw [h] at this;exact this
theorem rat2_lt (hW:Wf T) {a:Rat} {i:Nat} (hi:i<T.length):zcF (ratS2 T a i)<T.length:=by
 unfold ratS2
 by_cases h1:(zan T i).t=sSL
 ·have hk:(zan T i).k≠0:=fun h=>by have:=hW.text i h;rw [h1] at this;cases this
  have hj:=hW.next hi hk
  rw [if_neg (fun h=>h h1)]
  by_cases h2:(zan T (i+1)).k=2
  ·have hj2:=hW.next hj (by rw [h2];decide)
   rw [if_neg (fun h=>h h2)]
   split
   ·exact hj
   ·exact hj2
  ·rw [if_pos h2];exact hj
 ·rw [if_pos h1];exact hi
theorem rat1_lt (hW:Wf T) {neg:Bool} {i:Nat} (hi:i<T.length):zcF (ratS1 T neg i)<T.length:=by
 unfold ratS1
 by_cases h2:(zan T i).k=2
 ·rw [if_neg (fun h=>h h2)]
  exact rat2_lt hW (hW.next hi (by rw [h2];decide))
 ·rw [if_pos h2];exact hi
theorem rat_lt (hW:Wf T) {i:Nat} (hi:i<T.length):zcF (ratS T i)<T.length:=by
 unfold ratS
 have h:=exp_lt hW (t:=sCM) hi
 cases he:expS T sCM i with
 | er j e=>rw [he] at h;exact h
 | ok u j =>
  rw [he] at h
  have hj:j<T.length:=h
  simp only
  by_cases hm:(zan T j).t=sMI
  ·have hk:(zan T j).k≠0:=fun h=>by have:=hW.text j h;rw [hm] at this;cases this
   rw [if_pos hm]
   exact rat1_lt hW (hW.next hj hk)
  ·rw [if_neg hm];exact rat1_lt hW hj
theorem args_lt (hW:Wf T) {arg:Int→Nat→Res Tre} (ha:∀ p i,i<T.length→zcF (arg p i)<T.length):∀ (ps:List Int) (first:Bool) (i:Nat),i<T.length→zcF (argsS T arg first ps i)<T.length
 | [],first,i,hi=>hi
 | p::r,first,i,hi=>by
  unfold argsS
  have h:=exp_lt hW (t:=if first=true then sLP else sCM) hi
  cases he:expS T (if first=true then sLP else sCM) i with
  | er j e=>rw [he] at h;exact h
  | ok u j =>
   rw [he] at h
   have hj:j<T.length:=h
   simp only
   have h1:=ha p j hj
   cases hr:arg p j with
   | er j e=>rw [hr] at h1;exact h1
   | ok x j2 =>
    rw [hr] at h1
    have hj2:j2<T.length:=h1
    simp only
    have h2:=args_lt hW ha r false j2 hj2
    cases hz:argsS T arg false r j2 with
    | er j e=>rw [hz] at h2;exact h2
    | ok xs j3=>rw [hz] at h2;exact h2
theorem end_lt (hW:Wf T) {k:Int} {i:Nat} (hi:i<T.length):zcF (endS T k i)<T.length:=by
 unfold endS
 have h0:zcF (if hasR k=true then (match ratS T i with | .er j e=>Res.er j e | .ok x j=>.ok (qR3 x) j) else .ok r30 i)<T.length:=by
  split
  ·have:=rat_lt hW hi
   cases hr:ratS T i with
   | er j e=>rw [hr] at this;exact this
   | ok x j=>rw [hr] at this;exact this
  ·exact hi
 generalize (if hasR k=true then (match ratS T i with | .er j e=>Res.er j e | .ok x j=>.ok (qR3 x) j) else .ok r30 i)=r at h0
 cases r with
 | er j e=>exact h0
 | ok q j =>
  have hj:j<T.length:=h0
  simp only
  have h:=exp_lt hW (t:=sRP) hj
  cases he:expS T sRP j with
  | er j e=>rw [he] at h;exact h
  | ok u j=>rw [he] at h;exact h
theorem con_lt (hW:Wf T) {arg:Int→Nat→Res Tre} (ha:∀ p i,i<T.length→zcF (arg p i)<T.length) {sort:Int} {i:Nat} (hi:i<T.length):zcF (conS T arg sort i)<T.length:=by
 unfold conS
 by_cases h0:kofS T i sort=0
 ·rw [if_pos h0];exact hi
 ·rw [if_neg h0]
  have hk:(zan T i).k≠0:=by
   intro h;apply h0;unfold kofS;rw [if_pos (by rw [h];decide)]
  have h1:=args_lt hW ha (zbY (kofS T i sort)) true (i+1) (hW.next hi hk)
  cases hz:argsS T arg true (zbY (kofS T i sort)) (i+1) with
  | er j e=>rw [hz] at h1;exact h1
  | ok xs j =>
   rw [hz] at h1
   have hj:j<T.length:=h1
   have h2:=end_lt hW (k:=kofS T i sort) hj
   simp only
   cases he:endS T (kofS T i sort) j with
   | er j e=>rw [he] at h2;exact h2
   | ok q j2=>rw [he] at h2;exact h2
theorem arg_lt (hW:Wf T):∀ (f:Nat) (sort:Int) (i:Nat),i<T.length→zcF (argS T f sort i)<T.length
 | 0,sort,i,hi=>by
  unfold argS
  split<;>exact hi
 | f+1,sort,i,hi=>by
  unfold argS
  split
  ·exact hi
  ·simp only
   by_cases hn:nmS T i=true
   ·rw [if_pos hn]
    exact hW.next hi (by rw [nmS_k hn];decide)
   ·rw [if_neg hn]
    exact con_lt hW (fun p i hi=>arg_lt hW f p i hi) hi
end
end Go.Proofs.YtefhenfofomjhaaGreat
