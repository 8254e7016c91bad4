/- The reference's table of constructions: straight code that builds slices and rows, reckoned. -/
import Derived.Test.YtefhenfofomjhaaGreatTk1
import Derived.Test.YtefhenfofomjhaaGreatLx6
import Derived.Test.YtefhenfofomjhaaGreatPt4
import Derived.Test.YtefhenfofomjhaaGreatFc1
set_option linter.unusedSimpArgs false
set_option linter.unusedVariables false
namespace Go.Proofs.YtefhenfofomjhaaGreat
open Go Go.RowKit Go.V
set_option maxRecDepth 20000
theorem below_of_grown {w w':World} {b:Nat} (h:w.grownBy w' (some b)) (hb:w.heap.size≤b):Below w.heap.size w w':=⟨h.os,h.tape,h.output,h.size,fun k hk=>h.block k hk (by intro e;injection e with e;omega)⟩
def exprV (s:ByteArray):Tre × Int × Int:=if (allR s).2.2=0 then exprP (tokT s) else (ex0,(allR s).2.1,(allR s).2.2)
def ExprPost (w:World) (r:Tre × Int × Int) (e:Ending) (w':World):Prop :=
 ∃ R:List Value,e = .returned (.tuple #[.agg R.toArray,.int .i64 r.2.1,.int .i64 r.2.2])∧EX w' (fun k=>w.heap.size≤k) R r.1∧Below w.heap.size w w'
theorem _root_.Go.V.Keep.sto {L:List Addr} {w0 w:World} {b:Nat} (hL:∀ a∈L,a.block≠b) (h:Sto w0 w b):Keep L w0 w:=fun a ha=>World.cell?_of_block (w:=w0) (a:=a) (h.block _ (hL a ha))
theorem la_ne {w:World} {b t:Nat} {la:Option Addr} {T:List Tok} {k p:Int} {n:ByteArray} {q:Bool} {a1 a2 a3:Option Addr} {n1 n2 n3 c1 c2 c3:Nat} (hsl:SL w la (zc9 T)) (hT:0<T.length) (hB:Bx w b #[.int .i64 k,.string n,.bool q,.slice a1 n1 c1,.slice a2 n2 c2,.slice a3 n3 c3,.int .i64 p] t):∀ ad,la=some ad→ad.block≠b:=by
 intro ad ha e
 have hrow:∃ r,zc9 T = .int .i64 (zan T 0).k :: .int .i64 (zan T 0).p :: .int .i64 (zan T 0).e::r:=by
  cases T with
  | nil=>simp at hT
  | cons t T=>exact ⟨_,rfl⟩
 obtain ⟨r,hr⟩:=hrow
 rcases hsl with h0|⟨b',off,e1,h1⟩
 ·rw [hr] at h0;cases h0
 ·rw [ha] at e1;injection e1 with e1;subst e1
  simp only at e
  subst e
  have c0:=h1 0 (.int .i64 (zan T 0).k) (by rw [hr];rfl)
  have c1:=h1 1 (.int .i64 (zan T 0).p) (by rw [hr];rfl)
  rw [hB.cell] at c0 c1
  rw [Nat.add_zero] at c0
  match off,c0,c1 with
  | 0,c0,c1=>simp at c1
  | 1,c0,c1=>simp at c0
  | 2,c0,c1=>simp at c0
  | 3,c0,c1=>simp at c0
  | 4,c0,c1=>simp at c0
  | 5,c0,c1=>simp at c0
  | 6,c0,c1=>simp at c1
  | n+7,c0,c1=>simp at c0
theorem la_lt {w:World} {la:Option Addr} {T:List Tok} (hsl:SL w la (zc9 T)) (hT:0<T.length):∀ ad,la=some ad→ad.block<w.heap.size:=by
 intro ad ha
 obtain ⟨b',off,e,hlt⟩:=hsl.lt (by intro e;have h4:=zdL (ze4 T);rw [show (T.map zbH).flatten=zc9 T from rfl,e,List.length_map] at h4;simp at h4;omega)
 rw [ha] at e;injection e with e;subst e;exact hlt
set_option maxHeartbeats 4000000 in
theorem parseExpr_any (s:ByteArray) (w:World) (hs:s.size≤maxLen):Calls Tryz.prog 5 #[.string s] w (ExprPost w (exprV s)):=by
 obtain ⟨V,hV⟩:∃ V,V=exprV s:=⟨_,rfl⟩
 rw [←hV]
 unfold exprV at hV
 refine za7 (args:=[.string s]) (rs:=[.cell 2 30,.tmp 3,.tmp 4]) (n:=82) Tryz.func5 rfl rfl rfl (by kernel_rfl) ?_
 have hA0:=Below.refl w.heap.size w
 first|refine zzr fun K hK=>?_|refine zzt fun K hK=>?_
 simp [go_sem,za0,za4,za1]
 refine zam (by simp [go_sem,za0,za4,za1]) rfl zbd (fun w1 b1 hE1 hle1 hB1=>?_)
 have hb1_0:=Nat.le_trans hA0.size hle1
 replace hA0:=hA0.next hE1
 simp [go_sem,za0,za4,za1,hB1.cell]
 refine hK _ _ ?_;clear hK K
 first|refine zzr fun K hK=>?_|refine zzt fun K hK=>?_
 simp [go_sem,za0,za4,za1,hB1.cell]
 refine za5 (by simp [go_sem,za0,za4,za1,hB1.cell]) rfl Tryz.call11 (fun R hR=>?_)
 simp [go_sem,za0,za4,za1,hB1.cell]
 refine (all_any s _ hs).mono ?_
 rintro e w2 ⟨la,cap,rfl,hsl,hE2⟩
 refine ⟨_,rfl,hR _ _ ?_⟩
 clear hR R
 replace hA0:=hA0.next hE2
 replace hB1:=hB1.keep hE2
 simp [go_sem,za0,za4,za1,hB1.cell]
 refine hK _ _ ?_;clear hK K
 refine zac (fun K1 hK1=>?_)
 first|refine zzr fun K hK=>?_|refine zzt fun K hK=>?_
 simp [go_sem,za0,za4,za1,hB1.cell]
 refine hK _ _ ?_;clear hK K
 by_cases he:(allR s).2.2=0
 ·rw [if_pos he] at hV
  have he':((allR s).2.2:Int)=0:=by omega
  have hW:=wf_tok he
  have hlen:(allR s).1.length=(tokT s).length:=by simp [tokT]
  have hsv:tksC s (allR s).1=zc9 (tokT s):=(toks_tks s _).symm
  rw [hlen] at *
  rw [hsv] at hsl
  generalize tokT s=T at *
  refine zai (t:=false) (by simp [go_sem,za0,za4,za1,hB1.cell, he',he]) rfl ?_
  refine zaa ?_
  refine hK1 _ _ ?_
  first|refine zzr fun K hK=>?_|refine zzt fun K hK=>?_
  simp [go_sem,za0,za4,za1,hB1.cell]
  refine zal #[.slice la T.length cap,.int .i64 0,.int .i64 0,.int .i64 0] (by simp [go_sem]) rfl ty_stZ47 [(0,.slice la T.length cap)] (by simp [go_sem]) rfl ?_
  simp [go_sem,za0]
  refine zal #[.slice la T.length cap,.int .i64 0,.int .i64 0,.int .i64 0] (by simp [go_sem]) rfl ty_stZ49 [(0,.agg #[.slice la T.length cap,.int .i64 0,.int .i64 0,.int .i64 0])] (by simp [go_sem]) rfl ?_
  simp [go_sem,za0]
  refine zc5 #[.slice la T.length cap,.int .i64 0,.int .i64 0,.int .i64 0] (by simp [go_sem]) rfl (by simp [go_sem,Value.cells]) (fun w9 b9 hE9 hle9 hB9=>?_)
  have hpos:=hW.pos
  have hlan:=la_ne hsl hpos hB1
  have hlal:=la_lt hsl hpos
  have hwb1:=hle1
  have hb1b:b1<b9:=Nat.lt_of_lt_of_le (hB1.lt) hle9
  have hwb9:w.heap.size≤b9:=Nat.le_trans hA0.size hle9
  have hP:PSS w9 b9 49 la cap T ⟨0,0,0⟩:=⟨by simpa using hB9,hsl.ext hE9,fun ad ha=>by have:=hlal ad ha;omega,hpos⟩
  replace hA0:=hA0.next hE9
  replace hB1:=hB1.keep hE9
  clear hB9 hsl hE9 hle9
  obtain ⟨b,hb⟩:∃ b,b=b9:=⟨_,rfl⟩
  subst hb
  have hG:w.grownBy w9 (some b):=zad hA0
  have hla0:=hlan
  clear hA0
  simp [go_sem,za0,za4,za1,hB1.cell]
  refine hK _ _ ?_;clear hK K
  refine zac (fun K2 hK2=>?_)
  have tail:∀ (g:G) (w9:World) (p:PSt × Tre) (x:Tre) (xa xb xad:Option Addr) (xc xd xcap:Nat),V=(if (if p.1.er=0∧¬(zan T p.1.i).k=0 then zbF T 5 p.1 else p.1).er=0 then (p.2,0,0) else (ex0,(if p.1.er=0∧¬(zan T p.1.i).k=0 then zbF T 5 p.1 else p.1).at',(if p.1.er=0∧¬(zan T p.1.i).k=0 then zbF T 5 p.1 else p.1).er))→(p.1.er=0→x=p.2)→g 2 = .pointer (some ⟨b1,0,none⟩)→g 6 = .pointer (some ⟨b,0,none⟩)→PSS w9 b 49 la cap T p.1→w.grownBy w9 (some b)→Bx w9 b1 #[.int .i64 x.kind,.string ⟨x.name.toArray⟩,.bool x.neg,.slice xa x.num.length xc,.slice xb x.den.length xd,.slice xad x.args.length xcap,.int .i64 x.pos] 30→EX w9 (fun k=>w.heap.size≤k∧k≠b1∧k≠b) [.int .i64 x.kind,.string ⟨x.name.toArray⟩,.bool x.neg,.slice xa x.num.length xc,.slice xb x.den.length xd,.slice xad x.args.length xcap,.int .i64 x.pos] x→K2 g w9:=by
   clear hV hP hG hB1
   intro g w9 p x xa xb xad xc xd xcap hV hx g2 g6 hP hG hB1 hxe
   refine hK2 _ _ ?_
   refine zac (fun K3 hK3=>?_)
   obtain ⟨s',hs'⟩:∃ s',s'=(if p.1.er=0∧¬(zan T p.1.i).k=0 then zbF T 5 p.1 else p.1):=⟨_,rfl⟩
   rw [←hs'] at hV
   have tail2:∀ (g:G) (w9:World),(s'.er=0→x=p.2)→g 2 = .pointer (some ⟨b1,0,none⟩)→g 6 = .pointer (some ⟨b,0,none⟩)→PSS w9 b 49 la cap T s'→w.grownBy w9 (some b)→Bx w9 b1 #[.int .i64 x.kind,.string ⟨x.name.toArray⟩,.bool x.neg,.slice xa x.num.length xc,.slice xb x.den.length xd,.slice xad x.args.length xcap,.int .i64 x.pos] 30→EX w9 (fun k=>w.heap.size≤k∧k≠b1∧k≠b) [.int .i64 x.kind,.string ⟨x.name.toArray⟩,.bool x.neg,.slice xa x.num.length xc,.slice xb x.den.length xd,.slice xad x.args.length xcap,.int .i64 x.pos] x→K3 g w9:=by
    clear hP hG hB1 hxe g2 g6 hs'
    intro g w9 hx' g2 g6 hP hG hB1 hxe
    refine hK3 _ _ ?_
    refine zac (fun K4 hK4=>?_)
    first|refine zzr fun K hK=>?_|refine zzt fun K hK=>?_
    simp [go_sem,za0,za4,za1,g2,g6,hB1.cell]
    refine za5 (by simp [go_sem,za0,za4,za1,g2,g6,hB1.cell]) rfl Tryz.call15 (fun R hR=>?_)
    simp [go_sem,za0,za4,za1,g2,g6,hB1.cell]
    refine (zcw hP).mono ?_
    rintro e w3 ⟨rfl,hE3⟩
    refine ⟨_,rfl,hR _ _ ?_⟩
    clear hR R
    replace hB1:=hB1.keep hE3
    replace hG:=hG.trans (zad hE3)
    replace hP:=hP.ext hE3
    replace hxe:=hxe.ext hE3
    simp [go_sem,za0,za4,za1,g2,g6,hB1.cell]
    refine hK _ _ ?_;clear hK K
    by_cases h0:s'.er=0
    ·rw [if_pos h0] at hV
     refine zai (t:=false) (by simp [go_sem,za0,za4,za1,g2,g6,hB1.cell, h0]) rfl ?_
     refine zaa ?_
     refine hK4 _ _ ?_
     first|refine zzr fun K hK=>?_|refine zzt fun K hK=>?_
     simp [go_sem,za0,za4,za1,g2,g6,hB1.cell]
     refine za6 (b:=b1) (off:=0) [.int .i64 x.kind,.string ⟨x.name.toArray⟩,.bool x.neg,.slice xa x.num.length xc,.slice xb x.den.length xd,.slice xad x.args.length xcap,.int .i64 x.pos] (by simp [go_sem,za0,za4,za1,g2,g6,hB1.cell]) rfl (by simp [go_sem,za0,za4,za1,g2,g6,hB1.cell]) (by simp [go_sem,Value.cells,za0,za4,za1,g2,g6,hB1.cell]) zaw hB1 (by simp) (by simp [Value.oneCell']) (by decide) (fun w4 hS4 hB4=>?_)
     simp [zaD] at hB4
     replace hxe:=hxe.ch (Ch.of_sto hS4 (NL.of_bx hB1 (by intro u hu x e;subst e;simp at hu))) (by intro k hk e;subst e;first|exact hk.2 rfl|omega)
     replace hG:=zaB hG hS4 hwb1
     replace hP:=hP.sto hS4 (by omega) (fun ad ha=>by have:=hla0 ad ha;omega)
     simp [go_sem,za0,za4,za1,g2,g6,hB4.cell]
     refine hK _ _ ?_;clear hK K
     refine zaf ?_
     repeat (first|refine za3 ?_|refine za2 ?_)
     subst hV
     refine ⟨by simp [go_sem,zaO,zas,za4,za1,za0,hB4.cell,g2],?_⟩
     refine ⟨_,?_,by rw [←hx' h0];exact hxe.mono (fun k hk=>hk.1),below_of_grown hG hwb9⟩
     simp [go_sem,zat,zas,za4,za1,za0,hB4.cell,g2]
    ·rw [if_neg h0] at hV
     refine zai (t:=true) (by simp [go_sem,za0,za4,za1,g2,g6,hB1.cell,h0]) rfl ?_
     have hbL:∀ a∈[(⟨b,2,none⟩:Addr),⟨b,3,none⟩],a.block≠b1:=by
      intro a ha
      simp only [List.mem_cons,List.not_mem_nil,or_false] at ha
      rcases ha with rfl|rfl<;>(simp only;omega)
     obtain ⟨k0,k1,k2,k3⟩:=PS.cells (hP.ext (Below.drew1 _))
     have hD5:=Below.drew1 w3
     replace hB1:=hB1.keep hD5
     replace hG:=hG.trans (zad hD5)
     replace hP:=hP.ext hD5
     replace hxe:=hxe.ext hD5
     first|refine W_rdS ([⟨b,2,none⟩,⟨b,3,none⟩]) [(1,0),(2,0),(3,0),(4,0),(5,0),(6,0),(7,0),(8,0),(9,0),(10,0),(0,1),(11,1),(12,0),(13,0)] (by kernel_rfl) (by kernel_rfl) (fun K hK=>?_)|refine W_drawS ([⟨b,2,none⟩,⟨b,3,none⟩]) [(1,0),(2,0),(3,0),(4,0),(5,0),(6,0),(7,0),(8,0),(9,0),(10,0),(0,1),(11,1),(12,0),(13,0)] (by kernel_rfl) (by kernel_rfl) (fun K hK=>?_)
     simp [go_sem,za0,za4,za1,g2,g6,hB1.cell,k2,k3]
     have hkp:Keep ([⟨b,2,none⟩,⟨b,3,none⟩]) w3.drew w3.drew:=keep_refl _ _
     refine zal #[.int .i64 0,.string ⟨#[]⟩,.bool false,.slice none 0 0,.slice none 0 0,.slice none 0 0,.int .i64 0] (by simp [go_sem]) rfl zb3 [] (by simp [go_sem]) rfl ?_
     refine zcV hkp ?_
     simp [go_sem,za0,za4,za1,g2,g6,hB1.cell,k2,k3]
     have hB1':=hB1
     refine za6 (b:=b1) (off:=0) [.int .i64 0,.string ⟨#[]⟩,.bool false,.slice none 0 0,.slice none 0 0,.slice none 0 0,.int .i64 0] (by simp [go_sem,g2,za0]) rfl (by simp [go_sem,g2,za0]) (by simp [go_sem,Value.cells,g2,za0]) zaw hB1' (by simp) (by simp [Value.oneCell']) (by decide) (fun w60 hS60 hB60=>?_)
     simp [zaD] at hB60
     have hkp2:Keep [⟨b,2,none⟩,⟨b,3,none⟩] _ w60:=Keep.sto hbL hS60
     refine zcV hkp2 ?_
     simp [go_sem,hkp2]
     refine hK _ _ ?_;clear hK K
     refine zaf ?_
     repeat (first|refine za3 ?_|refine za2 ?_)
     subst hV
     refine ⟨by simp [go_sem,zaO,zas,za4,za1,za0,hB60.cell,g2],?_⟩
     refine ⟨_,?_,EX.ex0 _ _ _ rfl,below_of_grown (zaB hG hS60 hwb1) hwb9⟩
     simp [go_sem,zat,zas,za4,za1,za0,hB60.cell,g2]
   by_cases h0:p.1.er=0
   ·first|refine zzr fun K hK=>?_|refine zzt fun K hK=>?_
    simp [go_sem,za0,za4,za1,hB1.cell,g2,g6]
    refine za5 (by simp [go_sem,za0,za4,za1,hB1.cell,g2,g6]) rfl Tryz.call15 (fun R hR=>?_)
    simp [go_sem,za0,za4,za1,hB1.cell,g2,g6]
    refine (zcw hP).mono ?_
    rintro e w6 ⟨rfl,hE6⟩
    refine ⟨_,rfl,hR _ _ ?_⟩
    clear hR R
    replace hB1:=hB1.keep hE6
    replace hG:=hG.trans (zad hE6)
    replace hP:=hP.ext hE6
    replace hxe:=hxe.ext hE6
    simp [go_sem,za0,za4,za1,hB1.cell,g2,g6]
    simp [go_sem,za0,za4,za1,hB1.cell,g2,g6,h0]
    refine za5 (by simp [go_sem,za0,za4,za1,hB1.cell,g2,g6,h0,zbH]) rfl Tryz.call13 (fun R hR=>?_)
    simp [go_sem,za0,za4,za1,hB1.cell,g2,g6,h0,zbH]
    refine (zbV hP (by have:=hW.size;unfold maxLen;omega)).mono ?_
    rintro e w7 ⟨rfl,hE7⟩
    refine ⟨_,rfl,hR _ _ ?_⟩
    clear hR R
    replace hB1:=hB1.keep hE7
    replace hG:=hG.trans (zad hE7)
    replace hP:=hP.ext hE7
    replace hxe:=hxe.ext hE7
    simp [go_sem,za0,za4,za1,hB1.cell,g2,g6,h0,zbH]
    refine hK _ _ ?_;clear hK K
    by_cases hk:(zan T p.1.i).k=0
    ·have hk':((zan T p.1.i).k:Int)=0:=by omega
     rw [if_neg (fun h=>h.2 hk)] at hs'
     refine zai (t:=false) (by simp [go_sem,za0,za4,za1,hB1.cell,g2,g6,hk,hk',h0]) rfl ?_
     refine zaa ?_
     refine tail2 _ _ (fun _=>hx h0) (by simp [go_sem,g2]) (by simp [go_sem,g6]) (by rw [hs'];exact hP) hG hB1 hxe
    ·have hk':¬((zan T p.1.i).k:Int)=0:=by omega
     rw [if_pos ⟨h0,hk⟩] at hs'
     refine zai (t:=true) (by simp [go_sem,za0,za4,za1,hB1.cell,g2,g6,hk,hk',h0]) rfl ?_
     first|refine zzr fun K hK=>?_|refine zzt fun K hK=>?_
     simp [go_sem,za0,za4,za1,hB1.cell,g2,g6]
     refine za5 (by simp [go_sem,za0,za4,za1,hB1.cell,g2,g6]) rfl Tryz.call16 (fun R hR=>?_)
     simp [go_sem,za0,za4,za1,hB1.cell,g2,g6]
     refine (zdh hP hW 5).mono ?_
     rintro e w8 ⟨rfl,hQ8,hg8⟩
     refine ⟨_,rfl,hR _ _ ?_⟩
     clear hR R
     replace hxe:=hxe.ch (hP.ch hg8) (by intro k hk e;subst e;first|omega|(have:=hk.1;omega))
     replace hB1:=hB1.grown hg8 (by intro e;injection e with e;omega)
     replace hP:=hQ8
     replace hG:=hG.trans hg8
     clear hQ8
     simp [go_sem,za0,za4,za1,hB1.cell,g2,g6]
     refine hK _ _ ?_;clear hK K
     rw [←hs'] at hP
     refine tail2 _ _ (fun e=>absurd e (by rw [hs'];exact failP_er (by decide))) (by simp [go_sem,g2]) (by simp [go_sem,g6]) hP hG hB1 hxe
   ·rw [if_neg (fun h=>h0 h.1)] at hs'
    first|refine zzr fun K hK=>?_|refine zzt fun K hK=>?_
    simp [go_sem,za0,za4,za1,hB1.cell,g2,g6]
    refine za5 (by simp [go_sem,za0,za4,za1,hB1.cell,g2,g6]) rfl Tryz.call15 (fun R hR=>?_)
    simp [go_sem,za0,za4,za1,hB1.cell,g2,g6]
    refine (zcw hP).mono ?_
    rintro e w9 ⟨rfl,hE9⟩
    refine ⟨_,rfl,hR _ _ ?_⟩
    clear hR R
    replace hB1:=hB1.keep hE9
    replace hG:=hG.trans (zad hE9)
    replace hP:=hP.ext hE9
    replace hxe:=hxe.ext hE9
    simp [go_sem,za0,za4,za1,hB1.cell,g2,g6]
    simp [go_sem,za0,za4,za1,hB1.cell,g2,g6,h0]
    refine hK _ _ ?_;clear hK K
    refine zai (t:=false) (by simp [go_sem,za0,za4,za1,hB1.cell,g2,g6,h0]) rfl ?_
    refine zaa ?_
    refine tail2 _ _ (fun e=>absurd e (by rw [hs'];exact h0)) (by simp [go_sem,g2]) (by simp [go_sem,g6]) (by rw [hs'];exact hP) hG hB1 hxe
  first|refine zzr fun K hK=>?_|refine zzt fun K hK=>?_
  simp [go_sem,za0,za4,za1,hB1.cell]
  refine za5 (by simp [go_sem,za0,za4,za1,hB1.cell]) rfl Tryz.call12 (fun R hR=>?_)
  simp [go_sem,za0,za4,za1,hB1.cell]
  refine (namedS_any hP hW).mono ?_
  rintro e w10 ⟨rfl,hE10⟩
  refine ⟨_,rfl,hR _ _ ?_⟩
  clear hR R
  replace hB1:=hB1.keep hE10
  replace hG:=hG.trans (zad hE10)
  replace hP:=hP.ext hE10
  simp [go_sem,za0,za4,za1,hB1.cell]
  refine hK _ _ ?_;clear hK K
  unfold exprP at hV
  by_cases hnm:nmT T 0 0=true
  ·rw [if_pos hnm] at hV
   have hk1:=(nmT_k hnm).2
   have hlt:=hW.next hpos (show (zan T 0).k≠0 by rw [hk1];decide)
   refine zai (t:=true) (by simp [go_sem,za0,za4,za1,hB1.cell,hnm]) rfl ?_
   have hD11:=Below.drew1 w10
   replace hB1:=hB1.keep hD11
   replace hG:=hG.trans (zad hD11)
   replace hP:=hP.ext hD11
   first|refine W_rd [(0,0),(1,0),(2,0),(5,0),(6,0),(7,0),(3,1),(4,0),(8,1),(9,0),(10,1),(11,2)] (by kernel_rfl) (by kernel_rfl) (fun K hK=>?_)|refine zbG [(0,0),(1,0),(2,0),(5,0),(6,0),(7,0),(3,1),(4,0),(8,1),(9,0),(10,1),(11,2)] (by kernel_rfl) (by kernel_rfl) (fun K hK=>?_)
   simp [go_sem,za0,za4,za1,hB1.cell]
   refine za5 (by simp [go_sem,za0,za4,za1,hB1.cell,zbH]) rfl Tryz.call13 (fun R hR=>?_)
   simp [go_sem,za0,za4,za1,hB1.cell,zbH]
   refine (zbV hP (by have:=hW.size;unfold maxLen;omega)).mono ?_
   rintro e w12 ⟨rfl,hE12⟩
   refine ⟨_,rfl,(by assumption),hR _ _ ?_⟩
   clear hR R
   replace hB1:=hB1.keep hE12
   replace hG:=hG.trans (zad hE12)
   replace hP:=hP.ext hE12
   simp [go_sem,za0,za4,za1,hB1.cell,zbH]
   refine za5 (by simp [go_sem,za0,za4,za1,hB1.cell,zbH]) rfl Tryz.call13 (fun R hR=>?_)
   simp [go_sem,za0,za4,za1,hB1.cell,zbH]
   refine (zbV hP (by have:=hW.size;unfold maxLen;omega)).mono ?_
   rintro e w13 ⟨rfl,hE13⟩
   refine ⟨_,rfl,(by assumption),hR _ _ ?_⟩
   clear hR R
   replace hB1:=hB1.keep hE13
   replace hG:=hG.trans (zad hE13)
   replace hP:=hP.ext hE13
   simp [go_sem,za0,za4,za1,hB1.cell,zbH]
   refine zal #[.int .i64 1,.string ⟨(zan T 0).t.toArray⟩,.bool false,.slice none 0 0,.slice none 0 0,.slice none 0 0,.int .i64 (zan T 0).p] (by simp [go_sem]) rfl zb3 [(0,.int .i64 1),(4,.int .i64 (zan T 0).p),(1,.string ⟨(zan T 0).t.toArray⟩)] (by simp [go_sem,zbH]) rfl ?_
   simp [go_sem,za0,za4,za1,hB1.cell,zbH]
   refine za6 (b:=b1) (off:=0) [.int .i64 1,.string ⟨(zan T 0).t.toArray⟩,.bool false,.slice none 0 0,.slice none 0 0,.slice none 0 0,.int .i64 (zan T 0).p] (by simp [go_sem,za0,za4,za1,hB1.cell]) rfl (by simp [go_sem,za0,za4,za1,hB1.cell]) (by simp [go_sem,Value.cells,za0,za4,za1,hB1.cell]) zaw hB1 (by simp) (by simp [Value.oneCell']) (by decide) (fun w14 hS14 hB14=>?_)
   simp [zaD] at hB14
   replace hG:=zaB hG hS14 hwb1
   replace hP:=hP.sto hS14 (by omega) (fun ad ha=>by have:=hla0 ad ha;omega)
   simp [go_sem,za0,za4,za1,hB14.cell]
   refine hK _ _ ?_;clear hK K
   obtain ⟨k0,k1,k2,k3⟩:=PS.cells hP
   have hw1:IntKind.i64.wrap 1=1:=rfl
   first|refine zzr fun K hK=>?_|refine zzt fun K hK=>?_
   simp [go_sem,za0,za4,za1,hB14.cell, k1,hw1]
   have hbx15:=hP.bx
   refine za6 (b:=b) (off:=1) [.int .i64 ((1:Nat):Int)] (by simp [go_sem,za0,za4,za1,hB14.cell,k1,hw1]) rfl (by simp [go_sem,za0,za4,za1,hB14.cell,k1,hw1]) (by simp [go_sem,Value.cells,za0,za4,za1,hB14.cell,k1,hw1]) zb2 hbx15 (by simp) (by simp [Value.oneCell']) (by decide) (fun w15 hS15 hB15=>?_)
   simp [zaD] at hB15
   have hQ15:PSS w15 b _ la cap T ⟨1,0,0⟩:=PS.next hP (zaR hS15) (by simpa using hB15) hlt
   replace hB14:=hB14.sto hS15 (by omega)
   replace hG:=hG.trans (zaR hS15)
   replace hP:=hQ15
   clear hQ15 hbx15 hS15
   simp [go_sem,za0,za4,za1,hB14.cell,k1,hw1]
   refine hK _ _ ?_;clear hK K
   refine tail _ _ (⟨1,0,0⟩,_) (.mk 1 (zan T 0).t false [] [] [] (zan T 0).p) none none none 0 0 0 hV (fun _=>rfl) (by simp [go_sem]) (by simp [go_sem]) hP hG hB14 (EX.leaf (name:=(zan T 0).t) (pos:=((zan T 0).p:Int)) (by have:=hW.len 0;unfold maxLen;omega))
  ·rw [if_neg hnm] at hV
   refine zai (t:=false) (by simp [go_sem,za0,za4,za1,hB1.cell,hnm]) rfl ?_
   have hbl0:=hP.lt'
   first|refine zzr fun K hK=>?_|refine zzt fun K hK=>?_
   simp [go_sem,za0,za4,za1,hB1.cell]
   refine zaq #[.int .i64 1,.int .i64 2,.int .i64 3] (by simp [go_sem,za0,za4,za1,hB1.cell]) rfl ze1 (by decide) [(0,.int .i64 1),(1,.int .i64 2),(2,.int .i64 3)] (by simp [go_sem,za0,za4,za1,hB1.cell]) (by kernel_rfl) (fun w30 b30 hE30 hle30 hB30=>?_)
   have hwb30:_≤b30:=Nat.le_trans hG.size hle30
   have hd1_30:b1≠b30:=Nat.ne_of_lt (Nat.lt_of_lt_of_le hB1.lt hle30)
   replace hB1:=hB1.keep hE30
   replace hG:=hG.trans (zad hE30)
   replace hP:=hP.ext hE30
   simp [go_sem,za0,za4,za1,hB1.cell,hB30.cell]
   have h1l:=hB1.lt
   have hbl:=hP.lt'
   have hb30:b<b30:=Nat.lt_of_lt_of_le hbl0 hle30
   have hGs:=hG.size
   refine za5 (by simp [go_sem,za0,za4,za1,hB1.cell,hB30.cell]) rfl Tryz.call14 (fun R hR=>?_)
   simp [go_sem,za0,za4,za1,hB1.cell,hB30.cell]
   refine (con1_any hW hP (some ⟨b30,0,none⟩) 3 [1,2,3] (intC_sl (l:=[1,2,3]) hB30) (by decide)).mono ?_
   rintro e w31 ⟨Rx,x,rfl,hxe,hxv,hQ31,hg31⟩
   refine ⟨_,rfl,hR _ _ ?_⟩
   clear hR R
   replace hB1:=hB1.grown hg31 (by intro e;injection e with e;omega)
   replace hB30:=hB30.grown hg31 (by intro e;injection e with e;omega)
   replace hP:=hQ31
   replace hG:=hG.trans hg31
   clear hQ31
   obtain ⟨xa,xc,xb,xd,xad,xcap,xrows,hRx,_⟩:=hxe.open
   subst hRx
   replace hxe:=hxe.mono (F':=fun k=>w.heap.size≤k∧k≠b1∧k≠b) (fun k hk=>⟨Nat.le_trans hGs hk,fun e=>by subst e;exact absurd hk (Nat.not_le.2 h1l),fun e=>by subst e;exact absurd hk (Nat.not_le.2 hbl)⟩)
   simp [go_sem,za0,za4,za1,hB1.cell,hB30.cell]
   refine za6 (b:=b1) (off:=0) [.int .i64 x.kind,.string ⟨x.name.toArray⟩,.bool x.neg,.slice xa x.num.length xc,.slice xb x.den.length xd,.slice xad x.args.length xcap,.int .i64 x.pos] (by simp [go_sem,za0,za4,za1,hB1.cell,hB30.cell]) rfl (by simp [go_sem,za0,za4,za1,hB1.cell,hB30.cell]) (by simp [go_sem,Value.cells,za0,za4,za1,hB1.cell,hB30.cell]) zaw hB1 (by simp) (by simp [Value.oneCell']) (by decide) (fun w32 hS32 hB32=>?_)
   simp [zaD] at hB32
   replace hxe:=hxe.ch (Ch.of_sto hS32 (NL.of_bx hB1 (by intro u hu x e;subst e;simp at hu))) (by intro k hk e;subst e;first|exact hk.2 rfl|omega)
   replace hG:=zaB hG hS32 hwb1
   replace hP:=hP.sto hS32 (by omega) (fun ad ha=>by have:=hla0 ad ha;omega)
   replace hB30:=hB30.sto hS32 (by first|exact hd30_1|exact (hd1_30).symm)
   simp [go_sem,za0,za4,za1,hB30.cell,hB32.cell]
   refine hK _ _ ?_;clear hK K
   refine tail _ _ (conP T (argP T 19) [1,2,3] ⟨0,0,0⟩) x xa xb xad xc xd xcap hV hxv (by simp [go_sem]) (by simp [go_sem]) hP hG hB32 hxe
 ·rw [if_neg he] at hV
  have he':¬((allR s).2.2:Int)=0:=by omega
  refine zai (t:=true) (by simp [go_sem,za0,za4,za1,hB1.cell,he',he]) rfl ?_
  first|refine zzr fun K hK=>?_|refine zzt fun K hK=>?_
  simp [go_sem,za0,za4,za1,hB1.cell]
  refine zal #[.int .i64 0,.string ⟨#[]⟩,.bool false,.slice none 0 0,.slice none 0 0,.slice none 0 0,.int .i64 0] (by simp [go_sem]) rfl zb3 [] (by simp [go_sem]) rfl ?_
  simp [go_sem,za0]
  refine za6 (b:=b1) (off:=0) [.int .i64 0,.string ⟨#[]⟩,.bool false,.slice none 0 0,.slice none 0 0,.slice none 0 0,.int .i64 0] (by simp [go_sem,za0,za4,za1,hB1.cell]) rfl (by simp [go_sem,za0,za4,za1,hB1.cell]) (by simp [go_sem,Value.cells,za0,za4,za1,hB1.cell]) zaw hB1 (by simp) (by simp [Value.oneCell']) (by decide) (fun w33 hS33 hB33=>?_)
  simp [zaD] at hB33
  replace hA0:=hA0.nextS hS33 (by first|exact hb1_0|omega)
  simp [go_sem,za0,za4,za1,hB33.cell]
  refine hK _ _ ?_;clear hK K
  refine zaf ?_
  repeat (first|refine za3 ?_|refine za2 ?_)
  subst hV
  refine ⟨by simp [go_sem,zaO,zas,za4,za1,za0,hB33.cell],?_⟩
  refine ⟨_,?_,EX.ex0 _ _ _ rfl,hA0⟩
  simp [go_sem,zat,zas,za4,za1,za0,hB33.cell]
inductive RW where
 | un
 | int (n:Int)
 | str (s:ByteArray)
 | sl (j n:Nat)
 | row (k s:Int) (w:ByteArray) (j n:Nat)
 deriving DecidableEq
def RW.den (bl:Nat→Nat):RW→Value
 | .un=>undef
 | .int n=>.int .i64 n
 | .str s=>.string s
 | .sl j n=>.slice (some ⟨bl j,0,none⟩) n n
 | .row k s w j n=>.agg #[.int .i64 k,.int .i64 s,.string w,.slice (some ⟨bl j,0,none⟩) n n]
def rwE (env:Nat→RW):Operand→RW
 | .tmp a=>env a
 | .const (.int .i64 n)=>.int n
 | .const (.string s)=>.str s
 | _=>.un
def rwInts (env:Nat→RW):Nat→List (Nat × Operand)→Option (List Int)
 | _,[]=>some []
 | i,(j,x)::r=>if i=j then (match rwE env x,rwInts env (i+1) r with
  | .int n,some l=>some (n::l)
  | _,_=>none) else none
def rwSet (env:Nat→RW) (d:Nat) (v:RW):Nat→RW:=fun s=>if s=d then v else env s
def zdV:Nat→List Oper→(Nat→RW)→List (List Int)→Option ((Nat→RW) × List (List Int) × List Oper)
 | 0,l,env,bs=>some (env,bs,l)
 | n+1,⟨some d,op,ty,pos,af,none⟩::r,env,bs=>match op with
  | .move x=>zdV n r (rwSet env d (rwE env x)) bs
  | .buildSlice t m parts=>if t=56∧m=parts.size∧m≤6∧0<m then (match rwInts env 0 parts.toList with
   | some l=>zdV n r (rwSet env d (.sl bs.length m)) (bs++[l])
   | none=>none) else none
  | .build t parts=>if t=103 then (match parts.toList with
   | [(0,a),(1,b),(2,c),(3,e)]=>(match rwE env a,rwE env b,rwE env c,rwE env e with
    | .int k,.int s,.str w,.sl j m=>zdV n r (rwSet env d (.row k s w j m)) bs
    | _,_,_,_=>none)
   | _=>none) else none
  | _=>none
 | _+1,_,_,_=>none
theorem rwE_den {bl:Nat→Nat} {env:Nat→RW} {g:G} (hg:∀ s,env s≠.un→g s=(env s).den bl) (x:Operand) (h:rwE env x≠.un):evG g x=(rwE env x).den bl:=by
 unfold rwE at h ⊢
 split at h
 ·exact hg _ h
 ·rfl
 ·rfl
 ·exact absurd rfl h
theorem rwInts_den {bl:Nat→Nat} {env:Nat→RW} {g:G} (hg:∀ s,env s≠.un→g s=(env s).den bl):∀ (l:List (Nat × Operand)) (i:Nat) (r:List Int),rwInts env i l=some r →
  r.length=l.length∧(l.map fun x=>(x.1,evG g x.2))=(List.range' i l.length).zip (intC r)
 | [],i,r,h=>by
  simp only [rwInts,Option.some.injEq] at h;subst h;exact ⟨rfl,rfl⟩
 | (j,x)::l,i,r,h=>by
  simp only [rwInts] at h
  split at h
  ·rename_i hij
   subst hij
   split at h
   ·rename_i n r' hx hr
    injection h with h;subst h
    obtain ⟨h1,h2⟩:=rwInts_den hg l (i+1) r' hr
    refine ⟨by simp [h1],?_⟩
    rw [List.map_cons,h2,List.length_cons,List.range'_succ]
    have:evG g x = .int .i64 n:=by rw [rwE_den hg x (by rw [hx];simp),hx];rfl
    simp [intC,this]
   ·cases h
  ·cases h
theorem fill_ints:∀ (r:List Int),0<r.length→r.length≤6→Instr.fill (fun i=>some (i*1,1)) ((Array.range (r.length*1)).map ((if r.length*1=0 then #[] else #[.int .i64 0])[· % (if r.length*1=0 then #[] else (#[.int .i64 0]:Array Value)).size]!)) ((List.range' 0 r.length).zip (intC r))=some (intC r).toArray
 | [],h,_=>by cases h
 | [a],_,_=>by kernel_rfl
 | [a,b],_,_=>by kernel_rfl
 | [a,b,c],_,_=>by kernel_rfl
 | [a,b,c,d],_,_=>by kernel_rfl
 | [a,b,c,d,e],_,_=>by kernel_rfl
 | [a,b,c,d,e,f],_,_=>by kernel_rfl
 | _::_::_::_::_::_::_::_,_,h=>by simp at h
def RW.ok (n:Nat):RW→Prop
 | .sl j _=>j<n
 | .row _ _ _ j _=>j<n
 | _=>True
theorem RW.ok_mono {n m:Nat} {v:RW} (h:v.ok n) (hm:n≤m):v.ok m:=by
 cases v<;>first|trivial|exact Nat.lt_of_lt_of_le h hm
theorem RW.den_ext {n:Nat} {v:RW} {bl bl':Nat→Nat} (h:v.ok n) (hb:∀ j,j<n→bl' j=bl j):v.den bl'=v.den bl:=by
 cases v<;>first
  | rfl
  | (simp only [RW.den];rw [hb _ h])
theorem rwE_ok {n:Nat} {env:Nat→RW} (h:∀ s,(env s).ok n) (x:Operand):(rwE env x).ok n:=by
 unfold rwE
 split<;>first|exact h _|trivial
theorem rwSet_ok {n:Nat} {env:Nat→RW} (h:∀ s,(env s).ok n) (d:Nat) {v:RW} (hv:v.ok n):∀ s,(rwSet env d v s).ok n:=by
 intro s;unfold rwSet;split
 ·exact hv
 ·exact h s
section
variable {ops:Array Oper} {W0:Nat}
theorem rwSet_den {env:Nat→RW} {g:G} {d:Nat} {v:RW} {x:Value} {bl:Nat→Nat} (hv:v≠.un→x=v.den bl) (hg:∀ s,env s≠.un→g s=(env s).den bl):∀ s,rwSet env d v s≠.un→upd g d x s=(rwSet env d v s).den bl:=by
 intro s hs
 unfold rwSet at hs ⊢
 rw [upd_apply]
 by_cases e:s=d
 ·rw [if_pos e] at hs ⊢;rw [if_pos e];exact hv hs
 ·rw [if_neg e] at hs ⊢;rw [if_neg e];exact hg s hs
theorem rw_sound:∀ (n:Nat) (l:List Oper) (env:Nat→RW) (bs:List (List Int)) (env':Nat→RW) (bs':List (List Int)) (rest:List Oper),zdV n l env bs=some (env',bs',rest)→∀ (g:G) (w:World) (bl:Nat→Nat) (K:G→World→Prop),
  (∀ s,env s≠.un→g s=(env s).den bl)→(∀ j p,bs[j]? = some p→Bx w (bl j) (intC p).toArray 3∧W0≤bl j)→W0≤w.heap.size→(∀ s,(env s).ok bs.length) →
  (∀ (g':G) (w':World) (bl':Nat→Nat),(∀ s,env' s≠.un→g' s=(env' s).den bl')→(∀ j p,bs'[j]? = some p→Bx w' (bl' j) (intC p).toArray 3∧W0≤bl' j)→Below w.heap.size w w'→zcp Tryz.prog ops rest g' w' K)→zcp Tryz.prog ops l g w K
 | 0,l,env,bs,env',bs',rest,h,g,w,bl,K,hg,hb,hW,hj,hk=>by
  simp only [zdV,Option.some.injEq,Prod.mk.injEq] at h
  obtain ⟨rfl,rfl,rfl⟩:=h
  exact hk g w bl hg hb (Below.refl _ _)
 | n+1,[],env,bs,env',bs',rest,h,g,w,bl,K,hg,hb,hW,hj,hk=>by simp [zdV] at h
 | n+1,⟨none,op,ty,pos,af,gd⟩::r,env,bs,env',bs',rest,h,g,w,bl,K,hg,hb,hW,hj,hk=>by simp [zdV] at h
 | n+1,⟨some d,op,ty,pos,af,some gd⟩::r,env,bs,env',bs',rest,h,g,w,bl,K,hg,hb,hW,hj,hk=>by simp [zdV] at h
 | n+1,⟨some d,op,ty,pos,af,none⟩::r,env,bs,env',bs',rest,h,g,w,bl,K,hg,hb,hW,hj,hk=>by
  cases op with
  | move x =>
   simp only [zdV] at h
   simp only [walkL_cons,hy_move,stepL_plain]
   refine ⟨by simp [go_sem],?_⟩
   have e1:lvO Tryz.prog w (evG g) ty (.move x)=evG g x:=rfl
   rw [e1]
   exact rw_sound n r _ bs env' bs' rest h _ w bl K (rwSet_den (fun hx=>rwE_den hg x hx) hg) hb hW (rwSet_ok hj d (rwE_ok hj x)) hk
  | buildSlice t m parts =>
   simp only [zdV] at h
   split at h
   ·rename_i hc
    obtain ⟨rfl,rfl,h6,h0⟩:=hc
    split at h
    ·rename_i l hl
     obtain ⟨q1,q2⟩:=rwInts_den hg _ _ _ hl
     simp only [walkL_cons,hy_buildSlice,stepL_heavy]
     have hsz:parts.size=l.length:=by rw [q1];simp
     refine zaq (intC l).toArray rfl rfl ze1 (by omega) _ q2 ?_ (fun w1 b hE hle hB=>?_)
     ·rw [hsz,show parts.toList.length=l.length from q1.symm]
      exact fill_ints l (by omega) (by omega)
     ·simp only [nxL_eq,updO_some]
      have hbl:∀ j,j<bs.length→(fun j=>if j=bs.length then b else bl j) j=bl j:=fun j hj'=>if_neg (by omega)
      refine rw_sound n r _ (bs++[l]) env' bs' rest h _ w1 (fun j=>if j=bs.length then b else bl j) K (rwSet_den (fun _=>?_) (fun s hs=>?_)) ?_ (Nat.le_trans hW hE.size) ?_ ?_
      ·unfold RW.den;simp [hsz]
      ·rw [RW.den_ext (hj s) hbl];exact hg s hs
      ·intro j p hp
       by_cases e:j=bs.length
       ·subst e
        rw [List.getElem?_append_right (Nat.le_refl _),Nat.sub_self] at hp
        simp at hp;subst hp
        simp only [if_true]
        exact ⟨hB,Nat.le_trans hW hle⟩
       ·have hlt:j<bs.length:=by
         rcases Nat.lt_or_ge j bs.length with h1|h1
         ·exact h1
         ·rw [List.getElem?_eq_none (by simp;omega)] at hp;cases hp
        rw [List.getElem?_append_left hlt] at hp
        simp only [if_neg e]
        exact ⟨(hb j p hp).1.keep hE,(hb j p hp).2⟩
      ·rw [List.length_append]
       exact rwSet_ok (fun s=>RW.ok_mono (hj s) (Nat.le_add_right _ _)) d (show bs.length<bs.length+1 by omega)
      ·intro g' w' bl' h1 h2 h3
       exact hk g' w' bl' h1 h2 (hE.next h3)
    ·cases h
   ·cases h
  | build t parts =>
   simp only [zdV] at h
   split at h
   ·rename_i hc
    subst hc
    split at h
    ·rename_i a b c e hp
     split at h
     ·rename_i k s wd j m ha hb' hc' he
      simp only [walkL_cons,hy_build,stepL_heavy]
      have ea:=rwE_den hg a (by rw [ha];simp)
      have eb:=rwE_den hg b (by rw [hb'];simp)
      have ec:=rwE_den hg c (by rw [hc'];simp)
      have ee:=rwE_den hg e (by rw [he];simp)
      rw [ha] at ea;rw [hb'] at eb;rw [hc'] at ec;rw [he] at ee
      have hok:=rwE_ok hj e
      rw [he] at hok
      refine zal #[.int .i64 k,.int .i64 s,.string wd,.slice (some ⟨bl j,0,none⟩) m m] rfl rfl ty_stZ103 [(0,.int .i64 k),(1,.int .i64 s),(2,.string wd),(3,.slice (some ⟨bl j,0,none⟩) m m)] ?_ (by kernel_rfl) ?_
      ·rw [hp]
       simp only [List.map_cons,List.map_nil,ea,eb,ec,ee]
       rfl
      ·simp only [nxL_eq,updO_some]
       exact rw_sound n r _ bs env' bs' rest h _ w bl K (rwSet_den (fun _=>rfl) hg) hb hW (rwSet_ok hj d hok) hk
     ·cases h
    ·cases h
   ·cases h
  | _=>simp [zdV] at h
end
end Go.Proofs.YtefhenfofomjhaaGreat
