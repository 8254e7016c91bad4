/- The reference's table of constructions. -/
import Derived.Test.YtefhenfofomjhaaGreatSx2
import Derived.Test.YtefhenfofomjhaaGreatIc2
import Derived.Test.YtefhenfofomjhaaGreatPp2
set_option linter.unusedSimpArgs false
set_option linter.unusedVariables false
set_option maxHeartbeats 4000000
set_option maxRecDepth 20000
namespace Go.Proofs.YtefhenfofomjhaaGreat
open Go Go.RowKit Go.V
theorem statement_any {b tb cap:Nat} {la:Option Addr} {T:List Tok} (hW:Wf T) {w:World} {s:PSt} (h:PSS w b tb la cap T s) :
  Calls Tryz.prog 21 #[.pointer (some ⟨b,0,none⟩)] w (StmPost w b tb la cap T (stmP T s)):=by
 have hT:T.length≤maxLen:=by have:=hW.size;unfold maxLen;omega
 obtain ⟨Z,hZ⟩:∃ Z,Z=stmP T s:=⟨_,rfl⟩
 rw [←hZ]
 obtain ⟨q0,hq0⟩:∃ q:PSt × Stm,q=(if isT T s.er s.i zcr=true then ((zei T (zb4 T zcr s)).1,⟨1,(zei T (zb4 T zcr s)).2,ex0,(zai T s.i).p⟩)
  else if isT T s.er s.i wLine=true then defP T 3 2 (zai T s.i).p (zb4 T wLine s)
  else if isT T s.er s.i zcQ=true then defP T 4 3 (zai T s.i).p (zb4 T zcQ s)
  else if isT T s.er s.i zda=true then ((conP T (argP T 19) [4] (zb4 T zda s)).1,⟨5,[],(conP T (argP T 19) [4] (zb4 T zda s)).2,(zai T s.i).p⟩)
  else if nmT T s.er s.i=true then defP T 2 1 (zai T s.i).p s
  else (zbN T 5 s,⟨0,[],ex0,(zai T s.i).p⟩)):=⟨_,rfl⟩
 replace hZ:Z=(zc8 T sSC q0.1,q0.2):=by rw [hZ,hq0];rfl
 refine za5 (rs:=[.cell 2 64]) (n:=71) Tryz.func21 rfl rfl rfl (by kernel_rfl) ?_
 have hP:=h
 have hG:w.grownBy w (some b):=zaa (Below.refl _ _)
 have hb0:=h.lt'
 have hla0:=h.lab
 refine zzr fun K hK=>?_
 simp [go_sem,za0,za4,za1]
 refine zza rfl zbD (fun w1 b1 hE1 hle1 hB1=>?_)
 have hwb1:_≤b1:=Nat.le_trans hG.size hle1
 replace hG:=hG.trans (zaa hE1)
 replace hP:=hP.ext hE1
 simp [go_sem,za0,za4,za1,hB1.cell]
 apply hK;clear hK K
 refine zzr fun K hK=>?_
 simp [go_sem,za0,za4,za1,hB1.cell]
 refine zzc rfl Tryz.call13 (fun R hR=>?_)
 simp [go_sem,za0,za4,za1,hB1.cell,zcV]
 refine (zcd hP hT).mono ?_
 rintro e w2 ⟨rfl,hE2⟩
 refine ⟨_,rfl,hR _ _ ?_⟩
 clear hR R
 replace hB1:=hB1.keep hE2
 replace hG:=hG.trans (zaa hE2)
 replace hP:=hP.ext hE2
 simp [go_sem,za0,za4,za1,hB1.cell,zcV]
 refine zal #[.int .i64 0,.slice none 0 0,.int .i64 0,.string ⟨#[]⟩,.bool false,.slice none 0 0,.slice none 0 0,.slice none 0 0,.int .i64 0,.int .i64 (zai T s.i).p] (by simp [go_sem]) rfl ty_stZ64 [(3,.int .i64 (zai T s.i).p)] (by simp [go_sem]) rfl ?_
 simp [go_sem,za0]
 refine zza rfl zbD (fun w20 b20 hE20 hle20 hB20=>?_)
 have hwb20:_≤b20:=Nat.le_trans hG.size hle20
 have hd1_20:b1≠b20:=Nat.ne_of_lt (Nat.lt_of_lt_of_le hB1.lt hle20)
 replace hB1:=hB1.keep hE20
 replace hG:=hG.trans (zaa hE20)
 replace hP:=hP.ext hE20
 simp [go_sem,za0,za4,za1,hB1.cell,hB20.cell]
 refine zzs (b:=b20) (off:=0) [.int .i64 0,.slice none 0 0,.int .i64 0,.string ⟨#[]⟩,.bool false,.slice none 0 0,.slice none 0 0,.slice none 0 0,.int .i64 0,.int .i64 (zai T s.i).p] rfl zaJ hB20 (fun w21 hS21 hB21=>?_) (by simp [go_sem,Value.cells])
 simp [zaw] at hB21
 replace hG:=zan hG hS21 hwb20
 replace hP:=hP.sto hS21 (by omega) (fun ad ha=>by have:=hla0 ad ha;omega)
 replace hB1:=hB1.sto hS21 (by first|exact hd1_20|exact (hd20_1).symm)
 simp [go_sem,za0,za4,za1,hB1.cell,hB21.cell]
 apply hK;clear hK K
 obtain ⟨pos,hpos⟩:∃ p:Int,p=(zai T s.i).p:=⟨_,rfl⟩
 rw [←hpos] at hq0
 have hB20:=hB21
 rw [←hpos] at hB20
 have hB1:=hB1
 refine zab (fun K1 hK1=>?_)
 have tail:∀ (g:G) (w9:World) (q:PSt × Stm) (x:Stm) (a:Option Addr) (c:Nat) (ya:Option Addr) (yc:Nat) (yb:Option Addr) (yd:Nat) (ye:Option Addr) (yp:Nat),q0=q→(q.1.er=0→x=q.2)→g 0 = .pointer (some ⟨b,0,none⟩)→g 2 = .pointer (some ⟨b1,0,none⟩)→g 3 = .pointer (some ⟨b20,0,none⟩)→PSS w9 b tb la cap T q.1→w.grownBy w9 (some b)→Bx w9 b1 #[.int .i64 0,.slice none 0 0,.int .i64 0,.string ⟨#[]⟩,.bool false,.slice none 0 0,.slice none 0 0,.slice none 0 0,.int .i64 0,.int .i64 0] 64→Bx w9 b20 #[.int .i64 x.kind,.slice a x.names.length c,.int .i64 x.expr.kind,.string ⟨x.expr.name.toArray⟩,.bool x.expr.neg,.slice ya x.expr.num.length yc,.slice yb x.expr.den.length yd,.slice ye x.expr.args.length yp,.int .i64 x.expr.pos,.int .i64 x.pos] 64→NmS w9 (fun k=>w.heap.size≤k∧k≠b1∧k≠b20) a x.names→EX w9 (fun k=>w.heap.size≤k∧k≠b1∧k≠b20) [.int .i64 x.expr.kind,.string ⟨x.expr.name.toArray⟩,.bool x.expr.neg,.slice ya x.expr.num.length yc,.slice yb x.expr.den.length yd,.slice ye x.expr.args.length yp,.int .i64 x.expr.pos] x.expr→K1 g w9:=by
  clear hP hG hB1 hB20
  intro g w9 q x a c ya yc yb yd ye yp hq hx g0 g2 g3 hP hG hB1 hB20 hnm hxe
  rw [hq] at hZ
  apply hK1
  refine zzr fun K hK=>?_
  simp [go_sem,za0,za4,za1,hB1.cell,hB20.cell,g0,g2,g3]
  refine zzc rfl Tryz.call29 (fun R hR=>?_)
  simp [go_sem,za0,za4,za1,hB1.cell,hB20.cell,g0,g2,g3]
  refine (zdH hP hW sSC).mono ?_
  rintro e w80 ⟨rfl,hQ80,hg80⟩
  refine ⟨_,rfl,hR _ _ ?_⟩
  clear hR R
  replace hnm:=hnm.ch (hP.ch hg80) (by intro k hk e;subst e;first|omega|(have:=hk.1;omega))
  replace hxe:=hxe.ch (hP.ch hg80) (by intro k hk e;subst e;first|omega|(have:=hk.1;omega))
  replace hB1:=hB1.grown hg80 (by intro e;injection e with e;omega)
  replace hB20:=hB20.grown hg80 (by intro e;injection e with e;omega)
  replace hP:=hQ80
  replace hG:=hG.trans hg80
  clear hQ80
  simp [go_sem,za0,za4,za1,hB1.cell,hB20.cell,g0,g2,g3]
  apply hK;clear hK K
  refine zzr fun K hK=>?_
  simp [go_sem,za0,za4,za1,hB1.cell,hB20.cell,g0,g2,g3]
  refine zzs (b:=b1) (off:=0) [.int .i64 x.kind,.slice a x.names.length c,.int .i64 x.expr.kind,.string ⟨x.expr.name.toArray⟩,.bool x.expr.neg,.slice ya x.expr.num.length yc,.slice yb x.expr.den.length yd,.slice ye x.expr.args.length yp,.int .i64 x.expr.pos,.int .i64 x.pos] rfl zaJ hB1 (fun w81 hS81 hB81=>?_) (by simp [go_sem,Value.cells,g0,g2,g3])
  simp [zaw] at hB81
  replace hnm:=hnm.ch (Ch.of_sto hS81 (NL.of_bx hB1 (by intro u hu x e;subst e;simp at hu))) (by intro k hk e;subst e;first|exact hk.2 rfl|omega)
  replace hxe:=hxe.ch (Ch.of_sto hS81 (NL.of_bx hB1 (by intro u hu x e;subst e;simp at hu))) (by intro k hk e;subst e;first|exact hk.2 rfl|omega)
  replace hG:=zan hG hS81 hwb1
  replace hP:=hP.sto hS81 (by omega) (fun ad ha=>by have:=hla0 ad ha;omega)
  replace hB20:=hB20.sto hS81 (by first|exact hd20_1|exact (hd1_20).symm)
  simp [go_sem,za0,za4,za1,hB20.cell,g0,g2,g3,hB81.cell]
  apply hK;clear hK K
  refine zad ?_
  repeat first|refine za3 ?_|refine za2 ?_
  refine ⟨by simp [go_sem,zaD,zam,za4,za1,za0,hB81.cell,g2],?_⟩
  refine ⟨_,x,?_,⟨a,c,_,rfl,hnm.mono (fun k hk=>hk.1),hxe.mono (fun k hk=>hk.1)⟩,fun e=>?_,by rw [hZ];exact hP,hG⟩
  ·simp [go_sem,zar,zam,za4,za1,za0,hB81.cell,g2]
  ·rw [hZ] at e ⊢
   refine hx ?_
   by_cases h0:q.1.er=0
   ·exact h0
   ·rw [zcs h0] at e;exact e
 refine zac ?_
 have key:∀ t,isT T s.er s.i t=false→zb4 T t s=s:=fun t ht=>by unfold zb4;rw [ht,if_neg (by decide)]
 cases c1:isT T s.er s.i zcr with
 | true =>
  rw [if_pos c1] at hq0
  refine zzr fun K hK=>?_
  simp [go_sem,za0,za4,za1,hB1.cell,hB20.cell]
  refine zzc rfl Tryz.call42 (fun R hR=>?_)
  simp [go_sem,za0,za4,za1,hB1.cell,hB20.cell]
  refine (zc1 hP hW zcr).mono ?_
  rintro e w30 ⟨rfl,hQ30,hg30⟩
  refine ⟨_,rfl,hR _ _ ?_⟩
  clear hR R
  replace hB1:=hB1.grown hg30 (by intro e;injection e with e;omega)
  replace hB20:=hB20.grown hg30 (by intro e;injection e with e;omega)
  replace hP:=hQ30
  replace hG:=hG.trans hg30
  clear hQ30
  simp [go_sem,za0,za4,za1,hB1.cell,hB20.cell]
  rw [c1]
  apply hK;clear hK K
  refine zaf (t:=true) (by simp [go_sem]) rfl ?_
  refine zzt fun K hK=>?_
  simp [go_sem,za0,za4,za1,hB1.cell,hB20.cell]
  have hwz:=hG.size
  have h1l:=hB1.lt
  have h20l:=hB20.lt
  refine zzc rfl Tryz.call43 (fun R hR=>?_)
  simp [go_sem,za0,za4,za1,hB1.cell,hB20.cell]
  refine (points_any hW hP pos).mono ?_
  rintro e w70 ⟨Rx,x,rfl,hsx,hxv,hQ70,hg70⟩
  refine ⟨_,rfl,hR _ _ ?_⟩
  clear hR R
  replace hB1:=hB1.grown hg70 (by intro e;injection e with e;omega)
  replace hB20:=hB20.grown hg70 (by intro e;injection e with e;omega)
  replace hP:=hQ70
  replace hG:=hG.trans hg70
  clear hQ70
  obtain ⟨a,c,ya,yc,yb,yd,ye,yp,hRx,hnm,hxe⟩:=hsx.open
  subst hRx
  replace hnm:=hnm.mono (F':=fun k=>w.heap.size≤k∧k≠b1∧k≠b20) (fun k hk=>⟨Nat.le_trans hwz hk,fun e=>by subst e;exact absurd hk (Nat.not_le.2 h1l),fun e=>by subst e;exact absurd hk (Nat.not_le.2 h20l)⟩)
  replace hxe:=hxe.mono (F':=fun k=>w.heap.size≤k∧k≠b1∧k≠b20) (fun k hk=>⟨Nat.le_trans hwz hk,fun e=>by subst e;exact absurd hk (Nat.not_le.2 h1l),fun e=>by subst e;exact absurd hk (Nat.not_le.2 h20l)⟩)
  simp [go_sem,za0,za4,za1,hB1.cell,hB20.cell]
  refine zzs (b:=b20) (off:=0) [.int .i64 x.kind,.slice a x.names.length c,.int .i64 x.expr.kind,.string ⟨x.expr.name.toArray⟩,.bool x.expr.neg,.slice ya x.expr.num.length yc,.slice yb x.expr.den.length yd,.slice ye x.expr.args.length yp,.int .i64 x.expr.pos,.int .i64 x.pos] rfl zaJ hB20 (fun w71 hS71 hB71=>?_) (by simp [go_sem,Value.cells])
  simp [zaw] at hB71
  replace hnm:=hnm.ch (Ch.of_sto hS71 (NL.of_bx hB20 (by intro u hu x e;subst e;simp at hu))) (by intro k hk e;subst e;first|exact hk.2 rfl|omega)
  replace hxe:=hxe.ch (Ch.of_sto hS71 (NL.of_bx hB20 (by intro u hu x e;subst e;simp at hu))) (by intro k hk e;subst e;first|exact hk.2 rfl|omega)
  replace hG:=zan hG hS71 hwb20
  replace hP:=hP.sto hS71 (by omega) (fun ad ha=>by have:=hla0 ad ha;omega)
  replace hB1:=hB1.sto hS71 (by first|exact hd1_20|exact (hd20_1).symm)
  simp [go_sem,za0,za4,za1,hB1.cell,hB71.cell]
  apply hK;clear hK K
  refine tail _ _ _ x a c ya yc yb yd ye yp ?_ ?_ (by simp [go_sem]) (by simp [go_sem]) (by simp [go_sem]) hP hG hB1 hB71 hnm hxe
  ·exact hq0
  ·exact hxv
 | false =>
  rw [if_neg (by rw [c1];decide)] at hq0
  refine zzr fun K hK=>?_
  simp [go_sem,za0,za4,za1,hB1.cell,hB20.cell]
  refine zzc rfl Tryz.call42 (fun R hR=>?_)
  simp [go_sem,za0,za4,za1,hB1.cell,hB20.cell]
  refine (zc1 hP hW zcr).mono ?_
  rintro e w30 ⟨rfl,hQ30,hg30⟩
  refine ⟨_,rfl,hR _ _ ?_⟩
  clear hR R
  replace hB1:=hB1.grown hg30 (by intro e;injection e with e;omega)
  replace hB20:=hB20.grown hg30 (by intro e;injection e with e;omega)
  replace hP:=hQ30
  replace hG:=hG.trans hg30
  clear hQ30
  simp [go_sem,za0,za4,za1,hB1.cell,hB20.cell]
  rw [show zb4 T zcr s=s by unfold zb4;rw [if_neg (by rw [c1];decide)]] at hP
  rw [c1]
  apply hK;clear hK K
  refine zaf (t:=false) (by simp [go_sem]) rfl ?_
  cases c2:isT T s.er s.i wLine with
  | true =>
   rw [if_pos c2] at hq0
   refine zzr fun K hK=>?_
   simp [go_sem,za0,za4,za1,hB1.cell,hB20.cell]
   refine zzc rfl Tryz.call42 (fun R hR=>?_)
   simp [go_sem,za0,za4,za1,hB1.cell,hB20.cell]
   refine (zc1 hP hW wLine).mono ?_
   rintro e w40 ⟨rfl,hQ40,hg40⟩
   refine ⟨_,rfl,hR _ _ ?_⟩
   clear hR R
   replace hB1:=hB1.grown hg40 (by intro e;injection e with e;omega)
   replace hB20:=hB20.grown hg40 (by intro e;injection e with e;omega)
   replace hP:=hQ40
   replace hG:=hG.trans hg40
   clear hQ40
   simp [go_sem,za0,za4,za1,hB1.cell,hB20.cell]
   rw [c2]
   apply hK;clear hK K
   refine zaf (t:=true) (by simp [go_sem]) rfl ?_
   refine zzt fun K hK=>?_
   simp [go_sem,za0,za4,za1,hB1.cell,hB20.cell]
   have hwz:=hG.size
   have h1l:=hB1.lt
   have h20l:=hB20.lt
   refine zzc rfl Tryz.call44 (fun R hR=>?_)
   simp [go_sem,za0,za4,za1,hB1.cell,hB20.cell]
   refine (define_any hW hP pos 3 2).mono ?_
   rintro e w70 ⟨Rx,x,rfl,hsx,hxv,hQ70,hg70⟩
   refine ⟨_,rfl,hR _ _ ?_⟩
   clear hR R
   replace hB1:=hB1.grown hg70 (by intro e;injection e with e;omega)
   replace hB20:=hB20.grown hg70 (by intro e;injection e with e;omega)
   replace hP:=hQ70
   replace hG:=hG.trans hg70
   clear hQ70
   obtain ⟨a,c,ya,yc,yb,yd,ye,yp,hRx,hnm,hxe⟩:=hsx.open
   subst hRx
   replace hnm:=hnm.mono (F':=fun k=>w.heap.size≤k∧k≠b1∧k≠b20) (fun k hk=>⟨Nat.le_trans hwz hk,fun e=>by subst e;exact absurd hk (Nat.not_le.2 h1l),fun e=>by subst e;exact absurd hk (Nat.not_le.2 h20l)⟩)
   replace hxe:=hxe.mono (F':=fun k=>w.heap.size≤k∧k≠b1∧k≠b20) (fun k hk=>⟨Nat.le_trans hwz hk,fun e=>by subst e;exact absurd hk (Nat.not_le.2 h1l),fun e=>by subst e;exact absurd hk (Nat.not_le.2 h20l)⟩)
   simp [go_sem,za0,za4,za1,hB1.cell,hB20.cell]
   refine zzs (b:=b20) (off:=0) [.int .i64 x.kind,.slice a x.names.length c,.int .i64 x.expr.kind,.string ⟨x.expr.name.toArray⟩,.bool x.expr.neg,.slice ya x.expr.num.length yc,.slice yb x.expr.den.length yd,.slice ye x.expr.args.length yp,.int .i64 x.expr.pos,.int .i64 x.pos] rfl zaJ hB20 (fun w71 hS71 hB71=>?_) (by simp [go_sem,Value.cells])
   simp [zaw] at hB71
   replace hnm:=hnm.ch (Ch.of_sto hS71 (NL.of_bx hB20 (by intro u hu x e;subst e;simp at hu))) (by intro k hk e;subst e;first|exact hk.2 rfl|omega)
   replace hxe:=hxe.ch (Ch.of_sto hS71 (NL.of_bx hB20 (by intro u hu x e;subst e;simp at hu))) (by intro k hk e;subst e;first|exact hk.2 rfl|omega)
   replace hG:=zan hG hS71 hwb20
   replace hP:=hP.sto hS71 (by omega) (fun ad ha=>by have:=hla0 ad ha;omega)
   replace hB1:=hB1.sto hS71 (by first|exact hd1_20|exact (hd20_1).symm)
   simp [go_sem,za0,za4,za1,hB1.cell,hB71.cell]
   apply hK;clear hK K
   refine tail _ _ _ x a c ya yc yb yd ye yp ?_ ?_ (by simp [go_sem]) (by simp [go_sem]) (by simp [go_sem]) hP hG hB1 hB71 hnm hxe
   ·exact hq0
   ·exact hxv
  | false =>
   rw [if_neg (by rw [c2];decide)] at hq0
   refine zzr fun K hK=>?_
   simp [go_sem,za0,za4,za1,hB1.cell,hB20.cell]
   refine zzc rfl Tryz.call42 (fun R hR=>?_)
   simp [go_sem,za0,za4,za1,hB1.cell,hB20.cell]
   refine (zc1 hP hW wLine).mono ?_
   rintro e w40 ⟨rfl,hQ40,hg40⟩
   refine ⟨_,rfl,hR _ _ ?_⟩
   clear hR R
   replace hB1:=hB1.grown hg40 (by intro e;injection e with e;omega)
   replace hB20:=hB20.grown hg40 (by intro e;injection e with e;omega)
   replace hP:=hQ40
   replace hG:=hG.trans hg40
   clear hQ40
   simp [go_sem,za0,za4,za1,hB1.cell,hB20.cell]
   rw [show zb4 T wLine s=s by unfold zb4;rw [if_neg (by rw [c2];decide)]] at hP
   rw [c2]
   apply hK;clear hK K
   refine zaf (t:=false) (by simp [go_sem]) rfl ?_
   cases c3:isT T s.er s.i zcQ with
   | true =>
    rw [if_pos c3] at hq0
    refine zzr fun K hK=>?_
    simp [go_sem,za0,za4,za1,hB1.cell,hB20.cell]
    refine zzc rfl Tryz.call42 (fun R hR=>?_)
    simp [go_sem,za0,za4,za1,hB1.cell,hB20.cell]
    refine (zc1 hP hW zcQ).mono ?_
    rintro e w50 ⟨rfl,hQ50,hg50⟩
    refine ⟨_,rfl,hR _ _ ?_⟩
    clear hR R
    replace hB1:=hB1.grown hg50 (by intro e;injection e with e;omega)
    replace hB20:=hB20.grown hg50 (by intro e;injection e with e;omega)
    replace hP:=hQ50
    replace hG:=hG.trans hg50
    clear hQ50
    simp [go_sem,za0,za4,za1,hB1.cell,hB20.cell]
    rw [c3]
    apply hK;clear hK K
    refine zaf (t:=true) (by simp [go_sem]) rfl ?_
    refine zzt fun K hK=>?_
    simp [go_sem,za0,za4,za1,hB1.cell,hB20.cell]
    have hwz:=hG.size
    have h1l:=hB1.lt
    have h20l:=hB20.lt
    refine zzc rfl Tryz.call44 (fun R hR=>?_)
    simp [go_sem,za0,za4,za1,hB1.cell,hB20.cell]
    refine (define_any hW hP pos 4 3).mono ?_
    rintro e w70 ⟨Rx,x,rfl,hsx,hxv,hQ70,hg70⟩
    refine ⟨_,rfl,hR _ _ ?_⟩
    clear hR R
    replace hB1:=hB1.grown hg70 (by intro e;injection e with e;omega)
    replace hB20:=hB20.grown hg70 (by intro e;injection e with e;omega)
    replace hP:=hQ70
    replace hG:=hG.trans hg70
    clear hQ70
    obtain ⟨a,c,ya,yc,yb,yd,ye,yp,hRx,hnm,hxe⟩:=hsx.open
    subst hRx
    replace hnm:=hnm.mono (F':=fun k=>w.heap.size≤k∧k≠b1∧k≠b20) (fun k hk=>⟨Nat.le_trans hwz hk,fun e=>by subst e;exact absurd hk (Nat.not_le.2 h1l),fun e=>by subst e;exact absurd hk (Nat.not_le.2 h20l)⟩)
    replace hxe:=hxe.mono (F':=fun k=>w.heap.size≤k∧k≠b1∧k≠b20) (fun k hk=>⟨Nat.le_trans hwz hk,fun e=>by subst e;exact absurd hk (Nat.not_le.2 h1l),fun e=>by subst e;exact absurd hk (Nat.not_le.2 h20l)⟩)
    simp [go_sem,za0,za4,za1,hB1.cell,hB20.cell]
    refine zzs (b:=b20) (off:=0) [.int .i64 x.kind,.slice a x.names.length c,.int .i64 x.expr.kind,.string ⟨x.expr.name.toArray⟩,.bool x.expr.neg,.slice ya x.expr.num.length yc,.slice yb x.expr.den.length yd,.slice ye x.expr.args.length yp,.int .i64 x.expr.pos,.int .i64 x.pos] rfl zaJ hB20 (fun w71 hS71 hB71=>?_) (by simp [go_sem,Value.cells])
    simp [zaw] at hB71
    replace hnm:=hnm.ch (Ch.of_sto hS71 (NL.of_bx hB20 (by intro u hu x e;subst e;simp at hu))) (by intro k hk e;subst e;first|exact hk.2 rfl|omega)
    replace hxe:=hxe.ch (Ch.of_sto hS71 (NL.of_bx hB20 (by intro u hu x e;subst e;simp at hu))) (by intro k hk e;subst e;first|exact hk.2 rfl|omega)
    replace hG:=zan hG hS71 hwb20
    replace hP:=hP.sto hS71 (by omega) (fun ad ha=>by have:=hla0 ad ha;omega)
    replace hB1:=hB1.sto hS71 (by first|exact hd1_20|exact (hd20_1).symm)
    simp [go_sem,za0,za4,za1,hB1.cell,hB71.cell]
    apply hK;clear hK K
    refine tail _ _ _ x a c ya yc yb yd ye yp ?_ ?_ (by simp [go_sem]) (by simp [go_sem]) (by simp [go_sem]) hP hG hB1 hB71 hnm hxe
    ·exact hq0
    ·exact hxv
   | false =>
    rw [if_neg (by rw [c3];decide)] at hq0
    refine zzr fun K hK=>?_
    simp [go_sem,za0,za4,za1,hB1.cell,hB20.cell]
    refine zzc rfl Tryz.call42 (fun R hR=>?_)
    simp [go_sem,za0,za4,za1,hB1.cell,hB20.cell]
    refine (zc1 hP hW zcQ).mono ?_
    rintro e w50 ⟨rfl,hQ50,hg50⟩
    refine ⟨_,rfl,hR _ _ ?_⟩
    clear hR R
    replace hB1:=hB1.grown hg50 (by intro e;injection e with e;omega)
    replace hB20:=hB20.grown hg50 (by intro e;injection e with e;omega)
    replace hP:=hQ50
    replace hG:=hG.trans hg50
    clear hQ50
    simp [go_sem,za0,za4,za1,hB1.cell,hB20.cell]
    rw [show zb4 T zcQ s=s by unfold zb4;rw [if_neg (by rw [c3];decide)]] at hP
    rw [c3]
    apply hK;clear hK K
    refine zaf (t:=false) (by simp [go_sem]) rfl ?_
    cases c4:isT T s.er s.i zda with
    | true =>
     rw [if_pos c4] at hq0
     refine zzr fun K hK=>?_
     simp [go_sem,za0,za4,za1,hB1.cell,hB20.cell]
     refine zzc rfl Tryz.call42 (fun R hR=>?_)
     simp [go_sem,za0,za4,za1,hB1.cell,hB20.cell]
     refine (zc1 hP hW zda).mono ?_
     rintro e w60 ⟨rfl,hQ60,hg60⟩
     refine ⟨_,rfl,hR _ _ ?_⟩
     clear hR R
     replace hB1:=hB1.grown hg60 (by intro e;injection e with e;omega)
     replace hB20:=hB20.grown hg60 (by intro e;injection e with e;omega)
     replace hP:=hQ60
     replace hG:=hG.trans hg60
     clear hQ60
     simp [go_sem,za0,za4,za1,hB1.cell,hB20.cell]
     rw [c4]
     apply hK;clear hK K
     refine zaf (t:=true) (by simp [go_sem]) rfl ?_
     refine zzt fun K hK=>?_
     simp [go_sem,za0,za4,za1,hB1.cell,hB20.cell]
     refine zak #[.int .i64 4] (by simp [go_sem,za0,za4,za1,hB1.cell,hB20.cell]) rfl zep (by decide) [(0,.int .i64 4)] (by simp [go_sem,za0,za4,za1,hB1.cell,hB20.cell]) (by kernel_rfl) (fun w70 b70 hE70 hle70 hB70=>?_)
     have hwb70:_≤b70:=Nat.le_trans hG.size hle70
     have hd1_70:b1≠b70:=Nat.ne_of_lt (Nat.lt_of_lt_of_le hB1.lt hle70)
     have hd20_70:b20≠b70:=Nat.ne_of_lt (Nat.lt_of_lt_of_le hB20.lt hle70)
     replace hB1:=hB1.keep hE70
     replace hB20:=hB20.keep hE70
     replace hG:=hG.trans (zaa hE70)
     replace hP:=hP.ext hE70
     simp [go_sem,za0,za4,za1,hB1.cell,hB20.cell,hB70.cell]
     have hwz:=hG.size
     have h1l:=hB1.lt
     have h20l:=hB20.lt
     refine zzc rfl Tryz.call14 (fun R hR=>?_)
     simp [go_sem,za0,za4,za1,hB1.cell,hB20.cell,hB70.cell]
     refine (con1_any hW hP (some ⟨b70,0,none⟩) 1 [4] (intC_sl (l:=[4]) hB70) (by decide)).mono ?_
     rintro e w71 ⟨Rx,x,rfl,hxe,hxv,hQ71,hg71⟩
     refine ⟨_,rfl,hR _ _ ?_⟩
     clear hR R
     replace hB1:=hB1.grown hg71 (by intro e;injection e with e;omega)
     replace hB20:=hB20.grown hg71 (by intro e;injection e with e;omega)
     replace hB70:=hB70.grown hg71 (by intro e;injection e with e;omega)
     replace hP:=hQ71
     replace hG:=hG.trans hg71
     clear hQ71
     obtain ⟨ya,yc,yb,yd,ye,yp,xrows,hRx,_⟩:=hxe.open
     subst hRx
     replace hxe:=hxe.mono (F':=fun k=>w.heap.size≤k∧k≠b1∧k≠b20) (fun k hk=>⟨Nat.le_trans hwz hk,fun e=>by subst e;exact absurd hk (Nat.not_le.2 h1l),fun e=>by subst e;exact absurd hk (Nat.not_le.2 h20l)⟩)
     simp [go_sem,za0,za4,za1,hB1.cell,hB20.cell,hB70.cell]
     refine zzs (b:=b20) (off:=0) [.int .i64 5] rfl zaQ hB20 (fun w72 hS72 hB72=>?_) (by simp [go_sem,Value.cells])
     simp [zaw] at hB72
     replace hxe:=hxe.ch (Ch.of_sto hS72 (NL.of_bx hB20 (by intro u hu x e;subst e;simp at hu))) (by intro k hk e;subst e;first|exact hk.2 rfl|omega)
     replace hG:=zan hG hS72 hwb20
     replace hP:=hP.sto hS72 (by omega) (fun ad ha=>by have:=hla0 ad ha;omega)
     replace hB1:=hB1.sto hS72 (by first|exact hd1_20|exact (hd20_1).symm)
     replace hB70:=hB70.sto hS72 (by first|exact hd70_20|exact (hd20_70).symm)
     simp [go_sem,za0,za4,za1,hB1.cell,hB70.cell,hB72.cell]
     refine zzs (b:=b20) (off:=2) [.int .i64 x.kind,.string ⟨x.name.toArray⟩,.bool x.neg,.slice ya x.num.length yc,.slice yb x.den.length yd,.slice ye x.args.length yp,.int .i64 x.pos] rfl zaC hB72 (fun w73 hS73 hB73=>?_) (by simp [go_sem,Value.cells])
     simp [zaw] at hB73
     replace hxe:=hxe.ch (Ch.of_sto hS73 (NL.of_bx hB72 (by intro u hu x e;subst e;simp at hu))) (by intro k hk e;subst e;first|exact hk.2 rfl|omega)
     replace hG:=zan hG hS73 hwb20
     replace hP:=hP.sto hS73 (by omega) (fun ad ha=>by have:=hla0 ad ha;omega)
     replace hB1:=hB1.sto hS73 (by first|exact hd1_20|exact (hd20_1).symm)
     replace hB70:=hB70.sto hS73 (by first|exact hd70_20|exact (hd20_70).symm)
     simp [go_sem,za0,za4,za1,hB1.cell,hB70.cell,hB73.cell]
     apply hK;clear hK K
     refine tail _ _ ((conP T (argP T 19) [4] (zb4 T zda s)).1,⟨5,[],(conP T (argP T 19) [4] (zb4 T zda s)).2,pos⟩) ⟨5,[],x,pos⟩ none 0 ya yc yb yd ye yp hq0 (fun e=>by rw [hxv e]) (by simp [go_sem]) (by simp [go_sem]) (by simp [go_sem]) hP hG hB1 hB73 (NmS.nil _ _ _) hxe
    | false =>
     rw [if_neg (by rw [c4];decide)] at hq0
     refine zzr fun K hK=>?_
     simp [go_sem,za0,za4,za1,hB1.cell,hB20.cell]
     refine zzc rfl Tryz.call42 (fun R hR=>?_)
     simp [go_sem,za0,za4,za1,hB1.cell,hB20.cell]
     refine (zc1 hP hW zda).mono ?_
     rintro e w60 ⟨rfl,hQ60,hg60⟩
     refine ⟨_,rfl,hR _ _ ?_⟩
     clear hR R
     replace hB1:=hB1.grown hg60 (by intro e;injection e with e;omega)
     replace hB20:=hB20.grown hg60 (by intro e;injection e with e;omega)
     replace hP:=hQ60
     replace hG:=hG.trans hg60
     clear hQ60
     simp [go_sem,za0,za4,za1,hB1.cell,hB20.cell]
     rw [show zb4 T zda s=s by unfold zb4;rw [if_neg (by rw [c4];decide)]] at hP
     rw [c4]
     apply hK;clear hK K
     refine zaf (t:=false) (by simp [go_sem]) rfl ?_
     refine zzr fun K hK=>?_
     simp [go_sem,za0,za4,za1,hB1.cell,hB20.cell]
     refine zzc rfl Tryz.call12 (fun R hR=>?_)
     simp [go_sem,za0,za4,za1,hB1.cell,hB20.cell]
     refine (namedS_any hP hW).mono ?_
     rintro e w60 ⟨rfl,hE60⟩
     refine ⟨_,rfl,hR _ _ ?_⟩
     clear hR R
     replace hB1:=hB1.keep hE60
     replace hB20:=hB20.keep hE60
     replace hG:=hG.trans (zaa hE60)
     replace hP:=hP.ext hE60
     simp [go_sem,za0,za4,za1,hB1.cell,hB20.cell]
     cases c5:nmT T s.er s.i with
     | true =>
      rw [if_pos c5] at hq0
      apply hK;clear hK K
      refine zaf (t:=true) (by simp [go_sem]) rfl ?_
      refine zzt fun K hK=>?_
      simp [go_sem,za0,za4,za1,hB1.cell,hB20.cell]
      have hwz:=hG.size
      have h1l:=hB1.lt
      have h20l:=hB20.lt
      refine zzc rfl Tryz.call44 (fun R hR=>?_)
      simp [go_sem,za0,za4,za1,hB1.cell,hB20.cell]
      refine (define_any hW hP pos 2 1).mono ?_
      rintro e w70 ⟨Rx,x,rfl,hsx,hxv,hQ70,hg70⟩
      refine ⟨_,rfl,hR _ _ ?_⟩
      clear hR R
      replace hB1:=hB1.grown hg70 (by intro e;injection e with e;omega)
      replace hB20:=hB20.grown hg70 (by intro e;injection e with e;omega)
      replace hP:=hQ70
      replace hG:=hG.trans hg70
      clear hQ70
      obtain ⟨a,c,ya,yc,yb,yd,ye,yp,hRx,hnm,hxe⟩:=hsx.open
      subst hRx
      replace hnm:=hnm.mono (F':=fun k=>w.heap.size≤k∧k≠b1∧k≠b20) (fun k hk=>⟨Nat.le_trans hwz hk,fun e=>by subst e;exact absurd hk (Nat.not_le.2 h1l),fun e=>by subst e;exact absurd hk (Nat.not_le.2 h20l)⟩)
      replace hxe:=hxe.mono (F':=fun k=>w.heap.size≤k∧k≠b1∧k≠b20) (fun k hk=>⟨Nat.le_trans hwz hk,fun e=>by subst e;exact absurd hk (Nat.not_le.2 h1l),fun e=>by subst e;exact absurd hk (Nat.not_le.2 h20l)⟩)
      simp [go_sem,za0,za4,za1,hB1.cell,hB20.cell]
      refine zzs (b:=b20) (off:=0) [.int .i64 x.kind,.slice a x.names.length c,.int .i64 x.expr.kind,.string ⟨x.expr.name.toArray⟩,.bool x.expr.neg,.slice ya x.expr.num.length yc,.slice yb x.expr.den.length yd,.slice ye x.expr.args.length yp,.int .i64 x.expr.pos,.int .i64 x.pos] rfl zaJ hB20 (fun w71 hS71 hB71=>?_) (by simp [go_sem,Value.cells])
      simp [zaw] at hB71
      replace hnm:=hnm.ch (Ch.of_sto hS71 (NL.of_bx hB20 (by intro u hu x e;subst e;simp at hu))) (by intro k hk e;subst e;first|exact hk.2 rfl|omega)
      replace hxe:=hxe.ch (Ch.of_sto hS71 (NL.of_bx hB20 (by intro u hu x e;subst e;simp at hu))) (by intro k hk e;subst e;first|exact hk.2 rfl|omega)
      replace hG:=zan hG hS71 hwb20
      replace hP:=hP.sto hS71 (by omega) (fun ad ha=>by have:=hla0 ad ha;omega)
      replace hB1:=hB1.sto hS71 (by first|exact hd1_20|exact (hd20_1).symm)
      simp [go_sem,za0,za4,za1,hB1.cell,hB71.cell]
      apply hK;clear hK K
      refine tail _ _ _ x a c ya yc yb yd ye yp ?_ ?_ (by simp [go_sem]) (by simp [go_sem]) (by simp [go_sem]) hP hG hB1 hB71 hnm hxe
      ·exact hq0
      ·exact hxv
     | false =>
      rw [if_neg (by rw [c5];decide)] at hq0
      apply hK;clear hK K
      refine zaf (t:=false) (by simp [go_sem]) rfl ?_
      refine zzt fun K hK=>?_
      simp [go_sem,za0,za4,za1,hB1.cell,hB20.cell]
      refine zzc rfl Tryz.call16 (fun R hR=>?_)
      simp [go_sem,za0,za4,za1,hB1.cell,hB20.cell]
      refine (zdG hP hW 5).mono ?_
      rintro e w70 ⟨rfl,hQ70,hg70⟩
      refine ⟨_,rfl,hR _ _ ?_⟩
      clear hR R
      replace hB1:=hB1.grown hg70 (by intro e;injection e with e;omega)
      replace hB20:=hB20.grown hg70 (by intro e;injection e with e;omega)
      replace hP:=hQ70
      replace hG:=hG.trans hg70
      clear hQ70
      simp [go_sem,za0,za4,za1,hB1.cell,hB20.cell]
      apply hK;clear hK K
      refine tail _ _ (zbN T 5 s,⟨0,[],ex0,pos⟩) ⟨0,[],ex0,pos⟩ none 0 none 0 none 0 none 0 hq0 (fun _=>rfl) (by simp [go_sem]) (by simp [go_sem]) (by simp [go_sem]) hP hG hB1 hB20 (NmS.nil _ _ _) (EX.ex0 _ _ _ rfl)
inductive RW where
 | un
 | int (n:Int)
 | str (s:ByteArray)
 | sl (j n:Nat)
 | row (k s:Int) (w:ByteArray) (j n:Nat)
 deriving DecidableEq
def RW.den (bl:Nat→Nat):RW→Value
 | .un=>undef
 | .int n=>.int .i64 n
 | .str s=>.string s
 | .sl j n=>.slice (some ⟨bl j,0,none⟩) n n
 | .row k s w j n=>.agg #[.int .i64 k,.int .i64 s,.string w,.slice (some ⟨bl j,0,none⟩) n n]
def rwE (env:Nat→RW):Operand→RW
 | .tmp a=>env a
 | .const (.int .i64 n)=>.int n
 | .const (.string s)=>.str s
 | _=>.un
def rwInts (env:Nat→RW):Nat→List (Nat × Operand)→Option (List Int)
 | _,[]=>some []
 | i,(j,x)::r=>if i=j then (match rwE env x,rwInts env (i+1) r with
  | .int n,some l=>some (n::l)
  | _,_=>none) else none
def rwSet (env:Nat→RW) (d:Nat) (v:RW):Nat→RW:=fun s=>if s=d then v else env s
def zel:Nat→List Oper→(Nat→RW)→List (List Int)→Option ((Nat→RW) × List (List Int) × List Oper)
 | 0,l,env,bs=>some (env,bs,l)
 | n+1,⟨some d,op,ty,pos,af,none⟩::r,env,bs=>match op with
  | .move x=>zel n r (rwSet env d (rwE env x)) bs
  | .buildSlice t m parts=>if t=56∧m=parts.size∧m≤6∧0<m then (match rwInts env 0 parts.toList with
   | some l=>zel n r (rwSet env d (.sl bs.length m)) (bs++[l])
   | none=>none) else none
  | .build t parts=>if t=103 then (match parts.toList with
   | [(0,a),(1,b),(2,c),(3,e)]=>(match rwE env a,rwE env b,rwE env c,rwE env e with
    | .int k,.int s,.str w,.sl j m=>zel n r (rwSet env d (.row k s w j m)) bs
    | _,_,_,_=>none)
   | _=>none) else none
  | _=>none
 | _+1,_,_,_=>none
theorem rwE_den {bl:Nat→Nat} {env:Nat→RW} {g:G} (hg:∀ s,env s≠.un→g s=(env s).den bl) (x:Operand) (h:rwE env x≠.un):evG g x=(rwE env x).den bl:=by
 unfold rwE at h ⊢
 split at h
 ·exact hg _ h
 ·rfl
 ·rfl
 ·exact absurd rfl h
theorem rwInts_den {bl:Nat→Nat} {env:Nat→RW} {g:G} (hg:∀ s,env s≠.un→g s=(env s).den bl):∀ (l:List (Nat × Operand)) (i:Nat) (r:List Int),rwInts env i l=some r →
  r.length=l.length∧(l.map fun x=>(x.1,evG g x.2))=(List.range' i l.length).zip (intC r)
 | [],i,r,h=>by
  simp only [rwInts,Option.some.injEq] at h;subst h;exact ⟨rfl,rfl⟩
 | (j,x)::l,i,r,h=>by
  simp only [rwInts] at h
  split at h
  ·rename_i hij
   subst hij
   split at h
   ·rename_i n r' hx hr
    injection h with h;subst h
    obtain ⟨h1,h2⟩:=rwInts_den hg l (i+1) r' hr
    refine ⟨by simp [h1],?_⟩
    rw [List.map_cons,h2,List.length_cons,List.range'_succ]
    have:evG g x = .int .i64 n:=by rw [rwE_den hg x (by rw [hx];simp),hx];rfl
    simp [intC,this]
   ·cases h
  ·cases h
theorem fill_ints:∀ (r:List Int),0<r.length→r.length≤6→Instr.fill (fun i=>some (i*1,1)) ((Array.range (r.length*1)).map ((if r.length*1=0 then #[] else #[.int .i64 0])[· % (if r.length*1=0 then #[] else (#[.int .i64 0]:Array Value)).size]!)) ((List.range' 0 r.length).zip (intC r))=some (intC r).toArray
 | [],h,_=>by cases h
 | [a],_,_=>by kernel_rfl
 | [a,b],_,_=>by kernel_rfl
 | [a,b,c],_,_=>by kernel_rfl
 | [a,b,c,d],_,_=>by kernel_rfl
 | [a,b,c,d,e],_,_=>by kernel_rfl
 | [a,b,c,d,e,f],_,_=>by kernel_rfl
 | _::_::_::_::_::_::_::_,_,h=>by simp at h
def RW.ok (n:Nat):RW→Prop
 | .sl j _=>j<n
 | .row _ _ _ j _=>j<n
 | _=>True
theorem RW.ok_mono {n m:Nat} {v:RW} (h:v.ok n) (hm:n≤m):v.ok m:=by
 cases v<;>first|trivial|exact Nat.lt_of_lt_of_le h hm
theorem RW.den_ext {n:Nat} {v:RW} {bl bl':Nat→Nat} (h:v.ok n) (hb:∀ j,j<n→bl' j=bl j):v.den bl'=v.den bl:=by
 cases v<;>first
  | rfl
  | (simp only [RW.den];rw [hb _ h])
theorem rwE_ok {n:Nat} {env:Nat→RW} (h:∀ s,(env s).ok n) (x:Operand):(rwE env x).ok n:=by
 unfold rwE
 split<;>first|exact h _|trivial
theorem rwSet_ok {n:Nat} {env:Nat→RW} (h:∀ s,(env s).ok n) (d:Nat) {v:RW} (hv:v.ok n):∀ s,(rwSet env d v s).ok n:=by
 intro s;unfold rwSet;split
 ·exact hv
 ·exact h s
section
variable {ops:Array Oper} {W0:Nat}
theorem rwSet_den {env:Nat→RW} {g:G} {d:Nat} {v:RW} {x:Value} {bl:Nat→Nat} (hv:v≠.un→x=v.den bl) (hg:∀ s,env s≠.un→g s=(env s).den bl):∀ s,rwSet env d v s≠.un→upd g d x s=(rwSet env d v s).den bl:=by
 intro s hs
 unfold rwSet at hs ⊢
 rw [upd_apply]
 by_cases e:s=d
 ·rw [if_pos e] at hs ⊢;rw [if_pos e];exact hv hs
 ·rw [if_neg e] at hs ⊢;rw [if_neg e];exact hg s hs
theorem rw_sound:∀ (n:Nat) (l:List Oper) (env:Nat→RW) (bs:List (List Int)) (env':Nat→RW) (bs':List (List Int)) (rest:List Oper),zel n l env bs=some (env',bs',rest)→∀ (g:G) (w:World) (bl:Nat→Nat) (K:G→World→Prop),
  (∀ s,env s≠.un→g s=(env s).den bl)→(∀ j p,bs[j]? = some p→Bx w (bl j) (intC p).toArray 3∧W0≤bl j)→W0≤w.heap.size→(∀ s,(env s).ok bs.length) →
  (∀ (g':G) (w':World) (bl':Nat→Nat),(∀ s,env' s≠.un→g' s=(env' s).den bl')→(∀ j p,bs'[j]? = some p→Bx w' (bl' j) (intC p).toArray 3∧W0≤bl' j)→Below w.heap.size w w'→zcG Tryz.prog ops rest g' w' K)→zcG Tryz.prog ops l g w K
 | 0,l,env,bs,env',bs',rest,h,g,w,bl,K,hg,hb,hW,hj,hk=>by
  simp only [zel,Option.some.injEq,Prod.mk.injEq] at h
  obtain ⟨rfl,rfl,rfl⟩:=h
  exact hk g w bl hg hb (Below.refl _ _)
 | n+1,[],env,bs,env',bs',rest,h,g,w,bl,K,hg,hb,hW,hj,hk=>by simp [zel] at h
 | n+1,⟨none,op,ty,pos,af,gd⟩::r,env,bs,env',bs',rest,h,g,w,bl,K,hg,hb,hW,hj,hk=>by simp [zel] at h
 | n+1,⟨some d,op,ty,pos,af,some gd⟩::r,env,bs,env',bs',rest,h,g,w,bl,K,hg,hb,hW,hj,hk=>by simp [zel] at h
 | n+1,⟨some d,op,ty,pos,af,none⟩::r,env,bs,env',bs',rest,h,g,w,bl,K,hg,hb,hW,hj,hk=>by
  cases op with
  | move x =>
   simp only [zel] at h
   simp only [walkL_cons,hy_move,stepL_plain]
   refine ⟨by simp [go_sem],?_⟩
   have e1:lvO Tryz.prog w (evG g) ty (.move x)=evG g x:=rfl
   rw [e1]
   exact rw_sound n r _ bs env' bs' rest h _ w bl K (rwSet_den (fun hx=>rwE_den hg x hx) hg) hb hW (rwSet_ok hj d (rwE_ok hj x)) hk
  | buildSlice t m parts =>
   simp only [zel] at h
   split at h
   ·rename_i hc
    obtain ⟨rfl,rfl,h6,h0⟩:=hc
    split at h
    ·rename_i l hl
     obtain ⟨q1,q2⟩:=rwInts_den hg _ _ _ hl
     simp only [walkL_cons,hy_buildSlice,stepL_heavy]
     have hsz:parts.size=l.length:=by rw [q1];simp
     refine zak (intC l).toArray rfl rfl zep (by omega) _ q2 ?_ (fun w1 b hE hle hB=>?_)
     ·rw [hsz,show parts.toList.length=l.length from q1.symm]
      exact fill_ints l (by omega) (by omega)
     ·simp only [nxL_eq,updO_some]
      have hbl:∀ j,j<bs.length→(fun j=>if j=bs.length then b else bl j) j=bl j:=fun j hj'=>if_neg (by omega)
      refine rw_sound n r _ (bs++[l]) env' bs' rest h _ w1 (fun j=>if j=bs.length then b else bl j) K (rwSet_den (fun _=>?_) (fun s hs=>?_)) ?_ (Nat.le_trans hW hE.size) ?_ ?_
      ·unfold RW.den;simp [hsz]
      ·rw [RW.den_ext (hj s) hbl];exact hg s hs
      ·intro j p hp
       by_cases e:j=bs.length
       ·subst e
        rw [List.getElem?_append_right (Nat.le_refl _),Nat.sub_self] at hp
        simp at hp;subst hp
        simp only [if_true]
        exact ⟨hB,Nat.le_trans hW hle⟩
       ·have hlt:j<bs.length:=by
         rcases Nat.lt_or_ge j bs.length with h1|h1
         ·exact h1
         ·rw [List.getElem?_eq_none (by simp;omega)] at hp;cases hp
        rw [List.getElem?_append_left hlt] at hp
        simp only [if_neg e]
        exact ⟨(hb j p hp).1.keep hE,(hb j p hp).2⟩
      ·rw [List.length_append]
       exact rwSet_ok (fun s=>RW.ok_mono (hj s) (Nat.le_add_right _ _)) d (show bs.length<bs.length+1 by omega)
      ·intro g' w' bl' h1 h2 h3
       exact hk g' w' bl' h1 h2 (hE.next h3)
    ·cases h
   ·cases h
  | build t parts =>
   simp only [zel] at h
   split at h
   ·rename_i hc
    subst hc
    split at h
    ·rename_i a b c e hp
     split at h
     ·rename_i k s wd j m ha hb' hc' he
      simp only [walkL_cons,hy_build,stepL_heavy]
      have ea:=rwE_den hg a (by rw [ha];simp)
      have eb:=rwE_den hg b (by rw [hb'];simp)
      have ec:=rwE_den hg c (by rw [hc'];simp)
      have ee:=rwE_den hg e (by rw [he];simp)
      rw [ha] at ea;rw [hb'] at eb;rw [hc'] at ec;rw [he] at ee
      have hok:=rwE_ok hj e
      rw [he] at hok
      refine zal #[.int .i64 k,.int .i64 s,.string wd,.slice (some ⟨bl j,0,none⟩) m m] rfl rfl ty_stZ103 [(0,.int .i64 k),(1,.int .i64 s),(2,.string wd),(3,.slice (some ⟨bl j,0,none⟩) m m)] ?_ (by kernel_rfl) ?_
      ·rw [hp]
       simp only [List.map_cons,List.map_nil,ea,eb,ec,ee]
       rfl
      ·simp only [nxL_eq,updO_some]
       exact rw_sound n r _ bs env' bs' rest h _ w bl K (rwSet_den (fun _=>rfl) hg) hb hW (rwSet_ok hj d hok) hk
     ·cases h
    ·cases h
   ·cases h
  | _=>simp [zel] at h
end
def rwSlots:List Nat:=[8,13,18,23,28,33,36,42,48,54,60,65,70,75,80,85,90,95,100,105,111,116,120,124,130,135,141,149,153,159]
def rwRow (j:Nat):RW:=.row (zaj j).1 (zaj j).2.1 ⟨(zaj j).2.2.1.toArray⟩ j (zaj j).2.2.2.length
def rwEnv0:Nat→RW:=rwSet (rwSet (rwSet (fun _=>.un) 1 (.int 1)) 2 (.int 2)) 3 (.int 3)
def rwT (L:List Oper):Bool:=match zel 156 L rwEnv0 [] with
 | some (env',bs',_)=>decide (rwSlots.map env'=(List.range 30).map rwRow) && decide (bs'=KT.map fun r=>r.2.2.2)
 | none=>false
theorem rwRun_rest:∀ (n:Nat) (l:List Oper) (env:Nat→RW) (bs:List (List Int)) (env':Nat→RW) (bs':List (List Int)) (rest:List Oper),zel n l env bs=some (env',bs',rest)→rest=l.drop n
 | 0,l,env,bs,env',bs',rest,h=>by
  simp only [zel,Option.some.injEq,Prod.mk.injEq] at h
  exact h.2.2.symm
 | n+1,[],env,bs,env',bs',rest,h=>by simp [zel] at h
 | n+1,⟨none,op,ty,pos,af,gd⟩::r,env,bs,env',bs',rest,h=>by simp [zel] at h
 | n+1,⟨some d,op,ty,pos,af,some gd⟩::r,env,bs,env',bs',rest,h=>by simp [zel] at h
 | n+1,⟨some d,op,ty,pos,af,none⟩::r,env,bs,env',bs',rest,h=>by
  rw [List.drop_succ_cons]
  cases op with
  | move x=>simp only [zel] at h;exact rwRun_rest n r _ _ env' bs' rest h
  | buildSlice t m parts =>
   simp only [zel] at h
   split at h
   ·split at h
    ·exact rwRun_rest n r _ _ env' bs' rest h
    ·cases h
   ·cases h
  | build t parts =>
   simp only [zel] at h
   split at h
   ·split at h
    ·split at h
     ·exact rwRun_rest n r _ _ env' bs' rest h
     ·cases h
    ·cases h
   ·cases h
  | _=>simp [zel] at h
def rowC (bl:Nat→Nat) (j:Nat):List Value:=[.int .i64 (zaj j).1,.int .i64 (zaj j).2.1,.string ⟨(zaj j).2.2.1.toArray⟩,.slice (some ⟨bl j,0,none⟩) (zaj j).2.2.2.length (zaj j).2.2.2.length]
def rowsC (bl:Nat→Nat):List Value:=((List.range 30).map (rowC bl)).flatten
theorem rows_run {ops:Array Oper} {L:List Oper} (hT:rwT L=true) {g:G} {w:World} {K:G→World→Prop} (g1:g 1 = .int .i64 1) (g2:g 2 = .int .i64 2) (g3:g 3 = .int .i64 3)
  (hk:∀ (g':G) (w':World) (bl:Nat→Nat),(∀ j,j<30→g' (rwSlots.getD j 0) = .agg (rowC bl j).toArray)→(∀ j,j<30→Bx w' (bl j) (intC (zaj j).2.2.2).toArray 3∧w.heap.size≤bl j)→Below w.heap.size w w'→zcG Tryz.prog ops (L.drop 156) g' w' K):zcG Tryz.prog ops L g w K:=by
 unfold rwT at hT
 split at hT
 ·rename_i env' bs' rest hr
  simp only [Bool.and_eq_true,decide_eq_true_eq] at hT
  obtain ⟨h1,h2⟩:=hT
  have h3:=rwRun_rest _ _ _ _ _ _ _ hr
  subst h3
  refine rw_sound (W0:=w.heap.size) 156 L _ [] env' bs' _ hr g w (fun _=>0) K ?_ (fun j p h=>by simp at h) (Nat.le_refl _) ?_ (fun g' w' bl q1 q2 q3=>hk g' w' bl ?_ ?_ q3)
  ·intro s hs
   unfold rwEnv0 rwSet at hs ⊢
   by_cases e3:s=3
   ·subst e3;exact g3
   ·rw [if_neg e3] at hs ⊢
    by_cases e2:s=2
    ·subst e2;exact g2
    ·rw [if_neg e2] at hs ⊢
     by_cases e1:s=1
     ·subst e1;exact g1
     ·rw [if_neg e1] at hs;exact absurd rfl hs
  ·intro s
   unfold rwEnv0 rwSet
   (repeat' split)<;>trivial
  ·intro j hj
   have h4:env' (rwSlots.getD j 0)=rwRow j:=by
    have h5:=congrArg (fun l=>l[j]?) h1
    simp only [List.getElem?_map] at h5
    have hj2:j<rwSlots.length:=hj
    rw [List.getElem?_eq_getElem hj2,List.getElem?_range hj] at h5
    simp only [Option.map_some,Option.some.injEq] at h5
    rw [List.getD_eq_getElem?_getD,List.getElem?_eq_getElem hj2]
    exact h5
   rw [q1 _ (by rw [h4];simp [rwRow]),h4]
   rfl
  ·intro j hj
   refine q2 j _ ?_
   rw [h2,List.getElem?_map]
   unfold zaj
   have hj2:j<KT.length:=hj
   rw [List.getD_eq_getElem?_getD,List.getElem?_eq_getElem hj2]
   rfl
 ·cases hT
theorem rows_any (w:World):Calls Tryz.prog 60 #[] w fun e w'=>∃ (ad:Nat) (bl:Nat→Nat),e = .returned (.slice (some ⟨ad,0,none⟩) 30 30)∧Bx w' ad (rowsC bl).toArray 103∧(∀ j,j<30→Bx w' (bl j) (intC (zaj j).2.2.2).toArray 3∧w.heap.size≤bl j)∧w.heap.size≤ad∧Below w.heap.size w w':=by
 refine za5 (rs:=[.tmp 0]) (n:=161) Tryz.func60 rfl rfl rfl (by kernel_rfl) ?_
 refine zzr fun K hK=>?_
 simp [go_sem]
 apply hK;clear hK K
 refine zzr fun K hK=>?_
 simp [go_sem]
 apply hK;clear hK K
 refine W_rt (by kernel_rfl) (fun K hK=>?_)
 refine rows_run (by kernel_rfl) (by simp [go_sem]) (by simp [go_sem]) (by simp [go_sem]) (fun g' w' bl hg hb hE=>?_)
 have q0:g' 8 = .agg #[.int .i64 (zaj 0).1,.int .i64 (zaj 0).2.1,.string ⟨(zaj 0).2.2.1.toArray⟩,.slice (some ⟨bl 0,0,none⟩) (zaj 0).2.2.2.length (zaj 0).2.2.2.length]:=hg 0 (by decide)
 have q1:g' 13 = .agg #[.int .i64 (zaj 1).1,.int .i64 (zaj 1).2.1,.string ⟨(zaj 1).2.2.1.toArray⟩,.slice (some ⟨bl 1,0,none⟩) (zaj 1).2.2.2.length (zaj 1).2.2.2.length]:=hg 1 (by decide)
 have q2:g' 18 = .agg #[.int .i64 (zaj 2).1,.int .i64 (zaj 2).2.1,.string ⟨(zaj 2).2.2.1.toArray⟩,.slice (some ⟨bl 2,0,none⟩) (zaj 2).2.2.2.length (zaj 2).2.2.2.length]:=hg 2 (by decide)
 have q3:g' 23 = .agg #[.int .i64 (zaj 3).1,.int .i64 (zaj 3).2.1,.string ⟨(zaj 3).2.2.1.toArray⟩,.slice (some ⟨bl 3,0,none⟩) (zaj 3).2.2.2.length (zaj 3).2.2.2.length]:=hg 3 (by decide)
 have q4:g' 28 = .agg #[.int .i64 (zaj 4).1,.int .i64 (zaj 4).2.1,.string ⟨(zaj 4).2.2.1.toArray⟩,.slice (some ⟨bl 4,0,none⟩) (zaj 4).2.2.2.length (zaj 4).2.2.2.length]:=hg 4 (by decide)
 have q5:g' 33 = .agg #[.int .i64 (zaj 5).1,.int .i64 (zaj 5).2.1,.string ⟨(zaj 5).2.2.1.toArray⟩,.slice (some ⟨bl 5,0,none⟩) (zaj 5).2.2.2.length (zaj 5).2.2.2.length]:=hg 5 (by decide)
 have q6:g' 36 = .agg #[.int .i64 (zaj 6).1,.int .i64 (zaj 6).2.1,.string ⟨(zaj 6).2.2.1.toArray⟩,.slice (some ⟨bl 6,0,none⟩) (zaj 6).2.2.2.length (zaj 6).2.2.2.length]:=hg 6 (by decide)
 have q7:g' 42 = .agg #[.int .i64 (zaj 7).1,.int .i64 (zaj 7).2.1,.string ⟨(zaj 7).2.2.1.toArray⟩,.slice (some ⟨bl 7,0,none⟩) (zaj 7).2.2.2.length (zaj 7).2.2.2.length]:=hg 7 (by decide)
 have q8:g' 48 = .agg #[.int .i64 (zaj 8).1,.int .i64 (zaj 8).2.1,.string ⟨(zaj 8).2.2.1.toArray⟩,.slice (some ⟨bl 8,0,none⟩) (zaj 8).2.2.2.length (zaj 8).2.2.2.length]:=hg 8 (by decide)
 have q9:g' 54 = .agg #[.int .i64 (zaj 9).1,.int .i64 (zaj 9).2.1,.string ⟨(zaj 9).2.2.1.toArray⟩,.slice (some ⟨bl 9,0,none⟩) (zaj 9).2.2.2.length (zaj 9).2.2.2.length]:=hg 9 (by decide)
 have q10:g' 60 = .agg #[.int .i64 (zaj 10).1,.int .i64 (zaj 10).2.1,.string ⟨(zaj 10).2.2.1.toArray⟩,.slice (some ⟨bl 10,0,none⟩) (zaj 10).2.2.2.length (zaj 10).2.2.2.length]:=hg 10 (by decide)
 have q11:g' 65 = .agg #[.int .i64 (zaj 11).1,.int .i64 (zaj 11).2.1,.string ⟨(zaj 11).2.2.1.toArray⟩,.slice (some ⟨bl 11,0,none⟩) (zaj 11).2.2.2.length (zaj 11).2.2.2.length]:=hg 11 (by decide)
 have q12:g' 70 = .agg #[.int .i64 (zaj 12).1,.int .i64 (zaj 12).2.1,.string ⟨(zaj 12).2.2.1.toArray⟩,.slice (some ⟨bl 12,0,none⟩) (zaj 12).2.2.2.length (zaj 12).2.2.2.length]:=hg 12 (by decide)
 have q13:g' 75 = .agg #[.int .i64 (zaj 13).1,.int .i64 (zaj 13).2.1,.string ⟨(zaj 13).2.2.1.toArray⟩,.slice (some ⟨bl 13,0,none⟩) (zaj 13).2.2.2.length (zaj 13).2.2.2.length]:=hg 13 (by decide)
 have q14:g' 80 = .agg #[.int .i64 (zaj 14).1,.int .i64 (zaj 14).2.1,.string ⟨(zaj 14).2.2.1.toArray⟩,.slice (some ⟨bl 14,0,none⟩) (zaj 14).2.2.2.length (zaj 14).2.2.2.length]:=hg 14 (by decide)
 have q15:g' 85 = .agg #[.int .i64 (zaj 15).1,.int .i64 (zaj 15).2.1,.string ⟨(zaj 15).2.2.1.toArray⟩,.slice (some ⟨bl 15,0,none⟩) (zaj 15).2.2.2.length (zaj 15).2.2.2.length]:=hg 15 (by decide)
 have q16:g' 90 = .agg #[.int .i64 (zaj 16).1,.int .i64 (zaj 16).2.1,.string ⟨(zaj 16).2.2.1.toArray⟩,.slice (some ⟨bl 16,0,none⟩) (zaj 16).2.2.2.length (zaj 16).2.2.2.length]:=hg 16 (by decide)
 have q17:g' 95 = .agg #[.int .i64 (zaj 17).1,.int .i64 (zaj 17).2.1,.string ⟨(zaj 17).2.2.1.toArray⟩,.slice (some ⟨bl 17,0,none⟩) (zaj 17).2.2.2.length (zaj 17).2.2.2.length]:=hg 17 (by decide)
 have q18:g' 100 = .agg #[.int .i64 (zaj 18).1,.int .i64 (zaj 18).2.1,.string ⟨(zaj 18).2.2.1.toArray⟩,.slice (some ⟨bl 18,0,none⟩) (zaj 18).2.2.2.length (zaj 18).2.2.2.length]:=hg 18 (by decide)
 have q19:g' 105 = .agg #[.int .i64 (zaj 19).1,.int .i64 (zaj 19).2.1,.string ⟨(zaj 19).2.2.1.toArray⟩,.slice (some ⟨bl 19,0,none⟩) (zaj 19).2.2.2.length (zaj 19).2.2.2.length]:=hg 19 (by decide)
 have q20:g' 111 = .agg #[.int .i64 (zaj 20).1,.int .i64 (zaj 20).2.1,.string ⟨(zaj 20).2.2.1.toArray⟩,.slice (some ⟨bl 20,0,none⟩) (zaj 20).2.2.2.length (zaj 20).2.2.2.length]:=hg 20 (by decide)
 have q21:g' 116 = .agg #[.int .i64 (zaj 21).1,.int .i64 (zaj 21).2.1,.string ⟨(zaj 21).2.2.1.toArray⟩,.slice (some ⟨bl 21,0,none⟩) (zaj 21).2.2.2.length (zaj 21).2.2.2.length]:=hg 21 (by decide)
 have q22:g' 120 = .agg #[.int .i64 (zaj 22).1,.int .i64 (zaj 22).2.1,.string ⟨(zaj 22).2.2.1.toArray⟩,.slice (some ⟨bl 22,0,none⟩) (zaj 22).2.2.2.length (zaj 22).2.2.2.length]:=hg 22 (by decide)
 have q23:g' 124 = .agg #[.int .i64 (zaj 23).1,.int .i64 (zaj 23).2.1,.string ⟨(zaj 23).2.2.1.toArray⟩,.slice (some ⟨bl 23,0,none⟩) (zaj 23).2.2.2.length (zaj 23).2.2.2.length]:=hg 23 (by decide)
 have q24:g' 130 = .agg #[.int .i64 (zaj 24).1,.int .i64 (zaj 24).2.1,.string ⟨(zaj 24).2.2.1.toArray⟩,.slice (some ⟨bl 24,0,none⟩) (zaj 24).2.2.2.length (zaj 24).2.2.2.length]:=hg 24 (by decide)
 have q25:g' 135 = .agg #[.int .i64 (zaj 25).1,.int .i64 (zaj 25).2.1,.string ⟨(zaj 25).2.2.1.toArray⟩,.slice (some ⟨bl 25,0,none⟩) (zaj 25).2.2.2.length (zaj 25).2.2.2.length]:=hg 25 (by decide)
 have q26:g' 141 = .agg #[.int .i64 (zaj 26).1,.int .i64 (zaj 26).2.1,.string ⟨(zaj 26).2.2.1.toArray⟩,.slice (some ⟨bl 26,0,none⟩) (zaj 26).2.2.2.length (zaj 26).2.2.2.length]:=hg 26 (by decide)
 have q27:g' 149 = .agg #[.int .i64 (zaj 27).1,.int .i64 (zaj 27).2.1,.string ⟨(zaj 27).2.2.1.toArray⟩,.slice (some ⟨bl 27,0,none⟩) (zaj 27).2.2.2.length (zaj 27).2.2.2.length]:=hg 27 (by decide)
 have q28:g' 153 = .agg #[.int .i64 (zaj 28).1,.int .i64 (zaj 28).2.1,.string ⟨(zaj 28).2.2.1.toArray⟩,.slice (some ⟨bl 28,0,none⟩) (zaj 28).2.2.2.length (zaj 28).2.2.2.length]:=hg 28 (by decide)
 have q29:g' 159 = .agg #[.int .i64 (zaj 29).1,.int .i64 (zaj 29).2.1,.string ⟨(zaj 29).2.2.1.toArray⟩,.slice (some ⟨bl 29,0,none⟩) (zaj 29).2.2.2.length (zaj 29).2.2.2.length]:=hg 29 (by decide)
 simp only [List.append_eq,List.cons_append,List.nil_append,List.drop_succ_cons,List.drop_zero]
 simp [go_sem]
 refine zak (rowsC bl).toArray (by simp [go_sem]) rfl ty_slZ100 (by decide) [(0,.agg #[.int .i64 (zaj 0).1,.int .i64 (zaj 0).2.1,.string ⟨(zaj 0).2.2.1.toArray⟩,.slice (some ⟨bl 0,0,none⟩) (zaj 0).2.2.2.length (zaj 0).2.2.2.length]),(1,.agg #[.int .i64 (zaj 1).1,.int .i64 (zaj 1).2.1,.string ⟨(zaj 1).2.2.1.toArray⟩,.slice (some ⟨bl 1,0,none⟩) (zaj 1).2.2.2.length (zaj 1).2.2.2.length]),(2,.agg #[.int .i64 (zaj 2).1,.int .i64 (zaj 2).2.1,.string ⟨(zaj 2).2.2.1.toArray⟩,.slice (some ⟨bl 2,0,none⟩) (zaj 2).2.2.2.length (zaj 2).2.2.2.length]),(3,.agg #[.int .i64 (zaj 3).1,.int .i64 (zaj 3).2.1,.string ⟨(zaj 3).2.2.1.toArray⟩,.slice (some ⟨bl 3,0,none⟩) (zaj 3).2.2.2.length (zaj 3).2.2.2.length]),(4,.agg #[.int .i64 (zaj 4).1,.int .i64 (zaj 4).2.1,.string ⟨(zaj 4).2.2.1.toArray⟩,.slice (some ⟨bl 4,0,none⟩) (zaj 4).2.2.2.length (zaj 4).2.2.2.length]),(5,.agg #[.int .i64 (zaj 5).1,.int .i64 (zaj 5).2.1,.string ⟨(zaj 5).2.2.1.toArray⟩,.slice (some ⟨bl 5,0,none⟩) (zaj 5).2.2.2.length (zaj 5).2.2.2.length]),(6,.agg #[.int .i64 (zaj 6).1,.int .i64 (zaj 6).2.1,.string ⟨(zaj 6).2.2.1.toArray⟩,.slice (some ⟨bl 6,0,none⟩) (zaj 6).2.2.2.length (zaj 6).2.2.2.length]),(7,.agg #[.int .i64 (zaj 7).1,.int .i64 (zaj 7).2.1,.string ⟨(zaj 7).2.2.1.toArray⟩,.slice (some ⟨bl 7,0,none⟩) (zaj 7).2.2.2.length (zaj 7).2.2.2.length]),(8,.agg #[.int .i64 (zaj 8).1,.int .i64 (zaj 8).2.1,.string ⟨(zaj 8).2.2.1.toArray⟩,.slice (some ⟨bl 8,0,none⟩) (zaj 8).2.2.2.length (zaj 8).2.2.2.length]),(9,.agg #[.int .i64 (zaj 9).1,.int .i64 (zaj 9).2.1,.string ⟨(zaj 9).2.2.1.toArray⟩,.slice (some ⟨bl 9,0,none⟩) (zaj 9).2.2.2.length (zaj 9).2.2.2.length]),(10,.agg #[.int .i64 (zaj 10).1,.int .i64 (zaj 10).2.1,.string ⟨(zaj 10).2.2.1.toArray⟩,.slice (some ⟨bl 10,0,none⟩) (zaj 10).2.2.2.length (zaj 10).2.2.2.length]),(11,.agg #[.int .i64 (zaj 11).1,.int .i64 (zaj 11).2.1,.string ⟨(zaj 11).2.2.1.toArray⟩,.slice (some ⟨bl 11,0,none⟩) (zaj 11).2.2.2.length (zaj 11).2.2.2.length]),(12,.agg #[.int .i64 (zaj 12).1,.int .i64 (zaj 12).2.1,.string ⟨(zaj 12).2.2.1.toArray⟩,.slice (some ⟨bl 12,0,none⟩) (zaj 12).2.2.2.length (zaj 12).2.2.2.length]),(13,.agg #[.int .i64 (zaj 13).1,.int .i64 (zaj 13).2.1,.string ⟨(zaj 13).2.2.1.toArray⟩,.slice (some ⟨bl 13,0,none⟩) (zaj 13).2.2.2.length (zaj 13).2.2.2.length]),(14,.agg #[.int .i64 (zaj 14).1,.int .i64 (zaj 14).2.1,.string ⟨(zaj 14).2.2.1.toArray⟩,.slice (some ⟨bl 14,0,none⟩) (zaj 14).2.2.2.length (zaj 14).2.2.2.length]),(15,.agg #[.int .i64 (zaj 15).1,.int .i64 (zaj 15).2.1,.string ⟨(zaj 15).2.2.1.toArray⟩,.slice (some ⟨bl 15,0,none⟩) (zaj 15).2.2.2.length (zaj 15).2.2.2.length]),(16,.agg #[.int .i64 (zaj 16).1,.int .i64 (zaj 16).2.1,.string ⟨(zaj 16).2.2.1.toArray⟩,.slice (some ⟨bl 16,0,none⟩) (zaj 16).2.2.2.length (zaj 16).2.2.2.length]),(17,.agg #[.int .i64 (zaj 17).1,.int .i64 (zaj 17).2.1,.string ⟨(zaj 17).2.2.1.toArray⟩,.slice (some ⟨bl 17,0,none⟩) (zaj 17).2.2.2.length (zaj 17).2.2.2.length]),(18,.agg #[.int .i64 (zaj 18).1,.int .i64 (zaj 18).2.1,.string ⟨(zaj 18).2.2.1.toArray⟩,.slice (some ⟨bl 18,0,none⟩) (zaj 18).2.2.2.length (zaj 18).2.2.2.length]),(19,.agg #[.int .i64 (zaj 19).1,.int .i64 (zaj 19).2.1,.string ⟨(zaj 19).2.2.1.toArray⟩,.slice (some ⟨bl 19,0,none⟩) (zaj 19).2.2.2.length (zaj 19).2.2.2.length]),(20,.agg #[.int .i64 (zaj 20).1,.int .i64 (zaj 20).2.1,.string ⟨(zaj 20).2.2.1.toArray⟩,.slice (some ⟨bl 20,0,none⟩) (zaj 20).2.2.2.length (zaj 20).2.2.2.length]),(21,.agg #[.int .i64 (zaj 21).1,.int .i64 (zaj 21).2.1,.string ⟨(zaj 21).2.2.1.toArray⟩,.slice (some ⟨bl 21,0,none⟩) (zaj 21).2.2.2.length (zaj 21).2.2.2.length]),(22,.agg #[.int .i64 (zaj 22).1,.int .i64 (zaj 22).2.1,.string ⟨(zaj 22).2.2.1.toArray⟩,.slice (some ⟨bl 22,0,none⟩) (zaj 22).2.2.2.length (zaj 22).2.2.2.length]),(23,.agg #[.int .i64 (zaj 23).1,.int .i64 (zaj 23).2.1,.string ⟨(zaj 23).2.2.1.toArray⟩,.slice (some ⟨bl 23,0,none⟩) (zaj 23).2.2.2.length (zaj 23).2.2.2.length]),(24,.agg #[.int .i64 (zaj 24).1,.int .i64 (zaj 24).2.1,.string ⟨(zaj 24).2.2.1.toArray⟩,.slice (some ⟨bl 24,0,none⟩) (zaj 24).2.2.2.length (zaj 24).2.2.2.length]),(25,.agg #[.int .i64 (zaj 25).1,.int .i64 (zaj 25).2.1,.string ⟨(zaj 25).2.2.1.toArray⟩,.slice (some ⟨bl 25,0,none⟩) (zaj 25).2.2.2.length (zaj 25).2.2.2.length]),(26,.agg #[.int .i64 (zaj 26).1,.int .i64 (zaj 26).2.1,.string ⟨(zaj 26).2.2.1.toArray⟩,.slice (some ⟨bl 26,0,none⟩) (zaj 26).2.2.2.length (zaj 26).2.2.2.length]),(27,.agg #[.int .i64 (zaj 27).1,.int .i64 (zaj 27).2.1,.string ⟨(zaj 27).2.2.1.toArray⟩,.slice (some ⟨bl 27,0,none⟩) (zaj 27).2.2.2.length (zaj 27).2.2.2.length]),(28,.agg #[.int .i64 (zaj 28).1,.int .i64 (zaj 28).2.1,.string ⟨(zaj 28).2.2.1.toArray⟩,.slice (some ⟨bl 28,0,none⟩) (zaj 28).2.2.2.length (zaj 28).2.2.2.length]),(29,.agg #[.int .i64 (zaj 29).1,.int .i64 (zaj 29).2.1,.string ⟨(zaj 29).2.2.1.toArray⟩,.slice (some ⟨bl 29,0,none⟩) (zaj 29).2.2.2.length (zaj 29).2.2.2.length])] (by simp [go_sem,q0,q1,q2,q3,q4,q5,q6,q7,q8,q9,q10,q11,q12,q13,q14,q15,q16,q17,q18,q19,q20,q21,q22,q23,q24,q25,q26,q27,q28,q29]) (by kernel_rfl) (fun w9 b9 hE9 hle9 hB9=>?_)
 simp [go_sem]
 apply hK;clear hK K
 refine zad ?_
 repeat first|refine za3 ?_|refine za2 ?_
 refine ⟨trivial,b9,bl,?_,hB9,fun j hj=>⟨(hb j hj).1.keep hE9,(hb j hj).2⟩,Nat.le_trans hE.size hle9,hE.next hE9⟩
 simp [go_sem,zar,zam]
end Go.Proofs.YtefhenfofomjhaaGreat
