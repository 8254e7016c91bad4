/- The parser: the expression of a string. -/
import Derived.Test.YtefhenfofomjhaaSx2
import Derived.Test.YtefhenfofomjhaaTk1
set_option linter.unusedSimpArgs false
set_option linter.unusedVariables false
namespace Go.Proofs.Ytefhenfofomjhaa
open Go Go.RowKit Go.V
set_option maxRecDepth 20000
set_option maxHeartbeats 4000000 in
theorem statement_any {b tb cap:Nat} {la:Option Addr} {T:List Tok} (hW:Wf T) {w:World} {s:PSt} (h:PSS w b tb la cap T s) :
  Calls Try.prog 14 #[.pointer (some ⟨b,0,none⟩)] w (StmPost w b tb la cap T (stmP T s)):=by
 have hT:T.length≤maxLen:=by have:=hW.size;unfold maxLen;omega
 obtain ⟨Z,hZ⟩:∃ Z,Z=stmP T s:=⟨_,rfl⟩
 rw [←hZ]
 obtain ⟨q0,hq0⟩:∃ q:PSt × Stm,q=(if isT T s.er s.i zbW=true then ((zdB T (zaO T zbW s)).1,⟨1,(zdB T (zaO T zbW s)).2,ex0,(zai T s.i).p⟩)
  else if isT T s.er s.i wLine=true then defP T 3 2 (zai T s.i).p (zaO T wLine s)
  else if isT T s.er s.i zcr=true then defP T 4 3 (zai T s.i).p (zaO T zcr s)
  else if isT T s.er s.i zcA=true then ((conP T (argP T 19) [4] (zaO T zcA s)).1,⟨5,[],(conP T (argP T 19) [4] (zaO T zcA s)).2,(zai T s.i).p⟩)
  else if nmT T s.er s.i=true then defP T 2 1 (zai T s.i).p s
  else (zaU T 5 s,⟨0,[],ex0,(zai T s.i).p⟩)):=⟨_,rfl⟩
 replace hZ:Z=(zbw T sSC q0.1,q0.2):=by rw [hZ,hq0];rfl
 refine za8 (args:=[.pointer (some ⟨b,0,none⟩)]) (rs:=[.cell 2 40]) (n:=71) Try.func14 rfl rfl rfl (by kernel_rfl) ?_
 have hP:=h
 have hG:w.grownBy w (some b):=za6 (Below.refl _ _)
 have hb0:=h.lt'
 have hla0:=h.lab
 first|refine zzr fun K hK=>?_|refine zzt fun K hK=>?_
 simp [go_sem,za0,za2,za1]
 refine zar (by simp [go_sem,za0,za2,za1]) rfl zcC (fun w1 b1 hE1 hle1 hB1=>?_)
 have hwb1:_≤b1:=Nat.le_trans hG.size hle1
 replace hG:=hG.trans (za6 hE1)
 replace hP:=hP.ext hE1
 simp [go_sem,za0,za2,za1,hB1.cell]
 refine hK _ _ ?_;clear hK K
 first|refine zzr fun K hK=>?_|refine zzt fun K hK=>?_
 simp [go_sem,za0,za2,za1,hB1.cell]
 refine za5 (by simp [go_sem,za0,za2,za1,hB1.cell,zbk]) rfl Try.call13 (fun R hR=>?_)
 simp [go_sem,za0,za2,za1,hB1.cell,zbk]
 refine (zba hP hT).mono ?_
 rintro e w2 ⟨rfl,hE2⟩
 refine ⟨_,rfl,hR _ _ ?_⟩
 clear hR R
 replace hB1:=hB1.keep hE2
 replace hG:=hG.trans (za6 hE2)
 replace hP:=hP.ext hE2
 simp [go_sem,za0,za2,za1,hB1.cell,zbk]
 refine zap #[.int .i64 0,.slice none 0 0,.int .i64 0,.string ⟨#[]⟩,.bool false,.slice none 0 0,.slice none 0 0,.slice none 0 0,.int .i64 0,.int .i64 (zai T s.i).p] (by simp [go_sem]) rfl ty_stZ40 [(3,.int .i64 (zai T s.i).p)] (by simp [go_sem]) rfl ?_
 simp [go_sem,za0]
 refine zar (by simp [go_sem,za0,za2,za1,hB1.cell]) rfl zcC (fun w20 b20 hE20 hle20 hB20=>?_)
 have hwb20:_≤b20:=Nat.le_trans hG.size hle20
 have hd1_20:b1≠b20:=Nat.ne_of_lt (Nat.lt_of_lt_of_le hB1.lt hle20)
 replace hB1:=hB1.keep hE20
 replace hG:=hG.trans (za6 hE20)
 replace hP:=hP.ext hE20
 simp [go_sem,za0,za2,za1,hB1.cell,hB20.cell]
 refine za7 (b:=b20) (off:=0) [.int .i64 0,.slice none 0 0,.int .i64 0,.string ⟨#[]⟩,.bool false,.slice none 0 0,.slice none 0 0,.slice none 0 0,.int .i64 0,.int .i64 (zai T s.i).p] (by simp [go_sem,za0,za2,za1,hB1.cell,hB20.cell]) rfl (by simp [go_sem,za0,za2,za1,hB1.cell,hB20.cell]) (by simp [go_sem,Value.cells,za0,za2,za1,hB1.cell,hB20.cell]) zbG hB20 (by simp) (by simp [Value.oneCell']) (by decide) (fun w21 hS21 hB21=>?_)
 simp [zaD] at hB21
 replace hG:=zaj hG hS21 hwb20
 replace hP:=hP.sto hS21 (by omega) (fun ad ha=>by have:=hla0 ad ha;omega)
 replace hB1:=hB1.sto hS21 (by first|exact hd1_20|exact (hd20_1).symm)
 simp [go_sem,za0,za2,za1,hB1.cell,hB21.cell]
 refine hK _ _ ?_;clear hK K
 obtain ⟨pos,hpos⟩:∃ p:Int,p=(zai T s.i).p:=⟨_,rfl⟩
 rw [←hpos] at hq0
 have hB20:=hB21
 rw [←hpos] at hB20
 have hB1:=hB1
 refine zad (fun K1 hK1=>?_)
 have tail:∀ (g:G) (w9:World) (q:PSt × Stm) (x:Stm) (a:Option Addr) (c:Nat) (ya:Option Addr) (yc:Nat) (yb:Option Addr) (yd:Nat) (ye:Option Addr) (yp:Nat),q0=q→(q.1.er=0→x=q.2)→g 0 = .pointer (some ⟨b,0,none⟩)→g 2 = .pointer (some ⟨b1,0,none⟩)→g 3 = .pointer (some ⟨b20,0,none⟩)→PSS w9 b tb la cap T q.1→w.grownBy w9 (some b)→Bx w9 b1 #[.int .i64 0,.slice none 0 0,.int .i64 0,.string ⟨#[]⟩,.bool false,.slice none 0 0,.slice none 0 0,.slice none 0 0,.int .i64 0,.int .i64 0] 40→Bx w9 b20 #[.int .i64 x.kind,.slice a x.names.length c,.int .i64 x.expr.kind,.string ⟨x.expr.name.toArray⟩,.bool x.expr.neg,.slice ya x.expr.num.length yc,.slice yb x.expr.den.length yd,.slice ye x.expr.args.length yp,.int .i64 x.expr.pos,.int .i64 x.pos] 40→NmS w9 (fun k=>w.heap.size≤k∧k≠b1∧k≠b20) a x.names→EX w9 (fun k=>w.heap.size≤k∧k≠b1∧k≠b20) [.int .i64 x.expr.kind,.string ⟨x.expr.name.toArray⟩,.bool x.expr.neg,.slice ya x.expr.num.length yc,.slice yb x.expr.den.length yd,.slice ye x.expr.args.length yp,.int .i64 x.expr.pos] x.expr→K1 g w9:=by
  clear hP hG hB1 hB20
  intro g w9 q x a c ya yc yb yd ye yp hq hx g0 g2 g3 hP hG hB1 hB20 hnm hxe
  rw [hq] at hZ
  refine hK1 _ _ ?_
  first|refine zzr fun K hK=>?_|refine zzt fun K hK=>?_
  simp [go_sem,za0,za2,za1,hB1.cell,hB20.cell,g0,g2,g3]
  refine za5 (by simp [go_sem,za0,za2,za1,hB1.cell,hB20.cell,g0,g2,g3]) rfl Try.call27 (fun R hR=>?_)
  simp [go_sem,za0,za2,za1,hB1.cell,hB20.cell,g0,g2,g3]
  refine (zd0 hP hW sSC).mono ?_
  rintro e w80 ⟨rfl,hQ80,hg80⟩
  refine ⟨_,rfl,hR _ _ ?_⟩
  clear hR R
  replace hnm:=hnm.ch (hP.ch hg80) (by intro k hk e;subst e;first|omega|(have:=hk.1;omega))
  replace hxe:=hxe.ch (hP.ch hg80) (by intro k hk e;subst e;first|omega|(have:=hk.1;omega))
  replace hB1:=hB1.grown hg80 (by intro e;injection e with e;omega)
  replace hB20:=hB20.grown hg80 (by intro e;injection e with e;omega)
  replace hP:=hQ80
  replace hG:=hG.trans hg80
  clear hQ80
  simp [go_sem,za0,za2,za1,hB1.cell,hB20.cell,g0,g2,g3]
  refine hK _ _ ?_;clear hK K
  first|refine zzr fun K hK=>?_|refine zzt fun K hK=>?_
  simp [go_sem,za0,za2,za1,hB1.cell,hB20.cell,g0,g2,g3]
  refine za7 (b:=b1) (off:=0) [.int .i64 x.kind,.slice a x.names.length c,.int .i64 x.expr.kind,.string ⟨x.expr.name.toArray⟩,.bool x.expr.neg,.slice ya x.expr.num.length yc,.slice yb x.expr.den.length yd,.slice ye x.expr.args.length yp,.int .i64 x.expr.pos,.int .i64 x.pos] (by simp [go_sem,za0,za2,za1,hB1.cell,hB20.cell,g0,g2,g3]) rfl (by simp [go_sem,za0,za2,za1,hB1.cell,hB20.cell,g0,g2,g3]) (by simp [go_sem,Value.cells,za0,za2,za1,hB1.cell,hB20.cell,g0,g2,g3]) zbG hB1 (by simp) (by simp [Value.oneCell']) (by decide) (fun w81 hS81 hB81=>?_)
  simp [zaD] at hB81
  replace hnm:=hnm.ch (Ch.of_sto hS81 (NL.of_bx hB1 (by intro u hu x e;subst e;simp at hu))) (by intro k hk e;subst e;first|exact hk.2 rfl|omega)
  replace hxe:=hxe.ch (Ch.of_sto hS81 (NL.of_bx hB1 (by intro u hu x e;subst e;simp at hu))) (by intro k hk e;subst e;first|exact hk.2 rfl|omega)
  replace hG:=zaj hG hS81 hwb1
  replace hP:=hP.sto hS81 (by omega) (fun ad ha=>by have:=hla0 ad ha;omega)
  replace hB20:=hB20.sto hS81 (by first|exact hd20_1|exact (hd1_20).symm)
  simp [go_sem,za0,za2,za1,hB20.cell,g0,g2,g3,hB81.cell]
  refine hK _ _ ?_;clear hK K
  refine zal ?_
  repeat (first|refine za4 ?_|refine za3 ?_)
  refine ⟨by simp [go_sem,zb6,zav,za2,za1,za0,hB81.cell,g2],?_⟩
  refine ⟨_,x,?_,⟨a,c,_,rfl,hnm.mono (fun k hk=>hk.1),hxe.mono (fun k hk=>hk.1)⟩,fun e=>?_,by rw [hZ];exact hP,hG⟩
  ·simp [go_sem,zaw,zav,za2,za1,za0,hB81.cell,g2]
  ·rw [hZ] at e ⊢
   refine hx ?_
   by_cases h0:q.1.er=0
   ·exact h0
   ·rw [zbJ h0] at e;exact e
 refine zag ?_
 have key:∀ t,isT T s.er s.i t=false→zaO T t s=s:=fun t ht=>by unfold zaO;rw [ht,if_neg (by decide)]
 cases c1:isT T s.er s.i zbW with
 | true =>
  rw [if_pos c1] at hq0
  first|refine zzr fun K hK=>?_|refine zzt fun K hK=>?_
  simp [go_sem,za0,za2,za1,hB1.cell,hB20.cell]
  refine za5 (by simp [go_sem,za0,za2,za1,hB1.cell,hB20.cell]) rfl Try.call24 (fun R hR=>?_)
  simp [go_sem,za0,za2,za1,hB1.cell,hB20.cell]
  refine (zbj hP hW zbW).mono ?_
  rintro e w30 ⟨rfl,hQ30,hg30⟩
  refine ⟨_,rfl,hR _ _ ?_⟩
  clear hR R
  replace hB1:=hB1.grown hg30 (by intro e;injection e with e;omega)
  replace hB20:=hB20.grown hg30 (by intro e;injection e with e;omega)
  replace hP:=hQ30
  replace hG:=hG.trans hg30
  clear hQ30
  simp [go_sem,za0,za2,za1,hB1.cell,hB20.cell]
  rw [c1]
  refine hK _ _ ?_;clear hK K
  refine zao (t:=true) (by simp [go_sem,za0,za2,za1,hB1.cell,hB20.cell]) rfl ?_
  first|refine zzr fun K hK=>?_|refine zzt fun K hK=>?_
  simp [go_sem,za0,za2,za1,hB1.cell,hB20.cell]
  have hwz:=hG.size
  have h1l:=hB1.lt
  have h20l:=hB20.lt
  refine za5 (by simp [go_sem,za0,za2,za1,hB1.cell,hB20.cell]) rfl Try.call25 (fun R hR=>?_)
  simp [go_sem,za0,za2,za1,hB1.cell,hB20.cell]
  refine (points_any hW hP pos).mono ?_
  rintro e w70 ⟨Rx,x,rfl,hsx,hxv,hQ70,hg70⟩
  refine ⟨_,rfl,hR _ _ ?_⟩
  clear hR R
  replace hB1:=hB1.grown hg70 (by intro e;injection e with e;omega)
  replace hB20:=hB20.grown hg70 (by intro e;injection e with e;omega)
  replace hP:=hQ70
  replace hG:=hG.trans hg70
  clear hQ70
  obtain ⟨a,c,ya,yc,yb,yd,ye,yp,hRx,hnm,hxe⟩:=hsx.open
  subst hRx
  replace hnm:=hnm.mono (F':=fun k=>w.heap.size≤k∧k≠b1∧k≠b20) (fun k hk=>⟨Nat.le_trans hwz hk,fun e=>by subst e;exact absurd hk (Nat.not_le.2 h1l),fun e=>by subst e;exact absurd hk (Nat.not_le.2 h20l)⟩)
  replace hxe:=hxe.mono (F':=fun k=>w.heap.size≤k∧k≠b1∧k≠b20) (fun k hk=>⟨Nat.le_trans hwz hk,fun e=>by subst e;exact absurd hk (Nat.not_le.2 h1l),fun e=>by subst e;exact absurd hk (Nat.not_le.2 h20l)⟩)
  simp [go_sem,za0,za2,za1,hB1.cell,hB20.cell]
  refine za7 (b:=b20) (off:=0) [.int .i64 x.kind,.slice a x.names.length c,.int .i64 x.expr.kind,.string ⟨x.expr.name.toArray⟩,.bool x.expr.neg,.slice ya x.expr.num.length yc,.slice yb x.expr.den.length yd,.slice ye x.expr.args.length yp,.int .i64 x.expr.pos,.int .i64 x.pos] (by simp [go_sem,za0,za2,za1,hB1.cell,hB20.cell]) rfl (by simp [go_sem,za0,za2,za1,hB1.cell,hB20.cell]) (by simp [go_sem,Value.cells,za0,za2,za1,hB1.cell,hB20.cell]) zbG hB20 (by simp) (by simp [Value.oneCell']) (by decide) (fun w71 hS71 hB71=>?_)
  simp [zaD] at hB71
  replace hnm:=hnm.ch (Ch.of_sto hS71 (NL.of_bx hB20 (by intro u hu x e;subst e;simp at hu))) (by intro k hk e;subst e;first|exact hk.2 rfl|omega)
  replace hxe:=hxe.ch (Ch.of_sto hS71 (NL.of_bx hB20 (by intro u hu x e;subst e;simp at hu))) (by intro k hk e;subst e;first|exact hk.2 rfl|omega)
  replace hG:=zaj hG hS71 hwb20
  replace hP:=hP.sto hS71 (by omega) (fun ad ha=>by have:=hla0 ad ha;omega)
  replace hB1:=hB1.sto hS71 (by first|exact hd1_20|exact (hd20_1).symm)
  simp [go_sem,za0,za2,za1,hB1.cell,hB71.cell]
  refine hK _ _ ?_;clear hK K
  refine tail _ _ _ x a c ya yc yb yd ye yp ?_ ?_ (by simp [go_sem]) (by simp [go_sem]) (by simp [go_sem]) hP hG hB1 hB71 hnm hxe
  ·exact hq0
  ·exact hxv
 | false =>
  rw [if_neg (by rw [c1];decide)] at hq0
  first|refine zzr fun K hK=>?_|refine zzt fun K hK=>?_
  simp [go_sem,za0,za2,za1,hB1.cell,hB20.cell]
  refine za5 (by simp [go_sem,za0,za2,za1,hB1.cell,hB20.cell]) rfl Try.call24 (fun R hR=>?_)
  simp [go_sem,za0,za2,za1,hB1.cell,hB20.cell]
  refine (zbj hP hW zbW).mono ?_
  rintro e w30 ⟨rfl,hQ30,hg30⟩
  refine ⟨_,rfl,hR _ _ ?_⟩
  clear hR R
  replace hB1:=hB1.grown hg30 (by intro e;injection e with e;omega)
  replace hB20:=hB20.grown hg30 (by intro e;injection e with e;omega)
  replace hP:=hQ30
  replace hG:=hG.trans hg30
  clear hQ30
  simp [go_sem,za0,za2,za1,hB1.cell,hB20.cell]
  rw [show zaO T zbW s=s by unfold zaO;rw [if_neg (by rw [c1];decide)]] at hP
  rw [c1]
  refine hK _ _ ?_;clear hK K
  refine zao (t:=false) (by simp [go_sem,za0,za2,za1,hB1.cell,hB20.cell]) rfl ?_
  cases c2:isT T s.er s.i wLine with
  | true =>
   rw [if_pos c2] at hq0
   first|refine zzr fun K hK=>?_|refine zzt fun K hK=>?_
   simp [go_sem,za0,za2,za1,hB1.cell,hB20.cell]
   refine za5 (by simp [go_sem,za0,za2,za1,hB1.cell,hB20.cell]) rfl Try.call24 (fun R hR=>?_)
   simp [go_sem,za0,za2,za1,hB1.cell,hB20.cell]
   refine (zbj hP hW wLine).mono ?_
   rintro e w40 ⟨rfl,hQ40,hg40⟩
   refine ⟨_,rfl,hR _ _ ?_⟩
   clear hR R
   replace hB1:=hB1.grown hg40 (by intro e;injection e with e;omega)
   replace hB20:=hB20.grown hg40 (by intro e;injection e with e;omega)
   replace hP:=hQ40
   replace hG:=hG.trans hg40
   clear hQ40
   simp [go_sem,za0,za2,za1,hB1.cell,hB20.cell]
   rw [c2]
   refine hK _ _ ?_;clear hK K
   refine zao (t:=true) (by simp [go_sem,za0,za2,za1,hB1.cell,hB20.cell]) rfl ?_
   first|refine zzr fun K hK=>?_|refine zzt fun K hK=>?_
   simp [go_sem,za0,za2,za1,hB1.cell,hB20.cell]
   have hwz:=hG.size
   have h1l:=hB1.lt
   have h20l:=hB20.lt
   refine za5 (by simp [go_sem,za0,za2,za1,hB1.cell,hB20.cell]) rfl Try.call26 (fun R hR=>?_)
   simp [go_sem,za0,za2,za1,hB1.cell,hB20.cell]
   refine (define_any hW hP pos 3 2).mono ?_
   rintro e w70 ⟨Rx,x,rfl,hsx,hxv,hQ70,hg70⟩
   refine ⟨_,rfl,hR _ _ ?_⟩
   clear hR R
   replace hB1:=hB1.grown hg70 (by intro e;injection e with e;omega)
   replace hB20:=hB20.grown hg70 (by intro e;injection e with e;omega)
   replace hP:=hQ70
   replace hG:=hG.trans hg70
   clear hQ70
   obtain ⟨a,c,ya,yc,yb,yd,ye,yp,hRx,hnm,hxe⟩:=hsx.open
   subst hRx
   replace hnm:=hnm.mono (F':=fun k=>w.heap.size≤k∧k≠b1∧k≠b20) (fun k hk=>⟨Nat.le_trans hwz hk,fun e=>by subst e;exact absurd hk (Nat.not_le.2 h1l),fun e=>by subst e;exact absurd hk (Nat.not_le.2 h20l)⟩)
   replace hxe:=hxe.mono (F':=fun k=>w.heap.size≤k∧k≠b1∧k≠b20) (fun k hk=>⟨Nat.le_trans hwz hk,fun e=>by subst e;exact absurd hk (Nat.not_le.2 h1l),fun e=>by subst e;exact absurd hk (Nat.not_le.2 h20l)⟩)
   simp [go_sem,za0,za2,za1,hB1.cell,hB20.cell]
   refine za7 (b:=b20) (off:=0) [.int .i64 x.kind,.slice a x.names.length c,.int .i64 x.expr.kind,.string ⟨x.expr.name.toArray⟩,.bool x.expr.neg,.slice ya x.expr.num.length yc,.slice yb x.expr.den.length yd,.slice ye x.expr.args.length yp,.int .i64 x.expr.pos,.int .i64 x.pos] (by simp [go_sem,za0,za2,za1,hB1.cell,hB20.cell]) rfl (by simp [go_sem,za0,za2,za1,hB1.cell,hB20.cell]) (by simp [go_sem,Value.cells,za0,za2,za1,hB1.cell,hB20.cell]) zbG hB20 (by simp) (by simp [Value.oneCell']) (by decide) (fun w71 hS71 hB71=>?_)
   simp [zaD] at hB71
   replace hnm:=hnm.ch (Ch.of_sto hS71 (NL.of_bx hB20 (by intro u hu x e;subst e;simp at hu))) (by intro k hk e;subst e;first|exact hk.2 rfl|omega)
   replace hxe:=hxe.ch (Ch.of_sto hS71 (NL.of_bx hB20 (by intro u hu x e;subst e;simp at hu))) (by intro k hk e;subst e;first|exact hk.2 rfl|omega)
   replace hG:=zaj hG hS71 hwb20
   replace hP:=hP.sto hS71 (by omega) (fun ad ha=>by have:=hla0 ad ha;omega)
   replace hB1:=hB1.sto hS71 (by first|exact hd1_20|exact (hd20_1).symm)
   simp [go_sem,za0,za2,za1,hB1.cell,hB71.cell]
   refine hK _ _ ?_;clear hK K
   refine tail _ _ _ x a c ya yc yb yd ye yp ?_ ?_ (by simp [go_sem]) (by simp [go_sem]) (by simp [go_sem]) hP hG hB1 hB71 hnm hxe
   ·exact hq0
   ·exact hxv
  | false =>
   rw [if_neg (by rw [c2];decide)] at hq0
   first|refine zzr fun K hK=>?_|refine zzt fun K hK=>?_
   simp [go_sem,za0,za2,za1,hB1.cell,hB20.cell]
   refine za5 (by simp [go_sem,za0,za2,za1,hB1.cell,hB20.cell]) rfl Try.call24 (fun R hR=>?_)
   simp [go_sem,za0,za2,za1,hB1.cell,hB20.cell]
   refine (zbj hP hW wLine).mono ?_
   rintro e w40 ⟨rfl,hQ40,hg40⟩
   refine ⟨_,rfl,hR _ _ ?_⟩
   clear hR R
   replace hB1:=hB1.grown hg40 (by intro e;injection e with e;omega)
   replace hB20:=hB20.grown hg40 (by intro e;injection e with e;omega)
   replace hP:=hQ40
   replace hG:=hG.trans hg40
   clear hQ40
   simp [go_sem,za0,za2,za1,hB1.cell,hB20.cell]
   rw [show zaO T wLine s=s by unfold zaO;rw [if_neg (by rw [c2];decide)]] at hP
   rw [c2]
   refine hK _ _ ?_;clear hK K
   refine zao (t:=false) (by simp [go_sem,za0,za2,za1,hB1.cell,hB20.cell]) rfl ?_
   cases c3:isT T s.er s.i zcr with
   | true =>
    rw [if_pos c3] at hq0
    first|refine zzr fun K hK=>?_|refine zzt fun K hK=>?_
    simp [go_sem,za0,za2,za1,hB1.cell,hB20.cell]
    refine za5 (by simp [go_sem,za0,za2,za1,hB1.cell,hB20.cell]) rfl Try.call24 (fun R hR=>?_)
    simp [go_sem,za0,za2,za1,hB1.cell,hB20.cell]
    refine (zbj hP hW zcr).mono ?_
    rintro e w50 ⟨rfl,hQ50,hg50⟩
    refine ⟨_,rfl,hR _ _ ?_⟩
    clear hR R
    replace hB1:=hB1.grown hg50 (by intro e;injection e with e;omega)
    replace hB20:=hB20.grown hg50 (by intro e;injection e with e;omega)
    replace hP:=hQ50
    replace hG:=hG.trans hg50
    clear hQ50
    simp [go_sem,za0,za2,za1,hB1.cell,hB20.cell]
    rw [c3]
    refine hK _ _ ?_;clear hK K
    refine zao (t:=true) (by simp [go_sem,za0,za2,za1,hB1.cell,hB20.cell]) rfl ?_
    first|refine zzr fun K hK=>?_|refine zzt fun K hK=>?_
    simp [go_sem,za0,za2,za1,hB1.cell,hB20.cell]
    have hwz:=hG.size
    have h1l:=hB1.lt
    have h20l:=hB20.lt
    refine za5 (by simp [go_sem,za0,za2,za1,hB1.cell,hB20.cell]) rfl Try.call26 (fun R hR=>?_)
    simp [go_sem,za0,za2,za1,hB1.cell,hB20.cell]
    refine (define_any hW hP pos 4 3).mono ?_
    rintro e w70 ⟨Rx,x,rfl,hsx,hxv,hQ70,hg70⟩
    refine ⟨_,rfl,hR _ _ ?_⟩
    clear hR R
    replace hB1:=hB1.grown hg70 (by intro e;injection e with e;omega)
    replace hB20:=hB20.grown hg70 (by intro e;injection e with e;omega)
    replace hP:=hQ70
    replace hG:=hG.trans hg70
    clear hQ70
    obtain ⟨a,c,ya,yc,yb,yd,ye,yp,hRx,hnm,hxe⟩:=hsx.open
    subst hRx
    replace hnm:=hnm.mono (F':=fun k=>w.heap.size≤k∧k≠b1∧k≠b20) (fun k hk=>⟨Nat.le_trans hwz hk,fun e=>by subst e;exact absurd hk (Nat.not_le.2 h1l),fun e=>by subst e;exact absurd hk (Nat.not_le.2 h20l)⟩)
    replace hxe:=hxe.mono (F':=fun k=>w.heap.size≤k∧k≠b1∧k≠b20) (fun k hk=>⟨Nat.le_trans hwz hk,fun e=>by subst e;exact absurd hk (Nat.not_le.2 h1l),fun e=>by subst e;exact absurd hk (Nat.not_le.2 h20l)⟩)
    simp [go_sem,za0,za2,za1,hB1.cell,hB20.cell]
    refine za7 (b:=b20) (off:=0) [.int .i64 x.kind,.slice a x.names.length c,.int .i64 x.expr.kind,.string ⟨x.expr.name.toArray⟩,.bool x.expr.neg,.slice ya x.expr.num.length yc,.slice yb x.expr.den.length yd,.slice ye x.expr.args.length yp,.int .i64 x.expr.pos,.int .i64 x.pos] (by simp [go_sem,za0,za2,za1,hB1.cell,hB20.cell]) rfl (by simp [go_sem,za0,za2,za1,hB1.cell,hB20.cell]) (by simp [go_sem,Value.cells,za0,za2,za1,hB1.cell,hB20.cell]) zbG hB20 (by simp) (by simp [Value.oneCell']) (by decide) (fun w71 hS71 hB71=>?_)
    simp [zaD] at hB71
    replace hnm:=hnm.ch (Ch.of_sto hS71 (NL.of_bx hB20 (by intro u hu x e;subst e;simp at hu))) (by intro k hk e;subst e;first|exact hk.2 rfl|omega)
    replace hxe:=hxe.ch (Ch.of_sto hS71 (NL.of_bx hB20 (by intro u hu x e;subst e;simp at hu))) (by intro k hk e;subst e;first|exact hk.2 rfl|omega)
    replace hG:=zaj hG hS71 hwb20
    replace hP:=hP.sto hS71 (by omega) (fun ad ha=>by have:=hla0 ad ha;omega)
    replace hB1:=hB1.sto hS71 (by first|exact hd1_20|exact (hd20_1).symm)
    simp [go_sem,za0,za2,za1,hB1.cell,hB71.cell]
    refine hK _ _ ?_;clear hK K
    refine tail _ _ _ x a c ya yc yb yd ye yp ?_ ?_ (by simp [go_sem]) (by simp [go_sem]) (by simp [go_sem]) hP hG hB1 hB71 hnm hxe
    ·exact hq0
    ·exact hxv
   | false =>
    rw [if_neg (by rw [c3];decide)] at hq0
    first|refine zzr fun K hK=>?_|refine zzt fun K hK=>?_
    simp [go_sem,za0,za2,za1,hB1.cell,hB20.cell]
    refine za5 (by simp [go_sem,za0,za2,za1,hB1.cell,hB20.cell]) rfl Try.call24 (fun R hR=>?_)
    simp [go_sem,za0,za2,za1,hB1.cell,hB20.cell]
    refine (zbj hP hW zcr).mono ?_
    rintro e w50 ⟨rfl,hQ50,hg50⟩
    refine ⟨_,rfl,hR _ _ ?_⟩
    clear hR R
    replace hB1:=hB1.grown hg50 (by intro e;injection e with e;omega)
    replace hB20:=hB20.grown hg50 (by intro e;injection e with e;omega)
    replace hP:=hQ50
    replace hG:=hG.trans hg50
    clear hQ50
    simp [go_sem,za0,za2,za1,hB1.cell,hB20.cell]
    rw [show zaO T zcr s=s by unfold zaO;rw [if_neg (by rw [c3];decide)]] at hP
    rw [c3]
    refine hK _ _ ?_;clear hK K
    refine zao (t:=false) (by simp [go_sem,za0,za2,za1,hB1.cell,hB20.cell]) rfl ?_
    cases c4:isT T s.er s.i zcA with
    | true =>
     rw [if_pos c4] at hq0
     first|refine zzr fun K hK=>?_|refine zzt fun K hK=>?_
     simp [go_sem,za0,za2,za1,hB1.cell,hB20.cell]
     refine za5 (by simp [go_sem,za0,za2,za1,hB1.cell,hB20.cell]) rfl Try.call24 (fun R hR=>?_)
     simp [go_sem,za0,za2,za1,hB1.cell,hB20.cell]
     refine (zbj hP hW zcA).mono ?_
     rintro e w60 ⟨rfl,hQ60,hg60⟩
     refine ⟨_,rfl,hR _ _ ?_⟩
     clear hR R
     replace hB1:=hB1.grown hg60 (by intro e;injection e with e;omega)
     replace hB20:=hB20.grown hg60 (by intro e;injection e with e;omega)
     replace hP:=hQ60
     replace hG:=hG.trans hg60
     clear hQ60
     simp [go_sem,za0,za2,za1,hB1.cell,hB20.cell]
     rw [c4]
     refine hK _ _ ?_;clear hK K
     refine zao (t:=true) (by simp [go_sem,za0,za2,za1,hB1.cell,hB20.cell]) rfl ?_
     first|refine zzr fun K hK=>?_|refine zzt fun K hK=>?_
     simp [go_sem,za0,za2,za1,hB1.cell,hB20.cell]
     refine zam #[.int .i64 4] (by simp [go_sem,za0,za2,za1,hB1.cell,hB20.cell]) rfl zdb (by decide) [(0,.int .i64 4)] (by simp [go_sem,za0,za2,za1,hB1.cell,hB20.cell]) (by kernel_rfl) (fun w70 b70 hE70 hle70 hB70=>?_)
     have hwb70:_≤b70:=Nat.le_trans hG.size hle70
     have hd1_70:b1≠b70:=Nat.ne_of_lt (Nat.lt_of_lt_of_le hB1.lt hle70)
     have hd20_70:b20≠b70:=Nat.ne_of_lt (Nat.lt_of_lt_of_le hB20.lt hle70)
     replace hB1:=hB1.keep hE70
     replace hB20:=hB20.keep hE70
     replace hG:=hG.trans (za6 hE70)
     replace hP:=hP.ext hE70
     simp [go_sem,za0,za2,za1,hB1.cell,hB20.cell,hB70.cell]
     have hwz:=hG.size
     have h1l:=hB1.lt
     have h20l:=hB20.lt
     refine za5 (by simp [go_sem,za0,za2,za1,hB1.cell,hB20.cell,hB70.cell]) rfl Try.call18 (fun R hR=>?_)
     simp [go_sem,za0,za2,za1,hB1.cell,hB20.cell,hB70.cell]
     refine (con1_any hW hP (some ⟨b70,0,none⟩) 1 [4] (intC_sl (l:=[4]) hB70) (by decide)).mono ?_
     rintro e w71 ⟨Rx,x,rfl,hxe,hxv,hQ71,hg71⟩
     refine ⟨_,rfl,hR _ _ ?_⟩
     clear hR R
     replace hB1:=hB1.grown hg71 (by intro e;injection e with e;omega)
     replace hB20:=hB20.grown hg71 (by intro e;injection e with e;omega)
     replace hB70:=hB70.grown hg71 (by intro e;injection e with e;omega)
     replace hP:=hQ71
     replace hG:=hG.trans hg71
     clear hQ71
     obtain ⟨ya,yc,yb,yd,ye,yp,xrows,hRx,_⟩:=hxe.open
     subst hRx
     replace hxe:=hxe.mono (F':=fun k=>w.heap.size≤k∧k≠b1∧k≠b20) (fun k hk=>⟨Nat.le_trans hwz hk,fun e=>by subst e;exact absurd hk (Nat.not_le.2 h1l),fun e=>by subst e;exact absurd hk (Nat.not_le.2 h20l)⟩)
     simp [go_sem,za0,za2,za1,hB1.cell,hB20.cell,hB70.cell]
     refine za7 (b:=b20) (off:=0) [.int .i64 5] (by simp [go_sem,za0,za2,za1,hB1.cell,hB20.cell,hB70.cell]) rfl (by simp [go_sem,za0,za2,za1,hB1.cell,hB20.cell,hB70.cell]) (by simp [go_sem,Value.cells,za0,za2,za1,hB1.cell,hB20.cell,hB70.cell]) zaI hB20 (by simp) (by simp [Value.oneCell']) (by decide) (fun w72 hS72 hB72=>?_)
     simp [zaD] at hB72
     replace hxe:=hxe.ch (Ch.of_sto hS72 (NL.of_bx hB20 (by intro u hu x e;subst e;simp at hu))) (by intro k hk e;subst e;first|exact hk.2 rfl|omega)
     replace hG:=zaj hG hS72 hwb20
     replace hP:=hP.sto hS72 (by omega) (fun ad ha=>by have:=hla0 ad ha;omega)
     replace hB1:=hB1.sto hS72 (by first|exact hd1_20|exact (hd20_1).symm)
     replace hB70:=hB70.sto hS72 (by first|exact hd70_20|exact (hd20_70).symm)
     simp [go_sem,za0,za2,za1,hB1.cell,hB70.cell,hB72.cell]
     refine za7 (b:=b20) (off:=2) [.int .i64 x.kind,.string ⟨x.name.toArray⟩,.bool x.neg,.slice ya x.num.length yc,.slice yb x.den.length yd,.slice ye x.args.length yp,.int .i64 x.pos] (by simp [go_sem,za0,za2,za1,hB1.cell,hB70.cell,hB72.cell]) rfl (by simp [go_sem,za0,za2,za1,hB1.cell,hB70.cell,hB72.cell]) (by simp [go_sem,Value.cells,za0,za2,za1,hB1.cell,hB70.cell,hB72.cell]) zaE hB72 (by simp) (by simp [Value.oneCell']) (by decide) (fun w73 hS73 hB73=>?_)
     simp [zaD] at hB73
     replace hxe:=hxe.ch (Ch.of_sto hS73 (NL.of_bx hB72 (by intro u hu x e;subst e;simp at hu))) (by intro k hk e;subst e;first|exact hk.2 rfl|omega)
     replace hG:=zaj hG hS73 hwb20
     replace hP:=hP.sto hS73 (by omega) (fun ad ha=>by have:=hla0 ad ha;omega)
     replace hB1:=hB1.sto hS73 (by first|exact hd1_20|exact (hd20_1).symm)
     replace hB70:=hB70.sto hS73 (by first|exact hd70_20|exact (hd20_70).symm)
     simp [go_sem,za0,za2,za1,hB1.cell,hB70.cell,hB73.cell]
     refine hK _ _ ?_;clear hK K
     refine tail _ _ ((conP T (argP T 19) [4] (zaO T zcA s)).1,⟨5,[],(conP T (argP T 19) [4] (zaO T zcA s)).2,pos⟩) ⟨5,[],x,pos⟩ none 0 ya yc yb yd ye yp hq0 (fun e=>by rw [hxv e]) (by simp [go_sem]) (by simp [go_sem]) (by simp [go_sem]) hP hG hB1 hB73 (NmS.nil _ _ _) hxe
    | false =>
     rw [if_neg (by rw [c4];decide)] at hq0
     first|refine zzr fun K hK=>?_|refine zzt fun K hK=>?_
     simp [go_sem,za0,za2,za1,hB1.cell,hB20.cell]
     refine za5 (by simp [go_sem,za0,za2,za1,hB1.cell,hB20.cell]) rfl Try.call24 (fun R hR=>?_)
     simp [go_sem,za0,za2,za1,hB1.cell,hB20.cell]
     refine (zbj hP hW zcA).mono ?_
     rintro e w60 ⟨rfl,hQ60,hg60⟩
     refine ⟨_,rfl,hR _ _ ?_⟩
     clear hR R
     replace hB1:=hB1.grown hg60 (by intro e;injection e with e;omega)
     replace hB20:=hB20.grown hg60 (by intro e;injection e with e;omega)
     replace hP:=hQ60
     replace hG:=hG.trans hg60
     clear hQ60
     simp [go_sem,za0,za2,za1,hB1.cell,hB20.cell]
     rw [show zaO T zcA s=s by unfold zaO;rw [if_neg (by rw [c4];decide)]] at hP
     rw [c4]
     refine hK _ _ ?_;clear hK K
     refine zao (t:=false) (by simp [go_sem,za0,za2,za1,hB1.cell,hB20.cell]) rfl ?_
     first|refine zzr fun K hK=>?_|refine zzt fun K hK=>?_
     simp [go_sem,za0,za2,za1,hB1.cell,hB20.cell]
     refine za5 (by simp [go_sem,za0,za2,za1,hB1.cell,hB20.cell]) rfl Try.call17 (fun R hR=>?_)
     simp [go_sem,za0,za2,za1,hB1.cell,hB20.cell]
     refine (namedS_any hP hW).mono ?_
     rintro e w60 ⟨rfl,hE60⟩
     refine ⟨_,rfl,hR _ _ ?_⟩
     clear hR R
     replace hB1:=hB1.keep hE60
     replace hB20:=hB20.keep hE60
     replace hG:=hG.trans (za6 hE60)
     replace hP:=hP.ext hE60
     simp [go_sem,za0,za2,za1,hB1.cell,hB20.cell]
     cases c5:nmT T s.er s.i with
     | true =>
      rw [if_pos c5] at hq0
      refine hK _ _ ?_;clear hK K
      refine zao (t:=true) (by simp [go_sem,za0,za2,za1,hB1.cell,hB20.cell]) rfl ?_
      first|refine zzr fun K hK=>?_|refine zzt fun K hK=>?_
      simp [go_sem,za0,za2,za1,hB1.cell,hB20.cell]
      have hwz:=hG.size
      have h1l:=hB1.lt
      have h20l:=hB20.lt
      refine za5 (by simp [go_sem,za0,za2,za1,hB1.cell,hB20.cell]) rfl Try.call26 (fun R hR=>?_)
      simp [go_sem,za0,za2,za1,hB1.cell,hB20.cell]
      refine (define_any hW hP pos 2 1).mono ?_
      rintro e w70 ⟨Rx,x,rfl,hsx,hxv,hQ70,hg70⟩
      refine ⟨_,rfl,hR _ _ ?_⟩
      clear hR R
      replace hB1:=hB1.grown hg70 (by intro e;injection e with e;omega)
      replace hB20:=hB20.grown hg70 (by intro e;injection e with e;omega)
      replace hP:=hQ70
      replace hG:=hG.trans hg70
      clear hQ70
      obtain ⟨a,c,ya,yc,yb,yd,ye,yp,hRx,hnm,hxe⟩:=hsx.open
      subst hRx
      replace hnm:=hnm.mono (F':=fun k=>w.heap.size≤k∧k≠b1∧k≠b20) (fun k hk=>⟨Nat.le_trans hwz hk,fun e=>by subst e;exact absurd hk (Nat.not_le.2 h1l),fun e=>by subst e;exact absurd hk (Nat.not_le.2 h20l)⟩)
      replace hxe:=hxe.mono (F':=fun k=>w.heap.size≤k∧k≠b1∧k≠b20) (fun k hk=>⟨Nat.le_trans hwz hk,fun e=>by subst e;exact absurd hk (Nat.not_le.2 h1l),fun e=>by subst e;exact absurd hk (Nat.not_le.2 h20l)⟩)
      simp [go_sem,za0,za2,za1,hB1.cell,hB20.cell]
      refine za7 (b:=b20) (off:=0) [.int .i64 x.kind,.slice a x.names.length c,.int .i64 x.expr.kind,.string ⟨x.expr.name.toArray⟩,.bool x.expr.neg,.slice ya x.expr.num.length yc,.slice yb x.expr.den.length yd,.slice ye x.expr.args.length yp,.int .i64 x.expr.pos,.int .i64 x.pos] (by simp [go_sem,za0,za2,za1,hB1.cell,hB20.cell]) rfl (by simp [go_sem,za0,za2,za1,hB1.cell,hB20.cell]) (by simp [go_sem,Value.cells,za0,za2,za1,hB1.cell,hB20.cell]) zbG hB20 (by simp) (by simp [Value.oneCell']) (by decide) (fun w71 hS71 hB71=>?_)
      simp [zaD] at hB71
      replace hnm:=hnm.ch (Ch.of_sto hS71 (NL.of_bx hB20 (by intro u hu x e;subst e;simp at hu))) (by intro k hk e;subst e;first|exact hk.2 rfl|omega)
      replace hxe:=hxe.ch (Ch.of_sto hS71 (NL.of_bx hB20 (by intro u hu x e;subst e;simp at hu))) (by intro k hk e;subst e;first|exact hk.2 rfl|omega)
      replace hG:=zaj hG hS71 hwb20
      replace hP:=hP.sto hS71 (by omega) (fun ad ha=>by have:=hla0 ad ha;omega)
      replace hB1:=hB1.sto hS71 (by first|exact hd1_20|exact (hd20_1).symm)
      simp [go_sem,za0,za2,za1,hB1.cell,hB71.cell]
      refine hK _ _ ?_;clear hK K
      refine tail _ _ _ x a c ya yc yb yd ye yp ?_ ?_ (by simp [go_sem]) (by simp [go_sem]) (by simp [go_sem]) hP hG hB1 hB71 hnm hxe
      ·exact hq0
      ·exact hxv
     | false =>
      rw [if_neg (by rw [c5];decide)] at hq0
      refine hK _ _ ?_;clear hK K
      refine zao (t:=false) (by simp [go_sem,za0,za2,za1,hB1.cell,hB20.cell]) rfl ?_
      first|refine zzr fun K hK=>?_|refine zzt fun K hK=>?_
      simp [go_sem,za0,za2,za1,hB1.cell,hB20.cell]
      refine za5 (by simp [go_sem,za0,za2,za1,hB1.cell,hB20.cell]) rfl Try.call19 (fun R hR=>?_)
      simp [go_sem,za0,za2,za1,hB1.cell,hB20.cell]
      refine (zcs hP hW 5).mono ?_
      rintro e w70 ⟨rfl,hQ70,hg70⟩
      refine ⟨_,rfl,hR _ _ ?_⟩
      clear hR R
      replace hB1:=hB1.grown hg70 (by intro e;injection e with e;omega)
      replace hB20:=hB20.grown hg70 (by intro e;injection e with e;omega)
      replace hP:=hQ70
      replace hG:=hG.trans hg70
      clear hQ70
      simp [go_sem,za0,za2,za1,hB1.cell,hB20.cell]
      refine hK _ _ ?_;clear hK K
      refine tail _ _ (zaU T 5 s,⟨0,[],ex0,pos⟩) ⟨0,[],ex0,pos⟩ none 0 none 0 none 0 none 0 hq0 (fun _=>rfl) (by simp [go_sem]) (by simp [go_sem]) (by simp [go_sem]) hP hG hB1 hB20 (NmS.nil _ _ _) (EX.ex0 _ _ _ rfl)
theorem zc4 {w w':World} {b:Nat} (h:w.grownBy w' (some b)) (hb:w.heap.size≤b):Below w.heap.size w w':=⟨h.os,h.tape,h.output,h.size,fun k hk=>h.block k hk (by intro e;injection e with e;omega)⟩
def exprV (s:ByteArray):Tre × Int × Int:=if (ze0 s).2.2=0 then exprP (tokT s) else (ex0,(ze0 s).2.1,(ze0 s).2.2)
def ExprPost (w:World) (r:Tre × Int × Int) (e:Ending) (w':World):Prop :=
 ∃ R:List Value,e = .returned (.tuple #[.agg R.toArray,.int .i64 r.2.1,.int .i64 r.2.2])∧EX w' (fun k=>w.heap.size≤k) R r.1∧Below w.heap.size w w'
theorem _root_.Go.V.Keep.sto {L:List Addr} {w0 w:World} {b:Nat} (hL:∀ a∈L,a.block≠b) (h:Sto w0 w b):Keep L w0 w:=fun a ha=>World.cell?_of_block (w:=w0) (a:=a) (h.block _ (hL a ha))
theorem la_ne {w:World} {b t:Nat} {la:Option Addr} {T:List Tok} {k p:Int} {n:ByteArray} {q:Bool} {a1 a2 a3:Option Addr} {n1 n2 n3 c1 c2 c3:Nat} (hsl:SL w la (zdw T)) (hT:0<T.length) (hB:Bx w b #[.int .i64 k,.string n,.bool q,.slice a1 n1 c1,.slice a2 n2 c2,.slice a3 n3 c3,.int .i64 p] t):∀ ad,la=some ad→ad.block≠b:=by
 intro ad ha e
 have hrow:∃ r,zdw T = .int .i64 (zai T 0).k :: .int .i64 (zai T 0).p :: .int .i64 (zai T 0).e::r:=by
  cases T with
  | nil=>simp at hT
  | cons t T=>exact ⟨_,rfl⟩
 obtain ⟨r,hr⟩:=hrow
 rcases hsl with h0|⟨b',off,e1,h1⟩
 ·rw [hr] at h0;cases h0
 ·rw [ha] at e1;injection e1 with e1;subst e1
  simp only at e
  subst e
  have c0:=h1 0 (.int .i64 (zai T 0).k) (by rw [hr];rfl)
  have c1:=h1 1 (.int .i64 (zai T 0).p) (by rw [hr];rfl)
  rw [hB.cell] at c0 c1
  rw [Nat.add_zero] at c0
  match off,c0,c1 with
  | 0,c0,c1=>simp at c1
  | 1,c0,c1=>simp at c0
  | 2,c0,c1=>simp at c0
  | 3,c0,c1=>simp at c0
  | 4,c0,c1=>simp at c0
  | 5,c0,c1=>simp at c0
  | 6,c0,c1=>simp at c1
  | n+7,c0,c1=>simp at c0
theorem la_lt {w:World} {la:Option Addr} {T:List Tok} (hsl:SL w la (zdw T)) (hT:0<T.length):∀ ad,la=some ad→ad.block<w.heap.size:=by
 intro ad ha
 obtain ⟨b',off,e,hlt⟩:=hsl.lt (by intro e;have h4:=zc1 (toks_all T);rw [show (T.map zbk).flatten=zdw T from rfl,e,List.length_map] at h4;simp at h4;omega)
 rw [ha] at e;injection e with e;subst e;exact hlt
set_option maxHeartbeats 4000000 in
theorem parseExpr_any (s:ByteArray) (w:World) (hs:s.size≤maxLen):Calls Try.prog 9 #[.string s] w (ExprPost w (exprV s)):=by
 obtain ⟨V,hV⟩:∃ V,V=exprV s:=⟨_,rfl⟩
 rw [←hV]
 unfold exprV at hV
 refine za8 (args:=[.string s]) (rs:=[.cell 2 38,.tmp 3,.tmp 4]) (n:=82) Try.func9 rfl rfl rfl (by kernel_rfl) ?_
 have hA0:=Below.refl w.heap.size w
 first|refine zzr fun K hK=>?_|refine zzt fun K hK=>?_
 simp [go_sem,za0,za2,za1]
 refine zar (by simp [go_sem,za0,za2,za1]) rfl zbP (fun w1 b1 hE1 hle1 hB1=>?_)
 have hb1_0:=Nat.le_trans hA0.size hle1
 replace hA0:=hA0.next hE1
 simp [go_sem,za0,za2,za1,hB1.cell]
 refine hK _ _ ?_;clear hK K
 first|refine zzr fun K hK=>?_|refine zzt fun K hK=>?_
 simp [go_sem,za0,za2,za1,hB1.cell]
 refine za5 (by simp [go_sem,za0,za2,za1,hB1.cell]) rfl Try.call11 (fun R hR=>?_)
 simp [go_sem,za0,za2,za1,hB1.cell]
 refine (all_any s _ hs).mono ?_
 rintro e w2 ⟨la,cap,rfl,hsl,hE2⟩
 refine ⟨_,rfl,hR _ _ ?_⟩
 clear hR R
 replace hA0:=hA0.next hE2
 replace hB1:=hB1.keep hE2
 simp [go_sem,za0,za2,za1,hB1.cell]
 refine hK _ _ ?_;clear hK K
 refine zad (fun K1 hK1=>?_)
 first|refine zzr fun K hK=>?_|refine zzt fun K hK=>?_
 simp [go_sem,za0,za2,za1,hB1.cell]
 refine hK _ _ ?_;clear hK K
 by_cases he:(ze0 s).2.2=0
 ·rw [if_pos he] at hV
  have he':((ze0 s).2.2:Int)=0:=by omega
  have hW:=wf_tok he
  have hlen:(ze0 s).1.length=(tokT s).length:=by simp [tokT]
  have hsv:tksC s (ze0 s).1=zdw (tokT s):=(toks_tks s _).symm
  rw [hlen] at *
  rw [hsv] at hsl
  generalize tokT s=T at *
  refine zao (t:=false) (by simp [go_sem,za0,za2,za1,hB1.cell, he',he]) rfl ?_
  refine zae ?_
  refine hK1 _ _ ?_
  first|refine zzr fun K hK=>?_|refine zzt fun K hK=>?_
  simp [go_sem,za0,za2,za1,hB1.cell]
  refine zap #[.slice la T.length cap,.int .i64 0,.int .i64 0,.int .i64 0] (by simp [go_sem]) rfl ty_stZ53 [(0,.slice la T.length cap)] (by simp [go_sem]) rfl ?_
  simp [go_sem,za0]
  refine zap #[.slice la T.length cap,.int .i64 0,.int .i64 0,.int .i64 0] (by simp [go_sem]) rfl ty_stZ55 [(0,.agg #[.slice la T.length cap,.int .i64 0,.int .i64 0,.int .i64 0])] (by simp [go_sem]) rfl ?_
  simp [go_sem,za0]
  refine zbF #[.slice la T.length cap,.int .i64 0,.int .i64 0,.int .i64 0] (by simp [go_sem]) rfl (by simp [go_sem,Value.cells]) (fun w9 b9 hE9 hle9 hB9=>?_)
  have hpos:=hW.pos
  have hlan:=la_ne hsl hpos hB1
  have hlal:=la_lt hsl hpos
  have hwb1:=hle1
  have hb1b:b1<b9:=Nat.lt_of_lt_of_le (hB1.lt) hle9
  have hwb9:w.heap.size≤b9:=Nat.le_trans hA0.size hle9
  have hP:PSS w9 b9 55 la cap T ⟨0,0,0⟩:=⟨by simpa using hB9,hsl.ext hE9,fun ad ha=>by have:=hlal ad ha;omega,hpos⟩
  replace hA0:=hA0.next hE9
  replace hB1:=hB1.keep hE9
  clear hB9 hsl hE9 hle9
  obtain ⟨b,hb⟩:∃ b,b=b9:=⟨_,rfl⟩
  subst hb
  have hG:w.grownBy w9 (some b):=za6 hA0
  have hla0:=hlan
  clear hA0
  simp [go_sem,za0,za2,za1,hB1.cell]
  refine hK _ _ ?_;clear hK K
  refine zad (fun K2 hK2=>?_)
  have tail:∀ (g:G) (w9:World) (p:PSt × Tre) (x:Tre) (xa xb xad:Option Addr) (xc xd xcap:Nat),V=(if (if p.1.er=0∧¬(zai T p.1.i).k=0 then zaU T 5 p.1 else p.1).er=0 then (p.2,0,0) else (ex0,(if p.1.er=0∧¬(zai T p.1.i).k=0 then zaU T 5 p.1 else p.1).at',(if p.1.er=0∧¬(zai T p.1.i).k=0 then zaU T 5 p.1 else p.1).er))→(p.1.er=0→x=p.2)→g 2 = .pointer (some ⟨b1,0,none⟩)→g 6 = .pointer (some ⟨b,0,none⟩)→PSS w9 b 55 la cap T p.1→w.grownBy w9 (some b)→Bx w9 b1 #[.int .i64 x.kind,.string ⟨x.name.toArray⟩,.bool x.neg,.slice xa x.num.length xc,.slice xb x.den.length xd,.slice xad x.args.length xcap,.int .i64 x.pos] 38→EX w9 (fun k=>w.heap.size≤k∧k≠b1∧k≠b) [.int .i64 x.kind,.string ⟨x.name.toArray⟩,.bool x.neg,.slice xa x.num.length xc,.slice xb x.den.length xd,.slice xad x.args.length xcap,.int .i64 x.pos] x→K2 g w9:=by
   clear hV hP hG hB1
   intro g w9 p x xa xb xad xc xd xcap hV hx g2 g6 hP hG hB1 hxe
   refine hK2 _ _ ?_
   refine zad (fun K3 hK3=>?_)
   obtain ⟨s',hs'⟩:∃ s',s'=(if p.1.er=0∧¬(zai T p.1.i).k=0 then zaU T 5 p.1 else p.1):=⟨_,rfl⟩
   rw [←hs'] at hV
   have tail2:∀ (g:G) (w9:World),(s'.er=0→x=p.2)→g 2 = .pointer (some ⟨b1,0,none⟩)→g 6 = .pointer (some ⟨b,0,none⟩)→PSS w9 b 55 la cap T s'→w.grownBy w9 (some b)→Bx w9 b1 #[.int .i64 x.kind,.string ⟨x.name.toArray⟩,.bool x.neg,.slice xa x.num.length xc,.slice xb x.den.length xd,.slice xad x.args.length xcap,.int .i64 x.pos] 38→EX w9 (fun k=>w.heap.size≤k∧k≠b1∧k≠b) [.int .i64 x.kind,.string ⟨x.name.toArray⟩,.bool x.neg,.slice xa x.num.length xc,.slice xb x.den.length xd,.slice xad x.args.length xcap,.int .i64 x.pos] x→K3 g w9:=by
    clear hP hG hB1 hxe g2 g6 hs'
    intro g w9 hx' g2 g6 hP hG hB1 hxe
    refine hK3 _ _ ?_
    refine zad (fun K4 hK4=>?_)
    first|refine zzr fun K hK=>?_|refine zzt fun K hK=>?_
    simp [go_sem,za0,za2,za1,g2,g6,hB1.cell]
    refine za5 (by simp [go_sem,za0,za2,za1,g2,g6,hB1.cell]) rfl Try.call12 (fun R hR=>?_)
    simp [go_sem,za0,za2,za1,g2,g6,hB1.cell]
    refine (zbD hP).mono ?_
    rintro e w3 ⟨rfl,hE3⟩
    refine ⟨_,rfl,hR _ _ ?_⟩
    clear hR R
    replace hB1:=hB1.keep hE3
    replace hG:=hG.trans (za6 hE3)
    replace hP:=hP.ext hE3
    replace hxe:=hxe.ext hE3
    simp [go_sem,za0,za2,za1,g2,g6,hB1.cell]
    refine hK _ _ ?_;clear hK K
    by_cases h0:s'.er=0
    ·rw [if_pos h0] at hV
     refine zao (t:=false) (by simp [go_sem,za0,za2,za1,g2,g6,hB1.cell, h0]) rfl ?_
     refine zae ?_
     refine hK4 _ _ ?_
     first|refine zzr fun K hK=>?_|refine zzt fun K hK=>?_
     simp [go_sem,za0,za2,za1,g2,g6,hB1.cell]
     refine za7 (b:=b1) (off:=0) [.int .i64 x.kind,.string ⟨x.name.toArray⟩,.bool x.neg,.slice xa x.num.length xc,.slice xb x.den.length xd,.slice xad x.args.length xcap,.int .i64 x.pos] (by simp [go_sem,za0,za2,za1,g2,g6,hB1.cell]) rfl (by simp [go_sem,za0,za2,za1,g2,g6,hB1.cell]) (by simp [go_sem,Value.cells,za0,za2,za1,g2,g6,hB1.cell]) zaE hB1 (by simp) (by simp [Value.oneCell']) (by decide) (fun w4 hS4 hB4=>?_)
     simp [zaD] at hB4
     replace hxe:=hxe.ch (Ch.of_sto hS4 (NL.of_bx hB1 (by intro u hu x e;subst e;simp at hu))) (by intro k hk e;subst e;first|exact hk.2 rfl|omega)
     replace hG:=zaj hG hS4 hwb1
     replace hP:=hP.sto hS4 (by omega) (fun ad ha=>by have:=hla0 ad ha;omega)
     simp [go_sem,za0,za2,za1,g2,g6,hB4.cell]
     refine hK _ _ ?_;clear hK K
     refine zal ?_
     repeat (first|refine za4 ?_|refine za3 ?_)
     subst hV
     refine ⟨by simp [go_sem,zb6,zav,za2,za1,za0,hB4.cell,g2],?_⟩
     refine ⟨_,?_,by rw [←hx' h0];exact hxe.mono (fun k hk=>hk.1),zc4 hG hwb9⟩
     simp [go_sem,zaw,zav,za2,za1,za0,hB4.cell,g2]
    ·rw [if_neg h0] at hV
     refine zao (t:=true) (by simp [go_sem,za0,za2,za1,g2,g6,hB1.cell,h0]) rfl ?_
     have hbL:∀ a∈[(⟨b,2,none⟩:Addr),⟨b,3,none⟩],a.block≠b1:=by
      intro a ha
      simp only [List.mem_cons,List.not_mem_nil,or_false] at ha
      rcases ha with rfl|rfl<;>(simp only;omega)
     obtain ⟨k0,k1,k2,k3⟩:=PS.cells (hP.ext (Below.drew1 _))
     have hD5:=Below.drew1 w3
     replace hB1:=hB1.keep hD5
     replace hG:=hG.trans (za6 hD5)
     replace hP:=hP.ext hD5
     replace hxe:=hxe.ext hD5
     first|refine W_rdS ([⟨b,2,none⟩,⟨b,3,none⟩]) [(1,0),(2,0),(3,0),(4,0),(5,0),(6,0),(7,0),(8,0),(9,0),(10,0),(0,1),(11,1),(12,0),(13,0)] (by kernel_rfl) (by kernel_rfl) (fun K hK=>?_)|refine W_drawS ([⟨b,2,none⟩,⟨b,3,none⟩]) [(1,0),(2,0),(3,0),(4,0),(5,0),(6,0),(7,0),(8,0),(9,0),(10,0),(0,1),(11,1),(12,0),(13,0)] (by kernel_rfl) (by kernel_rfl) (fun K hK=>?_)
     simp [go_sem,za0,za2,za1,g2,g6,hB1.cell,k2,k3]
     have hkp:Keep ([⟨b,2,none⟩,⟨b,3,none⟩]) w3.drew w3.drew:=zd1 _ _
     refine zap #[.int .i64 0,.string ⟨#[]⟩,.bool false,.slice none 0 0,.slice none 0 0,.slice none 0 0,.int .i64 0] (by simp [go_sem]) rfl zcK [] (by simp [go_sem]) rfl ?_
     refine zb3 hkp ?_
     simp [go_sem,za0,za2,za1,g2,g6,hB1.cell,k2,k3]
     have hB1':=hB1
     refine za7 (b:=b1) (off:=0) [.int .i64 0,.string ⟨#[]⟩,.bool false,.slice none 0 0,.slice none 0 0,.slice none 0 0,.int .i64 0] (by simp [go_sem,g2,za0]) rfl (by simp [go_sem,g2,za0]) (by simp [go_sem,Value.cells,g2,za0]) zaE hB1' (by simp) (by simp [Value.oneCell']) (by decide) (fun w60 hS60 hB60=>?_)
     simp [zaD] at hB60
     have hkp2:Keep [⟨b,2,none⟩,⟨b,3,none⟩] _ w60:=Keep.sto hbL hS60
     refine zb3 hkp2 ?_
     simp [go_sem,hkp2]
     refine hK _ _ ?_;clear hK K
     refine zal ?_
     repeat (first|refine za4 ?_|refine za3 ?_)
     subst hV
     refine ⟨by simp [go_sem,zb6,zav,za2,za1,za0,hB60.cell,g2],?_⟩
     refine ⟨_,?_,EX.ex0 _ _ _ rfl,zc4 (zaj hG hS60 hwb1) hwb9⟩
     simp [go_sem,zaw,zav,za2,za1,za0,hB60.cell,g2]
   by_cases h0:p.1.er=0
   ·first|refine zzr fun K hK=>?_|refine zzt fun K hK=>?_
    simp [go_sem,za0,za2,za1,hB1.cell,g2,g6]
    refine za5 (by simp [go_sem,za0,za2,za1,hB1.cell,g2,g6]) rfl Try.call12 (fun R hR=>?_)
    simp [go_sem,za0,za2,za1,hB1.cell,g2,g6]
    refine (zbD hP).mono ?_
    rintro e w6 ⟨rfl,hE6⟩
    refine ⟨_,rfl,hR _ _ ?_⟩
    clear hR R
    replace hB1:=hB1.keep hE6
    replace hG:=hG.trans (za6 hE6)
    replace hP:=hP.ext hE6
    replace hxe:=hxe.ext hE6
    simp [go_sem,za0,za2,za1,hB1.cell,g2,g6]
    simp [go_sem,za0,za2,za1,hB1.cell,g2,g6,h0]
    refine za5 (by simp [go_sem,za0,za2,za1,hB1.cell,g2,g6,h0,zbk]) rfl Try.call13 (fun R hR=>?_)
    simp [go_sem,za0,za2,za1,hB1.cell,g2,g6,h0,zbk]
    refine (zba hP (by have:=hW.size;unfold maxLen;omega)).mono ?_
    rintro e w7 ⟨rfl,hE7⟩
    refine ⟨_,rfl,hR _ _ ?_⟩
    clear hR R
    replace hB1:=hB1.keep hE7
    replace hG:=hG.trans (za6 hE7)
    replace hP:=hP.ext hE7
    replace hxe:=hxe.ext hE7
    simp [go_sem,za0,za2,za1,hB1.cell,g2,g6,h0,zbk]
    refine hK _ _ ?_;clear hK K
    by_cases hk:(zai T p.1.i).k=0
    ·have hk':((zai T p.1.i).k:Int)=0:=by omega
     rw [if_neg (fun h=>h.2 hk)] at hs'
     refine zao (t:=false) (by simp [go_sem,za0,za2,za1,hB1.cell,g2,g6,hk,hk',h0]) rfl ?_
     refine zae ?_
     refine tail2 _ _ (fun _=>hx h0) (by simp [go_sem,g2]) (by simp [go_sem,g6]) (by rw [hs'];exact hP) hG hB1 hxe
    ·have hk':¬((zai T p.1.i).k:Int)=0:=by omega
     rw [if_pos ⟨h0,hk⟩] at hs'
     refine zao (t:=true) (by simp [go_sem,za0,za2,za1,hB1.cell,g2,g6,hk,hk',h0]) rfl ?_
     first|refine zzr fun K hK=>?_|refine zzt fun K hK=>?_
     simp [go_sem,za0,za2,za1,hB1.cell,g2,g6]
     refine za5 (by simp [go_sem,za0,za2,za1,hB1.cell,g2,g6]) rfl Try.call19 (fun R hR=>?_)
     simp [go_sem,za0,za2,za1,hB1.cell,g2,g6]
     refine (zcs hP hW 5).mono ?_
     rintro e w8 ⟨rfl,hQ8,hg8⟩
     refine ⟨_,rfl,hR _ _ ?_⟩
     clear hR R
     replace hxe:=hxe.ch (hP.ch hg8) (by intro k hk e;subst e;first|omega|(have:=hk.1;omega))
     replace hB1:=hB1.grown hg8 (by intro e;injection e with e;omega)
     replace hP:=hQ8
     replace hG:=hG.trans hg8
     clear hQ8
     simp [go_sem,za0,za2,za1,hB1.cell,g2,g6]
     refine hK _ _ ?_;clear hK K
     rw [←hs'] at hP
     refine tail2 _ _ (fun e=>absurd e (by rw [hs'];exact failP_er (by decide))) (by simp [go_sem,g2]) (by simp [go_sem,g6]) hP hG hB1 hxe
   ·rw [if_neg (fun h=>h0 h.1)] at hs'
    first|refine zzr fun K hK=>?_|refine zzt fun K hK=>?_
    simp [go_sem,za0,za2,za1,hB1.cell,g2,g6]
    refine za5 (by simp [go_sem,za0,za2,za1,hB1.cell,g2,g6]) rfl Try.call12 (fun R hR=>?_)
    simp [go_sem,za0,za2,za1,hB1.cell,g2,g6]
    refine (zbD hP).mono ?_
    rintro e w9 ⟨rfl,hE9⟩
    refine ⟨_,rfl,hR _ _ ?_⟩
    clear hR R
    replace hB1:=hB1.keep hE9
    replace hG:=hG.trans (za6 hE9)
    replace hP:=hP.ext hE9
    replace hxe:=hxe.ext hE9
    simp [go_sem,za0,za2,za1,hB1.cell,g2,g6]
    simp [go_sem,za0,za2,za1,hB1.cell,g2,g6,h0]
    refine hK _ _ ?_;clear hK K
    refine zao (t:=false) (by simp [go_sem,za0,za2,za1,hB1.cell,g2,g6,h0]) rfl ?_
    refine zae ?_
    refine tail2 _ _ (fun e=>absurd e (by rw [hs'];exact h0)) (by simp [go_sem,g2]) (by simp [go_sem,g6]) (by rw [hs'];exact hP) hG hB1 hxe
  first|refine zzr fun K hK=>?_|refine zzt fun K hK=>?_
  simp [go_sem,za0,za2,za1,hB1.cell]
  refine za5 (by simp [go_sem,za0,za2,za1,hB1.cell]) rfl Try.call17 (fun R hR=>?_)
  simp [go_sem,za0,za2,za1,hB1.cell]
  refine (namedS_any hP hW).mono ?_
  rintro e w10 ⟨rfl,hE10⟩
  refine ⟨_,rfl,hR _ _ ?_⟩
  clear hR R
  replace hB1:=hB1.keep hE10
  replace hG:=hG.trans (za6 hE10)
  replace hP:=hP.ext hE10
  simp [go_sem,za0,za2,za1,hB1.cell]
  refine hK _ _ ?_;clear hK K
  unfold exprP at hV
  by_cases hnm:nmT T 0 0=true
  ·rw [if_pos hnm] at hV
   have hk1:=(nmT_k hnm).2
   have hlt:=hW.next hpos (show (zai T 0).k≠0 by rw [hk1];decide)
   refine zao (t:=true) (by simp [go_sem,za0,za2,za1,hB1.cell,hnm]) rfl ?_
   have hD11:=Below.drew1 w10
   replace hB1:=hB1.keep hD11
   replace hG:=hG.trans (za6 hD11)
   replace hP:=hP.ext hD11
   first|refine W_rd [(0,0),(1,0),(2,0),(5,0),(6,0),(7,0),(3,1),(4,0),(8,1),(9,0),(10,1),(11,2)] (by kernel_rfl) (by kernel_rfl) (fun K hK=>?_)|refine zbC [(0,0),(1,0),(2,0),(5,0),(6,0),(7,0),(3,1),(4,0),(8,1),(9,0),(10,1),(11,2)] (by kernel_rfl) (by kernel_rfl) (fun K hK=>?_)
   simp [go_sem,za0,za2,za1,hB1.cell]
   refine za5 (by simp [go_sem,za0,za2,za1,hB1.cell,zbk]) rfl Try.call13 (fun R hR=>?_)
   simp [go_sem,za0,za2,za1,hB1.cell,zbk]
   refine (zba hP (by have:=hW.size;unfold maxLen;omega)).mono ?_
   rintro e w12 ⟨rfl,hE12⟩
   refine ⟨_,rfl,(by assumption),hR _ _ ?_⟩
   clear hR R
   replace hB1:=hB1.keep hE12
   replace hG:=hG.trans (za6 hE12)
   replace hP:=hP.ext hE12
   simp [go_sem,za0,za2,za1,hB1.cell,zbk]
   refine za5 (by simp [go_sem,za0,za2,za1,hB1.cell,zbk]) rfl Try.call13 (fun R hR=>?_)
   simp [go_sem,za0,za2,za1,hB1.cell,zbk]
   refine (zba hP (by have:=hW.size;unfold maxLen;omega)).mono ?_
   rintro e w13 ⟨rfl,hE13⟩
   refine ⟨_,rfl,(by assumption),hR _ _ ?_⟩
   clear hR R
   replace hB1:=hB1.keep hE13
   replace hG:=hG.trans (za6 hE13)
   replace hP:=hP.ext hE13
   simp [go_sem,za0,za2,za1,hB1.cell,zbk]
   refine zap #[.int .i64 1,.string ⟨(zai T 0).t.toArray⟩,.bool false,.slice none 0 0,.slice none 0 0,.slice none 0 0,.int .i64 (zai T 0).p] (by simp [go_sem]) rfl zcK [(0,.int .i64 1),(4,.int .i64 (zai T 0).p),(1,.string ⟨(zai T 0).t.toArray⟩)] (by simp [go_sem,zbk]) rfl ?_
   simp [go_sem,za0,za2,za1,hB1.cell,zbk]
   refine za7 (b:=b1) (off:=0) [.int .i64 1,.string ⟨(zai T 0).t.toArray⟩,.bool false,.slice none 0 0,.slice none 0 0,.slice none 0 0,.int .i64 (zai T 0).p] (by simp [go_sem,za0,za2,za1,hB1.cell]) rfl (by simp [go_sem,za0,za2,za1,hB1.cell]) (by simp [go_sem,Value.cells,za0,za2,za1,hB1.cell]) zaE hB1 (by simp) (by simp [Value.oneCell']) (by decide) (fun w14 hS14 hB14=>?_)
   simp [zaD] at hB14
   replace hG:=zaj hG hS14 hwb1
   replace hP:=hP.sto hS14 (by omega) (fun ad ha=>by have:=hla0 ad ha;omega)
   simp [go_sem,za0,za2,za1,hB14.cell]
   refine hK _ _ ?_;clear hK K
   obtain ⟨k0,k1,k2,k3⟩:=PS.cells hP
   have hw1:IntKind.i64.wrap 1=1:=rfl
   first|refine zzr fun K hK=>?_|refine zzt fun K hK=>?_
   simp [go_sem,za0,za2,za1,hB14.cell, k1,hw1]
   have hbx15:=hP.bx
   refine za7 (b:=b) (off:=1) [.int .i64 ((1:Nat):Int)] (by simp [go_sem,za0,za2,za1,hB14.cell,k1,hw1]) rfl (by simp [go_sem,za0,za2,za1,hB14.cell,k1,hw1]) (by simp [go_sem,Value.cells,za0,za2,za1,hB14.cell,k1,hw1]) zaI hbx15 (by simp) (by simp [Value.oneCell']) (by decide) (fun w15 hS15 hB15=>?_)
   simp [zaD] at hB15
   have hQ15:PSS w15 b _ la cap T ⟨1,0,0⟩:=PS.next hP (zaC hS15) (by simpa using hB15) hlt
   replace hB14:=hB14.sto hS15 (by omega)
   replace hG:=hG.trans (zaC hS15)
   replace hP:=hQ15
   clear hQ15 hbx15 hS15
   simp [go_sem,za0,za2,za1,hB14.cell,k1,hw1]
   refine hK _ _ ?_;clear hK K
   refine tail _ _ (⟨1,0,0⟩,_) (.mk 1 (zai T 0).t false [] [] [] (zai T 0).p) none none none 0 0 0 hV (fun _=>rfl) (by simp [go_sem]) (by simp [go_sem]) hP hG hB14 (EX.leaf (name:=(zai T 0).t) (pos:=((zai T 0).p:Int)) (by have:=hW.len 0;unfold maxLen;omega))
  ·rw [if_neg hnm] at hV
   refine zao (t:=false) (by simp [go_sem,za0,za2,za1,hB1.cell,hnm]) rfl ?_
   have hbl0:=hP.lt'
   first|refine zzr fun K hK=>?_|refine zzt fun K hK=>?_
   simp [go_sem,za0,za2,za1,hB1.cell]
   refine zam #[.int .i64 1,.int .i64 2,.int .i64 3] (by simp [go_sem,za0,za2,za1,hB1.cell]) rfl zdb (by decide) [(0,.int .i64 1),(1,.int .i64 2),(2,.int .i64 3)] (by simp [go_sem,za0,za2,za1,hB1.cell]) (by kernel_rfl) (fun w30 b30 hE30 hle30 hB30=>?_)
   have hwb30:_≤b30:=Nat.le_trans hG.size hle30
   have hd1_30:b1≠b30:=Nat.ne_of_lt (Nat.lt_of_lt_of_le hB1.lt hle30)
   replace hB1:=hB1.keep hE30
   replace hG:=hG.trans (za6 hE30)
   replace hP:=hP.ext hE30
   simp [go_sem,za0,za2,za1,hB1.cell,hB30.cell]
   have h1l:=hB1.lt
   have hbl:=hP.lt'
   have hb30:b<b30:=Nat.lt_of_lt_of_le hbl0 hle30
   have hGs:=hG.size
   refine za5 (by simp [go_sem,za0,za2,za1,hB1.cell,hB30.cell]) rfl Try.call18 (fun R hR=>?_)
   simp [go_sem,za0,za2,za1,hB1.cell,hB30.cell]
   refine (con1_any hW hP (some ⟨b30,0,none⟩) 3 [1,2,3] (intC_sl (l:=[1,2,3]) hB30) (by decide)).mono ?_
   rintro e w31 ⟨Rx,x,rfl,hxe,hxv,hQ31,hg31⟩
   refine ⟨_,rfl,hR _ _ ?_⟩
   clear hR R
   replace hB1:=hB1.grown hg31 (by intro e;injection e with e;omega)
   replace hB30:=hB30.grown hg31 (by intro e;injection e with e;omega)
   replace hP:=hQ31
   replace hG:=hG.trans hg31
   clear hQ31
   obtain ⟨xa,xc,xb,xd,xad,xcap,xrows,hRx,_⟩:=hxe.open
   subst hRx
   replace hxe:=hxe.mono (F':=fun k=>w.heap.size≤k∧k≠b1∧k≠b) (fun k hk=>⟨Nat.le_trans hGs hk,fun e=>by subst e;exact absurd hk (Nat.not_le.2 h1l),fun e=>by subst e;exact absurd hk (Nat.not_le.2 hbl)⟩)
   simp [go_sem,za0,za2,za1,hB1.cell,hB30.cell]
   refine za7 (b:=b1) (off:=0) [.int .i64 x.kind,.string ⟨x.name.toArray⟩,.bool x.neg,.slice xa x.num.length xc,.slice xb x.den.length xd,.slice xad x.args.length xcap,.int .i64 x.pos] (by simp [go_sem,za0,za2,za1,hB1.cell,hB30.cell]) rfl (by simp [go_sem,za0,za2,za1,hB1.cell,hB30.cell]) (by simp [go_sem,Value.cells,za0,za2,za1,hB1.cell,hB30.cell]) zaE hB1 (by simp) (by simp [Value.oneCell']) (by decide) (fun w32 hS32 hB32=>?_)
   simp [zaD] at hB32
   replace hxe:=hxe.ch (Ch.of_sto hS32 (NL.of_bx hB1 (by intro u hu x e;subst e;simp at hu))) (by intro k hk e;subst e;first|exact hk.2 rfl|omega)
   replace hG:=zaj hG hS32 hwb1
   replace hP:=hP.sto hS32 (by omega) (fun ad ha=>by have:=hla0 ad ha;omega)
   replace hB30:=hB30.sto hS32 (by first|exact hd30_1|exact (hd1_30).symm)
   simp [go_sem,za0,za2,za1,hB30.cell,hB32.cell]
   refine hK _ _ ?_;clear hK K
   refine tail _ _ (conP T (argP T 19) [1,2,3] ⟨0,0,0⟩) x xa xb xad xc xd xcap hV hxv (by simp [go_sem]) (by simp [go_sem]) hP hG hB32 hxe
 ·rw [if_neg he] at hV
  have he':¬((ze0 s).2.2:Int)=0:=by omega
  refine zao (t:=true) (by simp [go_sem,za0,za2,za1,hB1.cell,he',he]) rfl ?_
  first|refine zzr fun K hK=>?_|refine zzt fun K hK=>?_
  simp [go_sem,za0,za2,za1,hB1.cell]
  refine zap #[.int .i64 0,.string ⟨#[]⟩,.bool false,.slice none 0 0,.slice none 0 0,.slice none 0 0,.int .i64 0] (by simp [go_sem]) rfl zcK [] (by simp [go_sem]) rfl ?_
  simp [go_sem,za0]
  refine za7 (b:=b1) (off:=0) [.int .i64 0,.string ⟨#[]⟩,.bool false,.slice none 0 0,.slice none 0 0,.slice none 0 0,.int .i64 0] (by simp [go_sem,za0,za2,za1,hB1.cell]) rfl (by simp [go_sem,za0,za2,za1,hB1.cell]) (by simp [go_sem,Value.cells,za0,za2,za1,hB1.cell]) zaE hB1 (by simp) (by simp [Value.oneCell']) (by decide) (fun w33 hS33 hB33=>?_)
  simp [zaD] at hB33
  replace hA0:=hA0.nextS hS33 (by first|exact hb1_0|omega)
  simp [go_sem,za0,za2,za1,hB33.cell]
  refine hK _ _ ?_;clear hK K
  refine zal ?_
  repeat (first|refine za4 ?_|refine za3 ?_)
  subst hV
  refine ⟨by simp [go_sem,zb6,zav,za2,za1,za0,hB33.cell],?_⟩
  refine ⟨_,?_,EX.ex0 _ _ _ rfl,hA0⟩
  simp [go_sem,zaw,zav,za2,za1,za0,hB33.cell]
end Go.Proofs.Ytefhenfofomjhaa
