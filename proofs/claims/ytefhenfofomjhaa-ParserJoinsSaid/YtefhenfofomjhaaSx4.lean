/- The parser: programs. -/
import Derived.Test.YtefhenfofomjhaaSx2
import Derived.Test.YtefhenfofomjhaaSm1
import Derived.Test.YtefhenfofomjhaaLx7
set_option linter.unusedSimpArgs false
set_option linter.unusedVariables false
namespace Go.Proofs.Ytefhenfofomjhaa
open Go Go.RowKit Go.V
set_option maxRecDepth 20000
set_option maxHeartbeats 4000000 in
theorem statement_any {b tb cap:Nat} {la:Option Addr} {T:List Tok} (hW:Wf T) {w:World} {s:PSt} (h:PSS w b tb la cap T s) :
  Calls Try.prog 14 #[.pointer (some ⟨b,0,none⟩)] w (StmPost w b tb la cap T (stmP T s)):=by
 have hT:T.length≤maxLen:=by have:=hW.size;unfold maxLen;omega
 obtain ⟨Z,hZ⟩:∃ Z,Z=stmP T s:=⟨_,rfl⟩
 rw [←hZ]
 obtain ⟨q0,hq0⟩:∃ q:PSt × Stm,q=(if isT T s.er s.i zbV=true then ((zdA T (zaL T zbV s)).1,⟨1,(zdA T (zaL T zbV s)).2,ex0,(zal T s.i).p⟩)
  else if isT T s.er s.i wLine=true then defP T 3 2 (zal T s.i).p (zaL T wLine s)
  else if isT T s.er s.i zco=true then defP T 4 3 (zal T s.i).p (zaL T zco s)
  else if isT T s.er s.i zcz=true then ((conP T (argP T 19) [4] (zaL T zcz s)).1,⟨5,[],(conP T (argP T 19) [4] (zaL T zcz s)).2,(zal T s.i).p⟩)
  else if nmT T s.er s.i=true then defP T 2 1 (zal T s.i).p s
  else (zb8 T 5 s,⟨0,[],ex0,(zal T s.i).p⟩)):=⟨_,rfl⟩
 replace hZ:Z=(zbv T sSC q0.1,q0.2):=by rw [hZ,hq0];rfl
 refine za8 (args:=[.pointer (some ⟨b,0,none⟩)]) (rs:=[.cell 2 40]) (n:=71) Try.func14 rfl rfl rfl (by kernel_rfl) ?_
 have hP:=h
 have hG:w.grownBy w (some b):=za6 (Below.refl _ _)
 have hb0:=h.lt'
 have hla0:=h.lab
 first|refine zzr fun K hK=>?_|refine zzt fun K hK=>?_
 simp [go_sem,za0,za2,za1]
 refine zan (by simp [go_sem,za0,za2,za1]) rfl zb9 (fun w1 b1 hE1 hle1 hB1=>?_)
 have hwb1:_≤b1:=Nat.le_trans hG.size hle1
 replace hG:=hG.trans (za6 hE1)
 replace hP:=hP.ext hE1
 simp [go_sem,za0,za2,za1,hB1.cell]
 refine hK _ _ ?_;clear hK K
 first|refine zzr fun K hK=>?_|refine zzt fun K hK=>?_
 simp [go_sem,za0,za2,za1,hB1.cell]
 refine za5 (by simp [go_sem,za0,za2,za1,hB1.cell,zbH]) rfl Try.call13 (fun R hR=>?_)
 simp [go_sem,za0,za2,za1,hB1.cell,zbH]
 refine (zbz hP hT).mono ?_
 rintro e w2 ⟨rfl,hE2⟩
 refine ⟨_,rfl,hR _ _ ?_⟩
 clear hR R
 replace hB1:=hB1.keep hE2
 replace hG:=hG.trans (za6 hE2)
 replace hP:=hP.ext hE2
 simp [go_sem,za0,za2,za1,hB1.cell,zbH]
 refine zat #[.int .i64 0,.slice none 0 0,.int .i64 0,.string ⟨#[]⟩,.bool false,.slice none 0 0,.slice none 0 0,.slice none 0 0,.int .i64 0,.int .i64 (zal T s.i).p] (by simp [go_sem]) rfl ty_stZ40 [(3,.int .i64 (zal T s.i).p)] (by simp [go_sem]) rfl ?_
 simp [go_sem,za0]
 refine zan (by simp [go_sem,za0,za2,za1,hB1.cell]) rfl zb9 (fun w20 b20 hE20 hle20 hB20=>?_)
 have hwb20:_≤b20:=Nat.le_trans hG.size hle20
 have hd1_20:b1≠b20:=Nat.ne_of_lt (Nat.lt_of_lt_of_le hB1.lt hle20)
 replace hB1:=hB1.keep hE20
 replace hG:=hG.trans (za6 hE20)
 replace hP:=hP.ext hE20
 simp [go_sem,za0,za2,za1,hB1.cell,hB20.cell]
 refine za7 (b:=b20) (off:=0) [.int .i64 0,.slice none 0 0,.int .i64 0,.string ⟨#[]⟩,.bool false,.slice none 0 0,.slice none 0 0,.slice none 0 0,.int .i64 0,.int .i64 (zal T s.i).p] (by simp [go_sem,za0,za2,za1,hB1.cell,hB20.cell]) rfl (by simp [go_sem,za0,za2,za1,hB1.cell,hB20.cell]) (by simp [go_sem,Value.cells,za0,za2,za1,hB1.cell,hB20.cell]) zaU hB20 (by simp) (by simp [Value.oneCell']) (by decide) (fun w21 hS21 hB21=>?_)
 simp [zaC] at hB21
 replace hG:=zai hG hS21 hwb20
 replace hP:=hP.sto hS21 (by omega) (fun ad ha=>by have:=hla0 ad ha;omega)
 replace hB1:=hB1.sto hS21 (by first|exact hd1_20|exact (hd20_1).symm)
 simp [go_sem,za0,za2,za1,hB1.cell,hB21.cell]
 refine hK _ _ ?_;clear hK K
 obtain ⟨pos,hpos⟩:∃ p:Int,p=(zal T s.i).p:=⟨_,rfl⟩
 rw [←hpos] at hq0
 have hB20:=hB21
 rw [←hpos] at hB20
 have hB1:=hB1
 refine zad (fun K1 hK1=>?_)
 have tail:∀ (g:G) (w9:World) (q:PSt × Stm) (x:Stm) (a:Option Addr) (c:Nat) (ya:Option Addr) (yc:Nat) (yb:Option Addr) (yd:Nat) (ye:Option Addr) (yp:Nat),q0=q→(q.1.er=0→x=q.2)→g 0 = .pointer (some ⟨b,0,none⟩)→g 2 = .pointer (some ⟨b1,0,none⟩)→g 3 = .pointer (some ⟨b20,0,none⟩)→PSS w9 b tb la cap T q.1→w.grownBy w9 (some b)→Bx w9 b1 #[.int .i64 0,.slice none 0 0,.int .i64 0,.string ⟨#[]⟩,.bool false,.slice none 0 0,.slice none 0 0,.slice none 0 0,.int .i64 0,.int .i64 0] 40→Bx w9 b20 #[.int .i64 x.kind,.slice a x.names.length c,.int .i64 x.expr.kind,.string ⟨x.expr.name.toArray⟩,.bool x.expr.neg,.slice ya x.expr.num.length yc,.slice yb x.expr.den.length yd,.slice ye x.expr.args.length yp,.int .i64 x.expr.pos,.int .i64 x.pos] 40→NmS w9 (fun k=>w.heap.size≤k∧k≠b1∧k≠b20) a x.names→EX w9 (fun k=>w.heap.size≤k∧k≠b1∧k≠b20) [.int .i64 x.expr.kind,.string ⟨x.expr.name.toArray⟩,.bool x.expr.neg,.slice ya x.expr.num.length yc,.slice yb x.expr.den.length yd,.slice ye x.expr.args.length yp,.int .i64 x.expr.pos] x.expr→K1 g w9:=by
  clear hP hG hB1 hB20
  intro g w9 q x a c ya yc yb yd ye yp hq hx g0 g2 g3 hP hG hB1 hB20 hnm hxe
  rw [hq] at hZ
  refine hK1 _ _ ?_
  first|refine zzr fun K hK=>?_|refine zzt fun K hK=>?_
  simp [go_sem,za0,za2,za1,hB1.cell,hB20.cell,g0,g2,g3]
  refine za5 (by simp [go_sem,za0,za2,za1,hB1.cell,hB20.cell,g0,g2,g3]) rfl Try.call27 (fun R hR=>?_)
  simp [go_sem,za0,za2,za1,hB1.cell,hB20.cell,g0,g2,g3]
  refine (zcY hP hW sSC).mono ?_
  rintro e w80 ⟨rfl,hQ80,hg80⟩
  refine ⟨_,rfl,hR _ _ ?_⟩
  clear hR R
  replace hnm:=hnm.ch (hP.ch hg80) (by intro k hk e;subst e;first|omega|(have:=hk.1;omega))
  replace hxe:=hxe.ch (hP.ch hg80) (by intro k hk e;subst e;first|omega|(have:=hk.1;omega))
  replace hB1:=hB1.grown hg80 (by intro e;injection e with e;omega)
  replace hB20:=hB20.grown hg80 (by intro e;injection e with e;omega)
  replace hP:=hQ80
  replace hG:=hG.trans hg80
  clear hQ80
  simp [go_sem,za0,za2,za1,hB1.cell,hB20.cell,g0,g2,g3]
  refine hK _ _ ?_;clear hK K
  first|refine zzr fun K hK=>?_|refine zzt fun K hK=>?_
  simp [go_sem,za0,za2,za1,hB1.cell,hB20.cell,g0,g2,g3]
  refine za7 (b:=b1) (off:=0) [.int .i64 x.kind,.slice a x.names.length c,.int .i64 x.expr.kind,.string ⟨x.expr.name.toArray⟩,.bool x.expr.neg,.slice ya x.expr.num.length yc,.slice yb x.expr.den.length yd,.slice ye x.expr.args.length yp,.int .i64 x.expr.pos,.int .i64 x.pos] (by simp [go_sem,za0,za2,za1,hB1.cell,hB20.cell,g0,g2,g3]) rfl (by simp [go_sem,za0,za2,za1,hB1.cell,hB20.cell,g0,g2,g3]) (by simp [go_sem,Value.cells,za0,za2,za1,hB1.cell,hB20.cell,g0,g2,g3]) zaU hB1 (by simp) (by simp [Value.oneCell']) (by decide) (fun w81 hS81 hB81=>?_)
  simp [zaC] at hB81
  replace hnm:=hnm.ch (Ch.of_sto hS81 (NL.of_bx hB1 (by intro u hu x e;subst e;simp at hu))) (by intro k hk e;subst e;first|exact hk.2 rfl|omega)
  replace hxe:=hxe.ch (Ch.of_sto hS81 (NL.of_bx hB1 (by intro u hu x e;subst e;simp at hu))) (by intro k hk e;subst e;first|exact hk.2 rfl|omega)
  replace hG:=zai hG hS81 hwb1
  replace hP:=hP.sto hS81 (by omega) (fun ad ha=>by have:=hla0 ad ha;omega)
  replace hB20:=hB20.sto hS81 (by first|exact hd20_1|exact (hd1_20).symm)
  simp [go_sem,za0,za2,za1,hB20.cell,g0,g2,g3,hB81.cell]
  refine hK _ _ ?_;clear hK K
  refine zaj ?_
  repeat (first|refine za4 ?_|refine za3 ?_)
  refine ⟨by simp [go_sem,zbl,zav,za2,za1,za0,hB81.cell,g2],?_⟩
  refine ⟨_,x,?_,⟨a,c,_,rfl,hnm.mono (fun k hk=>hk.1),hxe.mono (fun k hk=>hk.1)⟩,fun e=>?_,by rw [hZ];exact hP,hG⟩
  ·simp [go_sem,zax,zav,za2,za1,za0,hB81.cell,g2]
  ·rw [hZ] at e ⊢
   refine hx ?_
   by_cases h0:q.1.er=0
   ·exact h0
   ·rw [zbI h0] at e;exact e
 refine zaf ?_
 have key:∀ t,isT T s.er s.i t=false→zaL T t s=s:=fun t ht=>by unfold zaL;rw [ht,if_neg (by decide)]
 cases c1:isT T s.er s.i zbV with
 | true =>
  rw [if_pos c1] at hq0
  first|refine zzr fun K hK=>?_|refine zzt fun K hK=>?_
  simp [go_sem,za0,za2,za1,hB1.cell,hB20.cell]
  refine za5 (by simp [go_sem,za0,za2,za1,hB1.cell,hB20.cell]) rfl Try.call24 (fun R hR=>?_)
  simp [go_sem,za0,za2,za1,hB1.cell,hB20.cell]
  refine (zbi hP hW zbV).mono ?_
  rintro e w30 ⟨rfl,hQ30,hg30⟩
  refine ⟨_,rfl,hR _ _ ?_⟩
  clear hR R
  replace hB1:=hB1.grown hg30 (by intro e;injection e with e;omega)
  replace hB20:=hB20.grown hg30 (by intro e;injection e with e;omega)
  replace hP:=hQ30
  replace hG:=hG.trans hg30
  clear hQ30
  simp [go_sem,za0,za2,za1,hB1.cell,hB20.cell]
  rw [c1]
  refine hK _ _ ?_;clear hK K
  refine zam (t:=true) (by simp [go_sem,za0,za2,za1,hB1.cell,hB20.cell]) rfl ?_
  first|refine zzr fun K hK=>?_|refine zzt fun K hK=>?_
  simp [go_sem,za0,za2,za1,hB1.cell,hB20.cell]
  have hwz:=hG.size
  have h1l:=hB1.lt
  have h20l:=hB20.lt
  refine za5 (by simp [go_sem,za0,za2,za1,hB1.cell,hB20.cell]) rfl Try.call25 (fun R hR=>?_)
  simp [go_sem,za0,za2,za1,hB1.cell,hB20.cell]
  refine (points_any hW hP pos).mono ?_
  rintro e w70 ⟨Rx,x,rfl,hsx,hxv,hQ70,hg70⟩
  refine ⟨_,rfl,hR _ _ ?_⟩
  clear hR R
  replace hB1:=hB1.grown hg70 (by intro e;injection e with e;omega)
  replace hB20:=hB20.grown hg70 (by intro e;injection e with e;omega)
  replace hP:=hQ70
  replace hG:=hG.trans hg70
  clear hQ70
  obtain ⟨a,c,ya,yc,yb,yd,ye,yp,hRx,hnm,hxe⟩:=hsx.open
  subst hRx
  replace hnm:=hnm.mono (F':=fun k=>w.heap.size≤k∧k≠b1∧k≠b20) (fun k hk=>⟨Nat.le_trans hwz hk,fun e=>by subst e;exact absurd hk (Nat.not_le.2 h1l),fun e=>by subst e;exact absurd hk (Nat.not_le.2 h20l)⟩)
  replace hxe:=hxe.mono (F':=fun k=>w.heap.size≤k∧k≠b1∧k≠b20) (fun k hk=>⟨Nat.le_trans hwz hk,fun e=>by subst e;exact absurd hk (Nat.not_le.2 h1l),fun e=>by subst e;exact absurd hk (Nat.not_le.2 h20l)⟩)
  simp [go_sem,za0,za2,za1,hB1.cell,hB20.cell]
  refine za7 (b:=b20) (off:=0) [.int .i64 x.kind,.slice a x.names.length c,.int .i64 x.expr.kind,.string ⟨x.expr.name.toArray⟩,.bool x.expr.neg,.slice ya x.expr.num.length yc,.slice yb x.expr.den.length yd,.slice ye x.expr.args.length yp,.int .i64 x.expr.pos,.int .i64 x.pos] (by simp [go_sem,za0,za2,za1,hB1.cell,hB20.cell]) rfl (by simp [go_sem,za0,za2,za1,hB1.cell,hB20.cell]) (by simp [go_sem,Value.cells,za0,za2,za1,hB1.cell,hB20.cell]) zaU hB20 (by simp) (by simp [Value.oneCell']) (by decide) (fun w71 hS71 hB71=>?_)
  simp [zaC] at hB71
  replace hnm:=hnm.ch (Ch.of_sto hS71 (NL.of_bx hB20 (by intro u hu x e;subst e;simp at hu))) (by intro k hk e;subst e;first|exact hk.2 rfl|omega)
  replace hxe:=hxe.ch (Ch.of_sto hS71 (NL.of_bx hB20 (by intro u hu x e;subst e;simp at hu))) (by intro k hk e;subst e;first|exact hk.2 rfl|omega)
  replace hG:=zai hG hS71 hwb20
  replace hP:=hP.sto hS71 (by omega) (fun ad ha=>by have:=hla0 ad ha;omega)
  replace hB1:=hB1.sto hS71 (by first|exact hd1_20|exact (hd20_1).symm)
  simp [go_sem,za0,za2,za1,hB1.cell,hB71.cell]
  refine hK _ _ ?_;clear hK K
  refine tail _ _ _ x a c ya yc yb yd ye yp ?_ ?_ (by simp [go_sem]) (by simp [go_sem]) (by simp [go_sem]) hP hG hB1 hB71 hnm hxe
  ·exact hq0
  ·exact hxv
 | false =>
  rw [if_neg (by rw [c1];decide)] at hq0
  first|refine zzr fun K hK=>?_|refine zzt fun K hK=>?_
  simp [go_sem,za0,za2,za1,hB1.cell,hB20.cell]
  refine za5 (by simp [go_sem,za0,za2,za1,hB1.cell,hB20.cell]) rfl Try.call24 (fun R hR=>?_)
  simp [go_sem,za0,za2,za1,hB1.cell,hB20.cell]
  refine (zbi hP hW zbV).mono ?_
  rintro e w30 ⟨rfl,hQ30,hg30⟩
  refine ⟨_,rfl,hR _ _ ?_⟩
  clear hR R
  replace hB1:=hB1.grown hg30 (by intro e;injection e with e;omega)
  replace hB20:=hB20.grown hg30 (by intro e;injection e with e;omega)
  replace hP:=hQ30
  replace hG:=hG.trans hg30
  clear hQ30
  simp [go_sem,za0,za2,za1,hB1.cell,hB20.cell]
  rw [show zaL T zbV s=s by unfold zaL;rw [if_neg (by rw [c1];decide)]] at hP
  rw [c1]
  refine hK _ _ ?_;clear hK K
  refine zam (t:=false) (by simp [go_sem,za0,za2,za1,hB1.cell,hB20.cell]) rfl ?_
  cases c2:isT T s.er s.i wLine with
  | true =>
   rw [if_pos c2] at hq0
   first|refine zzr fun K hK=>?_|refine zzt fun K hK=>?_
   simp [go_sem,za0,za2,za1,hB1.cell,hB20.cell]
   refine za5 (by simp [go_sem,za0,za2,za1,hB1.cell,hB20.cell]) rfl Try.call24 (fun R hR=>?_)
   simp [go_sem,za0,za2,za1,hB1.cell,hB20.cell]
   refine (zbi hP hW wLine).mono ?_
   rintro e w40 ⟨rfl,hQ40,hg40⟩
   refine ⟨_,rfl,hR _ _ ?_⟩
   clear hR R
   replace hB1:=hB1.grown hg40 (by intro e;injection e with e;omega)
   replace hB20:=hB20.grown hg40 (by intro e;injection e with e;omega)
   replace hP:=hQ40
   replace hG:=hG.trans hg40
   clear hQ40
   simp [go_sem,za0,za2,za1,hB1.cell,hB20.cell]
   rw [c2]
   refine hK _ _ ?_;clear hK K
   refine zam (t:=true) (by simp [go_sem,za0,za2,za1,hB1.cell,hB20.cell]) rfl ?_
   first|refine zzr fun K hK=>?_|refine zzt fun K hK=>?_
   simp [go_sem,za0,za2,za1,hB1.cell,hB20.cell]
   have hwz:=hG.size
   have h1l:=hB1.lt
   have h20l:=hB20.lt
   refine za5 (by simp [go_sem,za0,za2,za1,hB1.cell,hB20.cell]) rfl Try.call26 (fun R hR=>?_)
   simp [go_sem,za0,za2,za1,hB1.cell,hB20.cell]
   refine (define_any hW hP pos 3 2).mono ?_
   rintro e w70 ⟨Rx,x,rfl,hsx,hxv,hQ70,hg70⟩
   refine ⟨_,rfl,hR _ _ ?_⟩
   clear hR R
   replace hB1:=hB1.grown hg70 (by intro e;injection e with e;omega)
   replace hB20:=hB20.grown hg70 (by intro e;injection e with e;omega)
   replace hP:=hQ70
   replace hG:=hG.trans hg70
   clear hQ70
   obtain ⟨a,c,ya,yc,yb,yd,ye,yp,hRx,hnm,hxe⟩:=hsx.open
   subst hRx
   replace hnm:=hnm.mono (F':=fun k=>w.heap.size≤k∧k≠b1∧k≠b20) (fun k hk=>⟨Nat.le_trans hwz hk,fun e=>by subst e;exact absurd hk (Nat.not_le.2 h1l),fun e=>by subst e;exact absurd hk (Nat.not_le.2 h20l)⟩)
   replace hxe:=hxe.mono (F':=fun k=>w.heap.size≤k∧k≠b1∧k≠b20) (fun k hk=>⟨Nat.le_trans hwz hk,fun e=>by subst e;exact absurd hk (Nat.not_le.2 h1l),fun e=>by subst e;exact absurd hk (Nat.not_le.2 h20l)⟩)
   simp [go_sem,za0,za2,za1,hB1.cell,hB20.cell]
   refine za7 (b:=b20) (off:=0) [.int .i64 x.kind,.slice a x.names.length c,.int .i64 x.expr.kind,.string ⟨x.expr.name.toArray⟩,.bool x.expr.neg,.slice ya x.expr.num.length yc,.slice yb x.expr.den.length yd,.slice ye x.expr.args.length yp,.int .i64 x.expr.pos,.int .i64 x.pos] (by simp [go_sem,za0,za2,za1,hB1.cell,hB20.cell]) rfl (by simp [go_sem,za0,za2,za1,hB1.cell,hB20.cell]) (by simp [go_sem,Value.cells,za0,za2,za1,hB1.cell,hB20.cell]) zaU hB20 (by simp) (by simp [Value.oneCell']) (by decide) (fun w71 hS71 hB71=>?_)
   simp [zaC] at hB71
   replace hnm:=hnm.ch (Ch.of_sto hS71 (NL.of_bx hB20 (by intro u hu x e;subst e;simp at hu))) (by intro k hk e;subst e;first|exact hk.2 rfl|omega)
   replace hxe:=hxe.ch (Ch.of_sto hS71 (NL.of_bx hB20 (by intro u hu x e;subst e;simp at hu))) (by intro k hk e;subst e;first|exact hk.2 rfl|omega)
   replace hG:=zai hG hS71 hwb20
   replace hP:=hP.sto hS71 (by omega) (fun ad ha=>by have:=hla0 ad ha;omega)
   replace hB1:=hB1.sto hS71 (by first|exact hd1_20|exact (hd20_1).symm)
   simp [go_sem,za0,za2,za1,hB1.cell,hB71.cell]
   refine hK _ _ ?_;clear hK K
   refine tail _ _ _ x a c ya yc yb yd ye yp ?_ ?_ (by simp [go_sem]) (by simp [go_sem]) (by simp [go_sem]) hP hG hB1 hB71 hnm hxe
   ·exact hq0
   ·exact hxv
  | false =>
   rw [if_neg (by rw [c2];decide)] at hq0
   first|refine zzr fun K hK=>?_|refine zzt fun K hK=>?_
   simp [go_sem,za0,za2,za1,hB1.cell,hB20.cell]
   refine za5 (by simp [go_sem,za0,za2,za1,hB1.cell,hB20.cell]) rfl Try.call24 (fun R hR=>?_)
   simp [go_sem,za0,za2,za1,hB1.cell,hB20.cell]
   refine (zbi hP hW wLine).mono ?_
   rintro e w40 ⟨rfl,hQ40,hg40⟩
   refine ⟨_,rfl,hR _ _ ?_⟩
   clear hR R
   replace hB1:=hB1.grown hg40 (by intro e;injection e with e;omega)
   replace hB20:=hB20.grown hg40 (by intro e;injection e with e;omega)
   replace hP:=hQ40
   replace hG:=hG.trans hg40
   clear hQ40
   simp [go_sem,za0,za2,za1,hB1.cell,hB20.cell]
   rw [show zaL T wLine s=s by unfold zaL;rw [if_neg (by rw [c2];decide)]] at hP
   rw [c2]
   refine hK _ _ ?_;clear hK K
   refine zam (t:=false) (by simp [go_sem,za0,za2,za1,hB1.cell,hB20.cell]) rfl ?_
   cases c3:isT T s.er s.i zco with
   | true =>
    rw [if_pos c3] at hq0
    first|refine zzr fun K hK=>?_|refine zzt fun K hK=>?_
    simp [go_sem,za0,za2,za1,hB1.cell,hB20.cell]
    refine za5 (by simp [go_sem,za0,za2,za1,hB1.cell,hB20.cell]) rfl Try.call24 (fun R hR=>?_)
    simp [go_sem,za0,za2,za1,hB1.cell,hB20.cell]
    refine (zbi hP hW zco).mono ?_
    rintro e w50 ⟨rfl,hQ50,hg50⟩
    refine ⟨_,rfl,hR _ _ ?_⟩
    clear hR R
    replace hB1:=hB1.grown hg50 (by intro e;injection e with e;omega)
    replace hB20:=hB20.grown hg50 (by intro e;injection e with e;omega)
    replace hP:=hQ50
    replace hG:=hG.trans hg50
    clear hQ50
    simp [go_sem,za0,za2,za1,hB1.cell,hB20.cell]
    rw [c3]
    refine hK _ _ ?_;clear hK K
    refine zam (t:=true) (by simp [go_sem,za0,za2,za1,hB1.cell,hB20.cell]) rfl ?_
    first|refine zzr fun K hK=>?_|refine zzt fun K hK=>?_
    simp [go_sem,za0,za2,za1,hB1.cell,hB20.cell]
    have hwz:=hG.size
    have h1l:=hB1.lt
    have h20l:=hB20.lt
    refine za5 (by simp [go_sem,za0,za2,za1,hB1.cell,hB20.cell]) rfl Try.call26 (fun R hR=>?_)
    simp [go_sem,za0,za2,za1,hB1.cell,hB20.cell]
    refine (define_any hW hP pos 4 3).mono ?_
    rintro e w70 ⟨Rx,x,rfl,hsx,hxv,hQ70,hg70⟩
    refine ⟨_,rfl,hR _ _ ?_⟩
    clear hR R
    replace hB1:=hB1.grown hg70 (by intro e;injection e with e;omega)
    replace hB20:=hB20.grown hg70 (by intro e;injection e with e;omega)
    replace hP:=hQ70
    replace hG:=hG.trans hg70
    clear hQ70
    obtain ⟨a,c,ya,yc,yb,yd,ye,yp,hRx,hnm,hxe⟩:=hsx.open
    subst hRx
    replace hnm:=hnm.mono (F':=fun k=>w.heap.size≤k∧k≠b1∧k≠b20) (fun k hk=>⟨Nat.le_trans hwz hk,fun e=>by subst e;exact absurd hk (Nat.not_le.2 h1l),fun e=>by subst e;exact absurd hk (Nat.not_le.2 h20l)⟩)
    replace hxe:=hxe.mono (F':=fun k=>w.heap.size≤k∧k≠b1∧k≠b20) (fun k hk=>⟨Nat.le_trans hwz hk,fun e=>by subst e;exact absurd hk (Nat.not_le.2 h1l),fun e=>by subst e;exact absurd hk (Nat.not_le.2 h20l)⟩)
    simp [go_sem,za0,za2,za1,hB1.cell,hB20.cell]
    refine za7 (b:=b20) (off:=0) [.int .i64 x.kind,.slice a x.names.length c,.int .i64 x.expr.kind,.string ⟨x.expr.name.toArray⟩,.bool x.expr.neg,.slice ya x.expr.num.length yc,.slice yb x.expr.den.length yd,.slice ye x.expr.args.length yp,.int .i64 x.expr.pos,.int .i64 x.pos] (by simp [go_sem,za0,za2,za1,hB1.cell,hB20.cell]) rfl (by simp [go_sem,za0,za2,za1,hB1.cell,hB20.cell]) (by simp [go_sem,Value.cells,za0,za2,za1,hB1.cell,hB20.cell]) zaU hB20 (by simp) (by simp [Value.oneCell']) (by decide) (fun w71 hS71 hB71=>?_)
    simp [zaC] at hB71
    replace hnm:=hnm.ch (Ch.of_sto hS71 (NL.of_bx hB20 (by intro u hu x e;subst e;simp at hu))) (by intro k hk e;subst e;first|exact hk.2 rfl|omega)
    replace hxe:=hxe.ch (Ch.of_sto hS71 (NL.of_bx hB20 (by intro u hu x e;subst e;simp at hu))) (by intro k hk e;subst e;first|exact hk.2 rfl|omega)
    replace hG:=zai hG hS71 hwb20
    replace hP:=hP.sto hS71 (by omega) (fun ad ha=>by have:=hla0 ad ha;omega)
    replace hB1:=hB1.sto hS71 (by first|exact hd1_20|exact (hd20_1).symm)
    simp [go_sem,za0,za2,za1,hB1.cell,hB71.cell]
    refine hK _ _ ?_;clear hK K
    refine tail _ _ _ x a c ya yc yb yd ye yp ?_ ?_ (by simp [go_sem]) (by simp [go_sem]) (by simp [go_sem]) hP hG hB1 hB71 hnm hxe
    ·exact hq0
    ·exact hxv
   | false =>
    rw [if_neg (by rw [c3];decide)] at hq0
    first|refine zzr fun K hK=>?_|refine zzt fun K hK=>?_
    simp [go_sem,za0,za2,za1,hB1.cell,hB20.cell]
    refine za5 (by simp [go_sem,za0,za2,za1,hB1.cell,hB20.cell]) rfl Try.call24 (fun R hR=>?_)
    simp [go_sem,za0,za2,za1,hB1.cell,hB20.cell]
    refine (zbi hP hW zco).mono ?_
    rintro e w50 ⟨rfl,hQ50,hg50⟩
    refine ⟨_,rfl,hR _ _ ?_⟩
    clear hR R
    replace hB1:=hB1.grown hg50 (by intro e;injection e with e;omega)
    replace hB20:=hB20.grown hg50 (by intro e;injection e with e;omega)
    replace hP:=hQ50
    replace hG:=hG.trans hg50
    clear hQ50
    simp [go_sem,za0,za2,za1,hB1.cell,hB20.cell]
    rw [show zaL T zco s=s by unfold zaL;rw [if_neg (by rw [c3];decide)]] at hP
    rw [c3]
    refine hK _ _ ?_;clear hK K
    refine zam (t:=false) (by simp [go_sem,za0,za2,za1,hB1.cell,hB20.cell]) rfl ?_
    cases c4:isT T s.er s.i zcz with
    | true =>
     rw [if_pos c4] at hq0
     first|refine zzr fun K hK=>?_|refine zzt fun K hK=>?_
     simp [go_sem,za0,za2,za1,hB1.cell,hB20.cell]
     refine za5 (by simp [go_sem,za0,za2,za1,hB1.cell,hB20.cell]) rfl Try.call24 (fun R hR=>?_)
     simp [go_sem,za0,za2,za1,hB1.cell,hB20.cell]
     refine (zbi hP hW zcz).mono ?_
     rintro e w60 ⟨rfl,hQ60,hg60⟩
     refine ⟨_,rfl,hR _ _ ?_⟩
     clear hR R
     replace hB1:=hB1.grown hg60 (by intro e;injection e with e;omega)
     replace hB20:=hB20.grown hg60 (by intro e;injection e with e;omega)
     replace hP:=hQ60
     replace hG:=hG.trans hg60
     clear hQ60
     simp [go_sem,za0,za2,za1,hB1.cell,hB20.cell]
     rw [c4]
     refine hK _ _ ?_;clear hK K
     refine zam (t:=true) (by simp [go_sem,za0,za2,za1,hB1.cell,hB20.cell]) rfl ?_
     first|refine zzr fun K hK=>?_|refine zzt fun K hK=>?_
     simp [go_sem,za0,za2,za1,hB1.cell,hB20.cell]
     refine zap #[.int .i64 4] (by simp [go_sem,za0,za2,za1,hB1.cell,hB20.cell]) rfl ty_slZ66 (by decide) [(0,.int .i64 4)] (by simp [go_sem,za0,za2,za1,hB1.cell,hB20.cell]) (by kernel_rfl) (fun w70 b70 hE70 hle70 hB70=>?_)
     have hwb70:_≤b70:=Nat.le_trans hG.size hle70
     have hd1_70:b1≠b70:=Nat.ne_of_lt (Nat.lt_of_lt_of_le hB1.lt hle70)
     have hd20_70:b20≠b70:=Nat.ne_of_lt (Nat.lt_of_lt_of_le hB20.lt hle70)
     replace hB1:=hB1.keep hE70
     replace hB20:=hB20.keep hE70
     replace hG:=hG.trans (za6 hE70)
     replace hP:=hP.ext hE70
     simp [go_sem,za0,za2,za1,hB1.cell,hB20.cell,hB70.cell]
     have hwz:=hG.size
     have h1l:=hB1.lt
     have h20l:=hB20.lt
     refine za5 (by simp [go_sem,za0,za2,za1,hB1.cell,hB20.cell,hB70.cell]) rfl Try.call18 (fun R hR=>?_)
     simp [go_sem,za0,za2,za1,hB1.cell,hB20.cell,hB70.cell]
     refine (con1_any hW hP (some ⟨b70,0,none⟩) 1 [4] (intC_sl (l:=[4]) hB70) (by decide)).mono ?_
     rintro e w71 ⟨Rx,x,rfl,hxe,hxv,hQ71,hg71⟩
     refine ⟨_,rfl,hR _ _ ?_⟩
     clear hR R
     replace hB1:=hB1.grown hg71 (by intro e;injection e with e;omega)
     replace hB20:=hB20.grown hg71 (by intro e;injection e with e;omega)
     replace hB70:=hB70.grown hg71 (by intro e;injection e with e;omega)
     replace hP:=hQ71
     replace hG:=hG.trans hg71
     clear hQ71
     obtain ⟨ya,yc,yb,yd,ye,yp,xrows,hRx,_⟩:=hxe.open
     subst hRx
     replace hxe:=hxe.mono (F':=fun k=>w.heap.size≤k∧k≠b1∧k≠b20) (fun k hk=>⟨Nat.le_trans hwz hk,fun e=>by subst e;exact absurd hk (Nat.not_le.2 h1l),fun e=>by subst e;exact absurd hk (Nat.not_le.2 h20l)⟩)
     simp [go_sem,za0,za2,za1,hB1.cell,hB20.cell,hB70.cell]
     refine za7 (b:=b20) (off:=0) [.int .i64 5] (by simp [go_sem,za0,za2,za1,hB1.cell,hB20.cell,hB70.cell]) rfl (by simp [go_sem,za0,za2,za1,hB1.cell,hB20.cell,hB70.cell]) (by simp [go_sem,Value.cells,za0,za2,za1,hB1.cell,hB20.cell,hB70.cell]) zaO hB20 (by simp) (by simp [Value.oneCell']) (by decide) (fun w72 hS72 hB72=>?_)
     simp [zaC] at hB72
     replace hxe:=hxe.ch (Ch.of_sto hS72 (NL.of_bx hB20 (by intro u hu x e;subst e;simp at hu))) (by intro k hk e;subst e;first|exact hk.2 rfl|omega)
     replace hG:=zai hG hS72 hwb20
     replace hP:=hP.sto hS72 (by omega) (fun ad ha=>by have:=hla0 ad ha;omega)
     replace hB1:=hB1.sto hS72 (by first|exact hd1_20|exact (hd20_1).symm)
     replace hB70:=hB70.sto hS72 (by first|exact hd70_20|exact (hd20_70).symm)
     simp [go_sem,za0,za2,za1,hB1.cell,hB70.cell,hB72.cell]
     refine za7 (b:=b20) (off:=2) [.int .i64 x.kind,.string ⟨x.name.toArray⟩,.bool x.neg,.slice ya x.num.length yc,.slice yb x.den.length yd,.slice ye x.args.length yp,.int .i64 x.pos] (by simp [go_sem,za0,za2,za1,hB1.cell,hB70.cell,hB72.cell]) rfl (by simp [go_sem,za0,za2,za1,hB1.cell,hB70.cell,hB72.cell]) (by simp [go_sem,Value.cells,za0,za2,za1,hB1.cell,hB70.cell,hB72.cell]) zb3 hB72 (by simp) (by simp [Value.oneCell']) (by decide) (fun w73 hS73 hB73=>?_)
     simp [zaC] at hB73
     replace hxe:=hxe.ch (Ch.of_sto hS73 (NL.of_bx hB72 (by intro u hu x e;subst e;simp at hu))) (by intro k hk e;subst e;first|exact hk.2 rfl|omega)
     replace hG:=zai hG hS73 hwb20
     replace hP:=hP.sto hS73 (by omega) (fun ad ha=>by have:=hla0 ad ha;omega)
     replace hB1:=hB1.sto hS73 (by first|exact hd1_20|exact (hd20_1).symm)
     replace hB70:=hB70.sto hS73 (by first|exact hd70_20|exact (hd20_70).symm)
     simp [go_sem,za0,za2,za1,hB1.cell,hB70.cell,hB73.cell]
     refine hK _ _ ?_;clear hK K
     refine tail _ _ ((conP T (argP T 19) [4] (zaL T zcz s)).1,⟨5,[],(conP T (argP T 19) [4] (zaL T zcz s)).2,pos⟩) ⟨5,[],x,pos⟩ none 0 ya yc yb yd ye yp hq0 (fun e=>by rw [hxv e]) (by simp [go_sem]) (by simp [go_sem]) (by simp [go_sem]) hP hG hB1 hB73 (NmS.nil _ _ _) hxe
    | false =>
     rw [if_neg (by rw [c4];decide)] at hq0
     first|refine zzr fun K hK=>?_|refine zzt fun K hK=>?_
     simp [go_sem,za0,za2,za1,hB1.cell,hB20.cell]
     refine za5 (by simp [go_sem,za0,za2,za1,hB1.cell,hB20.cell]) rfl Try.call24 (fun R hR=>?_)
     simp [go_sem,za0,za2,za1,hB1.cell,hB20.cell]
     refine (zbi hP hW zcz).mono ?_
     rintro e w60 ⟨rfl,hQ60,hg60⟩
     refine ⟨_,rfl,hR _ _ ?_⟩
     clear hR R
     replace hB1:=hB1.grown hg60 (by intro e;injection e with e;omega)
     replace hB20:=hB20.grown hg60 (by intro e;injection e with e;omega)
     replace hP:=hQ60
     replace hG:=hG.trans hg60
     clear hQ60
     simp [go_sem,za0,za2,za1,hB1.cell,hB20.cell]
     rw [show zaL T zcz s=s by unfold zaL;rw [if_neg (by rw [c4];decide)]] at hP
     rw [c4]
     refine hK _ _ ?_;clear hK K
     refine zam (t:=false) (by simp [go_sem,za0,za2,za1,hB1.cell,hB20.cell]) rfl ?_
     first|refine zzr fun K hK=>?_|refine zzt fun K hK=>?_
     simp [go_sem,za0,za2,za1,hB1.cell,hB20.cell]
     refine za5 (by simp [go_sem,za0,za2,za1,hB1.cell,hB20.cell]) rfl Try.call17 (fun R hR=>?_)
     simp [go_sem,za0,za2,za1,hB1.cell,hB20.cell]
     refine (namedS_any hP hW).mono ?_
     rintro e w60 ⟨rfl,hE60⟩
     refine ⟨_,rfl,hR _ _ ?_⟩
     clear hR R
     replace hB1:=hB1.keep hE60
     replace hB20:=hB20.keep hE60
     replace hG:=hG.trans (za6 hE60)
     replace hP:=hP.ext hE60
     simp [go_sem,za0,za2,za1,hB1.cell,hB20.cell]
     cases c5:nmT T s.er s.i with
     | true =>
      rw [if_pos c5] at hq0
      refine hK _ _ ?_;clear hK K
      refine zam (t:=true) (by simp [go_sem,za0,za2,za1,hB1.cell,hB20.cell]) rfl ?_
      first|refine zzr fun K hK=>?_|refine zzt fun K hK=>?_
      simp [go_sem,za0,za2,za1,hB1.cell,hB20.cell]
      have hwz:=hG.size
      have h1l:=hB1.lt
      have h20l:=hB20.lt
      refine za5 (by simp [go_sem,za0,za2,za1,hB1.cell,hB20.cell]) rfl Try.call26 (fun R hR=>?_)
      simp [go_sem,za0,za2,za1,hB1.cell,hB20.cell]
      refine (define_any hW hP pos 2 1).mono ?_
      rintro e w70 ⟨Rx,x,rfl,hsx,hxv,hQ70,hg70⟩
      refine ⟨_,rfl,hR _ _ ?_⟩
      clear hR R
      replace hB1:=hB1.grown hg70 (by intro e;injection e with e;omega)
      replace hB20:=hB20.grown hg70 (by intro e;injection e with e;omega)
      replace hP:=hQ70
      replace hG:=hG.trans hg70
      clear hQ70
      obtain ⟨a,c,ya,yc,yb,yd,ye,yp,hRx,hnm,hxe⟩:=hsx.open
      subst hRx
      replace hnm:=hnm.mono (F':=fun k=>w.heap.size≤k∧k≠b1∧k≠b20) (fun k hk=>⟨Nat.le_trans hwz hk,fun e=>by subst e;exact absurd hk (Nat.not_le.2 h1l),fun e=>by subst e;exact absurd hk (Nat.not_le.2 h20l)⟩)
      replace hxe:=hxe.mono (F':=fun k=>w.heap.size≤k∧k≠b1∧k≠b20) (fun k hk=>⟨Nat.le_trans hwz hk,fun e=>by subst e;exact absurd hk (Nat.not_le.2 h1l),fun e=>by subst e;exact absurd hk (Nat.not_le.2 h20l)⟩)
      simp [go_sem,za0,za2,za1,hB1.cell,hB20.cell]
      refine za7 (b:=b20) (off:=0) [.int .i64 x.kind,.slice a x.names.length c,.int .i64 x.expr.kind,.string ⟨x.expr.name.toArray⟩,.bool x.expr.neg,.slice ya x.expr.num.length yc,.slice yb x.expr.den.length yd,.slice ye x.expr.args.length yp,.int .i64 x.expr.pos,.int .i64 x.pos] (by simp [go_sem,za0,za2,za1,hB1.cell,hB20.cell]) rfl (by simp [go_sem,za0,za2,za1,hB1.cell,hB20.cell]) (by simp [go_sem,Value.cells,za0,za2,za1,hB1.cell,hB20.cell]) zaU hB20 (by simp) (by simp [Value.oneCell']) (by decide) (fun w71 hS71 hB71=>?_)
      simp [zaC] at hB71
      replace hnm:=hnm.ch (Ch.of_sto hS71 (NL.of_bx hB20 (by intro u hu x e;subst e;simp at hu))) (by intro k hk e;subst e;first|exact hk.2 rfl|omega)
      replace hxe:=hxe.ch (Ch.of_sto hS71 (NL.of_bx hB20 (by intro u hu x e;subst e;simp at hu))) (by intro k hk e;subst e;first|exact hk.2 rfl|omega)
      replace hG:=zai hG hS71 hwb20
      replace hP:=hP.sto hS71 (by omega) (fun ad ha=>by have:=hla0 ad ha;omega)
      replace hB1:=hB1.sto hS71 (by first|exact hd1_20|exact (hd20_1).symm)
      simp [go_sem,za0,za2,za1,hB1.cell,hB71.cell]
      refine hK _ _ ?_;clear hK K
      refine tail _ _ _ x a c ya yc yb yd ye yp ?_ ?_ (by simp [go_sem]) (by simp [go_sem]) (by simp [go_sem]) hP hG hB1 hB71 hnm hxe
      ·exact hq0
      ·exact hxv
     | false =>
      rw [if_neg (by rw [c5];decide)] at hq0
      refine hK _ _ ?_;clear hK K
      refine zam (t:=false) (by simp [go_sem,za0,za2,za1,hB1.cell,hB20.cell]) rfl ?_
      first|refine zzr fun K hK=>?_|refine zzt fun K hK=>?_
      simp [go_sem,za0,za2,za1,hB1.cell,hB20.cell]
      refine za5 (by simp [go_sem,za0,za2,za1,hB1.cell,hB20.cell]) rfl Try.call19 (fun R hR=>?_)
      simp [go_sem,za0,za2,za1,hB1.cell,hB20.cell]
      refine (zcX hP hW 5).mono ?_
      rintro e w70 ⟨rfl,hQ70,hg70⟩
      refine ⟨_,rfl,hR _ _ ?_⟩
      clear hR R
      replace hB1:=hB1.grown hg70 (by intro e;injection e with e;omega)
      replace hB20:=hB20.grown hg70 (by intro e;injection e with e;omega)
      replace hP:=hQ70
      replace hG:=hG.trans hg70
      clear hQ70
      simp [go_sem,za0,za2,za1,hB1.cell,hB20.cell]
      refine hK _ _ ?_;clear hK K
      refine tail _ _ (zb8 T 5 s,⟨0,[],ex0,pos⟩) ⟨0,[],ex0,pos⟩ none 0 none 0 none 0 none 0 hq0 (fun _=>rfl) (by simp [go_sem]) (by simp [go_sem]) (by simp [go_sem]) hP hG hB1 hB20 (NmS.nil _ _ _) (EX.ex0 _ _ _ rfl)
theorem below_of_grown {w w':World} {b:Nat} (h:w.grownBy w' (some b)) (hb:w.heap.size≤b):Below w.heap.size w w':=⟨h.os,h.tape,h.output,h.size,fun k hk=>h.block k hk (by intro e;injection e with e;omega)⟩
theorem _root_.Go.V.Keep.sto {L:List Addr} {w0 w:World} {b:Nat} (hL:∀ a∈L,a.block≠b) (h:Sto w0 w b):Keep L w0 w:=fun a ha=>World.cell?_of_block (w:=w0) (a:=a) (h.block _ (hL a ha))
theorem la_lt {w:World} {la:Option Addr} {T:List Tok} (hsl:SL w la (zdW T)) (hT:0<T.length):∀ ad,la=some ad→ad.block<w.heap.size:=by
 intro ad ha
 obtain ⟨b',off,e,hlt⟩:=hsl.lt (by intro e;have h4:=zch (toks_all T);rw [show (T.map zbH).flatten=zdW T from rfl,e,List.length_map] at h4;simp at h4;omega)
 rw [ha] at e;injection e with e;subst e;exact hlt
structure RSs (w:World) (F:Nat→Prop) (rows:List (List Value)) (xs:List Stm):Prop where
 len:rows.length=xs.length
 he:∀ (i:Nat) (R:List Value) (x:Stm),rows[i]? = some R→xs[i]? = some x→SX w F R x
theorem RSs.nil (w:World) (F:Nat→Prop):RSs w F [] []:=⟨rfl,fun i R x h=>by simp at h⟩
theorem RSs.ch {w w':World} {F S:Nat→Prop} {rows:List (List Value)} {xs:List Stm} (h:RSs w F rows xs) (hc:Ch w w' S) (hd:∀ k,F k→¬S k):RSs w' F rows xs:=⟨h.len,fun i R x hR hx=>(h.he i R x hR hx).ch hc hd⟩
theorem RSs.ext {w w':World} {F:Nat→Prop} {rows:List (List Value)} {xs:List Stm} (h:RSs w F rows xs) (hb:Below w.heap.size w w'):RSs w' F rows xs:=⟨h.len,fun i R x hR hx=>(h.he i R x hR hx).ext hb⟩
theorem RSs.mono {w:World} {F F':Nat→Prop} {rows:List (List Value)} {xs:List Stm} (h:RSs w F rows xs) (hF:∀ k,F k→F' k):RSs w F' rows xs:=⟨h.len,fun i R x hR hx=>(h.he i R x hR hx).mono hF⟩
theorem RSs.blt {w:World} {F:Nat→Prop} {rows:List (List Value)} {xs:List Stm} (h:RSs w F rows xs):RSs w (fun k=>F k∧k<w.heap.size) rows xs:=⟨h.len,fun i R x hR hx=>(h.he i R x hR hx).blt⟩
theorem RSs.snoc {w:World} {F:Nat→Prop} {rows:List (List Value)} {xs:List Stm} {R:List Value} {x:Stm} (h:RSs w F rows xs) (hx:SX w F R x):RSs w F (rows++[R]) (xs++[x]):=by
 refine ⟨by simp [h.len],fun i R' x' hR hx'=>?_⟩
 rcases Nat.lt_trichotomy i rows.length with hi|hi|hi
 ·rw [List.getElem?_append_left hi] at hR
  rw [List.getElem?_append_left (by rw [←h.len];exact hi)] at hx'
  exact h.he i R' x' hR hx'
 ·rw [List.getElem?_append_right (by omega)] at hR
  rw [List.getElem?_append_right (by rw [←h.len];omega)] at hx'
  rw [hi,Nat.sub_self] at hR
  rw [hi,h.len,Nat.sub_self] at hx'
  simp at hR hx'
  subst hR;subst hx'
  exact hx
 ·rw [List.getElem?_eq_none (by simp;omega)] at hR
  cases hR
def zdL (s:ByteArray):List Stm × Int × Int:=if (allR s).2.2=0 then progP (tokT s) else ([],(allR s).2.1,(allR s).2.2)
def ProgPost (w:World) (r:List Stm × Int × Int) (e:Ending) (w':World):Prop :=
 ∃ (a:Option Addr) (c:Nat) (rows:List (List Value)),e = .returned (.tuple #[.agg #[.slice a r.1.length c],.int .i64 r.2.1,.int .i64 r.2.2]) ∧
  w'.ownsRow w.heap.size 40 10 (.slice a r.1.length c) r.1.length rows.flatten∧NB w' (.slice a r.1.length c) ∧
  RSs w' (fun k=>w.heap.size≤k∧Value.ownBlock (.slice a r.1.length c)≠some k) rows r.1∧r.1.length≤20001∧Below w.heap.size w w'
theorem la_neP {w:World} {b t:Nat} {la:Option Addr} {T:List Tok} {v:Value} (hsl:SL w la (zdW T)) (hT:0<T.length) (hB:Bx w b #[v] t):∀ ad,la=some ad→ad.block≠b:=by
 intro ad ha e
 have hrow:∃ r,zdW T = .int .i64 (zal T 0).k :: .int .i64 (zal T 0).p :: .int .i64 (zal T 0).e::r:=by
  cases T with
  | nil=>simp at hT
  | cons t T=>exact ⟨_,rfl⟩
 obtain ⟨r,hr⟩:=hrow
 rcases hsl with h0|⟨b',off,e1,h1⟩
 ·rw [hr] at h0;cases h0
 ·rw [ha] at e1;injection e1 with e1;subst e1
  simp only at e
  subst e
  have c1:=h1 1 (.int .i64 (zal T 0).p) (by rw [hr];rfl)
  rw [hB.cell] at c1
  simp at c1
theorem own_base {w:World} {B B' e size n:Nat} {v:Value} {xs:List Value} (h:w.ownsRow B e size v n xs) (hb:B'≤B):w.ownsRow B' e size v n xs:=by
 refine ⟨h.1,?_⟩
 rcases h.2 with hn|⟨g,cap,cur,hv,hg1,hh,r⟩
 ·exact .inl hn
 ·exact .inr ⟨g,cap,cur,hv,Nat.le_trans hb hg1,hh,r⟩
theorem stmP_adv {T:List Tok} (hW:Wf T) (s:PSt) (h:s.er=0) (h':(stmP T s).1.er=0):s.i<(stmP T s).1.i:=by
 obtain ⟨i,a0,er⟩:=s
 simp only at h
 subst h
 have ha:=stm_agr hW (a0:=a0) i
 cases hr:stmS T i with
 | er j e =>
  rw [hr] at ha
  exact absurd (ha.2.1.symm.trans h') ha.1
 | ok x j =>
  rw [hr] at ha
  have h2:stmP T ⟨i,a0,0⟩=(⟨j,a0,0⟩,x):=ha
  have:=stm_le hr
  rw [h2];simp only;omega
theorem stmsP_end {T:List Tok} (n:Nat) (s:PSt) (acc:List Stm) (h:¬(s.er=0∧¬(zal T s.i).k=0)):stmsP T n s acc=(s,acc):=by
 cases n with
 | zero=>rfl
 | succ n=>unfold stmsP;rw [if_neg h]
set_option maxHeartbeats 4000000 in
theorem zcs (s:ByteArray) (w:World) (hs:s.size≤maxLen):Calls Try.prog 6 #[.string s] w (ProgPost w (zdL s)):=by
 obtain ⟨V,hV⟩:∃ V,V=zdL s:=⟨_,rfl⟩
 rw [←hV]
 unfold zdL at hV
 refine za8 (args:=[.string s]) (rs:=[.cell 2 25,.tmp 3,.tmp 4]) (n:=64) Try.func6 rfl rfl rfl (by kernel_rfl) ?_
 have hA0:=Below.refl w.heap.size w
 first|refine zzr fun K hK=>?_|refine zzt fun K hK=>?_
 simp [go_sem,za0,za2,za1]
 refine zan (by simp [go_sem,za0,za2,za1]) rfl zdg (fun w1 b1 hE1 hle1 hB1=>?_)
 have hb1_0:=Nat.le_trans hA0.size hle1
 replace hA0:=hA0.next hE1
 simp [go_sem,za0,za2,za1,hB1.cell]
 refine hK _ _ ?_;clear hK K
 first|refine zzr fun K hK=>?_|refine zzt fun K hK=>?_
 simp [go_sem,za0,za2,za1,hB1.cell]
 refine za5 (by simp [go_sem,za0,za2,za1,hB1.cell]) rfl Try.call11 (fun R hR=>?_)
 simp [go_sem,za0,za2,za1,hB1.cell]
 refine (all_any s _ hs).mono ?_
 rintro e w2 ⟨la,cap,rfl,hsl,hE2⟩
 refine ⟨_,rfl,hR _ _ ?_⟩
 clear hR R
 replace hA0:=hA0.next hE2
 replace hB1:=hB1.keep hE2
 simp [go_sem,za0,za2,za1,hB1.cell]
 refine hK _ _ ?_;clear hK K
 refine zad (fun K1 hK1=>?_)
 first|refine zzr fun K hK=>?_|refine zzt fun K hK=>?_
 simp [go_sem,za0,za2,za1,hB1.cell]
 refine hK _ _ ?_;clear hK K
 by_cases he:(allR s).2.2=0
 ·rw [if_pos he] at hV
  have he':((allR s).2.2:Int)=0:=by omega
  have hW:=wf_tok he
  have hlen:(allR s).1.length=(tokT s).length:=by simp [tokT]
  have hsv:tksC s (allR s).1=zdW (tokT s):=(toks_tks s _).symm
  rw [hlen] at *
  rw [hsv] at hsl
  generalize tokT s=T at *
  have hT:T.length≤20001:=hW.size
  refine zam (t:=false) (by simp [go_sem,za0,za2,za1,hB1.cell, he',he]) rfl ?_
  refine zae ?_
  refine hK1 _ _ ?_
  first|refine zzr fun K hK=>?_|refine zzt fun K hK=>?_
  simp [go_sem,za0,za2,za1,hB1.cell]
  refine zat #[.slice la T.length cap,.int .i64 0,.int .i64 0,.int .i64 0] (by simp [go_sem]) rfl ty_stZ53 [(0,.slice la T.length cap)] (by simp [go_sem]) rfl ?_
  simp [go_sem,za0]
  refine zat #[.slice la T.length cap,.int .i64 0,.int .i64 0,.int .i64 0] (by simp [go_sem]) rfl ty_stZ55 [(0,.agg #[.slice la T.length cap,.int .i64 0,.int .i64 0,.int .i64 0])] (by simp [go_sem]) rfl ?_
  simp [go_sem,za0]
  refine zat #[.slice la T.length cap,.int .i64 0,.int .i64 0,.int .i64 0] (by simp [go_sem]) rfl ty_stZ57 [(0,.agg #[.slice la T.length cap,.int .i64 0,.int .i64 0,.int .i64 0])] (by simp [go_sem]) rfl ?_
  simp [go_sem,za0]
  refine zbU #[.slice la T.length cap,.int .i64 0,.int .i64 0,.int .i64 0] (by simp [go_sem]) rfl (by simp [go_sem,Value.cells]) (fun w9 b9 hE9 hle9 hB9=>?_)
  have hpos:=hW.pos
  have hlan:=la_neP hsl hpos hB1
  have hlal:=la_lt hsl hpos
  have hwb1:=hle1
  have hb1b:b1<b9:=Nat.lt_of_lt_of_le (hB1.lt) hle9
  have hwb9:w.heap.size≤b9:=Nat.le_trans hA0.size hle9
  have hP:PSS w9 b9 57 la cap T ⟨0,0,0⟩:=⟨by simpa using hB9,hsl.ext hE9,fun ad ha=>by have:=hlal ad ha;omega,hpos⟩
  replace hA0:=hA0.next hE9
  replace hB1:=hB1.keep hE9
  have hle9':=hle9
  clear hB9 hsl hE9 hle9
  obtain ⟨b,hb⟩:∃ b,b=b9:=⟨_,rfl⟩
  subst hb
  have hG:w.grownBy w9 (some b):=za6 hA0
  have hla0:=hlan
  clear hA0
  simp [go_sem,za0,za2,za1,hB1.cell]
  refine hK _ _ ?_;clear hK K
  refine zad (fun K2 hK2=>?_)
  unfold progP at hV
  obtain ⟨Z,hZ⟩:∃ Z,Z=stmsP T T.length ⟨0,0,0⟩ []:=⟨_,rfl⟩
  replace hV:V=if Z.1.er=0 then (Z.2,0,0) else ([],Z.1.at',Z.1.er):=by rw [hV,hZ]
  obtain ⟨N4,hN4⟩:∃ N,N=w9.heap.size:=⟨_,rfl⟩
  have hbN4:=hP.lt'
  have h1N4:=hB1.lt
  rw [←hN4] at hbN4 h1N4
  have hlaN:∀ ad,la=some ad→ad.block<N4:=fun ad ha=>by have:=hlal ad ha;omega
  have hwN4:w.heap.size≤N4:=by omega
  have tail:∀ (g:G) (w9:World) (s':PSt) (acc xs:List Stm) (rows:List (List Value)) (va:Option Addr) (vc:Nat),Z=(s',acc)→(s'.er=0→xs=acc)→xs.length≤T.length→g 2 = .pointer (some ⟨b1,0,none⟩)→g 6 = .pointer (some ⟨b,0,none⟩)→PSS w9 b 57 la cap T s'→w.grownBy w9 (some b)→Bx w9 b1 #[.slice va xs.length vc] 25→w9.ownsRow N4 40 10 (.slice va xs.length vc) xs.length rows.flatten→NB w9 (.slice va xs.length vc)→RSs w9 (fun k=>N4≤k∧Value.ownBlock (.slice va xs.length vc)≠some k) rows xs→K2 g w9:=by
   clear hP hG hB1
   intro g w9 s' acc xs rows va vc hz hx hxl g2 g6 hP hG hB1 hown hnb hrx
   rw [hz] at hV
   refine hK2 _ _ ?_
   refine zad (fun K4 hK4=>?_)
   first|refine zzr fun K hK=>?_|refine zzt fun K hK=>?_
   simp [go_sem,za0,za2,za1,hB1.cell,g2,g6]
   refine za5 (by simp [go_sem,za0,za2,za1,hB1.cell,g2,g6]) rfl Try.call12 (fun R hR=>?_)
   simp [go_sem,za0,za2,za1,hB1.cell,g2,g6]
   refine (zci hP).mono ?_
   rintro e w3 ⟨rfl,hE3⟩
   refine ⟨_,rfl,hR _ _ ?_⟩
   clear hR R
   replace hB1:=hB1.keep hE3
   replace hG:=hG.trans (za6 hE3)
   replace hP:=hP.ext hE3
   replace hrx:=hrx.ext hE3
   replace hnb:=hnb.keep hE3
   replace hown:=zas hown hE3
   simp [go_sem,za0,za2,za1,hB1.cell,g2,g6]
   refine hK _ _ ?_;clear hK K
   by_cases h0:s'.er=0
   ·rw [if_pos h0] at hV
    refine zam (t:=false) (by simp [go_sem,za0,za2,za1,hB1.cell,g2,g6, h0]) rfl ?_
    refine zae ?_
    refine hK4 _ _ ?_
    first|refine zzr fun K hK=>?_|refine zzt fun K hK=>?_
    simp [go_sem,za0,za2,za1,hB1.cell,g2,g6]
    refine za7 (b:=b1) (off:=0) [.slice va xs.length vc] (by simp [go_sem,za0,za2,za1,hB1.cell,g2,g6]) rfl (by simp [go_sem,za0,za2,za1,hB1.cell,g2,g6]) (by simp [go_sem,Value.cells,za0,za2,za1,hB1.cell,g2,g6]) zcN hB1 (by simp) (by simp [Value.oneCell']) (by decide) (fun w4 hS4 hB4=>?_)
    simp [zaC] at hB4
    replace hrx:=hrx.ch (Ch.of_sto hS4 (NL.of_bx hB1 (by intro u hu x e;subst e;simp at hu))) (by intro k hk e;subst e;first|exact hk.2 rfl|omega)
    replace hnb:=zdG hnb hown hS4 (by omega)
    replace hown:=zbq hown hS4 (by omega)
    replace hG:=zai hG hS4 hwb1
    replace hP:=hP.sto hS4 (by omega) (fun ad ha=>by have:=hla0 ad ha;omega)
    simp [go_sem,za0,za2,za1,g2,g6,hB4.cell]
    refine hK _ _ ?_;clear hK K
    refine zaj ?_
    repeat (first|refine za4 ?_|refine za3 ?_)
    subst hV
    rw [hx h0] at hown hnb hrx hxl
    refine ⟨by simp [go_sem,zbl,zav,za2,za1,za0,hB4.cell,g2],?_⟩
    refine ⟨va,vc,rows,?_,own_base hown hwN4,hnb,hrx.mono (fun k hk=>⟨Nat.le_trans hwN4 hk.1,hk.2⟩),(by show acc.length≤20001;omega),below_of_grown hG hwb9⟩
    simp [go_sem,zax,zav,za2,za1,za0,hB4.cell,g2,hx h0]
   ·rw [if_neg h0] at hV
    refine zam (t:=true) (by simp [go_sem,za0,za2,za1,hB1.cell,g2,g6,h0]) rfl ?_
    have hbL:∀ a∈[(⟨b,2,none⟩:Addr),⟨b,3,none⟩],a.block≠b1:=by
     intro a ha
     simp only [List.mem_cons,List.not_mem_nil,or_false] at ha
     rcases ha with rfl|rfl<;>(simp only;omega)
    obtain ⟨k0,k1,k2,k3⟩:=PS.cells (hP.ext (Below.drew1 _))
    have hD5:=Below.drew1 w3
    replace hB1:=hB1.keep hD5
    replace hG:=hG.trans (za6 hD5)
    replace hP:=hP.ext hD5
    replace hrx:=hrx.ext hD5
    replace hnb:=hnb.keep hD5
    replace hown:=zas hown hD5
    first|refine W_rdS ([⟨b,2,none⟩,⟨b,3,none⟩]) [(1,0),(2,0),(3,0),(4,0),(5,0),(6,0),(7,0),(8,0),(9,0),(10,0),(11,0),(12,0),(0,1),(13,1),(14,0),(15,0)] (by kernel_rfl) (by kernel_rfl) (fun K hK=>?_)|refine W_drawS ([⟨b,2,none⟩,⟨b,3,none⟩]) [(1,0),(2,0),(3,0),(4,0),(5,0),(6,0),(7,0),(8,0),(9,0),(10,0),(11,0),(12,0),(0,1),(13,1),(14,0),(15,0)] (by kernel_rfl) (by kernel_rfl) (fun K hK=>?_)
    simp [go_sem,za0,za2,za1,hB1.cell,g2,g6,k2,k3]
    have hkp:Keep ([⟨b,2,none⟩,⟨b,3,none⟩]) w3.drew w3.drew:=zdE _ _
    refine zat #[.slice none 0 0] (by simp [go_sem]) rfl ty_stZ25 [] (by simp [go_sem]) rfl ?_
    refine zbj hkp ?_
    simp [go_sem,za0,za2,za1,hB1.cell,g2,g6,k2,k3]
    have hB1':=hB1
    refine za7 (b:=b1) (off:=0) [.slice none 0 0] (by simp [go_sem,g2,za0]) rfl (by simp [go_sem,g2,za0]) (by simp [go_sem,Value.cells,g2,za0]) zcN hB1' (by simp) (by simp [Value.oneCell']) (by decide) (fun w60 hS60 hB60=>?_)
    simp [zaC] at hB60
    have hkp2:Keep [⟨b,2,none⟩,⟨b,3,none⟩] _ w60:=Keep.sto hbL hS60
    refine zbj hkp2 ?_
    simp [go_sem,hkp2]
    refine hK _ _ ?_;clear hK K
    refine zaj ?_
    repeat (first|refine za4 ?_|refine za3 ?_)
    subst hV
    refine ⟨by simp [go_sem,zbl,zav,za2,za1,za0,hB60.cell,g2],?_⟩
    refine ⟨none,0,[],?_,World.ownsRow_nil _ _ _ _,NB.nil _,RSs.nil _ _,Nat.zero_le _,below_of_grown (zai hG hS60 hwb1) hwb9⟩
    simp [go_sem,zax,zav,za2,za1,za0,hB60.cell,g2]
  refine zaf ?_
  refine zaG (fun m g w'=>∃ (s':PSt) (acc xs:List Stm) (rows:List (List Value)) (va:Option Addr) (vc:Nat),xs.length+m≤T.length∧(s'.er=0→T.length≤m+s'.i)∧stmsP T m s' acc=Z∧(s'.er=0→xs=acc)∧g 2 = .pointer (some ⟨b1,0,none⟩)∧g 6 = .pointer (some ⟨b,0,none⟩)∧PSS w' b 57 la cap T s'∧w.grownBy w' (some b)∧N4≤w'.heap.size∧Bx w' b1 #[.slice va xs.length vc] 25∧w'.ownsRow N4 40 10 (.slice va xs.length vc) xs.length rows.flatten∧NB w' (.slice va xs.length vc)∧RSs w' (fun k=>N4≤k∧Value.ownBlock (.slice va xs.length vc)≠some k) rows xs) T.length ?_ ?_
  ·exact ⟨⟨0,0,0⟩,[],[],[],none,0,by simp,fun _=>by simp,hZ.symm,fun _=>rfl,by simp [go_sem],by simp [go_sem],hP,hG,by omega,hB1,World.ownsRow_nil _ _ _ _,NB.nil _,RSs.nil _ _⟩
  clear hP hG hB1
  rintro m g w' ⟨s',acc,xs,rows,va,vc,hm,hi,hz,hx,g2,g6,hP,hG,hNs,hB1,hown,hnb,hrx⟩
  refine zad (fun K3 hK3=>?_)
  have hil:=hP.lt
  first|refine zzr fun K hK=>?_|refine zzt fun K hK=>?_
  simp [go_sem,za0,za2,za1,hB1.cell,g2,g6]
  refine za5 (by simp [go_sem,za0,za2,za1,hB1.cell,g2,g6]) rfl Try.call12 (fun R hR=>?_)
  simp [go_sem,za0,za2,za1,hB1.cell,g2,g6]
  refine (zci hP).mono ?_
  rintro e w6 ⟨rfl,hE6⟩
  refine ⟨_,rfl,hR _ _ ?_⟩
  clear hR R
  replace hB1:=hB1.keep hE6
  replace hG:=hG.trans (za6 hE6)
  replace hP:=hP.ext hE6
  replace hrx:=hrx.ext hE6
  replace hnb:=hnb.keep hE6
  replace hown:=zas hown hE6
  simp [go_sem,za0,za2,za1,hB1.cell,g2,g6]
  by_cases h0:s'.er=0
  ·simp [go_sem,za0,za2,za1,hB1.cell,g2,g6,h0]
   refine za5 (by simp [go_sem,za0,za2,za1,hB1.cell,g2,g6,h0,zbH]) rfl Try.call13 (fun R hR=>?_)
   simp [go_sem,za0,za2,za1,hB1.cell,g2,g6,h0,zbH]
   refine (zbz hP (by unfold maxLen;omega)).mono ?_
   rintro e w7 ⟨rfl,hE7⟩
   refine ⟨_,rfl,hR _ _ ?_⟩
   clear hR R
   replace hB1:=hB1.keep hE7
   replace hG:=hG.trans (za6 hE7)
   replace hP:=hP.ext hE7
   replace hrx:=hrx.ext hE7
   replace hnb:=hnb.keep hE7
   replace hown:=zas hown hE7
   simp [go_sem,za0,za2,za1,hB1.cell,g2,g6,h0,zbH]
   refine hK _ _ ?_;clear hK K
   by_cases hk:(zal T s'.i).k=0
   ·have hk':((zal T s'.i).k:Int)=0:=by omega
    refine zam (t:=false) (by simp [go_sem,za0,za2,za1,hB1.cell,g2,g6,hk,hk',h0]) rfl ?_
    refine zaA ?_
    repeat (first|refine zah ?_|refine za9 rfl ?_|refine zac ?_)
    rw [stmsP_end m s' acc (fun hh=>hh.2 hk)] at hz
    exact tail _ _ s' acc xs rows va vc hz.symm hx (by omega) (by simp [go_sem,g2]) (by simp [go_sem,g6]) hP hG hB1 hown hnb hrx
   ·have hk':¬((zal T s'.i).k:Int)=0:=by omega
    cases m with
    | zero=>have:=hi h0;omega
    | succ m =>
     unfold stmsP at hz
     rw [if_pos ⟨h0,hk⟩] at hz
     have hxa:=hx h0
     refine zam (t:=true) (by simp [go_sem,za0,za2,za1,hB1.cell,g2,g6,hk,hk',h0]) rfl ?_
     refine zae ?_
     refine hK3 _ _ ?_
     refine zaf ?_
     have hN7:N4≤w7.heap.size:=Nat.le_trans hNs (Nat.le_trans hE6.size hE7.size)
     have hD8:=Below.drew1 w7
     replace hB1:=hB1.keep hD8
     replace hG:=hG.trans (za6 hD8)
     replace hP:=hP.ext hD8
     replace hrx:=hrx.ext hD8
     replace hnb:=hnb.keep hD8
     replace hown:=zas hown hD8
     first|refine W_rdS ([⟨b1,0,none⟩]) [(0,0),(1,0),(2,0),(3,1),(4,1),(5,2),(6,0),(7,2)] (by kernel_rfl) (by kernel_rfl) (fun K hK=>?_)|refine W_drawS ([⟨b1,0,none⟩]) [(0,0),(1,0),(2,0),(3,1),(4,1),(5,2),(6,0),(7,2)] (by kernel_rfl) (by kernel_rfl) (fun K hK=>?_)
     simp [go_sem,za0,za2,za1,hB1.cell,g2,g6]
     have hkp:Keep ([⟨b1,0,none⟩]) w7.drew w7.drew:=zdE _ _
     have hN8:N4≤w7.drew.heap.size:=Nat.le_trans hN7 hD8.size
     have hownD:=hown
     refine za5 (by simp [go_sem,za0,za2,za1,hB1.cell,g2,g6]) rfl Try.call14 (fun R hR=>?_)
     simp [go_sem,za0,za2,za1,hB1.cell,g2,g6]
     refine (statement_any hW hP).mono ?_
     rintro e w30 ⟨Rx,x,rfl,hsx,hxv,hQ30,hg30⟩
     refine ⟨_,rfl,hR _ _ ?_⟩
     clear hR R
     replace hkp:=hkp.trans (Keep.grown (by intro a ha;simp only [List.mem_cons,List.not_mem_nil,or_false] at ha;rcases ha with rfl<;>exact ⟨by first|exact hB1.lt,(by intro e;injection e with e;simp at e;omega)⟩) hg30)
     replace hrx:=hrx.ch (hP.ch hg30) (by intro k hk e;subst e;first|omega|(have:=hk.1;omega))
     replace hnb:=zd5 hnb hown hg30 (by omega)
     replace hown:=zbW hown hg30 (by omega)
     replace hB1:=hB1.grown hg30 (by intro e;injection e with e;omega)
     replace hP:=hQ30
     replace hG:=hG.trans hg30
     clear hQ30
     refine zbj hkp ?_
     obtain ⟨a,c,ya,yc,yb,yd,ye,yp,hRx,_⟩:=id hsx.open
     subst hRx
     replace hsx:=hsx.mono (F':=fun k=>N4≤k∧Value.ownBlock (.slice va xs.length vc)≠some k) (fun k hk=>⟨Nat.le_trans hN8 hk,fun e=>by have:=(hownD.lt k e).2;exact absurd hk (by omega)⟩)
     simp [go_sem,za0,za2,za1,hB1.cell,g2,g6]
     refine zap #[.int .i64 x.kind,.slice a x.names.length c,.int .i64 x.expr.kind,.string ⟨x.expr.name.toArray⟩,.bool x.expr.neg,.slice ya x.expr.num.length yc,.slice yb x.expr.den.length yd,.slice ye x.expr.args.length yp,.int .i64 x.expr.pos,.int .i64 x.pos] (by simp [go_sem,za0,za2,za1,hB1.cell,g2,g6]) rfl ty_slZ23 (by decide) [(0,.agg #[.int .i64 x.kind,.slice a x.names.length c,.int .i64 x.expr.kind,.string ⟨x.expr.name.toArray⟩,.bool x.expr.neg,.slice ya x.expr.num.length yc,.slice yb x.expr.den.length yd,.slice ye x.expr.args.length yp,.int .i64 x.expr.pos,.int .i64 x.pos])] (by simp [go_sem,za0,za2,za1,hB1.cell,g2,g6]) (by kernel_rfl) (fun w40 b40 hE40 hle40 hB40=>?_)
     replace hkp:=hkp.trans (Keep.below (by intro a ha;simp only [List.mem_cons,List.not_mem_nil,or_false] at ha;rcases ha with rfl<;>first|exact hB1.lt) hE40)
     have hwb40:_≤b40:=Nat.le_trans hG.size hle40
     have hd1_40:b1≠b40:=Nat.ne_of_lt (Nat.lt_of_lt_of_le hB1.lt hle40)
     replace hB1:=hB1.keep hE40
     replace hG:=hG.trans (za6 hE40)
     replace hP:=hP.ext hE40
     replace hrx:=hrx.ext hE40
     replace hsx:=hsx.ext hE40
     replace hnb:=hnb.keep hE40
     replace hown:=zas hown hE40
     refine zbj hkp ?_
     simp [go_sem,za0,za2,za1,hB1.cell,g2,g6,hB40.cell]
     have hN40:N4≤w40.heap.size:=Nat.le_trans hN8 (Nat.le_trans hg30.size hE40.size)
     refine zbG (v:=.slice va xs.length vc) (b:=b40) (len:=1) (c:=1) hB40 (by simp [go_sem]) rfl ty_slZ23 ty_bytes40 rfl (by decide) (by simp [go_sem,za0,hB1.cell,g2]) (by simp [go_sem]) hown rfl (by simp [Value.oneCell']) (by unfold maxLen;omega) (by omega) hN40 (by decide) (by intro u hu x e;subst e;simp at hu) (by intro u hu x e;subst e;simp at hu) hnb (fun v' w50 hown' hg50 hat50 hnb'=>?_)
     obtain ⟨va',vc',rfl⟩:=zbh hown'
     have hob:∀ k,(Value.ownBlock (.slice va xs.length vc))=some k→N4≤k:=fun k e=>(hown.lt k e).1
     replace hrx:=((hrx.snoc hsx).blt).ch (Ch.of_grown hg50 (NL.of_nb hnb)) (fun k hk e=>hk.1.2 e)
     replace hrx:=hrx.mono (F':=fun k=>N4≤k∧Value.ownBlock (.slice va' (xs.length+1) vc')≠some k) (fun k hk=>⟨hk.1.1,fun e=>by
      rcases hat50 with h|h
      ·exact hk.1.2 (h▸e)
      ·rw [h] at e;injection e with e;have:=hk.2;omega⟩)
     replace hP:=hP.grown hg50 (fun e=>by have:=hob b e.symm;omega) (fun ad ha e=>by have:=hob ad.block e.symm;have:=hlaN ad ha;omega)
     replace hG:=grown_own hG hg50 (fun k e=>by have:=hob k e;omega)
     have hkp2:=hkp.trans (Keep.grown (by intro a ha;simp only [List.mem_cons,List.not_mem_nil,or_false] at ha;subst ha;exact ⟨hB1.lt,fun e=>by have:=hob b1 e.symm;omega⟩) hg50)
     replace hB1:=hB1.grown hg50 (fun e=>by have:=hob b1 e.symm;omega)
     refine zcr ?_
     simp [go_sem,za0,za2,za1,g2,g6,hB1.cell,hkp2]
     refine za7 (b:=b1) (off:=0) [.slice va' (xs.length+1) vc'] (by simp [go_sem,za0,za2,za1,g2,g6,hB1.cell]) rfl (by simp [go_sem,za0,za2,za1,g2,g6,hB1.cell]) (by simp [go_sem,Value.cells,za0,za2,za1,g2,g6,hB1.cell]) ty_size23 hB1 (by simp) (by simp [Value.oneCell']) (by decide) (fun w60 hS60 hB60=>?_)
     simp [zaC] at hB60
     replace hrx:=hrx.ch (Ch.of_sto hS60 (NL.of_bx hB1 (by intro u hu x e;subst e;simp at hu))) (by intro k hk e;subst e;first|exact hk.2 rfl|omega)
     replace hnb':=zdG hnb' hown' hS60 (by omega)
     replace hown':=zbq hown' hS60 (by omega)
     replace hG:=zai hG hS60 hwb1
     replace hP:=hP.sto hS60 (by omega) (fun ad ha=>by have:=hla0 ad ha;omega)
     refine zcr ?_
     simp [go_sem,za0,za2,za1,g2,g6,hB60.cell]
     refine hK _ _ ?_;clear hK K
     have hN60:N4≤w60.heap.size:=by rw [hS60.size];exact Nat.le_trans hN40 hg50.size
     have hlx:(xs++[x]).length=xs.length+1:=by simp
     refine ⟨m,by omega,(stmP T s').1,acc++[(stmP T s').2],xs++[x],rows++[[.int .i64 x.kind,.slice a x.names.length c,.int .i64 x.expr.kind,.string ⟨x.expr.name.toArray⟩,.bool x.expr.neg,.slice ya x.expr.num.length yc,.slice yb x.expr.den.length yd,.slice ye x.expr.args.length yp,.int .i64 x.expr.pos,.int .i64 x.pos]],va',vc',by omega,fun e=>by have:=stmP_adv hW s' h0 e;have:=hi h0;omega,hz,fun e=>by rw [hxv e,hxa],by simp [go_sem,g2],by simp [go_sem,g6],hP,hG,hN60,by rw [hlx];exact hB60,by rw [hlx];simpa using hown',by rw [hlx];exact hnb',by rw [hlx];exact hrx⟩
  ·simp [go_sem,za0,za2,za1,hB1.cell,g2,g6,h0]
   refine hK _ _ ?_;clear hK K
   refine zam (t:=false) (by simp [go_sem,za0,za2,za1,hB1.cell,g2,g6,h0]) rfl ?_
   refine zaA ?_
   repeat (first|refine zah ?_|refine za9 rfl ?_|refine zac ?_)
   rw [stmsP_end m s' acc (fun hh=>h0 hh.1)] at hz
   exact tail _ _ s' acc xs rows va vc hz.symm hx (by omega) (by simp [go_sem,g2]) (by simp [go_sem,g6]) hP hG hB1 hown hnb hrx
 ·rw [if_neg he] at hV
  have he':¬((allR s).2.2:Int)=0:=by omega
  refine zam (t:=true) (by simp [go_sem,za0,za2,za1,hB1.cell,he',he]) rfl ?_
  first|refine zzr fun K hK=>?_|refine zzt fun K hK=>?_
  simp [go_sem,za0,za2,za1,hB1.cell]
  refine zat #[.slice none 0 0] (by simp [go_sem]) rfl ty_stZ25 [] (by simp [go_sem]) rfl ?_
  simp [go_sem,za0]
  refine za7 (b:=b1) (off:=0) [.slice none 0 0] (by simp [go_sem,za0,za2,za1,hB1.cell]) rfl (by simp [go_sem,za0,za2,za1,hB1.cell]) (by simp [go_sem,Value.cells,za0,za2,za1,hB1.cell]) zcN hB1 (by simp) (by simp [Value.oneCell']) (by decide) (fun w61 hS61 hB61=>?_)
  simp [zaC] at hB61
  replace hA0:=hA0.nextS hS61 (by first|exact hb1_0|omega)
  simp [go_sem,za0,za2,za1,hB61.cell]
  refine hK _ _ ?_;clear hK K
  refine zaj ?_
  repeat (first|refine za4 ?_|refine za3 ?_)
  subst hV
  refine ⟨by simp [go_sem,zbl,zav,za2,za1,za0,hB61.cell],?_⟩
  refine ⟨none,0,[],?_,World.ownsRow_nil _ _ _ _,NB.nil _,RSs.nil _ _,Nat.zero_le _,hA0⟩
  simp [go_sem,zax,zav,za2,za1,za0,hB61.cell]
end Go.Proofs.Ytefhenfofomjhaa
