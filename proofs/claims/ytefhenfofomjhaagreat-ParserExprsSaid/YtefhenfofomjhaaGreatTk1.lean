/- The tokens of a source, as the parser takes them. -/
import Derived.Test.YtefhenfofomjhaaGreatPt8
import Derived.Test.YtefhenfofomjhaaGreatLx6
import Derived.Test.YtefhenfofomjhaaGreatIn9
import Derived.Test.YtefhenfofomjhaaGreatPp2
set_option linter.unusedSimpArgs false
set_option linter.unusedVariables false
namespace Go.Proofs.YtefhenfofomjhaaGreat
open Go Go.RowKit Go.V
set_option maxRecDepth 20000
theorem intC_sl {w:World} {b t:Nat} {l:List Int} (h:Bx w b (intC l).toArray t):SL w (some ⟨b,0,none⟩) (intC l):=by
 have:=SL.whole h
 simpa using this
theorem EX.leaf {w:World} {F:Nat→Prop} {name:List UInt8} {pos:Int} (h:name.length≤maxLen):EX w F [.int .i64 1,.string ⟨name.toArray⟩,.bool false,.slice none 0 0,.slice none 0 0,.slice none 0 0,.int .i64 pos] (.mk 1 name false [] [] [] pos) :=
 .mk (rows:=[]) (ad:=none) (kind:=1) (pos:=pos) (name:=name) (neg:=false) (num:=[]) (den:=[]) (args:=[]) (RD.nil _ _ _) (RD.nil _ _ _) ⟨Nat.zero_le _,Nat.zero_le _⟩ (SL.nil _ _) (fun _ h=>by cases h) rfl h (Nat.zero_le _) (fun i R x h=>by simp at h)
set_option maxHeartbeats 4000000 in
theorem arg1_any {b tb cap f:Nat} {la:Option Addr} {T:List Tok} (hW:Wf T) (d:Int) (hd:d=21-(f:Int)) (hf:f≤20)
  (hcon:∀ (f':Nat),f=f'+1→∀ (w:World) (s:PSt) (sa:Option Addr) (sc:Nat) (sorts:List Int),PSS w b tb la cap T s→SL w sa (intC sorts)→sorts.length≤10→Calls Tryz.prog 14 #[.pointer (some ⟨b,0,none⟩),.int .i64 d,.slice sa sorts.length sc] w (ArgPost w b tb la cap T (conP T (argP T f') sorts s)))
  {w:World} {s:PSt} (sort:Int) (hsr:0≤sort∧sort≤3) (h:PSS w b tb la cap T s) :
  Calls Tryz.prog 31 #[.pointer (some ⟨b,0,none⟩),.int .i64 d,.int .i64 sort] w (ArgPost w b tb la cap T (argP T f sort s)):=by
 have hT:T.length≤maxLen:=by have:=hW.size;unfold maxLen;omega
 obtain ⟨A,hA⟩:∃ A,A=argP T f sort s:=⟨_,rfl⟩
 rw [←hA]
 unfold argP at hA
 obtain ⟨S,hS⟩:∃ S,S=sortL sort:=⟨_,rfl⟩
 rw [←hS] at hA
 have hSl:S.length≤10:=by rw [hS];unfold sortL;split<;>simp
 refine za7 (args:=[.pointer (some ⟨b,0,none⟩),.int .i64 d,.int .i64 sort]) (rs:=[.cell 6 30]) (n:=56) Tryz.func31 rfl rfl rfl (by kernel_rfl) ?_
 have hP:=h
 have hG:w.grownBy w (some b):=zad (Below.refl _ _)
 have hb0:=h.lt'
 have hla0:=h.lab
 first|refine zzr fun K hK=>?_|refine zzt fun K hK=>?_
 simp [go_sem,za0,za4,za1]
 refine zam (by simp [go_sem,za0,za4,za1]) rfl zbd (fun w1 b1 hE1 hle1 hB1=>?_)
 have hwb1:_≤b1:=Nat.le_trans hG.size hle1
 replace hG:=hG.trans (zad hE1)
 replace hP:=hP.ext hE1
 simp [go_sem,za0,za4,za1,hB1.cell]
 refine hK _ _ ?_;clear hK K
 first|refine zzr fun K hK=>?_|refine zzt fun K hK=>?_
 simp [go_sem,za0,za4,za1,hB1.cell]
 refine zaq #[.int .i64 sort] (by simp [go_sem,za0,za4,za1,hB1.cell]) rfl ze1 (by decide) [(0,.int .i64 sort)] (by simp [go_sem,za0,za4,za1,hB1.cell]) (by kernel_rfl) (fun w2 b2 hE2 hle2 hB2=>?_)
 have hwb2:_≤b2:=Nat.le_trans hG.size hle2
 have hd1_2:b1≠b2:=Nat.ne_of_lt (Nat.lt_of_lt_of_le hB1.lt hle2)
 replace hB1:=hB1.keep hE2
 replace hG:=hG.trans (zad hE2)
 replace hP:=hP.ext hE2
 simp [go_sem,za0,za4,za1,hB1.cell,hB2.cell]
 refine hK _ _ ?_;clear hK K
 refine zac (fun K1 hK1=>?_)
 first|refine zzr fun K hK=>?_|refine zzt fun K hK=>?_
 simp [go_sem,za0,za4,za1,hB1.cell,hB2.cell]
 refine hK _ _ ?_;clear hK K
 have tail:∀ (g:G) (w9:World) (bs c:Nat),g 0 = .pointer (some ⟨b,0,none⟩)→g 1 = .int .i64 d→g 6 = .pointer (some ⟨b1,0,none⟩)→g 7 = .slice (some ⟨bs,0,none⟩) S.length c→SL w9 (some ⟨bs,0,none⟩) (intC S)→PSS w9 b tb la cap T s→w.grownBy w9 (some b)→Bx w9 b1 #[.int .i64 0,.string ⟨#[]⟩,.bool false,.slice none 0 0,.slice none 0 0,.slice none 0 0,.int .i64 0] 30→K1 g w9:=by
  clear hP hG hB1 hB2
  intro g w9 bs c g0 g1 g6 g7 hsl hP hG hB1
  refine hK1 _ _ ?_
  refine zac (fun K2 hK2=>?_)
  have tail2:∀ (g:G) (w9:World),¬(nmT T s.er s.i=false∧zdu T S s=0)→g 0 = .pointer (some ⟨b,0,none⟩)→g 1 = .int .i64 d→g 6 = .pointer (some ⟨b1,0,none⟩)→g 7 = .slice (some ⟨bs,0,none⟩) S.length c→SL w9 (some ⟨bs,0,none⟩) (intC S)→PSS w9 b tb la cap T s→w.grownBy w9 (some b)→Bx w9 b1 #[.int .i64 0,.string ⟨#[]⟩,.bool false,.slice none 0 0,.slice none 0 0,.slice none 0 0,.int .i64 0] 30→K2 g w9:=by
   clear hP hG hB1 hsl g0 g1 g6 g7
   intro g w9 hne g0 g1 g6 g7 hsl hP hG hB1
   rw [if_neg hne] at hA
   refine hK2 _ _ ?_
   refine zac (fun K3 hK3=>?_)
   first|refine zzr fun K hK=>?_|refine zzt fun K hK=>?_
   simp [go_sem,za0,za4,za1,g0,g1,g6,g7,hB1.cell]
   refine hK _ _ ?_;clear hK K
   cases f with
   | zero =>
    have c1:(20:Int)<d:=by omega
    have hA1:A=(zbF T 4 s,ex0):=hA
    refine zai (t:=true) (by simp [go_sem,za0,za4,za1,g0,g1,g6,g7,hB1.cell,c1]) rfl ?_
    first|refine zzr fun K hK=>?_|refine zzt fun K hK=>?_
    simp [go_sem,za0,za4,za1,g0,g1,g6,g7,hB1.cell]
    refine za5 (by simp [go_sem,za0,za4,za1,g0,g1,g6,g7,hB1.cell]) rfl Tryz.call16 (fun R hR=>?_)
    simp [go_sem,za0,za4,za1,g0,g1,g6,g7,hB1.cell]
    refine (zdh hP hW 4).mono ?_
    rintro e w3 ⟨rfl,hQ3,hg3⟩
    refine ⟨_,rfl,hR _ _ ?_⟩
    clear hR R
    replace hB1:=hB1.grown hg3 (by intro e;injection e with e;omega)
    replace hP:=hQ3
    replace hG:=hG.trans hg3
    clear hQ3
    simp [go_sem,za0,za4,za1,g0,g1,g6,g7,hB1.cell]
    refine hK _ _ ?_;clear hK K
    first|refine zzr fun K hK=>?_|refine zzt fun K hK=>?_
    simp [go_sem,za0,za4,za1,g0,g1,g6,g7,hB1.cell]
    refine zal #[.int .i64 0,.string ⟨#[]⟩,.bool false,.slice none 0 0,.slice none 0 0,.slice none 0 0,.int .i64 0] (by simp [go_sem]) rfl zb3 [] (by simp [go_sem]) rfl ?_
    simp [go_sem,za0]
    refine za6 (b:=b1) (off:=0) [.int .i64 0,.string ⟨#[]⟩,.bool false,.slice none 0 0,.slice none 0 0,.slice none 0 0,.int .i64 0] (by simp [go_sem,za0,za4,za1,g0,g1,g6,g7,hB1.cell]) rfl (by simp [go_sem,za0,za4,za1,g0,g1,g6,g7,hB1.cell]) (by simp [go_sem,Value.cells,za0,za4,za1,g0,g1,g6,g7,hB1.cell]) zaw hB1 (by simp) (by simp [Value.oneCell']) (by decide) (fun w4 hS4 hB4=>?_)
    simp [zaD] at hB4
    replace hG:=zaB hG hS4 hwb1
    replace hP:=hP.sto hS4 (by omega) (fun ad ha=>by have:=hla0 ad ha;omega)
    simp [go_sem,za0,za4,za1,g0,g1,g6,g7,hB4.cell]
    refine hK _ _ ?_;clear hK K
    refine zaf ?_
    repeat (first|refine za3 ?_|refine za2 ?_)
    rw [hA1]
    refine ⟨by simp [go_sem,zaO,zas,za4,za1,za0,hB4.cell,g6],?_⟩
    refine ⟨_,ex0,?_,EX.ex0 _ _ _ rfl,fun _=>rfl,hP,hG⟩
    simp [go_sem,zat,zas,za4,za1,za0,hB4.cell,g6]
   | succ f =>
    have c1:¬(20:Int)<d:=by omega
    simp only at hA
    refine zai (t:=false) (by simp [go_sem,za0,za4,za1,g0,g1,g6,g7,hB1.cell, c1]) rfl ?_
    refine zaa ?_
    refine hK3 _ _ ?_
    refine zac (fun K4 hK4=>?_)
    first|refine zzr fun K hK=>?_|refine zzt fun K hK=>?_
    simp [go_sem,za0,za4,za1,g0,g1,g6,g7,hB1.cell]
    refine za5 (by simp [go_sem,za0,za4,za1,g0,g1,g6,g7,hB1.cell]) rfl Tryz.call12 (fun R hR=>?_)
    simp [go_sem,za0,za4,za1,g0,g1,g6,g7,hB1.cell]
    refine (namedS_any hP hW).mono ?_
    rintro e w10 ⟨rfl,hE10⟩
    refine ⟨_,rfl,hR _ _ ?_⟩
    clear hR R
    replace hB1:=hB1.keep hE10
    replace hG:=hG.trans (zad hE10)
    replace hP:=hP.ext hE10
    simp [go_sem,za0,za4,za1,g0,g1,g6,g7,hB1.cell]
    replace hsl:=hsl.ext hE10
    refine hK _ _ ?_;clear hK K
    by_cases hnm:nmT T s.er s.i=true
    ·rw [if_pos hnm] at hA
     obtain ⟨h0,hk1⟩:=nmT_k hnm
     have hn:nameP T s=(⟨s.i+1,s.at',s.er⟩,(zan T s.i).t):=by unfold nameP;rw [if_pos hnm]
     refine zai (t:=true) (by simp [go_sem,za0,za4,za1,g0,g1,g6,g7,hB1.cell,hnm]) rfl ?_
     first|refine zzr fun K hK=>?_|refine zzt fun K hK=>?_
     simp [go_sem,za0,za4,za1,g0,g1,g6,g7,hB1.cell]
     refine za5 (by simp [go_sem,za0,za4,za1,g0,g1,g6,g7,hB1.cell,zbH]) rfl Tryz.call13 (fun R hR=>?_)
     simp [go_sem,za0,za4,za1,g0,g1,g6,g7,hB1.cell,zbH]
     refine (zbV hP hT).mono ?_
     rintro e w11 ⟨rfl,hE11⟩
     refine ⟨_,rfl,hR _ _ ?_⟩
     clear hR R
     replace hB1:=hB1.keep hE11
     replace hG:=hG.trans (zad hE11)
     replace hP:=hP.ext hE11
     simp [go_sem,za0,za4,za1,g0,g1,g6,g7,hB1.cell,zbH]
     refine hK _ _ ?_;clear hK K
     have hcn:=nameS_any hP hW
     rw [hn] at hcn
     first|refine zzr fun K hK=>?_|refine zzt fun K hK=>?_
     simp [go_sem,za0,za4,za1,g0,g1,g6,g7,hB1.cell]
     refine za5 (by simp [go_sem,za0,za4,za1,g0,g1,g6,g7,hB1.cell]) rfl Tryz.call54 (fun R hR=>?_)
     simp [go_sem,za0,za4,za1,g0,g1,g6,g7,hB1.cell]
     refine (hcn).mono ?_
     rintro e w20 ⟨rfl,hQ20,hg20⟩
     refine ⟨_,rfl,hR _ _ ?_⟩
     clear hR R
     replace hB1:=hB1.grown hg20 (by intro e;injection e with e;omega)
     replace hP:=hQ20
     replace hG:=hG.trans hg20
     clear hQ20
     simp [go_sem,za0,za4,za1,g0,g1,g6,g7,hB1.cell]
     refine zal #[.int .i64 1,.string ⟨(zan T s.i).t.toArray⟩,.bool false,.slice none 0 0,.slice none 0 0,.slice none 0 0,.int .i64 (zan T s.i).p] (by simp [go_sem]) rfl zb3 [(0,.int .i64 1),(4,.int .i64 (zan T s.i).p),(1,.string ⟨(zan T s.i).t.toArray⟩)] (by simp [go_sem]) rfl ?_
     simp [go_sem,za0]
     refine za6 (b:=b1) (off:=0) [.int .i64 1,.string ⟨(zan T s.i).t.toArray⟩,.bool false,.slice none 0 0,.slice none 0 0,.slice none 0 0,.int .i64 (zan T s.i).p] (by simp [go_sem,za0,za4,za1,g0,g1,g6,g7,hB1.cell]) rfl (by simp [go_sem,za0,za4,za1,g0,g1,g6,g7,hB1.cell]) (by simp [go_sem,Value.cells,za0,za4,za1,g0,g1,g6,g7,hB1.cell]) zaw hB1 (by simp) (by simp [Value.oneCell']) (by decide) (fun w21 hS21 hB21=>?_)
     simp [zaD] at hB21
     replace hG:=zaB hG hS21 hwb1
     replace hP:=hP.sto hS21 (by omega) (fun ad ha=>by have:=hla0 ad ha;omega)
     simp [go_sem,za0,za4,za1,g0,g1,g6,g7,hB21.cell]
     refine hK _ _ ?_;clear hK K
     refine zaf ?_
     repeat (first|refine za3 ?_|refine za2 ?_)
     rw [hA]
     refine ⟨by simp [go_sem,zaO,zas,za4,za1,za0,hB21.cell,g6],?_⟩
     refine ⟨_,.mk 1 (zan T s.i).t false [] [] [] (zan T s.i).p,?_,EX.leaf (by have:=hW.len s.i;unfold maxLen;omega),fun _=>rfl,hP,hG⟩
     simp [go_sem,zat,zas,za4,za1,za0,hB21.cell,g6]
    ·rw [if_neg hnm] at hA
     refine zai (t:=false) (by simp [go_sem,za0,za4,za1,g0,g1,g6,g7,hB1.cell, hnm]) rfl ?_
     refine zaa ?_
     refine hK4 _ _ ?_
     have hG0:=hG
     have h1lt0:=hB1.lt
     first|refine zzr fun K hK=>?_|refine zzt fun K hK=>?_
     simp [go_sem,za0,za4,za1,g0,g1,g6,g7,hB1.cell]
     refine za5 (by simp [go_sem,za0,za4,za1,g0,g1,g6,g7,hB1.cell]) rfl Tryz.call14 (fun R hR=>?_)
     simp [go_sem,za0,za4,za1,g0,g1,g6,g7,hB1.cell]
     refine (hcon f rfl _ s _ c S hP hsl hSl).mono ?_
     rintro e w30 ⟨Rx,x,rfl,hxe,hxv,hQ30,hg30⟩
     refine ⟨_,rfl,hR _ _ ?_⟩
     clear hR R
     replace hB1:=hB1.grown hg30 (by intro e;injection e with e;omega)
     replace hP:=hQ30
     replace hG:=hG.trans hg30
     clear hQ30
     obtain ⟨xa,xc,xb,xd,xad,xcap,xrows,hRx,_⟩:=hxe.open
     subst hRx
     replace hxe:=hxe.mono (F':=fun k=>w.heap.size≤k∧k≠b1) (fun k hk=>⟨Nat.le_trans hG0.size hk,fun e=>by subst e;exact absurd hk (Nat.not_le.2 h1lt0)⟩)
     simp [go_sem,za0,za4,za1,g0,g1,g6,g7,hB1.cell]
     refine za6 (b:=b1) (off:=0) [.int .i64 x.kind,.string ⟨x.name.toArray⟩,.bool x.neg,.slice xa x.num.length xc,.slice xb x.den.length xd,.slice xad x.args.length xcap,.int .i64 x.pos] (by simp [go_sem,za0,za4,za1,g0,g1,g6,g7,hB1.cell]) rfl (by simp [go_sem,za0,za4,za1,g0,g1,g6,g7,hB1.cell]) (by simp [go_sem,Value.cells,za0,za4,za1,g0,g1,g6,g7,hB1.cell]) zaw hB1 (by simp) (by simp [Value.oneCell']) (by decide) (fun w31 hS31 hB31=>?_)
     simp [zaD] at hB31
     replace hxe:=hxe.ch (Ch.of_sto hS31 (NL.of_bx hB1 (by intro u hu x e;subst e;simp at hu))) (by intro k hk e;subst e;first|exact hk.2 rfl|omega)
     replace hG:=zaB hG hS31 hwb1
     replace hP:=hP.sto hS31 (by omega) (fun ad ha=>by have:=hla0 ad ha;omega)
     simp [go_sem,za0,za4,za1,g0,g1,g6,g7,hB31.cell]
     refine hK _ _ ?_;clear hK K
     refine zaf ?_
     repeat (first|refine za3 ?_|refine za2 ?_)
     rw [←hA] at hP hxv
     refine ⟨by simp [go_sem,zaO,zas,za4,za1,za0,hB31.cell,g6],?_⟩
     refine ⟨_,x,?_,hxe.mono (fun k hk=>hk.1),hxv,hP,hG⟩
     simp [go_sem,zat,zas,za4,za1,za0,hB31.cell,g6]
  first|refine zzr fun K hK=>?_|refine zzt fun K hK=>?_
  simp [go_sem,za0,za4,za1,hB1.cell,g0,g1,g6,g7]
  refine za5 (by simp [go_sem,za0,za4,za1,hB1.cell,g0,g1,g6,g7]) rfl Tryz.call12 (fun R hR=>?_)
  simp [go_sem,za0,za4,za1,hB1.cell,g0,g1,g6,g7]
  refine (namedS_any hP hW).mono ?_
  rintro e w50 ⟨rfl,hE50⟩
  refine ⟨_,rfl,hR _ _ ?_⟩
  clear hR R
  replace hB1:=hB1.keep hE50
  replace hG:=hG.trans (zad hE50)
  replace hP:=hP.ext hE50
  simp [go_sem,za0,za4,za1,hB1.cell,g0,g1,g6,g7]
  replace hsl:=hsl.ext hE50
  by_cases hnm:nmT T s.er s.i=true
  ·simp [go_sem,za0,za4,za1,hB1.cell,g0,g1,g6,g7,hnm]
   refine hK _ _ ?_;clear hK K
   refine zai (t:=false) (by simp [go_sem,za0,za4,za1,hB1.cell,g0,g1,g6,g7,hnm]) rfl ?_
   refine zaa ?_
   refine tail2 _ _ (fun e=>by rw [hnm] at e;cases e.1) (by simp [go_sem,g0]) (by simp [go_sem,g1]) (by simp [go_sem,g6]) (by simp [go_sem,g7]) hsl hP hG hB1
  ·have hnf:nmT T s.er s.i=false:=by simpa using hnm
   simp [go_sem,za0,za4,za1,hB1.cell,g0,g1,g6,g7,hnf]
   refine za5 (by simp [go_sem,za0,za4,za1,hB1.cell,g0,g1,g6,g7,hnf]) rfl Tryz.call28 (fun R hR=>?_)
   simp [go_sem,za0,za4,za1,hB1.cell,g0,g1,g6,g7,hnf]
   refine (kindS_any hP hW (some ⟨bs,0,none⟩) c S hsl hSl).mono ?_
   rintro e w51 ⟨rfl,hE51⟩
   refine ⟨_,rfl,hR _ _ ?_⟩
   clear hR R
   replace hB1:=hB1.keep hE51
   replace hG:=hG.trans (zad hE51)
   replace hP:=hP.ext hE51
   simp [go_sem,za0,za4,za1,hB1.cell,g0,g1,g6,g7,hnf]
   replace hsl:=hsl.ext hE51
   by_cases hkz:zdu T S s=0
   ·have hA1:A=(zbF T 5 s,ex0):=by rw [hA,if_pos ⟨hnf,hkz⟩]
    simp [go_sem,za0,za4,za1,hB1.cell,g0,g1,g6,g7,hnf,hkz]
    refine hK _ _ ?_;clear hK K
    refine zai (t:=true) (by simp [go_sem,za0,za4,za1,hB1.cell,g0,g1,g6,g7,hnf,hkz]) rfl ?_
    first|refine zzr fun K hK=>?_|refine zzt fun K hK=>?_
    simp [go_sem,za0,za4,za1,hB1.cell,g0,g1,g6,g7]
    refine za5 (by simp [go_sem,za0,za4,za1,hB1.cell,g0,g1,g6,g7]) rfl Tryz.call16 (fun R hR=>?_)
    simp [go_sem,za0,za4,za1,hB1.cell,g0,g1,g6,g7]
    refine (zdh hP hW 5).mono ?_
    rintro e w52 ⟨rfl,hQ52,hg52⟩
    refine ⟨_,rfl,hR _ _ ?_⟩
    clear hR R
    replace hB1:=hB1.grown hg52 (by intro e;injection e with e;omega)
    replace hP:=hQ52
    replace hG:=hG.trans hg52
    clear hQ52
    simp [go_sem,za0,za4,za1,hB1.cell,g0,g1,g6,g7]
    refine hK _ _ ?_;clear hK K
    first|refine zzr fun K hK=>?_|refine zzt fun K hK=>?_
    simp [go_sem,za0,za4,za1,hB1.cell,g0,g1,g6,g7]
    refine zal #[.int .i64 0,.string ⟨#[]⟩,.bool false,.slice none 0 0,.slice none 0 0,.slice none 0 0,.int .i64 0] (by simp [go_sem]) rfl zb3 [] (by simp [go_sem]) rfl ?_
    simp [go_sem,za0]
    refine za6 (b:=b1) (off:=0) [.int .i64 0,.string ⟨#[]⟩,.bool false,.slice none 0 0,.slice none 0 0,.slice none 0 0,.int .i64 0] (by simp [go_sem,za0,za4,za1,hB1.cell,g0,g1,g6,g7]) rfl (by simp [go_sem,za0,za4,za1,hB1.cell,g0,g1,g6,g7]) (by simp [go_sem,Value.cells,za0,za4,za1,hB1.cell,g0,g1,g6,g7]) zaw hB1 (by simp) (by simp [Value.oneCell']) (by decide) (fun w53 hS53 hB53=>?_)
    simp [zaD] at hB53
    replace hG:=zaB hG hS53 hwb1
    replace hP:=hP.sto hS53 (by omega) (fun ad ha=>by have:=hla0 ad ha;omega)
    simp [go_sem,za0,za4,za1,g0,g1,g6,g7,hB53.cell]
    refine hK _ _ ?_;clear hK K
    refine zaf ?_
    repeat (first|refine za3 ?_|refine za2 ?_)
    rw [hA1]
    refine ⟨by simp [go_sem,zaO,zas,za4,za1,za0,hB53.cell,g6],?_⟩
    refine ⟨_,ex0,?_,EX.ex0 _ _ _ rfl,fun _=>rfl,hP,hG⟩
    simp [go_sem,zat,zas,za4,za1,za0,hB53.cell,g6]
   ·simp [go_sem,za0,za4,za1,hB1.cell,g0,g1,g6,g7,hnf,hkz]
    refine hK _ _ ?_;clear hK K
    refine zai (t:=false) (by simp [go_sem,za0,za4,za1,hB1.cell,g0,g1,g6,g7,hnf,hkz]) rfl ?_
    refine zaa ?_
    refine tail2 _ _ (fun e=>hkz e.2) (by simp [go_sem,g0]) (by simp [go_sem,g1]) (by simp [go_sem,g6]) (by simp [go_sem,g7]) hsl hP hG hB1
 by_cases hs0:sort=0
 ·have hS2:S=[2,3]:=by rw [hS];unfold sortL;rw [if_pos hs0]
  refine zai (t:=true) (by simp [go_sem,za0,za4,za1,hB1.cell,hB2.cell,hs0]) rfl ?_
  first|refine zzr fun K hK=>?_|refine zzt fun K hK=>?_
  simp [go_sem,za0,za4,za1,hB1.cell,hB2.cell]
  refine zaq #[.int .i64 2,.int .i64 3] (by simp [go_sem,za0,za4,za1,hB1.cell,hB2.cell]) rfl ze1 (by decide) [(0,.int .i64 2),(1,.int .i64 3)] (by simp [go_sem,za0,za4,za1,hB1.cell,hB2.cell]) (by kernel_rfl) (fun w60 b60 hE60 hle60 hB60=>?_)
  have hwb60:_≤b60:=Nat.le_trans hG.size hle60
  have hd1_60:b1≠b60:=Nat.ne_of_lt (Nat.lt_of_lt_of_le hB1.lt hle60)
  have hd2_60:b2≠b60:=Nat.ne_of_lt (Nat.lt_of_lt_of_le hB2.lt hle60)
  replace hB1:=hB1.keep hE60
  replace hB2:=hB2.keep hE60
  replace hG:=hG.trans (zad hE60)
  replace hP:=hP.ext hE60
  simp [go_sem,za0,za4,za1,hB1.cell,hB2.cell,hB60.cell]
  refine hK _ _ ?_;clear hK K
  refine tail _ _ b60 2 (by simp [go_sem]) (by simp [go_sem]) (by simp [go_sem]) (by rw [hS2];simp [go_sem]) (by rw [hS2];exact intC_sl hB60) hP hG hB1
 ·have hS2:S=[sort]:=by rw [hS];unfold sortL;rw [if_neg hs0]
  refine zai (t:=false) (by simp [go_sem,za0,za4,za1,hB1.cell,hB2.cell,hs0]) rfl ?_
  refine zaa ?_
  refine tail _ _ b2 1 (by simp [go_sem]) (by simp [go_sem]) (by simp [go_sem]) (by rw [hS2];simp [go_sem]) (by rw [hS2];exact intC_sl hB2) hP hG hB1
theorem arg_any {b tb cap:Nat} {la:Option Addr} {T:List Tok} (hW:Wf T):∀ (f:Nat),f≤20→∀ (w:World) (s:PSt) (sort:Int),0≤sort∧sort≤3→PSS w b tb la cap T s →
  Calls Tryz.prog 31 #[.pointer (some ⟨b,0,none⟩),.int .i64 (21-(f:Int)),.int .i64 sort] w (ArgPost w b tb la cap T (argP T f sort s))
 | 0,hf,w,s,sort,hs,h=>arg1_any hW _ rfl hf (fun f' e=>by omega) sort hs h
 | f+1,hf,w,s,sort,hs,h=>by
  refine arg1_any hW _ rfl hf (fun f' e w s sa sc sorts h hsl hn=>?_) sort hs h
  have e':f=f':=by omega
  subst e'
  refine con_any hW _ (by omega) (fun w s sort hs h=>?_) h sa sc sorts hsl hn
  rw [show (21-((f+1:Nat):Int)+1)=21-(f:Int) by omega]
  exact arg_any hW f (by omega) w s sort hs h
theorem con1_any {b tb cap:Nat} {la:Option Addr} {T:List Tok} (hW:Wf T) {w:World} {s:PSt} (h:PSS w b tb la cap T s) (sa:Option Addr) (sc:Nat) (sorts:List Int) (hs:SL w sa (intC sorts)) (hn:sorts.length≤10) :
  Calls Tryz.prog 14 #[.pointer (some ⟨b,0,none⟩),.int .i64 1,.slice sa sorts.length sc] w (ArgPost w b tb la cap T (conP T (argP T 19) sorts s)) :=
 con_any hW 1 (by omega) (fun w s sort hs h=>arg_any hW 19 (by omega) w s sort hs h) h sa sc sorts hs hn
end Go.Proofs.YtefhenfofomjhaaGreat
namespace Go.Proofs.YtefhenfofomjhaaGreat
open Go.RowKit Go.V
set_option maxRecDepth 20000
theorem skip_take:∀ (l:List UInt8) (b:Bool) (n:Nat),zcE b (l.take n)=min n (zcE b l)
 | [],b,n=>by simp [zcE]
 | c::l,b,0=>by simp [zcE]
 | c::l,true,n+1=>by
  simp only [List.take_succ_cons,zcE]
  split<;>rw [skip_take l]<;>omega
 | c::l,false,n+1=>by
  simp only [List.take_succ_cons,zcE]
  split
  ·rw [skip_take l];omega
  ·split
   ·rw [skip_take l];omega
   ·simp
theorem endN_take (L:Bool):∀ (l:List UInt8) (n:Nat),endN L (l.take n)=min n (endN L l)
 | [],n=>by simp [endN]
 | c::l,0=>by simp [endN]
 | c::l,n+1=>by
  simp only [List.take_succ_cons,endN]
  split
  ·rw [endN_take L l];omega
  ·simp
def tokL:List UInt8→Nat × Nat × Nat
 | []=>(5,0,0)
 | c::r =>
  if letB c.toNat=true then (if 20<endN true (c::r) then 4 else 0,1,endN true (c::r))
  else if digB c.toNat=true then (if 1<endN false (c::r)∧c.toNat=48 then 5 else if 1000<endN false (c::r) then 4 else 0,2,endN false (c::r))
  else if sgnB c.toNat=true then (0,3,1)
  else if c.toNat=58 then (if r.head? = some 61 then 0 else 5,3,2)
  else (5,3,1)
theorem sgn_58 (c:UInt8) (h:sgnB c.toNat=true):¬c.toNat=58:=by
 intro e;rw [e] at h;revert h;decide
theorem tok_list (s:ByteArray) (q:Nat) (h:q<s.size):tokL ((bs s).drop q)=(zd8 s q,zdT s q,zbt s q-q)∧q≤zbt s q:=by
 have hd:(((bs s).drop (q+1)).head? = some 61)=(q+1<s.size∧(za9 s (q+1)).toNat=61):=by
  by_cases h1:q+1<s.size
  ·rw [zca s (q+1) h1]
   simp only [List.head?_cons,Option.some.injEq,h1,true_and,eq_iff_iff]
   constructor
   ·intro e;rw [e];rfl
   ·intro e;apply UInt8.toNat_inj.1;rw [e];rfl
  ·rw [drop_end s (q+1) h1];simp [h1]
 unfold zd8 zdT zbt zaF
 rw [zca s q h]
 unfold tokL
 by_cases h1:letB (za9 s q).toNat=true
 ·simp only [h1,if_true,Nat.add_sub_cancel_left];exact ⟨trivial,by omega⟩
 ·by_cases h2:digB (za9 s q).toNat=true
  ·simp only [h1,h2,Bool.false_eq_true,if_true,if_false,Nat.add_sub_cancel_left];exact ⟨trivial,by omega⟩
  ·by_cases h3:sgnB (za9 s q).toNat=true
   ·have h4:=sgn_58 _ h3
    simp only [h1,h2,h3,Bool.false_eq_true,if_neg h4,if_true,if_false,Nat.add_sub_cancel_left];exact ⟨trivial,by omega⟩
   ·by_cases h4:(za9 s q).toNat=58
    ·simp only [h1,h2,h3,Bool.false_eq_true,if_pos h4,if_true,if_false,Nat.add_sub_cancel_left,hd];exact ⟨trivial,by omega⟩
    ·simp only [h1,h2,h3,Bool.false_eq_true,if_neg h4,if_true,if_false,Nat.add_sub_cancel_left];exact ⟨trivial,by omega⟩
theorem tok_app (T r r':List UInt8) (K:Nat) (hT:tokL (T++r)=(0,K,T.length)) (hst:∀ L,endN L (T++r)=T.length→endN L (T++r')=T.length):tokL (T++r')=(0,K,T.length):=by
 have h1:=hst true
 have h2:=hst false
 cases T with
 | nil =>
  exfalso
  cases r with
  | nil=>simp [tokL] at hT
  | cons c r =>
   simp only [List.nil_append,tokL,List.length_nil] at hT
   by_cases a1:letB c.toNat=true
   ·simp only [a1,if_true] at hT
    injection hT with _ e;injection e with _ e
    have:goOn true c=true:=goOn_let true c a1
    simp [endN,this] at e
   ·by_cases a2:digB c.toNat=true
    ·simp only [a1,a2,Bool.false_eq_true,if_false,if_true] at hT
     injection hT with _ e;injection e with _ e
     have:goOn false c=true:=goOn_dig false c a2
     simp [endN,this] at e
    ·simp only [a1,a2,Bool.false_eq_true,if_false] at hT
     (repeat' split at hT)<;>simp at hT
 | cons c T =>
  simp only [List.cons_append] at hT h1 h2 ⊢
  unfold tokL at hT ⊢
  by_cases a1:letB c.toNat=true
  ·simp only [a1,if_true] at hT ⊢
   injection hT with e1 e;injection e with e2 e3
   rw [h1 e3];rw [e3] at e1;rw [e1,e2]
  ·by_cases a2:digB c.toNat=true
   ·simp only [a1,a2,Bool.false_eq_true,if_false,if_true] at hT ⊢
    injection hT with e1 e;injection e with e2 e3
    simp only [e3] at e1
    simp only [h2 e3,e1,←e2]
   ·by_cases a3:sgnB c.toNat=true
    ·simp only [a1,a2,a3,Bool.false_eq_true,if_false,if_true] at hT ⊢;exact hT
    ·by_cases a4:c.toNat=58
     ·simp only [a1,a2,a3,Bool.false_eq_true,if_false,if_pos a4,if_true] at hT ⊢
      cases T with
      | nil=>injection hT with e1 e;injection e with e2 e3;simp at e3
      | cons d T=>exact hT
     ·simp only [a1,a2,a3,Bool.false_eq_true,if_false,if_neg a4] at hT ⊢;exact hT
inductive Lexed (s:ByteArray):Nat→List Tk→Prop
 | fin (k:Nat) (h:¬nxt s k<s.size):Lexed s k [(0,s.size,s.size)]
 | tok (k:Nat) (l:List Tk) (h:nxt s k<s.size) (he:zd8 s (nxt s k)=0) (hl:Lexed s (zbt s (nxt s k)) l):Lexed s k ((zdT s (nxt s k),nxt s k,zbt s (nxt s k))::l)
theorem bs_pre (s:ByteArray) (p:Nat):bs (s.extract 0 p)=(bs s).take p:=by rw [bs_extract];simp
theorem size_pre (s:ByteArray) (p:Nat) (h:p≤s.size):(s.extract 0 p).size=p:=by rw [←zb9,bs_pre,List.length_take,zb9];omega
theorem nxt_pre (s:ByteArray) (p k:Nat) (h:p≤s.size) (hk:k≤p):nxt (s.extract 0 p) k=min p (nxt s k):=by
 unfold nxt
 rw [bs_pre,List.drop_take,skip_take];omega
theorem tok_pre (s:ByteArray) (p q:Nat) (h:p≤s.size) (hq:q<p) (he:zd8 s q=0) (hz:zbt s q≤p):zd8 (s.extract 0 p) q=0∧zdT (s.extract 0 p) q=zdT s q∧zbt (s.extract 0 p) q=zbt s q:=by
 obtain ⟨t1,t2⟩:=zcT s q (by omega) he
 obtain ⟨e1,_⟩:=tok_list s q (by omega)
 obtain ⟨e2,e3⟩:=tok_list (s.extract 0 p) q (by rw [size_pre s p h];exact hq)
 have hl:(((bs s).drop q).take (zbt s q-q)).length=zbt s q-q:=by rw [List.length_take,List.length_drop,zb9];omega
 have e4:=tok_app (((bs s).drop q).take (zbt s q-q)) (((bs s).drop q).drop (zbt s q-q)) ((((bs s).drop q).drop (zbt s q-q)).take (p-zbt s q)) (zdT s q)
  (by rw [List.take_append_drop,e1,he,hl]) (by
   intro L hL
   rw [List.take_append_drop,hl] at hL
   have:((bs s).drop q).take (zbt s q-q)++(((bs s).drop q).drop (zbt s q-q)).take (p-zbt s q)=((bs s).drop q).take (p-q):=by
    have e:p-q=(zbt s q-q)+(p-zbt s q):=by omega
    rw [e,List.take_add]
   rw [this,endN_take,hL,hl];omega)
 have:((bs s).drop q).take (zbt s q-q)++(((bs s).drop q).drop (zbt s q-q)).take (p-zbt s q)=(bs (s.extract 0 p)).drop q:=by
  rw [bs_pre,List.drop_take]
  have e:p-q=(zbt s q-q)+(p-zbt s q):=by omega
  rw [e,List.take_add]
 rw [this,e2,hl] at e4
 injection e4 with a1 a;injection a with a2 a3
 exact ⟨a1,a2,by omega⟩
theorem allF_lexed (s:ByteArray):∀ (f k:Nat) (acc:List Tk),k≤s.size→s.size<k+f →
  (∃ l,allF s f k acc=(acc++l,0,0)∧Lexed s k l)∨(∃ p,k≤p∧p<s.size∧zd8 s p≠0∧allF s f k acc=([],p,zd8 s p)∧∃ l,Lexed (s.extract 0 p) k l)
 | 0,k,acc,h,h1=>by omega
 | f+1,k,acc,h,h1=>by
  obtain ⟨n1,n2⟩:=nxt_bound s k h
  unfold allF
  by_cases hp:nxt s k<s.size
  ·rw [if_pos hp]
   by_cases he:zd8 s (nxt s k)=0
   ·rw [if_pos he]
    obtain ⟨t1,t2⟩:=zcT s _ hp he
    rcases allF_lexed s f (zbt s (nxt s k)) (acc++[(zdT s (nxt s k),nxt s k,zbt s (nxt s k))]) t2 (by omega) with ⟨l,e,hl⟩|⟨p,g1,g2,g3,e,l,hl⟩
    ·exact .inl ⟨_::l,by rw [e,List.append_assoc];rfl,.tok k l hp he hl⟩
    ·refine .inr ⟨p,by omega,g2,g3,e,(zdT (s.extract 0 p) (nxt (s.extract 0 p) k),nxt (s.extract 0 p) k,zbt (s.extract 0 p) (nxt (s.extract 0 p) k))::l,?_⟩
     have hn:nxt (s.extract 0 p) k=nxt s k:=by rw [nxt_pre s p k (by omega) (by omega)];omega
     obtain ⟨u1,u2,u3⟩:=tok_pre s p (nxt s k) (by omega) (by omega) he g1
     refine .tok k l (by rw [hn,size_pre s p (by omega)];omega) (by rw [hn];exact u1) ?_
     rw [hn,u3];exact hl
   ·rw [if_neg he]
    refine .inr ⟨nxt s k,n1,hp,he,rfl,[(0,(s.extract 0 (nxt s k)).size,(s.extract 0 (nxt s k)).size)],.fin k ?_⟩
    rw [nxt_pre s _ k (by omega) n1,size_pre s _ n2];omega
  ·rw [if_neg hp]
   exact .inl ⟨_,rfl,.fin k hp⟩
theorem lexed_all (s:ByteArray) (k:Nat) (l:List Tk) (hl:Lexed s k l):∀ acc,k≤s.size→allAt s k acc=(acc++l,0,0):=by
 induction hl with
 | fin k h=>intro acc hk;rw [zeg s k acc hk,if_neg h]
 | tok k l h he hl ih =>
  intro acc hk
  rw [zeg s k acc hk,if_pos h,if_pos he,ih _ (zcT s _ h he).2]
  simp
theorem allR_cases (s:ByteArray):(∃ l,allR s=(l,0,0)∧Lexed s 0 l)∨allR s=([],0,4) ∨
  (∃ p e,p<s.size∧e≠0∧allR s=([],p,e)∧∃ l,allR (s.extract 0 p)=(l,0,0)):=by
 unfold allR
 by_cases hb:s.size≤20000
 ·simp only [if_pos hb]
  rcases allF_lexed s (s.size+1-0) 0 [] (by omega) (by omega) with ⟨l,e,hl⟩|⟨p,g1,g2,g3,e,l,hl⟩
  ·exact .inl ⟨l,e,hl⟩
  ·refine .inr (.inr ⟨p,_,g2,g3,e,l,?_⟩)
   rw [if_pos (by rw [size_pre s p (by omega)];omega)]
   exact lexed_all _ _ _ hl [] (by omega)
 ·simp only [if_neg hb]
  exact .inr (.inl trivial)
end Go.Proofs.YtefhenfofomjhaaGreat
namespace Go.Proofs.YtefhenfofomjhaaGreat
open Go.RowKit Go.V Go.ChangeMaps
set_option maxRecDepth 20000
theorem byte_iff (c:UInt8) (n:Nat) (h:n<256):c=UInt8.ofNat n↔(c.toNat:Int)=(n:Int):=by
 have:=byte_eq c n h
 rwa [decide_eq_decide] at this
theorem allR_small (s:ByteArray) (l:List Tk) (h:allR s=(l,0,0)):s.size≤20000:=by
 unfold allR at h
 split at h
 ·assumption
 ·injection h with _ e;injection e with _ e;cases e
theorem tokK_pos (s:ByteArray) (k:Nat):zdT s k≠0:=by unfold zdT;(repeat' split)<;>omega
end Go.Proofs.YtefhenfofomjhaaGreat
namespace Go.Proofs.YtefhenfofomjhaaGreat
open Go Go.RowKit Go.V Go.ChangeMaps
set_option maxRecDepth 20000
def tkOf (s:ByteArray) (t:Tk):Tok:=⟨t.1,t.2.1,t.2.2,bs (s.extract t.2.1 t.2.2)⟩
def tokT (s:ByteArray):List Tok:=(allR s).1.map (tkOf s)
theorem toks_tks (s:ByteArray):∀ (l:List Tk),zc9 (l.map (tkOf s))=tksC s l
 | []=>rfl
 | t::l=>by
  have e:tksC s (t::l)=tokC s t++tksC s l:=rfl
  rw [e,←toks_tks s l]
  unfold zc9
  rw [List.map_cons,List.map_cons,List.flatten_cons]
  congr 1
theorem lexed_form (s:ByteArray) (k:Nat) (l:List Tk) (h:Lexed s k l):k≤s.size→∃ m:List Tk,l=m++[(0,s.size,s.size)]∧m.length≤s.size-k∧∀ t∈m,∃ q,q<s.size∧zd8 s q=0∧t=(zdT s q,q,zbt s q):=by
 induction h with
 | fin k h=>intro _;exact ⟨[],rfl,Nat.zero_le _,fun t h=>by cases h⟩
 | tok k l h he hl ih =>
  intro hk
  obtain ⟨t1,t2⟩:=zcT s _ h he
  obtain ⟨n1,n2⟩:=nxt_bound s k hk
  obtain ⟨m,rfl,hm,hall⟩:=ih t2
  refine ⟨_::m,rfl,by simp;omega,fun t ht=>?_⟩
  rcases List.mem_cons.1 ht with rfl|ht
  ·exact ⟨_,h,he,rfl⟩
  ·exact hall t ht
theorem tok_text (s:ByteArray) (q:Nat) (h:q<s.size) (he:zd8 s q=0):∃ r,(bs s).drop q=bs (s.extract q (zbt s q))++r∧(bs (s.extract q (zbt s q))).length=zbt s q-q∧tokL (bs (s.extract q (zbt s q))++r)=(0,zdT s q,(bs (s.extract q (zbt s q))).length)∧0<(bs (s.extract q (zbt s q))).length:=by
 obtain ⟨t1,t2⟩:=zcT s q h he
 obtain ⟨tl,_⟩:=tok_list s q h
 have hT:bs (s.extract q (zbt s q))=((bs s).drop q).take (zbt s q-q):=by rw [bs_extract]
 have hTl:(bs (s.extract q (zbt s q))).length=zbt s q-q:=by rw [hT,List.length_take,List.length_drop,zb9];omega
 refine ⟨((bs s).drop q).drop (zbt s q-q),by rw [hT,List.take_append_drop],hTl,?_,by omega⟩
 rw [hTl,hT,List.take_append_drop,tl,he]
theorem endN_pre (L:Bool) (T r:List UInt8) (h:endN L (T++r)=T.length):T.all (goOn L)=true:=by
 induction T with
 | nil=>rfl
 | cons c T ih =>
  rw [List.cons_append,endN] at h
  split at h
  ·rename_i hc
   rw [List.all_cons,hc,ih (by simpa using h)];rfl
  ·simp at h
theorem tok_name {T r:List UInt8} (h:tokL (T++r)=(0,1,T.length)) (h0:0<T.length):nameB T = !isKw T:=by
 have hp:preB T=true:=by
  cases T with
  | nil=>simp at h0
  | cons c T =>
   rw [List.cons_append] at h
   unfold tokL at h
   by_cases a1:letB c.toNat=true
   ·simp only [a1,if_true] at h
    injection h with e1 e;injection e with e2 e3
    have hall:=endN_pre true (c::T) r e3
    rw [e3] at e1
    have hk:zcW c.toNat=2:=by
     have:=zdM (c.toNat:Int)
     rw [a1] at this;simpa using this
    have hl:(c::T).length≤20:=by
     by_cases h20:20<(c::T).length
     ·rw [if_pos h20] at e1;cases e1
     ·omega
    unfold preB
    rw [hall]
    simp [hk]
    simpa using hl
   ·exfalso
    by_cases a2:digB c.toNat=true
    ·simp only [a1,a2,Bool.false_eq_true,if_false,if_true] at h
     injection h with e1 e;injection e with e2 e3;cases e2
    ·simp only [a1,a2,Bool.false_eq_true,if_false] at h
     (repeat' split at h)<;>(injection h with e1 e;injection e with e2 e3;cases e2)
 unfold nameB
 rw [hp];rfl
theorem slk_none:∀ {l:List UInt8},(∀ x∈l,48≤x.toNat)→slk l=l.length
 | [],_=>rfl
 | c::l,h=>by
  have h1:=h c (List.mem_cons_self ..)
  have h2:¬c=47:=fun e=>by rw [e] at h1;exact absurd h1 (by decide)
  unfold slk
  rw [if_neg h2,slk_none (fun x hx=>h x (List.mem_cons_of_mem _ hx)),List.length_cons]
theorem tok_num {T r:List UInt8} (h:tokL (T++r)=(0,2,T.length)) (h0:0<T.length):qrE T=0:=by
 cases T with
 | nil=>simp at h0
 | cons c T =>
  rw [List.cons_append] at h
  unfold tokL at h
  by_cases a1:letB c.toNat=true
  ·simp only [a1,if_true] at h
   injection h with e1 e;injection e with e2 e3;cases e2
  ·by_cases a2:digB c.toNat=true
   ·simp only [a1,a2,Bool.false_eq_true,if_false,if_true] at h
    injection h with e1 e;injection e with e2 e3
    have hall:=endN_pre false (c::T) r e3
    rw [e3] at e1
    have h48:¬(1<(c::T).length∧c.toNat=48):=by
     intro hc;rw [if_pos hc] at e1;cases e1
    rw [if_neg h48] at e1
    have hl:(c::T).length≤1000:=by
     by_cases h20:1000<(c::T).length
     ·rw [if_pos h20] at e1;cases e1
     ·omega
    have hdig:∀ x∈c::T,48≤x.toNat∧x.toNat≤57:=by
     intro x hx
     have h1:=List.all_eq_true.1 hall x hx
     have h2:=zdB (x.toNat:Int)
     unfold goOn at h1
     simp only [Bool.false_and,Bool.or_false] at h1
     rw [h1] at h2
     have h3:=h2.symm
     unfold digB at h3
     simp at h3
     omega
    have hc0:=hdig c (List.mem_cons_self ..)
    have hs:slk (c::T)=(c::T).length:=slk_none (fun x hx=>(hdig x hx).1)
    have hA:slA (c::T)=c::T:=by unfold slA;rw [hs,List.take_length]
    have hH:slH (c::T)=false:=by unfold slH;rw [hs];simp
    have hn:izn (c::T)=false:=by unfold izn;simp [ch];omega
    have hd:izd (c::T)=c::T:=by unfold izd;rw [hn];rfl
    have hb:rdBad (c::T)=false:=by
     unfold rdBad
     rw [Bool.or_eq_false_iff]
     constructor
     ·rw [Bool.and_eq_false_iff]
      by_cases h1:1<(c::T).length
      ·right
       have:¬c.toNat=48:=fun e=>h48 ⟨h1,e⟩
       simp only [List.getD_cons_zero,decide_eq_false_iff_not]
       intro e;rw [e] at this;exact this rfl
      ·left;simpa using h1
     ·rw [List.any_eq_false]
      intro x hx
      have:=hdig x hx
      unfold isD;simp;omega
    have hr:rdE (c::T)=0:=by unfold rdE;rw [if_neg (by simp),if_neg (by omega),hb];rfl
    have hi:izE (c::T)=0:=by unfold izE;rw [hd,hr,hn];simp
    unfold qrE
    rw [hA,hi,hH];rfl
   ·exfalso
    simp only [a1,a2,Bool.false_eq_true,if_false] at h
    (repeat' split at h)<;>(injection h with e1 e;injection e with e2 e3;cases e2)
theorem wf_tok {s:ByteArray} (h:(allR s).2.2=0):Wf (tokT s):=by
 rcases allR_cases s with ⟨l,e,hl⟩|e|⟨p,er,_,hne,e,_⟩
 ·have hsm:=allR_small s l e
  obtain ⟨m,rfl,hm,hall⟩:=lexed_form s 0 l hl (Nat.zero_le _)
  have hT:tokT s=m.map (tkOf s)++[⟨0,s.size,s.size,[]⟩]:=by
   unfold tokT
   rw [e,List.map_append]
   congr 1
   simp [tkOf,extract_nil]
   rfl
  have hlen:(tokT s).length=m.length+1:=by rw [hT];simp
  have hin:∀ i,i<m.length→∃ q,q<s.size∧zd8 s q=0∧zan (tokT s) i=tkOf s (zdT s q,q,zbt s q):=by
   intro i hi
   obtain ⟨q,q1,q2,q3⟩:=hall _ (List.getElem_mem hi)
   refine ⟨q,q1,q2,?_⟩
   unfold zan
   rw [hT,List.getD_eq_getElem?_getD,List.getElem?_append_left (by simpa using hi)]
   simp [hi,q3]
  have hend:zan (tokT s) m.length=⟨0,s.size,s.size,[]⟩:=by
   unfold zan
   rw [hT,List.getD_eq_getElem?_getD,List.getElem?_append_right (by simp)]
   simp
  have hout:∀ i,m.length<i→zan (tokT s) i=⟨0,0,0,[]⟩:=by
   intro i hi
   unfold zan
   rw [List.getD_eq_getElem?_getD,List.getElem?_eq_none (by omega)]
   rfl
  have hcases:∀ i,(∃ q,q<s.size∧zd8 s q=0∧zan (tokT s) i=tkOf s (zdT s q,q,zbt s q))∨((zan (tokT s) i).k=0∧(zan (tokT s) i).t=[]∧(zan (tokT s) i).p≤s.size):=by
   intro i
   rcases Nat.lt_trichotomy i m.length with hi|hi|hi
   ·exact .inl (hin i hi)
   ·right;rw [hi,hend];exact ⟨rfl,rfl,Nat.le_refl _⟩
   ·right;rw [hout i hi];exact ⟨rfl,rfl,Nat.zero_le _⟩
  refine ⟨by omega,fun i hi=>?_,?_,fun i hk=>?_,fun i hk=>?_,fun i hk=>?_,fun i hk=>?_,fun i=>?_,by omega,fun i=>?_⟩
  ·obtain ⟨q,q1,q2,q3⟩:=hin i (by omega)
   rw [q3];exact tokK_pos s q
  ·rw [hlen,Nat.add_sub_cancel,hend]
  ·rcases hcases i with ⟨q,q1,q2,q3⟩|⟨c1,c2,c3⟩
   ·rw [q3] at hk;exact absurd hk (tokK_pos s q)
   ·exact c2
  ·rcases hcases i with ⟨q,q1,q2,q3⟩|⟨c1,c2,c3⟩
   ·rw [q3]
    obtain ⟨r,_,_,_,r4⟩:=tok_text s q q1 q2
    intro e0
    rw [show (tkOf s (zdT s q,q,zbt s q)).t=bs (s.extract q (zbt s q)) from rfl] at e0
    rw [e0] at r4;cases r4
   ·exact absurd c1 hk
  ·rcases hcases i with ⟨q,q1,q2,q3⟩|⟨c1,c2,c3⟩
   ·rw [q3] at hk ⊢
    obtain ⟨r,_,_,r3,r4⟩:=tok_text s q q1 q2
    have hk':zdT s q=1:=hk
    rw [hk'] at r3
    exact tok_name r3 r4
   ·rw [c1] at hk;cases hk
  ·rcases hcases i with ⟨q,q1,q2,q3⟩|⟨c1,c2,c3⟩
   ·rw [q3] at hk ⊢
    obtain ⟨r,_,_,r3,r4⟩:=tok_text s q q1 q2
    have hk':zdT s q=2:=hk
    rw [hk'] at r3
    exact tok_num r3 r4
   ·rw [c1] at hk;cases hk
  ·rcases hcases i with ⟨q,q1,q2,q3⟩|⟨c1,c2,c3⟩
   ·rw [q3]
    show (bs (s.extract q (zbt s q))).length≤20000
    obtain ⟨r,_,r2,_,_⟩:=tok_text s q q1 q2
    have:=(zcT s q q1 q2).2
    omega
   ·rw [c2];exact Nat.zero_le _
  ·rcases hcases i with ⟨q,q1,q2,q3⟩|⟨c1,c2,c3⟩
   ·rw [q3]
    show q≤20000
    omega
   ·omega
 ·rw [e] at h;cases h
 ·rw [e] at h;exact absurd h hne
end Go.Proofs.YtefhenfofomjhaaGreat
