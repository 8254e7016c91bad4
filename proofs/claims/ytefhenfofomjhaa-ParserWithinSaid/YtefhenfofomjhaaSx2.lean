/- The parser: definitions. -/
import Derived.Test.YtefhenfofomjhaaPt8
import Derived.Test.YtefhenfofomjhaaTk1
set_option linter.unusedSimpArgs false
set_option linter.unusedVariables false
namespace Go.Proofs.Ytefhenfofomjhaa
open Go Go.RowKit Go.V
set_option maxRecDepth 20000
theorem intC_sl {w:World} {b t:Nat} {l:List Int} (h:Bx w b (intC l).toArray t):SL w (some ⟨b,0,none⟩) (intC l):=by
 have:=SL.whole h
 simpa using this
theorem EX.leaf {w:World} {F:Nat→Prop} {name:List UInt8} {pos:Int} (h:name.length≤maxLen):EX w F [.int .i64 1,.string ⟨name.toArray⟩,.bool false,.slice none 0 0,.slice none 0 0,.slice none 0 0,.int .i64 pos] (.mk 1 name false [] [] [] pos) :=
 .mk (rows:=[]) (ad:=none) (kind:=1) (pos:=pos) (name:=name) (neg:=false) (num:=[]) (den:=[]) (args:=[]) (RD.nil _ _ _) (RD.nil _ _ _) ⟨Nat.zero_le _,Nat.zero_le _⟩ (SL.nil _ _) (fun _ h=>by cases h) rfl h (Nat.zero_le _) (fun i R x h=>by simp at h)
set_option maxHeartbeats 4000000 in
theorem arg1_any {b tb cap f:Nat} {la:Option Addr} {T:List Tok} (hW:Wf T) (d:Int) (hd:d=21-(f:Int)) (hf:f≤20)
  (hcon:∀ (f':Nat),f=f'+1→∀ (w:World) (s:PSt) (sa:Option Addr) (sc:Nat) (sorts:List Int),PSS w b tb la cap T s→SL w sa (intC sorts)→sorts.length≤10→Calls Try.prog 18 #[.pointer (some ⟨b,0,none⟩),.int .i64 d,.slice sa sorts.length sc] w (ArgPost w b tb la cap T (conP T (argP T f') sorts s)))
  {w:World} {s:PSt} (sort:Int) (hsr:0≤sort∧sort≤3) (h:PSS w b tb la cap T s) :
  Calls Try.prog 32 #[.pointer (some ⟨b,0,none⟩),.int .i64 d,.int .i64 sort] w (ArgPost w b tb la cap T (argP T f sort s)):=by
 have hT:T.length≤maxLen:=by have:=hW.size;unfold maxLen;omega
 obtain ⟨A,hA⟩:∃ A,A=argP T f sort s:=⟨_,rfl⟩
 rw [←hA]
 unfold argP at hA
 obtain ⟨S,hS⟩:∃ S,S=sortL sort:=⟨_,rfl⟩
 rw [←hS] at hA
 have hSl:S.length≤10:=by rw [hS];unfold sortL;split<;>simp
 refine za8 (args:=[.pointer (some ⟨b,0,none⟩),.int .i64 d,.int .i64 sort]) (rs:=[.cell 6 38]) (n:=56) Try.func32 rfl rfl rfl (by kernel_rfl) ?_
 have hP:=h
 have hG:w.grownBy w (some b):=za6 (Below.refl _ _)
 have hb0:=h.lt'
 have hla0:=h.lab
 first|refine zzr fun K hK=>?_|refine zzt fun K hK=>?_
 simp [go_sem,za0,za2,za1]
 refine zar (by simp [go_sem,za0,za2,za1]) rfl zbP (fun w1 b1 hE1 hle1 hB1=>?_)
 have hwb1:_≤b1:=Nat.le_trans hG.size hle1
 replace hG:=hG.trans (za6 hE1)
 replace hP:=hP.ext hE1
 simp [go_sem,za0,za2,za1,hB1.cell]
 refine hK _ _ ?_;clear hK K
 first|refine zzr fun K hK=>?_|refine zzt fun K hK=>?_
 simp [go_sem,za0,za2,za1,hB1.cell]
 refine zam #[.int .i64 sort] (by simp [go_sem,za0,za2,za1,hB1.cell]) rfl zdb (by decide) [(0,.int .i64 sort)] (by simp [go_sem,za0,za2,za1,hB1.cell]) (by kernel_rfl) (fun w2 b2 hE2 hle2 hB2=>?_)
 have hwb2:_≤b2:=Nat.le_trans hG.size hle2
 have hd1_2:b1≠b2:=Nat.ne_of_lt (Nat.lt_of_lt_of_le hB1.lt hle2)
 replace hB1:=hB1.keep hE2
 replace hG:=hG.trans (za6 hE2)
 replace hP:=hP.ext hE2
 simp [go_sem,za0,za2,za1,hB1.cell,hB2.cell]
 refine hK _ _ ?_;clear hK K
 refine zad (fun K1 hK1=>?_)
 first|refine zzr fun K hK=>?_|refine zzt fun K hK=>?_
 simp [go_sem,za0,za2,za1,hB1.cell,hB2.cell]
 refine hK _ _ ?_;clear hK K
 have tail:∀ (g:G) (w9:World) (bs c:Nat),g 0 = .pointer (some ⟨b,0,none⟩)→g 1 = .int .i64 d→g 6 = .pointer (some ⟨b1,0,none⟩)→g 7 = .slice (some ⟨bs,0,none⟩) S.length c→SL w9 (some ⟨bs,0,none⟩) (intC S)→PSS w9 b tb la cap T s→w.grownBy w9 (some b)→Bx w9 b1 #[.int .i64 0,.string ⟨#[]⟩,.bool false,.slice none 0 0,.slice none 0 0,.slice none 0 0,.int .i64 0] 38→K1 g w9:=by
  clear hP hG hB1 hB2
  intro g w9 bs c g0 g1 g6 g7 hsl hP hG hB1
  refine hK1 _ _ ?_
  refine zad (fun K2 hK2=>?_)
  have tail2:∀ (g:G) (w9:World),¬(nmT T s.er s.i=false∧zcX T S s=0)→g 0 = .pointer (some ⟨b,0,none⟩)→g 1 = .int .i64 d→g 6 = .pointer (some ⟨b1,0,none⟩)→g 7 = .slice (some ⟨bs,0,none⟩) S.length c→SL w9 (some ⟨bs,0,none⟩) (intC S)→PSS w9 b tb la cap T s→w.grownBy w9 (some b)→Bx w9 b1 #[.int .i64 0,.string ⟨#[]⟩,.bool false,.slice none 0 0,.slice none 0 0,.slice none 0 0,.int .i64 0] 38→K2 g w9:=by
   clear hP hG hB1 hsl g0 g1 g6 g7
   intro g w9 hne g0 g1 g6 g7 hsl hP hG hB1
   rw [if_neg hne] at hA
   refine hK2 _ _ ?_
   refine zad (fun K3 hK3=>?_)
   first|refine zzr fun K hK=>?_|refine zzt fun K hK=>?_
   simp [go_sem,za0,za2,za1,g0,g1,g6,g7,hB1.cell]
   refine hK _ _ ?_;clear hK K
   cases f with
   | zero =>
    have c1:(20:Int)<d:=by omega
    have hA1:A=(zaU T 4 s,ex0):=hA
    refine zao (t:=true) (by simp [go_sem,za0,za2,za1,g0,g1,g6,g7,hB1.cell,c1]) rfl ?_
    first|refine zzr fun K hK=>?_|refine zzt fun K hK=>?_
    simp [go_sem,za0,za2,za1,g0,g1,g6,g7,hB1.cell]
    refine za5 (by simp [go_sem,za0,za2,za1,g0,g1,g6,g7,hB1.cell]) rfl Try.call19 (fun R hR=>?_)
    simp [go_sem,za0,za2,za1,g0,g1,g6,g7,hB1.cell]
    refine (zcs hP hW 4).mono ?_
    rintro e w3 ⟨rfl,hQ3,hg3⟩
    refine ⟨_,rfl,hR _ _ ?_⟩
    clear hR R
    replace hB1:=hB1.grown hg3 (by intro e;injection e with e;omega)
    replace hP:=hQ3
    replace hG:=hG.trans hg3
    clear hQ3
    simp [go_sem,za0,za2,za1,g0,g1,g6,g7,hB1.cell]
    refine hK _ _ ?_;clear hK K
    first|refine zzr fun K hK=>?_|refine zzt fun K hK=>?_
    simp [go_sem,za0,za2,za1,g0,g1,g6,g7,hB1.cell]
    refine zap #[.int .i64 0,.string ⟨#[]⟩,.bool false,.slice none 0 0,.slice none 0 0,.slice none 0 0,.int .i64 0] (by simp [go_sem]) rfl zcK [] (by simp [go_sem]) rfl ?_
    simp [go_sem,za0]
    refine za7 (b:=b1) (off:=0) [.int .i64 0,.string ⟨#[]⟩,.bool false,.slice none 0 0,.slice none 0 0,.slice none 0 0,.int .i64 0] (by simp [go_sem,za0,za2,za1,g0,g1,g6,g7,hB1.cell]) rfl (by simp [go_sem,za0,za2,za1,g0,g1,g6,g7,hB1.cell]) (by simp [go_sem,Value.cells,za0,za2,za1,g0,g1,g6,g7,hB1.cell]) zaE hB1 (by simp) (by simp [Value.oneCell']) (by decide) (fun w4 hS4 hB4=>?_)
    simp [zaD] at hB4
    replace hG:=zaj hG hS4 hwb1
    replace hP:=hP.sto hS4 (by omega) (fun ad ha=>by have:=hla0 ad ha;omega)
    simp [go_sem,za0,za2,za1,g0,g1,g6,g7,hB4.cell]
    refine hK _ _ ?_;clear hK K
    refine zal ?_
    repeat (first|refine za4 ?_|refine za3 ?_)
    rw [hA1]
    refine ⟨by simp [go_sem,zb6,zav,za2,za1,za0,hB4.cell,g6],?_⟩
    refine ⟨_,ex0,?_,EX.ex0 _ _ _ rfl,fun _=>rfl,hP,hG⟩
    simp [go_sem,zaw,zav,za2,za1,za0,hB4.cell,g6]
   | succ f =>
    have c1:¬(20:Int)<d:=by omega
    simp only at hA
    refine zao (t:=false) (by simp [go_sem,za0,za2,za1,g0,g1,g6,g7,hB1.cell, c1]) rfl ?_
    refine zae ?_
    refine hK3 _ _ ?_
    refine zad (fun K4 hK4=>?_)
    first|refine zzr fun K hK=>?_|refine zzt fun K hK=>?_
    simp [go_sem,za0,za2,za1,g0,g1,g6,g7,hB1.cell]
    refine za5 (by simp [go_sem,za0,za2,za1,g0,g1,g6,g7,hB1.cell]) rfl Try.call17 (fun R hR=>?_)
    simp [go_sem,za0,za2,za1,g0,g1,g6,g7,hB1.cell]
    refine (namedS_any hP hW).mono ?_
    rintro e w10 ⟨rfl,hE10⟩
    refine ⟨_,rfl,hR _ _ ?_⟩
    clear hR R
    replace hB1:=hB1.keep hE10
    replace hG:=hG.trans (za6 hE10)
    replace hP:=hP.ext hE10
    simp [go_sem,za0,za2,za1,g0,g1,g6,g7,hB1.cell]
    replace hsl:=hsl.ext hE10
    refine hK _ _ ?_;clear hK K
    by_cases hnm:nmT T s.er s.i=true
    ·rw [if_pos hnm] at hA
     obtain ⟨h0,hk1⟩:=nmT_k hnm
     have hn:zbb T s=(⟨s.i+1,s.at',s.er⟩,(zai T s.i).t):=by unfold zbb;rw [if_pos hnm]
     refine zao (t:=true) (by simp [go_sem,za0,za2,za1,g0,g1,g6,g7,hB1.cell,hnm]) rfl ?_
     first|refine zzr fun K hK=>?_|refine zzt fun K hK=>?_
     simp [go_sem,za0,za2,za1,g0,g1,g6,g7,hB1.cell]
     refine za5 (by simp [go_sem,za0,za2,za1,g0,g1,g6,g7,hB1.cell,zbk]) rfl Try.call13 (fun R hR=>?_)
     simp [go_sem,za0,za2,za1,g0,g1,g6,g7,hB1.cell,zbk]
     refine (zba hP hT).mono ?_
     rintro e w11 ⟨rfl,hE11⟩
     refine ⟨_,rfl,hR _ _ ?_⟩
     clear hR R
     replace hB1:=hB1.keep hE11
     replace hG:=hG.trans (za6 hE11)
     replace hP:=hP.ext hE11
     simp [go_sem,za0,za2,za1,g0,g1,g6,g7,hB1.cell,zbk]
     refine hK _ _ ?_;clear hK K
     have hcn:=nameS_any hP hW
     rw [hn] at hcn
     first|refine zzr fun K hK=>?_|refine zzt fun K hK=>?_
     simp [go_sem,za0,za2,za1,g0,g1,g6,g7,hB1.cell]
     refine za5 (by simp [go_sem,za0,za2,za1,g0,g1,g6,g7,hB1.cell]) rfl Try.call37 (fun R hR=>?_)
     simp [go_sem,za0,za2,za1,g0,g1,g6,g7,hB1.cell]
     refine (hcn).mono ?_
     rintro e w20 ⟨rfl,hQ20,hg20⟩
     refine ⟨_,rfl,hR _ _ ?_⟩
     clear hR R
     replace hB1:=hB1.grown hg20 (by intro e;injection e with e;omega)
     replace hP:=hQ20
     replace hG:=hG.trans hg20
     clear hQ20
     simp [go_sem,za0,za2,za1,g0,g1,g6,g7,hB1.cell]
     refine zap #[.int .i64 1,.string ⟨(zai T s.i).t.toArray⟩,.bool false,.slice none 0 0,.slice none 0 0,.slice none 0 0,.int .i64 (zai T s.i).p] (by simp [go_sem]) rfl zcK [(0,.int .i64 1),(4,.int .i64 (zai T s.i).p),(1,.string ⟨(zai T s.i).t.toArray⟩)] (by simp [go_sem]) rfl ?_
     simp [go_sem,za0]
     refine za7 (b:=b1) (off:=0) [.int .i64 1,.string ⟨(zai T s.i).t.toArray⟩,.bool false,.slice none 0 0,.slice none 0 0,.slice none 0 0,.int .i64 (zai T s.i).p] (by simp [go_sem,za0,za2,za1,g0,g1,g6,g7,hB1.cell]) rfl (by simp [go_sem,za0,za2,za1,g0,g1,g6,g7,hB1.cell]) (by simp [go_sem,Value.cells,za0,za2,za1,g0,g1,g6,g7,hB1.cell]) zaE hB1 (by simp) (by simp [Value.oneCell']) (by decide) (fun w21 hS21 hB21=>?_)
     simp [zaD] at hB21
     replace hG:=zaj hG hS21 hwb1
     replace hP:=hP.sto hS21 (by omega) (fun ad ha=>by have:=hla0 ad ha;omega)
     simp [go_sem,za0,za2,za1,g0,g1,g6,g7,hB21.cell]
     refine hK _ _ ?_;clear hK K
     refine zal ?_
     repeat (first|refine za4 ?_|refine za3 ?_)
     rw [hA]
     refine ⟨by simp [go_sem,zb6,zav,za2,za1,za0,hB21.cell,g6],?_⟩
     refine ⟨_,.mk 1 (zai T s.i).t false [] [] [] (zai T s.i).p,?_,EX.leaf (by have:=hW.len s.i;unfold maxLen;omega),fun _=>rfl,hP,hG⟩
     simp [go_sem,zaw,zav,za2,za1,za0,hB21.cell,g6]
    ·rw [if_neg hnm] at hA
     refine zao (t:=false) (by simp [go_sem,za0,za2,za1,g0,g1,g6,g7,hB1.cell, hnm]) rfl ?_
     refine zae ?_
     refine hK4 _ _ ?_
     have hG0:=hG
     have h1lt0:=hB1.lt
     first|refine zzr fun K hK=>?_|refine zzt fun K hK=>?_
     simp [go_sem,za0,za2,za1,g0,g1,g6,g7,hB1.cell]
     refine za5 (by simp [go_sem,za0,za2,za1,g0,g1,g6,g7,hB1.cell]) rfl Try.call18 (fun R hR=>?_)
     simp [go_sem,za0,za2,za1,g0,g1,g6,g7,hB1.cell]
     refine (hcon f rfl _ s _ c S hP hsl hSl).mono ?_
     rintro e w30 ⟨Rx,x,rfl,hxe,hxv,hQ30,hg30⟩
     refine ⟨_,rfl,hR _ _ ?_⟩
     clear hR R
     replace hB1:=hB1.grown hg30 (by intro e;injection e with e;omega)
     replace hP:=hQ30
     replace hG:=hG.trans hg30
     clear hQ30
     obtain ⟨xa,xc,xb,xd,xad,xcap,xrows,hRx,_⟩:=hxe.open
     subst hRx
     replace hxe:=hxe.mono (F':=fun k=>w.heap.size≤k∧k≠b1) (fun k hk=>⟨Nat.le_trans hG0.size hk,fun e=>by subst e;exact absurd hk (Nat.not_le.2 h1lt0)⟩)
     simp [go_sem,za0,za2,za1,g0,g1,g6,g7,hB1.cell]
     refine za7 (b:=b1) (off:=0) [.int .i64 x.kind,.string ⟨x.name.toArray⟩,.bool x.neg,.slice xa x.num.length xc,.slice xb x.den.length xd,.slice xad x.args.length xcap,.int .i64 x.pos] (by simp [go_sem,za0,za2,za1,g0,g1,g6,g7,hB1.cell]) rfl (by simp [go_sem,za0,za2,za1,g0,g1,g6,g7,hB1.cell]) (by simp [go_sem,Value.cells,za0,za2,za1,g0,g1,g6,g7,hB1.cell]) zaE hB1 (by simp) (by simp [Value.oneCell']) (by decide) (fun w31 hS31 hB31=>?_)
     simp [zaD] at hB31
     replace hxe:=hxe.ch (Ch.of_sto hS31 (NL.of_bx hB1 (by intro u hu x e;subst e;simp at hu))) (by intro k hk e;subst e;first|exact hk.2 rfl|omega)
     replace hG:=zaj hG hS31 hwb1
     replace hP:=hP.sto hS31 (by omega) (fun ad ha=>by have:=hla0 ad ha;omega)
     simp [go_sem,za0,za2,za1,g0,g1,g6,g7,hB31.cell]
     refine hK _ _ ?_;clear hK K
     refine zal ?_
     repeat (first|refine za4 ?_|refine za3 ?_)
     rw [←hA] at hP hxv
     refine ⟨by simp [go_sem,zb6,zav,za2,za1,za0,hB31.cell,g6],?_⟩
     refine ⟨_,x,?_,hxe.mono (fun k hk=>hk.1),hxv,hP,hG⟩
     simp [go_sem,zaw,zav,za2,za1,za0,hB31.cell,g6]
  first|refine zzr fun K hK=>?_|refine zzt fun K hK=>?_
  simp [go_sem,za0,za2,za1,hB1.cell,g0,g1,g6,g7]
  refine za5 (by simp [go_sem,za0,za2,za1,hB1.cell,g0,g1,g6,g7]) rfl Try.call17 (fun R hR=>?_)
  simp [go_sem,za0,za2,za1,hB1.cell,g0,g1,g6,g7]
  refine (namedS_any hP hW).mono ?_
  rintro e w50 ⟨rfl,hE50⟩
  refine ⟨_,rfl,hR _ _ ?_⟩
  clear hR R
  replace hB1:=hB1.keep hE50
  replace hG:=hG.trans (za6 hE50)
  replace hP:=hP.ext hE50
  simp [go_sem,za0,za2,za1,hB1.cell,g0,g1,g6,g7]
  replace hsl:=hsl.ext hE50
  by_cases hnm:nmT T s.er s.i=true
  ·simp [go_sem,za0,za2,za1,hB1.cell,g0,g1,g6,g7,hnm]
   refine hK _ _ ?_;clear hK K
   refine zao (t:=false) (by simp [go_sem,za0,za2,za1,hB1.cell,g0,g1,g6,g7,hnm]) rfl ?_
   refine zae ?_
   refine tail2 _ _ (fun e=>by rw [hnm] at e;cases e.1) (by simp [go_sem,g0]) (by simp [go_sem,g1]) (by simp [go_sem,g6]) (by simp [go_sem,g7]) hsl hP hG hB1
  ·have hnf:nmT T s.er s.i=false:=by simpa using hnm
   simp [go_sem,za0,za2,za1,hB1.cell,g0,g1,g6,g7,hnf]
   refine za5 (by simp [go_sem,za0,za2,za1,hB1.cell,g0,g1,g6,g7,hnf]) rfl Try.call30 (fun R hR=>?_)
   simp [go_sem,za0,za2,za1,hB1.cell,g0,g1,g6,g7,hnf]
   refine (kindS_any hP hW (some ⟨bs,0,none⟩) c S hsl hSl).mono ?_
   rintro e w51 ⟨rfl,hE51⟩
   refine ⟨_,rfl,hR _ _ ?_⟩
   clear hR R
   replace hB1:=hB1.keep hE51
   replace hG:=hG.trans (za6 hE51)
   replace hP:=hP.ext hE51
   simp [go_sem,za0,za2,za1,hB1.cell,g0,g1,g6,g7,hnf]
   replace hsl:=hsl.ext hE51
   by_cases hkz:zcX T S s=0
   ·have hA1:A=(zaU T 5 s,ex0):=by rw [hA,if_pos ⟨hnf,hkz⟩]
    simp [go_sem,za0,za2,za1,hB1.cell,g0,g1,g6,g7,hnf,hkz]
    refine hK _ _ ?_;clear hK K
    refine zao (t:=true) (by simp [go_sem,za0,za2,za1,hB1.cell,g0,g1,g6,g7,hnf,hkz]) rfl ?_
    first|refine zzr fun K hK=>?_|refine zzt fun K hK=>?_
    simp [go_sem,za0,za2,za1,hB1.cell,g0,g1,g6,g7]
    refine za5 (by simp [go_sem,za0,za2,za1,hB1.cell,g0,g1,g6,g7]) rfl Try.call19 (fun R hR=>?_)
    simp [go_sem,za0,za2,za1,hB1.cell,g0,g1,g6,g7]
    refine (zcs hP hW 5).mono ?_
    rintro e w52 ⟨rfl,hQ52,hg52⟩
    refine ⟨_,rfl,hR _ _ ?_⟩
    clear hR R
    replace hB1:=hB1.grown hg52 (by intro e;injection e with e;omega)
    replace hP:=hQ52
    replace hG:=hG.trans hg52
    clear hQ52
    simp [go_sem,za0,za2,za1,hB1.cell,g0,g1,g6,g7]
    refine hK _ _ ?_;clear hK K
    first|refine zzr fun K hK=>?_|refine zzt fun K hK=>?_
    simp [go_sem,za0,za2,za1,hB1.cell,g0,g1,g6,g7]
    refine zap #[.int .i64 0,.string ⟨#[]⟩,.bool false,.slice none 0 0,.slice none 0 0,.slice none 0 0,.int .i64 0] (by simp [go_sem]) rfl zcK [] (by simp [go_sem]) rfl ?_
    simp [go_sem,za0]
    refine za7 (b:=b1) (off:=0) [.int .i64 0,.string ⟨#[]⟩,.bool false,.slice none 0 0,.slice none 0 0,.slice none 0 0,.int .i64 0] (by simp [go_sem,za0,za2,za1,hB1.cell,g0,g1,g6,g7]) rfl (by simp [go_sem,za0,za2,za1,hB1.cell,g0,g1,g6,g7]) (by simp [go_sem,Value.cells,za0,za2,za1,hB1.cell,g0,g1,g6,g7]) zaE hB1 (by simp) (by simp [Value.oneCell']) (by decide) (fun w53 hS53 hB53=>?_)
    simp [zaD] at hB53
    replace hG:=zaj hG hS53 hwb1
    replace hP:=hP.sto hS53 (by omega) (fun ad ha=>by have:=hla0 ad ha;omega)
    simp [go_sem,za0,za2,za1,g0,g1,g6,g7,hB53.cell]
    refine hK _ _ ?_;clear hK K
    refine zal ?_
    repeat (first|refine za4 ?_|refine za3 ?_)
    rw [hA1]
    refine ⟨by simp [go_sem,zb6,zav,za2,za1,za0,hB53.cell,g6],?_⟩
    refine ⟨_,ex0,?_,EX.ex0 _ _ _ rfl,fun _=>rfl,hP,hG⟩
    simp [go_sem,zaw,zav,za2,za1,za0,hB53.cell,g6]
   ·simp [go_sem,za0,za2,za1,hB1.cell,g0,g1,g6,g7,hnf,hkz]
    refine hK _ _ ?_;clear hK K
    refine zao (t:=false) (by simp [go_sem,za0,za2,za1,hB1.cell,g0,g1,g6,g7,hnf,hkz]) rfl ?_
    refine zae ?_
    refine tail2 _ _ (fun e=>hkz e.2) (by simp [go_sem,g0]) (by simp [go_sem,g1]) (by simp [go_sem,g6]) (by simp [go_sem,g7]) hsl hP hG hB1
 by_cases hs0:sort=0
 ·have hS2:S=[2,3]:=by rw [hS];unfold sortL;rw [if_pos hs0]
  refine zao (t:=true) (by simp [go_sem,za0,za2,za1,hB1.cell,hB2.cell,hs0]) rfl ?_
  first|refine zzr fun K hK=>?_|refine zzt fun K hK=>?_
  simp [go_sem,za0,za2,za1,hB1.cell,hB2.cell]
  refine zam #[.int .i64 2,.int .i64 3] (by simp [go_sem,za0,za2,za1,hB1.cell,hB2.cell]) rfl zdb (by decide) [(0,.int .i64 2),(1,.int .i64 3)] (by simp [go_sem,za0,za2,za1,hB1.cell,hB2.cell]) (by kernel_rfl) (fun w60 b60 hE60 hle60 hB60=>?_)
  have hwb60:_≤b60:=Nat.le_trans hG.size hle60
  have hd1_60:b1≠b60:=Nat.ne_of_lt (Nat.lt_of_lt_of_le hB1.lt hle60)
  have hd2_60:b2≠b60:=Nat.ne_of_lt (Nat.lt_of_lt_of_le hB2.lt hle60)
  replace hB1:=hB1.keep hE60
  replace hB2:=hB2.keep hE60
  replace hG:=hG.trans (za6 hE60)
  replace hP:=hP.ext hE60
  simp [go_sem,za0,za2,za1,hB1.cell,hB2.cell,hB60.cell]
  refine hK _ _ ?_;clear hK K
  refine tail _ _ b60 2 (by simp [go_sem]) (by simp [go_sem]) (by simp [go_sem]) (by rw [hS2];simp [go_sem]) (by rw [hS2];exact intC_sl hB60) hP hG hB1
 ·have hS2:S=[sort]:=by rw [hS];unfold sortL;rw [if_neg hs0]
  refine zao (t:=false) (by simp [go_sem,za0,za2,za1,hB1.cell,hB2.cell,hs0]) rfl ?_
  refine zae ?_
  refine tail _ _ b2 1 (by simp [go_sem]) (by simp [go_sem]) (by simp [go_sem]) (by rw [hS2];simp [go_sem]) (by rw [hS2];exact intC_sl hB2) hP hG hB1
theorem arg_any {b tb cap:Nat} {la:Option Addr} {T:List Tok} (hW:Wf T):∀ (f:Nat),f≤20→∀ (w:World) (s:PSt) (sort:Int),0≤sort∧sort≤3→PSS w b tb la cap T s →
  Calls Try.prog 32 #[.pointer (some ⟨b,0,none⟩),.int .i64 (21-(f:Int)),.int .i64 sort] w (ArgPost w b tb la cap T (argP T f sort s))
 | 0,hf,w,s,sort,hs,h=>arg1_any hW _ rfl hf (fun f' e=>by omega) sort hs h
 | f+1,hf,w,s,sort,hs,h=>by
  refine arg1_any hW _ rfl hf (fun f' e w s sa sc sorts h hsl hn=>?_) sort hs h
  have e':f=f':=by omega
  subst e'
  refine con_any hW _ (by omega) (fun w s sort hs h=>?_) h sa sc sorts hsl hn
  rw [show (21-((f+1:Nat):Int)+1)=21-(f:Int) by omega]
  exact arg_any hW f (by omega) w s sort hs h
theorem con1_any {b tb cap:Nat} {la:Option Addr} {T:List Tok} (hW:Wf T) {w:World} {s:PSt} (h:PSS w b tb la cap T s) (sa:Option Addr) (sc:Nat) (sorts:List Int) (hs:SL w sa (intC sorts)) (hn:sorts.length≤10) :
  Calls Try.prog 18 #[.pointer (some ⟨b,0,none⟩),.int .i64 1,.slice sa sorts.length sc] w (ArgPost w b tb la cap T (conP T (argP T 19) sorts s)) :=
 con_any hW 1 (by omega) (fun w s sort hs h=>arg_any hW 19 (by omega) w s sort hs h) h sa sc sorts hs hn
structure NmS (w:World) (F:Nat→Prop) (a:Option Addr) (l:List (List UInt8)):Prop where
 sl:SL w a (l.map strV)
 bl:Bl F a l.length
 max:l.length≤maxLen
theorem NmS.nil (w:World) (F:Nat→Prop) (a:Option Addr):NmS w F a []:=⟨SL.nil _ _,fun _ _ h=>absurd rfl h,Nat.zero_le _⟩
theorem NmS.ch {w w':World} {F S:Nat→Prop} {a:Option Addr} {l:List (List UInt8)} (h:NmS w F a l) (hc:Ch w w' S) (hd:∀ k,F k→¬S k):NmS w' F a l:=⟨h.sl.ch (F:=F) (by rw [List.length_map];exact h.bl) hc hd,h.bl,h.max⟩
theorem NmS.ext {w w':World} {F:Nat→Prop} {a:Option Addr} {l:List (List UInt8)} (h:NmS w F a l) (hb:Below w.heap.size w w'):NmS w' F a l:=⟨h.sl.ext hb,h.bl,h.max⟩
theorem NmS.mono {w:World} {F F':Nat→Prop} {a:Option Addr} {l:List (List UInt8)} (h:NmS w F a l) (hF:∀ k,F k→F' k):NmS w F' a l:=⟨h.sl,h.bl.mono hF,h.max⟩
theorem NmS.blt {w:World} {F:Nat→Prop} {a:Option Addr} {l:List (List UInt8)} (h:NmS w F a l):NmS w (fun k=>F k∧k<w.heap.size) a l:=⟨h.sl,fun ad ha hn=>⟨h.bl ad ha hn,by have:=h.sl.blt;rw [List.length_map] at this;exact this ad ha hn⟩,h.max⟩
def SX (w:World) (F:Nat→Prop) (R:List Value) (s:Stm):Prop :=
 ∃ (a:Option Addr) (c:Nat) (E:List Value),R = .int .i64 s.kind :: .slice a s.names.length c::(E++[.int .i64 s.pos])∧NmS w F a s.names∧EX w F E s.expr
theorem SX.ch {w w':World} {F S:Nat→Prop} {R:List Value} {s:Stm} (h:SX w F R s) (hc:Ch w w' S) (hd:∀ k,F k→¬S k):SX w' F R s:=by
 obtain ⟨a,c,E,h1,h2,h3⟩:=h
 exact ⟨a,c,E,h1,h2.ch hc hd,h3.ch hc hd⟩
theorem SX.ext {w w':World} {F:Nat→Prop} {R:List Value} {s:Stm} (h:SX w F R s) (hb:Below w.heap.size w w'):SX w' F R s:=by
 obtain ⟨a,c,E,h1,h2,h3⟩:=h
 exact ⟨a,c,E,h1,h2.ext hb,h3.ext hb⟩
theorem SX.mono {w:World} {F F':Nat→Prop} {R:List Value} {s:Stm} (h:SX w F R s) (hF:∀ k,F k→F' k):SX w F' R s:=by
 obtain ⟨a,c,E,h1,h2,h3⟩:=h
 exact ⟨a,c,E,h1,h2.mono hF,h3.mono hF⟩
theorem SX.blt {w:World} {F:Nat→Prop} {R:List Value} {s:Stm} (h:SX w F R s):SX w (fun k=>F k∧k<w.heap.size) R s:=by
 obtain ⟨a,c,E,h1,h2,h3⟩:=h
 exact ⟨a,c,E,h1,h2.blt,h3.blt⟩
theorem SX.len {w:World} {F:Nat→Prop} {R:List Value} {s:Stm} (h:SX w F R s):R.length=10:=by
 obtain ⟨a,c,E,h1,h2,h3⟩:=h
 have:=h3.len
 rw [h1];simp [this]
theorem SX.one {w:World} {F:Nat→Prop} {R:List Value} {s:Stm} (h:SX w F R s):∀ v∈R,v.oneCell'=true:=by
 obtain ⟨a,c,E,rfl,h2,h3⟩:=h
 intro v hv
 simp only [List.mem_cons,List.mem_append,List.not_mem_nil,or_false] at hv
 rcases hv with rfl|rfl|hv|rfl
 ·rfl
 ·rfl
 ·exact h3.one v hv
 ·rfl
theorem SX.open {w:World} {F:Nat→Prop} {R:List Value} {s:Stm} (h:SX w F R s):∃ a c ya yc yb yd ye yp,R=[.int .i64 s.kind,.slice a s.names.length c,.int .i64 s.expr.kind,.string ⟨s.expr.name.toArray⟩,.bool s.expr.neg,.slice ya s.expr.num.length yc,.slice yb s.expr.den.length yd,.slice ye s.expr.args.length yp,.int .i64 s.expr.pos,.int .i64 s.pos] ∧
  NmS w F a s.names∧EX w F [.int .i64 s.expr.kind,.string ⟨s.expr.name.toArray⟩,.bool s.expr.neg,.slice ya s.expr.num.length yc,.slice yb s.expr.den.length yd,.slice ye s.expr.args.length yp,.int .i64 s.expr.pos] s.expr:=by
 obtain ⟨a,c,E,rfl,h2,h3⟩:=h
 obtain ⟨ya,yc,yb,yd,ye,yp,yrows,hE,_⟩:=id h3.open
 subst hE
 exact ⟨a,c,ya,yc,yb,yd,ye,yp,rfl,h2,h3⟩
theorem SX.mk' {w:World} {F:Nat→Prop} {k p:Int} {a:Option Addr} {c:Nat} {l:List (List UInt8)} {x:Tre} {E:List Value} (h2:NmS w F a l) (h3:EX w F E x):SX w F (.int .i64 k :: .slice a l.length c::(E++[.int .i64 p])) ⟨k,l,x,p⟩:=⟨a,c,E,rfl,h2,h3⟩
def StmPost (w:World) (b:Nat) (tb:TypeId) (la:Option Addr) (cap:Nat) (T:List Tok) (p:PSt × Stm) (e:Ending) (w':World):Prop :=
 ∃ (R:List Value) (x:Stm),e = .returned (.agg R.toArray)∧SX w' (fun k=>w.heap.size≤k) R x∧(p.1.er=0→x=p.2)∧PSS w' b tb la cap T p.1∧w.grownBy w' (some b)
theorem nameP_i (T:List Tok) (s:PSt):s.i≤(zbb T s).1.i:=by
 unfold zbb zaU
 split
 ·simp
 ·split<;>simp
theorem namesP_fuel (T:List Tok) (n:Nat) (s:PSt) (acc:List (List UInt8)) (h:isT T s.er s.i sCM=false):namesP T n s acc=(s,acc):=by
 cases n with
 | zero=>rfl
 | succ n=>unfold namesP;rw [h,if_neg (by decide)]
set_option maxHeartbeats 4000000 in
theorem points_any {b tb cap:Nat} {la:Option Addr} {T:List Tok} (hW:Wf T) {w:World} {s:PSt} (h:PSS w b tb la cap T s) (pos:Int) :
  Calls Try.prog 25 #[.pointer (some ⟨b,0,none⟩),.agg #[.int .i64 0,.slice none 0 0,.int .i64 0,.string ⟨#[]⟩,.bool false,.slice none 0 0,.slice none 0 0,.slice none 0 0,.int .i64 0,.int .i64 pos]] w (StmPost w b tb la cap T ((zdB T s).1,⟨1,(zdB T s).2,ex0,pos⟩)):=by
 have hT:T.length≤20001:=hW.size
 obtain ⟨Z,hZ⟩:∃ Z,Z=zdB T s:=⟨_,rfl⟩
 rw [←hZ]
 unfold zdB at hZ
 refine za8 (args:=[.pointer (some ⟨b,0,none⟩),.agg #[.int .i64 0,.slice none 0 0,.int .i64 0,.string ⟨#[]⟩,.bool false,.slice none 0 0,.slice none 0 0,.slice none 0 0,.int .i64 0,.int .i64 pos]]) (rs:=[.cell 4 40]) (n:=32) Try.func25 rfl rfl rfl (by kernel_rfl) ?_
 have hP:=h
 have hG:w.grownBy w (some b):=za6 (Below.refl _ _)
 have hb0:=h.lt'
 have hla0:=h.lab
 first|refine zzr fun K hK=>?_|refine zzt fun K hK=>?_
 simp [go_sem,za0,za2,za1]
 refine zbF #[.int .i64 0,.slice none 0 0,.int .i64 0,.string ⟨#[]⟩,.bool false,.slice none 0 0,.slice none 0 0,.slice none 0 0,.int .i64 0,.int .i64 pos] (by simp [go_sem,za0,za2,za1]) rfl (by simp [go_sem,Value.cells,za0,za2,za1]) (fun w1 b1 hE1 hle1 hB1=>?_)
 have hwb1:_≤b1:=Nat.le_trans hG.size hle1
 replace hG:=hG.trans (za6 hE1)
 replace hP:=hP.ext hE1
 simp [go_sem,za0,za2,za1,hB1.cell]
 refine zar (by simp [go_sem,za0,za2,za1,hB1.cell]) rfl zcC (fun w2 b2 hE2 hle2 hB2=>?_)
 have hwb2:_≤b2:=Nat.le_trans hG.size hle2
 have hd1_2:b1≠b2:=Nat.ne_of_lt (Nat.lt_of_lt_of_le hB1.lt hle2)
 replace hB1:=hB1.keep hE2
 replace hG:=hG.trans (za6 hE2)
 replace hP:=hP.ext hE2
 simp [go_sem,za0,za2,za1,hB1.cell,hB2.cell]
 refine hK _ _ ?_;clear hK K
 first|refine zzr fun K hK=>?_|refine zzt fun K hK=>?_
 simp [go_sem,za0,za2,za1,hB1.cell,hB2.cell]
 refine za7 (b:=b1) (off:=0) [.int .i64 1] (by simp [go_sem,za0,za2,za1,hB1.cell,hB2.cell]) rfl (by simp [go_sem,za0,za2,za1,hB1.cell,hB2.cell]) (by simp [go_sem,Value.cells,za0,za2,za1,hB1.cell,hB2.cell]) zaI hB1 (by simp) (by simp [Value.oneCell']) (by decide) (fun w3 hS3 hB3=>?_)
 simp [zaD] at hB3
 replace hG:=zaj hG hS3 hwb1
 replace hP:=hP.sto hS3 (by omega) (fun ad ha=>by have:=hla0 ad ha;omega)
 replace hB2:=hB2.sto hS3 (by first|exact hd2_1|exact (hd1_2).symm)
 simp [go_sem,za0,za2,za1,hB2.cell,hB3.cell]
 refine hK _ _ ?_;clear hK K
 obtain ⟨N4,hN4⟩:∃ N,N=w3.heap.size:=⟨_,rfl⟩
 have hNs:N4≤w3.heap.size:=by omega
 have hbN4:=hP.lt'
 have h1N4:=hB3.lt
 have h2N4:=hB2.lt
 rw [←hN4] at hbN4 h1N4 h2N4
 have hlaN:∀ ad,la=some ad→ad.block<N4:=fun ad ha=>by have:=hla0 ad ha;have:=hG.size;omega
 have hwN4:w.heap.size≤N4:=by rw [hN4];exact hG.size
 refine zad (fun K1 hK1=>?_)
 obtain ⟨s1,hs1⟩:∃ s1,s1=s:=⟨_,rfl⟩
 rw [←hs1] at hP hZ
 obtain ⟨va,vc,acc,hB1,hown,hnb,hacc0⟩:∃ (va:Option Addr) (vc:Nat) (acc:List (List UInt8)),Bx w3 b1 #[.int .i64 1,.slice va acc.length vc,.int .i64 0,.string ⟨#[]⟩,.bool false,.slice none 0 0,.slice none 0 0,.slice none 0 0,.int .i64 0,.int .i64 pos] 40∧w3.ownsRow N4 9 1 (.slice va acc.length vc) acc.length (acc.map strV)∧NB w3 (.slice va acc.length vc)∧acc=[]:=⟨none,0,[],hB3,World.ownsRow_nil _ _ _ _,NB.nil _,rfl⟩
 have hal:acc.length≤s1.i:=by rw [hacc0];exact Nat.zero_le _
 have hB2:=hB2
 have hil:=hP.lt
 have hD4:=Below.drew1 w3
 replace hB1:=hB1.keep hD4
 replace hB2:=hB2.keep hD4
 replace hG:=hG.trans (za6 hD4)
 replace hP:=hP.ext hD4
 replace hnb:=hnb.keep hD4
 replace hown:=zax hown hD4
 first|refine W_rdS ([⟨b1,1,none⟩]) [(0,0),(1,0),(2,0),(3,0),(4,0),(5,0),(6,1),(7,1),(8,2),(9,0),(10,2)] (by kernel_rfl) (by kernel_rfl) (fun K hK=>?_)|refine W_drawS ([⟨b1,1,none⟩]) [(0,0),(1,0),(2,0),(3,0),(4,0),(5,0),(6,1),(7,1),(8,2),(9,0),(10,2)] (by kernel_rfl) (by kernel_rfl) (fun K hK=>?_)
 simp [go_sem,za0,za2,za1,hB1.cell,hB2.cell]
 have hkp:Keep ([⟨b1,1,none⟩]) w3.drew w3.drew:=zd1 _ _
 have hds:=(Below.drew1 w3).size
 have hownD:=hown
 refine za5 (by simp [go_sem,za0,za2,za1,hB1.cell,hB2.cell]) rfl Try.call37 (fun R hR=>?_)
 simp [go_sem,za0,za2,za1,hB1.cell,hB2.cell]
 refine (nameS_any hP hW).mono ?_
 rintro e w30 ⟨rfl,hQ30,hg30⟩
 refine ⟨_,rfl,hR _ _ ?_⟩
 clear hR R
 replace hkp:=hkp.trans (Keep.grown (by intro a ha;simp only [List.mem_cons,List.not_mem_nil,or_false] at ha;rcases ha with rfl<;>exact ⟨by first|exact hB1.lt,(by intro e;injection e with e;simp at e;omega)⟩) hg30)
 replace hnb:=zd7 hnb hown hg30 (by omega)
 replace hown:=zbX hown hg30 (by omega)
 replace hB1:=hB1.grown hg30 (by intro e;injection e with e;omega)
 replace hB2:=hB2.grown hg30 (by intro e;injection e with e;omega)
 replace hP:=hQ30
 replace hG:=hG.trans hg30
 clear hQ30
 refine zb3 hkp ?_
 simp [go_sem,za0,za2,za1,hB1.cell,hB2.cell]
 refine zam #[.string ⟨(zbb T s1).2.toArray⟩] (by simp [go_sem,za0,za2,za1,hB1.cell,hB2.cell]) rfl zcJ (by decide) [(0,.string ⟨(zbb T s1).2.toArray⟩)] (by simp [go_sem,za0,za2,za1,hB1.cell,hB2.cell]) (by kernel_rfl) (fun w40 b40 hE40 hle40 hB40=>?_)
 replace hkp:=hkp.trans (Keep.below (by intro a ha;simp only [List.mem_cons,List.not_mem_nil,or_false] at ha;rcases ha with rfl<;>first|exact hB1.lt) hE40)
 have hwb40:_≤b40:=Nat.le_trans hG.size hle40
 have hd1_40:b1≠b40:=Nat.ne_of_lt (Nat.lt_of_lt_of_le hB1.lt hle40)
 have hd2_40:b2≠b40:=Nat.ne_of_lt (Nat.lt_of_lt_of_le hB2.lt hle40)
 replace hB1:=hB1.keep hE40
 replace hB2:=hB2.keep hE40
 replace hG:=hG.trans (za6 hE40)
 replace hP:=hP.ext hE40
 replace hnb:=hnb.keep hE40
 replace hown:=zax hown hE40
 refine zb3 hkp ?_
 simp [go_sem,za0,za2,za1,hB1.cell,hB2.cell,hB40.cell]
 have hN40:N4≤w40.heap.size:=Nat.le_trans hNs (Nat.le_trans hds (Nat.le_trans hg30.size hE40.size))
 refine zc8 (v:=.slice va acc.length vc) (b:=b40) (len:=1) (c:=1) hB40 (by simp [go_sem]) rfl zcJ ty_bytes9 rfl (by decide) (by simp [go_sem,za0,hB1.cell]) (by simp [go_sem]) hown rfl (by simp [Value.oneCell']) (by unfold maxLen;omega) (by omega) hN40 (by decide) (by intro u hu x e;subst e;simp at hu) (by intro u hu x e;subst e;simp at hu) hnb (fun v' w50 hown' hg50 hat50 hnb'=>?_)
 obtain ⟨va',vc',rfl⟩:=zbz hown'
 have hob:∀ k,(Value.ownBlock (.slice va acc.length vc))=some k→N4≤k:=fun k e=>(hown.lt k e).1
 replace hP:=hP.grown hg50 (fun e=>by have:=hob b e.symm;omega) (fun ad ha e=>by have:=hob ad.block e.symm;have:=hla0 ad ha;omega)
 replace hG:=grown_own hG hg50 (fun k e=>by have:=hob k e;omega)
 replace hB2:=hB2.grown hg50 (fun e=>by have:=hob b2 e.symm;omega)
 have hkp2:=hkp.trans (Keep.grown (by intro a ha;simp only [List.mem_cons,List.not_mem_nil,or_false] at ha;subst ha;exact ⟨hB1.lt,fun e=>by have:=hob b1 e.symm;omega⟩) hg50)
 replace hB1:=hB1.grown hg50 (fun e=>by have:=hob b1 e.symm;omega)
 refine zcu ?_
 simp [go_sem,za0,za2,za1,hB1.cell,hB2.cell,hkp2]
 refine za7 (b:=b1) (off:=1) [.slice va' (acc.length+1) vc'] (by simp [go_sem,za0,za2,za1,hB1.cell,hB2.cell]) rfl (by simp [go_sem,za0,za2,za1,hB1.cell,hB2.cell]) (by simp [go_sem,Value.cells,za0,za2,za1,hB1.cell,hB2.cell]) ty_size29 hB1 (by simp) (by simp [Value.oneCell']) (by decide) (fun w60 hS60 hB60=>?_)
 simp [zaD] at hB60
 replace hnb':=zdI hnb' hown' hS60 (by omega)
 replace hown':=zbr hown' hS60 (by omega)
 replace hG:=zaj hG hS60 hwb1
 replace hP:=hP.sto hS60 (by omega) (fun ad ha=>by have:=hla0 ad ha;omega)
 replace hB2:=hB2.sto hS60 (by first|exact hd2_1|exact (hd1_2).symm)
 refine zcu ?_
 simp [go_sem,za0,za2,za1,hB2.cell,hB60.cell]
 refine hK _ _ ?_;clear hK K
 have hN60:N4≤w60.heap.size:=by rw [hS60.size];exact Nat.le_trans hN40 hg50.size
 have hacc:acc.length+1=(acc++[(zbb T s1).2]).length:=by simp
 have hni:=nameP_i T s1
 have hZ0:namesP T T.length (zbb T s1).1 (acc++[(zbb T s1).2])=Z:=by rw [hacc0,hZ];rfl
 have hal0:(acc++[(zbb T s1).2]).length≤(zbb T s1).1.i+1:=by rw [←hacc];omega
 refine hK1 _ _ ?_
 refine zad (fun K2 hK2=>?_)
 refine zag ?_
 refine zaJ (fun m g w'=>∃ (s':PSt) (acc:List (List UInt8)) (va:Option Addr) (vc:Nat),T.length≤m+s'.i∧namesP T m s' acc=Z∧acc.length≤s'.i+1∧g 0 = .pointer (some ⟨b,0,none⟩)∧g 3 = .pointer (some ⟨b1,0,none⟩)∧g 4 = .pointer (some ⟨b2,0,none⟩)∧PSS w' b tb la cap T s'∧w.grownBy w' (some b)∧N4≤w'.heap.size∧Bx w' b1 #[.int .i64 1,.slice va acc.length vc,.int .i64 0,.string ⟨#[]⟩,.bool false,.slice none 0 0,.slice none 0 0,.slice none 0 0,.int .i64 0,.int .i64 pos] 40∧Bx w' b2 #[.int .i64 0,.slice none 0 0,.int .i64 0,.string ⟨#[]⟩,.bool false,.slice none 0 0,.slice none 0 0,.slice none 0 0,.int .i64 0,.int .i64 0] 40∧w'.ownsRow N4 9 1 (.slice va acc.length vc) acc.length (acc.map strV)∧NB w' (.slice va acc.length vc)) T.length ?_ ?_
 ·refine ⟨_,acc++[(zbb T s1).2],va',vc',by omega,hZ0,hal0,by simp [go_sem],by simp [go_sem],by simp [go_sem],hP,hG,hN60,?_,hB2,?_,?_⟩
  ·rw [←hacc];exact hB60
  ·rw [←hacc,List.map_append];exact hown'
  ·rw [←hacc];exact hnb'
 clear hal hil hni hZ hacc hZ0 hal0 hacc0 hs1 hN60 hown' hnb' hP hG hB60 hB2 hds hownD hN40 hNs
 rintro m g w' ⟨s',acc,va,vc,hm,hZ,hal,g0,g3,g4,hP,hG,hNs,hB1,hB2,hown,hnb⟩
 refine zad (fun K3 hK3=>?_)
 have hil:=hP.lt
 by_cases hc:isT T s'.er s'.i sCM=true
 ·cases m with
  | zero=>omega
  | succ m =>
   unfold namesP at hZ
   rw [if_pos hc] at hZ
   obtain ⟨s1,hs1⟩:∃ s1,s1=zaO T sCM s':=⟨_,rfl⟩
   have hs1i:s1.i=s'.i+1:=by rw [hs1];unfold zaO;rw [if_pos hc]
   first|refine zzr fun K hK=>?_|refine zzt fun K hK=>?_
   simp [go_sem,za0,za2,za1,hB1.cell,hB2.cell,g0,g3,g4]
   refine za5 (by simp [go_sem,za0,za2,za1,hB1.cell,hB2.cell,g0,g3,g4]) rfl Try.call24 (fun R hR=>?_)
   simp [go_sem,za0,za2,za1,hB1.cell,hB2.cell,g0,g3,g4]
   refine (zbj hP hW sCM).mono ?_
   rintro e w70 ⟨rfl,hQ70,hg70⟩
   refine ⟨_,rfl,hR _ _ ?_⟩
   clear hR R
   replace hnb:=zd7 hnb hown hg70 (by omega)
   replace hown:=zbX hown hg70 (by omega)
   replace hB1:=hB1.grown hg70 (by intro e;injection e with e;omega)
   replace hB2:=hB2.grown hg70 (by intro e;injection e with e;omega)
   replace hP:=hQ70
   replace hG:=hG.trans hg70
   clear hQ70
   simp [go_sem,za0,za2,za1,hB1.cell,hB2.cell,g0,g3,g4]
   rw [←hs1] at hP hZ
   have hil1:=hP.lt
   have hal1:acc.length≤s1.i:=by omega
   replace hNs:=Nat.le_trans hNs hg70.size
   refine hK _ _ ?_;clear hK K
   refine zao (t:=true) (by simp [go_sem,za0,za2,za1,hB1.cell,hB2.cell,g0,g3,g4,hc]) rfl ?_
   refine zae ?_
   refine hK3 _ _ ?_
   refine zag ?_
   have hD71:=Below.drew1 w70
   replace hB1:=hB1.keep hD71
   replace hB2:=hB2.keep hD71
   replace hG:=hG.trans (za6 hD71)
   replace hP:=hP.ext hD71
   replace hnb:=hnb.keep hD71
   replace hown:=zax hown hD71
   first|refine W_rdS ([⟨b1,1,none⟩]) [(0,0),(1,0),(2,0),(3,0),(4,0),(5,0),(6,1),(7,1),(8,2),(9,0),(10,2)] (by kernel_rfl) (by kernel_rfl) (fun K hK=>?_)|refine W_drawS ([⟨b1,1,none⟩]) [(0,0),(1,0),(2,0),(3,0),(4,0),(5,0),(6,1),(7,1),(8,2),(9,0),(10,2)] (by kernel_rfl) (by kernel_rfl) (fun K hK=>?_)
   simp [go_sem,za0,za2,za1,hB1.cell,hB2.cell,g0,g3,g4]
   have hkp:Keep ([⟨b1,1,none⟩]) w70.drew w70.drew:=zd1 _ _
   have hds:=(Below.drew1 w70).size
   have hownD:=hown
   refine za5 (by simp [go_sem,za0,za2,za1,hB1.cell,hB2.cell,g0,g3,g4]) rfl Try.call37 (fun R hR=>?_)
   simp [go_sem,za0,za2,za1,hB1.cell,hB2.cell,g0,g3,g4]
   refine (nameS_any hP hW).mono ?_
   rintro e w30 ⟨rfl,hQ30,hg30⟩
   refine ⟨_,rfl,hR _ _ ?_⟩
   clear hR R
   replace hkp:=hkp.trans (Keep.grown (by intro a ha;simp only [List.mem_cons,List.not_mem_nil,or_false] at ha;rcases ha with rfl<;>exact ⟨by first|exact hB1.lt,(by intro e;injection e with e;simp at e;omega)⟩) hg30)
   replace hnb:=zd7 hnb hown hg30 (by omega)
   replace hown:=zbX hown hg30 (by omega)
   replace hB1:=hB1.grown hg30 (by intro e;injection e with e;omega)
   replace hB2:=hB2.grown hg30 (by intro e;injection e with e;omega)
   replace hP:=hQ30
   replace hG:=hG.trans hg30
   clear hQ30
   refine zb3 hkp ?_
   simp [go_sem,za0,za2,za1,hB1.cell,hB2.cell,g0,g3,g4]
   refine zam #[.string ⟨(zbb T s1).2.toArray⟩] (by simp [go_sem,za0,za2,za1,hB1.cell,hB2.cell,g0,g3,g4]) rfl zcJ (by decide) [(0,.string ⟨(zbb T s1).2.toArray⟩)] (by simp [go_sem,za0,za2,za1,hB1.cell,hB2.cell,g0,g3,g4]) (by kernel_rfl) (fun w40 b40 hE40 hle40 hB40=>?_)
   replace hkp:=hkp.trans (Keep.below (by intro a ha;simp only [List.mem_cons,List.not_mem_nil,or_false] at ha;rcases ha with rfl<;>first|exact hB1.lt) hE40)
   have hwb40:_≤b40:=Nat.le_trans hG.size hle40
   have hd1_40:b1≠b40:=Nat.ne_of_lt (Nat.lt_of_lt_of_le hB1.lt hle40)
   have hd2_40:b2≠b40:=Nat.ne_of_lt (Nat.lt_of_lt_of_le hB2.lt hle40)
   replace hB1:=hB1.keep hE40
   replace hB2:=hB2.keep hE40
   replace hG:=hG.trans (za6 hE40)
   replace hP:=hP.ext hE40
   replace hnb:=hnb.keep hE40
   replace hown:=zax hown hE40
   refine zb3 hkp ?_
   simp [go_sem,za0,za2,za1,hB1.cell,hB2.cell,g0,g3,g4,hB40.cell]
   have hN40:N4≤w40.heap.size:=Nat.le_trans hNs (Nat.le_trans hds (Nat.le_trans hg30.size hE40.size))
   refine zc8 (v:=.slice va acc.length vc) (b:=b40) (len:=1) (c:=1) hB40 (by simp [go_sem]) rfl zcJ ty_bytes9 rfl (by decide) (by simp [go_sem,za0,hB1.cell]) (by simp [go_sem]) hown rfl (by simp [Value.oneCell']) (by unfold maxLen;omega) (by omega) hN40 (by decide) (by intro u hu x e;subst e;simp at hu) (by intro u hu x e;subst e;simp at hu) hnb (fun v' w50 hown' hg50 hat50 hnb'=>?_)
   obtain ⟨va',vc',rfl⟩:=zbz hown'
   have hob:∀ k,(Value.ownBlock (.slice va acc.length vc))=some k→N4≤k:=fun k e=>(hown.lt k e).1
   replace hP:=hP.grown hg50 (fun e=>by have:=hob b e.symm;omega) (fun ad ha e=>by have:=hob ad.block e.symm;have:=hla0 ad ha;omega)
   replace hG:=grown_own hG hg50 (fun k e=>by have:=hob k e;omega)
   replace hB2:=hB2.grown hg50 (fun e=>by have:=hob b2 e.symm;omega)
   have hkp2:=hkp.trans (Keep.grown (by intro a ha;simp only [List.mem_cons,List.not_mem_nil,or_false] at ha;subst ha;exact ⟨hB1.lt,fun e=>by have:=hob b1 e.symm;omega⟩) hg50)
   replace hB1:=hB1.grown hg50 (fun e=>by have:=hob b1 e.symm;omega)
   refine zcu ?_
   simp [go_sem,za0,za2,za1,g0,g3,g4,hB1.cell,hB2.cell,hkp2]
   refine za7 (b:=b1) (off:=1) [.slice va' (acc.length+1) vc'] (by simp [go_sem,za0,za2,za1,g0,g3,g4,hB1.cell,hB2.cell]) rfl (by simp [go_sem,za0,za2,za1,g0,g3,g4,hB1.cell,hB2.cell]) (by simp [go_sem,Value.cells,za0,za2,za1,g0,g3,g4,hB1.cell,hB2.cell]) ty_size29 hB1 (by simp) (by simp [Value.oneCell']) (by decide) (fun w60 hS60 hB60=>?_)
   simp [zaD] at hB60
   replace hnb':=zdI hnb' hown' hS60 (by omega)
   replace hown':=zbr hown' hS60 (by omega)
   replace hG:=zaj hG hS60 hwb1
   replace hP:=hP.sto hS60 (by omega) (fun ad ha=>by have:=hla0 ad ha;omega)
   replace hB2:=hB2.sto hS60 (by first|exact hd2_1|exact (hd1_2).symm)
   refine zcu ?_
   simp [go_sem,za0,za2,za1,g0,g3,g4,hB2.cell,hB60.cell]
   refine hK _ _ ?_;clear hK K
   have hN60:N4≤w60.heap.size:=by rw [hS60.size];exact Nat.le_trans hN40 hg50.size
   have hacc:acc.length+1=(acc++[(zbb T s1).2]).length:=by simp
   have hni:=nameP_i T s1
   refine ⟨m,by omega,_,acc++[(zbb T s1).2],va',vc',by omega,hZ,by rw [←hacc];omega,by simp [go_sem,g0],by simp [go_sem,g3],by simp [go_sem,g4],hP,hG,hN60,?_,hB2,?_,?_⟩
   ·rw [←hacc];exact hB60
   ·rw [←hacc,List.map_append];exact hown'
   ·rw [←hacc];exact hnb'
 ·have hcf:isT T s'.er s'.i sCM=false:=by simpa using hc
  rw [namesP_fuel T m s' acc hcf] at hZ
  have htk:zaO T sCM s'=s':=by unfold zaO;rw [if_neg hc]
  first|refine zzr fun K hK=>?_|refine zzt fun K hK=>?_
  simp [go_sem,za0,za2,za1,hB1.cell,hB2.cell,g0,g3,g4]
  refine za5 (by simp [go_sem,za0,za2,za1,hB1.cell,hB2.cell,g0,g3,g4]) rfl Try.call24 (fun R hR=>?_)
  simp [go_sem,za0,za2,za1,hB1.cell,hB2.cell,g0,g3,g4]
  refine (zbj hP hW sCM).mono ?_
  rintro e w70 ⟨rfl,hQ70,hg70⟩
  refine ⟨_,rfl,hR _ _ ?_⟩
  clear hR R
  replace hnb:=zd7 hnb hown hg70 (by omega)
  replace hown:=zbX hown hg70 (by omega)
  replace hB1:=hB1.grown hg70 (by intro e;injection e with e;omega)
  replace hB2:=hB2.grown hg70 (by intro e;injection e with e;omega)
  replace hP:=hQ70
  replace hG:=hG.trans hg70
  clear hQ70
  simp [go_sem,za0,za2,za1,hB1.cell,hB2.cell,g0,g3,g4]
  rw [htk] at hP
  refine hK _ _ ?_;clear hK K
  refine zao (t:=false) (by simp [go_sem,za0,za2,za1,hB1.cell,hB2.cell,g0,g3,g4,hcf]) rfl ?_
  refine zaB ?_
  repeat (first|refine zak ?_|refine za9 rfl ?_|refine zac ?_)
  refine hK2 _ _ ?_
  first|refine zzr fun K hK=>?_|refine zzt fun K hK=>?_
  simp [go_sem,za0,za2,za1,hB1.cell,hB2.cell,g0,g3,g4]
  refine za7 (b:=b2) (off:=0) [.int .i64 1,.slice va acc.length vc,.int .i64 0,.string ⟨#[]⟩,.bool false,.slice none 0 0,.slice none 0 0,.slice none 0 0,.int .i64 0,.int .i64 pos] (by simp [go_sem,za0,za2,za1,hB1.cell,hB2.cell,g0,g3,g4]) rfl (by simp [go_sem,za0,za2,za1,hB1.cell,hB2.cell,g0,g3,g4]) (by simp [go_sem,Value.cells,za0,za2,za1,hB1.cell,hB2.cell,g0,g3,g4]) zbG hB2 (by simp) (by simp [Value.oneCell']) (by decide) (fun w71 hS71 hB71=>?_)
  simp [zaD] at hB71
  replace hnb:=zdI hnb hown hS71 (by omega)
  replace hown:=zbr hown hS71 (by omega)
  replace hG:=zaj hG hS71 hwb2
  replace hP:=hP.sto hS71 (by omega) (fun ad ha=>by have:=hla0 ad ha;omega)
  replace hB1:=hB1.sto hS71 (by first|exact hd1_2|exact (hd2_1).symm)
  simp [go_sem,za0,za2,za1,hB1.cell,g0,g3,g4,hB71.cell]
  refine hK _ _ ?_;clear hK K
  refine zal ?_
  repeat (first|refine za4 ?_|refine za3 ?_)
  refine ⟨by simp [go_sem,zb6,zav,za2,za1,za0,hB71.cell,g4],?_⟩
  have hnm:NmS _ (fun k=>w.heap.size≤k) va acc:=⟨zca hown,fun ad ha hn=>Nat.le_trans hwN4 (hown.lt ad.block (by rw [ha];rfl)).1,by unfold maxLen;omega⟩
  refine ⟨_,⟨1,acc,ex0,pos⟩,?_,SX.mk' (c:=vc) hnm (EX.ex0 _ _ _ rfl),fun _=>by rw [←hZ],by rw [←hZ];exact hP,hG⟩
  simp [go_sem,zaw,zav,za2,za1,za0,hB71.cell,g4]
set_option maxHeartbeats 4000000 in
theorem define_any {b tb cap:Nat} {la:Option Addr} {T:List Tok} (hW:Wf T) {w:World} {s:PSt} (h:PSS w b tb la cap T s) (pos kind sort:Int) :
  Calls Try.prog 26 #[.pointer (some ⟨b,0,none⟩),.agg #[.int .i64 0,.slice none 0 0,.int .i64 0,.string ⟨#[]⟩,.bool false,.slice none 0 0,.slice none 0 0,.slice none 0 0,.int .i64 0,.int .i64 pos],.int .i64 kind,.int .i64 sort] w (StmPost w b tb la cap T (defP T kind sort pos s)):=by
 have hT:T.length≤20001:=hW.size
 obtain ⟨Z,hZ⟩:∃ Z,Z=defP T kind sort pos s:=⟨_,rfl⟩
 rw [←hZ]
 replace hZ:Z=((conP T (argP T 19) [sort] (zbw T sAS (zbb T s).1)).1,⟨kind,[(zbb T s).2],(conP T (argP T 19) [sort] (zbw T sAS (zbb T s).1)).2,pos⟩):=hZ
 refine za8 (args:=[.pointer (some ⟨b,0,none⟩),.agg #[.int .i64 0,.slice none 0 0,.int .i64 0,.string ⟨#[]⟩,.bool false,.slice none 0 0,.slice none 0 0,.slice none 0 0,.int .i64 0,.int .i64 pos],.int .i64 kind,.int .i64 sort]) (rs:=[.cell 8 40]) (n:=34) Try.func26 rfl rfl rfl (by kernel_rfl) ?_
 have hP:=h
 have hG:w.grownBy w (some b):=za6 (Below.refl _ _)
 have hb0:=h.lt'
 have hla0:=h.lab
 first|refine zzr fun K hK=>?_|refine zzt fun K hK=>?_
 simp [go_sem,za0,za2,za1]
 refine zbF #[.int .i64 0,.slice none 0 0,.int .i64 0,.string ⟨#[]⟩,.bool false,.slice none 0 0,.slice none 0 0,.slice none 0 0,.int .i64 0,.int .i64 pos] (by simp [go_sem,za0,za2,za1]) rfl (by simp [go_sem,Value.cells,za0,za2,za1]) (fun w1 b1 hE1 hle1 hB1=>?_)
 have hwb1:_≤b1:=Nat.le_trans hG.size hle1
 replace hG:=hG.trans (za6 hE1)
 replace hP:=hP.ext hE1
 simp [go_sem,za0,za2,za1,hB1.cell]
 refine zar (by simp [go_sem,za0,za2,za1,hB1.cell]) rfl zcC (fun w2 b2 hE2 hle2 hB2=>?_)
 have hwb2:_≤b2:=Nat.le_trans hG.size hle2
 have hd1_2:b1≠b2:=Nat.ne_of_lt (Nat.lt_of_lt_of_le hB1.lt hle2)
 replace hB1:=hB1.keep hE2
 replace hG:=hG.trans (za6 hE2)
 replace hP:=hP.ext hE2
 simp [go_sem,za0,za2,za1,hB1.cell,hB2.cell]
 refine hK _ _ ?_;clear hK K
 first|refine zzr fun K hK=>?_|refine zzt fun K hK=>?_
 simp [go_sem,za0,za2,za1,hB1.cell,hB2.cell]
 refine za7 (b:=b1) (off:=0) [.int .i64 kind] (by simp [go_sem,za0,za2,za1,hB1.cell,hB2.cell]) rfl (by simp [go_sem,za0,za2,za1,hB1.cell,hB2.cell]) (by simp [go_sem,Value.cells,za0,za2,za1,hB1.cell,hB2.cell]) zaI hB1 (by simp) (by simp [Value.oneCell']) (by decide) (fun w3 hS3 hB3=>?_)
 simp [zaD] at hB3
 replace hG:=zaj hG hS3 hwb1
 replace hP:=hP.sto hS3 (by omega) (fun ad ha=>by have:=hla0 ad ha;omega)
 replace hB2:=hB2.sto hS3 (by first|exact hd2_1|exact (hd1_2).symm)
 simp [go_sem,za0,za2,za1,hB2.cell,hB3.cell]
 refine hK _ _ ?_;clear hK K
 obtain ⟨N4,hN4⟩:∃ N,N=w3.heap.size:=⟨_,rfl⟩
 have hNs:N4≤w3.heap.size:=by omega
 have hbN4:=hP.lt'
 have h1N4:=hB3.lt
 have h2N4:=hB2.lt
 rw [←hN4] at hbN4 h1N4 h2N4
 have hlaN:∀ ad,la=some ad→ad.block<N4:=fun ad ha=>by have:=hla0 ad ha;have:=hG.size;omega
 have hwN4:w.heap.size≤N4:=by rw [hN4];exact hG.size
 refine zad (fun K1 hK1=>?_)
 obtain ⟨s1,hs1⟩:∃ s1,s1=s:=⟨_,rfl⟩
 rw [←hs1] at hP hZ
 obtain ⟨va,vc,acc,hB1,hown,hnb,hacc0⟩:∃ (va:Option Addr) (vc:Nat) (acc:List (List UInt8)),Bx w3 b1 #[.int .i64 kind,.slice va acc.length vc,.int .i64 0,.string ⟨#[]⟩,.bool false,.slice none 0 0,.slice none 0 0,.slice none 0 0,.int .i64 0,.int .i64 pos] 40∧w3.ownsRow N4 9 1 (.slice va acc.length vc) acc.length (acc.map strV)∧NB w3 (.slice va acc.length vc)∧acc=[]:=⟨none,0,[],hB3,World.ownsRow_nil _ _ _ _,NB.nil _,rfl⟩
 have hal:acc.length≤s1.i:=by rw [hacc0];exact Nat.zero_le _
 have hB2:=hB2
 have hil:=hP.lt
 have hD4:=Below.drew1 w3
 replace hB1:=hB1.keep hD4
 replace hB2:=hB2.keep hD4
 replace hG:=hG.trans (za6 hD4)
 replace hP:=hP.ext hD4
 replace hnb:=hnb.keep hD4
 replace hown:=zax hown hD4
 first|refine W_rdS ([⟨b1,1,none⟩]) [(0,0),(1,0),(2,0),(3,0),(4,0),(5,0),(6,1),(7,1),(8,2),(9,0),(10,2)] (by kernel_rfl) (by kernel_rfl) (fun K hK=>?_)|refine W_drawS ([⟨b1,1,none⟩]) [(0,0),(1,0),(2,0),(3,0),(4,0),(5,0),(6,1),(7,1),(8,2),(9,0),(10,2)] (by kernel_rfl) (by kernel_rfl) (fun K hK=>?_)
 simp [go_sem,za0,za2,za1,hB1.cell,hB2.cell]
 have hkp:Keep ([⟨b1,1,none⟩]) w3.drew w3.drew:=zd1 _ _
 have hds:=(Below.drew1 w3).size
 have hownD:=hown
 refine za5 (by simp [go_sem,za0,za2,za1,hB1.cell,hB2.cell]) rfl Try.call37 (fun R hR=>?_)
 simp [go_sem,za0,za2,za1,hB1.cell,hB2.cell]
 refine (nameS_any hP hW).mono ?_
 rintro e w30 ⟨rfl,hQ30,hg30⟩
 refine ⟨_,rfl,hR _ _ ?_⟩
 clear hR R
 replace hkp:=hkp.trans (Keep.grown (by intro a ha;simp only [List.mem_cons,List.not_mem_nil,or_false] at ha;rcases ha with rfl<;>exact ⟨by first|exact hB1.lt,(by intro e;injection e with e;simp at e;omega)⟩) hg30)
 replace hnb:=zd7 hnb hown hg30 (by omega)
 replace hown:=zbX hown hg30 (by omega)
 replace hB1:=hB1.grown hg30 (by intro e;injection e with e;omega)
 replace hB2:=hB2.grown hg30 (by intro e;injection e with e;omega)
 replace hP:=hQ30
 replace hG:=hG.trans hg30
 clear hQ30
 refine zb3 hkp ?_
 simp [go_sem,za0,za2,za1,hB1.cell,hB2.cell]
 refine zam #[.string ⟨(zbb T s1).2.toArray⟩] (by simp [go_sem,za0,za2,za1,hB1.cell,hB2.cell]) rfl zcJ (by decide) [(0,.string ⟨(zbb T s1).2.toArray⟩)] (by simp [go_sem,za0,za2,za1,hB1.cell,hB2.cell]) (by kernel_rfl) (fun w40 b40 hE40 hle40 hB40=>?_)
 replace hkp:=hkp.trans (Keep.below (by intro a ha;simp only [List.mem_cons,List.not_mem_nil,or_false] at ha;rcases ha with rfl<;>first|exact hB1.lt) hE40)
 have hwb40:_≤b40:=Nat.le_trans hG.size hle40
 have hd1_40:b1≠b40:=Nat.ne_of_lt (Nat.lt_of_lt_of_le hB1.lt hle40)
 have hd2_40:b2≠b40:=Nat.ne_of_lt (Nat.lt_of_lt_of_le hB2.lt hle40)
 replace hB1:=hB1.keep hE40
 replace hB2:=hB2.keep hE40
 replace hG:=hG.trans (za6 hE40)
 replace hP:=hP.ext hE40
 replace hnb:=hnb.keep hE40
 replace hown:=zax hown hE40
 refine zb3 hkp ?_
 simp [go_sem,za0,za2,za1,hB1.cell,hB2.cell,hB40.cell]
 have hN40:N4≤w40.heap.size:=Nat.le_trans hNs (Nat.le_trans hds (Nat.le_trans hg30.size hE40.size))
 refine zc8 (v:=.slice va acc.length vc) (b:=b40) (len:=1) (c:=1) hB40 (by simp [go_sem]) rfl zcJ ty_bytes9 rfl (by decide) (by simp [go_sem,za0,hB1.cell]) (by simp [go_sem]) hown rfl (by simp [Value.oneCell']) (by unfold maxLen;omega) (by omega) hN40 (by decide) (by intro u hu x e;subst e;simp at hu) (by intro u hu x e;subst e;simp at hu) hnb (fun v' w50 hown' hg50 hat50 hnb'=>?_)
 obtain ⟨va',vc',rfl⟩:=zbz hown'
 have hob:∀ k,(Value.ownBlock (.slice va acc.length vc))=some k→N4≤k:=fun k e=>(hown.lt k e).1
 replace hP:=hP.grown hg50 (fun e=>by have:=hob b e.symm;omega) (fun ad ha e=>by have:=hob ad.block e.symm;have:=hla0 ad ha;omega)
 replace hG:=grown_own hG hg50 (fun k e=>by have:=hob k e;omega)
 replace hB2:=hB2.grown hg50 (fun e=>by have:=hob b2 e.symm;omega)
 have hkp2:=hkp.trans (Keep.grown (by intro a ha;simp only [List.mem_cons,List.not_mem_nil,or_false] at ha;subst ha;exact ⟨hB1.lt,fun e=>by have:=hob b1 e.symm;omega⟩) hg50)
 replace hB1:=hB1.grown hg50 (fun e=>by have:=hob b1 e.symm;omega)
 refine zcu ?_
 simp [go_sem,za0,za2,za1,hB1.cell,hB2.cell,hkp2]
 refine za7 (b:=b1) (off:=1) [.slice va' (acc.length+1) vc'] (by simp [go_sem,za0,za2,za1,hB1.cell,hB2.cell]) rfl (by simp [go_sem,za0,za2,za1,hB1.cell,hB2.cell]) (by simp [go_sem,Value.cells,za0,za2,za1,hB1.cell,hB2.cell]) ty_size29 hB1 (by simp) (by simp [Value.oneCell']) (by decide) (fun w60 hS60 hB60=>?_)
 simp [zaD] at hB60
 replace hnb':=zdI hnb' hown' hS60 (by omega)
 replace hown':=zbr hown' hS60 (by omega)
 replace hG:=zaj hG hS60 hwb1
 replace hP:=hP.sto hS60 (by omega) (fun ad ha=>by have:=hla0 ad ha;omega)
 replace hB2:=hB2.sto hS60 (by first|exact hd2_1|exact (hd1_2).symm)
 refine zcu ?_
 simp [go_sem,za0,za2,za1,hB2.cell,hB60.cell]
 refine hK _ _ ?_;clear hK K
 have hN60:N4≤w60.heap.size:=by rw [hS60.size];exact Nat.le_trans hN40 hg50.size
 have hacc:acc.length+1=(acc++[(zbb T s1).2]).length:=by simp
 obtain ⟨l,hl⟩:∃ l,l=acc++[(zbb T s1).2]:=⟨_,rfl⟩
 have hl1:l=[(zbb T s1).2]:=by rw [hl,hacc0];rfl
 have hll:l.length≤maxLen:=by rw [hl1];unfold maxLen;simp
 have hB1':=hB60
 rw [hacc,←hl] at hB1' hown' hnb'
 rw [show acc.map strV ++ #[Value.string ⟨(zbb T s1).2.toArray⟩].toList=l.map strV by rw [hl,List.map_append];rfl] at hown'
 have hB2':=hB2
 refine hK1 _ _ ?_
 obtain ⟨s2,hs2⟩:∃ s2,s2=(zbb T s1).1:=⟨_,rfl⟩
 rw [←hs2] at hP
 rw [←hs2,←hl1] at hZ
 first|refine zzr fun K hK=>?_|refine zzt fun K hK=>?_
 simp [go_sem,za0,za2,za1,hB1'.cell,hB2'.cell]
 refine za5 (by simp [go_sem,za0,za2,za1,hB1'.cell,hB2'.cell]) rfl Try.call27 (fun R hR=>?_)
 simp [go_sem,za0,za2,za1,hB1'.cell,hB2'.cell]
 refine (zd0 hP hW sAS).mono ?_
 rintro e w70 ⟨rfl,hQ70,hg70⟩
 refine ⟨_,rfl,hR _ _ ?_⟩
 clear hR R
 replace hnb':=zd7 hnb' hown' hg70 (by omega)
 replace hown':=zbX hown' hg70 (by omega)
 replace hB1':=hB1'.grown hg70 (by intro e;injection e with e;omega)
 replace hB2':=hB2'.grown hg70 (by intro e;injection e with e;omega)
 replace hP:=hQ70
 replace hG:=hG.trans hg70
 clear hQ70
 simp [go_sem,za0,za2,za1,hB1'.cell,hB2'.cell]
 refine hK _ _ ?_;clear hK K
 obtain ⟨s3,hs3⟩:∃ s3,s3=zbw T sAS s2:=⟨_,rfl⟩
 rw [←hs3] at hP hZ
 first|refine zzr fun K hK=>?_|refine zzt fun K hK=>?_
 simp [go_sem,za0,za2,za1,hB1'.cell,hB2'.cell]
 refine zam #[.int .i64 sort] (by simp [go_sem,za0,za2,za1,hB1'.cell,hB2'.cell]) rfl zdb (by decide) [(0,.int .i64 sort)] (by simp [go_sem,za0,za2,za1,hB1'.cell,hB2'.cell]) (by kernel_rfl) (fun w80 b80 hE80 hle80 hB80=>?_)
 have hwb80:_≤b80:=Nat.le_trans hG.size hle80
 have hd1_80:b1≠b80:=Nat.ne_of_lt (Nat.lt_of_lt_of_le hB1'.lt hle80)
 have hd2_80:b2≠b80:=Nat.ne_of_lt (Nat.lt_of_lt_of_le hB2'.lt hle80)
 replace hB1':=hB1'.keep hE80
 replace hB2':=hB2'.keep hE80
 replace hG:=hG.trans (za6 hE80)
 replace hP:=hP.ext hE80
 replace hnb':=hnb'.keep hE80
 replace hown':=zax hown' hE80
 simp [go_sem,za0,za2,za1,hB1'.cell,hB2'.cell,hB80.cell]
 have hN80:N4≤w80.heap.size:=Nat.le_trans hN60 (Nat.le_trans hg70.size hE80.size)
 have hw80:w.heap.size≤w80.heap.size:=hG.size
 have hown8:=hown'
 refine za5 (by simp [go_sem,za0,za2,za1,hB1'.cell,hB2'.cell,hB80.cell]) rfl Try.call18 (fun R hR=>?_)
 simp [go_sem,za0,za2,za1,hB1'.cell,hB2'.cell,hB80.cell]
 refine (con1_any hW hP (some ⟨b80,0,none⟩) 1 [sort] (intC_sl (l:=[sort]) hB80) (by simp)).mono ?_
 rintro e w81 ⟨Rx,x,rfl,hxe,hxv,hQ81,hg81⟩
 refine ⟨_,rfl,hR _ _ ?_⟩
 clear hR R
 replace hnb':=zd7 hnb' hown' hg81 (by omega)
 replace hown':=zbX hown' hg81 (by omega)
 replace hB1':=hB1'.grown hg81 (by intro e;injection e with e;omega)
 replace hB2':=hB2'.grown hg81 (by intro e;injection e with e;omega)
 replace hB80:=hB80.grown hg81 (by intro e;injection e with e;omega)
 replace hP:=hQ81
 replace hG:=hG.trans hg81
 clear hQ81
 obtain ⟨xa,xc,xb,xd,xad,xcap,xrows,hRx,_⟩:=hxe.open
 subst hRx
 replace hxe:=hxe.mono (F':=fun k=>w80.heap.size≤k) (fun k hk=>hk)
 simp [go_sem,za0,za2,za1,hB1'.cell,hB2'.cell,hB80.cell]
 refine za7 (b:=b1) (off:=2) [.int .i64 x.kind,.string ⟨x.name.toArray⟩,.bool x.neg,.slice xa x.num.length xc,.slice xb x.den.length xd,.slice xad x.args.length xcap,.int .i64 x.pos] (by simp [go_sem,za0,za2,za1,hB1'.cell,hB2'.cell,hB80.cell]) rfl (by simp [go_sem,za0,za2,za1,hB1'.cell,hB2'.cell,hB80.cell]) (by simp [go_sem,Value.cells,za0,za2,za1,hB1'.cell,hB2'.cell,hB80.cell]) zaE hB1' (by simp) (by simp [Value.oneCell']) (by decide) (fun w82 hS82 hB82=>?_)
 simp [zaD] at hB82
 replace hxe:=hxe.ch (Ch.of_sto hS82 (NL.of_bx hB1' (by intro u hu x e;subst e;simp at hu))) (by intro k hk e;subst e;first|exact hk.2 rfl|omega)
 replace hnb':=zdI hnb' hown' hS82 (by omega)
 replace hown':=zbr hown' hS82 (by omega)
 replace hG:=zaj hG hS82 hwb1
 replace hP:=hP.sto hS82 (by omega) (fun ad ha=>by have:=hla0 ad ha;omega)
 replace hB2':=hB2'.sto hS82 (by first|exact hd2_1|exact (hd1_2).symm)
 replace hB80:=hB80.sto hS82 (by first|exact hd80_1|exact (hd1_80).symm)
 simp [go_sem,za0,za2,za1,hB2'.cell,hB80.cell,hB82.cell]
 refine hK _ _ ?_;clear hK K
 first|refine zzr fun K hK=>?_|refine zzt fun K hK=>?_
 simp [go_sem,za0,za2,za1,hB2'.cell,hB80.cell,hB82.cell]
 refine za7 (b:=b2) (off:=0) [.int .i64 kind,.slice va' l.length vc',.int .i64 x.kind,.string ⟨x.name.toArray⟩,.bool x.neg,.slice xa x.num.length xc,.slice xb x.den.length xd,.slice xad x.args.length xcap,.int .i64 x.pos,.int .i64 pos] (by simp [go_sem,za0,za2,za1,hB2'.cell,hB80.cell,hB82.cell]) rfl (by simp [go_sem,za0,za2,za1,hB2'.cell,hB80.cell,hB82.cell]) (by simp [go_sem,Value.cells,za0,za2,za1,hB2'.cell,hB80.cell,hB82.cell]) zbG hB2' (by simp) (by simp [Value.oneCell']) (by decide) (fun w83 hS83 hB83=>?_)
 simp [zaD] at hB83
 replace hxe:=hxe.ch (Ch.of_sto hS83 (NL.of_bx hB2' (by intro u hu x e;subst e;simp at hu))) (by intro k hk e;subst e;first|exact hk.2 rfl|omega)
 replace hnb':=zdI hnb' hown' hS83 (by omega)
 replace hown':=zbr hown' hS83 (by omega)
 replace hG:=zaj hG hS83 hwb2
 replace hP:=hP.sto hS83 (by omega) (fun ad ha=>by have:=hla0 ad ha;omega)
 replace hB82:=hB82.sto hS83 (by first|exact hd1_2|exact (hd2_1).symm)
 replace hB80:=hB80.sto hS83 (by first|exact hd80_2|exact (hd2_80).symm)
 simp [go_sem,za0,za2,za1,hB80.cell,hB82.cell,hB83.cell]
 refine hK _ _ ?_;clear hK K
 refine zal ?_
 repeat (first|refine za4 ?_|refine za3 ?_)
 refine ⟨by simp [go_sem,zb6,zav,za2,za1,za0,hB83.cell],?_⟩
 have hnm:NmS _ (fun k=>w.heap.size≤k) va' l:=⟨zca hown',fun ad ha hn=>Nat.le_trans hwN4 (hown'.lt ad.block (by rw [ha];rfl)).1,hll⟩
 refine ⟨_,⟨kind,l,x,pos⟩,?_,SX.mk' (c:=vc') hnm (hxe.mono (fun k hk=>Nat.le_trans hw80 hk)),fun e=>?_,?_,hG⟩
 ·simp [go_sem,zaw,zav,za2,za1,za0,hB83.cell]
 ·rw [hZ];rw [hZ] at e;rw [hxv e]
 ·rw [hZ];exact hP
end Go.Proofs.Ytefhenfofomjhaa
