/- ParserJoins: two programs, one behind the other, are the statements of both. -/
import Derived.Test.YtefhenfofomjhaaAw1
import Derived.Test.YtefhenfofomjhaaIn9
set_option linter.unusedSimpArgs false
set_option linter.unusedVariables false
namespace Go.Proofs.Ytefhenfofomjhaa
open Go Go.RowKit Go.V
set_option maxRecDepth 20000
structure QS (w:World) (F:Nat→Prop) (ad:Option Addr) (xs:List Stm) (rows:List (List Value)):Prop where
 sl:SLF w F ad rows.flatten
 max:xs.length≤maxLen
 rs:RSs w F rows xs
theorem QS.ext {w w':World} {F:Nat→Prop} {ad:Option Addr} {xs:List Stm} {rows:List (List Value)} (h:QS w F ad xs rows) (hb:Below w.heap.size w w'):QS w' F ad xs rows:=⟨h.sl.ext hb,h.max,h.rs.ext hb⟩
theorem QS.ch {w w':World} {F S:Nat→Prop} {ad:Option Addr} {xs:List Stm} {rows:List (List Value)} (h:QS w F ad xs rows) (hc:Ch w w' S) (hd:∀ k,F k→¬S k):QS w' F ad xs rows:=⟨h.sl.ch hc hd,h.max,h.rs.ch hc hd⟩
theorem QS.sxs {w:World} {F:Nat→Prop} {ad:Option Addr} {xs:List Stm} {rows:List (List Value)} (h:QS w F ad xs rows):SXS w F ad xs rows:=⟨h.sl.sl,h.max,h.rs⟩
set_option maxHeartbeats 4000000 in
theorem parserJoins_any (sa sb:ByteArray) (w:World) (hsa:sa.size≤maxLen) (hsb:sb.size≤maxLen) :
  Calls Try.prog 3 #[.string sa,.string sb] w fun e w'=>e = .returned (.bool true)∧Below w.heap.size w w':=by
 obtain ⟨⟨la,pa,ea⟩,hra⟩:∃ r:List Stm × Int × Int,zdL sa=r:=⟨_,rfl⟩
 obtain ⟨⟨lb,pb,eb⟩,hrb⟩:∃ r:List Stm × Int × Int,zdL sb=r:=⟨_,rfl⟩
 have k1:=fun w=>zcs sa w hsa
 have k2:=fun w=>zcs sb w hsb
 rw [hra] at k1
 rw [hrb] at k2
 refine za8 (args:=[.string sa,.string sb]) (rs:=[.tmp 4]) (n:=105) Try.func3 rfl rfl rfl (by kernel_rfl) ?_
 have hA0:=Below.refl w.heap.size w
 first|refine zzr fun K hK=>?_|refine zzt fun K hK=>?_
 simp [go_sem,za0,za2,za1]
 refine hK _ _ ?_;clear hK K
 refine zad (fun K1 hK1=>?_)
 by_cases hbig:¬((4000:Int)<sa.size)∧¬((4000:Int)<sb.size)
 ·obtain ⟨hba,hbb⟩:=hbig
  have hba':¬4000<sa.size:=by omega
  have hbb':¬4000<sb.size:=by omega
  first|refine zzr fun K hK=>?_|refine zzt fun K hK=>?_
  simp [go_sem,za0,za2,za1, hba,hba',hbb,hbb']
  refine hK _ _ ?_;clear hK K
  refine zam (t:=false) (by simp [go_sem,za0,za2,za1, hba,hba',hbb,hbb']) rfl ?_
  refine zae ?_
  refine hK1 _ _ ?_
  first|refine zzr fun K hK=>?_|refine zzt fun K hK=>?_
  simp [go_sem,za0,za2,za1]
  refine za5 (by simp [go_sem,za0,za2,za1]) rfl Try.call6 (fun R hR=>?_)
  simp [go_sem,za0,za2,za1]
  refine (k1 _).mono ?_
  rintro e w1 ⟨a1,c1,rows1,rfl,hown,hnb,hrx,hlx,hE1⟩
  refine ⟨_,rfl,hR _ _ ?_⟩
  clear hR R
  replace hA0:=hA0.next hE1
  replace hrx:=hrx.blt.mono (F':=fun k=>Value.ownBlock (.slice a1 la.length c1)≠some k∧k<w1.heap.size) (fun k hk=>⟨hk.1.2,hk.2⟩)
  have hown1:=hown
  simp [go_sem,za0,za2,za1]
  refine zan (by simp [go_sem,za0,za2,za1]) rfl zdg (fun w10 b10 hE10 hle10 hB10=>?_)
  have hb10_0:=Nat.le_trans hA0.size hle10
  replace hA0:=hA0.next hE10
  replace hrx:=hrx.ext hE10
  replace hnb:=hnb.keep hE10
  replace hown:=zas hown hE10
  simp [go_sem,za0,za2,za1,hB10.cell]
  have hob10:Value.ownBlock (.slice a1 la.length c1)≠some b10:=fun e=>by have:=(hown1.lt b10 e).2;have:w1.heap.size≤b10:=hle10;omega
  refine za7 (b:=b10) (off:=0) [.slice a1 la.length c1] (by simp [go_sem,za0,za2,za1,hB10.cell]) rfl (by simp [go_sem,za0,za2,za1,hB10.cell]) (by simp [go_sem,Value.cells,za0,za2,za1,hB10.cell]) zcN hB10 (by simp) (by simp [Value.oneCell']) (by decide) (fun w11 hS11 hB11=>?_)
  simp [zaC] at hB11
  replace hA0:=hA0.nextS hS11 (by first|exact hb10_0|omega)
  replace hrx:=hrx.ch (Ch.of_sto hS11 (NL.of_bx hB10 (by intro u hu x e;subst e;simp at hu))) (by intro k hk e;subst e;first|exact hk.2 rfl|omega)
  simp [go_sem,za0,za2,za1,hB11.cell]
  replace hnb:=hnb.grown (zaz hS11) (.inr fun e=>hob10 e)
  replace hown:=zcK hown hS11 hob10
  refine hK _ _ ?_;clear hK K
  have h10l:=hB11.lt
  obtain ⟨N5,hN5⟩:∃ N,N=w11.heap.size:=⟨_,rfl⟩
  first|refine zzr fun K hK=>?_|refine zzt fun K hK=>?_
  simp [go_sem,za0,za2,za1,hB11.cell]
  refine za5 (by simp [go_sem,za0,za2,za1,hB11.cell]) rfl Try.call6 (fun R hR=>?_)
  simp [go_sem,za0,za2,za1,hB11.cell]
  refine (k2 _).mono ?_
  rintro e w20 ⟨a2,c2,rows2,rfl,hown2,hnb2,hrx2,hlx2,hE20⟩
  refine ⟨_,rfl,hR _ _ ?_⟩
  clear hR R
  replace hA0:=hA0.next hE20
  replace hB11:=hB11.keep hE20
  replace hrx:=hrx.ext hE20
  replace hnb:=hnb.keep hE20
  replace hown:=zas hown hE20
  have hlb:lb.length≤20001:=hlx2
  have hla:la.length≤20001:=hlx
  obtain ⟨N6,hN6⟩:∃ N,N=w20.heap.size:=⟨_,rfl⟩
  have hq:QS w20 (fun k=>N5≤k∧k<N6) a2 lb rows2:=⟨⟨zbx hown2,fun ad ha hn=>⟨by rw [hN5];exact (hown2.lt ad.block (by rw [ha];rfl)).1,by rw [hN6];exact (hown2.lt ad.block (by rw [ha];rfl)).2⟩⟩,by unfold maxLen;omega,hrx2.blt.mono (fun k hk=>⟨by rw [hN5];exact hk.1.1,by rw [hN6];exact hk.2⟩)⟩
  have hw120:w1.heap.size≤w20.heap.size:=Nat.le_trans hE10.size (Nat.le_trans (by rw [hS11.size];exact Nat.le_refl _) hE20.size)
  have h10N5:b10<N5:=by rw [hN5];exact h10l
  have hN56:N5≤N6:=by rw [hN5,hN6];exact hE20.size
  have hw15:w1.heap.size≤N5:=by rw [hN5,hS11.size];exact hE10.size
  simp [go_sem,za0,za2,za1,hB11.cell]
  refine zan (by simp [go_sem,za0,za2,za1,hB11.cell]) rfl zdg (fun w30 b30 hE30 hle30 hB30=>?_)
  have hb30_0:=Nat.le_trans hA0.size hle30
  have hd10_30:b10≠b30:=Nat.ne_of_lt (Nat.lt_of_lt_of_le hB11.lt hle30)
  replace hA0:=hA0.next hE30
  replace hB11:=hB11.keep hE30
  replace hrx:=hrx.ext hE30
  replace hq:=hq.ext hE30
  replace hnb:=hnb.keep hE30
  replace hown:=zas hown hE30
  simp [go_sem,za0,za2,za1,hB11.cell,hB30.cell]
  have h30:w1.heap.size≤b30:=Nat.le_trans hw120 hle30
  have h306:N6≤b30:=by rw [hN6];exact hle30
  have hob30:Value.ownBlock (.slice a1 la.length c1)≠some b30:=fun e=>by have:=(hown1.lt b30 e).2;omega
  refine za7 (b:=b30) (off:=0) [.slice a2 lb.length c2] (by simp [go_sem,za0,za2,za1,hB11.cell,hB30.cell]) rfl (by simp [go_sem,za0,za2,za1,hB11.cell,hB30.cell]) (by simp [go_sem,Value.cells,za0,za2,za1,hB11.cell,hB30.cell]) zcN hB30 (by simp) (by simp [Value.oneCell']) (by decide) (fun w31 hS31 hB31=>?_)
  simp [zaC] at hB31
  replace hA0:=hA0.nextS hS31 (by first|exact hb30_0|omega)
  replace hrx:=hrx.ch (Ch.of_sto hS31 (NL.of_bx hB30 (by intro u hu x e;subst e;simp at hu))) (by intro k hk e;subst e;first|exact hk.2 rfl|omega)
  replace hq:=hq.ch (Ch.of_sto hS31 (NL.of_bx hB30 (by intro u hu x e;subst e;simp at hu))) (by intro k hk e;subst e;first|exact hk.2 rfl|omega)
  replace hB11:=hB11.sto hS31 (by first|exact hd10_30|exact (hd30_10).symm)
  simp [go_sem,za0,za2,za1,hB11.cell,hB31.cell]
  replace hnb:=hnb.grown (zaz hS31) (.inr fun e=>hob30 e)
  replace hown:=zcK hown hS31 hob30
  refine hK _ _ ?_;clear hK K
  replace hrx:=hrx.mono (F':=fun k=>Value.ownBlock (.slice a1 la.length c1)≠some k∧k≠b10∧k≠b30) (fun k hk=>⟨hk.1,by have:=hk.2;have:w1.heap.size≤b10:=hle10;omega,by have:=hk.2;omega⟩)
  have hob:∀ k,Value.ownBlock (.slice a1 la.length c1)=some k→k≠b10∧k≠b30∧(k<N5∨N6≤k):=fun k e=>⟨fun h=>hob10 (h▸e),fun h=>hob30 (h▸e),.inl (by have:=(hown1.lt k e).2;omega)⟩
  clear hown2 hnb2 hrx2 hown1 hob10 hob30
  refine zad (fun K2 hK2=>?_)
  by_cases hee:ea=0∧eb=0
  ·obtain ⟨rfl,rfl⟩:=hee
   obtain ⟨u,hu⟩:∃ u:ByteArray,u=sa++⟨#[10]⟩++sb:=⟨_,rfl⟩
   have hus:u.size=sa.size+1+sb.size:=by rw [hu];simp;rfl
   have hj:=progV_join (u:=u) (a:=sa) (b:=sb) (by omega) (by omega) (by rw [hu,bs_append,bs_append,List.append_assoc];rfl) (by rw [hra]) (by rw [hrb])
   rw [hra,hrb] at hj
   obtain ⟨B,hB⟩:∃ B:Int,B=((sa.size+1:Nat):Int):=⟨_,rfl⟩
   rw [←hB] at hj
   simp only at hj
   obtain ⟨hpu,rfl,rfl,hnar⟩:=hj
   have hwl:IntKind.i64.wrap ((sa.size:Int)+1)=B:=by rw [hB,IntWalk.i64_in _ (by omega)];omega
   obtain ⟨M,hM⟩:∃ M,M=mvS (mvW B) (mvP B):=⟨_,rfl⟩
   rw [←hM] at hpu
   first|refine zzr fun K hK=>?_|refine zzt fun K hK=>?_
   simp [go_sem,za0,za2,za1,hB11.cell,hB31.cell]
   refine hK _ _ ?_;clear hK K
   refine zam (t:=false) (by simp [go_sem,za0,za2,za1,hB11.cell,hB31.cell]) rfl ?_
   refine zae ?_
   refine hK2 _ _ ?_
   first|refine zzr fun K hK=>?_|refine zzt fun K hK=>?_
   simp [go_sem,za0,za2,za1,hB11.cell,hB31.cell, hwl]
   refine hK _ _ ?_;clear hK K
   refine zad (fun K3 hK3=>?_)
   first|refine zzr fun K hK=>?_|refine zzt fun K hK=>?_
   simp [go_sem,za0,za2,za1,hB11.cell,hB31.cell]
   refine hK _ _ ?_;clear hK K
   obtain ⟨N7,hN7⟩:∃ N,N=w31.heap.size:=⟨_,rfl⟩
   have h30N7:b30<N7:=by rw [hN7];exact hB31.lt
   refine zaf ?_
   refine zaG (fun m' g w'=>∃ (j:Nat) (xs:List Stm) (rows:List (List Value)) (va:Option Addr) (vc:Nat),j≤lb.length∧m'=lb.length-j∧xs=la++(lb.map M).take j∧xs.length=la.length+j∧Below w.heap.size w w'∧N7≤w'.heap.size∧Bx w' b10 #[.slice va xs.length vc] 25∧Bx w' b30 #[.slice a2 lb.length c2] 25∧w'.ownsRow w.heap.size 40 10 (.slice va xs.length vc) xs.length rows.flatten∧NB w' (.slice va xs.length vc)∧(∀ k,Value.ownBlock (.slice va xs.length vc)=some k→k≠b10∧k≠b30∧(k<N5∨N6≤k))∧RSs w' (fun k=>Value.ownBlock (.slice va xs.length vc)≠some k∧k≠b10∧k≠b30) rows xs∧QS w' (fun k=>N5≤k∧k<N6) a2 lb rows2∧g 0 = .string sa∧g 1 = .string sb∧g 5 = .pointer (some ⟨b10,0,none⟩)∧g 8 = .pointer (some ⟨b30,0,none⟩)∧g 11 = .int .i64 B∧g 50 = .slice a2 lb.length c2∧g 51 = .int .i64 lb.length∧g 52 = .int .i64 j) lb.length ?_ ?_
   ·exact ⟨0,la,rows1,a1,c1,by omega,rfl,by simp,by simp,hA0,by omega,hB11,hB31,hown,hnb,hob,hrx,hq,by simp [go_sem],by simp [go_sem],by simp [go_sem],by simp [go_sem],by simp [go_sem],by simp [go_sem],by simp [go_sem],by simp [go_sem]⟩
   clear hA0 hB11 hB31 hown hnb hob hrx hq
   rintro m' g w' ⟨j,xs,rows,va,vc,hj,rfl,hxs,hxl,hA0,hN7',hB10,hB30,hown,hnb,hob,hrx,hq,g0,g1,g5,g8,g11,g50,g51,g52⟩
   first|refine zzr fun K hK=>?_|refine zzt fun K hK=>?_
   simp [go_sem,za0,za2,za1,hB10.cell,hB30.cell,g0,g1,g5,g8,g11,g50,g51,g52]
   refine hK _ _ ?_;clear hK K
   refine zad (fun K4 hK4=>?_)
   by_cases hlt:j<lb.length
   ·have c1':(j:Int)<lb.length:=by omega
    have hw1:IntKind.i64.wrap ((j:Int)+1)=(j+1:Nat):=by rw [IntWalk.i64_in _ (by omega)];omega
    obtain ⟨s,hs⟩:∃ s,lb[j]? = some s:=⟨_,List.getElem?_eq_getElem hlt⟩
    have hsn:Nar s.expr:=hnar s (List.mem_of_getElem? hs)
    have htk:(lb.map M).take (j+1)=(lb.map M).take j++[M s]:=by rw [List.take_add_one,List.getElem?_map,hs];rfl
    obtain ⟨Ra,hRa,q1,q2,q3,q4⟩:=hq.sxs.row hs
    obtain ⟨a,c,za,zc,zb,zd,ze,zp,hRE,hnm,hse⟩:=q4.open
    rw [hRE] at q1
    clear q4
    replace hrx:=hrx.blt.mono (F':=fun k=>Value.ownBlock (.slice va xs.length vc)≠some k∧k≠b10∧k≠b30∧k<w'.heap.size) (fun k hk=>⟨hk.1.1,hk.1.2.1,hk.1.2.2,hk.2⟩)
    have hownD:=hown
    refine zam (t:=true) (by simp [go_sem,za0,za2,za1,hB10.cell,hB30.cell,g0,g1,g5,g8,g11,g50,g51,g52,c1',hlt]) rfl ?_
    refine zae ?_
    refine hK4 _ _ ?_
    refine zad (fun K5 hK5=>?_)
    refine zaf ?_
    first|refine zzr fun K hK=>?_|refine zzt fun K hK=>?_
    simp [go_sem,za0,hB10.cell,hB30.cell,g0,g1,g5,g8,g11,g50,g51,g52, c1',hlt,q1,q2,q3]
    refine zan (by simp [go_sem,za0,hB10.cell,hB30.cell,g0,g1,g5,g8,g11,g50,g51,g52]) rfl zb9 (fun w40 b40 hE40 hle40 hB40=>?_)
    have hb40_0:=Nat.le_trans hA0.size hle40
    have hd10_40:b10≠b40:=Nat.ne_of_lt (Nat.lt_of_lt_of_le hB10.lt hle40)
    have hd30_40:b30≠b40:=Nat.ne_of_lt (Nat.lt_of_lt_of_le hB30.lt hle40)
    replace hA0:=hA0.next hE40
    replace hB10:=hB10.keep hE40
    replace hB30:=hB30.keep hE40
    replace hrx:=hrx.ext hE40
    replace hq:=hq.ext hE40
    replace hnm:=hnm.ext hE40
    replace hse:=hse.ext hE40
    replace hnb:=hnb.keep hE40
    replace hown:=zas hown hE40
    simp [go_sem,za0,hB10.cell,hB30.cell,g0,g1,g5,g8,g11,g50,g51,g52,hB40.cell]
    have hob40:Value.ownBlock (.slice va xs.length vc)≠some b40:=fun e=>by have:=(hownD.lt b40 e).2;omega
    have h406:N6≤b40:=by omega
    refine za7 (b:=b40) (off:=0) [.int .i64 s.kind,.slice a s.names.length c,.int .i64 s.expr.kind,.string ⟨s.expr.name.toArray⟩,.bool s.expr.neg,.slice za s.expr.num.length zc,.slice zb s.expr.den.length zd,.slice ze s.expr.args.length zp,.int .i64 s.expr.pos,.int .i64 s.pos] (by simp [go_sem,za0,hB10.cell,hB30.cell,g0,g1,g5,g8,g11,g50,g51,g52,hB40.cell,c1',hlt,q1,q2,q3]) rfl (by simp [go_sem,za0,hB10.cell,hB30.cell,g0,g1,g5,g8,g11,g50,g51,g52,hB40.cell,c1',hlt,q1,q2,q3]) (by simp [go_sem,Value.cells,za0,hB10.cell,hB30.cell,g0,g1,g5,g8,g11,g50,g51,g52,hB40.cell,c1',hlt,q1,q2,q3]) zaU hB40 (by simp) (by simp [Value.oneCell']) (by decide) (fun w41 hS41 hB41=>?_)
    simp [zaC] at hB41
    replace hA0:=hA0.nextS hS41 (by first|exact hb40_0|omega)
    replace hrx:=hrx.ch (Ch.of_sto hS41 (NL.of_bx hB40 (by intro u hu x e;subst e;simp at hu))) (by intro k hk e;subst e;first|exact hk.2 rfl|omega)
    replace hq:=hq.ch (Ch.of_sto hS41 (NL.of_bx hB40 (by intro u hu x e;subst e;simp at hu))) (by intro k hk e;subst e;first|exact hk.2 rfl|omega)
    replace hnm:=hnm.ch (Ch.of_sto hS41 (NL.of_bx hB40 (by intro u hu x e;subst e;simp at hu))) (by intro k hk e;subst e;first|exact hk.2 rfl|omega)
    replace hse:=hse.ch (Ch.of_sto hS41 (NL.of_bx hB40 (by intro u hu x e;subst e;simp at hu))) (by intro k hk e;subst e;first|exact hk.2 rfl|omega)
    replace hB10:=hB10.sto hS41 (by first|exact hd10_40|exact (hd40_10).symm)
    replace hB30:=hB30.sto hS41 (by first|exact hd30_40|exact (hd40_30).symm)
    simp [go_sem,za0,hB10.cell,hB30.cell,g0,g1,g5,g8,g11,g50,g51,g52,hB41.cell,c1',hlt,q1,q2,q3]
    replace hnb:=hnb.grown (zaz hS41) (.inr fun e=>hob40 e)
    replace hown:=zcK hown hS41 hob40
    refine hK _ _ ?_;clear hK K
    have hN41:N7≤w41.heap.size:=by have:=hE40.size;have:=hS41.size;omega
    obtain ⟨y,hy⟩:∃ y,y=mvW B s.expr:=⟨_,rfl⟩
    obtain ⟨pp,hpp⟩:∃ pp,pp=mvP B s.pos:=⟨_,rfl⟩
    have hpos:IntKind.i64.wrap (s.pos+B)=pp:=by rw [hpp];rfl
    have hMs:M s=⟨s.kind,s.names,if s.kind=1 then s.expr else y,pp⟩:=by rw [hM,hy,hpp];rfl
    obtain ⟨J,hJ⟩:∃ J:G→World→Prop,J=fun g' w2=>∃ (b50:Nat) (xa:Option Addr) (xc:Nat) (xb:Option Addr) (xd:Nat) (xad:Option Addr) (xcap:Nat),g' 0 = .string sa∧g' 1 = .string sb∧g' 5 = .pointer (some ⟨b10,0,none⟩)∧g' 8 = .pointer (some ⟨b30,0,none⟩)∧g' 11 = .int .i64 B∧g' 13 = .pointer (some ⟨b40,0,none⟩)∧g' 14 = .pointer (some ⟨b50,0,none⟩)∧g' 50 = .slice a2 lb.length c2∧g' 51 = .int .i64 lb.length∧g' 52 = .int .i64 j∧w41.heap.size≤b50∧Below w41.heap.size w41 w2∧Bx w2 b50 #[.int .i64 s.kind,.slice a s.names.length c,.int .i64 y.kind,.string ⟨y.name.toArray⟩,.bool y.neg,.slice xa y.num.length xc,.slice xb y.den.length xd,.slice xad y.args.length xcap,.int .i64 y.pos,.int .i64 pp] 40∧EX w2 (fun k=>w41.heap.size≤k∧k≠b50) [.int .i64 y.kind,.string ⟨y.name.toArray⟩,.bool y.neg,.slice xa y.num.length xc,.slice xb y.den.length xd,.slice xad y.args.length xcap,.int .i64 y.pos] y:=⟨_,rfl⟩
    refine W_rdTJ (J) (.li 0 (.li 1 (.li 2 (.li 3 (.li 4 (.li 5 (.li 6 (.li 8 (.li 9 (.li 10 (.li 11 (.fork 7 (.fork 12 (.hv 13 (.hv 14 .done)) (.hv 13 (.hv 12 (.hv 14 .done)))) (.hv 13 (.hv 7 (.hv 12 (.hv 14 .done)))))))))))))))) (by kernel_rfl) (by kernel_rfl) ?_ ?_
    ·intro w0 hw0
     have hA:Below w41.heap.size w41 w0:=by rw [hw0];exact Below.drew1 _
     have hb40:=(hB41).keep hA
     have hse0:=hse.ext hA
     have h41:w41.heap.size≤w0.heap.size:=hA.size
     clear hw0
     have hz:=Nat.le_refl w0.heap.size
     simp [go_sem,hb40.cell,g0,g1,g5,g8,g11,g50,g51,g52,za0,hpos,za2,za1]
     refine ⟨?_,?_⟩
     ·skip
      refine za5 (by simp [go_sem,hb40.cell,g0,g1,g5,g8,g11,g50,g51,g52,za0,hpos,za2,za1]) rfl Try.call7 (fun R hR=>?_)
      simp [go_sem,hb40.cell,g0,g1,g5,g8,g11,g50,g51,g52,za0,hpos,za2,za1]
      refine (moved_any s.expr hsn B _ _ _ hse0).mono ?_
      rintro e w51 ⟨Rx,rfl,hxe,hE51⟩
      refine ⟨_,rfl,hR _ _ ?_⟩
      clear hR R
      refine zaB (hE51.mono hz) ?_
      rw [←hy] at hxe
      obtain ⟨xa,xc,xb,xd,xad,xcap,xrows,hRx,_⟩:=hxe.open
      subst hRx
      replace hxe:=hxe.blt
      have hz0:=hz
      replace hz:=Nat.le_trans hz hE51.size
      replace hA:=hA.next hE51
      try replace hB60:=hB60.keep hE51
      simp [go_sem,hb40.cell,g0,g1,g5,g8,g11,g50,g51,g52,za0,hpos,za2,za1]
      refine ⟨?_,?_⟩
      ·skip
       refine zat #[.int .i64 s.kind,.slice a s.names.length c,.int .i64 y.kind,.string ⟨y.name.toArray⟩,.bool y.neg,.slice xa y.num.length xc,.slice xb y.den.length xd,.slice xad y.args.length xcap,.int .i64 y.pos,.int .i64 pp] (by simp [go_sem]) rfl ty_stZ40 [(0,.int .i64 s.kind),(1,.slice a s.names.length c),(2,.agg #[.int .i64 y.kind,.string ⟨y.name.toArray⟩,.bool y.neg,.slice xa y.num.length xc,.slice xb y.den.length xd,.slice xad y.args.length xcap,.int .i64 y.pos]),(3,.int .i64 pp)] (by simp [go_sem]) (by kernel_rfl) ?_
       refine zaB ((Below.refl _ _).mono hz) ?_
       simp [go_sem,hb40.cell,g0,g1,g5,g8,g11,g50,g51,g52,za0,hpos,za2,za1]
       refine zan (by simp [go_sem,za0]) rfl zb9 (fun w60 b60 hE60 hle60 hB60=>?_)
       refine zaB (hE60.mono hz) ?_
       have hw060:w0.heap.size≤b60:=Nat.le_trans hz hle60
       have hb60l:=hB60.lt
       replace hz:=Nat.le_trans hz hE60.size
       replace hA:=hA.next hE60
       try replace hse0:=hse0.ext hE60
       try replace hxe:=hxe.ext hE60
       simp [go_sem,hb40.cell,g0,g1,g5,g8,g11,g50,g51,g52,za0,hpos,za2,za1]
       have hNL:=NL.of_bx hB60 (by intro u hu x e;subst e;simp at hu)
       refine za7 (b:=b60) (off:=0) [.int .i64 s.kind,.slice a s.names.length c,.int .i64 y.kind,.string ⟨y.name.toArray⟩,.bool y.neg,.slice xa y.num.length xc,.slice xb y.den.length xd,.slice xad y.args.length xcap,.int .i64 y.pos,.int .i64 pp] (by simp [go_sem,za0]) rfl (by simp [go_sem,za0]) (by simp [go_sem,Value.cells,za0]) zaU hB60 (by simp) (by simp [Value.oneCell']) (by decide) (fun w61 hS61 hB61=>?_)
       simp [zaC] at hB61
       refine zaB (hS61.below hw060) ?_
       simp [go_sem,za0]
       rw [hJ]
       refine ⟨b60,xa,xc,xb,xd,xad,xcap,?_,?_,?_,?_,?_,?_,?_,?_,?_,?_,Nat.le_trans h41 hw060,hA.nextS hS61 (Nat.le_trans h41 hw060),hB61,?_⟩
       all_goals first
        | exact (hxe.mono (F':=fun k=>w41.heap.size≤k∧k≠b60) (fun k hk=>⟨Nat.le_trans h41 (Nat.le_trans hz0 hk.1),fun e=>by subst e;have:=hk.1;have:=hk.2;omega⟩)).ch (Ch.of_sto hS61 hNL) (fun k hk e=>hk.2 e)
        | (simp [go_sem,g0,g1,g5,g8,g11,g50,g51,g52];done)
      ·skip
       refine zan (by simp [go_sem,za0]) rfl zb9 (fun w60 b60 hE60 hle60 hB60=>?_)
       refine zaB (hE60.mono hz) ?_
       have hw060:w0.heap.size≤b60:=Nat.le_trans hz hle60
       have hb60l:=hB60.lt
       replace hz:=Nat.le_trans hz hE60.size
       replace hA:=hA.next hE60
       try replace hse0:=hse0.ext hE60
       try replace hxe:=hxe.ext hE60
       simp [go_sem,hb40.cell,g0,g1,g5,g8,g11,g50,g51,g52,za0,hpos,za2,za1]
       refine zat #[.int .i64 s.kind,.slice a s.names.length c,.int .i64 y.kind,.string ⟨y.name.toArray⟩,.bool y.neg,.slice xa y.num.length xc,.slice xb y.den.length xd,.slice xad y.args.length xcap,.int .i64 y.pos,.int .i64 pp] (by simp [go_sem]) rfl ty_stZ40 [(0,.int .i64 s.kind),(1,.slice a s.names.length c),(2,.agg #[.int .i64 y.kind,.string ⟨y.name.toArray⟩,.bool y.neg,.slice xa y.num.length xc,.slice xb y.den.length xd,.slice xad y.args.length xcap,.int .i64 y.pos]),(3,.int .i64 pp)] (by simp [go_sem]) (by kernel_rfl) ?_
       refine zaB ((Below.refl _ _).mono hz) ?_
       simp [go_sem,hb40.cell,g0,g1,g5,g8,g11,g50,g51,g52,za0,hpos,za2,za1]
       have hNL:=NL.of_bx hB60 (by intro u hu x e;subst e;simp at hu)
       refine za7 (b:=b60) (off:=0) [.int .i64 s.kind,.slice a s.names.length c,.int .i64 y.kind,.string ⟨y.name.toArray⟩,.bool y.neg,.slice xa y.num.length xc,.slice xb y.den.length xd,.slice xad y.args.length xcap,.int .i64 y.pos,.int .i64 pp] (by simp [go_sem,za0]) rfl (by simp [go_sem,za0]) (by simp [go_sem,Value.cells,za0]) zaU hB60 (by simp) (by simp [Value.oneCell']) (by decide) (fun w61 hS61 hB61=>?_)
       simp [zaC] at hB61
       refine zaB (hS61.below hw060) ?_
       simp [go_sem,za0]
       rw [hJ]
       refine ⟨b60,xa,xc,xb,xd,xad,xcap,?_,?_,?_,?_,?_,?_,?_,?_,?_,?_,Nat.le_trans h41 hw060,hA.nextS hS61 (Nat.le_trans h41 hw060),hB61,?_⟩
       all_goals first
        | exact (hxe.mono (F':=fun k=>w41.heap.size≤k∧k≠b60) (fun k hk=>⟨Nat.le_trans h41 (Nat.le_trans hz0 hk.1),fun e=>by subst e;have:=hk.1;have:=hk.2;omega⟩)).ch (Ch.of_sto hS61 hNL) (fun k hk e=>hk.2 e)
        | (simp [go_sem,g0,g1,g5,g8,g11,g50,g51,g52];done)
     ·skip
      refine zan (by simp [go_sem,za0]) rfl zb9 (fun w60 b60 hE60 hle60 hB60=>?_)
      refine zaB (hE60.mono hz) ?_
      have hw060:w0.heap.size≤b60:=Nat.le_trans hz hle60
      have hb60l:=hB60.lt
      replace hz:=Nat.le_trans hz hE60.size
      replace hA:=hA.next hE60
      try replace hse0:=hse0.ext hE60
      try replace hxe:=hxe.ext hE60
      simp [go_sem,hb40.cell,g0,g1,g5,g8,g11,g50,g51,g52,za0,hpos,za2,za1]
      refine za5 (by simp [go_sem,hb40.cell,g0,g1,g5,g8,g11,g50,g51,g52,za0,hpos,za2,za1]) rfl Try.call7 (fun R hR=>?_)
      simp [go_sem,hb40.cell,g0,g1,g5,g8,g11,g50,g51,g52,za0,hpos,za2,za1]
      refine (moved_any s.expr hsn B _ _ _ hse0).mono ?_
      rintro e w51 ⟨Rx,rfl,hxe,hE51⟩
      refine ⟨_,rfl,hR _ _ ?_⟩
      clear hR R
      refine zaB (hE51.mono hz) ?_
      rw [←hy] at hxe
      obtain ⟨xa,xc,xb,xd,xad,xcap,xrows,hRx,_⟩:=hxe.open
      subst hRx
      replace hxe:=hxe.blt
      have hz0:=hz
      replace hz:=Nat.le_trans hz hE51.size
      replace hA:=hA.next hE51
      try replace hB60:=hB60.keep hE51
      simp [go_sem,hb40.cell,g0,g1,g5,g8,g11,g50,g51,g52,za0,hpos,za2,za1]
      refine zat #[.int .i64 s.kind,.slice a s.names.length c,.int .i64 y.kind,.string ⟨y.name.toArray⟩,.bool y.neg,.slice xa y.num.length xc,.slice xb y.den.length xd,.slice xad y.args.length xcap,.int .i64 y.pos,.int .i64 pp] (by simp [go_sem]) rfl ty_stZ40 [(0,.int .i64 s.kind),(1,.slice a s.names.length c),(2,.agg #[.int .i64 y.kind,.string ⟨y.name.toArray⟩,.bool y.neg,.slice xa y.num.length xc,.slice xb y.den.length xd,.slice xad y.args.length xcap,.int .i64 y.pos]),(3,.int .i64 pp)] (by simp [go_sem]) (by kernel_rfl) ?_
      refine zaB ((Below.refl _ _).mono hz) ?_
      simp [go_sem,hb40.cell,g0,g1,g5,g8,g11,g50,g51,g52,za0,hpos,za2,za1]
      have hNL:=NL.of_bx hB60 (by intro u hu x e;subst e;simp at hu)
      refine za7 (b:=b60) (off:=0) [.int .i64 s.kind,.slice a s.names.length c,.int .i64 y.kind,.string ⟨y.name.toArray⟩,.bool y.neg,.slice xa y.num.length xc,.slice xb y.den.length xd,.slice xad y.args.length xcap,.int .i64 y.pos,.int .i64 pp] (by simp [go_sem,za0]) rfl (by simp [go_sem,za0]) (by simp [go_sem,Value.cells,za0]) zaU hB60 (by simp) (by simp [Value.oneCell']) (by decide) (fun w61 hS61 hB61=>?_)
      simp [zaC] at hB61
      refine zaB (hS61.below hw060) ?_
      simp [go_sem,za0]
      rw [hJ]
      refine ⟨b60,xa,xc,xb,xd,xad,xcap,?_,?_,?_,?_,?_,?_,?_,?_,?_,?_,Nat.le_trans h41 hw060,hA.nextS hS61 (Nat.le_trans h41 hw060),hB61,?_⟩
      all_goals first
       | exact (hxe.mono (F':=fun k=>w41.heap.size≤k∧k≠b60) (fun k hk=>⟨Nat.le_trans h41 (Nat.le_trans hz0 hk.1),fun e=>by subst e;have:=hk.1;have:=hk.2;omega⟩)).ch (Ch.of_sto hS61 hNL) (fun k hk e=>hk.2 e)
       | (simp [go_sem,g0,g1,g5,g8,g11,g50,g51,g52];done)
    intro g w2 hJ'
    rw [hJ] at hJ'
    clear hJ J
    obtain ⟨b50,xa,xc,xb,xd,xad,xcap,g0,g1,g5,g8,g11,g13,g14,g50,g51,g52,h4150,hSw,hB50,hye⟩:=hJ'
    have h10l:=(hB10).lt
    have h30l:=(hB30).lt
    have h40l:=(hB41).lt
    have hownF:=hown
    replace hA0:=hA0.next hSw
    replace hB10:=(hB10).keep hSw
    replace hB30:=(hB30).keep hSw
    have hB40:=(hB41).keep hSw
    replace hown:=zas hown hSw
    replace hnb:=hnb.keep hSw
    replace hrx:=hrx.ext hSw
    replace hq:=hq.ext hSw
    replace hnm:=hnm.ext hSw
    replace hse:=hse.ext hSw
    have hob50:Value.ownBlock (.slice va xs.length vc)≠some b50:=fun e=>by have:=(hownF.lt b50 e).2;omega
    have h506:N6≤b50:=by omega
    have hd10_50:b10≠b50:=by omega
    have hd30_50:b30≠b50:=by omega
    have hd40_50:b40≠b50:=by omega
    have hd50_40:b50≠b40:=by omega
    have hd40_10:b40≠b10:=by omega
    have hd40_30:b40≠b30:=by omega
    have hd50_10:b50≠b10:=by omega
    have hd50_30:b50≠b30:=by omega
    have hb50_0:w.heap.size≤b50:=by have:=hA0.size;omega
    replace hrx:=hrx.mono (F':=fun k=>Value.ownBlock (.slice va xs.length vc)≠some k∧k≠b10∧k≠b30∧k≠b50) (fun k hk=>⟨hk.1,hk.2.1,hk.2.2.1,by have:=hk.2.2.2;omega⟩)
    refine zad (fun K6 hK6=>?_)
    have tail:∀ (g:G) (w9:World) (z:Tre) (xa:Option Addr) (xc:Nat) (xb:Option Addr) (xd:Nat) (xad:Option Addr) (xcap:Nat),M s=⟨s.kind,s.names,z,pp⟩→g 0 = .string sa→g 1 = .string sb→g 5 = .pointer (some ⟨b10,0,none⟩)→g 8 = .pointer (some ⟨b30,0,none⟩)→g 11 = .int .i64 B→g 14 = .pointer (some ⟨b50,0,none⟩)→g 50 = .slice a2 lb.length c2→g 51 = .int .i64 lb.length→g 52 = .int .i64 j→Below w.heap.size w w9→N7≤w9.heap.size→Bx w9 b10 #[.slice va xs.length vc] 25→Bx w9 b30 #[.slice a2 lb.length c2] 25→Bx w9 b50 #[.int .i64 s.kind,.slice a s.names.length c,.int .i64 z.kind,.string ⟨z.name.toArray⟩,.bool z.neg,.slice xa z.num.length xc,.slice xb z.den.length xd,.slice xad z.args.length xcap,.int .i64 z.pos,.int .i64 pp] 40→w9.ownsRow w.heap.size 40 10 (.slice va xs.length vc) xs.length rows.flatten→NB w9 (.slice va xs.length vc)→RSs w9 (fun k=>Value.ownBlock (.slice va xs.length vc)≠some k∧k≠b10∧k≠b30∧k≠b50) rows xs→QS w9 (fun k=>N5≤k∧k<N6) a2 lb rows2→NmS w9 (fun k=>N5≤k∧k<N6) a s.names→EX w9 (fun k=>Value.ownBlock (.slice va xs.length vc)≠some k∧k≠b10∧k≠b30∧k≠b50) [.int .i64 z.kind,.string ⟨z.name.toArray⟩,.bool z.neg,.slice xa z.num.length xc,.slice xb z.den.length xd,.slice xad z.args.length xcap,.int .i64 z.pos] z→K6 g w9:=by
     clear hA0 hB10 hB30 hB40 hB50 hown hnb hrx hq hnm hse hye hownF g0 g1 g5 g8 g11 g13 g14 g50 g51 g52
     intro g w9 z xa xc xb xd xad xcap hMz g0 g1 g5 g8 g11 g14 g50 g51 g52 hA0 hN9 hB10 hB30 hB50 hown hnb hrx hq hnm hze
     refine hK6 _ _ ?_
     first|refine zzr fun K hK=>?_|refine zzt fun K hK=>?_
     simp [go_sem,za0,g0,g1,g5,g8,g11,g50,g51,g52,za2,za1,hB10.cell,hB30.cell,hB50.cell,g14]
     refine zap #[.int .i64 s.kind,.slice a s.names.length c,.int .i64 z.kind,.string ⟨z.name.toArray⟩,.bool z.neg,.slice xa z.num.length xc,.slice xb z.den.length xd,.slice xad z.args.length xcap,.int .i64 z.pos,.int .i64 pp] (by simp [go_sem,za0,g0,g1,g5,g8,g11,g50,g51,g52,za2,za1,hB10.cell,hB30.cell,hB50.cell,g14]) rfl ty_slZ23 (by decide) [(0,.agg #[.int .i64 s.kind,.slice a s.names.length c,.int .i64 z.kind,.string ⟨z.name.toArray⟩,.bool z.neg,.slice xa z.num.length xc,.slice xb z.den.length xd,.slice xad z.args.length xcap,.int .i64 z.pos,.int .i64 pp])] (by simp [go_sem,za0,g0,g1,g5,g8,g11,g50,g51,g52,za2,za1,hB10.cell,hB30.cell,hB50.cell,g14]) (by kernel_rfl) (fun w60 b60 hE60 hle60 hB60=>?_)
     have hb60_0:=Nat.le_trans hA0.size hle60
     have hd10_60:b10≠b60:=Nat.ne_of_lt (Nat.lt_of_lt_of_le hB10.lt hle60)
     have hd30_60:b30≠b60:=Nat.ne_of_lt (Nat.lt_of_lt_of_le hB30.lt hle60)
     have hd50_60:b50≠b60:=Nat.ne_of_lt (Nat.lt_of_lt_of_le hB50.lt hle60)
     replace hA0:=hA0.next hE60
     replace hB10:=hB10.keep hE60
     replace hB30:=hB30.keep hE60
     replace hB50:=hB50.keep hE60
     replace hrx:=hrx.ext hE60
     replace hq:=hq.ext hE60
     replace hnm:=hnm.ext hE60
     replace hze:=hze.ext hE60
     replace hnb:=hnb.keep hE60
     replace hown:=zas hown hE60
     simp [go_sem,za0,g0,g1,g5,g8,g11,g50,g51,g52,za2,za1,hB10.cell,hB30.cell,hB50.cell,g14,hB60.cell]
     have hN60:N7≤w60.heap.size:=Nat.le_trans hN9 hE60.size
     refine zbG (v:=.slice va xs.length vc) (b:=b60) (len:=1) (c:=1) hB60 (by simp [go_sem]) rfl ty_slZ23 ty_bytes40 rfl (by decide) (by simp [go_sem,za0,hB10.cell,g5]) (by simp [go_sem]) hown rfl (by simp [Value.oneCell']) (by unfold maxLen;omega) (by omega) hA0.size (by decide) (by intro u hu x e;subst e;simp at hu) (by intro u hu x e;subst e;simp at hu) hnb (fun v' w70 hown' hg70 hat70 hnb'=>?_)
     obtain ⟨va',vc',rfl⟩:=zbh hown'
     have hsx:SX w60 (fun k=>Value.ownBlock (.slice va xs.length vc)≠some k∧k≠b10∧k≠b30) [.int .i64 s.kind,.slice a s.names.length c,.int .i64 z.kind,.string ⟨z.name.toArray⟩,.bool z.neg,.slice xa z.num.length xc,.slice xb z.den.length xd,.slice xad z.args.length xcap,.int .i64 z.pos,.int .i64 pp] (M s):=by
      rw [hMz]
      exact ⟨a,c,_,rfl,hnm.mono (fun k hk=>⟨fun e=>by have:=(hob k e).2.2;omega,by omega,by omega⟩),hze.mono (fun k hk=>⟨hk.1,hk.2.1,hk.2.2.1⟩)⟩
     replace hrx:=((((hrx.mono (F':=fun k=>Value.ownBlock (.slice va xs.length vc)≠some k∧k≠b10∧k≠b30) (fun k hk=>⟨hk.1,hk.2.1,hk.2.2.1⟩)).snoc hsx).blt).ch (Ch.of_grown hg70 (NL.of_nb hnb)) (fun k hk e=>hk.1.1 e))
     replace hrx:=hrx.mono (F':=fun k=>Value.ownBlock (.slice va' (xs.length+1) vc')≠some k∧k≠b10∧k≠b30) (fun k hk=>⟨fun e=>by
      rcases hat70 with h|h
      ·exact hk.1.1 (h▸e)
      ·rw [h] at e;injection e with e;have:=hk.2;omega,hk.1.2.1,hk.1.2.2⟩)
     have hob':∀ k,Value.ownBlock (.slice va' (xs.length+1) vc')=some k→k≠b10∧k≠b30∧(k<N5∨N6≤k):=fun k e=>by
      rcases hat70 with h|h
      ·exact hob k (h▸e)
      ·rw [h] at e;injection e with e;have:=hB10.lt;have:=hB30.lt;exact ⟨by omega,by omega,.inr (by omega)⟩
     replace hq:=hq.ch (Ch.of_grown hg70 (NL.of_nb hnb)) (fun k hk e=>by have:=(hob k e).2.2;omega)
     replace hB10:=hB10.grown hg70 (fun e=>(hob b10 e.symm).1 rfl)
     replace hB30:=hB30.grown hg70 (fun e=>(hob b30 e.symm).2.1 rfl)
     have hownG:=hown
     replace hA0:=hA0.nextG hg70 (fun k e=>(hownG.lt k e).1)
     simp [go_sem,za0,g0,g1,g5,g8,g11,g50,g51,g52,za2,za1,g14,hB10.cell,hB30.cell]
     have hNBs:hnb'=hnb':=rfl
     refine za7 (b:=b10) (off:=0) [.slice va' (xs.length+1) vc'] (by simp [go_sem,za0,g0,g1,g5,g8,g11,g50,g51,g52,za2,za1,g14,hB10.cell,hB30.cell]) rfl (by simp [go_sem,za0,g0,g1,g5,g8,g11,g50,g51,g52,za2,za1,g14,hB10.cell,hB30.cell]) (by simp [go_sem,Value.cells,za0,g0,g1,g5,g8,g11,g50,g51,g52,za2,za1,g14,hB10.cell,hB30.cell]) ty_size23 hB10 (by simp) (by simp [Value.oneCell']) (by decide) (fun w80 hS80 hB80=>?_)
     simp [zaC] at hB80
     replace hA0:=hA0.nextS hS80 (by first|exact hb10_0|omega)
     replace hrx:=hrx.ch (Ch.of_sto hS80 (NL.of_bx hB10 (by intro u hu x e;subst e;simp at hu))) (by intro k hk e;subst e;first|exact hk.2 rfl|omega)
     replace hq:=hq.ch (Ch.of_sto hS80 (NL.of_bx hB10 (by intro u hu x e;subst e;simp at hu))) (by intro k hk e;subst e;first|exact hk.2 rfl|omega)
     replace hB30:=hB30.sto hS80 (by first|exact hd30_10|exact (hd10_30).symm)
     simp [go_sem,za0,g0,g1,g5,g8,g11,g50,g51,g52,za2,za1,g14,hB30.cell,hB80.cell]
     replace hnb':=hnb'.grown (zaz hS80) (.inr fun e=>(hob' b10 e).1 rfl)
     replace hown':=zcK hown' hS80 (fun e=>(hob' b10 e).1 rfl)
     refine hK _ _ ?_;clear hK K
     refine hK5 _ _ ?_
     have hN80:N7≤w80.heap.size:=by rw [hS80.size];exact Nat.le_trans hN60 hg70.size
     have hlx1:(xs++[M s]).length=xs.length+1:=by simp
     refine zzt fun K hK=>?_
     simp [go_sem,g52,hw1]
     refine hK _ _ ⟨lb.length-(j+1),by omega,j+1,xs++[M s],rows++[[.int .i64 s.kind,.slice a s.names.length c,.int .i64 z.kind,.string ⟨z.name.toArray⟩,.bool z.neg,.slice xa z.num.length xc,.slice xb z.den.length xd,.slice xad z.args.length xcap,.int .i64 z.pos,.int .i64 pp]],va',vc',by omega,rfl,by rw [htk,hxs,List.append_assoc],by rw [hlx1];omega,hA0,hN80,by rw [hlx1];exact hB80,hB30,by rw [hlx1];simpa using hown',by rw [hlx1];exact hnb',by rw [hlx1];exact hob',by rw [hlx1];exact hrx,hq,by simp [go_sem,g0],by simp [go_sem,g1],by simp [go_sem,g5],by simp [go_sem,g8],by simp [go_sem,g11],by simp [go_sem,g50],by simp [go_sem,g51],by simp [go_sem]⟩
    have hN2:N7≤w2.heap.size:=Nat.le_trans hN41 hSw.size
    by_cases hk1:s.kind=1
    ·rw [if_pos hk1] at hMs
     first|refine zzr fun K hK=>?_|refine zzt fun K hK=>?_
     simp [go_sem,za0,g0,g1,g5,g8,g11,g50,g51,g52,za2,za1,hB10.cell,hB30.cell,hB40.cell,hB50.cell,g13,g14, hk1]
     refine hK _ _ ?_;clear hK K
     refine zam (t:=true) (by simp [go_sem,za0,g0,g1,g5,g8,g11,g50,g51,g52,za2,za1,hB10.cell,hB30.cell,hB40.cell,hB50.cell,g13,g14,hk1]) rfl ?_
     first|refine zzr fun K hK=>?_|refine zzt fun K hK=>?_
     simp [go_sem,za0,g0,g1,g5,g8,g11,g50,g51,g52,za2,za1,hB10.cell,hB30.cell,hB40.cell,hB50.cell,g13,g14]
     refine za7 (b:=b50) (off:=2) [.int .i64 s.expr.kind,.string ⟨s.expr.name.toArray⟩,.bool s.expr.neg,.slice za s.expr.num.length zc,.slice zb s.expr.den.length zd,.slice ze s.expr.args.length zp,.int .i64 s.expr.pos] (by simp [go_sem,za0,g0,g1,g5,g8,g11,g50,g51,g52,za2,za1,hB10.cell,hB30.cell,hB40.cell,hB50.cell,g13,g14]) rfl (by simp [go_sem,za0,g0,g1,g5,g8,g11,g50,g51,g52,za2,za1,hB10.cell,hB30.cell,hB40.cell,hB50.cell,g13,g14]) (by simp [go_sem,Value.cells,za0,g0,g1,g5,g8,g11,g50,g51,g52,za2,za1,hB10.cell,hB30.cell,hB40.cell,hB50.cell,g13,g14]) zb3 hB50 (by simp) (by simp [Value.oneCell']) (by decide) (fun w90 hS90 hB90=>?_)
     simp [zaC] at hB90
     replace hA0:=hA0.nextS hS90 (by first|exact hb50_0|omega)
     replace hrx:=hrx.ch (Ch.of_sto hS90 (NL.of_bx hB50 (by intro u hu x e;subst e;simp at hu))) (by intro k hk e;subst e;first|exact hk.2 rfl|omega)
     replace hq:=hq.ch (Ch.of_sto hS90 (NL.of_bx hB50 (by intro u hu x e;subst e;simp at hu))) (by intro k hk e;subst e;first|exact hk.2 rfl|omega)
     replace hnm:=hnm.ch (Ch.of_sto hS90 (NL.of_bx hB50 (by intro u hu x e;subst e;simp at hu))) (by intro k hk e;subst e;first|exact hk.2 rfl|omega)
     replace hse:=hse.ch (Ch.of_sto hS90 (NL.of_bx hB50 (by intro u hu x e;subst e;simp at hu))) (by intro k hk e;subst e;first|exact hk.2 rfl|omega)
     replace hye:=hye.ch (Ch.of_sto hS90 (NL.of_bx hB50 (by intro u hu x e;subst e;simp at hu))) (by intro k hk e;subst e;first|exact hk.2 rfl|omega)
     replace hB10:=hB10.sto hS90 (by first|exact hd10_50|exact (hd50_10).symm)
     replace hB30:=hB30.sto hS90 (by first|exact hd30_50|exact (hd50_30).symm)
     replace hB40:=hB40.sto hS90 (by first|exact hd40_50|exact (hd50_40).symm)
     simp [go_sem,za0,g0,g1,g5,g8,g11,g50,g51,g52,za2,za1,hB10.cell,hB30.cell,hB40.cell,g13,g14,hB90.cell]
     replace hnb:=hnb.grown (zaz hS90) (.inr fun e=>hob50 e)
     replace hown:=zcK hown hS90 hob50
     refine hK _ _ ?_;clear hK K
     refine tail _ _ s.expr za zc zb zd ze zp hMs (by simp [go_sem,g0]) (by simp [go_sem,g1]) (by simp [go_sem,g5]) (by simp [go_sem,g8]) (by simp [go_sem,g11]) (by simp [go_sem,g14]) (by simp [go_sem,g50]) (by simp [go_sem,g51]) (by simp [go_sem,g52]) hA0 (by rw [hS90.size];exact hN2) hB10 hB30 hB90 hown hnb hrx hq hnm (hse.mono (fun k hk=>⟨fun e=>by have:=(hob k e).2.2;omega,by omega,by omega,by omega⟩))
    ·rw [if_neg hk1] at hMs
     first|refine zzr fun K hK=>?_|refine zzt fun K hK=>?_
     simp [go_sem,za0,g0,g1,g5,g8,g11,g50,g51,g52,za2,za1,hB10.cell,hB30.cell,hB40.cell,hB50.cell,g13,g14, hk1]
     refine hK _ _ ?_;clear hK K
     refine zam (t:=false) (by simp [go_sem,za0,g0,g1,g5,g8,g11,g50,g51,g52,za2,za1,hB10.cell,hB30.cell,hB40.cell,hB50.cell,g13,g14,hk1]) rfl ?_
     refine zae ?_
     refine tail _ _ y xa xc xb xd xad xcap hMs (by simp [go_sem,g0]) (by simp [go_sem,g1]) (by simp [go_sem,g5]) (by simp [go_sem,g8]) (by simp [go_sem,g11]) (by simp [go_sem,g14]) (by simp [go_sem,g50]) (by simp [go_sem,g51]) (by simp [go_sem,g52]) hA0 hN2 hB10 hB30 hB50 hown hnb hrx hq hnm (hye.mono (fun k hk=>⟨fun e=>by have:=(hownF.lt k e).2;omega,by omega,by omega,hk.2⟩))
   ·have c1':¬(j:Int)<lb.length:=by omega
    have hje:j=lb.length:=by omega
    rw [List.take_of_length_le (by simp;omega)] at hxs
    refine zam (t:=false) (by simp [go_sem,za0,za2,za1,hB10.cell,hB30.cell,g0,g1,g5,g8,g11,g50,g51,g52,c1',hlt]) rfl ?_
    refine zaA ?_
    repeat (first|refine zah ?_|refine za9 rfl ?_|refine zac ?_)
    refine hK3 _ _ ?_
    obtain ⟨L,hL⟩:∃ L,L=la++lb.map M:=⟨_,rfl⟩
    rw [←hL] at hxs hpu
    subst hxs
    rw [hu] at hpu
    have hsz1:sa.size+1≤9223372036854775807:=by omega
    have hsz2:sa.size+1+sb.size≤9223372036854775807:=by omega
    have k3:∀ w,Calls Try.prog 6 #[.string (sa++⟨#[10]⟩++sb)] w fun e w'=>∃ (a:Option Addr) (c:Nat) (rows:List (List Value)),e = .returned (.tuple #[.agg #[.slice a xs.length c],.int .i64 0,.int .i64 0])∧SXS w' (fun _=>True) a xs rows∧Below w.heap.size w w':=fun w=>by
     have:=zcs (sa++⟨#[10]⟩++sb) w (by rw [←hu];unfold maxLen;omega)
     rw [hpu] at this
     exact this.mono (fun e w' h=>h.open')
    have hp:SXS w' (fun _=>True) va xs rows:=⟨zbx hown,by unfold maxLen;omega,hrx.mono (fun _ _=>trivial)⟩
    have hA91:=Below.refl (w').heap.size (w')
    first|refine zzr fun K hK=>?_|refine zzt fun K hK=>?_
    simp [go_sem,za0,za2,za1,hB10.cell,hB30.cell,g0,g1,g5,g8,g11,g50,g51,g52, hsz1,hsz2]
    refine za5 (by simp [go_sem,za0,za2,za1,hB10.cell,hB30.cell,g0,g1,g5,g8,g11,g50,g51,g52,hsz1,hsz2]) rfl Try.call6 (fun R hR=>?_)
    simp [go_sem,za0,za2,za1,hB10.cell,hB30.cell,g0,g1,g5,g8,g11,g50,g51,g52,hsz1,hsz2]
    refine (k3 _).mono ?_
    rintro e w70 ⟨a3,c3,rows3,rfl,h3,hE70⟩
    refine ⟨_,rfl,hR _ _ ?_⟩
    clear hR R
    replace hA0:=hA0.next hE70
    replace hA91:=hA91.next hE70
    replace hB10:=hB10.keep hE70
    replace hB30:=hB30.keep hE70
    have hA71:=Below.refl (w70).heap.size (w70)
    simp [go_sem,za0,za2,za1,hB10.cell,hB30.cell,g0,g1,g5,g8,g11,g50,g51,g52]
    refine zan (by simp [go_sem,za0,za2,za1,hB10.cell,hB30.cell,g0,g1,g5,g8,g11,g50,g51,g52]) rfl zdg (fun w80 b80 hE80 hle80 hB80=>?_)
    have hb80_0:=Nat.le_trans hA0.size hle80
    have hb80_1:=Nat.le_trans hA91.size hle80
    have hb80_2:=Nat.le_trans hA71.size hle80
    have hd10_80:b10≠b80:=Nat.ne_of_lt (Nat.lt_of_lt_of_le hB10.lt hle80)
    have hd30_80:b30≠b80:=Nat.ne_of_lt (Nat.lt_of_lt_of_le hB30.lt hle80)
    replace hA0:=hA0.next hE80
    replace hA91:=hA91.next hE80
    replace hA71:=hA71.next hE80
    replace hB10:=hB10.keep hE80
    replace hB30:=hB30.keep hE80
    simp [go_sem,za0,za2,za1,hB10.cell,hB30.cell,g0,g1,g5,g8,g11,g50,g51,g52,hB80.cell]
    refine za7 (b:=b80) (off:=0) [.slice a3 xs.length c3] (by simp [go_sem,za0,za2,za1,hB10.cell,hB30.cell,g0,g1,g5,g8,g11,g50,g51,g52,hB80.cell]) rfl (by simp [go_sem,za0,za2,za1,hB10.cell,hB30.cell,g0,g1,g5,g8,g11,g50,g51,g52,hB80.cell]) (by simp [go_sem,Value.cells,za0,za2,za1,hB10.cell,hB30.cell,g0,g1,g5,g8,g11,g50,g51,g52,hB80.cell]) zcN hB80 (by simp) (by simp [Value.oneCell']) (by decide) (fun w81 hS81 hB81=>?_)
    simp [zaC] at hB81
    replace hA0:=hA0.nextS hS81 (by first|exact hb80_0|omega)
    replace hA91:=hA91.nextS hS81 (by first|exact hb80_1|omega)
    replace hA71:=hA71.nextS hS81 (by first|exact hb80_2|omega)
    replace hB10:=hB10.sto hS81 (by first|exact hd10_80|exact (hd80_10).symm)
    replace hB30:=hB30.sto hS81 (by first|exact hd30_80|exact (hd80_30).symm)
    simp [go_sem,za0,za2,za1,hB10.cell,hB30.cell,g0,g1,g5,g8,g11,g50,g51,g52,hB81.cell]
    refine hK _ _ ?_;clear hK K
    first|refine zzr fun K hK=>?_|refine zzt fun K hK=>?_
    simp [go_sem,za0,za2,za1,hB10.cell,hB30.cell,g0,g1,g5,g8,g11,g50,g51,g52,hB81.cell]
    refine za5 (by simp [go_sem,za0,za2,za1,hB10.cell,hB30.cell,g0,g1,g5,g8,g11,g50,g51,g52,hB81.cell]) rfl Try.call8 (fun R hR=>?_)
    simp [go_sem,za0,za2,za1,hB10.cell,hB30.cell,g0,g1,g5,g8,g11,g50,g51,g52,hB81.cell]
    refine (sameProg_any xs _ _ _ _ _ _ _ _ _ (h3.ext hA71) (hp.ext hA91)).mono ?_
    rintro e w90 ⟨rfl,hE90⟩
    refine ⟨_,rfl,hR _ _ ?_⟩
    clear hR R
    replace hA0:=hA0.next hE90
    replace hA91:=hA91.next hE90
    replace hA71:=hA71.next hE90
    replace hB10:=hB10.keep hE90
    replace hB30:=hB30.keep hE90
    replace hB81:=hB81.keep hE90
    simp [go_sem,za0,za2,za1,hB10.cell,hB30.cell,g0,g1,g5,g8,g11,g50,g51,g52,hB81.cell]
    refine za5 (by simp [go_sem,za0,za2,za1,hB10.cell,hB30.cell,g0,g1,g5,g8,g11,g50,g51,g52,hB81.cell]) rfl Try.call5 (fun R hR=>?_)
    simp [go_sem,za0,za2,za1,hB10.cell,hB30.cell,g0,g1,g5,g8,g11,g50,g51,g52,hB81.cell]
    refine (zcG _).mono ?_
    rintro e w91 ⟨rfl,hE91⟩
    refine ⟨_,rfl,hR _ _ ?_⟩
    clear hR R
    replace hA0:=hA0.next hE91
    replace hA91:=hA91.next hE91
    replace hA71:=hA71.next hE91
    replace hB10:=hB10.keep hE91
    replace hB30:=hB30.keep hE91
    replace hB81:=hB81.keep hE91
    simp [go_sem,za0,za2,za1,hB10.cell,hB30.cell,g0,g1,g5,g8,g11,g50,g51,g52,hB81.cell]
    refine hK _ _ ?_;clear hK K
    refine zaj ?_
    repeat (first|refine za4 ?_|refine za3 ?_)
    refine ⟨trivial,?_,hA0⟩
    simp [go_sem,zax,zav]
  ·have hee':¬ea=0∨ea=0∧¬eb=0:=by omega
   rcases hee' with h|⟨h,h2⟩
   ·first|refine zzr fun K hK=>?_|refine zzt fun K hK=>?_
    simp [go_sem,za0,za2,za1,hB11.cell,hB31.cell, h]
    refine hK _ _ ?_;clear hK K
    refine zam (t:=true) (by simp [go_sem,za0,za2,za1,hB11.cell,hB31.cell,h]) rfl ?_
    first|refine zzr fun K hK=>?_|refine zzt fun K hK=>?_
    simp [go_sem,za0,za2,za1,hB11.cell,hB31.cell]
    refine za5 (by simp [go_sem,za0,za2,za1,hB11.cell,hB31.cell]) rfl Try.call5 (fun R hR=>?_)
    simp [go_sem,za0,za2,za1,hB11.cell,hB31.cell]
    refine (zcG _).mono ?_
    rintro e w92 ⟨rfl,hE92⟩
    refine ⟨_,rfl,hR _ _ ?_⟩
    clear hR R
    replace hA0:=hA0.next hE92
    replace hB11:=hB11.keep hE92
    replace hB31:=hB31.keep hE92
    simp [go_sem,za0,za2,za1,hB11.cell,hB31.cell]
    refine hK _ _ ?_;clear hK K
    refine zaj ?_
    repeat (first|refine za4 ?_|refine za3 ?_)
    refine ⟨trivial,?_,hA0⟩
    simp [go_sem,zax,zav]
   ·first|refine zzr fun K hK=>?_|refine zzt fun K hK=>?_
    simp [go_sem,za0,za2,za1,hB11.cell,hB31.cell, h,h2]
    refine hK _ _ ?_;clear hK K
    refine zam (t:=true) (by simp [go_sem,za0,za2,za1,hB11.cell,hB31.cell,h,h2]) rfl ?_
    first|refine zzr fun K hK=>?_|refine zzt fun K hK=>?_
    simp [go_sem,za0,za2,za1,hB11.cell,hB31.cell]
    refine za5 (by simp [go_sem,za0,za2,za1,hB11.cell,hB31.cell]) rfl Try.call5 (fun R hR=>?_)
    simp [go_sem,za0,za2,za1,hB11.cell,hB31.cell]
    refine (zcG _).mono ?_
    rintro e w93 ⟨rfl,hE93⟩
    refine ⟨_,rfl,hR _ _ ?_⟩
    clear hR R
    replace hA0:=hA0.next hE93
    replace hB11:=hB11.keep hE93
    replace hB31:=hB31.keep hE93
    simp [go_sem,za0,za2,za1,hB11.cell,hB31.cell]
    refine hK _ _ ?_;clear hK K
    refine zaj ?_
    repeat (first|refine za4 ?_|refine za3 ?_)
    refine ⟨trivial,?_,hA0⟩
    simp [go_sem,zax,zav]
 ·have hbig':(4000:Int)<sa.size∨¬(4000:Int)<sa.size∧(4000:Int)<sb.size:=by omega
  rcases hbig' with h|⟨h,h3⟩
  ·have h':4000<sa.size:=by omega
   first|refine zzr fun K hK=>?_|refine zzt fun K hK=>?_
   simp [go_sem,za0,za2,za1, h,h']
   refine hK _ _ ?_;clear hK K
   refine zam (t:=true) (by simp [go_sem,za0,za2,za1,h,h']) rfl ?_
   first|refine zzr fun K hK=>?_|refine zzt fun K hK=>?_
   simp [go_sem,za0,za2,za1]
   refine za5 (by simp [go_sem,za0,za2,za1]) rfl Try.call5 (fun R hR=>?_)
   simp [go_sem,za0,za2,za1]
   refine (zcG _).mono ?_
   rintro e w94 ⟨rfl,hE94⟩
   refine ⟨_,rfl,hR _ _ ?_⟩
   clear hR R
   replace hA0:=hA0.next hE94
   simp [go_sem,za0,za2,za1]
   refine hK _ _ ?_;clear hK K
   refine zaj ?_
   repeat (first|refine za4 ?_|refine za3 ?_)
   refine ⟨trivial,?_,hA0⟩
   simp [go_sem,zax,zav]
  ·have h':¬4000<sa.size:=by omega
   have h3':4000<sb.size:=by omega
   first|refine zzr fun K hK=>?_|refine zzt fun K hK=>?_
   simp [go_sem,za0,za2,za1, h,h',h3,h3']
   refine hK _ _ ?_;clear hK K
   refine zam (t:=true) (by simp [go_sem,za0,za2,za1,h,h',h3,h3']) rfl ?_
   first|refine zzr fun K hK=>?_|refine zzt fun K hK=>?_
   simp [go_sem,za0,za2,za1]
   refine za5 (by simp [go_sem,za0,za2,za1]) rfl Try.call5 (fun R hR=>?_)
   simp [go_sem,za0,za2,za1]
   refine (zcG _).mono ?_
   rintro e w95 ⟨rfl,hE95⟩
   refine ⟨_,rfl,hR _ _ ?_⟩
   clear hR R
   replace hA0:=hA0.next hE95
   simp [go_sem,za0,za2,za1]
   refine hK _ _ ?_;clear hK K
   refine zaj ?_
   repeat (first|refine za4 ?_|refine za3 ?_)
   refine ⟨trivial,?_,hA0⟩
   simp [go_sem,zax,zav]
set_option maxRecDepth 100000 in
theorem parserJoins_lifted (os:Os) (started:os.Started) (H:Type) (enc:TypeId × Value→H) :
  ReturnsInHanded {} Try.checked os 3 .any (Rows.parserJoinsSpec.pre6 enc Try.prog Try.f3 Rows.parserJoinsRow.domain false) (Rows.parserJoinsSpec.post enc Try.prog Try.f3 false true false false):=by
 refine law_lifted (C:=Try.checked) (s:=Rows.parserJoinsSpec) Try.own Try.laidOut (by kernel_rfl) Try.func3 rfl 4 rfl Try.underlying4 (by kernel_rfl) enc ?_ ?_ os started
  (ChangeSpec.witness6 (enc:=enc) (C:=Try.checked) false ⟨#[],#[.string ⟨#[]⟩,.string ⟨#[]⟩],[]⟩ 8 (by kernel_rfl) (by kernel_rfl) (by kernel_rfl) (by kernel_rfl))
 ·intro ds hl
  match ds,hl with
  | [d0,d1],_=>rfl
 ·intro W base args ds ps hval hA hlt _
  have hA':DataW.TrodAll enc Try.prog W 0 (fun _=>true) true [9,9] args.toList ds ps:=hA
  have hval':∀ (j:Nat) t v,Try.f3.params[j]? = some t→args[j]? = some v→Value.okWide Try.prog W .any base t v:=hval
  obtain ⟨v0,v1,d0,d1,p0,p1,rfl,rfl,rfl,h0,h1⟩:=Go.ChangeShapes.trodAll_two hA'
  obtain ⟨sa,rfl,rfl,rfl,hs_sa⟩:=Go.ChangeMaps.open_string Try.underlying9 (hval' 0 9 v0 rfl rfl) h0
  obtain ⟨sb,rfl,rfl,rfl,hs_sb⟩:=Go.ChangeMaps.open_string Try.underlying9 (hval' 1 9 v1 rfl rfl) h1
  exact parserJoins_any sa sb W hs_sa hs_sb
theorem parserJoins_holds:Rows.ParserJoinsSaid :=
 OpenClaim.holds_of_wide 3 Try.f3 rfl rfl rfl rfl rfl rfl rfl ⟨rfl,rfl,rfl,rfl,rfl⟩ rfl rfl rfl rfl rfl (by kernel_rfl) Try.func3 (by kernel_rfl)
  (of_decide_eq_true (by kernel_rfl)) (by unfold Func.isWrapper;first|(rw [if_pos (by decide +kernel)];kernel_rfl)|(rw [if_neg (by decide +kernel)];exact ⟨rfl,rfl⟩))
  (fun os started H enc _=>parserJoins_lifted os started H enc)
end Go.Proofs.Ytefhenfofomjhaa
