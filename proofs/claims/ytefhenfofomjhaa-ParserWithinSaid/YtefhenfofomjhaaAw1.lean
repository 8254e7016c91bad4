/- A program of one statement, read: the laws' guard. -/
import Derived.Test.YtefhenfofomjhaaEq1
import Derived.Test.YtefhenfofomjhaaSm1
set_option linter.unusedSimpArgs false
set_option linter.unusedVariables false
namespace Go.Proofs.Ytefhenfofomjhaa
open Go Go.RowKit Go.V
set_option maxRecDepth 20000
structure SXS (w:World) (F:Nat→Prop) (ad:Option Addr) (xs:List Stm) (rows:List (List Value)):Prop where
 sl:SL w ad rows.flatten
 max:xs.length≤maxLen
 rs:RSs w F rows xs
theorem SXS.ext {w w':World} {F:Nat→Prop} {ad:Option Addr} {xs:List Stm} {rows:List (List Value)} (h:SXS w F ad xs rows) (hb:Below w.heap.size w w'):SXS w' F ad xs rows:=⟨h.sl.ext hb,h.max,h.rs.ext hb⟩
theorem RSs.all {w:World} {F:Nat→Prop} {xs:List Stm} {rows:List (List Value)} (h:RSs w F rows xs):∀ R∈rows,R.length=10:=by
 intro R hR
 obtain ⟨i,hi,rfl⟩:=List.getElem_of_mem hR
 exact (h.he i _ _ (List.getElem?_eq_getElem hi) (List.getElem?_eq_getElem (by have:=h.len;omega))).len
theorem SXS.row {w:World} {F:Nat→Prop} {ad:Option Addr} {xs:List Stm} {rows:List (List Value)} (h:SXS w F ad xs rows) {i:Nat} {x:Stm} (hx:xs[i]? = some x) :
  ∃ R:List Value,rows[i]? = some R∧za2 w ((ad.getD default).add (i*10)) 0 10=R∧za1 w ((ad.getD default).add (i*10)) 0 10∧ad.isSome=true∧SX w F R x:=by
 have hi:i<rows.length:=by rw [h.rs.len];exact (List.getElem?_eq_some_iff.1 hx).1
 obtain ⟨R,hR⟩:∃ R,rows[i]? = some R:=⟨_,List.getElem?_eq_getElem hi⟩
 have hall:=h.rs.all
 have hfl:=zc1 hall
 have hle:i*10+10≤rows.flatten.length:=by rw [hfl];omega
 obtain ⟨q1,q2,q3⟩:=h.sl.row (i*10) 10 hle (by decide)
 exact ⟨R,hR,by rw [q1,zcT hall hR],q2,q3,h.rs.he i R x hR hx⟩
theorem NmS.at {w:World} {F:Nat→Prop} {a:Option Addr} {l:List (List UInt8)} (h:NmS w F a l) {i:Nat} (hi:i<l.length):w.cell? ((a.getD default).add i)=some (.string ⟨(l.getD i []).toArray⟩)∧a.isSome=true:=by
 obtain ⟨q1,q2⟩:=h.sl.getD (j:=i) (by simpa using hi)
 rw [strL_at hi] at q1
 exact ⟨q1,q2⟩
set_option maxHeartbeats 4000000 in
theorem equalProg_any (l:List Stm) (w:World) (F1 F2:Nat→Prop) (a1 a2:Option Addr) (c1 c2:Nat) (rows1 rows2:List (List Value)) (h1:SXS w F1 a1 l rows1) (h2:SXS w F2 a2 l rows2) :
  Calls Try.prog 15 #[.agg #[.slice a1 l.length c1],.agg #[.slice a2 l.length c2]] w fun e w'=>e = .returned (.bool true)∧Below w.heap.size w w':=by
 have hal:=h1.max
 unfold maxLen at hal
 refine za8 (args:=[.agg #[.slice a1 l.length c1],.agg #[.slice a2 l.length c2]]) (rs:=[.tmp 4]) (n:=70) Try.func15 rfl rfl rfl (by kernel_rfl) ?_
 have hA0:=Below.refl w.heap.size w
 first|refine zzr fun K hK=>?_|refine zzt fun K hK=>?_
 simp [go_sem,za0,za2,za1]
 refine zbF #[.slice a1 l.length c1] (by simp [go_sem,za0,za2,za1]) rfl (by simp [go_sem,Value.cells,za0,za2,za1]) (fun w1 b1 hE1 hle1 hB1=>?_)
 have hb1_0:=Nat.le_trans hA0.size hle1
 replace hA0:=hA0.next hE1
 simp [go_sem,za0,za2,za1,hB1.cell]
 refine zbF #[.slice a2 l.length c2] (by simp [go_sem,za0,za2,za1,hB1.cell]) rfl (by simp [go_sem,Value.cells,za0,za2,za1,hB1.cell]) (fun w2 b2 hE2 hle2 hB2=>?_)
 have hb2_0:=Nat.le_trans hA0.size hle2
 have hd1_2:b1≠b2:=Nat.ne_of_lt (Nat.lt_of_lt_of_le hB1.lt hle2)
 replace hA0:=hA0.next hE2
 replace hB1:=hB1.keep hE2
 simp [go_sem,za0,za2,za1,hB1.cell,hB2.cell]
 refine hK _ _ ?_;clear hK K
 refine zad (fun K1 hK1=>?_)
 first|refine zzr fun K hK=>?_|refine zzt fun K hK=>?_
 simp [go_sem,za0,za2,za1,hB1.cell,hB2.cell]
 refine hK _ _ ?_;clear hK K
 refine zao (t:=false) (by simp [go_sem,za0,za2,za1,hB1.cell,hB2.cell]) rfl ?_
 refine zae ?_
 refine hK1 _ _ ?_
 refine zad (fun K2 hK2=>?_)
 first|refine zzr fun K hK=>?_|refine zzt fun K hK=>?_
 simp [go_sem,za0,za2,za1,hB1.cell,hB2.cell]
 refine hK _ _ ?_;clear hK K
 refine zag ?_
 refine zaJ (fun m' g w'=>Below w.heap.size w w'∧Bx w' b1 #[.slice a1 l.length c1] 25∧Bx w' b2 #[.slice a2 l.length c2] 25∧∃ j:Nat,j≤l.length∧m'=l.length-j∧g 2 = .pointer (some ⟨b1,0,none⟩)∧g 3 = .pointer (some ⟨b2,0,none⟩)∧g 17 = .slice a1 l.length c1∧g 18 = .int .i64 l.length∧g 19 = .int .i64 j) l.length ?_ ?_
 ·exact ⟨hA0,hB1,hB2,0,by omega,rfl,by simp [go_sem],by simp [go_sem],by simp [go_sem],by simp [go_sem],by simp [go_sem]⟩
 clear hA0 hB1 hB2
 rintro m' g w' ⟨hA0,hB1,hB2,j,hj,rfl,g2,g3,g17,g18,g19⟩
 by_cases hlt:j<l.length
 ·have k1:(j:Int)<l.length:=by omega
  have hw1:IntKind.i64.wrap ((j:Int)+1)=(j+1:Nat):=by rw [IntWalk.i64_in _ (by omega)];omega
  obtain ⟨x,hx⟩:∃ x,l[j]? = some x:=⟨_,List.getElem?_eq_getElem hlt⟩
  obtain ⟨Ra,_,q1,q2,q3,q4⟩:=(h1.ext hA0).row hx
  obtain ⟨a,c,ya,yc,yb,yd,ye,yp,hRa,hna,hxa⟩:=q4.open
  rw [hRa] at q1
  replace hna:=hna.blt.mono (F':=fun k=>k<w'.heap.size) (fun k hk=>hk.2)
  replace hxa:=hxa.blt.mono (F':=fun k=>k<w'.heap.size) (fun k hk=>hk.2)
  obtain ⟨Rb,hRb0,_,_,p3,p4⟩:=(h2.ext hA0).row hx
  obtain ⟨b,d,za,zc,zb,zd,ze,zp,hRb,hnb,hxb⟩:=p4.open
  replace hnb:=hnb.blt.mono (F':=fun k=>k<w'.heap.size) (fun k hk=>hk.2)
  replace hxb:=hxb.blt.mono (F':=fun k=>k<w'.heap.size) (fun k hk=>hk.2)
  clear q4 p4
  first|refine zzr fun K hK=>?_|refine zzt fun K hK=>?_
  simp [go_sem,za0,za2,za1,hB1.cell,hB2.cell,g2,g3,g17,g18,g19, k1,hlt]
  refine hK _ _ ?_;clear hK K
  refine zad (fun K3 hK3=>?_)
  refine zao (t:=true) (by simp [go_sem,za0,za2,za1,hB1.cell,hB2.cell,g2,g3,g17,g18,g19,k1,hlt]) rfl ?_
  refine zae ?_
  refine hK3 _ _ ?_
  refine zad (fun K4 hK4=>?_)
  refine zag ?_
  first|refine zzr fun K hK=>?_|refine zzt fun K hK=>?_
  simp [go_sem,za0,hB1.cell,hB2.cell,g2,g3,g17,g18,g19, k1,hlt,q1,q2,q3]
  refine zar (by simp [go_sem,za0,hB1.cell,hB2.cell,g2,g3,g17,g18,g19]) rfl zcC (fun w20 b20 hE20 hle20 hB20=>?_)
  have hb20_0:=Nat.le_trans hA0.size hle20
  have hd1_20:b1≠b20:=Nat.ne_of_lt (Nat.lt_of_lt_of_le hB1.lt hle20)
  have hd2_20:b2≠b20:=Nat.ne_of_lt (Nat.lt_of_lt_of_le hB2.lt hle20)
  replace hA0:=hA0.next hE20
  replace hB1:=hB1.keep hE20
  replace hB2:=hB2.keep hE20
  replace hna:=hna.ext hE20
  replace hxa:=hxa.ext hE20
  replace hnb:=hnb.ext hE20
  replace hxb:=hxb.ext hE20
  simp [go_sem,za0,hB1.cell,hB2.cell,g2,g3,g17,g18,g19,hB20.cell]
  refine za7 (b:=b20) (off:=0) [.int .i64 x.kind,.slice a x.names.length c,.int .i64 x.expr.kind,.string ⟨x.expr.name.toArray⟩,.bool x.expr.neg,.slice ya x.expr.num.length yc,.slice yb x.expr.den.length yd,.slice ye x.expr.args.length yp,.int .i64 x.expr.pos,.int .i64 x.pos] (by simp [go_sem,za0,hB1.cell,hB2.cell,g2,g3,g17,g18,g19,hB20.cell,k1,hlt,q1,q2,q3]) rfl (by simp [go_sem,za0,hB1.cell,hB2.cell,g2,g3,g17,g18,g19,hB20.cell,k1,hlt,q1,q2,q3]) (by simp [go_sem,Value.cells,za0,hB1.cell,hB2.cell,g2,g3,g17,g18,g19,hB20.cell,k1,hlt,q1,q2,q3]) zbG hB20 (by simp) (by simp [Value.oneCell']) (by decide) (fun w21 hS21 hB21=>?_)
  simp [zaD] at hB21
  replace hA0:=hA0.nextS hS21 (by first|exact hb20_0|omega)
  replace hna:=hna.ch (Ch.of_sto hS21 (NL.of_bx hB20 (by intro u hu x e;subst e;simp at hu))) (by intro k hk e;subst e;first|exact hk.2 rfl|omega)
  replace hxa:=hxa.ch (Ch.of_sto hS21 (NL.of_bx hB20 (by intro u hu x e;subst e;simp at hu))) (by intro k hk e;subst e;first|exact hk.2 rfl|omega)
  replace hnb:=hnb.ch (Ch.of_sto hS21 (NL.of_bx hB20 (by intro u hu x e;subst e;simp at hu))) (by intro k hk e;subst e;first|exact hk.2 rfl|omega)
  replace hxb:=hxb.ch (Ch.of_sto hS21 (NL.of_bx hB20 (by intro u hu x e;subst e;simp at hu))) (by intro k hk e;subst e;first|exact hk.2 rfl|omega)
  replace hB1:=hB1.sto hS21 (by first|exact hd1_20|exact (hd20_1).symm)
  replace hB2:=hB2.sto hS21 (by first|exact hd2_20|exact (hd20_2).symm)
  simp [go_sem,za0,hB1.cell,hB2.cell,g2,g3,g17,g18,g19,hB21.cell,k1,hlt,q1,q2,q3]
  refine hK _ _ ?_;clear hK K
  obtain ⟨Rb',hRb',p1,p2,_,_⟩:=(h2.ext hA0).row hx
  rw [Option.some.inj (hRb'.symm.trans hRb0),hRb] at p1
  first|refine zzr fun K hK=>?_|refine zzt fun K hK=>?_
  simp [go_sem,za0,hB1.cell,hB2.cell,g2,g3,g17,g18,g19,hB21.cell, k1,hlt,p1,p2,p3]
  refine zar (by simp [go_sem,za0,hB1.cell,hB2.cell,g2,g3,g17,g18,g19,hB21.cell]) rfl zcC (fun w30 b30 hE30 hle30 hB30=>?_)
  have hb30_0:=Nat.le_trans hA0.size hle30
  have hd1_30:b1≠b30:=Nat.ne_of_lt (Nat.lt_of_lt_of_le hB1.lt hle30)
  have hd2_30:b2≠b30:=Nat.ne_of_lt (Nat.lt_of_lt_of_le hB2.lt hle30)
  have hd20_30:b20≠b30:=Nat.ne_of_lt (Nat.lt_of_lt_of_le hB21.lt hle30)
  replace hA0:=hA0.next hE30
  replace hB1:=hB1.keep hE30
  replace hB2:=hB2.keep hE30
  replace hB21:=hB21.keep hE30
  replace hna:=hna.ext hE30
  replace hxa:=hxa.ext hE30
  replace hnb:=hnb.ext hE30
  replace hxb:=hxb.ext hE30
  simp [go_sem,za0,hB1.cell,hB2.cell,g2,g3,g17,g18,g19,hB21.cell,hB30.cell]
  have h30:w'.heap.size≤b30:=by have:=hE20.size;have:=hS21.size;omega
  refine za7 (b:=b30) (off:=0) [.int .i64 x.kind,.slice b x.names.length d,.int .i64 x.expr.kind,.string ⟨x.expr.name.toArray⟩,.bool x.expr.neg,.slice za x.expr.num.length zc,.slice zb x.expr.den.length zd,.slice ze x.expr.args.length zp,.int .i64 x.expr.pos,.int .i64 x.pos] (by simp [go_sem,za0,hB1.cell,hB2.cell,g2,g3,g17,g18,g19,hB21.cell,hB30.cell,k1,hlt,p1,p2,p3]) rfl (by simp [go_sem,za0,hB1.cell,hB2.cell,g2,g3,g17,g18,g19,hB21.cell,hB30.cell,k1,hlt,p1,p2,p3]) (by simp [go_sem,Value.cells,za0,hB1.cell,hB2.cell,g2,g3,g17,g18,g19,hB21.cell,hB30.cell,k1,hlt,p1,p2,p3]) zbG hB30 (by simp) (by simp [Value.oneCell']) (by decide) (fun w31 hS31 hB31=>?_)
  simp [zaD] at hB31
  replace hA0:=hA0.nextS hS31 (by first|exact hb30_0|omega)
  replace hna:=hna.ch (Ch.of_sto hS31 (NL.of_bx hB30 (by intro u hu x e;subst e;simp at hu))) (by intro k hk e;subst e;first|exact hk.2 rfl|omega)
  replace hxa:=hxa.ch (Ch.of_sto hS31 (NL.of_bx hB30 (by intro u hu x e;subst e;simp at hu))) (by intro k hk e;subst e;first|exact hk.2 rfl|omega)
  replace hnb:=hnb.ch (Ch.of_sto hS31 (NL.of_bx hB30 (by intro u hu x e;subst e;simp at hu))) (by intro k hk e;subst e;first|exact hk.2 rfl|omega)
  replace hxb:=hxb.ch (Ch.of_sto hS31 (NL.of_bx hB30 (by intro u hu x e;subst e;simp at hu))) (by intro k hk e;subst e;first|exact hk.2 rfl|omega)
  replace hB1:=hB1.sto hS31 (by first|exact hd1_30|exact (hd30_1).symm)
  replace hB2:=hB2.sto hS31 (by first|exact hd2_30|exact (hd30_2).symm)
  replace hB21:=hB21.sto hS31 (by first|exact hd20_30|exact (hd30_20).symm)
  simp [go_sem,za0,hB1.cell,hB2.cell,g2,g3,g17,g18,g19,hB21.cell,hB31.cell,k1,hlt,p1,p2,p3]
  refine hK _ _ ?_;clear hK K
  refine zad (fun K5 hK5=>?_)
  first|refine zzr fun K hK=>?_|refine zzt fun K hK=>?_
  simp [go_sem,za0,hB1.cell,hB2.cell,g2,g3,g17,g18,g19,hB21.cell,hB31.cell,za2,za1]
  refine za5 (by simp [go_sem,za0,hB1.cell,hB2.cell,g2,g3,g17,g18,g19,hB21.cell,hB31.cell,za2,za1]) rfl Try.call28 (fun R hR=>?_)
  simp [go_sem,za0,hB1.cell,hB2.cell,g2,g3,g17,g18,g19,hB21.cell,hB31.cell,za2,za1]
  refine (zdf x.expr _ _ _ _ _ hxa hxb).mono ?_
  rintro e w40 ⟨rfl,hE40⟩
  refine ⟨_,rfl,hR _ _ ?_⟩
  clear hR R
  replace hA0:=hA0.next hE40
  replace hB1:=hB1.keep hE40
  replace hB2:=hB2.keep hE40
  replace hB21:=hB21.keep hE40
  replace hB31:=hB31.keep hE40
  replace hna:=hna.ext hE40
  replace hxa:=hxa.ext hE40
  replace hnb:=hnb.ext hE40
  replace hxb:=hxb.ext hE40
  simp [go_sem,za0,hB1.cell,hB2.cell,g2,g3,g17,g18,g19,hB21.cell,hB31.cell,za2,za1]
  refine hK _ _ ?_;clear hK K
  refine zao (t:=false) (by simp [go_sem,za0,hB1.cell,hB2.cell,g2,g3,g17,g18,g19,hB21.cell,hB31.cell,za2,za1]) rfl ?_
  refine zae ?_
  refine hK5 _ _ ?_
  first|refine zzr fun K hK=>?_|refine zzt fun K hK=>?_
  simp [go_sem,za0,hB1.cell,hB2.cell,g2,g3,g17,g18,g19,hB21.cell,hB31.cell,za2,za1]
  refine hK _ _ ?_;clear hK K
  refine zag ?_
  refine zaJ (fun m' g w''=>Below w.heap.size w w''∧Bx w'' b1 #[.slice a1 l.length c1] 25∧Bx w'' b2 #[.slice a2 l.length c2] 25∧Bx w'' b20 #[.int .i64 x.kind,.slice a x.names.length c,.int .i64 x.expr.kind,.string ⟨x.expr.name.toArray⟩,.bool x.expr.neg,.slice ya x.expr.num.length yc,.slice yb x.expr.den.length yd,.slice ye x.expr.args.length yp,.int .i64 x.expr.pos,.int .i64 x.pos] 40∧Bx w'' b30 #[.int .i64 x.kind,.slice b x.names.length d,.int .i64 x.expr.kind,.string ⟨x.expr.name.toArray⟩,.bool x.expr.neg,.slice za x.expr.num.length zc,.slice zb x.expr.den.length zd,.slice ze x.expr.args.length zp,.int .i64 x.expr.pos,.int .i64 x.pos] 40∧NmS w'' (fun k=>k<w'.heap.size) a x.names∧NmS w'' (fun k=>k<w'.heap.size) b x.names∧∃ q:Nat,q≤x.names.length∧m'=x.names.length-q∧g 2 = .pointer (some ⟨b1,0,none⟩)∧g 3 = .pointer (some ⟨b2,0,none⟩)∧g 6 = .pointer (some ⟨b20,0,none⟩)∧g 7 = .pointer (some ⟨b30,0,none⟩)∧g 17 = .slice a1 l.length c1∧g 18 = .int .i64 l.length∧g 19 = .int .i64 j∧g 53 = .int .i64 x.names.length∧g 54 = .int .i64 q) x.names.length ?_ ?_
  ·exact ⟨hA0,hB1,hB2,hB21,hB31,hna,hnb,0,by omega,rfl,by simp [go_sem,g2],by simp [go_sem,g3],by simp [go_sem],by simp [go_sem],by simp [go_sem,g17],by simp [go_sem,g18],by simp [go_sem,g19],by simp [go_sem],by simp [go_sem]⟩
  have hml:=hna.max
  unfold maxLen at hml
  clear hA0 hB1 hB2 hB21 hB31 hna hnb hxa hxb p1 p2 p3 q1 q2 q3 g2 g3 g17 g18 g19
  rintro m' g w'' ⟨hA0,hB1,hB2,hB20,hB30,hna,hnb,q,hq,rfl,g2,g3,g6,g7,g17,g18,g19,g53,g54⟩
  by_cases hlq:q<x.names.length
  ·have k2:(q:Int)<x.names.length:=by omega
   have hw2:IntKind.i64.wrap ((q:Int)+1)=(q+1:Nat):=by rw [IntWalk.i64_in _ (by omega)];omega
   obtain ⟨u1,u2⟩:=(hna.ext (Below.drew1 _)).at hlq
   obtain ⟨v1,v2⟩:=(hnb.ext (Below.drew1 _)).at hlq
   generalize x.names.getD q []=z at u1 v1
   first|refine zzr fun K hK=>?_|refine zzt fun K hK=>?_
   simp [go_sem,za0,g2,g3,g17,g18,g19,za2,za1,hB1.cell,hB2.cell,hB20.cell,hB30.cell,g6,g7,g53,g54, k2,hlq]
   refine hK _ _ ?_;clear hK K
   refine zad (fun K6 hK6=>?_)
   refine zao (t:=true) (by simp [go_sem,za0,g2,g3,g17,g18,g19,za2,za1,hB1.cell,hB2.cell,hB20.cell,hB30.cell,g6,g7,g53,g54,k2,hlq]) rfl ?_
   refine zae ?_
   refine hK6 _ _ ?_
   refine zad (fun K7 hK7=>?_)
   refine zag ?_
   first|refine zzr fun K hK=>?_|refine zzt fun K hK=>?_
   simp [go_sem,za0,g2,g3,g17,g18,g19,za2,za1,hB1.cell,hB2.cell,hB20.cell,hB30.cell,g6,g7,g53,g54]
   refine hK _ _ ?_;clear hK K
   have hD41:=Below.drew1 w''
   replace hA0:=hA0.next hD41
   replace hB1:=hB1.keep hD41
   replace hB2:=hB2.keep hD41
   replace hB20:=hB20.keep hD41
   replace hB30:=hB30.keep hD41
   replace hna:=hna.ext hD41
   replace hnb:=hnb.ext hD41
   first|refine W_rd [(0,0),(1,0),(2,0),(3,0),(4,0),(5,0),(6,0),(7,0),(8,0),(9,0),(10,0)] (by kernel_rfl) (by kernel_rfl) (fun K hK=>?_)|refine zbC [(0,0),(1,0),(2,0),(3,0),(4,0),(5,0),(6,0),(7,0),(8,0),(9,0),(10,0)] (by kernel_rfl) (by kernel_rfl) (fun K hK=>?_)
   simp [go_sem,za0,g2,g3,g17,g18,g19,za2,za1,hB1.cell,hB2.cell,hB20.cell,hB30.cell,g6,g7,g53,g54, k2,hlq,u1,u2,v1,v2]
   refine hK _ _ ?_;clear hK K
   refine zao (t:=false) (by simp [go_sem,za0,g2,g3,g17,g18,g19,za2,za1,hB1.cell,hB2.cell,hB20.cell,hB30.cell,g6,g7,g53,g54]) rfl ?_
   refine zae ?_
   refine hK7 _ _ ?_
   refine zzt fun K hK=>?_
   simp [go_sem,g54,hw2]
   refine hK _ _ ⟨x.names.length-(q+1),by omega,hA0,hB1,hB2,hB20,hB30,hna,hnb,q+1,by omega,rfl,by simp [go_sem,g2],by simp [go_sem,g3],by simp [go_sem,g6],by simp [go_sem,g7],by simp [go_sem,g17],by simp [go_sem,g18],by simp [go_sem,g19],by simp [go_sem,g53],by simp [go_sem]⟩
  ·have k2:¬(q:Int)<x.names.length:=by omega
   first|refine zzr fun K hK=>?_|refine zzt fun K hK=>?_
   simp [go_sem,za0,g2,g3,g17,g18,g19,za2,za1,hB1.cell,hB2.cell,hB20.cell,hB30.cell,g6,g7,g53,g54, k2,hlq]
   refine hK _ _ ?_;clear hK K
   refine zad (fun K6 hK6=>?_)
   refine zao (t:=false) (by simp [go_sem,za0,g2,g3,g17,g18,g19,za2,za1,hB1.cell,hB2.cell,hB20.cell,hB30.cell,g6,g7,g53,g54,k2,hlq]) rfl ?_
   refine zaB ?_
   repeat (first|refine zak ?_|refine za9 rfl ?_|refine zac ?_)
   refine hK4 _ _ ?_
   refine zzt fun K hK=>?_
   simp [go_sem,g19,hw1]
   refine hK _ _ ⟨l.length-(j+1),by omega,hA0,hB1,hB2,j+1,by omega,rfl,by simp [go_sem,g2],by simp [go_sem,g3],by simp [go_sem,g17],by simp [go_sem,g18],by simp [go_sem]⟩
 ·have k1:¬(j:Int)<l.length:=by omega
  first|refine zzr fun K hK=>?_|refine zzt fun K hK=>?_
  simp [go_sem,za0,za2,za1,hB1.cell,hB2.cell,g2,g3,g17,g18,g19, k1,hlt]
  refine hK _ _ ?_;clear hK K
  refine zad (fun K3 hK3=>?_)
  refine zao (t:=false) (by simp [go_sem,za0,za2,za1,hB1.cell,hB2.cell,g2,g3,g17,g18,g19,k1,hlt]) rfl ?_
  refine zaB ?_
  repeat (first|refine zak ?_|refine za9 rfl ?_|refine zac ?_)
  refine hK2 _ _ ?_
  first|refine zzr fun K hK=>?_|refine zzt fun K hK=>?_
  simp [go_sem,za0,za2,za1,hB1.cell,hB2.cell,g2,g3,g17,g18,g19]
  refine hK _ _ ?_;clear hK K
  refine zal ?_
  repeat (first|refine za4 ?_|refine za3 ?_)
  refine ⟨trivial,?_,hA0⟩
  simp [go_sem,zaw,zav]
theorem SXS.at {w:World} {F:Nat→Prop} {ad:Option Addr} {xs:List Stm} {rows:List (List Value)} (h:SXS w F ad xs rows) {i:Nat} {x:Stm} (hx:xs[i]? = some x) :
  ∃ (lb lo:Nat) (E:List Value),ad=some ⟨lb,lo,none⟩∧w.cell? ⟨lb,lo+i*10+9,none⟩=some (.int .i64 x.pos)∧za2 w ⟨lb,lo+i*10+2,none⟩ 0 7=E∧za1 w ⟨lb,lo+i*10+2,none⟩ 0 7∧EX w F E x.expr:=by
 have hi:i<rows.length:=by rw [h.rs.len];exact (List.getElem?_eq_some_iff.1 hx).1
 obtain ⟨R,hR⟩:∃ R,rows[i]? = some R:=⟨_,List.getElem?_eq_getElem hi⟩
 have hall:=h.rs.all
 have hfl:=zc1 hall
 have hrow:=zcT hall hR
 have hle:i*10+2+7≤rows.flatten.length:=by rw [hfl];omega
 obtain ⟨q1,q2,q3⟩:=h.sl.row (i*10+2) 7 hle (by decide)
 obtain ⟨a,c,E,hRE,hn,hE⟩:=h.rs.he i R x hR hx
 have hEl:=hE.len
 have h2:(rows.flatten.drop (i*10+2)).take 7=E:=by
  have e1:(rows.flatten.drop (i*10+2)).take 7=((((rows.flatten.drop (i*10)).take 10).drop 2).take 7):=by
   rw [List.drop_take,List.drop_drop,List.take_take];rfl
  rw [e1,hrow,hRE]
  simp [List.take_append_of_le_length,hEl]
 have h9:rows.flatten[i*10+9]? = some (.int .i64 x.pos):=by
  have h4:((rows.flatten.drop (i*10)).take 10)[9]? = some (.int .i64 x.pos):=by
   rw [hrow,hRE,List.getElem?_cons_succ,List.getElem?_cons_succ,List.getElem?_append_right (by omega),hEl];rfl
  rwa [List.getElem?_take_of_lt (by decide),List.getElem?_drop] at h4
 rcases h.sl with h0|⟨lb,lo,e,hc⟩
 ·rw [h0] at hle;simp at hle
 ·subst e
  simp only [Option.getD_some,za0] at q1 q2
  refine ⟨lb,lo,E,rfl,?_,?_,?_,hE⟩
  ·have:=hc _ _ h9
   rwa [←Nat.add_assoc] at this
  ·rw [←h2,←q1,←Nat.add_assoc]
  ·rw [←Nat.add_assoc] at q2;exact q2
set_option maxHeartbeats 4000000 in
theorem sameProg_any (l:List Stm) (w:World) (F1 F2:Nat→Prop) (a1 a2:Option Addr) (c1 c2:Nat) (rows1 rows2:List (List Value)) (h1:SXS w F1 a1 l rows1) (h2:SXS w F2 a2 l rows2) :
  Calls Try.prog 8 #[.agg #[.slice a1 l.length c1],.agg #[.slice a2 l.length c2]] w fun e w'=>e = .returned (.bool true)∧Below w.heap.size w w':=by
 have hal:=h1.max
 unfold maxLen at hal
 refine za8 (args:=[.agg #[.slice a1 l.length c1],.agg #[.slice a2 l.length c2]]) (rs:=[.tmp 4]) (n:=46) Try.func8 rfl rfl rfl (by kernel_rfl) ?_
 have hA0:=Below.refl w.heap.size w
 first|refine zzr fun K hK=>?_|refine zzt fun K hK=>?_
 simp [go_sem,za0,za2,za1]
 refine zbF #[.slice a1 l.length c1] (by simp [go_sem,za0,za2,za1]) rfl (by simp [go_sem,Value.cells,za0,za2,za1]) (fun w1 b1 hE1 hle1 hB1=>?_)
 have hb1_0:=Nat.le_trans hA0.size hle1
 replace hA0:=hA0.next hE1
 simp [go_sem,za0,za2,za1,hB1.cell]
 refine zbF #[.slice a2 l.length c2] (by simp [go_sem,za0,za2,za1,hB1.cell]) rfl (by simp [go_sem,Value.cells,za0,za2,za1,hB1.cell]) (fun w2 b2 hE2 hle2 hB2=>?_)
 have hb2_0:=Nat.le_trans hA0.size hle2
 have hd1_2:b1≠b2:=Nat.ne_of_lt (Nat.lt_of_lt_of_le hB1.lt hle2)
 replace hA0:=hA0.next hE2
 replace hB1:=hB1.keep hE2
 simp [go_sem,za0,za2,za1,hB1.cell,hB2.cell]
 refine hK _ _ ?_;clear hK K
 refine zad (fun K1 hK1=>?_)
 first|refine zzr fun K hK=>?_|refine zzt fun K hK=>?_
 simp [go_sem,za0,za2,za1,hB1.cell,hB2.cell]
 refine za5 (by simp [go_sem,za0,za2,za1,hB1.cell,hB2.cell]) rfl Try.call15 (fun R hR=>?_)
 simp [go_sem,za0,za2,za1,hB1.cell,hB2.cell]
 refine (equalProg_any l _ _ _ _ _ _ _ _ _ (h1.ext hA0) (h2.ext hA0)).mono ?_
 rintro e w3 ⟨rfl,hE3⟩
 refine ⟨_,rfl,hR _ _ ?_⟩
 clear hR R
 replace hA0:=hA0.next hE3
 replace hB1:=hB1.keep hE3
 replace hB2:=hB2.keep hE3
 simp [go_sem,za0,za2,za1,hB1.cell,hB2.cell]
 refine hK _ _ ?_;clear hK K
 refine zao (t:=false) (by simp [go_sem,za0,za2,za1,hB1.cell,hB2.cell]) rfl ?_
 refine zae ?_
 refine hK1 _ _ ?_
 refine zad (fun K2 hK2=>?_)
 first|refine zzr fun K hK=>?_|refine zzt fun K hK=>?_
 simp [go_sem,za0,za2,za1,hB1.cell,hB2.cell]
 refine hK _ _ ?_;clear hK K
 refine zag ?_
 refine zaJ (fun m' g w'=>Below w.heap.size w w'∧Bx w' b1 #[.slice a1 l.length c1] 25∧Bx w' b2 #[.slice a2 l.length c2] 25∧∃ j:Nat,j≤l.length∧m'=l.length-j∧g 2 = .pointer (some ⟨b1,0,none⟩)∧g 3 = .pointer (some ⟨b2,0,none⟩)∧g 12 = .int .i64 l.length∧g 13 = .int .i64 j) l.length ?_ ?_
 ·exact ⟨hA0,hB1,hB2,0,by omega,rfl,by simp [go_sem],by simp [go_sem],by simp [go_sem],by simp [go_sem]⟩
 clear hA0 hB1 hB2
 rintro m' g w' ⟨hA0,hB1,hB2,j,hj,rfl,g2,g3,g12,g13⟩
 by_cases hlt:j<l.length
 ·have k1:(j:Int)<l.length:=by omega
  have hw1:IntKind.i64.wrap ((j:Int)+1)=(j+1:Nat):=by rw [IntWalk.i64_in _ (by omega)];omega
  obtain ⟨x,hx⟩:∃ x,l[j]? = some x:=⟨_,List.getElem?_eq_getElem hlt⟩
  have hAd:=hA0.next (Below.drew1 w')
  obtain ⟨lb,lo,Ea,e1,q1,q2,q3,q4⟩:=(h1.ext hAd).at hx
  obtain ⟨mb,mo,Eb,e2,p1,p2,p3,p4⟩:=(h2.ext hAd).at hx
  subst e1;subst e2
  have hrec:=sameExpr_any x.expr w'.drew _ _ Ea Eb q4 p4
  first|refine zzr fun K hK=>?_|refine zzt fun K hK=>?_
  simp [go_sem,za0,za2,za1,hB1.cell,hB2.cell,g2,g3,g12,g13, k1,hlt]
  refine hK _ _ ?_;clear hK K
  refine zad (fun K3 hK3=>?_)
  refine zao (t:=true) (by simp [go_sem,za0,za2,za1,hB1.cell,hB2.cell,g2,g3,g12,g13,k1,hlt]) rfl ?_
  refine zae ?_
  refine hK3 _ _ ?_
  refine zad (fun K4 hK4=>?_)
  refine zag ?_
  first|refine zzr fun K hK=>?_|refine zzt fun K hK=>?_
  simp [go_sem,za0,za2,za1,hB1.cell,hB2.cell,g2,g3,g12,g13]
  refine hK _ _ ?_;clear hK K
  have hD4:=Below.drew1 w'
  replace hA0:=hA0.next hD4
  replace hB1:=hB1.keep hD4
  replace hB2:=hB2.keep hD4
  first|refine W_rd [(0,0),(1,0),(2,0),(3,0),(4,0),(5,0),(6,0),(7,0),(8,0),(9,0),(10,0),(11,0),(12,0),(13,0),(14,0),(15,0),(16,0),(17,0),(18,0),(19,0),(20,0),(21,0),(22,0),(23,0),(24,0),(25,0),(26,1),(27,0),(28,0)] (by kernel_rfl) (by kernel_rfl) (fun K hK=>?_)|refine zbC [(0,0),(1,0),(2,0),(3,0),(4,0),(5,0),(6,0),(7,0),(8,0),(9,0),(10,0),(11,0),(12,0),(13,0),(14,0),(15,0),(16,0),(17,0),(18,0),(19,0),(20,0),(21,0),(22,0),(23,0),(24,0),(25,0),(26,1),(27,0),(28,0)] (by kernel_rfl) (by kernel_rfl) (fun K hK=>?_)
  simp [go_sem,za0,hB1.cell,hB2.cell,g2,g3,g12,g13, k1,hlt,q1,q2,q3,p1,p2,p3]
  refine za5 (by simp [go_sem,za0,hB1.cell,hB2.cell,g2,g3,g12,g13,za2,za1,k1,hlt]) rfl Try.call16 (fun R hR=>?_)
  simp [go_sem,za0,hB1.cell,hB2.cell,g2,g3,g12,g13,za2,za1,k1,hlt]
  refine (hrec).mono ?_
  rintro e w5 ⟨rfl,hE5⟩
  refine ⟨_,rfl,(by assumption),hR _ _ ?_⟩
  clear hR R
  replace hA0:=hA0.next hE5
  replace hB1:=hB1.keep hE5
  replace hB2:=hB2.keep hE5
  simp [go_sem,za0,hB1.cell,hB2.cell,g2,g3,g12,g13,za2,za1,k1,hlt]
  refine hK _ _ ?_;clear hK K
  refine zao (t:=false) (by simp [go_sem,za0,hB1.cell,hB2.cell,g2,g3,g12,g13,za2,za1]) rfl ?_
  refine zae ?_
  refine hK4 _ _ ?_
  refine zzt fun K hK=>?_
  simp [go_sem,g13,hw1]
  refine hK _ _ ⟨l.length-(j+1),by omega,hA0,hB1,hB2,j+1,by omega,rfl,by simp [go_sem,g2],by simp [go_sem,g3],by simp [go_sem,g12],by simp [go_sem]⟩
 ·have k1:¬(j:Int)<l.length:=by omega
  first|refine zzr fun K hK=>?_|refine zzt fun K hK=>?_
  simp [go_sem,za0,za2,za1,hB1.cell,hB2.cell,g2,g3,g12,g13, k1,hlt]
  refine hK _ _ ?_;clear hK K
  refine zad (fun K3 hK3=>?_)
  refine zao (t:=false) (by simp [go_sem,za0,za2,za1,hB1.cell,hB2.cell,g2,g3,g12,g13,k1,hlt]) rfl ?_
  refine zaB ?_
  repeat (first|refine zak ?_|refine za9 rfl ?_|refine zac ?_)
  refine hK2 _ _ ?_
  first|refine zzr fun K hK=>?_|refine zzt fun K hK=>?_
  simp [go_sem,za0,za2,za1,hB1.cell,hB2.cell,g2,g3,g12,g13]
  refine hK _ _ ?_;clear hK K
  refine zal ?_
  repeat (first|refine za4 ?_|refine za3 ?_)
  refine ⟨trivial,?_,hA0⟩
  simp [go_sem,zaw,zav]
theorem mvW_eq (c:Int) (x:Tre):mvW c x = .mk x.kind x.name x.neg x.num x.den (x.args.map (mvW c)) (IntKind.i64.wrap (x.pos+c)):=by
 cases x
 rw [mvW_mk];rfl
def MvPost (w:World) (x:Tre) (e:Ending) (w':World):Prop:=∃ R':List Value,e = .returned (.agg R'.toArray)∧EX w' (fun k=>w.heap.size≤k) R' x∧Below w.heap.size w w'
set_option maxHeartbeats 4000000 in
theorem moved_any (x:Tre) (hx:Nar x) (c:Int) (w:World) (F:Nat→Prop) (R:List Value) (h:EX w F R x) :
  Calls Try.prog 7 #[.agg R.toArray,.int .i64 c] w (MvPost w (mvW c x)):=by
 obtain ⟨ya,yc,yb,yd,ye,yp,yrows,rfl,y1,y2,y3,y4,y5,y6⟩:=h.open
 have hal:=hx.len
 obtain ⟨V,hV⟩:∃ V,V=mvW c x:=⟨_,rfl⟩
 rw [←hV]
 rw [mvW_eq] at hV
 obtain ⟨pp,hpp⟩:∃ pp,pp=IntKind.i64.wrap (x.pos+c):=⟨_,rfl⟩
 rw [←hpp] at hV
 have hpp':=hpp.symm
 refine za8 (args:=[.agg #[.int .i64 x.kind,.string ⟨x.name.toArray⟩,.bool x.neg,.slice ya x.num.length yc,.slice yb x.den.length yd,.slice ye x.args.length yp,.int .i64 x.pos],.int .i64 c]) (rs:=[.cell 4 38]) (n:=36) Try.func7 rfl rfl rfl (by kernel_rfl) ?_
 have hA0:=Below.refl w.heap.size w
 first|refine zzr fun K hK=>?_|refine zzt fun K hK=>?_
 simp [go_sem,za0,za2,za1]
 refine zbF #[.int .i64 x.kind,.string ⟨x.name.toArray⟩,.bool x.neg,.slice ya x.num.length yc,.slice yb x.den.length yd,.slice ye x.args.length yp,.int .i64 x.pos] (by simp [go_sem,za0,za2,za1]) rfl (by simp [go_sem,Value.cells,za0,za2,za1]) (fun w1 b1 hE1 hle1 hB1=>?_)
 have hb1_0:=Nat.le_trans hA0.size hle1
 replace hA0:=hA0.next hE1
 simp [go_sem,za0,za2,za1,hB1.cell]
 refine zar (by simp [go_sem,za0,za2,za1,hB1.cell]) rfl zbP (fun w2 b2 hE2 hle2 hB2=>?_)
 have hb2_0:=Nat.le_trans hA0.size hle2
 have hd1_2:b1≠b2:=Nat.ne_of_lt (Nat.lt_of_lt_of_le hB1.lt hle2)
 replace hA0:=hA0.next hE2
 replace hB1:=hB1.keep hE2
 simp [go_sem,za0,za2,za1,hB1.cell,hB2.cell]
 refine hK _ _ ?_;clear hK K
 first|refine zzr fun K hK=>?_|refine zzt fun K hK=>?_
 simp [go_sem,za0,za2,za1,hB1.cell,hB2.cell, hpp']
 refine zap #[.int .i64 x.kind,.string ⟨x.name.toArray⟩,.bool x.neg,.slice ya x.num.length yc,.slice yb x.den.length yd,.slice none 0 0,.int .i64 pp] (by simp [go_sem,hpp',hB1.cell,za0,za2,za1]) rfl zcK [(0,.int .i64 x.kind),(1,.string ⟨x.name.toArray⟩),(2,.agg #[.bool x.neg,.slice ya x.num.length yc,.slice yb x.den.length yd]),(4,.int .i64 pp)] (by simp [go_sem,hpp',hB1.cell,za0,za2,za1]) rfl ?_
 simp [go_sem,hpp',za0]
 refine zar (by simp [go_sem,za0,za2,za1,hB1.cell,hB2.cell,hpp']) rfl zbP (fun w20 b20 hE20 hle20 hB20=>?_)
 have hb20_0:=Nat.le_trans hA0.size hle20
 have hd1_20:b1≠b20:=Nat.ne_of_lt (Nat.lt_of_lt_of_le hB1.lt hle20)
 have hd2_20:b2≠b20:=Nat.ne_of_lt (Nat.lt_of_lt_of_le hB2.lt hle20)
 replace hA0:=hA0.next hE20
 replace hB1:=hB1.keep hE20
 replace hB2:=hB2.keep hE20
 simp [go_sem,za0,za2,za1,hB1.cell,hB2.cell,hB20.cell,hpp']
 refine za7 (b:=b20) (off:=0) [.int .i64 x.kind,.string ⟨x.name.toArray⟩,.bool x.neg,.slice ya x.num.length yc,.slice yb x.den.length yd,.slice none 0 0,.int .i64 pp] (by simp [go_sem,za0,za2,za1,hB1.cell,hB2.cell,hB20.cell,hpp']) rfl (by simp [go_sem,za0,za2,za1,hB1.cell,hB2.cell,hB20.cell,hpp']) (by simp [go_sem,Value.cells,za0,za2,za1,hB1.cell,hB2.cell,hB20.cell,hpp']) zaE hB20 (by simp) (by simp [Value.oneCell']) (by decide) (fun w21 hS21 hB21=>?_)
 simp [zaD] at hB21
 replace hA0:=hA0.nextS hS21 (by first|exact hb20_0|omega)
 replace hB1:=hB1.sto hS21 (by first|exact hd1_20|exact (hd20_1).symm)
 replace hB2:=hB2.sto hS21 (by first|exact hd2_20|exact (hd20_2).symm)
 simp [go_sem,za0,za2,za1,hB1.cell,hB2.cell,hB21.cell,hpp']
 refine hK _ _ ?_;clear hK K
 obtain ⟨N4,hN4⟩:∃ N,N=w21.heap.size:=⟨_,rfl⟩
 have h1N4:=hB1.lt
 have h2N4:=hB2.lt
 have h20N4:=hB21.lt
 rw [←hN4] at h1N4 h2N4 h20N4
 have hwN4:w.heap.size≤N4:=by rw [hN4];exact hA0.size
 refine zad (fun K1 hK1=>?_)
 first|refine zzr fun K hK=>?_|refine zzt fun K hK=>?_
 simp [go_sem,za0,za2,za1,hB1.cell,hB2.cell,hB21.cell]
 refine hK _ _ ?_;clear hK K
 refine zag ?_
 refine zaJ (fun m' g w'=>∃ (j:Nat) (rows:List (List Value)) (va:Option Addr) (vc:Nat),j≤x.args.length∧m'=x.args.length-j∧Below w.heap.size w w'∧N4≤w'.heap.size∧Bx w' b1 #[.int .i64 x.kind,.string ⟨x.name.toArray⟩,.bool x.neg,.slice ya x.num.length yc,.slice yb x.den.length yd,.slice ye x.args.length yp,.int .i64 x.pos] 38∧Bx w' b2 #[.int .i64 0,.string ⟨#[]⟩,.bool false,.slice none 0 0,.slice none 0 0,.slice none 0 0,.int .i64 0] 38∧Bx w' b20 #[.int .i64 x.kind,.string ⟨x.name.toArray⟩,.bool x.neg,.slice ya x.num.length yc,.slice yb x.den.length yd,.slice va j vc,.int .i64 pp] 38∧w'.ownsRow N4 38 7 (.slice va j vc) j rows.flatten∧NB w' (.slice va j vc)∧RXs w' (fun k=>N4≤k∧Value.ownBlock (.slice va j vc)≠some k) rows ((x.args.map (mvW c)).take j)∧g 1 = .int .i64 c∧g 2 = .pointer (some ⟨b1,0,none⟩)∧g 4 = .pointer (some ⟨b2,0,none⟩)∧g 5 = .pointer (some ⟨b20,0,none⟩)∧g 20 = .slice ye x.args.length yp∧g 21 = .int .i64 x.args.length∧g 22 = .int .i64 j) x.args.length ?_ ?_
 ·exact ⟨0,[],none,0,by omega,rfl,hA0,by omega,hB1,hB2,hB21,World.ownsRow_nil _ _ _ _,NB.nil _,RXs.nil _ _,by simp [go_sem],by simp [go_sem],by simp [go_sem],by simp [go_sem],by simp [go_sem],by simp [go_sem],by simp [go_sem]⟩
 clear hA0 hB1 hB2 hB21
 rintro m' g w' ⟨j,rows,va,vc,hj,rfl,hA0,hNs,hB1,hB2,hB20,hown,hnb,hrx,g1,g2,g4,g5,g20,g21,g22⟩
 first|refine zzr fun K hK=>?_|refine zzt fun K hK=>?_
 simp [go_sem,za0,za2,za1,hB1.cell,hB2.cell,hB20.cell,g1,g2,g4,g5,g20,g21,g22]
 refine hK _ _ ?_;clear hK K
 refine zad (fun K2 hK2=>?_)
 by_cases hlt:j<x.args.length
 ·have c1:(j:Int)<x.args.length:=by omega
  have hw1:IntKind.i64.wrap ((j:Int)+1)=(j+1:Nat):=by rw [IntWalk.i64_in _ (by omega)];omega
  obtain ⟨z,hz⟩:∃ z,z=x.args[j]'hlt:=⟨_,rfl⟩
  have hzn:Nar z:=by rw [hz];exact hx.arg (List.getElem_mem _)
  have hzs:SizeOf.sizeOf z<SizeOf.sizeOf x:=by rw [hz];exact Tre.lt_args (List.getElem_mem _)
  have hza:x.args[j]? = some z:=by rw [hz];exact List.getElem?_eq_getElem hlt
  have htk:(x.args.map (mvW c)).take (j+1)=(x.args.map (mvW c)).take j++[mvW c z]:=by
   rw [List.take_add_one,List.getElem?_map,hza];rfl
  obtain ⟨Ra,hRa,q1,q2,q3,q4⟩:=(y3.ext hA0).row hza
  obtain ⟨za,zc,zb,zd,ze,zp,zrows,hRE,_⟩:=q4.open
  rw [hRE] at q1
  replace hrx:=hrx.blt.mono (F':=fun k=>N4≤k∧Value.ownBlock (.slice va j vc)≠some k∧k<w'.heap.size) (fun k hk=>⟨hk.1.1,hk.1.2,hk.2⟩)
  have hownD:=hown
  refine zao (t:=true) (by simp [go_sem,za0,za2,za1,hB1.cell,hB2.cell,hB20.cell,g1,g2,g4,g5,g20,g21,g22,c1,hlt]) rfl ?_
  refine zae ?_
  refine hK2 _ _ ?_
  refine zad (fun K3 hK3=>?_)
  refine zag ?_
  first|refine zzr fun K hK=>?_|refine zzt fun K hK=>?_
  simp [go_sem,za0,hB1.cell,hB2.cell,hB20.cell,g1,g2,g4,g5,g20,g21,g22, c1,hlt,q1,q2,q3]
  refine zar (by simp [go_sem,za0,hB1.cell,hB2.cell,hB20.cell,g1,g2,g4,g5,g20,g21,g22]) rfl zbP (fun w30 b30 hE30 hle30 hB30=>?_)
  have hb30_0:=Nat.le_trans hA0.size hle30
  have hd1_30:b1≠b30:=Nat.ne_of_lt (Nat.lt_of_lt_of_le hB1.lt hle30)
  have hd2_30:b2≠b30:=Nat.ne_of_lt (Nat.lt_of_lt_of_le hB2.lt hle30)
  have hd20_30:b20≠b30:=Nat.ne_of_lt (Nat.lt_of_lt_of_le hB20.lt hle30)
  replace hA0:=hA0.next hE30
  replace hB1:=hB1.keep hE30
  replace hB2:=hB2.keep hE30
  replace hB20:=hB20.keep hE30
  replace hrx:=hrx.ext hE30
  replace hnb:=hnb.keep hE30
  replace hown:=zax hown hE30
  simp [go_sem,za0,hB1.cell,hB2.cell,hB20.cell,g1,g2,g4,g5,g20,g21,g22,hB30.cell]
  have hob30:Value.ownBlock (.slice va j vc)≠some b30:=fun e=>by have:=(hownD.lt b30 e).2;omega
  refine za7 (b:=b30) (off:=0) [.int .i64 z.kind,.string ⟨z.name.toArray⟩,.bool z.neg,.slice za z.num.length zc,.slice zb z.den.length zd,.slice ze z.args.length zp,.int .i64 z.pos] (by simp [go_sem,za0,hB1.cell,hB2.cell,hB20.cell,g1,g2,g4,g5,g20,g21,g22,hB30.cell,c1,hlt,q1,q2,q3]) rfl (by simp [go_sem,za0,hB1.cell,hB2.cell,hB20.cell,g1,g2,g4,g5,g20,g21,g22,hB30.cell,c1,hlt,q1,q2,q3]) (by simp [go_sem,Value.cells,za0,hB1.cell,hB2.cell,hB20.cell,g1,g2,g4,g5,g20,g21,g22,hB30.cell,c1,hlt,q1,q2,q3]) zaE hB30 (by simp) (by simp [Value.oneCell']) (by decide) (fun w31 hS31 hB31=>?_)
  simp [zaD] at hB31
  replace hA0:=hA0.nextS hS31 (by first|exact hb30_0|omega)
  replace hrx:=hrx.ch (Ch.of_sto hS31 (NL.of_bx hB30 (by intro u hu x e;subst e;simp at hu))) (by intro k hk e;subst e;first|exact hk.2 rfl|omega)
  replace hB1:=hB1.sto hS31 (by first|exact hd1_30|exact (hd30_1).symm)
  replace hB2:=hB2.sto hS31 (by first|exact hd2_30|exact (hd30_2).symm)
  replace hB20:=hB20.sto hS31 (by first|exact hd20_30|exact (hd30_20).symm)
  simp [go_sem,za0,hB1.cell,hB2.cell,hB20.cell,g1,g2,g4,g5,g20,g21,g22,hB31.cell,c1,hlt,q1,q2,q3]
  replace hnb:=hnb.grown (zaC hS31) (.inr fun e=>hob30 e)
  replace hown:=ownL_sto hown hS31 hob30
  refine hK _ _ ?_;clear hK K
  have hN31:N4≤w31.heap.size:=by have:=hE30.size;have:=hS31.size;omega
  have hownE:=hown
  have hD32:=Below.drew1 w31
  replace hA0:=hA0.next hD32
  replace hB1:=hB1.keep hD32
  replace hB2:=hB2.keep hD32
  replace hB20:=hB20.keep hD32
  replace hB31:=hB31.keep hD32
  replace hrx:=hrx.ext hD32
  replace hnb:=hnb.keep hD32
  replace hown:=zax hown hD32
  first|refine W_rd [(0,0),(1,0),(2,0),(3,0),(4,1),(5,1),(6,2),(7,0),(8,2)] (by kernel_rfl) (by kernel_rfl) (fun K hK=>?_)|refine zbC [(0,0),(1,0),(2,0),(3,0),(4,1),(5,1),(6,2),(7,0),(8,2)] (by kernel_rfl) (by kernel_rfl) (fun K hK=>?_)
  simp [go_sem,za0,hB1.cell,hB2.cell,hB20.cell,g1,g2,g4,g5,g20,g21,g22,hB31.cell,za2,za1]
  obtain ⟨Rb,hRb,_,_,_,p4⟩:=(y3.ext hA0).row hza
  rw [Option.some.inj (hRb.symm.trans hRa),hRE] at p4
  have hrec:=moved_any z hzn c _ _ _ p4
  refine za5 (by simp [go_sem,za0,hB1.cell,hB2.cell,hB20.cell,g1,g2,g4,g5,g20,g21,g22,hB31.cell,za2,za1]) rfl Try.call7 (fun R hR=>?_)
  simp [go_sem,za0,hB1.cell,hB2.cell,hB20.cell,g1,g2,g4,g5,g20,g21,g22,hB31.cell,za2,za1]
  refine (hrec).mono ?_
  rintro e w40 ⟨Rx,rfl,hxe,hE40⟩
  refine ⟨_,rfl,(by assumption),hR _ _ ?_⟩
  clear hR R
  replace hA0:=hA0.next hE40
  replace hB1:=hB1.keep hE40
  replace hB2:=hB2.keep hE40
  replace hB20:=hB20.keep hE40
  replace hB31:=hB31.keep hE40
  replace hrx:=hrx.ext hE40
  replace hnb:=hnb.keep hE40
  replace hown:=zax hown hE40
  obtain ⟨y,hy⟩:∃ y,y=mvW c z:=⟨_,rfl⟩
  rw [←hy] at hxe htk
  obtain ⟨xa,xc,xb,xd,xad,xcap,xrows,hRx,_⟩:=hxe.open
  subst hRx
  replace hxe:=hxe.mono (F':=fun k=>N4≤k∧Value.ownBlock (.slice va j vc)≠some k∧w31.heap.size≤k) (fun k hk=>by
   have h31:w31.heap.size≤k:=Nat.le_trans (Below.drew1 w31).size hk
   exact ⟨Nat.le_trans hN31 h31,fun e=>by have:=(hownE.lt k e).2;omega,h31⟩)
  simp [go_sem,za0,hB1.cell,hB2.cell,hB20.cell,g1,g2,g4,g5,g20,g21,g22,hB31.cell,za2,za1]
  refine zam #[.int .i64 y.kind,.string ⟨y.name.toArray⟩,.bool y.neg,.slice xa y.num.length xc,.slice xb y.den.length xd,.slice xad y.args.length xcap,.int .i64 y.pos] (by simp [go_sem,za0,hB1.cell,hB2.cell,hB20.cell,g1,g2,g4,g5,g20,g21,g22,hB31.cell,za2,za1]) rfl ty_slZ36 (by decide) [(0,.agg #[.int .i64 y.kind,.string ⟨y.name.toArray⟩,.bool y.neg,.slice xa y.num.length xc,.slice xb y.den.length xd,.slice xad y.args.length xcap,.int .i64 y.pos])] (by simp [go_sem,za0,hB1.cell,hB2.cell,hB20.cell,g1,g2,g4,g5,g20,g21,g22,hB31.cell,za2,za1]) (by kernel_rfl) (fun w50 b50 hE50 hle50 hB50=>?_)
  have hb50_0:=Nat.le_trans hA0.size hle50
  have hd1_50:b1≠b50:=Nat.ne_of_lt (Nat.lt_of_lt_of_le hB1.lt hle50)
  have hd2_50:b2≠b50:=Nat.ne_of_lt (Nat.lt_of_lt_of_le hB2.lt hle50)
  have hd20_50:b20≠b50:=Nat.ne_of_lt (Nat.lt_of_lt_of_le hB20.lt hle50)
  have hd30_50:b30≠b50:=Nat.ne_of_lt (Nat.lt_of_lt_of_le hB31.lt hle50)
  replace hA0:=hA0.next hE50
  replace hB1:=hB1.keep hE50
  replace hB2:=hB2.keep hE50
  replace hB20:=hB20.keep hE50
  replace hB31:=hB31.keep hE50
  replace hrx:=hrx.ext hE50
  replace hxe:=hxe.ext hE50
  replace hnb:=hnb.keep hE50
  replace hown:=zax hown hE50
  simp [go_sem,za0,hB1.cell,hB2.cell,hB20.cell,g1,g2,g4,g5,g20,g21,g22,hB31.cell,za2,za1,hB50.cell]
  have hN50:N4≤w50.heap.size:=Nat.le_trans hN31 (Nat.le_trans (Below.drew1 w31).size (Nat.le_trans hE40.size hE50.size))
  refine zc8 (v:=.slice va j vc) (b:=b50) (len:=1) (c:=1) hB50 (by simp [go_sem]) rfl ty_slZ36 ty_bytes38 rfl (by decide) (by simp [go_sem,za0,hB20.cell,g5]) (by simp [go_sem]) hown rfl (by simp [Value.oneCell']) (by unfold maxLen;omega) (by omega) hN50 (by decide) (by intro u hu x e;subst e;simp at hu) (by intro u hu x e;subst e;simp at hu) hnb (fun v' w60 hown' hg60 hat60 hnb'=>?_)
  obtain ⟨va',vc',rfl⟩:=zbz hown'
  have hob:∀ k,(Value.ownBlock (.slice va j vc))=some k→N4≤k:=fun k e=>(hown.lt k e).1
  replace hrx:=(((hrx.mono (F':=fun k=>N4≤k∧Value.ownBlock (.slice va j vc)≠some k) (fun k hk=>⟨hk.1,hk.2.1⟩)).snoc (hxe.mono (fun k hk=>⟨hk.1,hk.2.1⟩))).blt).ch (Ch.of_grown hg60 (NL.of_nb hnb)) (fun k hk e=>hk.1.2 e)
  replace hrx:=hrx.mono (F':=fun k=>N4≤k∧Value.ownBlock (.slice va' (j+1) vc')≠some k) (fun k hk=>⟨hk.1.1,fun e=>by
   rcases hat60 with h|h
   ·exact hk.1.2 (h▸e)
   ·rw [h] at e;injection e with e;have:=hk.2;omega⟩)
  replace hA0:=hA0.nextG hg60 (fun k e=>by have:=hob k e;omega)
  replace hB1:=hB1.grown hg60 (fun e=>by have:=hob b1 e.symm;omega)
  replace hB2:=hB2.grown hg60 (fun e=>by have:=hob b2 e.symm;omega)
  replace hB20:=hB20.grown hg60 (fun e=>by have:=hob b20 e.symm;omega)
  simp [go_sem,za0,g1,g2,g4,g5,g20,g21,g22,za2,za1,hB1.cell,hB2.cell,hB20.cell]
  refine za7 (b:=b20) (off:=5) [.slice va' (j+1) vc'] (by simp [go_sem,za0,g1,g2,g4,g5,g20,g21,g22,za2,za1,hB1.cell,hB2.cell,hB20.cell]) rfl (by simp [go_sem,za0,g1,g2,g4,g5,g20,g21,g22,za2,za1,hB1.cell,hB2.cell,hB20.cell]) (by simp [go_sem,Value.cells,za0,g1,g2,g4,g5,g20,g21,g22,za2,za1,hB1.cell,hB2.cell,hB20.cell]) ty_size36 hB20 (by simp) (by simp [Value.oneCell']) (by decide) (fun w70 hS70 hB70=>?_)
  simp [zaD] at hB70
  replace hA0:=hA0.nextS hS70 (by first|exact hb20_0|omega)
  replace hrx:=hrx.ch (Ch.of_sto hS70 (NL.of_bx hB20 (by intro u hu x e;subst e;simp at hu))) (by intro k hk e;subst e;first|exact hk.2 rfl|omega)
  replace hnb':=zdI hnb' hown' hS70 (by omega)
  replace hown':=zbr hown' hS70 (by omega)
  replace hB1:=hB1.sto hS70 (by first|exact hd1_20|exact (hd20_1).symm)
  replace hB2:=hB2.sto hS70 (by first|exact hd2_20|exact (hd20_2).symm)
  simp [go_sem,za0,g1,g2,g4,g5,g20,g21,g22,za2,za1,hB1.cell,hB2.cell,hB70.cell]
  refine hK _ _ ?_;clear hK K
  refine hK3 _ _ ?_
  have hN70:N4≤w70.heap.size:=by rw [hS70.size];exact Nat.le_trans hN50 hg60.size
  refine zzt fun K hK=>?_
  simp [go_sem,g22,hw1]
  refine hK _ _ ⟨x.args.length-(j+1),by omega,j+1,rows++[[.int .i64 y.kind,.string ⟨y.name.toArray⟩,.bool y.neg,.slice xa y.num.length xc,.slice xb y.den.length xd,.slice xad y.args.length xcap,.int .i64 y.pos]],va',vc',by omega,rfl,hA0,hN70,hB1,hB2,hB70,by simpa using hown',hnb',by rw [htk];exact hrx,by simp [go_sem,g1],by simp [go_sem,g2],by simp [go_sem,g4],by simp [go_sem,g5],by simp [go_sem,g20],by simp [go_sem,g21],by simp [go_sem]⟩
 ·have c1:¬(j:Int)<x.args.length:=by omega
  have hje:j=x.args.length:=by omega
  rw [List.take_of_length_le (by simp;omega)] at hrx
  refine zao (t:=false) (by simp [go_sem,za0,za2,za1,hB1.cell,hB2.cell,hB20.cell,g1,g2,g4,g5,g20,g21,g22,c1,hlt]) rfl ?_
  refine zaB ?_
  repeat (first|refine zak ?_|refine za9 rfl ?_|refine zac ?_)
  refine hK1 _ _ ?_
  first|refine zzr fun K hK=>?_|refine zzt fun K hK=>?_
  simp [go_sem,za0,za2,za1,hB1.cell,hB2.cell,hB20.cell,g1,g2,g4,g5,g20,g21,g22]
  refine za7 (b:=b2) (off:=0) [.int .i64 x.kind,.string ⟨x.name.toArray⟩,.bool x.neg,.slice ya x.num.length yc,.slice yb x.den.length yd,.slice va j vc,.int .i64 pp] (by simp [go_sem,za0,za2,za1,hB1.cell,hB2.cell,hB20.cell,g1,g2,g4,g5,g20,g21,g22]) rfl (by simp [go_sem,za0,za2,za1,hB1.cell,hB2.cell,hB20.cell,g1,g2,g4,g5,g20,g21,g22]) (by simp [go_sem,Value.cells,za0,za2,za1,hB1.cell,hB2.cell,hB20.cell,g1,g2,g4,g5,g20,g21,g22]) zaE hB2 (by simp) (by simp [Value.oneCell']) (by decide) (fun w80 hS80 hB80=>?_)
  simp [zaD] at hB80
  replace hA0:=hA0.nextS hS80 (by first|exact hb2_0|omega)
  replace hrx:=hrx.ch (Ch.of_sto hS80 (NL.of_bx hB2 (by intro u hu x e;subst e;simp at hu))) (by intro k hk e;subst e;first|exact hk.2 rfl|omega)
  replace hnb:=zdI hnb hown hS80 (by omega)
  replace hown:=zbr hown hS80 (by omega)
  replace hB1:=hB1.sto hS80 (by first|exact hd1_2|exact (hd2_1).symm)
  replace hB20:=hB20.sto hS80 (by first|exact hd20_2|exact (hd2_20).symm)
  simp [go_sem,za0,za2,za1,hB1.cell,hB20.cell,g1,g2,g4,g5,g20,g21,g22,hB80.cell]
  refine hK _ _ ?_;clear hK K
  refine zal ?_
  repeat (first|refine za4 ?_|refine za3 ?_)
  have hex:=own_exs (F:=fun k=>w.heap.size≤k) (xs:=x.args.map (mvW c)) (by rw [List.length_map,←hje];exact hown) (hrx.mono (fun k hk=>Nat.le_trans hwN4 hk.1)) (by rw [List.length_map];unfold maxLen;omega) (fun k hk=>Nat.le_trans hwN4 hk)
  rw [hV]
  refine ⟨by simp [go_sem,zb6,zav,za2,za1,za0,hB80.cell,g4],?_⟩
  refine ⟨_,?_,EX.mk (cap:=vc) (y1.ext hA0) (y2.ext hA0) ⟨y5,y6⟩ hex.sl hex.fs hex.len y4 hex.max hex.he,hA0⟩
  simp [go_sem,zaw,zav,za2,za1,za0,hB80.cell,g4,hje]
termination_by SizeOf.sizeOf x
theorem SXS.nm {w:World} {F:Nat→Prop} {ad:Option Addr} {xs:List Stm} {rows:List (List Value)} (h:SXS w F ad xs rows) {i:Nat} {x:Stm} (hx:xs[i]? = some x) :
  ∃ (lb lo:Nat) (a:Option Addr) (c:Nat),ad=some ⟨lb,lo,none⟩∧w.cell? ⟨lb,lo+i*10+1,none⟩=some (.slice a x.names.length c)∧NmS w F a x.names:=by
 have hi:i<rows.length:=by rw [h.rs.len];exact (List.getElem?_eq_some_iff.1 hx).1
 obtain ⟨R,hR⟩:∃ R,rows[i]? = some R:=⟨_,List.getElem?_eq_getElem hi⟩
 have hall:=h.rs.all
 have hfl:=zc1 hall
 have hrow:=zcT hall hR
 have hle:i*10+10≤rows.flatten.length:=by rw [hfl];omega
 obtain ⟨a,c,E,hRE,hn,hE⟩:=h.rs.he i R x hR hx
 have h1:rows.flatten[i*10+1]? = some (.slice a x.names.length c):=by
  have h4:((rows.flatten.drop (i*10)).take 10)[1]? = some (.slice a x.names.length c):=by rw [hrow,hRE];rfl
  rwa [List.getElem?_take_of_lt (by decide),List.getElem?_drop] at h4
 rcases h.sl with h0|⟨lb,lo,e,hc⟩
 ·rw [h0] at hle;simp at hle
 ·subst e
  refine ⟨lb,lo,a,c,rfl,?_,hn⟩
  have:=hc _ _ h1
  rwa [←Nat.add_assoc] at this
theorem ProgPost.open' {w w':World} {r:List Stm × Int × Int} {e:Ending} (h:ProgPost w r e w'):∃ (a:Option Addr) (c:Nat) (rows:List (List Value)),e = .returned (.tuple #[.agg #[.slice a r.1.length c],.int .i64 r.2.1,.int .i64 r.2.2])∧SXS w' (fun _=>True) a r.1 rows∧Below w.heap.size w w':=by
 obtain ⟨a,c,rows,rfl,h1,h2,h3,h4,h5⟩:=h
 exact ⟨a,c,rows,rfl,⟨zca h1,by unfold maxLen;omega,h3.mono (fun _ _=>trivial)⟩,h5⟩
def AWB:ByteArray:=⟨#[112,111,105,110,116,115,32,65,44,32,66,59]⟩
theorem awb_2:(progV AWB).2=(0,0):=by decide +kernel
theorem awb_1:(progV AWB).1.map (fun s=>s.names)=[[[65],[66]]]:=by decide +kernel
set_option maxHeartbeats 2000000 in
theorem zcH (w:World):Calls Try.prog 5 #[] w fun e w'=>e = .returned (.bool true)∧Below w.heap.size w w':=by
 obtain ⟨⟨l,p,q⟩,hr⟩:∃ r:List Stm × Int × Int,progV AWB=r:=⟨_,rfl⟩
 have h2:=awb_2
 have h1:=awb_1
 rw [hr] at h1 h2
 simp only [Prod.mk.injEq] at h1 h2
 obtain ⟨rfl,rfl⟩:=h2
 have k1:∀ w,Calls Try.prog 6 #[.string ⟨#[112,111,105,110,116,115,32,65,44,32,66,59]⟩] w fun e w'=>∃ (a:Option Addr) (c:Nat) (rows:List (List Value)),e = .returned (.tuple #[.agg #[.slice a l.length c],.int .i64 0,.int .i64 0])∧SXS w' (fun _=>True) a l rows∧Below w.heap.size w w':=fun w=>by
  have:=parseProg_any AWB w (by decide)
  rw [hr] at this
  exact this.mono (fun e w' h=>h.open')
 obtain ⟨x,hlx,hnx⟩:∃ x,l=[x]∧x.names=[[65],[66]]:=by
  match l,h1 with
  | [x],h1=>exact ⟨x,rfl,by simpa using h1⟩
 subst hlx
 clear hr h1
 refine za8 (args:=[]) (rs:=[.tmp 0]) (n:=40) Try.func5 rfl rfl rfl (by kernel_rfl) ?_
 have hA0:=Below.refl w.heap.size w
 first|refine zzr fun K hK=>?_|refine zzt fun K hK=>?_
 simp [go_sem,za0,za2,za1]
 refine hK _ _ ?_;clear hK K
 first|refine zzr fun K hK=>?_|refine zzt fun K hK=>?_
 simp [go_sem,za0,za2,za1]
 refine za5 (by simp [go_sem,za0,za2,za1]) rfl Try.call6 (fun R hR=>?_)
 simp [go_sem,za0,za2,za1]
 refine (k1 _).mono ?_
 rintro e w1 ⟨a1,c1,rows1,rfl,h1,hE1⟩
 refine ⟨_,rfl,hR _ _ ?_⟩
 clear hR R
 replace hA0:=hA0.next hE1
 have hA2:=Below.refl (w1).heap.size (w1)
 simp [go_sem,za0,za2,za1]
 refine zar (by simp [go_sem,za0,za2,za1]) rfl ty_zeroC25 (fun w10 b10 hE10 hle10 hB10=>?_)
 have hb10_0:=Nat.le_trans hA0.size hle10
 have hb10_1:=Nat.le_trans hA2.size hle10
 replace hA0:=hA0.next hE10
 replace hA2:=hA2.next hE10
 simp [go_sem,za0,za2,za1,hB10.cell]
 refine za7 (b:=b10) (off:=0) [.slice a1 1 c1] (by simp [go_sem,za0,za2,za1,hB10.cell]) rfl (by simp [go_sem,za0,za2,za1,hB10.cell]) (by simp [go_sem,Value.cells,za0,za2,za1,hB10.cell]) ty_size25 hB10 (by simp) (by simp [Value.oneCell']) (by decide) (fun w11 hS11 hB11=>?_)
 simp [zaD] at hB11
 replace hA0:=hA0.nextS hS11 (by first|exact hb10_0|omega)
 replace hA2:=hA2.nextS hS11 (by first|exact hb10_1|omega)
 simp [go_sem,za0,za2,za1,hB11.cell]
 refine hK _ _ ?_;clear hK K
 obtain ⟨lb,lo,a,c,e1,q1,hn⟩:=(h1.ext hA2).nm (i:=0) (x:=x) rfl
 subst e1
 obtain ⟨u1,u2⟩:=hn.at (i:=1) (by rw [hnx];decide)
 rw [hnx] at q1 u1
 simp only [Nat.zero_mul,Nat.add_zero,List.length_cons,List.length_nil,List.getD_cons_succ,List.getD_cons_zero] at q1 u1
 obtain ⟨ad,rfl⟩:=Option.isSome_iff_exists.1 u2
 obtain ⟨nb,no,ns⟩:=ad
 simp [Addr.add] at u1
 first|refine zzr fun K hK=>?_|refine zzt fun K hK=>?_
 simp [go_sem,za0,za2,za1,hB11.cell, q1,u1,u2]
 refine hK _ _ ?_;clear hK K
 refine zal ?_
 repeat (first|refine za4 ?_|refine za3 ?_)
 refine ⟨trivial,?_,hA0⟩
 simp [go_sem,zaw,zav]
end Go.Proofs.Ytefhenfofomjhaa
