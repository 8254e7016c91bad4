/- ParserExprs: the expression of any string. -/
import Derived.Test.YtefhenfofomjhaaGreatPt8
import Derived.Test.YtefhenfofomjhaaGreatRw1
import Derived.Test.YtefhenfofomjhaaGreatRx4
import Derived.Test.YtefhenfofomjhaaGreatIn9
set_option linter.unusedSimpArgs false
set_option linter.unusedVariables false
namespace Go.Proofs.YtefhenfofomjhaaGreat
open Go Go.RowKit Go.V
set_option maxRecDepth 20000
theorem lmC_at {l:List Nat} {i:Nat} (h:i<l.length):(lmC l).getD i undef = .int .u16 (l.getD i 0):=by
 unfold lmC
 simp [List.getD_eq_getElem?_getD,h]
set_option maxHeartbeats 1000000 in
theorem sameNat_any {w:World} {a b:Option Addr} {c d:Nat} {l:List Nat} (h1:RD w a c l) (h2:RD w b d l) (hl:l.length≤maxLen):Calls Tryz.prog 66 #[.slice a l.length c,.slice b l.length d] w fun e w'=>e = .returned (.bool true)∧Below w.heap.size w w':=by
 unfold maxLen at hl
 refine za7 (args:=[.slice a l.length c,.slice b l.length d]) (rs:=[.tmp 4]) (n:=26) Tryz.func66 rfl rfl rfl (by kernel_rfl) ?_
 have hA0:=Below.refl w.heap.size w
 first|refine zzr fun K hK=>?_|refine zzt fun K hK=>?_
 simp [go_sem,za0,za4,za1]
 refine hK _ _ ?_;clear hK K
 refine zac (fun K1 hK1=>?_)
 first|refine zzr fun K hK=>?_|refine zzt fun K hK=>?_
 simp [go_sem,za0,za4,za1]
 refine hK _ _ ?_;clear hK K
 refine zai (t:=false) (by simp [go_sem,za0,za4,za1]) rfl ?_
 refine zaa ?_
 refine hK1 _ _ ?_
 refine zac (fun K2 hK2=>?_)
 first|refine zzr fun K hK=>?_|refine zzt fun K hK=>?_
 simp [go_sem,za0,za4,za1]
 refine hK _ _ ?_;clear hK K
 refine zae ?_
 refine zaE (fun m' g w'=>Below w.heap.size w w'∧∃ j:Nat,j≤l.length∧m'=l.length-j∧g 0 = .slice a l.length c∧g 1 = .slice b l.length d∧g 12 = .int .i64 l.length∧g 13 = .int .i64 j) l.length ?_ ?_
 ·exact ⟨hA0,0,by omega,rfl,by simp [go_sem],by simp [go_sem],by simp [go_sem],by simp [go_sem]⟩
 clear hA0
 rintro m' g w' ⟨hA0,j,hj,rfl,g0,g1,g12,g13⟩
 by_cases hlt:j<l.length
 ·have c1:(j:Int)<l.length:=by omega
  have hw1:IntKind.i64.wrap ((j:Int)+1)=(j+1:Nat):=by rw [IntWalk.i64_in _ (by omega)];omega
  have k1:=h1.sl.ext (hA0.next (Below.drew1 _))
  have k2:=h2.sl.ext (hA0.next (Below.drew1 _))
  obtain ⟨q1,q2⟩:=k1.getD (j:=j) (by simp [lmC];omega)
  obtain ⟨p1,p2⟩:=k2.getD (j:=j) (by simp [lmC];omega)
  rw [lmC_at hlt] at q1 p1
  generalize l.getD j 0=v at q1 p1
  first|refine zzr fun K hK=>?_|refine zzt fun K hK=>?_
  simp [go_sem,za0,za4,za1,g0,g1,g12,g13, c1,hlt]
  refine hK _ _ ?_;clear hK K
  refine zac (fun K3 hK3=>?_)
  refine zai (t:=true) (by simp [go_sem,za0,za4,za1,g0,g1,g12,g13,c1,hlt]) rfl ?_
  refine zaa ?_
  refine hK3 _ _ ?_
  refine zac (fun K4 hK4=>?_)
  refine zae ?_
  first|refine zzr fun K hK=>?_|refine zzt fun K hK=>?_
  simp [go_sem,za0,za4,za1,g0,g1,g12,g13]
  refine hK _ _ ?_;clear hK K
  have hD1:=Below.drew1 w'
  replace hA0:=hA0.next hD1
  first|refine W_rd [(0,0),(1,0),(2,0),(3,0),(4,0),(5,0),(6,0),(7,0),(8,0)] (by kernel_rfl) (by kernel_rfl) (fun K hK=>?_)|refine zbG [(0,0),(1,0),(2,0),(3,0),(4,0),(5,0),(6,0),(7,0),(8,0)] (by kernel_rfl) (by kernel_rfl) (fun K hK=>?_)
  simp [go_sem,za0,za4,za1,g0,g1,g12,g13, c1,hlt,q1,q2,p1,p2]
  refine hK _ _ ?_;clear hK K
  refine zai (t:=false) (by simp [go_sem,za0,za4,za1,g0,g1,g12,g13]) rfl ?_
  refine zaa ?_
  refine hK4 _ _ ?_
  refine zzt fun K hK=>?_
  simp [go_sem,g13,hw1]
  refine hK _ _ ⟨l.length-(j+1),by omega,hA0,j+1,by omega,rfl,by simp [go_sem,g0],by simp [go_sem,g1],by simp [go_sem,g12],by simp [go_sem]⟩
 ·have c1:¬(j:Int)<l.length:=by omega
  first|refine zzr fun K hK=>?_|refine zzt fun K hK=>?_
  simp [go_sem,za0,za4,za1,g0,g1,g12,g13, c1,hlt]
  refine hK _ _ ?_;clear hK K
  refine zac (fun K3 hK3=>?_)
  refine zai (t:=false) (by simp [go_sem,za0,za4,za1,g0,g1,g12,g13,c1,hlt]) rfl ?_
  refine zaz ?_
  repeat (first|refine zag ?_|refine za8 rfl ?_|refine zab ?_)
  refine hK2 _ _ ?_
  first|refine zzr fun K hK=>?_|refine zzt fun K hK=>?_
  simp [go_sem,za0,za4,za1,g0,g1,g12,g13]
  refine hK _ _ ?_;clear hK K
  refine zaf ?_
  repeat (first|refine za3 ?_|refine za2 ?_)
  refine ⟨trivial,?_,hA0⟩
  simp [go_sem,zat,zas]
set_option maxHeartbeats 1000000 in
theorem sameRat_any {w:World} {n:Bool} {ya yb za zb:Option Addr} {yc yd zc zd:Nat} {l m:List Nat} (h1:RD w ya yc l) (h2:RD w yb yd m) (h3:RD w za zc l) (h4:RD w zb zd m) (hl:l.length≤maxLen) (hm:m.length≤maxLen) :
  Calls Tryz.prog 41 #[.agg #[.bool n,.slice ya l.length yc,.slice yb m.length yd],.agg #[.bool n,.slice za l.length zc,.slice zb m.length zd]] w fun e w'=>e = .returned (.bool true)∧Below w.heap.size w w':=by
 refine za7 (args:=[.agg #[.bool n,.slice ya l.length yc,.slice yb m.length yd],.agg #[.bool n,.slice za l.length zc,.slice zb m.length zd]]) (rs:=[.tmp 4]) (n:=28) Tryz.func41 rfl rfl rfl (by kernel_rfl) ?_
 have hA0:=Below.refl w.heap.size w
 first|refine zzr fun K hK=>?_|refine zzt fun K hK=>?_
 simp [go_sem,za0,za4,za1]
 refine zc5 #[.bool n,.slice ya l.length yc,.slice yb m.length yd] (by simp [go_sem,za0,za4,za1]) rfl (by simp [go_sem,Value.cells,za0,za4,za1]) (fun w1 b1 hE1 hle1 hB1=>?_)
 have hb1_0:=Nat.le_trans hA0.size hle1
 replace hA0:=hA0.next hE1
 simp [go_sem,za0,za4,za1,hB1.cell]
 refine zc5 #[.bool n,.slice za l.length zc,.slice zb m.length zd] (by simp [go_sem,za0,za4,za1,hB1.cell]) rfl (by simp [go_sem,Value.cells,za0,za4,za1,hB1.cell]) (fun w2 b2 hE2 hle2 hB2=>?_)
 have hb2_0:=Nat.le_trans hA0.size hle2
 have hd1_2:b1≠b2:=Nat.ne_of_lt (Nat.lt_of_lt_of_le hB1.lt hle2)
 replace hA0:=hA0.next hE2
 replace hB1:=hB1.keep hE2
 simp [go_sem,za0,za4,za1,hB1.cell,hB2.cell]
 refine hK _ _ ?_;clear hK K
 first|refine zzr fun K hK=>?_|refine zzt fun K hK=>?_
 simp [go_sem,za0,za4,za1,hB1.cell,hB2.cell]
 refine za5 (by simp [go_sem,za0,za4,za1,hB1.cell,hB2.cell]) rfl Tryz.call66 (fun R hR=>?_)
 simp [go_sem,za0,za4,za1,hB1.cell,hB2.cell]
 refine (sameNat_any (h1.ext hA0) (h3.ext hA0) hl).mono ?_
 rintro e w3 ⟨rfl,hE3⟩
 refine ⟨_,rfl,hR _ _ ?_⟩
 clear hR R
 replace hA0:=hA0.next hE3
 replace hB1:=hB1.keep hE3
 replace hB2:=hB2.keep hE3
 simp [go_sem,za0,za4,za1,hB1.cell,hB2.cell]
 refine za5 (by simp [go_sem,za0,za4,za1,hB1.cell,hB2.cell]) rfl Tryz.call66 (fun R hR=>?_)
 simp [go_sem,za0,za4,za1,hB1.cell,hB2.cell]
 refine (sameNat_any (h2.ext hA0) (h4.ext hA0) hm).mono ?_
 rintro e w4 ⟨rfl,hE4⟩
 refine ⟨_,rfl,hR _ _ ?_⟩
 clear hR R
 replace hA0:=hA0.next hE4
 replace hB1:=hB1.keep hE4
 replace hB2:=hB2.keep hE4
 simp [go_sem,za0,za4,za1,hB1.cell,hB2.cell]
 refine hK _ _ ?_;clear hK K
 refine zaf ?_
 repeat (first|refine za3 ?_|refine za2 ?_)
 refine ⟨trivial,?_,hA0⟩
 simp [go_sem,zat,zas]
set_option maxHeartbeats 2000000 in
theorem equalExpr_any (x:Tre) (w:World) (F1 F2:Nat→Prop) (R1 R2:List Value) (h1:EX w F1 R1 x) (h2:EX w F2 R2 x):Calls Tryz.prog 20 #[.agg R1.toArray,.agg R2.toArray] w fun e w'=>e = .returned (.bool true)∧Below w.heap.size w w':=by
 obtain ⟨ya,yc,yb,yd,ye,yp,yrows,rfl,y1,y2,y3,y4,y5,y6⟩:=h1.open
 obtain ⟨za,zc,zb,zd,ze,zp,zrows,rfl,z1,z2,z3,z4,z5,z6⟩:=h2.open
 have hal:=y3.max
 unfold maxLen at hal
 refine za7 (args:=[.agg #[.int .i64 x.kind,.string ⟨x.name.toArray⟩,.bool x.neg,.slice ya x.num.length yc,.slice yb x.den.length yd,.slice ye x.args.length yp,.int .i64 x.pos],.agg #[.int .i64 x.kind,.string ⟨x.name.toArray⟩,.bool x.neg,.slice za x.num.length zc,.slice zb x.den.length zd,.slice ze x.args.length zp,.int .i64 x.pos]]) (rs:=[.tmp 4]) (n:=54) Tryz.func20 rfl rfl rfl (by kernel_rfl) ?_
 have hA0:=Below.refl w.heap.size w
 first|refine zzr fun K hK=>?_|refine zzt fun K hK=>?_
 simp [go_sem,za0,za4,za1]
 refine zc5 #[.int .i64 x.kind,.string ⟨x.name.toArray⟩,.bool x.neg,.slice ya x.num.length yc,.slice yb x.den.length yd,.slice ye x.args.length yp,.int .i64 x.pos] (by simp [go_sem,za0,za4,za1]) rfl (by simp [go_sem,Value.cells,za0,za4,za1]) (fun w1 b1 hE1 hle1 hB1=>?_)
 have hb1_0:=Nat.le_trans hA0.size hle1
 replace hA0:=hA0.next hE1
 simp [go_sem,za0,za4,za1,hB1.cell]
 refine zc5 #[.int .i64 x.kind,.string ⟨x.name.toArray⟩,.bool x.neg,.slice za x.num.length zc,.slice zb x.den.length zd,.slice ze x.args.length zp,.int .i64 x.pos] (by simp [go_sem,za0,za4,za1,hB1.cell]) rfl (by simp [go_sem,Value.cells,za0,za4,za1,hB1.cell]) (fun w2 b2 hE2 hle2 hB2=>?_)
 have hb2_0:=Nat.le_trans hA0.size hle2
 have hd1_2:b1≠b2:=Nat.ne_of_lt (Nat.lt_of_lt_of_le hB1.lt hle2)
 replace hA0:=hA0.next hE2
 replace hB1:=hB1.keep hE2
 simp [go_sem,za0,za4,za1,hB1.cell,hB2.cell]
 refine hK _ _ ?_;clear hK K
 refine zac (fun K1 hK1=>?_)
 first|refine zzr fun K hK=>?_|refine zzt fun K hK=>?_
 simp [go_sem,za0,za4,za1,hB1.cell,hB2.cell]
 refine za5 (by simp [go_sem,za0,za4,za1,hB1.cell,hB2.cell]) rfl Tryz.call41 (fun R hR=>?_)
 simp [go_sem,za0,za4,za1,hB1.cell,hB2.cell]
 refine (sameRat_any (y1.ext hA0) (y2.ext hA0) (z1.ext hA0) (z2.ext hA0) y5 y6).mono ?_
 rintro e w3 ⟨rfl,hE3⟩
 refine ⟨_,rfl,hR _ _ ?_⟩
 clear hR R
 replace hA0:=hA0.next hE3
 replace hB1:=hB1.keep hE3
 replace hB2:=hB2.keep hE3
 simp [go_sem,za0,za4,za1,hB1.cell,hB2.cell]
 refine hK _ _ ?_;clear hK K
 refine zai (t:=false) (by simp [go_sem,za0,za4,za1,hB1.cell,hB2.cell]) rfl ?_
 refine zaa ?_
 refine hK1 _ _ ?_
 refine zac (fun K2 hK2=>?_)
 first|refine zzr fun K hK=>?_|refine zzt fun K hK=>?_
 simp [go_sem,za0,za4,za1,hB1.cell,hB2.cell]
 refine hK _ _ ?_;clear hK K
 refine zae ?_
 refine zaE (fun m' g w'=>Below w.heap.size w w'∧Bx w' b1 #[.int .i64 x.kind,.string ⟨x.name.toArray⟩,.bool x.neg,.slice ya x.num.length yc,.slice yb x.den.length yd,.slice ye x.args.length yp,.int .i64 x.pos] 30∧Bx w' b2 #[.int .i64 x.kind,.string ⟨x.name.toArray⟩,.bool x.neg,.slice za x.num.length zc,.slice zb x.den.length zd,.slice ze x.args.length zp,.int .i64 x.pos] 30∧∃ j:Nat,j≤x.args.length∧m'=x.args.length-j∧g 2 = .pointer (some ⟨b1,0,none⟩)∧g 3 = .pointer (some ⟨b2,0,none⟩)∧g 37 = .int .i64 x.args.length∧g 38 = .int .i64 j) x.args.length ?_ ?_
 ·exact ⟨hA0,hB1,hB2,0,by omega,rfl,by simp [go_sem],by simp [go_sem],by simp [go_sem],by simp [go_sem]⟩
 clear hA0 hB1 hB2
 rintro m' g w' ⟨hA0,hB1,hB2,j,hj,rfl,g2,g3,gn,gi⟩
 by_cases hlt:j<x.args.length
 ·have c1:(j:Int)<x.args.length:=by omega
  have hw1:IntKind.i64.wrap ((j:Int)+1)=(j+1:Nat):=by rw [IntWalk.i64_in _ (by omega)];omega
  have hAd:=hA0.next (Below.drew1 w')
  obtain ⟨Ra,_,q1,q2,q3,q4⟩:=(y3.ext hAd).row (List.getElem?_eq_getElem hlt)
  obtain ⟨Rb,_,p1,p2,p3,p4⟩:=(z3.ext hAd).row (List.getElem?_eq_getElem hlt)
  have hrec:=equalExpr_any (x.args[j]'hlt) w'.drew _ _ Ra Rb q4 p4
  first|refine zzr fun K hK=>?_|refine zzt fun K hK=>?_
  simp [go_sem,za0,za4,za1,hB1.cell,hB2.cell,g2,g3,gn,gi, c1,hlt]
  refine hK _ _ ?_;clear hK K
  refine zac (fun K3 hK3=>?_)
  refine zai (t:=true) (by simp [go_sem,za0,za4,za1,hB1.cell,hB2.cell,g2,g3,gn,gi,c1,hlt]) rfl ?_
  refine zaa ?_
  refine hK3 _ _ ?_
  refine zac (fun K4 hK4=>?_)
  refine zae ?_
  first|refine zzr fun K hK=>?_|refine zzt fun K hK=>?_
  simp [go_sem,za0,za4,za1,hB1.cell,hB2.cell,g2,g3,gn,gi]
  refine hK _ _ ?_;clear hK K
  have hD4:=Below.drew1 w'
  replace hA0:=hA0.next hD4
  replace hB1:=hB1.keep hD4
  replace hB2:=hB2.keep hD4
  first|refine W_rd [(0,0),(1,0),(2,0),(3,0),(4,0),(5,0),(6,0),(7,0),(8,0),(9,0),(10,1),(11,0)] (by kernel_rfl) (by kernel_rfl) (fun K hK=>?_)|refine zbG [(0,0),(1,0),(2,0),(3,0),(4,0),(5,0),(6,0),(7,0),(8,0),(9,0),(10,1),(11,0)] (by kernel_rfl) (by kernel_rfl) (fun K hK=>?_)
  simp [go_sem,za0,hB1.cell,hB2.cell,g2,g3,gn,gi, c1,hlt,q1,q2,q3,p1,p2,p3]
  refine za5 (by simp [go_sem,za0,hB1.cell,hB2.cell,g2,g3,gn,gi,za4,za1,c1,hlt]) rfl Tryz.call20 (fun R hR=>?_)
  simp [go_sem,za0,hB1.cell,hB2.cell,g2,g3,gn,gi,za4,za1,c1,hlt]
  refine (hrec).mono ?_
  rintro e w5 ⟨rfl,hE5⟩
  refine ⟨_,rfl,(by assumption),hR _ _ ?_⟩
  clear hR R
  replace hA0:=hA0.next hE5
  replace hB1:=hB1.keep hE5
  replace hB2:=hB2.keep hE5
  simp [go_sem,za0,hB1.cell,hB2.cell,g2,g3,gn,gi,za4,za1,c1,hlt]
  refine hK _ _ ?_;clear hK K
  refine zai (t:=false) (by simp [go_sem,za0,hB1.cell,hB2.cell,g2,g3,gn,gi,za4,za1]) rfl ?_
  refine zaa ?_
  refine hK4 _ _ ?_
  refine zzt fun K hK=>?_
  simp [go_sem,gi,hw1]
  refine hK _ _ ⟨x.args.length-(j+1),by omega,hA0,hB1,hB2,j+1,by omega,rfl,by simp [go_sem,g2],by simp [go_sem,g3],by simp [go_sem,gn],by simp [go_sem]⟩
 ·have c1:¬(j:Int)<x.args.length:=by omega
  first|refine zzr fun K hK=>?_|refine zzt fun K hK=>?_
  simp [go_sem,za0,za4,za1,hB1.cell,hB2.cell,g2,g3,gn,gi, c1,hlt]
  refine hK _ _ ?_;clear hK K
  refine zac (fun K3 hK3=>?_)
  refine zai (t:=false) (by simp [go_sem,za0,za4,za1,hB1.cell,hB2.cell,g2,g3,gn,gi,c1,hlt]) rfl ?_
  refine zaz ?_
  repeat (first|refine zag ?_|refine za8 rfl ?_|refine zab ?_)
  refine hK2 _ _ ?_
  first|refine zzr fun K hK=>?_|refine zzt fun K hK=>?_
  simp [go_sem,za0,za4,za1,hB1.cell,hB2.cell,g2,g3,gn,gi]
  refine hK _ _ ?_;clear hK K
  refine zaf ?_
  repeat (first|refine za3 ?_|refine za2 ?_)
  refine ⟨trivial,?_,hA0⟩
  simp [go_sem,zat,zas]
termination_by SizeOf.sizeOf x
decreasing_by
 exact Tre.lt_args (List.getElem_mem _)
set_option maxHeartbeats 2000000 in
theorem sameExpr_any (x:Tre) (w:World) (F1 F2:Nat→Prop) (R1 R2:List Value) (h1:EX w F1 R1 x) (h2:EX w F2 R2 x):Calls Tryz.prog 7 #[.agg R1.toArray,.agg R2.toArray] w fun e w'=>e = .returned (.bool true)∧Below w.heap.size w w':=by
 obtain ⟨ya,yc,yb,yd,ye,yp,yrows,rfl,y1,y2,y3,y4,y5,y6⟩:=h1.open
 obtain ⟨za,zc,zb,zd,ze,zp,zrows,rfl,z1,z2,z3,z4,z5,z6⟩:=h2.open
 have hal:=y3.max
 unfold maxLen at hal
 refine za7 (args:=[.agg #[.int .i64 x.kind,.string ⟨x.name.toArray⟩,.bool x.neg,.slice ya x.num.length yc,.slice yb x.den.length yd,.slice ye x.args.length yp,.int .i64 x.pos],.agg #[.int .i64 x.kind,.string ⟨x.name.toArray⟩,.bool x.neg,.slice za x.num.length zc,.slice zb x.den.length zd,.slice ze x.args.length zp,.int .i64 x.pos]]) (rs:=[.tmp 4]) (n:=36) Tryz.func7 rfl rfl rfl (by kernel_rfl) ?_
 have hA0:=Below.refl w.heap.size w
 first|refine zzr fun K hK=>?_|refine zzt fun K hK=>?_
 simp [go_sem,za0,za4,za1]
 refine zc5 #[.int .i64 x.kind,.string ⟨x.name.toArray⟩,.bool x.neg,.slice ya x.num.length yc,.slice yb x.den.length yd,.slice ye x.args.length yp,.int .i64 x.pos] (by simp [go_sem,za0,za4,za1]) rfl (by simp [go_sem,Value.cells,za0,za4,za1]) (fun w1 b1 hE1 hle1 hB1=>?_)
 have hb1_0:=Nat.le_trans hA0.size hle1
 replace hA0:=hA0.next hE1
 simp [go_sem,za0,za4,za1,hB1.cell]
 refine zc5 #[.int .i64 x.kind,.string ⟨x.name.toArray⟩,.bool x.neg,.slice za x.num.length zc,.slice zb x.den.length zd,.slice ze x.args.length zp,.int .i64 x.pos] (by simp [go_sem,za0,za4,za1,hB1.cell]) rfl (by simp [go_sem,Value.cells,za0,za4,za1,hB1.cell]) (fun w2 b2 hE2 hle2 hB2=>?_)
 have hb2_0:=Nat.le_trans hA0.size hle2
 have hd1_2:b1≠b2:=Nat.ne_of_lt (Nat.lt_of_lt_of_le hB1.lt hle2)
 replace hA0:=hA0.next hE2
 replace hB1:=hB1.keep hE2
 simp [go_sem,za0,za4,za1,hB1.cell,hB2.cell]
 refine hK _ _ ?_;clear hK K
 refine zac (fun K1 hK1=>?_)
 first|refine zzr fun K hK=>?_|refine zzt fun K hK=>?_
 simp [go_sem,za0,za4,za1,hB1.cell,hB2.cell]
 refine za5 (by simp [go_sem,za0,za4,za1,hB1.cell,hB2.cell]) rfl Tryz.call20 (fun R hR=>?_)
 simp [go_sem,za0,za4,za1,hB1.cell,hB2.cell]
 refine (equalExpr_any x _ _ _ _ _ (h1.ext hA0) (h2.ext hA0)).mono ?_
 rintro e w3 ⟨rfl,hE3⟩
 refine ⟨_,rfl,hR _ _ ?_⟩
 clear hR R
 replace hA0:=hA0.next hE3
 replace hB1:=hB1.keep hE3
 replace hB2:=hB2.keep hE3
 simp [go_sem,za0,za4,za1,hB1.cell,hB2.cell]
 refine hK _ _ ?_;clear hK K
 refine zai (t:=false) (by simp [go_sem,za0,za4,za1,hB1.cell,hB2.cell]) rfl ?_
 refine zaa ?_
 refine hK1 _ _ ?_
 refine zac (fun K2 hK2=>?_)
 first|refine zzr fun K hK=>?_|refine zzt fun K hK=>?_
 simp [go_sem,za0,za4,za1,hB1.cell,hB2.cell]
 refine hK _ _ ?_;clear hK K
 refine zae ?_
 refine zaE (fun m' g w'=>Below w.heap.size w w'∧Bx w' b1 #[.int .i64 x.kind,.string ⟨x.name.toArray⟩,.bool x.neg,.slice ya x.num.length yc,.slice yb x.den.length yd,.slice ye x.args.length yp,.int .i64 x.pos] 30∧Bx w' b2 #[.int .i64 x.kind,.string ⟨x.name.toArray⟩,.bool x.neg,.slice za x.num.length zc,.slice zb x.den.length zd,.slice ze x.args.length zp,.int .i64 x.pos] 30∧∃ j:Nat,j≤x.args.length∧m'=x.args.length-j∧g 2 = .pointer (some ⟨b1,0,none⟩)∧g 3 = .pointer (some ⟨b2,0,none⟩)∧g 19 = .int .i64 x.args.length∧g 20 = .int .i64 j) x.args.length ?_ ?_
 ·exact ⟨hA0,hB1,hB2,0,by omega,rfl,by simp [go_sem],by simp [go_sem],by simp [go_sem],by simp [go_sem]⟩
 clear hA0 hB1 hB2
 rintro m' g w' ⟨hA0,hB1,hB2,j,hj,rfl,g2,g3,gn,gi⟩
 by_cases hlt:j<x.args.length
 ·have c1:(j:Int)<x.args.length:=by omega
  have hw1:IntKind.i64.wrap ((j:Int)+1)=(j+1:Nat):=by rw [IntWalk.i64_in _ (by omega)];omega
  have hAd:=hA0.next (Below.drew1 w')
  obtain ⟨Ra,_,q1,q2,q3,q4⟩:=(y3.ext hAd).row (List.getElem?_eq_getElem hlt)
  obtain ⟨Rb,_,p1,p2,p3,p4⟩:=(z3.ext hAd).row (List.getElem?_eq_getElem hlt)
  have hrec:=sameExpr_any (x.args[j]'hlt) w'.drew _ _ Ra Rb q4 p4
  first|refine zzr fun K hK=>?_|refine zzt fun K hK=>?_
  simp [go_sem,za0,za4,za1,hB1.cell,hB2.cell,g2,g3,gn,gi, c1,hlt]
  refine hK _ _ ?_;clear hK K
  refine zac (fun K3 hK3=>?_)
  refine zai (t:=true) (by simp [go_sem,za0,za4,za1,hB1.cell,hB2.cell,g2,g3,gn,gi,c1,hlt]) rfl ?_
  refine zaa ?_
  refine hK3 _ _ ?_
  refine zac (fun K4 hK4=>?_)
  refine zae ?_
  first|refine zzr fun K hK=>?_|refine zzt fun K hK=>?_
  simp [go_sem,za0,za4,za1,hB1.cell,hB2.cell,g2,g3,gn,gi]
  refine hK _ _ ?_;clear hK K
  have hD4:=Below.drew1 w'
  replace hA0:=hA0.next hD4
  replace hB1:=hB1.keep hD4
  replace hB2:=hB2.keep hD4
  first|refine W_rd [(0,0),(1,0),(2,0),(3,0),(4,0),(5,0),(6,0),(7,0),(8,0),(9,0),(10,1),(11,0)] (by kernel_rfl) (by kernel_rfl) (fun K hK=>?_)|refine zbG [(0,0),(1,0),(2,0),(3,0),(4,0),(5,0),(6,0),(7,0),(8,0),(9,0),(10,1),(11,0)] (by kernel_rfl) (by kernel_rfl) (fun K hK=>?_)
  simp [go_sem,za0,hB1.cell,hB2.cell,g2,g3,gn,gi, c1,hlt,q1,q2,q3,p1,p2,p3]
  refine za5 (by simp [go_sem,za0,hB1.cell,hB2.cell,g2,g3,gn,gi,za4,za1,c1,hlt]) rfl Tryz.call7 (fun R hR=>?_)
  simp [go_sem,za0,hB1.cell,hB2.cell,g2,g3,gn,gi,za4,za1,c1,hlt]
  refine (hrec).mono ?_
  rintro e w5 ⟨rfl,hE5⟩
  refine ⟨_,rfl,(by assumption),hR _ _ ?_⟩
  clear hR R
  replace hA0:=hA0.next hE5
  replace hB1:=hB1.keep hE5
  replace hB2:=hB2.keep hE5
  simp [go_sem,za0,hB1.cell,hB2.cell,g2,g3,gn,gi,za4,za1,c1,hlt]
  refine hK _ _ ?_;clear hK K
  refine zai (t:=false) (by simp [go_sem,za0,hB1.cell,hB2.cell,g2,g3,gn,gi,za4,za1]) rfl ?_
  refine zaa ?_
  refine hK4 _ _ ?_
  refine zzt fun K hK=>?_
  simp [go_sem,gi,hw1]
  refine hK _ _ ⟨x.args.length-(j+1),by omega,hA0,hB1,hB2,j+1,by omega,rfl,by simp [go_sem,g2],by simp [go_sem,g3],by simp [go_sem,gn],by simp [go_sem]⟩
 ·have c1:¬(j:Int)<x.args.length:=by omega
  first|refine zzr fun K hK=>?_|refine zzt fun K hK=>?_
  simp [go_sem,za0,za4,za1,hB1.cell,hB2.cell,g2,g3,gn,gi, c1,hlt]
  refine hK _ _ ?_;clear hK K
  refine zac (fun K3 hK3=>?_)
  refine zai (t:=false) (by simp [go_sem,za0,za4,za1,hB1.cell,hB2.cell,g2,g3,gn,gi,c1,hlt]) rfl ?_
  refine zaz ?_
  repeat (first|refine zag ?_|refine za8 rfl ?_|refine zab ?_)
  refine hK2 _ _ ?_
  first|refine zzr fun K hK=>?_|refine zzt fun K hK=>?_
  simp [go_sem,za0,za4,za1,hB1.cell,hB2.cell,g2,g3,gn,gi]
  refine hK _ _ ?_;clear hK K
  refine zaf ?_
  repeat (first|refine za3 ?_|refine za2 ?_)
  refine ⟨trivial,?_,hA0⟩
  simp [go_sem,zat,zas]
termination_by SizeOf.sizeOf x
decreasing_by
 exact Tre.lt_args (List.getElem_mem _)
set_option maxHeartbeats 2000000 in
theorem parserExprs_any (s:ByteArray) (w:World) (hs:s.size≤maxLen) :
  Calls Tryz.prog 3 #[.string s] w fun e w'=>e = .returned (.bool true)∧Below w.heap.size w w':=by
 refine za7 (args:=[.string s]) (rs:=[.tmp 2]) (n:=34) Tryz.func3 rfl rfl rfl (by kernel_rfl) ?_
 have hA0:=Below.refl w.heap.size w
 refine zac (fun K1 hK1=>?_)
 first|refine zzr fun K hK=>?_|refine zzt fun K hK=>?_
 simp [go_sem,za0,za4,za1]
 refine hK _ _ ?_;clear hK K
 refine hK1 _ _ ?_
 refine zac (fun K2 hK2=>?_)
 obtain ⟨⟨x,p,q⟩,hr⟩:∃ r:Tre × Int × Int,exprV s=r:=⟨_,rfl⟩
 have k1:=parseExpr_any s
 have k2:=refExpr_any s
 rw [hr] at k1 k2
 clear hr
 first|refine zzr fun K hK=>?_|refine zzt fun K hK=>?_
 simp [go_sem,za0,za4,za1]
 refine za5 (by simp [go_sem,za0,za4,za1]) rfl Tryz.call5 (fun R hR=>?_)
 simp [go_sem,za0,za4,za1]
 refine (k1 _ hs).mono ?_
 rintro e w1 ⟨Ra,rfl,hx,hE1⟩
 refine ⟨_,rfl,hR _ _ ?_⟩
 clear hR R
 replace hA0:=hA0.next hE1
 obtain ⟨ya,yc,yb,yd,ye,yp,yrows,rfl,-⟩:=id hx.open
 replace hx:=hx.blt.mono (F':=fun k=>k<w1.heap.size) (fun k hk=>hk.2)
 simp [go_sem,za0,za4,za1]
 refine zam (by simp [go_sem,za0,za4,za1]) rfl zbd (fun w10 b10 hE10 hle10 hB10=>?_)
 have hb10_0:=Nat.le_trans hA0.size hle10
 replace hA0:=hA0.next hE10
 replace hx:=hx.ext hE10
 simp [go_sem,za0,za4,za1,hB10.cell]
 refine za6 (b:=b10) (off:=0) [.int .i64 x.kind,.string ⟨x.name.toArray⟩,.bool x.neg,.slice ya x.num.length yc,.slice yb x.den.length yd,.slice ye x.args.length yp,.int .i64 x.pos] (by simp [go_sem,za0,za4,za1,hB10.cell]) rfl (by simp [go_sem,za0,za4,za1,hB10.cell]) (by simp [go_sem,Value.cells,za0,za4,za1,hB10.cell]) zaw hB10 (by simp) (by simp [Value.oneCell']) (by decide) (fun w11 hS11 hB11=>?_)
 simp [zaD] at hB11
 replace hA0:=hA0.nextS hS11 (by first|exact hb10_0|omega)
 replace hx:=hx.ch (Ch.of_sto hS11 (NL.of_bx hB10 (by intro u hu x e;subst e;simp at hu))) (by intro k hk e;subst e;first|exact hk.2 rfl|omega)
 simp [go_sem,za0,za4,za1,hB11.cell]
 refine hK _ _ ?_;clear hK K
 refine hK2 _ _ ?_
 refine zac (fun K3 hK3=>?_)
 have hlt10:=hB11.lt
 first|refine zzr fun K hK=>?_|refine zzt fun K hK=>?_
 simp [go_sem,za0,za4,za1,hB11.cell]
 refine za5 (by simp [go_sem,za0,za4,za1,hB11.cell]) rfl Tryz.call6 (fun R hR=>?_)
 simp [go_sem,za0,za4,za1,hB11.cell]
 refine (k2 _ hs).mono ?_
 rintro e w20 ⟨Rb,rfl,hx2,hE20⟩
 refine ⟨_,rfl,hR _ _ ?_⟩
 clear hR R
 replace hA0:=hA0.next hE20
 replace hB11:=hB11.keep hE20
 replace hx:=hx.ext hE20
 have h1020:b10<w20.heap.size:=Nat.lt_of_lt_of_le hlt10 hE20.size
 obtain ⟨za,zc,zb,zd,ze,zp,zrows,rfl,-⟩:=id hx2.open
 replace hx2:=hx2.blt.mono (F':=fun k=>k<w20.heap.size) (fun k hk=>hk.2)
 simp [go_sem,za0,za4,za1,hB11.cell]
 refine zam (by simp [go_sem,za0,za4,za1,hB11.cell]) rfl zbd (fun w30 b30 hE30 hle30 hB30=>?_)
 have hb30_0:=Nat.le_trans hA0.size hle30
 have hd10_30:b10≠b30:=Nat.ne_of_lt (Nat.lt_of_lt_of_le hB11.lt hle30)
 replace hA0:=hA0.next hE30
 replace hB11:=hB11.keep hE30
 replace hx:=hx.ext hE30
 replace hx2:=hx2.ext hE30
 simp [go_sem,za0,za4,za1,hB11.cell,hB30.cell]
 refine za6 (b:=b30) (off:=0) [.int .i64 x.kind,.string ⟨x.name.toArray⟩,.bool x.neg,.slice za x.num.length zc,.slice zb x.den.length zd,.slice ze x.args.length zp,.int .i64 x.pos] (by simp [go_sem,za0,za4,za1,hB11.cell,hB30.cell]) rfl (by simp [go_sem,za0,za4,za1,hB11.cell,hB30.cell]) (by simp [go_sem,Value.cells,za0,za4,za1,hB11.cell,hB30.cell]) zaw hB30 (by simp) (by simp [Value.oneCell']) (by decide) (fun w31 hS31 hB31=>?_)
 simp [zaD] at hB31
 replace hA0:=hA0.nextS hS31 (by first|exact hb30_0|omega)
 replace hx:=hx.ch (Ch.of_sto hS31 (NL.of_bx hB30 (by intro u hu x e;subst e;simp at hu))) (by intro k hk e;subst e;first|exact hk.2 rfl|omega)
 replace hx2:=hx2.ch (Ch.of_sto hS31 (NL.of_bx hB30 (by intro u hu x e;subst e;simp at hu))) (by intro k hk e;subst e;first|exact hk.2 rfl|omega)
 replace hB11:=hB11.sto hS31 (by first|exact hd10_30|exact (hd30_10).symm)
 simp [go_sem,za0,za4,za1,hB11.cell,hB31.cell]
 refine hK _ _ ?_;clear hK K
 refine hK3 _ _ ?_
 first|refine zzr fun K hK=>?_|refine zzt fun K hK=>?_
 simp [go_sem,za0,za4,za1,hB11.cell,hB31.cell]
 refine za5 (by simp [go_sem,za0,za4,za1,hB11.cell,hB31.cell]) rfl Tryz.call7 (fun R hR=>?_)
 simp [go_sem,za0,za4,za1,hB11.cell,hB31.cell]
 refine (sameExpr_any x _ _ _ _ _ hx hx2).mono ?_
 rintro e w32 ⟨rfl,hE32⟩
 refine ⟨_,rfl,hR _ _ ?_⟩
 clear hR R
 replace hA0:=hA0.next hE32
 replace hB11:=hB11.keep hE32
 replace hB31:=hB31.keep hE32
 replace hx:=hx.ext hE32
 replace hx2:=hx2.ext hE32
 simp [go_sem,za0,za4,za1,hB11.cell,hB31.cell]
 refine hK _ _ ?_;clear hK K
 refine zaf ?_
 repeat (first|refine za3 ?_|refine za2 ?_)
 refine ⟨trivial,?_,hA0⟩
 simp [go_sem,zat,zas]
set_option maxRecDepth 100000 in
theorem parserExprs_lifted (os:Os) (started:os.Started) (H:Type) (enc:TypeId × Value→H) :
  ReturnsInHanded {} Tryz.checked os 3 .any (Rows.parserExprsSpec.pre6 enc Tryz.prog Tryz.f3 Rows.parserExprsRow.domain false) (Rows.parserExprsSpec.post enc Tryz.prog Tryz.f3 false true false false):=by
 refine law_lifted (C:=Tryz.checked) (s:=Rows.parserExprsSpec) Tryz.own Tryz.laidOut (by kernel_rfl) Tryz.func3 rfl 4 rfl Tryz.underlying4 (by kernel_rfl) enc ?_ ?_ os started
  (ChangeSpec.witness6 (enc:=enc) (C:=Tryz.checked) false ⟨#[],#[.string ⟨#[]⟩],[]⟩ 8 (by kernel_rfl) (by kernel_rfl) (by kernel_rfl) (by kernel_rfl))
 ·intro ds hl
  match ds,hl with
  | [d0],_=>rfl
 ·intro W base args ds ps hval hA hlt _
  have hA':DataW.TrodAll enc Tryz.prog W 0 (fun _=>true) true [9] args.toList ds ps:=hA
  have hval':∀ (j:Nat) t v,Tryz.f3.params[j]? = some t→args[j]? = some v→Value.okWide Tryz.prog W .any base t v:=hval
  obtain ⟨v0,d0,rfl,rfl,h0⟩:=Go.ChangeShapes.trodAll_one hA'
  obtain ⟨s,rfl,rfl,rfl,hs_s⟩:=Go.ChangeMaps.open_string Tryz.underlying9 (hval' 0 9 v0 rfl rfl) h0
  exact parserExprs_any s W hs_s
theorem parserExprs_holds:Rows.ParserExprsSaid :=
 OpenClaim.holds_of_wide 3 Tryz.f3 rfl rfl rfl rfl rfl rfl rfl ⟨rfl,rfl,rfl,rfl,rfl⟩ rfl rfl rfl rfl rfl (by kernel_rfl) Tryz.func3 (by kernel_rfl)
  (of_decide_eq_true (by kernel_rfl)) (by unfold Func.isWrapper;first|(rw [if_pos (by decide +kernel)];kernel_rfl)|(rw [if_neg (by decide +kernel)];exact ⟨rfl,rfl⟩))
  (fun os started H enc _=>parserExprs_lifted os started H enc)
end Go.Proofs.YtefhenfofomjhaaGreat
