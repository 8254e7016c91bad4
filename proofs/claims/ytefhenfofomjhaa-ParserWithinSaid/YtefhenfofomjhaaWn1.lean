/- ParserWithin: a construction of a point is read in a program as it is alone. -/
import Derived.Test.YtefhenfofomjhaaAw1
import Derived.Test.YtefhenfofomjhaaIn9
set_option linter.unusedSimpArgs false
set_option linter.unusedVariables false
namespace Go.Proofs.Ytefhenfofomjhaa
open Go Go.RowKit Go.V
set_option maxRecDepth 20000
set_option maxHeartbeats 1000000 in
theorem rsortk_any (k:Int) (w:World):Calls Try.prog 10 #[.int .i64 k] w fun e w'=>e = .returned (.int .i64 (ze1 k))∧Below w.heap.size w w':=by
 refine za8 (args:=[.int .i64 k]) (rs:=[.tmp 2]) (n:=6) Try.func10 rfl rfl rfl (by kernel_rfl) ?_
 have hA0:=Below.refl w.heap.size w
 first|refine zzr fun K hK=>?_|refine zzt fun K hK=>?_
 simp [go_sem,za0,za2,za1]
 refine hK _ _ ?_;clear hK K
 first|refine zzr fun K hK=>?_|refine zzt fun K hK=>?_
 simp [go_sem,za0,za2,za1]
 refine za5 (by simp [go_sem,za0,za2,za1]) rfl Try.call20 (fun R hR=>?_)
 simp [go_sem,za0,za2,za1]
 refine (find_any k _).mono ?_
 rintro e w1 ⟨a,c,rfl,hsl,hbl,hE1⟩
 refine ⟨_,rfl,hR _ _ ?_⟩
 clear hR R
 replace hA0:=hA0.next hE1
 simp [go_sem,za0,za2,za1]
 refine hK _ _ ?_;clear hK K
 refine zal ?_
 repeat (first|refine za4 ?_|refine za3 ?_)
 refine ⟨trivial,?_,hA0⟩
 simp [go_sem,zaw,zav]
set_option maxHeartbeats 4000000 in
theorem parserWithin_any (s:ByteArray) (w:World) (hs:s.size≤maxLen) :
  Calls Try.prog 4 #[.string s] w fun e w'=>e = .returned (.bool true)∧Below w.heap.size w w':=by
 obtain ⟨⟨x,p,q⟩,hr⟩:∃ r:Tre × Int × Int,exprV s=r:=⟨_,rfl⟩
 have k1:=fun w=>parseExpr_any s w hs
 rw [hr] at k1
 refine za8 (args:=[.string s]) (rs:=[.tmp 2]) (n:=51) Try.func4 rfl rfl rfl (by kernel_rfl) ?_
 have hA0:=Below.refl w.heap.size w
 first|refine zzr fun K hK=>?_|refine zzt fun K hK=>?_
 simp [go_sem,za0,za2,za1]
 refine hK _ _ ?_;clear hK K
 first|refine zzr fun K hK=>?_|refine zzt fun K hK=>?_
 simp [go_sem,za0,za2,za1]
 refine za5 (by simp [go_sem,za0,za2,za1]) rfl Try.call9 (fun R hR=>?_)
 simp [go_sem,za0,za2,za1]
 refine (k1 _).mono ?_
 rintro e w1 ⟨Ra,rfl,hx,hE1⟩
 refine ⟨_,rfl,hR _ _ ?_⟩
 clear hR R
 replace hA0:=hA0.next hE1
 obtain ⟨ya,yc,yb,yd,ye,yp,yrows,hRa,_⟩:=id hx.open
 subst hRa
 have hA2:=Below.refl (w1).heap.size (w1)
 simp [go_sem,za0,za2,za1]
 refine zar (by simp [go_sem,za0,za2,za1]) rfl zbP (fun w10 b10 hE10 hle10 hB10=>?_)
 have hb10_0:=Nat.le_trans hA0.size hle10
 have hb10_1:=Nat.le_trans hA2.size hle10
 replace hA0:=hA0.next hE10
 replace hA2:=hA2.next hE10
 simp [go_sem,za0,za2,za1,hB10.cell]
 refine za7 (b:=b10) (off:=0) [.int .i64 x.kind,.string ⟨x.name.toArray⟩,.bool x.neg,.slice ya x.num.length yc,.slice yb x.den.length yd,.slice ye x.args.length yp,.int .i64 x.pos] (by simp [go_sem,za0,za2,za1,hB10.cell]) rfl (by simp [go_sem,za0,za2,za1,hB10.cell]) (by simp [go_sem,Value.cells,za0,za2,za1,hB10.cell]) zaE hB10 (by simp) (by simp [Value.oneCell']) (by decide) (fun w11 hS11 hB11=>?_)
 simp [zaD] at hB11
 replace hA0:=hA0.nextS hS11 (by first|exact hb10_0|omega)
 replace hA2:=hA2.nextS hS11 (by first|exact hb10_1|omega)
 simp [go_sem,za0,za2,za1,hB11.cell]
 refine hK _ _ ?_;clear hK K
 refine zad (fun K1 hK1=>?_)
 by_cases hq0:q=0
 ·by_cases hlen:(9000:Int)<s.size
  ·have hlen':9000<s.size:=by omega
   first|refine zzr fun K hK=>?_|refine zzt fun K hK=>?_
   simp [go_sem,za0,za2,za1,hB11.cell, hq0,hlen,hlen']
   refine hK _ _ ?_;clear hK K
   refine zao (t:=true) (by simp [go_sem,za0,za2,za1,hB11.cell,hq0,hlen,hlen']) rfl ?_
   first|refine zzr fun K hK=>?_|refine zzt fun K hK=>?_
   simp [go_sem,za0,za2,za1,hB11.cell]
   refine za5 (by simp [go_sem,za0,za2,za1,hB11.cell]) rfl Try.call5 (fun R hR=>?_)
   simp [go_sem,za0,za2,za1,hB11.cell]
   refine (zcH _).mono ?_
   rintro e w12 ⟨rfl,hE12⟩
   refine ⟨_,rfl,hR _ _ ?_⟩
   clear hR R
   replace hA0:=hA0.next hE12
   replace hA2:=hA2.next hE12
   replace hB11:=hB11.keep hE12
   simp [go_sem,za0,za2,za1,hB11.cell]
   refine hK _ _ ?_;clear hK K
   refine zal ?_
   repeat (first|refine za4 ?_|refine za3 ?_)
   refine ⟨trivial,?_,hA0⟩
   simp [go_sem,zaw,zav]
  ·have hlen':¬9000<s.size:=by omega
   first|refine zzr fun K hK=>?_|refine zzt fun K hK=>?_
   simp [go_sem,za0,za2,za1,hB11.cell, hq0,hlen,hlen']
   refine za5 (by simp [go_sem,za0,za2,za1,hB11.cell,hq0,hlen,hlen']) rfl Try.call10 (fun R hR=>?_)
   simp [go_sem,za0,za2,za1,hB11.cell,hq0,hlen,hlen']
   refine (rsortk_any x.kind _).mono ?_
   rintro e w20 ⟨rfl,hE20⟩
   refine ⟨_,rfl,hR _ _ ?_⟩
   clear hR R
   replace hA0:=hA0.next hE20
   replace hA2:=hA2.next hE20
   replace hB11:=hB11.keep hE20
   simp [go_sem,za0,za2,za1,hB11.cell,hq0,hlen,hlen']
   by_cases hso:ze1 x.kind=1
   ·simp [go_sem,za0,za2,za1,hB11.cell,hso]
    refine hK _ _ ?_;clear hK K
    refine zao (t:=false) (by simp [go_sem,za0,za2,za1,hB11.cell, hso]) rfl ?_
    refine zae ?_
    refine hK1 _ _ ?_
    obtain ⟨u,hu⟩:∃ u:ByteArray,u=⟨#[88,32,58,61,32]⟩++s++⟨#[10,59]⟩:=⟨_,rfl⟩
    have hus:u.size=5+s.size+2:=by rw [hu];simp;rfl
    have hj:=progV_within (u:=u) (s:=s) (by omega) (by rw [hu,bs_append,bs_append,List.append_assoc];rfl) (by rw [hr];exact hq0) (by rw [hr];exact hso)
    rw [hr] at hj
    simp only at hj
    obtain ⟨hpu,hxn⟩:=hj
    obtain ⟨y,hy⟩:∃ y,y=mvW 5 x:=⟨_,rfl⟩
    rw [←hy,hu] at hpu
    have hsz1:5+s.size≤9223372036854775807:=by omega
    have hsz2:5+s.size+2≤9223372036854775807:=by omega
    have k3:∀ w,Calls Try.prog 6 #[.string (⟨#[88,32,58,61,32]⟩++s++⟨#[10,59]⟩)] w fun e w'=>∃ (a:Option Addr) (c:Nat) (rows:List (List Value)),e = .returned (.tuple #[.agg #[.slice a 1 c],.int .i64 0,.int .i64 0])∧SXS w' (fun _=>True) a [⟨2,[[88]],y,0⟩] rows∧Below w.heap.size w w':=fun w=>by
     have:=parseProg_any (⟨#[88,32,58,61,32]⟩++s++⟨#[10,59]⟩) w (by rw [←hu];unfold maxLen;omega)
     rw [hpu] at this
     exact this.mono (fun e w' h=>h.open')
    first|refine zzr fun K hK=>?_|refine zzt fun K hK=>?_
    simp [go_sem,za0,za2,za1,hB11.cell, hsz1,hsz2]
    refine za5 (by simp [go_sem,za0,za2,za1,hB11.cell,hsz1,hsz2]) rfl Try.call6 (fun R hR=>?_)
    simp [go_sem,za0,za2,za1,hB11.cell,hsz1,hsz2]
    refine (k3 _).mono ?_
    rintro e w30 ⟨a3,c3,rows3,rfl,h3,hE30⟩
    refine ⟨_,rfl,hR _ _ ?_⟩
    clear hR R
    replace hA0:=hA0.next hE30
    replace hA2:=hA2.next hE30
    replace hB11:=hB11.keep hE30
    have hA31:=Below.refl (w30).heap.size (w30)
    simp [go_sem,za0,za2,za1,hB11.cell]
    refine zar (by simp [go_sem,za0,za2,za1,hB11.cell]) rfl ty_zeroC25 (fun w80 b80 hE80 hle80 hB80=>?_)
    have hb80_0:=Nat.le_trans hA0.size hle80
    have hb80_1:=Nat.le_trans hA2.size hle80
    have hb80_2:=Nat.le_trans hA31.size hle80
    have hd10_80:b10≠b80:=Nat.ne_of_lt (Nat.lt_of_lt_of_le hB11.lt hle80)
    replace hA0:=hA0.next hE80
    replace hA2:=hA2.next hE80
    replace hA31:=hA31.next hE80
    replace hB11:=hB11.keep hE80
    simp [go_sem,za0,za2,za1,hB11.cell,hB80.cell]
    refine za7 (b:=b80) (off:=0) [.slice a3 1 c3] (by simp [go_sem,za0,za2,za1,hB11.cell,hB80.cell]) rfl (by simp [go_sem,za0,za2,za1,hB11.cell,hB80.cell]) (by simp [go_sem,Value.cells,za0,za2,za1,hB11.cell,hB80.cell]) ty_size25 hB80 (by simp) (by simp [Value.oneCell']) (by decide) (fun w81 hS81 hB81=>?_)
    simp [zaD] at hB81
    replace hA0:=hA0.nextS hS81 (by first|exact hb80_0|omega)
    replace hA2:=hA2.nextS hS81 (by first|exact hb80_1|omega)
    replace hA31:=hA31.nextS hS81 (by first|exact hb80_2|omega)
    replace hB11:=hB11.sto hS81 (by first|exact hd10_80|exact (hd80_10).symm)
    simp [go_sem,za0,za2,za1,hB11.cell,hB81.cell]
    refine hK _ _ ?_;clear hK K
    obtain ⟨J,hJ⟩:∃ J:G→World→Prop,J=fun g' w2=>g' 2 = .bool true∧Below w.heap.size w w2:=⟨_,rfl⟩
    refine W_rdTJ (J) (.li 0 (.li 1 (.li 2 (.li 3 (.li 5 (.fork 4 (.hv 6 (.hv 7 (.hv 8 (.hv 9 (.hv 10 (.li 11 (.li 12 (.hv 13 (.li 14 (.li 15 .done)))))))))) (.hv 6 (.hv 4 (.hv 7 (.hv 8 (.hv 9 (.hv 10 (.li 11 (.li 12 (.hv 13 (.li 14 (.li 15 .done))))))))))))))))) (by kernel_rfl) (by kernel_rfl) ?_ ?_
    ·intro w0 hw0
     have hD:Below w81.heap.size w81 w0:=by rw [hw0];exact Below.drew1 _
     have hA:Below w.heap.size w w0:=hA0.next hD
     have hb10:=(hB11).keep hD
     have hb30:=(hB81).keep hD
     have hx0:=((hx.ext hA2)).ext hD
     have h30:=((h3.ext hA31)).ext hD
     clear hw0
     have hz:=Nat.le_refl w0.heap.size
     simp [go_sem,hb10.cell,hb30.cell,za0,za2,za1]
     refine ⟨?_,?_⟩
     ·skip
      refine zam #[.string ⟨#[88]⟩] (by simp [go_sem,hb10.cell,hb30.cell,za0,za2,za1]) rfl zcJ (by decide) [(0,.string ⟨#[88]⟩)] (by simp [go_sem,hb10.cell,hb30.cell,za0,za2,za1]) (by kernel_rfl) (fun w40 b40 hE40 hle40 hB40=>?_)
      refine zaA (hE40.mono hz) ?_
      replace hz:=Nat.le_trans hz hE40.size
      replace hA:=hA.next hE40
      replace hx0:=hx0.ext hE40
      replace h30:=h30.ext hE40
      try replace hye:=hye.ext hE40
      simp [go_sem,hb10.cell,hb30.cell,za0,za2,za1]
      refine za5 (by simp [go_sem,hb10.cell,hb30.cell,za0,za2,za1]) rfl Try.call7 (fun R hR=>?_)
      simp [go_sem,hb10.cell,hb30.cell,za0,za2,za1]
      refine (moved_any x hxn 5 _ _ _ hx0).mono ?_
      rintro e w51 ⟨Ry,rfl,hye,hE51⟩
      refine ⟨_,rfl,hR _ _ ?_⟩
      clear hR R
      refine zaA (hE51.mono hz) ?_
      rw [←hy] at hye
      obtain ⟨xa,xc,xb,xd,xad,xcap,xrows,hRy,_⟩:=hye.open
      subst hRy
      replace hz:=Nat.le_trans hz hE51.size
      replace hA:=hA.next hE51
      replace hx0:=hx0.ext hE51
      replace h30:=h30.ext hE51
      try replace hB40:=hB40.keep hE51
      simp [go_sem,hb10.cell,hb30.cell,za0,za2,za1]
      refine zap #[.int .i64 2,.slice (some ⟨b40,0,none⟩) 1 1,.int .i64 y.kind,.string ⟨y.name.toArray⟩,.bool y.neg,.slice xa y.num.length xc,.slice xb y.den.length xd,.slice xad y.args.length xcap,.int .i64 y.pos,.int .i64 0] (by simp [go_sem]) rfl ty_stZ40 [(0,.int .i64 2),(1,.slice (some ⟨b40,0,none⟩) 1 1),(2,.agg #[.int .i64 y.kind,.string ⟨y.name.toArray⟩,.bool y.neg,.slice xa y.num.length xc,.slice xb y.den.length xd,.slice xad y.args.length xcap,.int .i64 y.pos])] (by simp [go_sem]) (by kernel_rfl) ?_
      refine zaA ((Below.refl _ _).mono hz) ?_
      simp [go_sem,hb10.cell,hb30.cell,za0,za2,za1]
      refine zam #[.int .i64 2,.slice (some ⟨b40,0,none⟩) 1 1,.int .i64 y.kind,.string ⟨y.name.toArray⟩,.bool y.neg,.slice xa y.num.length xc,.slice xb y.den.length xd,.slice xad y.args.length xcap,.int .i64 y.pos,.int .i64 0] (by simp [go_sem,hb10.cell,hb30.cell,za0,za2,za1]) rfl ty_slZ23 (by decide) [(0,.agg #[.int .i64 2,.slice (some ⟨b40,0,none⟩) 1 1,.int .i64 y.kind,.string ⟨y.name.toArray⟩,.bool y.neg,.slice xa y.num.length xc,.slice xb y.den.length xd,.slice xad y.args.length xcap,.int .i64 y.pos,.int .i64 0])] (by simp [go_sem,hb10.cell,hb30.cell,za0,za2,za1]) (by kernel_rfl) (fun w60 b60 hE60 hle60 hB60=>?_)
      refine zaA (hE60.mono hz) ?_
      replace hz:=Nat.le_trans hz hE60.size
      replace hA:=hA.next hE60
      replace h30:=h30.ext hE60
      replace hye:=hye.ext hE60
      replace hB40:=hB40.keep hE60
      simp [go_sem,hb10.cell,hb30.cell,za0,za2,za1]
      refine zap #[.slice (some ⟨b60,0,none⟩) 1 1] (by simp [go_sem]) rfl ty_stZ25 [(0,.slice (some ⟨b60,0,none⟩) 1 1)] (by simp [go_sem]) (by kernel_rfl) ?_
      refine zaA ((Below.refl _ _).mono hz) ?_
      simp [go_sem,hb10.cell,hb30.cell,za0,za2,za1]
      have hq:SXS w60 (fun _=>True) (some ⟨b60,0,none⟩) [⟨2,[[88]],y,0⟩] [[.int .i64 2,.slice (some ⟨b40,0,none⟩) 1 1,.int .i64 y.kind,.string ⟨y.name.toArray⟩,.bool y.neg,.slice xa y.num.length xc,.slice xb y.den.length xd,.slice xad y.args.length xcap,.int .i64 y.pos,.int .i64 0]]:=by
       refine ⟨by simpa using SL.whole hB60,by simp [maxLen],rfl,fun i R z hR hz=>?_⟩
       match i,hR,hz with
       | 0,hR,hz =>
        simp at hR hz
        subst hR;subst hz
        exact ⟨some ⟨b40,0,none⟩,1,_,rfl,⟨by simpa [strV] using SL.whole hB40,fun _ _ _=>trivial,by simp [maxLen]⟩,hye.mono (fun _ _=>trivial)⟩
       | i+1,hR,hz=>simp at hR
      refine za5 (by simp [go_sem,hb10.cell,hb30.cell,za0,za2,za1]) rfl Try.call8 (fun R hR=>?_)
      simp [go_sem,hb10.cell,hb30.cell,za0,za2,za1]
      refine (sameProg_any [⟨2,[[88]],y,0⟩] _ _ _ _ _ _ _ _ _ h30 hq).mono ?_
      rintro e w71 ⟨rfl,hE71⟩
      refine ⟨_,rfl,hR _ _ ?_⟩
      clear hR R
      refine zaA (hE71.mono hz) ?_
      replace hz:=Nat.le_trans hz hE71.size
      replace hA:=hA.next hE71
      simp [go_sem,hb10.cell,hb30.cell,za0,za2,za1]
      refine za5 (by simp [go_sem,hb10.cell,hb30.cell,za0,za2,za1]) rfl Try.call5 (fun R hR=>?_)
      simp [go_sem,hb10.cell,hb30.cell,za0,za2,za1]
      refine (zcH _).mono ?_
      rintro e w72 ⟨rfl,hE72⟩
      refine ⟨_,rfl,hR _ _ ?_⟩
      clear hR R
      refine zaA (hE72.mono hz) ?_
      replace hA:=hA.next hE72
      simp [go_sem,hb10.cell,hb30.cell,za0,za2,za1]
      rw [hJ]
      exact ⟨by simp [go_sem],hA⟩
     ·skip
      refine za5 (by simp [go_sem,hb10.cell,hb30.cell,za0,za2,za1]) rfl Try.call7 (fun R hR=>?_)
      simp [go_sem,hb10.cell,hb30.cell,za0,za2,za1]
      refine (moved_any x hxn 5 _ _ _ hx0).mono ?_
      rintro e w51 ⟨Ry,rfl,hye,hE51⟩
      refine ⟨_,rfl,hR _ _ ?_⟩
      clear hR R
      refine zaA (hE51.mono hz) ?_
      rw [←hy] at hye
      obtain ⟨xa,xc,xb,xd,xad,xcap,xrows,hRy,_⟩:=hye.open
      subst hRy
      replace hz:=Nat.le_trans hz hE51.size
      replace hA:=hA.next hE51
      replace hx0:=hx0.ext hE51
      replace h30:=h30.ext hE51
      try replace hB40:=hB40.keep hE51
      simp [go_sem,hb10.cell,hb30.cell,za0,za2,za1]
      refine zam #[.string ⟨#[88]⟩] (by simp [go_sem,hb10.cell,hb30.cell,za0,za2,za1]) rfl zcJ (by decide) [(0,.string ⟨#[88]⟩)] (by simp [go_sem,hb10.cell,hb30.cell,za0,za2,za1]) (by kernel_rfl) (fun w40 b40 hE40 hle40 hB40=>?_)
      refine zaA (hE40.mono hz) ?_
      replace hz:=Nat.le_trans hz hE40.size
      replace hA:=hA.next hE40
      replace hx0:=hx0.ext hE40
      replace h30:=h30.ext hE40
      try replace hye:=hye.ext hE40
      simp [go_sem,hb10.cell,hb30.cell,za0,za2,za1]
      refine zap #[.int .i64 2,.slice (some ⟨b40,0,none⟩) 1 1,.int .i64 y.kind,.string ⟨y.name.toArray⟩,.bool y.neg,.slice xa y.num.length xc,.slice xb y.den.length xd,.slice xad y.args.length xcap,.int .i64 y.pos,.int .i64 0] (by simp [go_sem]) rfl ty_stZ40 [(0,.int .i64 2),(1,.slice (some ⟨b40,0,none⟩) 1 1),(2,.agg #[.int .i64 y.kind,.string ⟨y.name.toArray⟩,.bool y.neg,.slice xa y.num.length xc,.slice xb y.den.length xd,.slice xad y.args.length xcap,.int .i64 y.pos])] (by simp [go_sem]) (by kernel_rfl) ?_
      refine zaA ((Below.refl _ _).mono hz) ?_
      simp [go_sem,hb10.cell,hb30.cell,za0,za2,za1]
      refine zam #[.int .i64 2,.slice (some ⟨b40,0,none⟩) 1 1,.int .i64 y.kind,.string ⟨y.name.toArray⟩,.bool y.neg,.slice xa y.num.length xc,.slice xb y.den.length xd,.slice xad y.args.length xcap,.int .i64 y.pos,.int .i64 0] (by simp [go_sem,hb10.cell,hb30.cell,za0,za2,za1]) rfl ty_slZ23 (by decide) [(0,.agg #[.int .i64 2,.slice (some ⟨b40,0,none⟩) 1 1,.int .i64 y.kind,.string ⟨y.name.toArray⟩,.bool y.neg,.slice xa y.num.length xc,.slice xb y.den.length xd,.slice xad y.args.length xcap,.int .i64 y.pos,.int .i64 0])] (by simp [go_sem,hb10.cell,hb30.cell,za0,za2,za1]) (by kernel_rfl) (fun w60 b60 hE60 hle60 hB60=>?_)
      refine zaA (hE60.mono hz) ?_
      replace hz:=Nat.le_trans hz hE60.size
      replace hA:=hA.next hE60
      replace h30:=h30.ext hE60
      replace hye:=hye.ext hE60
      replace hB40:=hB40.keep hE60
      simp [go_sem,hb10.cell,hb30.cell,za0,za2,za1]
      refine zap #[.slice (some ⟨b60,0,none⟩) 1 1] (by simp [go_sem]) rfl ty_stZ25 [(0,.slice (some ⟨b60,0,none⟩) 1 1)] (by simp [go_sem]) (by kernel_rfl) ?_
      refine zaA ((Below.refl _ _).mono hz) ?_
      simp [go_sem,hb10.cell,hb30.cell,za0,za2,za1]
      have hq:SXS w60 (fun _=>True) (some ⟨b60,0,none⟩) [⟨2,[[88]],y,0⟩] [[.int .i64 2,.slice (some ⟨b40,0,none⟩) 1 1,.int .i64 y.kind,.string ⟨y.name.toArray⟩,.bool y.neg,.slice xa y.num.length xc,.slice xb y.den.length xd,.slice xad y.args.length xcap,.int .i64 y.pos,.int .i64 0]]:=by
       refine ⟨by simpa using SL.whole hB60,by simp [maxLen],rfl,fun i R z hR hz=>?_⟩
       match i,hR,hz with
       | 0,hR,hz =>
        simp at hR hz
        subst hR;subst hz
        exact ⟨some ⟨b40,0,none⟩,1,_,rfl,⟨by simpa [strV] using SL.whole hB40,fun _ _ _=>trivial,by simp [maxLen]⟩,hye.mono (fun _ _=>trivial)⟩
       | i+1,hR,hz=>simp at hR
      refine za5 (by simp [go_sem,hb10.cell,hb30.cell,za0,za2,za1]) rfl Try.call8 (fun R hR=>?_)
      simp [go_sem,hb10.cell,hb30.cell,za0,za2,za1]
      refine (sameProg_any [⟨2,[[88]],y,0⟩] _ _ _ _ _ _ _ _ _ h30 hq).mono ?_
      rintro e w71 ⟨rfl,hE71⟩
      refine ⟨_,rfl,hR _ _ ?_⟩
      clear hR R
      refine zaA (hE71.mono hz) ?_
      replace hz:=Nat.le_trans hz hE71.size
      replace hA:=hA.next hE71
      simp [go_sem,hb10.cell,hb30.cell,za0,za2,za1]
      refine za5 (by simp [go_sem,hb10.cell,hb30.cell,za0,za2,za1]) rfl Try.call5 (fun R hR=>?_)
      simp [go_sem,hb10.cell,hb30.cell,za0,za2,za1]
      refine (zcH _).mono ?_
      rintro e w72 ⟨rfl,hE72⟩
      refine ⟨_,rfl,hR _ _ ?_⟩
      clear hR R
      refine zaA (hE72.mono hz) ?_
      replace hA:=hA.next hE72
      simp [go_sem,hb10.cell,hb30.cell,za0,za2,za1]
      rw [hJ]
      exact ⟨by simp [go_sem],hA⟩
    ·intro g w2 hJ'
     rw [hJ] at hJ'
     obtain ⟨g2,hA2⟩:=hJ'
     refine zal ?_
     repeat (first|refine za4 ?_|refine za3 ?_)
     refine ⟨trivial,?_,hA2⟩
     simp [go_sem,zaw,zav,g2]
   ·simp [go_sem,za0,za2,za1,hB11.cell,hso]
    refine hK _ _ ?_;clear hK K
    refine zao (t:=true) (by simp [go_sem,za0,za2,za1,hB11.cell,hso]) rfl ?_
    first|refine zzr fun K hK=>?_|refine zzt fun K hK=>?_
    simp [go_sem,za0,za2,za1,hB11.cell]
    refine za5 (by simp [go_sem,za0,za2,za1,hB11.cell]) rfl Try.call5 (fun R hR=>?_)
    simp [go_sem,za0,za2,za1,hB11.cell]
    refine (zcH _).mono ?_
    rintro e w82 ⟨rfl,hE82⟩
    refine ⟨_,rfl,hR _ _ ?_⟩
    clear hR R
    replace hA0:=hA0.next hE82
    replace hA2:=hA2.next hE82
    replace hB11:=hB11.keep hE82
    simp [go_sem,za0,za2,za1,hB11.cell]
    refine hK _ _ ?_;clear hK K
    refine zal ?_
    repeat (first|refine za4 ?_|refine za3 ?_)
    refine ⟨trivial,?_,hA0⟩
    simp [go_sem,zaw,zav]
 ·first|refine zzr fun K hK=>?_|refine zzt fun K hK=>?_
  simp [go_sem,za0,za2,za1,hB11.cell, hq0]
  refine hK _ _ ?_;clear hK K
  refine zao (t:=true) (by simp [go_sem,za0,za2,za1,hB11.cell,hq0]) rfl ?_
  first|refine zzr fun K hK=>?_|refine zzt fun K hK=>?_
  simp [go_sem,za0,za2,za1,hB11.cell]
  refine za5 (by simp [go_sem,za0,za2,za1,hB11.cell]) rfl Try.call5 (fun R hR=>?_)
  simp [go_sem,za0,za2,za1,hB11.cell]
  refine (zcH _).mono ?_
  rintro e w83 ⟨rfl,hE83⟩
  refine ⟨_,rfl,hR _ _ ?_⟩
  clear hR R
  replace hA0:=hA0.next hE83
  replace hA2:=hA2.next hE83
  replace hB11:=hB11.keep hE83
  simp [go_sem,za0,za2,za1,hB11.cell]
  refine hK _ _ ?_;clear hK K
  refine zal ?_
  repeat (first|refine za4 ?_|refine za3 ?_)
  refine ⟨trivial,?_,hA0⟩
  simp [go_sem,zaw,zav]
set_option maxRecDepth 100000 in
theorem parserWithin_lifted (os:Os) (started:os.Started) (H:Type) (enc:TypeId × Value→H) :
  ReturnsInHanded {} Try.checked os 4 .any (Rows.parserWithinSpec.pre6 enc Try.prog Try.f4 Rows.parserWithinRow.domain false) (Rows.parserWithinSpec.post enc Try.prog Try.f4 false true false false):=by
 refine law_lifted (C:=Try.checked) (s:=Rows.parserWithinSpec) Try.own Try.laidOut (by kernel_rfl) Try.func4 rfl 4 rfl Try.underlying4 (by kernel_rfl) enc ?_ ?_ os started
  (ChangeSpec.witness6 (enc:=enc) (C:=Try.checked) false ⟨#[],#[.string ⟨#[]⟩],[]⟩ 8 (by kernel_rfl) (by kernel_rfl) (by kernel_rfl) (by kernel_rfl))
 ·intro ds hl
  match ds,hl with
  | [d0],_=>rfl
 ·intro W base args ds ps hval hA hlt _
  have hA':DataW.TrodAll enc Try.prog W 0 (fun _=>true) true [9] args.toList ds ps:=hA
  have hval':∀ (j:Nat) t v,Try.f4.params[j]? = some t→args[j]? = some v→Value.okWide Try.prog W .any base t v:=hval
  obtain ⟨v0,d0,rfl,rfl,h0⟩:=Go.ChangeShapes.trodAll_one hA'
  obtain ⟨s,rfl,rfl,rfl,hs_s⟩:=Go.ChangeMaps.open_string Try.underlying9 (hval' 0 9 v0 rfl rfl) h0
  exact parserWithin_any s W hs_s
theorem parserWithin_holds:Rows.ParserWithinSaid :=
 OpenClaim.holds_of_wide 4 Try.f4 rfl rfl rfl rfl rfl rfl rfl ⟨rfl,rfl,rfl,rfl,rfl⟩ rfl rfl rfl rfl rfl (by kernel_rfl) Try.func4 (by kernel_rfl)
  (of_decide_eq_true (by kernel_rfl)) (by unfold Func.isWrapper;first|(rw [if_pos (by decide +kernel)];kernel_rfl)|(rw [if_neg (by decide +kernel)];exact ⟨rfl,rfl⟩))
  (fun os started H enc _=>parserWithin_lifted os started H enc)
end Go.Proofs.Ytefhenfofomjhaa
