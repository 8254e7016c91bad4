/- Integers: the numerals. -/
import Derived.Test.YtefhenfofomjhaaGreatVE
import Derived.Test.YtefhenfofomjhaaGreatNu8
import Derived.Test.YtefhenfofomjhaaGreatNtH
import Derived.Test.YtefhenfofomjhaaGreatRows
import Derived.ProofKit
import Derived.SizedLaws
import Derived.ChangeSlices
import Derived.ChangeSame
set_option linter.unusedSimpArgs false
set_option linter.unusedVariables false
namespace Go.Proofs.YtefhenfofomjhaaGreat
open Go.RowKit Go.V
set_option maxRecDepth 20000
def iv (neg:Bool) (x:Nat):Int:=if neg then -(x:Int) else x
def iR (z:Int) (a:Option Addr) (c:Nat):Value:=.agg #[.bool (decide (z<0)),.slice a (lim z.natAbs).length c]
def RetI (w:World) (z:Int) (e:Ending) (w':World):Prop:=∃ a c,e = .returned (iR z a c)∧RD w' a c (lim z.natAbs)∧Below w.heap.size w w'
theorem zc3 (neg:Bool) (x:Nat):(iv neg x).natAbs=x:=by unfold iv;cases neg<;>simp
theorem iv_neg (neg:Bool) (x:Nat):decide (iv neg x<0)=(neg && decide (0<(lim x).length)):=by
 unfold iv
 cases neg with
 | false=>simp
 | true =>
  by_cases h:x=0
  ·subst h;simp [zao]
  ·have:=lim_ne h
   simp [this];omega
theorem iv_self (z:Int):iv (decide (z<0)) z.natAbs=z:=by
 unfold iv
 by_cases h:z<0
 ·simp [h];omega
 ·simp [h];omega
theorem RD.keep {w w':World} {a:Option Addr} {c:Nat} {l:List Nat} (h:RD w a c l) (hb:Below w.heap.size w w'):RD w' a c l:=h.ext hb
theorem RD.nbox {w:World} {a a':Option Addr} {c n c' b:Nat} {l:List Nat} {neg:Bool} {t:TypeId} (h:RD w a c l) (hB:Bx w b #[.bool neg,.slice a' n c'] t):∀ ad,a=some ad→l≠[]→ad.block≠b:=by
 intro ad ha hl e
 rcases h.sl with e0|⟨b',off,e1,hc⟩
 ·exact hl (List.map_eq_nil_iff.1 e0)
 ·rw [ha] at e1
  injection e1 with e1
  subst e1
  subst e
  obtain ⟨x,r,rfl⟩:∃ x r,l=x::r:=by
   cases l with
   | nil=>exact absurd rfl hl
   | cons x r=>exact ⟨x,r,rfl⟩
  have h1:=hc 0 (.int .u16 x) rfl
  rw [hB.cell] at h1
  rcases off with _|_|off
  ·cases h1
  ·cases h1
  ·cases h1
theorem ibx {w:World} {b n c:Nat} {t:TypeId} {a:Option Addr} {neg:Bool} (h:Bx w b #[.bool neg,.slice a n c] t):w.cell? ⟨b,0,none⟩=some (.bool neg)∧w.cell? ⟨b,1,none⟩=some (.slice a n c):=⟨h.cell 0,h.cell 1⟩
theorem iv_n (x:Nat):decide (iv false x<0)=false:=by rw [iv_neg];rfl
theorem iv_z:decide (iv true 0<0)=false:=by rw [iv_neg,zao];rfl
theorem iv_p (x:Nat) (h:x≠0):decide (iv true x<0)=true:=by
 rw [iv_neg];have:=lim_ne h;simp [this]
set_option maxHeartbeats 400000 in
theorem made_any (neg:Bool) (x:Nat) (a:Option Addr) (c:Nat) (w:World) (hr:RD w a c (lim x)) :
  Calls Tryz.prog 92 #[.bool neg,.slice a (lim x).length c] w (RetI w (iv neg x)):=by
 refine za7 (args:=[.bool neg,.slice a (lim x).length c]) (rs:=[.cell 4 25]) (n:=13) Tryz.func92 rfl rfl rfl (by kernel_rfl) ?_
 first|refine zzr fun K hK=>?_|refine zzt fun K hK=>?_
 simp [go_sem]
 refine zam (by simp [go_sem]) rfl zbA (fun w4 b4 hE4 hle4 hB4=>?_)
 replace hr:=hr.ext hE4
 have hE:=hE4
 simp [go_sem]
 refine hK _ _ ?_;clear hK K
 cases neg with
 | false =>
  have e0:=iv_n x
  first|refine zzr fun K hK=>?_|refine zzt fun K hK=>?_
  simp [go_sem,zao]
  refine zal #[.bool false,.slice a (lim x).length c] (by simp [go_sem,zao]) rfl zc2 [(0,.bool false),(1,.slice a (lim x).length c)] (by simp [go_sem,zao]) rfl ?_
  simp [go_sem,zao]
  refine za6 (b:=b4) (off:=0) [.bool false,.slice a (lim x).length c] (by simp [go_sem,zao]) rfl (by simp [go_sem,zao]) (by simp [go_sem,Value.cells,zao]) zaJ hB4 (by simp) (by simp [Value.oneCell']) (by decide) (fun w5 hS5 hB5=>?_)
  simp [zaD] at hB5
  replace hr:=hr.sto hS5 (hr.nbox hB4)
  obtain ⟨k0,k1⟩:=ibx hB5
  simp [go_sem]
  refine hK _ _ ?_;clear hK K
  refine zaf ?_
  repeat (first|refine za3 ?_|refine za2 ?_)
  refine ⟨by simp [zaO,go_sem,za1,k0,k1,za0],a,c,?_,by rw [zc3];exact hr,hE.nextS hS5 hle4⟩
  simp [go_sem,zat,zas,za4,k0,k1,za0,iR,zc3,e0]
 | true =>
  by_cases h:x=0
  ·have e0:decide (iv true x<0)=false:=by rw [h];exact iv_z
   have hx1:¬0<(lim x).length:=by rw [h,zao];simp
   have hx1':¬(0:Int)<(lim x).length:=by omega
   first|refine zzr fun K hK=>?_|refine zzt fun K hK=>?_
   simp [go_sem,hx1,hx1']
   refine zal #[.bool false,.slice a (lim x).length c] (by simp [go_sem,hx1,hx1']) rfl zc2 [(0,.bool false),(1,.slice a (lim x).length c)] (by simp [go_sem,hx1,hx1']) rfl ?_
   simp [go_sem,hx1,hx1']
   refine za6 (b:=b4) (off:=0) [.bool false,.slice a (lim x).length c] (by simp [go_sem,hx1,hx1']) rfl (by simp [go_sem,hx1,hx1']) (by simp [go_sem,Value.cells,hx1,hx1']) zaJ hB4 (by simp) (by simp [Value.oneCell']) (by decide) (fun w5 hS5 hB5=>?_)
   simp [zaD] at hB5
   replace hr:=hr.sto hS5 (hr.nbox hB4)
   obtain ⟨k0,k1⟩:=ibx hB5
   simp [go_sem]
   refine hK _ _ ?_;clear hK K
   refine zaf ?_
   repeat (first|refine za3 ?_|refine za2 ?_)
   refine ⟨by simp [zaO,go_sem,za1,k0,k1,za0],a,c,?_,by rw [zc3];exact hr,hE.nextS hS5 hle4⟩
   simp [go_sem,zat,zas,za4,k0,k1,za0,iR,zc3,e0]
  ·have e0:=iv_p x h
   have hp:=lim_ne h
   have hp':(0:Int)<(lim x).length:=by omega
   first|refine zzr fun K hK=>?_|refine zzt fun K hK=>?_
   simp [go_sem,hp,hp']
   refine zal #[.bool true,.slice a (lim x).length c] (by simp [go_sem,hp,hp']) rfl zc2 [(0,.bool true),(1,.slice a (lim x).length c)] (by simp [go_sem,hp,hp']) rfl ?_
   simp [go_sem,hp,hp']
   refine za6 (b:=b4) (off:=0) [.bool true,.slice a (lim x).length c] (by simp [go_sem,hp,hp']) rfl (by simp [go_sem,hp,hp']) (by simp [go_sem,Value.cells,hp,hp']) zaJ hB4 (by simp) (by simp [Value.oneCell']) (by decide) (fun w5 hS5 hB5=>?_)
   simp [zaD] at hB5
   replace hr:=hr.sto hS5 (hr.nbox hB4)
   obtain ⟨k0,k1⟩:=ibx hB5
   simp [go_sem]
   refine hK _ _ ?_;clear hK K
   refine zaf ?_
   repeat (first|refine za3 ?_|refine za2 ?_)
   refine ⟨by simp [zaO,go_sem,za1,k0,k1,za0],a,c,?_,by rw [zc3];exact hr,hE.nextS hS5 hle4⟩
   simp [go_sem,zat,zas,za4,k0,k1,za0,iR,zc3,e0]
set_option maxHeartbeats 400000 in
theorem iof_any (neg:Bool) (l:List Nat) (a:Option Addr) (c:Nat) (w:World) (hr:RD w a c l) (hl:l.length≤zbS) :
  Calls Tryz.prog 110 #[.bool neg,.slice a l.length c] w (RetI w (iv neg (val l))):=by
 have hno:=fun {w} hr=>norm_any l a c w hr hl
 rw [←zaP l hr.ok] at hno
 refine za7 (args:=[.bool neg,.slice a l.length c]) (rs:=[.cell 4 25]) (n:=15) Tryz.func110 rfl rfl rfl (by kernel_rfl) ?_
 first|refine zzr fun K hK=>?_|refine zzt fun K hK=>?_
 simp [go_sem]
 refine zam (by simp [go_sem]) rfl zbA (fun w4 b4 hE4 hle4 hB4=>?_)
 replace hr:=hr.ext hE4
 simp [go_sem]
 refine hK _ _ ?_;clear hK K
 first|refine zzr fun K hK=>?_|refine zzt fun K hK=>?_
 simp [go_sem]
 refine za5 (by simp [go_sem]) rfl Tryz.call94 (fun R hR=>?_)
 simp [go_sem]
 refine (hno hr).mono ?_
 rintro e w6 ⟨a,c,rfl,hr,hE6⟩
 refine ⟨_,rfl,hR _ _ ?_⟩
 clear hR R
 generalize val l=x at *
 have hE:=hE4.next hE6
 replace hB4:=hB4.keep hE6
 simp [go_sem]
 refine hK _ _ ?_;clear hK K
 cases neg with
 | false =>
  have e0:=iv_n x
  first|refine zzr fun K hK=>?_|refine zzt fun K hK=>?_
  simp [go_sem,zao]
  refine zal #[.bool false,.slice a (lim x).length c] (by simp [go_sem,zao]) rfl zc2 [(0,.bool false),(1,.slice a (lim x).length c)] (by simp [go_sem,zao]) rfl ?_
  simp [go_sem,zao]
  refine za6 (b:=b4) (off:=0) [.bool false,.slice a (lim x).length c] (by simp [go_sem,zao]) rfl (by simp [go_sem,zao]) (by simp [go_sem,Value.cells,zao]) zaJ hB4 (by simp) (by simp [Value.oneCell']) (by decide) (fun w5 hS5 hB5=>?_)
  simp [zaD] at hB5
  replace hr:=hr.sto hS5 (hr.nbox hB4)
  obtain ⟨k0,k1⟩:=ibx hB5
  simp [go_sem]
  refine hK _ _ ?_;clear hK K
  refine zaf ?_
  repeat (first|refine za3 ?_|refine za2 ?_)
  refine ⟨by simp [zaO,go_sem,za1,k0,k1,za0],a,c,?_,by rw [zc3];exact hr,hE.nextS hS5 hle4⟩
  simp [go_sem,zat,zas,za4,k0,k1,za0,iR,zc3,e0]
 | true =>
  by_cases h:x=0
  ·have e0:decide (iv true x<0)=false:=by rw [h];exact iv_z
   have hx1:¬0<(lim x).length:=by rw [h,zao];simp
   have hx1':¬(0:Int)<(lim x).length:=by omega
   first|refine zzr fun K hK=>?_|refine zzt fun K hK=>?_
   simp [go_sem,hx1,hx1']
   refine zal #[.bool false,.slice a (lim x).length c] (by simp [go_sem,hx1,hx1']) rfl zc2 [(0,.bool false),(1,.slice a (lim x).length c)] (by simp [go_sem,hx1,hx1']) rfl ?_
   simp [go_sem,hx1,hx1']
   refine za6 (b:=b4) (off:=0) [.bool false,.slice a (lim x).length c] (by simp [go_sem,hx1,hx1']) rfl (by simp [go_sem,hx1,hx1']) (by simp [go_sem,Value.cells,hx1,hx1']) zaJ hB4 (by simp) (by simp [Value.oneCell']) (by decide) (fun w5 hS5 hB5=>?_)
   simp [zaD] at hB5
   replace hr:=hr.sto hS5 (hr.nbox hB4)
   obtain ⟨k0,k1⟩:=ibx hB5
   simp [go_sem]
   refine hK _ _ ?_;clear hK K
   refine zaf ?_
   repeat (first|refine za3 ?_|refine za2 ?_)
   refine ⟨by simp [zaO,go_sem,za1,k0,k1,za0],a,c,?_,by rw [zc3];exact hr,hE.nextS hS5 hle4⟩
   simp [go_sem,zat,zas,za4,k0,k1,za0,iR,zc3,e0]
  ·have e0:=iv_p x h
   have hp:=lim_ne h
   have hp':(0:Int)<(lim x).length:=by omega
   first|refine zzr fun K hK=>?_|refine zzt fun K hK=>?_
   simp [go_sem,hp,hp']
   refine zal #[.bool true,.slice a (lim x).length c] (by simp [go_sem,hp,hp']) rfl zc2 [(0,.bool true),(1,.slice a (lim x).length c)] (by simp [go_sem,hp,hp']) rfl ?_
   simp [go_sem,hp,hp']
   refine za6 (b:=b4) (off:=0) [.bool true,.slice a (lim x).length c] (by simp [go_sem,hp,hp']) rfl (by simp [go_sem,hp,hp']) (by simp [go_sem,Value.cells,hp,hp']) zaJ hB4 (by simp) (by simp [Value.oneCell']) (by decide) (fun w5 hS5 hB5=>?_)
   simp [zaD] at hB5
   replace hr:=hr.sto hS5 (hr.nbox hB4)
   obtain ⟨k0,k1⟩:=ibx hB5
   simp [go_sem]
   refine hK _ _ ?_;clear hK K
   refine zaf ?_
   repeat (first|refine za3 ?_|refine za2 ?_)
   refine ⟨by simp [zaO,go_sem,za1,k0,k1,za0],a,c,?_,by rw [zc3];exact hr,hE.nextS hS5 hle4⟩
   simp [go_sem,zat,zas,za4,k0,k1,za0,iR,zc3,e0]
set_option maxHeartbeats 400000 in
theorem iofR_any (neg:Bool) (l:List Nat) (a:Option Addr) (c:Nat) (w:World) (hr:RD w a c l) (hl:l.length≤zbS) :
  Calls Tryz.prog 125 #[.bool neg,.slice a l.length c] w (RetI w (iv neg (val l))):=by
 have hno:=fun {w} hr=>zbX l a c w hr hl
 rw [←zaP l hr.ok] at hno
 refine za7 (args:=[.bool neg,.slice a l.length c]) (rs:=[.cell 4 25]) (n:=15) Tryz.func125 rfl rfl rfl (by kernel_rfl) ?_
 first|refine zzr fun K hK=>?_|refine zzt fun K hK=>?_
 simp [go_sem]
 refine zam (by simp [go_sem]) rfl zbA (fun w4 b4 hE4 hle4 hB4=>?_)
 replace hr:=hr.ext hE4
 simp [go_sem]
 refine hK _ _ ?_;clear hK K
 first|refine zzr fun K hK=>?_|refine zzt fun K hK=>?_
 simp [go_sem]
 refine za5 (by simp [go_sem]) rfl Tryz.call121 (fun R hR=>?_)
 simp [go_sem]
 refine (hno hr).mono ?_
 rintro e w6 ⟨a,c,rfl,hr,hE6⟩
 refine ⟨_,rfl,hR _ _ ?_⟩
 clear hR R
 generalize val l=x at *
 have hE:=hE4.next hE6
 replace hB4:=hB4.keep hE6
 simp [go_sem]
 refine hK _ _ ?_;clear hK K
 cases neg with
 | false =>
  have e0:=iv_n x
  first|refine zzr fun K hK=>?_|refine zzt fun K hK=>?_
  simp [go_sem,zao]
  refine zal #[.bool false,.slice a (lim x).length c] (by simp [go_sem,zao]) rfl zc2 [(0,.bool false),(1,.slice a (lim x).length c)] (by simp [go_sem,zao]) rfl ?_
  simp [go_sem,zao]
  refine za6 (b:=b4) (off:=0) [.bool false,.slice a (lim x).length c] (by simp [go_sem,zao]) rfl (by simp [go_sem,zao]) (by simp [go_sem,Value.cells,zao]) zaJ hB4 (by simp) (by simp [Value.oneCell']) (by decide) (fun w5 hS5 hB5=>?_)
  simp [zaD] at hB5
  replace hr:=hr.sto hS5 (hr.nbox hB4)
  obtain ⟨k0,k1⟩:=ibx hB5
  simp [go_sem]
  refine hK _ _ ?_;clear hK K
  refine zaf ?_
  repeat (first|refine za3 ?_|refine za2 ?_)
  refine ⟨by simp [zaO,go_sem,za1,k0,k1,za0],a,c,?_,by rw [zc3];exact hr,hE.nextS hS5 hle4⟩
  simp [go_sem,zat,zas,za4,k0,k1,za0,iR,zc3,e0]
 | true =>
  by_cases h:x=0
  ·have e0:decide (iv true x<0)=false:=by rw [h];exact iv_z
   have hx1:¬0<(lim x).length:=by rw [h,zao];simp
   have hx1':¬(0:Int)<(lim x).length:=by omega
   first|refine zzr fun K hK=>?_|refine zzt fun K hK=>?_
   simp [go_sem,hx1,hx1']
   refine zal #[.bool false,.slice a (lim x).length c] (by simp [go_sem,hx1,hx1']) rfl zc2 [(0,.bool false),(1,.slice a (lim x).length c)] (by simp [go_sem,hx1,hx1']) rfl ?_
   simp [go_sem,hx1,hx1']
   refine za6 (b:=b4) (off:=0) [.bool false,.slice a (lim x).length c] (by simp [go_sem,hx1,hx1']) rfl (by simp [go_sem,hx1,hx1']) (by simp [go_sem,Value.cells,hx1,hx1']) zaJ hB4 (by simp) (by simp [Value.oneCell']) (by decide) (fun w5 hS5 hB5=>?_)
   simp [zaD] at hB5
   replace hr:=hr.sto hS5 (hr.nbox hB4)
   obtain ⟨k0,k1⟩:=ibx hB5
   simp [go_sem]
   refine hK _ _ ?_;clear hK K
   refine zaf ?_
   repeat (first|refine za3 ?_|refine za2 ?_)
   refine ⟨by simp [zaO,go_sem,za1,k0,k1,za0],a,c,?_,by rw [zc3];exact hr,hE.nextS hS5 hle4⟩
   simp [go_sem,zat,zas,za4,k0,k1,za0,iR,zc3,e0]
  ·have e0:=iv_p x h
   have hp:=lim_ne h
   have hp':(0:Int)<(lim x).length:=by omega
   first|refine zzr fun K hK=>?_|refine zzt fun K hK=>?_
   simp [go_sem,hp,hp']
   refine zal #[.bool true,.slice a (lim x).length c] (by simp [go_sem,hp,hp']) rfl zc2 [(0,.bool true),(1,.slice a (lim x).length c)] (by simp [go_sem,hp,hp']) rfl ?_
   simp [go_sem,hp,hp']
   refine za6 (b:=b4) (off:=0) [.bool true,.slice a (lim x).length c] (by simp [go_sem,hp,hp']) rfl (by simp [go_sem,hp,hp']) (by simp [go_sem,Value.cells,hp,hp']) zaJ hB4 (by simp) (by simp [Value.oneCell']) (by decide) (fun w5 hS5 hB5=>?_)
   simp [zaD] at hB5
   replace hr:=hr.sto hS5 (hr.nbox hB4)
   obtain ⟨k0,k1⟩:=ibx hB5
   simp [go_sem]
   refine hK _ _ ?_;clear hK K
   refine zaf ?_
   repeat (first|refine za3 ?_|refine za2 ?_)
   refine ⟨by simp [zaO,go_sem,za1,k0,k1,za0],a,c,?_,by rw [zc3];exact hr,hE.nextS hS5 hle4⟩
   simp [go_sem,zat,zas,za4,k0,k1,za0,iR,zc3,e0]
set_option maxHeartbeats 400000 in
theorem iNorm_any (neg:Bool) (l:List Nat) (a:Option Addr) (c:Nat) (w:World) (hr:RD w a c l) (hl:l.length≤zbS) :
  Calls Tryz.prog 95 #[.agg #[.bool neg,.slice a l.length c]] w (RetI w (iv (neg) (val l))):=by
 refine za7 (args:=[.agg #[.bool neg,.slice a l.length c]]) (rs:=[.cell 2 25]) (n:=8) Tryz.func95 rfl rfl rfl (by kernel_rfl) ?_
 first|refine zzr fun K hK=>?_|refine zzt fun K hK=>?_
 simp [go_sem]
 refine zc5 #[.bool neg,.slice a l.length c] (by simp [go_sem]) rfl (by simp [go_sem,Value.cells]) (fun w1 b1 hE1 hle1 hB1=>?_)
 replace hr:=hr.ext hE1
 simp [go_sem]
 refine zam (by simp [go_sem]) rfl zbA (fun w2 b2 hE2 hle2 hB2=>?_)
 replace hr:=hr.ext hE2
 have hE:=hE1.next hE2
 have hle2':=Nat.le_trans hE1.size hle2
 replace hB1:=hB1.keep hE2
 obtain ⟨k0,k1⟩:=ibx hB1
 simp [go_sem]
 refine hK _ _ ?_;clear hK K
 first|refine zzr fun K hK=>?_|refine zzt fun K hK=>?_
 simp [go_sem,k0,k1,za0]
 refine za5 (by simp [go_sem,k0,k1,za0]) rfl Tryz.call110 (fun R hR=>?_)
 simp [go_sem,k0,k1,za0]
 refine (iof_any (neg) l a c _ hr hl).mono ?_
 rintro e w6 ⟨a6,c6,rfl,hr6,hE6⟩
 refine ⟨_,rfl,hR _ _ ?_⟩
 clear hR R
 replace hB2:=hB2.keep hE6
 replace hE:=hE.next hE6
 simp [go_sem]
 generalize iv (neg) (val l)=z at *
 refine za6 (b:=b2) (off:=0) [.bool (decide (z<0)),.slice a6 (lim z.natAbs).length c6] (by simp [go_sem,iR]) rfl (by simp [go_sem,iR]) (by simp [go_sem,Value.cells,iR]) zaJ hB2 (by simp) (by simp [Value.oneCell']) (by decide) (fun w7 hS7 hB7=>?_)
 simp [zaD] at hB7
 replace hr6:=hr6.sto hS7 (hr6.nbox hB2)
 obtain ⟨k0,k1⟩:=ibx hB7
 simp [go_sem]
 refine hK _ _ ?_;clear hK K
 refine zaf ?_
 repeat (first|refine za3 ?_|refine za2 ?_)
 refine ⟨by simp [zaO,go_sem,za1,k0,k1,za0],a6,c6,?_,hr6,hE.nextS hS7 hle2'⟩
 simp [go_sem,zat,zas,za4,k0,k1,za0,iR]
set_option maxHeartbeats 400000 in
theorem iNormR_any (neg:Bool) (l:List Nat) (a:Option Addr) (c:Nat) (w:World) (hr:RD w a c l) (hl:l.length≤zbS) :
  Calls Tryz.prog 124 #[.agg #[.bool neg,.slice a l.length c]] w (RetI w (iv (neg) (val l))):=by
 refine za7 (args:=[.agg #[.bool neg,.slice a l.length c]]) (rs:=[.cell 2 25]) (n:=8) Tryz.func124 rfl rfl rfl (by kernel_rfl) ?_
 first|refine zzr fun K hK=>?_|refine zzt fun K hK=>?_
 simp [go_sem]
 refine zc5 #[.bool neg,.slice a l.length c] (by simp [go_sem]) rfl (by simp [go_sem,Value.cells]) (fun w1 b1 hE1 hle1 hB1=>?_)
 replace hr:=hr.ext hE1
 simp [go_sem]
 refine zam (by simp [go_sem]) rfl zbA (fun w2 b2 hE2 hle2 hB2=>?_)
 replace hr:=hr.ext hE2
 have hE:=hE1.next hE2
 have hle2':=Nat.le_trans hE1.size hle2
 replace hB1:=hB1.keep hE2
 obtain ⟨k0,k1⟩:=ibx hB1
 simp [go_sem]
 refine hK _ _ ?_;clear hK K
 first|refine zzr fun K hK=>?_|refine zzt fun K hK=>?_
 simp [go_sem,k0,k1,za0]
 refine za5 (by simp [go_sem,k0,k1,za0]) rfl Tryz.call125 (fun R hR=>?_)
 simp [go_sem,k0,k1,za0]
 refine (iofR_any (neg) l a c _ hr hl).mono ?_
 rintro e w6 ⟨a6,c6,rfl,hr6,hE6⟩
 refine ⟨_,rfl,hR _ _ ?_⟩
 clear hR R
 replace hB2:=hB2.keep hE6
 replace hE:=hE.next hE6
 simp [go_sem]
 generalize iv (neg) (val l)=z at *
 refine za6 (b:=b2) (off:=0) [.bool (decide (z<0)),.slice a6 (lim z.natAbs).length c6] (by simp [go_sem,iR]) rfl (by simp [go_sem,iR]) (by simp [go_sem,Value.cells,iR]) zaJ hB2 (by simp) (by simp [Value.oneCell']) (by decide) (fun w7 hS7 hB7=>?_)
 simp [zaD] at hB7
 replace hr6:=hr6.sto hS7 (hr6.nbox hB2)
 obtain ⟨k0,k1⟩:=ibx hB7
 simp [go_sem]
 refine hK _ _ ?_;clear hK K
 refine zaf ?_
 repeat (first|refine za3 ?_|refine za2 ?_)
 refine ⟨by simp [zaO,go_sem,za1,k0,k1,za0],a6,c6,?_,hr6,hE.nextS hS7 hle2'⟩
 simp [go_sem,zat,zas,za4,k0,k1,za0,iR]
set_option maxHeartbeats 400000 in
theorem iNegR_any (neg:Bool) (l:List Nat) (a:Option Addr) (c:Nat) (w:World) (hr:RD w a c l) (hl:l.length≤zbS) :
  Calls Tryz.prog 101 #[.agg #[.bool neg,.slice a l.length c]] w (RetI w (iv (!neg) (val l))):=by
 refine za7 (args:=[.agg #[.bool neg,.slice a l.length c]]) (rs:=[.cell 2 25]) (n:=9) Tryz.func101 rfl rfl rfl (by kernel_rfl) ?_
 first|refine zzr fun K hK=>?_|refine zzt fun K hK=>?_
 simp [go_sem]
 refine zc5 #[.bool neg,.slice a l.length c] (by simp [go_sem]) rfl (by simp [go_sem,Value.cells]) (fun w1 b1 hE1 hle1 hB1=>?_)
 replace hr:=hr.ext hE1
 simp [go_sem]
 refine zam (by simp [go_sem]) rfl zbA (fun w2 b2 hE2 hle2 hB2=>?_)
 replace hr:=hr.ext hE2
 have hE:=hE1.next hE2
 have hle2':=Nat.le_trans hE1.size hle2
 replace hB1:=hB1.keep hE2
 obtain ⟨k0,k1⟩:=ibx hB1
 simp [go_sem]
 refine hK _ _ ?_;clear hK K
 first|refine zzr fun K hK=>?_|refine zzt fun K hK=>?_
 simp [go_sem,k0,k1,za0]
 refine za5 (by simp [go_sem,k0,k1,za0]) rfl Tryz.call125 (fun R hR=>?_)
 simp [go_sem,k0,k1,za0]
 refine (iofR_any (!neg) l a c _ hr hl).mono ?_
 rintro e w6 ⟨a6,c6,rfl,hr6,hE6⟩
 refine ⟨_,rfl,hR _ _ ?_⟩
 clear hR R
 replace hB2:=hB2.keep hE6
 replace hE:=hE.next hE6
 simp [go_sem]
 generalize iv (!neg) (val l)=z at *
 refine za6 (b:=b2) (off:=0) [.bool (decide (z<0)),.slice a6 (lim z.natAbs).length c6] (by simp [go_sem,iR]) rfl (by simp [go_sem,iR]) (by simp [go_sem,Value.cells,iR]) zaJ hB2 (by simp) (by simp [Value.oneCell']) (by decide) (fun w7 hS7 hB7=>?_)
 simp [zaD] at hB7
 replace hr6:=hr6.sto hS7 (hr6.nbox hB2)
 obtain ⟨k0,k1⟩:=ibx hB7
 simp [go_sem]
 refine hK _ _ ?_;clear hK K
 refine zaf ?_
 repeat (first|refine za3 ?_|refine za2 ?_)
 refine ⟨by simp [zaO,go_sem,za1,k0,k1,za0],a6,c6,?_,hr6,hE.nextS hS7 hle2'⟩
 simp [go_sem,zat,zas,za4,k0,k1,za0,iR]
def sg (z:Int):Int:=if z=0 then 0 else if z<0 then -1 else 1
theorem blen0 (x:Nat):zdJ x=0↔x=0:=by
 constructor
 ·intro h
  rcases Nat.eq_zero_or_pos x with h0|h0
  ·exact h0
  ·rw [ze3 x (by omega)] at h;omega
 ·rintro rfl;exact blen_0
theorem sg_0 (neg:Bool) (x:Nat) (h:x=0):sg (iv neg x)=0:=by subst h;cases neg<;>rfl
theorem sg_t (x:Nat) (h:x≠0):sg (iv true x) = -1:=by unfold sg iv;simp;omega
theorem sg_f (x:Nat) (h:x≠0):sg (iv false x)=1:=by unfold sg iv;simp;omega
set_option maxHeartbeats 400000 in
theorem iSign_any (neg:Bool) (l:List Nat) (a:Option Addr) (c:Nat) (w:World) (hr:RD w a c l) (hl:l.length≤zbS) :
  Calls Tryz.prog 77 #[.agg #[.bool neg,.slice a l.length c]] w fun e w'=>e = .returned (.int .i64 (sg (iv neg (val l))))∧Below w.heap.size w w':=by
 obtain ⟨Z,hZ⟩:∃ Z,Z=sg (iv neg (val l)):=⟨_,rfl⟩
 rw [←hZ]
 refine za7 (args:=[.agg #[.bool neg,.slice a l.length c]]) (rs:=[.tmp 2]) (n:=11) Tryz.func77 rfl rfl rfl (by kernel_rfl) ?_
 first|refine zzr fun K hK=>?_|refine zzt fun K hK=>?_
 simp [go_sem]
 refine zc5 #[.bool neg,.slice a l.length c] (by simp [go_sem]) rfl (by simp [go_sem,Value.cells]) (fun w1 b1 hE1 hle1 hB1=>?_)
 replace hr:=hr.ext hE1
 obtain ⟨k0,k1⟩:=ibx hB1
 simp [go_sem]
 refine hK _ _ ?_;clear hK K
 refine zac (fun K1 hK1=>?_)
 refine zae ?_
 first|refine zzr fun K hK=>?_|refine zzt fun K hK=>?_
 simp [go_sem,k0,k1,za0]
 refine za5 (by simp [go_sem,k0,k1,za0]) rfl Tryz.call91 (fun R hR=>?_)
 simp [go_sem,k0,k1,za0]
 refine (bits_any l a c _ hr hl).mono ?_
 rintro e w2 ⟨rfl,rfl⟩
 refine ⟨_,rfl,hR _ _ ?_⟩
 clear hR R
 by_cases h0:val l=0
 ·have hb:zdJ (val l)=0:=(blen0 _).2 h0
  rw [hb]
  have hz:=hZ.trans (sg_0 neg _ h0)
  subst hz
  simp [go_sem]
  refine hK _ _ ?_;clear hK K
  refine zai (by simp [go_sem];rfl) rfl ?_
  first|refine zzr fun K hK=>?_|refine zzt fun K hK=>?_
  simp [go_sem]
  refine hK _ _ ?_;clear hK K
  refine zaf ?_
  repeat (first|refine za3 ?_|refine za2 ?_)
  refine ⟨trivial,?_,hE1⟩
  simp [go_sem,zat,zas]
 ·have hb:¬zdJ (val l)=0:=fun h=>h0 ((blen0 _).1 h)
  have hb':¬(zdJ (val l):Int)=0:=by omega
  simp [go_sem,hb,hb']
  refine hK _ _ ?_;clear hK K
  refine zai (by simp [go_sem,hb,hb'];rfl) rfl ?_
  cases neg with
  | true =>
   have hz:=hZ.trans (sg_t _ h0)
   subst hz
   first|refine zzr fun K hK=>?_|refine zzt fun K hK=>?_
   simp [go_sem,k0,k1,za0]
   refine hK _ _ ?_;clear hK K
   refine zai (by simp [go_sem];rfl) rfl ?_
   first|refine zzr fun K hK=>?_|refine zzt fun K hK=>?_
   simp [go_sem]
   refine hK _ _ ?_;clear hK K
   refine zaf ?_
   repeat (first|refine za3 ?_|refine za2 ?_)
   refine ⟨trivial,?_,hE1⟩
   simp [go_sem,zat,zas]
  | false =>
   have hz:=hZ.trans (sg_f _ h0)
   subst hz
   first|refine zzr fun K hK=>?_|refine zzt fun K hK=>?_
   simp [go_sem,k0,k1,za0]
   refine hK _ _ ?_;clear hK K
   refine zai (by simp [go_sem];rfl) rfl ?_
   refine zaa ?_
   refine hK1 _ _ ?_;clear hK1 K1
   first|refine zzr fun K hK=>?_|refine zzt fun K hK=>?_
   simp [go_sem]
   refine hK _ _ ?_;clear hK K
   refine zaf ?_
   repeat (first|refine za3 ?_|refine za2 ?_)
   refine ⟨trivial,?_,hE1⟩
   simp [go_sem,zat,zas]
theorem iv_mul (neg peg:Bool) (x y:Nat):iv (!(neg == peg)) (x*y)=iv neg x*iv peg y:=by
 unfold iv
 cases neg<;>cases peg<;>simp [Int.natCast_mul,Int.neg_mul,Int.mul_neg]
theorem iv_not (neg:Bool) (x:Nat):iv (!neg) x = - iv neg x:=by
 unfold iv
 cases neg<;>simp
set_option maxHeartbeats 1000000 in
theorem iMul_any (neg peg:Bool) (l m:List Nat) (a b:Option Addr) (c d:Nat) (w:World) (hr:RD w a c l) (hs:RD w b d m) (hl:l.length≤1000000000) (hm:m.length≤1000000000) :
  Calls Tryz.prog 79 #[.agg #[.bool neg,.slice a l.length c],.agg #[.bool peg,.slice b m.length d]] w (RetI w (iv neg (val l)*iv peg (val m))):=by
 have hT:zcY Tryz.prog 4=true:=by kernel_rfl
 obtain ⟨Z,hZ⟩:∃ Z,Z=iv neg (val l)*iv peg (val m):=⟨_,rfl⟩
 rw [←hZ]
 rw [←iv_mul] at hZ
 refine za7 (args:=[.agg #[.bool neg,.slice a l.length c],.agg #[.bool peg,.slice b m.length d]]) (rs:=[.cell 4 25]) (n:=16) Tryz.func79 rfl rfl rfl (by kernel_rfl) ?_
 first|refine zzr fun K hK=>?_|refine zzt fun K hK=>?_
 simp [go_sem]
 refine zc5 #[.bool neg,.slice a l.length c] (by simp [go_sem]) rfl (by simp [go_sem,Value.cells]) (fun w1 b1 hE1 hle1 hB1=>?_)
 replace hr:=hr.keep hE1
 replace hs:=hs.keep hE1
 simp [go_sem]
 refine zc5 #[.bool peg,.slice b m.length d] (by simp [go_sem]) rfl (by simp [go_sem,Value.cells]) (fun w2 b2 hE2 hle2 hB2=>?_)
 replace hr:=hr.keep hE2
 replace hs:=hs.keep hE2
 replace hB1:=hB1.keep hE2
 simp [go_sem]
 refine zam (by simp [go_sem]) rfl zbA (fun w4 b4 hE4 hle4 hB4=>?_)
 replace hr:=hr.keep hE4
 replace hs:=hs.keep hE4
 replace hB1:=hB1.keep hE4
 replace hB2:=hB2.keep hE4
 have hE:=(hE1.next hE2).next hE4
 have hle4':w.heap.size≤b4:=Nat.le_trans hE1.size (Nat.le_trans hE2.size hle4)
 obtain ⟨k0,k1⟩:=ibx hB1
 obtain ⟨k2,k3⟩:=ibx hB2
 simp [go_sem]
 refine hK _ _ ?_;clear hK K
 have hD:Below w4.heap.size w4 w4.drew:=Below.drew1 _
 replace hr:=hr.keep hD
 replace hs:=hs.keep hD
 replace hB1:=hB1.keep hD
 replace hB2:=hB2.keep hD
 replace hB4:=hB4.keep hD
 replace hE:=hE.next hD
 obtain ⟨k0,k1⟩:=ibx hB1
 obtain ⟨k2,k3⟩:=ibx hB2
 first|refine W_rd [(0,0),(1,0),(2,0),(3,0),(4,0),(5,0),(6,0),(7,0),(8,0),(9,1),(10,1),(11,2)] (by kernel_rfl) (by kernel_rfl) (fun K hK=>?_)|refine zbG [(0,0),(1,0),(2,0),(3,0),(4,0),(5,0),(6,0),(7,0),(8,0),(9,1),(10,1),(11,2)] (by kernel_rfl) (by kernel_rfl) (fun K hK=>?_)
 simp [go_sem,k0,k1,k2,k3,za0,hT]
 refine za5 (by simp [go_sem,k0,k1,k2,k3,za0,hT]) rfl Tryz.call93 (fun R hR=>?_)
 simp [go_sem,k0,k1,k2,k3,za0,hT]
 refine (mul_any l m a b c d _ hr hs (by unfold zcq;omega) (by unfold zcq;omega)).mono ?_
 rintro e w5 ⟨a5,c5,rfl,hr5,hE5⟩
 refine ⟨_,rfl,hE5,hR _ _ ?_⟩
 clear hR R
 replace hB4:=hB4.keep hE5
 replace hE:=hE.next hE5
 have hma:=made_any (!(neg == peg)) _ _ _ _ hr5
 rw [←hZ] at hma
 simp [go_sem,k0,k2,hT]
 refine za5 (by simp [go_sem,k0,k2,hT]) rfl Tryz.call92 (fun R hR=>?_)
 simp [go_sem,k0,k2,hT]
 refine (hma).mono ?_
 rintro e w6 ⟨a6,c6,rfl,hr6,hE6⟩
 refine ⟨_,rfl,hE6,hR _ _ ?_⟩
 clear hR R
 replace hB4:=hB4.keep hE6
 replace hE:=hE.next hE6
 simp [go_sem]
 refine za6 (b:=b4) (off:=0) [.bool (decide (Z<0)),.slice a6 (lim Z.natAbs).length c6] (by simp [go_sem,iR]) rfl (by simp [go_sem,iR]) (by simp [go_sem,Value.cells,iR]) zaJ hB4 (by simp) (by simp [Value.oneCell']) (by decide) (fun w9 hS9 hB9=>?_)
 simp [zaD] at hB9
 replace hr6:=hr6.sto hS9 (hr6.nbox hB4)
 obtain ⟨k0,k1⟩:=ibx hB9
 simp [go_sem]
 refine hK _ _ ?_;clear hK K
 refine zaf ?_
 repeat (first|refine za3 ?_|refine za2 ?_)
 refine ⟨by simp [zaO,go_sem,za1,k0,k1,za0],a6,c6,?_,hr6,hE.nextS hS9 hle4'⟩
 simp [go_sem,zat,zas,za4,k0,k1,za0,iR]
set_option maxHeartbeats 1000000 in
theorem iMulR_any (neg peg:Bool) (l m:List Nat) (a b:Option Addr) (c d:Nat) (w:World) (hr:RD w a c l) (hs:RD w b d m) (hl:l.length≤1000000000) (hm:m.length≤1000000000) :
  Calls Tryz.prog 104 #[.agg #[.bool neg,.slice a l.length c],.agg #[.bool peg,.slice b m.length d]] w (RetI w (iv neg (val l)*iv peg (val m))):=by
 have hT:zcY Tryz.prog 4=true:=by kernel_rfl
 obtain ⟨Z,hZ⟩:∃ Z,Z=iv neg (val l)*iv peg (val m):=⟨_,rfl⟩
 rw [←hZ]
 rw [←iv_mul] at hZ
 refine za7 (args:=[.agg #[.bool neg,.slice a l.length c],.agg #[.bool peg,.slice b m.length d]]) (rs:=[.cell 4 25]) (n:=16) Tryz.func104 rfl rfl rfl (by kernel_rfl) ?_
 first|refine zzr fun K hK=>?_|refine zzt fun K hK=>?_
 simp [go_sem]
 refine zc5 #[.bool neg,.slice a l.length c] (by simp [go_sem]) rfl (by simp [go_sem,Value.cells]) (fun w1 b1 hE1 hle1 hB1=>?_)
 replace hr:=hr.keep hE1
 replace hs:=hs.keep hE1
 simp [go_sem]
 refine zc5 #[.bool peg,.slice b m.length d] (by simp [go_sem]) rfl (by simp [go_sem,Value.cells]) (fun w2 b2 hE2 hle2 hB2=>?_)
 replace hr:=hr.keep hE2
 replace hs:=hs.keep hE2
 replace hB1:=hB1.keep hE2
 simp [go_sem]
 refine zam (by simp [go_sem]) rfl zbA (fun w4 b4 hE4 hle4 hB4=>?_)
 replace hr:=hr.keep hE4
 replace hs:=hs.keep hE4
 replace hB1:=hB1.keep hE4
 replace hB2:=hB2.keep hE4
 have hE:=(hE1.next hE2).next hE4
 have hle4':w.heap.size≤b4:=Nat.le_trans hE1.size (Nat.le_trans hE2.size hle4)
 obtain ⟨k0,k1⟩:=ibx hB1
 obtain ⟨k2,k3⟩:=ibx hB2
 simp [go_sem]
 refine hK _ _ ?_;clear hK K
 have hD:Below w4.heap.size w4 w4.drew:=Below.drew1 _
 replace hr:=hr.keep hD
 replace hs:=hs.keep hD
 replace hB1:=hB1.keep hD
 replace hB2:=hB2.keep hD
 replace hB4:=hB4.keep hD
 replace hE:=hE.next hD
 obtain ⟨k0,k1⟩:=ibx hB1
 obtain ⟨k2,k3⟩:=ibx hB2
 first|refine W_rd [(0,0),(1,0),(2,0),(3,0),(4,0),(5,0),(6,0),(7,0),(8,0),(9,1),(10,1),(11,2)] (by kernel_rfl) (by kernel_rfl) (fun K hK=>?_)|refine zbG [(0,0),(1,0),(2,0),(3,0),(4,0),(5,0),(6,0),(7,0),(8,0),(9,1),(10,1),(11,2)] (by kernel_rfl) (by kernel_rfl) (fun K hK=>?_)
 simp [go_sem,k0,k1,k2,k3,za0,hT]
 refine za5 (by simp [go_sem,k0,k1,k2,k3,za0,hT]) rfl Tryz.call127 (fun R hR=>?_)
 simp [go_sem,k0,k1,k2,k3,za0,hT]
 refine (mulR_any l m a b c d _ hr hs (by unfold zcq;omega) (by unfold zcq;omega)).mono ?_
 rintro e w5 ⟨a5,c5,rfl,hr5,hE5⟩
 refine ⟨_,rfl,hE5,hR _ _ ?_⟩
 clear hR R
 replace hB4:=hB4.keep hE5
 replace hE:=hE.next hE5
 have hml:(lim (val l*val m)).length≤1000000000+1000000000:=lim_mul_len (by rw [zaP l hr.ok];exact Nat.le_trans (zba l) hl) (by rw [zaP m hs.ok];exact Nat.le_trans (zba m) hm)
 have hma:=iofR_any (!(neg == peg)) _ _ _ _ hr5 (by unfold zbS;omega)
 rw [zap] at hma
 rw [←hZ] at hma
 simp [go_sem,k0,k2,hT]
 refine za5 (by simp [go_sem,k0,k2,hT]) rfl Tryz.call125 (fun R hR=>?_)
 simp [go_sem,k0,k2,hT]
 refine (hma).mono ?_
 rintro e w6 ⟨a6,c6,rfl,hr6,hE6⟩
 refine ⟨_,rfl,hE6,hR _ _ ?_⟩
 clear hR R
 replace hB4:=hB4.keep hE6
 replace hE:=hE.next hE6
 simp [go_sem]
 refine za6 (b:=b4) (off:=0) [.bool (decide (Z<0)),.slice a6 (lim Z.natAbs).length c6] (by simp [go_sem,iR]) rfl (by simp [go_sem,iR]) (by simp [go_sem,Value.cells,iR]) zaJ hB4 (by simp) (by simp [Value.oneCell']) (by decide) (fun w9 hS9 hB9=>?_)
 simp [zaD] at hB9
 replace hr6:=hr6.sto hS9 (hr6.nbox hB4)
 obtain ⟨k0,k1⟩:=ibx hB9
 simp [go_sem]
 refine hK _ _ ?_;clear hK K
 refine zaf ?_
 repeat (first|refine za3 ?_|refine za2 ?_)
 refine ⟨by simp [zaO,go_sem,za1,k0,k1,za0],a6,c6,?_,hr6,hE.nextS hS9 hle4'⟩
 simp [go_sem,zat,zas,za4,k0,k1,za0,iR]
theorem zdC {l:List Nat} (h:Ok l) {k:Nat} (hl:l.length≤k):(lim (val l)).length≤k:=by rw [zaP l h];exact Nat.le_trans (zba l) hl
theorem sg_neg {z:Int} (h:z<0):sg z = -1:=by unfold sg;rw [if_neg (by omega),if_pos h]
theorem sg_pos {z:Int} (h:0<z):sg z=1:=by unfold sg;rw [if_neg (by omega),if_neg (by omega)]
theorem sg_zero {z:Int} (h:z=0):sg z=0:=by unfold sg;rw [if_pos h]
set_option maxHeartbeats 400000 in
theorem iSignR_any (neg:Bool) (l:List Nat) (a:Option Addr) (c:Nat) (w:World) (hr:RD w a c l) (hl:l.length≤zbS) :
  Calls Tryz.prog 126 #[.agg #[.bool neg,.slice a l.length c]] w fun e w'=>e = .returned (.int .i64 (sg (iv neg (val l))))∧Below w.heap.size w w':=by
 obtain ⟨Z,hZ⟩:∃ Z,Z=iv neg (val l):=⟨_,rfl⟩
 obtain ⟨S,hS⟩:∃ S,S=sg Z:=⟨_,rfl⟩
 rw [←hZ,←hS]
 have hno:=fun {w} hr=>iNormR_any neg l a c w hr hl
 rw [←hZ] at hno
 refine za7 (args:=[.agg #[.bool neg,.slice a l.length c]]) (rs:=[.tmp 2]) (n:=11) Tryz.func126 rfl rfl rfl (by kernel_rfl) ?_
 first|refine zzr fun K hK=>?_|refine zzt fun K hK=>?_
 simp [go_sem]
 refine zc5 #[.bool neg,.slice a l.length c] (by simp [go_sem]) rfl (by simp [go_sem,Value.cells]) (fun w1 b1 hE1 hle1 hB1=>?_)
 replace hr:=hr.ext hE1
 obtain ⟨k0,k1⟩:=ibx hB1
 have hE:=hE1
 simp [go_sem]
 refine hK _ _ ?_;clear hK K
 first|refine zzr fun K hK=>?_|refine zzt fun K hK=>?_
 simp [go_sem,k0,k1,za0,za4,za1]
 refine za5 (by simp [go_sem,k0,k1,za0,za4,za1]) rfl Tryz.call124 (fun R hR=>?_)
 simp [go_sem,k0,k1,za0,za4,za1]
 refine (hno hr).mono ?_
 rintro e w6 ⟨a6,c6,rfl,hr6,hE6⟩
 refine ⟨_,rfl,hR _ _ ?_⟩
 clear hR R
 replace hB1:=hB1.keep hE6
 replace hE:=hE.next hE6
 simp [go_sem]
 refine za6 (b:=b1) (off:=0) [.bool (decide (Z<0)),.slice a6 (lim Z.natAbs).length c6] (by simp [go_sem,iR]) rfl (by simp [go_sem,iR]) (by simp [go_sem,Value.cells,iR]) zaJ hB1 (by simp) (by simp [Value.oneCell']) (by decide) (fun w9 hS9 hB9=>?_)
 simp [zaD] at hB9
 replace hE:=hE.nextS hS9 hle1
 obtain ⟨k0,k1⟩:=ibx hB9
 simp [go_sem]
 refine hK _ _ ?_;clear hK K
 refine zac (fun K1 hK1=>?_)
 by_cases h0:Z=0
 ·have hl0:(lim Z.natAbs).length=0:=by rw [h0];show (lim 0).length=0;rw [zao];rfl
  have hl0':((lim Z.natAbs).length:Int)=0:=by omega
  have hs:=hS.trans (sg_zero h0)
  subst hs
  first|refine zzr fun K hK=>?_|refine zzt fun K hK=>?_
  simp [go_sem,k0,k1,za0,hl0,hl0']
  refine hK _ _ ?_;clear hK K
  refine zai (by simp [go_sem];rfl) rfl ?_
  first|refine zzr fun K hK=>?_|refine zzt fun K hK=>?_
  simp [go_sem]
  refine hK _ _ ?_;clear hK K
  refine zaf ?_
  repeat (first|refine za3 ?_|refine za2 ?_)
  refine ⟨trivial,?_,hE⟩
  simp [go_sem,zat,zas]
 ·have hlp:=lim_ne (B:=Z.natAbs) (by omega)
  have hl0:¬(lim Z.natAbs).length=0:=by omega
  have hl0':¬((lim Z.natAbs).length:Int)=0:=by omega
  first|refine zzr fun K hK=>?_|refine zzt fun K hK=>?_
  simp [go_sem,k0,k1,za0,hl0,hl0']
  refine hK _ _ ?_;clear hK K
  refine zai (by simp [go_sem,hl0,hl0'];rfl) rfl ?_
  refine zaa ?_
  refine hK1 _ _ ?_;clear hK1 K1
  refine zac (fun K1 hK1=>?_)
  by_cases hz:Z<0
  ·have hs:=hS.trans (sg_neg hz)
   subst hs
   first|refine zzr fun K hK=>?_|refine zzt fun K hK=>?_
   simp [go_sem,k0,k1,za0,hz]
   refine hK _ _ ?_;clear hK K
   refine zai (by simp [go_sem,hz];rfl) rfl ?_
   first|refine zzr fun K hK=>?_|refine zzt fun K hK=>?_
   simp [go_sem]
   refine hK _ _ ?_;clear hK K
   refine zaf ?_
   repeat (first|refine za3 ?_|refine za2 ?_)
   refine ⟨trivial,?_,hE⟩
   simp [go_sem,zat,zas]
  ·have hs:=hS.trans (sg_pos (by omega))
   subst hs
   first|refine zzr fun K hK=>?_|refine zzt fun K hK=>?_
   simp [go_sem,k0,k1,za0,hz]
   refine hK _ _ ?_;clear hK K
   refine zai (by simp [go_sem,hz];rfl) rfl ?_
   refine zaa ?_
   refine hK1 _ _ ?_;clear hK1 K1
   first|refine zzr fun K hK=>?_|refine zzt fun K hK=>?_
   simp [go_sem]
   refine hK _ _ ?_;clear hK K
   refine zaf ?_
   repeat (first|refine za3 ?_|refine za2 ?_)
   refine ⟨trivial,?_,hE⟩
   simp [go_sem,zat,zas]
def qq (z y:Int):Int:=if y=0 then 0 else z / y
def rr (z y:Int):Int:=if y=0 then 0 else z % y
def ee (y:Int):Int:=if y=0 then 3 else 0
theorem rd_one {w:World} {b x:Nat} {t:TypeId} (h:Bx w b #[.int .u16 (x:Int)] t) (hx:x<65536):RD w (some ⟨b,0,none⟩) 1 [x]:=by
 refine ⟨.inr ⟨b,0,rfl,fun j u hu=>?_⟩,?_,by simp⟩
 ·match j with
  | 0 =>
   simp [lmC] at hu
   subst hu
   simpa using h.cell 0
  | j+1=>simp [lmC] at hu
 ·intro y hy
  simp at hy;omega
end Go.Proofs.YtefhenfofomjhaaGreat
namespace Go.V
open Go Go.RowKit Go.ChangeShapes Go.WideShapes Go.ChangeAt
theorem trodAll_below {H:Type} {enc:TypeId × Value→H} {P:Program} (hl:laidOutB P=true) {W W':World} (hb:Below W.heap.size W W'):∀ (ts:List TypeId) (vs:List Value) (ds:List (DataW H)) (ps:List MemPlace),
  (ts.all fun t=>P.readableRec t && decide (t<P.types.size))=true→(∀ p∈ps,p.block<W.heap.size)→DataW.TrodAll enc P W 0 (fun _=>true) true ts vs ds ps →
  DataW.TrodAll enc P W' 0 (fun b=>decide (b<W.heap.size)) true ts vs ds ps
 | [],[],[],ps,_,_,h=>h
 | t::ts,v::vs,d::ds,ps,hr,hlt,h=>by
  obtain ⟨p,q,h1,h2,rfl⟩:=h
  simp only [List.all_cons,Bool.and_eq_true,decide_eq_true_eq] at hr
  exact ⟨p,q,Below.trod hl hr.1.1 hr.1.2 h1 hb (fun x hx=>hlt x (List.mem_append_left _ hx)),trodAll_below hl hb ts vs ds q hr.2 (fun x hx=>hlt x (List.mem_append_right _ hx)) h2,rfl⟩
 | [],_::_,_,_,_,_,h=>h.elim
 | [],[],_::_,_,_,_,h=>h.elim
 | _::_,[],_,_,_,_,h=>h.elim
 | _::_,_::_,[],_,_,_,h=>h.elim
theorem trodAll_len {H:Type} {enc:TypeId × Value→H} {P:Program} {W:World} {base:Nat} {sp:Nat→Bool} {held:Bool}:∀ (ts:List TypeId) (vs:List Value) (ds:List (DataW H)) (ps:List MemPlace),DataW.TrodAll enc P W base sp held ts vs ds ps→ds.length=ts.length∧vs.length=ts.length
 | [],[],[],ps,h=>⟨rfl,rfl⟩
 | t::ts,v::vs,d::ds,ps,h=>by
  obtain ⟨p,q,h1,h2,rfl⟩:=h
  have:=trodAll_len ts vs ds q h2
  simp [this.1,this.2]
 | [],_::_,_,_,h=>h.elim
 | [],[],_::_,_,h=>h.elim
 | _::_,[],_,_,h=>h.elim
 | _::_,_::_,[],_,h=>h.elim
theorem law_lifted {C:Checked} {f:FuncId} {fn:Func} {s:ChangeSpec} (own:ownKnob C.prog.godebug=none) (hl:laidOutB C.prog=true) (noInit:C.prog.inits.idxOf? f=none) (hfn:C.prog.funcs[f]? = some fn) (hvars:s.vars=[])
  (tb:TypeId) (hres:fn.resultTypes = #[tb]) (hb:C.prog.underlying tb=some .bool)
  (hread:(fn.params.toList.all fun t=>C.prog.readableRec t && decide (t<C.prog.types.size))=true)
  {H:Type} (enc:TypeId × Value→H)
  (hspec:∀ ds:List (DataW H),ds.length=fn.params.toList.length→s.fn H ds={ results:=[.lit (.bool true)],args:=ds })
  (contract:∀ (W:World) (base:Nat) (args:Array Value) (ds:List (DataW H)) (ps:List MemPlace),
   (∀ (j:Nat) t v,fn.params[j]? = some t→args[j]? = some v→Value.okWide C.prog W .any base t v) →
   DataW.TrodAll enc C.prog W 0 (fun _=>true) true fn.params.toList args.toList ds ps→(∀ p∈ps,p.block<W.heap.size) →
   (DataW.weightsEach C.prog fn.params.toList ds).all (·≤reachBytes)=true →
   Calls C.prog f args W fun e W'=>e = .returned (.bool true)∧Below W.heap.size W W')
  (os:Os) (started:os.Started)
  (witness:∃ (w:World) (tape:Tape) (i:Input),w.os=os∧(w.forCall tape i).Shaped C.prog∧i.vars=[]∧Input.okWide C.prog (w.forCall tape i) .any w.heap.size f i ∧
   s.pre6 enc C.prog fn [] false (w.forCall tape i).memory i.args∧({}:Assume).holds C.prog (lone (Frame.enter C.prog f i.args .normal) [] (w.forCall tape i))) :
  ReturnsInHanded {} C os f .any (s.pre6 enc C.prog fn [] false) (s.post enc C.prog fn false true false false):=by
 refine returnsInHanded_of_change_sized own started noInit hfn witness ?_
 intro W base args ds gs before hval hW _ hsz _
 have hW':=hW
 obtain ⟨p,q,hA,hV,rfl,_,_⟩:=hW
 have hgs:gs=[]∧q=[]:=by
  rw [hvars] at hV
  cases gs with
  | nil=>exact ⟨rfl,hV⟩
  | cons g r=>exact hV.elim
 obtain ⟨rfl,rfl⟩:=hgs
 have hlt:∀ x∈p,x.block<W.heap.size:=fun x hx=>hW'.lt x (by simpa using hx)
 have hsz':(DataW.weightsEach C.prog fn.params.toList ds).all (·≤reachBytes)=true:=by
  have e:s.plain.varTypes C.prog=[]:=by simp [ChangeSpec.plain,DataSpec.varTypes,hvars]
  rw [e] at hsz
  simpa using hsz
 have hlen:=(trodAll_len _ _ _ _ hA).1
 refine (contract W base args ds p hval hA hlt hsz').mono fun e W' ⟨he,hbel⟩=>?_
 subst he
 have hs:s.fn H (ds++[])={ results:=[.lit (.bool true)],args:=ds }:=by rw [List.append_nil];exact hspec ds hlen
 refine ⟨_,rfl,ds,[],p++[],[],p,[],hW',?_,?_,?_,hbel.frame _,fun h=>by cases h⟩
 ·rw [hs,hres]
  exact ⟨[],[],⟨1,by simp [DataW.trod,Value.cells,hb]⟩,rfl,rfl⟩
 ·rw [hs]
  exact trodAll_below hl hbel _ _ _ _ hread hlt hA
 ·rw [hs,hvars];rfl
end Go.V
namespace Go.Proofs.YtefhenfofomjhaaGreat
open Go.RowKit Go.V Go.ChangeMaps
set_option maxRecDepth 20000
theorem Tryz.own:ownKnob Tryz.prog.godebug=none:=by kernel_rfl
theorem Tryz.laidOut:laidOutB Tryz.prog=true:=by kernel_rfl
theorem lim_1' (x:Nat) (h:0<x) (hx:x<65536):lim x=[x]:=by
 rw [lim_pos x (by omega),Nat.mod_eq_of_lt hx,Nat.div_eq_of_lt hx,zao]
end Go.Proofs.YtefhenfofomjhaaGreat
namespace Go.Proofs.YtefhenfofomjhaaGreat
open Go.RowKit Go.V
set_option maxRecDepth 20000
end Go.Proofs.YtefhenfofomjhaaGreat
