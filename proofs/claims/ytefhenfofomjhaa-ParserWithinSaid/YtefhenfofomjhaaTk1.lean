/- The tokens of a source, as the parser takes them. -/
import Derived.Test.YtefhenfofomjhaaLx3
import Derived.Test.YtefhenfofomjhaaIn9
import Derived.Test.YtefhenfofomjhaaPp2
set_option linter.unusedSimpArgs false
set_option linter.unusedVariables false
namespace Go.Proofs.Ytefhenfofomjhaa
open Go.RowKit Go.V
set_option maxRecDepth 20000
def comN:List UInt8→Nat
 | []=>0
 | c::l=>if c=10 then 0 else comN l+1
def blkB (c:Int):Bool:=decide (c=32∨c=9∨c=13∨c=10)
def zaW:Bool→List UInt8→Nat
 | _,[]=>0
 | true,c::l=>if c=10 then zaW false l+1 else zaW true l+1
 | false,c::l=>if blkB c.toNat=true then zaW false l+1 else if c=35 then zaW true l+1 else 0
def sgnB (c:Int):Bool:=decide (c=40∨c=41∨c=44∨c=59∨c=47∨c=45)
theorem kind_blank (c:Int):decide (zcv c=1)=blkB c:=by
 unfold zcv blkB
 rw [decide_eq_decide]
 (repeat' split)<;>omega
theorem kind_sign (c:Int):decide (zcv c=4)=sgnB c:=by
 unfold zcv sgnB
 rw [decide_eq_decide]
 (repeat' split)<;>omega
theorem kind_colon (c:Int):decide (zcv c=5)=decide (c=58):=by
 unfold zcv
 rw [decide_eq_decide]
 (repeat' split)<;>omega
theorem kind_hash (c:Int):decide (zcv c=6)=decide (c=35):=by
 unfold zcv
 rw [decide_eq_decide]
 (repeat' split)<;>omega
theorem byte_eq (c:UInt8) (n:Nat) (h:n<256):decide (c=UInt8.ofNat n)=decide ((c.toNat:Int)=n):=by
 rw [decide_eq_decide]
 constructor
 ·intro e;subst e;simp;omega
 ·intro e
  apply UInt8.toNat_inj.1
  simp;omega
def zb2 (L:Bool) (s:ByteArray) (at':Nat):Nat:=at'+zdJ L ((bs s).drop at')
def zdN (s:ByteArray) (at':Nat):Nat :=
 if letB (zah s at').toNat=true then (if 20<zb2 true s at' - at' then 4 else 0)
 else if digB (zah s at').toNat=true then (if 1<zb2 false s at' - at'∧(zah s at').toNat=48 then 5 else if 1000<zb2 false s at' - at' then 4 else 0)
 else if sgnB (zah s at').toNat=true then 0
 else if (zah s at').toNat=58 then (if at'+1<s.size∧(zah s (at'+1)).toNat=61 then 0 else 5)
 else 5
def tokK (s:ByteArray) (at':Nat):Nat :=
 if letB (zah s at').toNat=true then 1 else if digB (zah s at').toNat=true then 2 else 3
def zb5 (s:ByteArray) (at':Nat):Nat :=
 if letB (zah s at').toNat=true then zb2 true s at'
 else if digB (zah s at').toNat=true then zb2 false s at'
 else if (zah s at').toNat=58 then at'+2 else at'+1
def tokC (s:ByteArray) (t:Nat × Nat × Nat):List Value:=[.int .i64 t.1,.int .i64 t.2.1,.int .i64 t.2.2,.string (s.extract t.2.1 t.2.2)]
theorem com_step (s:ByteArray) (k:Nat):comN ((bs s).drop k)=if (decide (k<s.size) && !decide (zah s k=10))=true then comN ((bs s).drop (k+1))+1 else 0:=by
 by_cases h:k<s.size
 ·rw [zcU s k h]
  by_cases h2:zah s k=10<;>simp [comN,h,h2]
 ·rw [drop_end s k h];simp [comN,h]
set_option maxHeartbeats 1000000 in
theorem comment_any (s:ByteArray) (n:Nat) (w:World) (hs:s.size≤maxLen) (hn:n≤s.size) :
  Calls Try.prog 22 #[.string s,.int .i64 n] w fun e w'=>e = .returned (.int .i64 ↑(n+comN ((bs s).drop n)))∧w=w':=by
 unfold maxLen at hs
 refine za8 (args:=[.string s,.int .i64 n]) (rs:=[.tmp 4]) (n:=18) Try.func22 rfl rfl rfl (by kernel_rfl) ?_
 first|refine zzr fun K hK=>?_|refine zzt fun K hK=>?_
 simp [go_sem]
 refine hK _ _ ?_;clear hK K
 refine zad (fun K1 hK1=>?_)
 refine zag ?_
 refine zaJ (fun m g w'=>w'=w∧∃ k:Nat,n≤k∧k≤s.size∧m=s.size-k∧g 0 = .string s∧g 1 = .int .i64 k∧k+comN ((bs s).drop k)=n+comN ((bs s).drop n)) (s.size-n) ?_ ?_
 ·exact ⟨rfl,n,Nat.le_refl _,hn,rfl,rfl,rfl,rfl⟩
 ·rintro m g w' ⟨rfl,k,h1,h2,rfl,g0,g1,hk⟩
  have hb10:=byte_eq (zah s k) 10 (by omega)
  refine zad (fun K2 hK2=>?_)
  refine W_rtJ (fun g' w1=>w1=w'∧g' 0 = .string s∧g' 1 = .int .i64 k∧g' 14 = .bool (decide (k<s.size) && !decide (zah s k=10))) (by kernel_rfl) ?_ ?_
  ·by_cases hlt:k<s.size
   ·by_cases h10:((zah s k).toNat:Int)=10
    ·have e:zah s k=10:=by simpa [h10] using hb10
     simp [go_sem,g0,g1,hlt,h10,e]
    ·have e:¬zah s k=10:=by simpa [h10] using hb10
     simp [go_sem,g0,g1,hlt,h10,e]
   ·simp [go_sem,g0,g1,hlt]
  ·rintro g' w1 ⟨rfl,g0,g1,g27⟩
   refine zao g27 rfl ?_
   rw [com_step] at hk
   cases hb:(decide (k<s.size) && !decide (zah s k=10)) with
   | true =>
    rw [hb,if_pos rfl] at hk
    have hlt:k<s.size:=by simp at hb;exact hb.1
    refine zae (hK2 _ _ ?_);clear hK2 K2
    refine zag ?_
    refine zzt fun K hK=>?_
    simp [go_sem,g0,g1]
    refine hK _ _ ⟨s.size-(k+1),by omega,rfl,k+1,by omega,by omega,rfl,?_,?_,by omega⟩
    all_goals simp (disch:=omega) [go_sem,g0,g1,IntWalk.i64_in]
   | false =>
    rw [hb,if_neg (by simp)] at hk
    refine zaB ?_
    repeat (first|refine zak ?_|refine za9 rfl ?_|refine zac ?_)
    refine hK1 _ _ ?_;clear hK1 K1 hK2 K2
    first|refine zzr fun K hK=>?_|refine zzt fun K hK=>?_
    simp [go_sem,g0,g1]
    refine hK _ _ ?_;clear hK K
    refine zal ⟨trivial,?_,rfl⟩
    simp [go_sem,zaw,zav]
    omega
def tok0:List Value:=[.int .i64 0,.int .i64 0,.int .i64 0,.string ⟨#[]⟩]
def tokR (s:ByteArray) (at':Nat):List Value:=if zdN s at'=0 then tokC s (tokK s at',at',zb5 s at') else tok0
theorem run_bound (L:Bool) (s:ByteArray) (k:Nat) (h:k≤s.size):zb2 L s k≤s.size∧k≤zb2 L s k:=by
 have:=endN_le L ((bs s).drop k)
 rw [List.length_drop,zaR] at this
 unfold zb2;omega
theorem endR_any (s:ByteArray) (n:Nat) (L:Bool) (w:World) (hs:s.size≤maxLen) (hn:n≤s.size) :
  Calls Try.prog 35 #[.string s,.int .i64 n,.bool L] w fun e w'=>e = .returned (.int .i64 ↑(zb2 L s n))∧w=w':=end_any s n L w hs hn
set_option maxHeartbeats 1000000 in
theorem token_any (s:ByteArray) (n:Nat) (w:World) (hs:s.size≤20000) (hn:n<s.size) :
  Calls Try.prog 23 #[.string s,.int .i64 n] w fun e w'=>e = .returned (.tuple #[.agg (tokR s n).toArray,.int .i64 (zdN s n)])∧Below w.heap.size w w':=by
 have hs':s.size≤maxLen:=by unfold maxLen;omega
 refine za8 (args:=[.string s,.int .i64 n]) (rs:=[.cell 4 59,.tmp 5]) (n:=83) Try.func23 rfl rfl rfl (by kernel_rfl) ?_
 first|refine zzr fun K hK=>?_|refine zzt fun K hK=>?_
 simp [go_sem]
 refine zar (by simp [go_sem]) rfl ty_zeroC59 (fun w1 b1 hE1 hle1 hB1=>?_)
 simp [go_sem]
 refine hK _ _ ?_;clear hK K
 have hX1:=hE1
 first|refine zzr fun K hK=>?_|refine zzt fun K hK=>?_
 simp [go_sem]
 refine zap #[.int .i64 0,.int .i64 n,.int .i64 (IntKind.i64.wrap (↑n+1)),.string ⟨#[]⟩] (by simp [go_sem]) rfl zdQ [(1,.int .i64 n),(2,.int .i64 (IntKind.i64.wrap (↑n+1)))] (by simp [go_sem]) rfl ?_
 simp [go_sem]
 refine zar (by simp [go_sem]) rfl ty_zeroC59 (fun w2 b2 hE2 hle2 hB2=>?_)
 simp [go_sem]
 have hw1:IntKind.i64.wrap (↑n+1)=(n:Int)+1:=IntWalk.i64_in _ (by omega)
 rw [hw1]
 refine za7 (b:=b2) (off:=0) [.int .i64 0,.int .i64 n,.int .i64 (↑n+1),.string ⟨#[]⟩] (by simp [go_sem,hw1]) rfl (by simp [go_sem,hw1]) (by simp [go_sem,Value.cells,hw1]) zc0 hB2 (by simp) (by simp [Value.oneCell']) (by decide) (fun w3 hS3 hB3=>?_)
 simp [zaD] at hB3
 have hne:b1≠b2:=by have:=hB1.lt;omega
 have hb1:w.heap.size≤b1:=hle1
 have hX:Below w.heap.size w w3:=(hE1.next hE2).nextS hS3 (by have:=hE1.size;omega)
 have hA:Bx w3 b1 #[.int .i64 0,.int .i64 0,.int .i64 0,.string ⟨#[]⟩] 59:=(hB1.keep hE2).sto hS3 hne
 have hb2:w.heap.size≤b2:=by have:=hE1.size;omega
 clear hX1 hE1 hE2 hB1 hB2 hS3
 simp [go_sem]
 refine hK _ _ ?_;clear hK K
 have hlt':(n:Int)<s.size:=by omega
 refine zad (fun K1 hK1=>?_)
 first|refine zzr fun K hK=>?_|refine zzt fun K hK=>?_
 simp [go_sem,hlt']
 refine za5 (by simp [go_sem]) rfl Try.call21 (fun R hR=>?_)
 simp [go_sem]
 refine (kind_any _ _).mono ?_
 rintro e w4 ⟨rfl,rfl⟩
 refine ⟨_,rfl,hR _ _ ?_⟩
 clear hR R
 simp [go_sem]
 refine hK _ _ ?_;clear hK K
 have tail:∀ (g:G) (w5:World),Below w.heap.size w w5→Bx w5 b1 #[.int .i64 0,.int .i64 0,.int .i64 0,.string ⟨#[]⟩] 59→g 0 = .string s→g 1 = .int .i64 n→g 4 = .pointer (some ⟨b1,0,none⟩)→g 6 = .pointer (some ⟨b2,0,none⟩) →
   Bx w5 b2 #[.int .i64 (tokK s n),.int .i64 n,.int .i64 (zb5 s n),.string ⟨#[]⟩] 59→zdN s n=0→n≤zb5 s n→zb5 s n≤s.size→K1 g w5:=by
  intro g w5 hX hA g0 g1 g4 g6 hB he hz1 hz2
  refine hK1 _ _ ?_
  have hz1':(n:Int)≤zb5 s n:=by omega
  have hz2':(zb5 s n:Int)≤s.size:=by omega
  have hb:=hB.cell
  first|refine zzr fun K hK=>?_|refine zzt fun K hK=>?_
  simp [go_sem,g0,g1,g4,g6,hb,hz1',hz2']
  refine za7 (b:=b2) (off:=3) [.string (s.extract n (zb5 s n))] (by simp [go_sem,g0,g1,g4,g6,hb]) rfl (by simp [go_sem,g0,g1,g4,g6,hb]) (by simp [go_sem,Value.cells,g0,g1,g4,g6,hb]) ty_size9 hB (by simp) (by simp [Value.oneCell']) (by decide) (fun w6 hS6 hB6=>?_)
  simp [zaD] at hB6
  replace hA:=hA.sto hS6 hne
  replace hX:=hX.nextS hS6 hb2
  have hb:=hB6.cell
  simp [go_sem]
  refine hK _ _ ?_;clear hK K
  first|refine zzr fun K hK=>?_|refine zzt fun K hK=>?_
  simp [go_sem,g6,hb,za2,za1]
  refine za7 (b:=b1) (off:=0) [.int .i64 (tokK s n),.int .i64 n,.int .i64 (zb5 s n),.string (s.extract n (zb5 s n))] (by simp [go_sem,g4]) rfl (by simp [go_sem,g4]) (by simp [go_sem,Value.cells,g4]) zc0 hA (by simp) (by simp [Value.oneCell']) (by decide) (fun w7 hS7 hB7=>?_)
  simp [zaD] at hB7
  have ha:=hB7.cell
  simp [go_sem]
  refine hK _ _ ?_;clear hK K
  refine zal ?_
  repeat (first|refine za4 ?_|refine za3 ?_)
  refine ⟨by simp [zb6,go_sem,za1,ha,g4],?_,hX.nextS hS7 hb1⟩
  simp [go_sem,zaw,zav,za2,ha,g4,tokR,tokC,he]
 have bad:∀ (g:G) (w5:World) (c:Int),Below w.heap.size w w5→Bx w5 b1 #[.int .i64 0,.int .i64 0,.int .i64 0,.string ⟨#[]⟩] 59→g 4 = .pointer (some ⟨b1,0,none⟩)→g 5 = .int .i64 c→(zdN s n:Int)=c→zdN s n≠0 →
   fnQ Try.prog [.cell 4 59,.tmp 5] (fun e w'=>e = .returned (.tuple #[.agg (tokR s n).toArray,.int .i64 (zdN s n)])∧Below w.heap.size w w') .ret g w5:=by
  intro g w5 c hX hA g4 g5 he hne0
  have ha:=hA.cell
  refine ⟨by simp [zb6,go_sem,za1,ha,g4,tok0],?_,hX⟩
  simp [go_sem,zaw,zav,za2,ha,g4,g5,tokR,tok0,he,hne0]
 refine zag ?_
 first|refine zzr fun K hK=>?_|refine zzt fun K hK=>?_
 simp [go_sem]
 refine hK _ _ ?_;clear hK K
 have hkl:=kind_letter (zah s n).toNat
 have hkd:=kind_digit (zah s n).toNat
 have hks:=kind_sign (zah s n).toNat
 have hkc:=kind_colon (zah s n).toNat
 by_cases k2:zcv ↑(zah s n).toNat=2
 ·have hlet:letB (zah s n).toNat=true:=by rw [←hkl];simp [k2]
  obtain ⟨hr1,hr2⟩:=run_bound true s n (by omega)
  have hwz:IntKind.i64.wrap (↑(zb2 true s n) - ↑n)=(zb2 true s n:Int)-n:=IntWalk.i64_in _ (by omega)
  refine zao (by simp [go_sem,k2];rfl) rfl ?_
  first|refine zzr fun K hK=>?_|refine zzt fun K hK=>?_
  simp [go_sem]
  refine za5 (by simp [go_sem]) rfl Try.call35 (fun R hR=>?_)
  simp [go_sem]
  refine (endR_any s n true _ hs' (by omega)).mono ?_
  rintro e w5 ⟨rfl,rfl⟩
  refine ⟨_,rfl,hR _ _ ?_⟩
  clear hR R
  simp [go_sem]
  refine za7 (b:=b2) (off:=0) [.int .i64 1] (by simp [go_sem]) rfl (by simp [go_sem]) (by simp [go_sem,Value.cells]) zaI hB3 (by simp) (by simp [Value.oneCell']) (by decide) (fun w5 hS5 hB5=>?_)
  simp [zaD] at hB5
  replace hA:=hA.sto hS5 hne
  replace hX:=hX.nextS hS5 hb2
  simp [go_sem]
  refine za7 (b:=b2) (off:=2) [.int .i64 (zb2 true s n)] (by simp [go_sem]) rfl (by simp [go_sem]) (by simp [go_sem,Value.cells]) zaI hB5 (by simp) (by simp [Value.oneCell']) (by decide) (fun w6 hS6 hB6=>?_)
  simp [zaD] at hB6
  replace hA:=hA.sto hS6 hne
  replace hX:=hX.nextS hS6 hb2
  have hb:=hB6.cell
  simp [go_sem]
  refine hK _ _ ?_;clear hK K
  first|refine zzr fun K hK=>?_|refine zzt fun K hK=>?_
  simp [go_sem,hb]
  refine hK _ _ ?_;clear hK K
  by_cases hbig:20<zb2 true s n-n
  ·have hbig':(20:Int) < ↑(zb2 true s n) - ↑n:=by omega
   refine zao (by simp [go_sem,hwz,hbig'];rfl) rfl ?_
   first|refine zzr fun K hK=>?_|refine zzt fun K hK=>?_
   simp [go_sem]
   refine zap #[.int .i64 0,.int .i64 0,.int .i64 0,.string ⟨#[]⟩] (by simp [go_sem]) rfl zdQ [] (by simp [go_sem]) rfl ?_
   simp [go_sem]
   refine za7 (b:=b1) (off:=0) [.int .i64 0,.int .i64 0,.int .i64 0,.string ⟨#[]⟩] (by simp [go_sem]) rfl (by simp [go_sem]) (by simp [go_sem,Value.cells]) zc0 hA (by simp) (by simp [Value.oneCell']) (by decide) (fun w7 hS7 hB7=>?_)
   simp [zaD] at hB7
   simp [go_sem]
   refine hK _ _ ?_;clear hK K
   refine zal ?_
   repeat (first|refine za4 ?_|refine za3 ?_)
   exact bad _ _ 4 (hX.nextS hS7 hb1) hB7 (by simp [go_sem]) (by simp [go_sem]) (by simp [zdN,hlet,hbig]) (by simp [zdN,hlet,hbig])
  ·have hbig':¬(20:Int) < ↑(zb2 true s n) - ↑n:=by omega
   refine zao (by simp [go_sem,hwz,hbig'];rfl) rfl ?_
   refine zae ?_
   refine tail _ _ hX hA (by simp [go_sem]) (by simp [go_sem]) (by simp [go_sem]) (by simp [go_sem]) ?_ (by simp [zdN,hlet,hbig]) (by simp [zb5,hlet];omega) (by simp [zb5,hlet];omega)
   simpa [tokK,zb5,hlet] using hB6
 ·have hlet:letB (zah s n).toNat=false:=by rw [←hkl];simp [k2]
  refine zao (by simp [go_sem,k2];rfl) rfl ?_
  first|refine zzr fun K hK=>?_|refine zzt fun K hK=>?_
  simp [go_sem]
  refine hK _ _ ?_;clear hK K
  by_cases k3:zcv ↑(zah s n).toNat=3
  ·have hdig:digB (zah s n).toNat=true:=by rw [←hkd];simp [k3]
   obtain ⟨hr1,hr2⟩:=run_bound false s n (by omega)
   have hwz:IntKind.i64.wrap (↑(zb2 false s n) - ↑n)=(zb2 false s n:Int)-n:=IntWalk.i64_in _ (by omega)
   refine zao (by simp [go_sem,k3];rfl) rfl ?_
   first|refine zzr fun K hK=>?_|refine zzt fun K hK=>?_
   simp [go_sem]
   refine za5 (by simp [go_sem]) rfl Try.call35 (fun R hR=>?_)
   simp [go_sem]
   refine (endR_any s n false _ hs' (by omega)).mono ?_
   rintro e w5 ⟨rfl,rfl⟩
   refine ⟨_,rfl,hR _ _ ?_⟩
   clear hR R
   simp [go_sem]
   refine za7 (b:=b2) (off:=0) [.int .i64 2] (by simp [go_sem]) rfl (by simp [go_sem]) (by simp [go_sem,Value.cells]) zaI hB3 (by simp) (by simp [Value.oneCell']) (by decide) (fun w5 hS5 hB5=>?_)
   simp [zaD] at hB5
   replace hA:=hA.sto hS5 hne
   replace hX:=hX.nextS hS5 hb2
   simp [go_sem]
   refine za7 (b:=b2) (off:=2) [.int .i64 (zb2 false s n)] (by simp [go_sem]) rfl (by simp [go_sem]) (by simp [go_sem,Value.cells]) zaI hB5 (by simp) (by simp [Value.oneCell']) (by decide) (fun w6 hS6 hB6=>?_)
   simp [zaD] at hB6
   replace hA:=hA.sto hS6 hne
   replace hX:=hX.nextS hS6 hb2
   have hb:=hB6.cell
   simp [go_sem]
   refine hK _ _ ?_;clear hK K
   have h48:decide (zah s n=48)=decide ((zah s n).toNat=48):=by
    rw [decide_eq_decide]
    constructor
    ·intro e;rw [e];rfl
    ·intro e;exact UInt8.toNat_inj.1 e
   refine zad (fun K2 hK2=>?_)
   refine W_rtJ (fun g w6'=>w6'=w6∧g 0 = .string s∧g 1 = .int .i64 n∧g 4 = .pointer (some ⟨b1,0,none⟩)∧g 6 = .pointer (some ⟨b2,0,none⟩)∧g 46 = .bool (decide (1<zb2 false s n-n) && decide ((zah s n).toNat=48))) (by kernel_rfl) ?_ ?_
   ·by_cases h1:1<zb2 false s n-n
    ·have h1':(1:Int) < ↑(zb2 false s n) - ↑n:=by omega
     simp [go_sem,hb,hwz,h1',h1,hlt']
     omega
    ·have h1':¬(1:Int) < ↑(zb2 false s n) - ↑n:=by omega
     simp [go_sem,hb,hwz,h1',h1]
   ·rintro g w6' ⟨rfl,g0,g1,g4,g6,g46⟩
    refine zao g46 rfl ?_
    cases hz:(decide (1<zb2 false s n-n) && decide ((zah s n).toNat=48)) with
    | true =>
     have he:zdN s n=5:=by simp [zdN,hlet,hdig];simp at hz;simp [hz]
     first|refine zzr fun K hK=>?_|refine zzt fun K hK=>?_
     simp [go_sem]
     refine zap #[.int .i64 0,.int .i64 0,.int .i64 0,.string ⟨#[]⟩] (by simp [go_sem]) rfl zdQ [] (by simp [go_sem]) rfl ?_
     simp [go_sem]
     refine za7 (b:=b1) (off:=0) [.int .i64 0,.int .i64 0,.int .i64 0,.string ⟨#[]⟩] (by simp [go_sem,g4]) rfl (by simp [go_sem,g4]) (by simp [go_sem,Value.cells,g4]) zc0 hA (by simp) (by simp [Value.oneCell']) (by decide) (fun w7 hS7 hB7=>?_)
     simp [zaD] at hB7
     simp [go_sem]
     refine hK _ _ ?_;clear hK K
     refine zal ?_
     repeat (first|refine za4 ?_|refine za3 ?_)
     exact bad _ _ 5 (hX.nextS hS7 hb1) hB7 (by simp [go_sem,g4]) (by simp [go_sem]) (by rw [he];rfl) (by rw [he];decide)
    | false =>
     refine zae (hK2 _ _ ?_)
     first|refine zzr fun K hK=>?_|refine zzt fun K hK=>?_
     simp [go_sem,g1,g6,hb]
     refine hK _ _ ?_;clear hK K
     have hz':¬(1<zb2 false s n-n∧(zah s n).toNat=48):=by simp at hz;intro ⟨a,b⟩;exact hz a b
     by_cases hbig:1000<zb2 false s n-n
     ·have he:zdN s n=4:=by simp [zdN,hlet,hdig,hz',hbig]
      have hbig':(1000:Int) < ↑(zb2 false s n) - ↑n:=by omega
      refine zao (by simp [go_sem,hwz,hbig'];rfl) rfl ?_
      first|refine zzr fun K hK=>?_|refine zzt fun K hK=>?_
      simp [go_sem]
      refine zap #[.int .i64 0,.int .i64 0,.int .i64 0,.string ⟨#[]⟩] (by simp [go_sem]) rfl zdQ [] (by simp [go_sem]) rfl ?_
      simp [go_sem]
      refine za7 (b:=b1) (off:=0) [.int .i64 0,.int .i64 0,.int .i64 0,.string ⟨#[]⟩] (by simp [go_sem,g4]) rfl (by simp [go_sem,g4]) (by simp [go_sem,Value.cells,g4]) zc0 hA (by simp) (by simp [Value.oneCell']) (by decide) (fun w7 hS7 hB7=>?_)
      simp [zaD] at hB7
      simp [go_sem]
      refine hK _ _ ?_;clear hK K
      refine zal ?_
      repeat (first|refine za4 ?_|refine za3 ?_)
      exact bad _ _ 4 (hX.nextS hS7 hb1) hB7 (by simp [go_sem,g4]) (by simp [go_sem]) (by rw [he];rfl) (by rw [he];decide)
     ·have he:zdN s n=0:=by simp [zdN,hlet,hdig,hz',hbig]
      have hbig':¬(1000:Int) < ↑(zb2 false s n) - ↑n:=by omega
      refine zao (by simp [go_sem,hwz,hbig'];rfl) rfl ?_
      refine zae ?_
      refine tail _ _ hX hA (by simp [go_sem,g0]) (by simp [go_sem,g1]) (by simp [go_sem,g4]) (by simp [go_sem,g6]) ?_ he (by simp [zb5,hlet,hdig];omega) (by simp [zb5,hlet,hdig];omega)
      simpa [tokK,zb5,hlet,hdig] using hB6
  ·have hdig:digB (zah s n).toNat=false:=by rw [←hkd];simp [k3]
   refine zao (by simp [go_sem,k3];rfl) rfl ?_
   first|refine zzr fun K hK=>?_|refine zzt fun K hK=>?_
   simp [go_sem]
   refine hK _ _ ?_;clear hK K
   by_cases k4:zcv ↑(zah s n).toNat=4
   ·have hsg:sgnB (zah s n).toNat=true:=by rw [←hks];simp [k4]
    have h58:(zah s n).toNat≠58:=by
     intro e
     rw [e] at k4
     exact absurd k4 (by decide)
    refine zao (by simp [go_sem,k4];rfl) rfl ?_
    refine zzt fun K hK=>?_
    simp [go_sem]
    refine za7 (b:=b2) (off:=0) [.int .i64 3] (by simp [go_sem]) rfl (by simp [go_sem]) (by simp [go_sem,Value.cells]) zaI hB3 (by simp) (by simp [Value.oneCell']) (by decide) (fun w5 hS5 hB5=>?_)
    simp [zaD] at hB5
    replace hA:=hA.sto hS5 hne
    replace hX:=hX.nextS hS5 hb2
    simp [go_sem]
    refine hK _ _ ?_;clear hK K
    refine tail _ _ hX hA (by simp [go_sem]) (by simp [go_sem]) (by simp [go_sem]) (by simp [go_sem]) ?_ (by simp [zdN,hlet,hdig,hsg]) (by simp [zb5,hlet,hdig,h58]) (by simp [zb5,hlet,hdig,h58];omega)
    simpa [tokK,zb5,hlet,hdig,h58] using hB5
   ·have hsg:sgnB (zah s n).toNat=false:=by rw [←hks];simp [k4]
    refine zao (by simp [go_sem,k4];rfl) rfl ?_
    first|refine zzr fun K hK=>?_|refine zzt fun K hK=>?_
    simp [go_sem]
    refine hK _ _ ?_;clear hK K
    by_cases k5:zcv ↑(zah s n).toNat=5
    ·have h58:(zah s n).toNat=58:=by
      have:decide (((zah s n).toNat:Int)=58)=true:=by rw [←hkc];simp [k5]
      simp at this;omega
     have hw2:IntKind.i64.wrap (↑n+2)=(n:Int)+2:=IntWalk.i64_in _ (by omega)
     have hn2:((n:Int)+1).toNat=n+1:=by omega
     refine zao (by simp [go_sem,k5];rfl) rfl ?_
     first|refine zzr fun K hK=>?_|refine zzt fun K hK=>?_
     simp [go_sem,hw2]
     refine za7 (b:=b2) (off:=0) [.int .i64 3] (by simp [go_sem]) rfl (by simp [go_sem]) (by simp [go_sem,Value.cells]) zaI hB3 (by simp) (by simp [Value.oneCell']) (by decide) (fun w5 hS5 hB5=>?_)
     simp [zaD] at hB5
     replace hA:=hA.sto hS5 hne
     replace hX:=hX.nextS hS5 hb2
     simp [go_sem]
     refine za7 (b:=b2) (off:=2) [.int .i64 (↑n+2)] (by simp [go_sem]) rfl (by simp [go_sem]) (by simp [go_sem,Value.cells]) zaI hB5 (by simp) (by simp [Value.oneCell']) (by decide) (fun w6 hS6 hB6=>?_)
     simp [zaD] at hB6
     replace hA:=hA.sto hS6 hne
     replace hX:=hX.nextS hS6 hb2
     simp [go_sem]
     refine hK _ _ ?_;clear hK K
     have h61:decide (zah s (n+1)=61)=decide ((zah s (n+1)).toNat=61):=by
      rw [decide_eq_decide]
      constructor
      ·intro e;rw [e];rfl
      ·intro e;exact UInt8.toNat_inj.1 e
     refine W_rtJ (fun g w6'=>w6'=w6∧g 0 = .string s∧g 1 = .int .i64 n∧g 4 = .pointer (some ⟨b1,0,none⟩)∧g 6 = .pointer (some ⟨b2,0,none⟩)∧g 74 = .bool (!(decide (n+1<s.size) && decide ((zah s (n+1)).toNat=61)))) (by kernel_rfl) ?_ ?_
     ·by_cases h1:n+1<s.size
      ·have h1':¬(s.size:Int)≤↑n+1:=by omega
       have h1'':(n:Int)+1<s.size:=by omega
       have h0':(0:Int)≤n+1:=by omega
       simp [go_sem,hw1,h1',h1,h1'',hn2,h0']
       omega
      ·have h1':(s.size:Int)≤↑n+1:=by omega
       simp [go_sem,hw1,h1',h1]
     ·rintro g w6' ⟨rfl,g0,g1,g4,g6,g74⟩
      refine zao g74 rfl ?_
      cases hz:(decide (n+1<s.size) && decide ((zah s (n+1)).toNat=61)) with
      | false =>
       have hz':¬(n+1<s.size∧(zah s (n+1)).toNat=61):=by simp at hz;intro ⟨a,b⟩;exact hz a b
       have he:zdN s n=5:=by simp only [zdN,hlet,hdig,hsg,Bool.false_eq_true,if_false];rw [if_pos h58];simp [hz']
       first|refine zzr fun K hK=>?_|refine zzt fun K hK=>?_
       simp [go_sem]
       refine zap #[.int .i64 0,.int .i64 0,.int .i64 0,.string ⟨#[]⟩] (by simp [go_sem]) rfl zdQ [] (by simp [go_sem]) rfl ?_
       simp [go_sem]
       refine za7 (b:=b1) (off:=0) [.int .i64 0,.int .i64 0,.int .i64 0,.string ⟨#[]⟩] (by simp [go_sem,g4]) rfl (by simp [go_sem,g4]) (by simp [go_sem,Value.cells,g4]) zc0 hA (by simp) (by simp [Value.oneCell']) (by decide) (fun w7 hS7 hB7=>?_)
       simp [zaD] at hB7
       simp [go_sem]
       refine hK _ _ ?_;clear hK K
       refine zal ?_
       repeat (first|refine za4 ?_|refine za3 ?_)
       exact bad _ _ 5 (hX.nextS hS7 hb1) hB7 (by simp [go_sem,g4]) (by simp [go_sem]) (by rw [he];rfl) (by rw [he];decide)
      | true =>
       have hz':n+1<s.size∧(zah s (n+1)).toNat=61:=by simpa using hz
       have he:zdN s n=0:=by simp only [zdN,hlet,hdig,hsg,Bool.false_eq_true,if_false];rw [if_pos h58];simp [hz']
       have hzz:zb5 s n=n+2:=by simp only [zb5,hlet,hdig,Bool.false_eq_true,if_false];rw [if_pos h58]
       have hkk:tokK s n=3:=by simp only [tokK,hlet,hdig,Bool.false_eq_true,if_false]
       refine zae ?_
       refine tail _ _ hX hA g0 g1 g4 g6 ?_ he (by rw [hzz];omega) (by rw [hzz];omega)
       rw [hzz,hkk];simpa using hB6
    ·have h58:¬(zah s n).toNat=58:=by
      intro e
      rw [e] at k5
      exact absurd rfl k5
     have he:zdN s n=5:=by simp [zdN,hlet,hdig,hsg,h58]
     refine zao (by simp [go_sem,k5];rfl) rfl ?_
     first|refine zzr fun K hK=>?_|refine zzt fun K hK=>?_
     simp [go_sem]
     refine zap #[.int .i64 0,.int .i64 0,.int .i64 0,.string ⟨#[]⟩] (by simp [go_sem]) rfl zdQ [] (by simp [go_sem]) rfl ?_
     simp [go_sem]
     refine za7 (b:=b1) (off:=0) [.int .i64 0,.int .i64 0,.int .i64 0,.string ⟨#[]⟩] (by simp [go_sem]) rfl (by simp [go_sem]) (by simp [go_sem,Value.cells]) zc0 hA (by simp) (by simp [Value.oneCell']) (by decide) (fun w7 hS7 hB7=>?_)
     simp [zaD] at hB7
     simp [go_sem]
     refine hK _ _ ?_;clear hK K
     refine zal ?_
     repeat (first|refine za4 ?_|refine za3 ?_)
     exact bad _ _ 5 (hX.nextS hS7 hb1) hB7 (by simp [go_sem]) (by simp [go_sem]) (by rw [he];rfl) (by rw [he];decide)
abbrev Tk:=Nat × Nat × Nat
def nxt (s:ByteArray) (k:Nat):Nat:=k+zaW false ((bs s).drop k)
def allF (s:ByteArray):Nat→Nat→List Tk→List Tk × Nat × Nat
 | 0,_,acc=>(acc,0,0)
 | f+1,k,acc =>
  if nxt s k<s.size then (if zdN s (nxt s k)=0 then allF s f (zb5 s (nxt s k)) (acc++[(tokK s (nxt s k),nxt s k,zb5 s (nxt s k))]) else ([],nxt s k,zdN s (nxt s k)))
  else (acc++[(0,s.size,s.size)],0,0)
def allAt (s:ByteArray) (k:Nat) (acc:List Tk):List Tk × Nat × Nat:=allF s (s.size+1-k) k acc
def ze0 (s:ByteArray):List Tk × Nat × Nat:=if s.size≤20000 then allAt s 0 [] else ([],0,4)
theorem endN_pos (L:Bool) (s:ByteArray) (k:Nat) (h:k<s.size) (hg:goOn L (zah s k)=true):k<zb2 L s k:=by
 unfold zb2
 rw [endN_step]
 simp [h,hg]
theorem goOn_let (L:Bool) (c:UInt8) (h:letB c.toNat=true):goOn true c=true:=by rw [goOn_true,h];rfl
theorem goOn_dig (L:Bool) (c:UInt8) (h:digB c.toNat=true):goOn L c=true:=by
 unfold goOn
 rw [kind_digit,h];rfl
theorem zc6 (s:ByteArray) (k:Nat) (h:k<s.size) (he:zdN s k=0):k<zb5 s k∧zb5 s k≤s.size:=by
 unfold zdN at he
 unfold zb5
 by_cases h1:letB (zah s k).toNat=true
 ·rw [if_pos h1]
  exact ⟨endN_pos true s k h (goOn_let true _ h1),(run_bound true s k (by omega)).1⟩
 ·rw [if_neg h1] at he ⊢
  by_cases h2:digB (zah s k).toNat=true
  ·rw [if_pos h2]
   exact ⟨endN_pos false s k h (goOn_dig false _ h2),(run_bound false s k (by omega)).1⟩
  ·rw [if_neg h2] at he ⊢
   by_cases h58:(zah s k).toNat=58
   ·have hs:¬sgnB (zah s k).toNat=true:=by rw [h58];decide
    rw [if_neg hs,if_pos h58] at he
    rw [if_pos h58]
    by_cases h3:k+1<s.size∧(zah s (k+1)).toNat=61
    ·omega
    ·rw [if_neg h3] at he;cases he
   ·rw [if_neg h58];omega
theorem skip_le:∀ (b:Bool) (l:List UInt8),zaW b l≤l.length
 | _,[]=>by simp [zaW]
 | true,c::l=>by
  have h1:=skip_le true l
  have h2:=skip_le false l
  unfold zaW
  split<;>simp<;>omega
 | false,c::l=>by
  have h1:=skip_le true l
  have h2:=skip_le false l
  unfold zaW
  repeat' split
  all_goals simp
  all_goals omega
theorem zdE (s:ByteArray) (k:Nat) (h:k≤s.size):k≤nxt s k∧nxt s k≤s.size:=by
 have:=skip_le false ((bs s).drop k)
 rw [List.length_drop,zaR] at this
 unfold nxt;omega
theorem allF_fuel (s:ByteArray):∀ (f f' k:Nat) (acc:List Tk),k≤s.size→s.size<k+f→s.size<k+f'→allF s f k acc=allF s f' k acc
 | 0,_,k,acc,h,h1,_=>by omega
 | f+1,0,k,acc,h,_,h2=>by omega
 | f+1,f'+1,k,acc,h,h1,h2=>by
  obtain ⟨n1,n2⟩:=zdE s k h
  unfold allF
  split
  ·rename_i hp
   split
   ·rename_i he
    obtain ⟨t1,t2⟩:=zc6 s _ hp he
    exact allF_fuel s f f' _ _ t2 (by omega) (by omega)
   ·rfl
  ·rfl
theorem allAt_eq (s:ByteArray) (k:Nat) (acc:List Tk) (h:k≤s.size):allAt s k acc =
  if nxt s k<s.size then (if zdN s (nxt s k)=0 then allAt s (zb5 s (nxt s k)) (acc++[(tokK s (nxt s k),nxt s k,zb5 s (nxt s k))]) else ([],nxt s k,zdN s (nxt s k)))
  else (acc++[(0,s.size,s.size)],0,0):=by
 obtain ⟨n1,n2⟩:=zdE s k h
 unfold allAt
 have e:s.size+1-k=(s.size-k)+1:=by omega
 rw [e]
 conv=>lhs;unfold allF
 split
 ·rename_i hp
  split
  ·rename_i he
   obtain ⟨t1,t2⟩:=zc6 s _ hp he
   exact allF_fuel s _ _ _ _ t2 (by omega) (by omega)
  ·rfl
 ·rfl
theorem allAt_skip (s:ByteArray) (k k':Nat) (acc:List Tk) (h:k≤s.size) (h':k'≤s.size) (hn:nxt s k=nxt s k'):allAt s k acc=allAt s k' acc:=by
 rw [allAt_eq s k acc h,allAt_eq s k' acc h',hn]
theorem nxt_blank (s:ByteArray) (k:Nat) (h:k<s.size) (hb:blkB (zah s k).toNat=true):nxt s k=nxt s (k+1):=by
 unfold nxt
 rw [zcU s k h,zaW,if_pos hb];omega
theorem skip_com (l:List UInt8):zaW true l=comN l+zaW false (l.drop (comN l)):=by
 induction l with
 | nil=>rfl
 | cons c l ih =>
  unfold comN
  by_cases h:c=10
  ·subst h
   rw [if_pos rfl]
   simp [zaW,blkB]
  ·rw [if_neg h,zaW,if_neg h,List.drop_succ_cons,ih];omega
theorem nxt_hash (s:ByteArray) (k:Nat) (h:k<s.size) (hb:zah s k=35):nxt s k=nxt s (k+comN ((bs s).drop k))∧k<k+comN ((bs s).drop k)∧k+comN ((bs s).drop k)≤s.size:=by
 have hc:comN ((bs s).drop k)=comN ((bs s).drop (k+1))+1:=by rw [com_step];simp [h,hb]
 have hcl:∀ l:List UInt8,comN l≤l.length:=by
  intro l
  induction l with
  | nil=>simp [comN]
  | cons c l ih=>unfold comN;split<;>simp<;>omega
 have hl:=hcl ((bs s).drop k)
 rw [List.length_drop,zaR] at hl
 refine ⟨?_,by omega,by omega⟩
 unfold nxt
 rw [hc]
 have e1:zaW false ((bs s).drop k)=zaW true ((bs s).drop (k+1))+1:=by
  rw [zcU s k h,hb]
  rfl
 rw [e1,skip_com,List.drop_drop]
 have e2:k+1+comN ((bs s).drop (k+1))=k+(comN ((bs s).drop (k+1))+1):=by omega
 rw [e2];omega
theorem nxt_here (s:ByteArray) (k:Nat) (h:k<s.size) (hb:blkB (zah s k).toNat=false) (hh:zah s k≠35):nxt s k=k:=by
 unfold nxt
 rw [zcU s k h,zaW,if_neg (by rw [hb];decide),if_neg hh];omega
theorem nxt_end (s:ByteArray) (k:Nat) (h:¬k<s.size):nxt s k=k:=by
 unfold nxt
 rw [drop_end s k h];rfl
theorem zdn (s:ByteArray) (a b:Nat):bs (s.extract a b)=((bs s).drop a).take (b-a):=by
 unfold bs
 rw [ByteArray.data_extract]
 simp [List.extract_eq_take_drop]
theorem zdF (s:ByteArray) (a:Nat):s.extract a a=⟨#[]⟩:=by
 apply bs_inj
 rw [zdn]
 simp [bs]
def tksC (s:ByteArray) (l:List Tk):List Value:=l.flatMap (tokC s)
theorem tksC_app (s:ByteArray) (l:List Tk) (t:Tk):tksC s (l++[t])=tksC s l++tokC s t:=by simp [tksC]
theorem zax {w w':World} {B e size n:Nat} {v:Value} {xs:List Value} (h:w.ownsRow B e size v n xs) (hb:Below w.heap.size w w'):w'.ownsRow B e size v n xs:=by
 refine ⟨h.1,?_⟩
 rcases h.2 with hn|⟨g,cap,cur,hv,hg,hh,r⟩
 ·exact .inl hn
 ·exact .inr ⟨g,cap,cur,hv,hg,by rw [hb.block g (Array.getElem?_eq_some_iff.1 hh).1];exact hh,r⟩
theorem ownL_sto {w w':World} {B e size n b:Nat} {v:Value} {xs:List Value} (h:w.ownsRow B e size v n xs) (hs:Sto w w' b) (hne:v.ownBlock≠some b):w'.ownsRow B e size v n xs:=by
 refine ⟨h.1,?_⟩
 rcases h.2 with hn|⟨g,cap,cur,hv,hg,hh,r⟩
 ·exact .inl hn
 ·refine .inr ⟨g,cap,cur,hv,hg,?_,r⟩
  have:g≠b:=fun e=>hne (by rw [hv,e];rfl)
  rw [hs.block g this];exact hh
theorem zbz {w:World} {B e size n:Nat} {v:Value} {xs:List Value} (h:w.ownsRow B e size v n xs):∃ a c,v = .slice a n c:=by
 rcases h.2 with ⟨h1,h2⟩|⟨g,cap,cur,hv,_⟩
 ·subst h2;exact ⟨none,0,h1⟩
 ·exact ⟨_,_,hv⟩
theorem tokR_len (s:ByteArray) (k:Nat):(tokR s k).length=4:=by unfold tokR;split<;>rfl
theorem tokR_one (s:ByteArray) (k:Nat):∀ v∈tokR s k,v.oneCell'=true:=by
 intro v hv
 unfold tokR at hv
 split at hv
 ·simp [tokC] at hv;rcases hv with rfl|rfl|rfl|rfl<;>rfl
 ·simp [tok0] at hv;rcases hv with rfl|rfl<;>rfl
theorem putC_all (c:Array Value) (vs:List Value) (h:c.size=vs.length):zaD c 0 vs=vs.toArray:=by
 rw [←putC_toList vs c 0 (by omega)]
 have:c.toList.drop vs.length=[]:=List.drop_eq_nil_of_le (by simp;omega)
 simp [this]
def AllPost (s:ByteArray) (w:World) (e:Ending) (w':World):Prop :=
 ∃ a c,e = .returned (.tuple #[.slice a (ze0 s).1.length c,.int .i64 (ze0 s).2.1,.int .i64 (ze0 s).2.2])∧SL w' a (tksC s (ze0 s).1)∧Below w.heap.size w w'
set_option maxHeartbeats 1000000 in
theorem all_any (s:ByteArray) (w:World) (hs:s.size≤maxLen) :
  Calls Try.prog 11 #[.string s] w (AllPost s w):=by
 refine za8 (args:=[.string s]) (rs:=[.tmp 2,.tmp 3,.tmp 4]) (n:=51) Try.func11 rfl rfl rfl (by kernel_rfl) ?_
 first|refine zzr fun K hK=>?_|refine zzt fun K hK=>?_
 simp [go_sem]
 refine hK _ _ ?_;clear hK K
 refine zad (fun K1 hK1=>?_)
 first|refine zzr fun K hK=>?_|refine zzt fun K hK=>?_
 simp [go_sem]
 refine hK _ _ ?_;clear hK K
 by_cases hbig:s.size≤20000
 ·have hbig':¬(20000:Int)<s.size:=by omega
  have hR:ze0 s=allAt s 0 []:=by unfold ze0;rw [if_pos hbig]
  refine zao (by simp [go_sem,hbig'];rfl) rfl ?_
  refine zae ?_
  refine hK1 _ _ ?_;clear hK1 K1
  refine zad (fun K1 hK1=>?_)
  refine zag ?_
  refine zaJ (fun m g w'=>Below w.heap.size w w'∧∃ (k:Nat) (v:Value) (acc:List Tk),k≤s.size∧m=s.size-k∧g 0 = .string s∧g 2=v∧g 3 = .int .i64 k∧w'.ownsRow w.heap.size 59 4 v acc.length (tksC s acc)∧acc.length≤k∧allAt s k acc=allAt s 0 []) s.size ?_ ?_
  ·exact ⟨Below.refl _ _,0,.slice none 0 0,[],Nat.zero_le _,rfl,rfl,rfl,rfl,World.ownsRow_nil _ _ _ _,Nat.le_refl _,rfl⟩
  ·rintro m g w' ⟨hE,k,v,acc,hk,rfl,g0,g2,g3,hown,hacc,hall⟩
   refine zad (fun K2 hK2=>?_)
   first|refine zzr fun K hK=>?_|refine zzt fun K hK=>?_
   simp [go_sem,g0,g3]
   refine hK _ _ ?_;clear hK K
   by_cases hlt:k<s.size
   ·have hlt':(k:Int)<s.size:=by omega
    have hw1:IntKind.i64.wrap (↑k+1)=(k:Int)+1:=IntWalk.i64_in _ (by omega)
    refine zao (by simp [go_sem,hlt,hlt'];rfl) rfl ?_
    refine zae ?_
    refine hK2 _ _ ?_;clear hK2 K2
    refine zag ?_
    refine zad (fun K3 hK3=>?_)
    first|refine zzr fun K hK=>?_|refine zzt fun K hK=>?_
    simp [go_sem,g0,g3,hlt',hw1]
    refine za5 (by simp [go_sem]) rfl Try.call21 (fun R hR=>?_)
    simp [go_sem]
    refine (kind_any _ _).mono ?_
    rintro e w4 ⟨rfl,rfl⟩
    refine ⟨_,rfl,hR _ _ ?_⟩
    clear hR R
    simp [go_sem]
    refine hK _ _ ?_;clear hK K
    refine zag ?_
    first|refine zzr fun K hK=>?_|refine zzt fun K hK=>?_
    simp [go_sem]
    refine hK _ _ ?_;clear hK K
    have hkb:=kind_blank (zah s k).toNat
    have hkh:=kind_hash (zah s k).toNat
    by_cases k1:zcv ↑(zah s k).toNat=1
    ·have hblk:blkB (zah s k).toNat=true:=by rw [←hkb];simp [k1]
     refine zao (by simp [go_sem,k1];rfl) rfl ?_
     first|refine zzr fun K hK=>?_|refine zzt fun K hK=>?_
     simp [go_sem,g3,hw1]
     refine hK _ _ ?_;clear hK K
     refine zaB ?_
     repeat (first|refine zak ?_|refine za9 rfl ?_|refine zac ?_)
     refine ⟨s.size-(k+1),by omega,hE,k+1,v,acc,by omega,rfl,by simp [go_sem,g0],by simp [go_sem,g2],by simp [go_sem],hown,by omega,?_⟩
     rw [←hall]
     exact (allAt_skip s k (k+1) acc hk (by omega) (nxt_blank s k hlt hblk)).symm
    ·have hblk:blkB (zah s k).toNat=false:=by rw [←hkb];simp [k1]
     refine zao (by simp [go_sem,k1];rfl) rfl ?_
     first|refine zzr fun K hK=>?_|refine zzt fun K hK=>?_
     simp [go_sem]
     refine hK _ _ ?_;clear hK K
     by_cases k6:zcv ↑(zah s k).toNat=6
     ·have h35:zah s k=35:=by
       have:decide (((zah s k).toNat:Int)=35)=true:=by rw [←hkh];simp [k6]
       apply UInt8.toNat_inj.1
       simp at this;simp;omega
      obtain ⟨hn1,hn2,hn3⟩:=nxt_hash s k hlt h35
      refine zao (by simp [go_sem,k6];rfl) rfl ?_
      first|refine zzr fun K hK=>?_|refine zzt fun K hK=>?_
      simp [go_sem,g0,g3]
      refine za5 (by simp [go_sem]) rfl Try.call22 (fun R hR=>?_)
      simp [go_sem]
      refine (comment_any s k _ hs hk).mono ?_
      rintro e w5 ⟨rfl,rfl⟩
      refine ⟨_,rfl,hR _ _ ?_⟩
      clear hR R
      simp [go_sem]
      refine hK _ _ ?_;clear hK K
      refine zaB ?_
      repeat (first|refine zak ?_|refine za9 rfl ?_|refine zac ?_)
      refine ⟨s.size-(k+comN ((bs s).drop k)),by omega,hE,k+comN ((bs s).drop k),v,acc,by omega,rfl,by simp [go_sem,g0],by simp [go_sem,g2],by simp [go_sem],hown,by omega,?_⟩
      rw [←hall]
      exact (allAt_skip s k _ acc hk hn3 hn1).symm
     ·have h35:zah s k≠35:=by
       intro e
       rw [e] at k6
       exact absurd rfl k6
      have hnx:=nxt_here s k hlt hblk h35
      have hae:=allAt_eq s k acc hk
      rw [hnx,if_pos hlt,hall] at hae
      refine zao (by simp [go_sem,k6];rfl) rfl ?_
      refine zae ?_
      refine hK3 _ _ ?_;clear hK3 K3
      first|refine zzr fun K hK=>?_|refine zzt fun K hK=>?_
      simp [go_sem,g0,g3]
      refine za5 (by simp [go_sem]) rfl Try.call23 (fun R hR=>?_)
      simp [go_sem]
      refine (token_any s k _ hbig hlt).mono ?_
      rintro e w5 ⟨rfl,hE5⟩
      refine ⟨_,rfl,hR _ _ ?_⟩
      clear hR R
      have hown5:w5.ownsRow w.heap.size 59 4 v acc.length (tksC s acc):=zax hown hE5
      replace hE:=hE.next hE5
      simp [go_sem]
      refine zar (by simp [go_sem]) rfl ty_zeroC59 (fun w6 b6 hE6 hle6 hB6=>?_)
      simp [go_sem]
      refine za7 (b:=b6) (off:=0) (tokR s k) (by simp [go_sem]) rfl (by simp [go_sem]) (by simp [go_sem,Value.cells]) (by rw [tokR_len];exact zc0) hB6 (by rw [tokR_len];simp) (tokR_one s k) (by decide) (fun w7 hS7 hB7=>?_)
      rw [putC_all _ _ (by simp [tokR_len])] at hB7
      have hb6:w.heap.size≤b6:=by have:=hE.size;omega
      have hne:v.ownBlock≠some b6:=fun e=>by have:=(hown5.lt b6 e).2;omega
      have hown7:w7.ownsRow w.heap.size 59 4 v acc.length (tksC s acc):=ownL_sto (zax hown5 hE6) hS7 hne
      replace hE:=(hE.next hE6).nextS hS7 hb6
      clear hown hown5 hE5 hE6 hS7 hB6
      simp [go_sem]
      refine hK _ _ ?_;clear hK K
      refine zad (fun K2 hK2=>?_)
      first|refine zzr fun K hK=>?_|refine zzt fun K hK=>?_
      simp [go_sem]
      refine hK _ _ ?_;clear hK K
      by_cases he:zdN s k=0
      ·have he':(zdN s k:Int)=0:=by omega
       rw [if_pos he] at hae
       obtain ⟨ht1,ht2⟩:=zc6 s k hlt he
       have e1:tokR s k=[.int .i64 (tokK s k),.int .i64 k,.int .i64 (zb5 s k),.string (s.extract k (zb5 s k))]:=by simp [tokR,he,tokC]
       rw [e1] at hB7
       have hb:=hB7.cell
       refine zao (by simp [go_sem,he,he'];rfl) rfl ?_
       refine zae ?_
       refine hK2 _ _ ?_;clear hK2 K2
       first|refine zzr fun K hK=>?_|refine zzt fun K hK=>?_
       simp [go_sem,g2,hb,za2,za1]
       refine zam #[.int .i64 (tokK s k),.int .i64 k,.int .i64 (zb5 s k),.string (s.extract k (zb5 s k))] (by simp [go_sem]) rfl ty_slZ48 (by decide) [(0,.agg #[.int .i64 (tokK s k),.int .i64 k,.int .i64 (zb5 s k),.string (s.extract k (zb5 s k))])] (by simp [go_sem]) (by kernel_rfl) (fun w8 b8 hE8 hle8 hB8=>?_)
       have hown8:w8.ownsRow w.heap.size 59 4 v acc.length (tksC s acc):=zax hown7 hE8
       replace hB7:=hB7.keep hE8
       replace hE:=hE.next hE8
       clear hown7 hE8
       simp [go_sem]
       refine zcB (v:=v) (b:=b8) (len:=1) (c:=1) hB8 (by simp [go_sem]) rfl ty_slZ48 ty_bytes59 rfl (by decide) (by simp [go_sem,g2]) (by simp [go_sem]) hown8 rfl (by simp [Value.oneCell']) (by unfold maxLen;omega) (by omega) hE.size (by decide) (fun v' w9 hown9 hg9 _=>?_)
       replace hB7:=hB7.grown hg9 (fun e=>hne e.symm)
       replace hE:=hE.nextG hg9 (fun b e=>(hown8.lt b e).1)
       have hb:=hB7.cell
       have hown10:w9.ownsRow w.heap.size 59 4 v' (acc++[(tokK s k,k,zb5 s k)]).length (tksC s (acc++[(tokK s k,k,zb5 s k)])):=by
        rw [tksC_app,List.length_append];exact hown9
       simp [go_sem]
       refine hK _ _ ?_;clear hK K
       refine zzt fun K hK=>?_
       simp [go_sem,hb]
       refine hK _ _ ⟨s.size-zb5 s k,by omega,hE,zb5 s k,v',acc++[(tokK s k,k,zb5 s k)],ht2,rfl,by simp [go_sem,g0],by simp [go_sem],by simp [go_sem],hown10,by simp;omega,hae.symm⟩
      ·have he':¬(zdN s k:Int)=0:=by omega
       rw [if_neg he] at hae
       have hR':ze0 s=([],k,zdN s k):=by rw [hR,hae]
       refine zao (by simp [go_sem,he,he'];rfl) rfl ?_
       first|refine zzr fun K hK=>?_|refine zzt fun K hK=>?_
       simp [go_sem,g3]
       refine hK _ _ ?_;clear hK K
       refine zal ?_
       repeat (first|refine za4 ?_|refine za3 ?_)
       refine ⟨trivial,none,0,?_,by rw [hR'];exact SL.nil _ _,hE⟩
       simp [go_sem,zaw,zav,hR']
   ·have hk':k=s.size:=by omega
    have hae:=allAt_eq s k acc hk
    rw [nxt_end s k hlt,if_neg hlt,hall] at hae
    have hR':ze0 s=(acc++[(0,s.size,s.size)],0,0):=by rw [hR,hae]
    refine zao (by simp [go_sem,hlt];rfl) rfl ?_
    refine zaB ?_
    repeat (first|refine zak ?_|refine za9 rfl ?_|refine zac ?_)
    refine hK1 _ _ ?_;clear hK1 K1 hK2 K2
    first|refine zzr fun K hK=>?_|refine zzt fun K hK=>?_
    simp [go_sem,g0,g2]
    refine zap #[.int .i64 0,.int .i64 s.size,.int .i64 s.size,.string ⟨#[]⟩] (by simp [go_sem]) rfl zdQ [(0,.int .i64 0),(1,.int .i64 s.size),(2,.int .i64 s.size)] (by simp [go_sem]) rfl ?_
    simp [go_sem]
    refine zam #[.int .i64 0,.int .i64 s.size,.int .i64 s.size,.string ⟨#[]⟩] (by simp [go_sem]) rfl ty_slZ48 (by decide) [(0,.agg #[.int .i64 0,.int .i64 s.size,.int .i64 s.size,.string ⟨#[]⟩])] (by simp [go_sem]) (by kernel_rfl) (fun w8 b8 hE8 hle8 hB8=>?_)
    have hown8:w8.ownsRow w.heap.size 59 4 v acc.length (tksC s acc):=zax hown hE8
    replace hE:=hE.next hE8
    simp [go_sem]
    refine zcB (v:=v) (b:=b8) (len:=1) (c:=1) hB8 (by simp [go_sem]) rfl ty_slZ48 ty_bytes59 rfl (by decide) (by simp [go_sem,g2]) (by simp [go_sem]) hown8 rfl (by simp [Value.oneCell']) (by unfold maxLen;omega) (by omega) hE.size (by decide) (fun v' w9 hown9 hg9 _=>?_)
    replace hE:=hE.nextG hg9 (fun b e=>(hown8.lt b e).1)
    simp [go_sem]
    refine hK _ _ ?_;clear hK K
    obtain ⟨a,c,rfl⟩:=zbz hown9
    refine zal ?_
    repeat (first|refine za4 ?_|refine za3 ?_)
    refine ⟨trivial,a,c,?_,?_,hE⟩
    ·simp [go_sem,zaw,zav,hR']
    ·rw [hR']
     show SL _ a (tksC s (acc++[(0,s.size,s.size)]))
     rw [tksC_app]
     have e2:tokC s (0,s.size,s.size)=[.int .i64 0,.int .i64 s.size,.int .i64 s.size,.string ⟨#[]⟩]:=by
      simp only [tokC,zdF]
      first|rfl|skip
     rw [e2]
     exact zca hown9
 ·have hbig':(20000:Int)<s.size:=by omega
  have hR:ze0 s=([],0,4):=by unfold ze0;rw [if_neg hbig]
  refine zao (by simp [go_sem,hbig'];rfl) rfl ?_
  first|refine zzr fun K hK=>?_|refine zzt fun K hK=>?_
  simp [go_sem]
  refine hK _ _ ?_;clear hK K
  refine zal ?_
  repeat (first|refine za4 ?_|refine za3 ?_)
  refine ⟨trivial,none,0,?_,by rw [hR];exact SL.nil _ _,Below.refl _ _⟩
  simp [go_sem,zaw,zav,hR]
theorem skip_take:∀ (l:List UInt8) (b:Bool) (n:Nat),zaW b (l.take n)=min n (zaW b l)
 | [],b,n=>by simp [zaW]
 | c::l,b,0=>by simp [zaW]
 | c::l,true,n+1=>by
  simp only [List.take_succ_cons,zaW]
  split<;>rw [skip_take l]<;>omega
 | c::l,false,n+1=>by
  simp only [List.take_succ_cons,zaW]
  split
  ·rw [skip_take l];omega
  ·split
   ·rw [skip_take l];omega
   ·simp
theorem endN_take (L:Bool):∀ (l:List UInt8) (n:Nat),zdJ L (l.take n)=min n (zdJ L l)
 | [],n=>by simp [zdJ]
 | c::l,0=>by simp [zdJ]
 | c::l,n+1=>by
  simp only [List.take_succ_cons,zdJ]
  split
  ·rw [endN_take L l];omega
  ·simp
def tokL:List UInt8→Nat × Nat × Nat
 | []=>(5,0,0)
 | c::r =>
  if letB c.toNat=true then (if 20<zdJ true (c::r) then 4 else 0,1,zdJ true (c::r))
  else if digB c.toNat=true then (if 1<zdJ false (c::r)∧c.toNat=48 then 5 else if 1000<zdJ false (c::r) then 4 else 0,2,zdJ false (c::r))
  else if sgnB c.toNat=true then (0,3,1)
  else if c.toNat=58 then (if r.head? = some 61 then 0 else 5,3,2)
  else (5,3,1)
theorem sgn_58 (c:UInt8) (h:sgnB c.toNat=true):¬c.toNat=58:=by
 intro e;rw [e] at h;revert h;decide
theorem tok_list (s:ByteArray) (q:Nat) (h:q<s.size):tokL ((bs s).drop q)=(zdN s q,tokK s q,zb5 s q-q)∧q≤zb5 s q:=by
 have hd:(((bs s).drop (q+1)).head? = some 61)=(q+1<s.size∧(zah s (q+1)).toNat=61):=by
  by_cases h1:q+1<s.size
  ·rw [zcU s (q+1) h1]
   simp only [List.head?_cons,Option.some.injEq,h1,true_and,eq_iff_iff]
   constructor
   ·intro e;rw [e];rfl
   ·intro e;apply UInt8.toNat_inj.1;rw [e];rfl
  ·rw [drop_end s (q+1) h1];simp [h1]
 unfold zdN tokK zb5 zb2
 rw [zcU s q h]
 unfold tokL
 by_cases h1:letB (zah s q).toNat=true
 ·simp only [h1,if_true,Nat.add_sub_cancel_left];exact ⟨trivial,by omega⟩
 ·by_cases h2:digB (zah s q).toNat=true
  ·simp only [h1,h2,Bool.false_eq_true,if_true,if_false,Nat.add_sub_cancel_left];exact ⟨trivial,by omega⟩
  ·by_cases h3:sgnB (zah s q).toNat=true
   ·have h4:=sgn_58 _ h3
    simp only [h1,h2,h3,Bool.false_eq_true,if_neg h4,if_true,if_false,Nat.add_sub_cancel_left];exact ⟨trivial,by omega⟩
   ·by_cases h4:(zah s q).toNat=58
    ·simp only [h1,h2,h3,Bool.false_eq_true,if_pos h4,if_true,if_false,Nat.add_sub_cancel_left,hd];exact ⟨trivial,by omega⟩
    ·simp only [h1,h2,h3,Bool.false_eq_true,if_neg h4,if_true,if_false,Nat.add_sub_cancel_left];exact ⟨trivial,by omega⟩
theorem tok_app (T r r':List UInt8) (K:Nat) (hT:tokL (T++r)=(0,K,T.length)) (hst:∀ L,zdJ L (T++r)=T.length→zdJ L (T++r')=T.length):tokL (T++r')=(0,K,T.length):=by
 have h1:=hst true
 have h2:=hst false
 cases T with
 | nil =>
  exfalso
  cases r with
  | nil=>simp [tokL] at hT
  | cons c r =>
   simp only [List.nil_append,tokL,List.length_nil] at hT
   by_cases a1:letB c.toNat=true
   ·simp only [a1,if_true] at hT
    injection hT with _ e;injection e with _ e
    have:goOn true c=true:=goOn_let true c a1
    simp [zdJ,this] at e
   ·by_cases a2:digB c.toNat=true
    ·simp only [a1,a2,Bool.false_eq_true,if_false,if_true] at hT
     injection hT with _ e;injection e with _ e
     have:goOn false c=true:=goOn_dig false c a2
     simp [zdJ,this] at e
    ·simp only [a1,a2,Bool.false_eq_true,if_false] at hT
     (repeat' split at hT)<;>simp at hT
 | cons c T =>
  simp only [List.cons_append] at hT h1 h2 ⊢
  unfold tokL at hT ⊢
  by_cases a1:letB c.toNat=true
  ·simp only [a1,if_true] at hT ⊢
   injection hT with e1 e;injection e with e2 e3
   rw [h1 e3];rw [e3] at e1;rw [e1,e2]
  ·by_cases a2:digB c.toNat=true
   ·simp only [a1,a2,Bool.false_eq_true,if_false,if_true] at hT ⊢
    injection hT with e1 e;injection e with e2 e3
    simp only [e3] at e1
    simp only [h2 e3,e1,←e2]
   ·by_cases a3:sgnB c.toNat=true
    ·simp only [a1,a2,a3,Bool.false_eq_true,if_false,if_true] at hT ⊢;exact hT
    ·by_cases a4:c.toNat=58
     ·simp only [a1,a2,a3,Bool.false_eq_true,if_false,if_pos a4,if_true] at hT ⊢
      cases T with
      | nil=>injection hT with e1 e;injection e with e2 e3;simp at e3
      | cons d T=>exact hT
     ·simp only [a1,a2,a3,Bool.false_eq_true,if_false,if_neg a4] at hT ⊢;exact hT
inductive Lexed (s:ByteArray):Nat→List Tk→Prop
 | fin (k:Nat) (h:¬nxt s k<s.size):Lexed s k [(0,s.size,s.size)]
 | tok (k:Nat) (l:List Tk) (h:nxt s k<s.size) (he:zdN s (nxt s k)=0) (hl:Lexed s (zb5 s (nxt s k)) l):Lexed s k ((tokK s (nxt s k),nxt s k,zb5 s (nxt s k))::l)
theorem bs_pre (s:ByteArray) (p:Nat):bs (s.extract 0 p)=(bs s).take p:=by rw [zdn];simp
theorem size_pre (s:ByteArray) (p:Nat) (h:p≤s.size):(s.extract 0 p).size=p:=by rw [←zaR,bs_pre,List.length_take,zaR];omega
theorem nxt_pre (s:ByteArray) (p k:Nat) (h:p≤s.size) (hk:k≤p):nxt (s.extract 0 p) k=min p (nxt s k):=by
 unfold nxt
 rw [bs_pre,List.drop_take,skip_take];omega
theorem tok_pre (s:ByteArray) (p q:Nat) (h:p≤s.size) (hq:q<p) (he:zdN s q=0) (hz:zb5 s q≤p):zdN (s.extract 0 p) q=0∧tokK (s.extract 0 p) q=tokK s q∧zb5 (s.extract 0 p) q=zb5 s q:=by
 obtain ⟨t1,t2⟩:=zc6 s q (by omega) he
 obtain ⟨e1,_⟩:=tok_list s q (by omega)
 obtain ⟨e2,e3⟩:=tok_list (s.extract 0 p) q (by rw [size_pre s p h];exact hq)
 have hl:(((bs s).drop q).take (zb5 s q-q)).length=zb5 s q-q:=by rw [List.length_take,List.length_drop,zaR];omega
 have e4:=tok_app (((bs s).drop q).take (zb5 s q-q)) (((bs s).drop q).drop (zb5 s q-q)) ((((bs s).drop q).drop (zb5 s q-q)).take (p-zb5 s q)) (tokK s q)
  (by rw [List.take_append_drop,e1,he,hl]) (by
   intro L hL
   rw [List.take_append_drop,hl] at hL
   have:((bs s).drop q).take (zb5 s q-q)++(((bs s).drop q).drop (zb5 s q-q)).take (p-zb5 s q)=((bs s).drop q).take (p-q):=by
    have e:p-q=(zb5 s q-q)+(p-zb5 s q):=by omega
    rw [e,List.take_add]
   rw [this,endN_take,hL,hl];omega)
 have:((bs s).drop q).take (zb5 s q-q)++(((bs s).drop q).drop (zb5 s q-q)).take (p-zb5 s q)=(bs (s.extract 0 p)).drop q:=by
  rw [bs_pre,List.drop_take]
  have e:p-q=(zb5 s q-q)+(p-zb5 s q):=by omega
  rw [e,List.take_add]
 rw [this,e2,hl] at e4
 injection e4 with a1 a;injection a with a2 a3
 exact ⟨a1,a2,by omega⟩
theorem allF_lexed (s:ByteArray):∀ (f k:Nat) (acc:List Tk),k≤s.size→s.size<k+f →
  (∃ l,allF s f k acc=(acc++l,0,0)∧Lexed s k l)∨(∃ p,k≤p∧p<s.size∧zdN s p≠0∧allF s f k acc=([],p,zdN s p)∧∃ l,Lexed (s.extract 0 p) k l)
 | 0,k,acc,h,h1=>by omega
 | f+1,k,acc,h,h1=>by
  obtain ⟨n1,n2⟩:=zdE s k h
  unfold allF
  by_cases hp:nxt s k<s.size
  ·rw [if_pos hp]
   by_cases he:zdN s (nxt s k)=0
   ·rw [if_pos he]
    obtain ⟨t1,t2⟩:=zc6 s _ hp he
    rcases allF_lexed s f (zb5 s (nxt s k)) (acc++[(tokK s (nxt s k),nxt s k,zb5 s (nxt s k))]) t2 (by omega) with ⟨l,e,hl⟩|⟨p,g1,g2,g3,e,l,hl⟩
    ·exact .inl ⟨_::l,by rw [e,List.append_assoc];rfl,.tok k l hp he hl⟩
    ·refine .inr ⟨p,by omega,g2,g3,e,(tokK (s.extract 0 p) (nxt (s.extract 0 p) k),nxt (s.extract 0 p) k,zb5 (s.extract 0 p) (nxt (s.extract 0 p) k))::l,?_⟩
     have hn:nxt (s.extract 0 p) k=nxt s k:=by rw [nxt_pre s p k (by omega) (by omega)];omega
     obtain ⟨u1,u2,u3⟩:=tok_pre s p (nxt s k) (by omega) (by omega) he g1
     refine .tok k l (by rw [hn,size_pre s p (by omega)];omega) (by rw [hn];exact u1) ?_
     rw [hn,u3];exact hl
   ·rw [if_neg he]
    refine .inr ⟨nxt s k,n1,hp,he,rfl,[(0,(s.extract 0 (nxt s k)).size,(s.extract 0 (nxt s k)).size)],.fin k ?_⟩
    rw [nxt_pre s _ k (by omega) n1,size_pre s _ n2];omega
  ·rw [if_neg hp]
   exact .inl ⟨_,rfl,.fin k hp⟩
theorem lexed_all (s:ByteArray) (k:Nat) (l:List Tk) (hl:Lexed s k l):∀ acc,k≤s.size→allAt s k acc=(acc++l,0,0):=by
 induction hl with
 | fin k h=>intro acc hk;rw [allAt_eq s k acc hk,if_neg h]
 | tok k l h he hl ih =>
  intro acc hk
  rw [allAt_eq s k acc hk,if_pos h,if_pos he,ih _ (zc6 s _ h he).2]
  simp
theorem allR_cases (s:ByteArray):(∃ l,ze0 s=(l,0,0)∧Lexed s 0 l)∨ze0 s=([],0,4) ∨
  (∃ p e,p<s.size∧e≠0∧ze0 s=([],p,e)∧∃ l,ze0 (s.extract 0 p)=(l,0,0)):=by
 unfold ze0
 by_cases hb:s.size≤20000
 ·simp only [if_pos hb]
  rcases allF_lexed s (s.size+1-0) 0 [] (by omega) (by omega) with ⟨l,e,hl⟩|⟨p,g1,g2,g3,e,l,hl⟩
  ·exact .inl ⟨l,e,hl⟩
  ·refine .inr (.inr ⟨p,_,g2,g3,e,l,?_⟩)
   rw [if_pos (by rw [size_pre s p (by omega)];omega)]
   exact lexed_all _ _ _ hl [] (by omega)
 ·simp only [if_neg hb]
  exact .inr (.inl trivial)
end Go.Proofs.Ytefhenfofomjhaa
namespace Go.Proofs.Ytefhenfofomjhaa
open Go.RowKit Go.V Go.ChangeMaps
set_option maxRecDepth 20000
theorem allR_small (s:ByteArray) (l:List Tk) (h:ze0 s=(l,0,0)):s.size≤20000:=by
 unfold ze0 at h
 split at h
 ·assumption
 ·injection h with _ e;injection e with _ e;cases e
theorem tokK_pos (s:ByteArray) (k:Nat):tokK s k≠0:=by unfold tokK;(repeat' split)<;>omega
end Go.Proofs.Ytefhenfofomjhaa
namespace Go.Proofs.Ytefhenfofomjhaa
open Go Go.RowKit Go.V Go.ChangeMaps
set_option maxRecDepth 20000
def tkOf (s:ByteArray) (t:Tk):Tok:=⟨t.1,t.2.1,t.2.2,bs (s.extract t.2.1 t.2.2)⟩
def tokT (s:ByteArray):List Tok:=(ze0 s).1.map (tkOf s)
theorem toks_tks (s:ByteArray):∀ (l:List Tk),zdw (l.map (tkOf s))=tksC s l
 | []=>rfl
 | t::l=>by
  have e:tksC s (t::l)=tokC s t++tksC s l:=rfl
  rw [e,←toks_tks s l]
  unfold zdw
  rw [List.map_cons,List.map_cons,List.flatten_cons]
  congr 1
theorem lexed_form (s:ByteArray) (k:Nat) (l:List Tk) (h:Lexed s k l):k≤s.size→∃ m:List Tk,l=m++[(0,s.size,s.size)]∧m.length≤s.size-k∧∀ t∈m,∃ q,q<s.size∧zdN s q=0∧t=(tokK s q,q,zb5 s q):=by
 induction h with
 | fin k h=>intro _;exact ⟨[],rfl,Nat.zero_le _,fun t h=>by cases h⟩
 | tok k l h he hl ih =>
  intro hk
  obtain ⟨t1,t2⟩:=zc6 s _ h he
  obtain ⟨n1,n2⟩:=zdE s k hk
  obtain ⟨m,rfl,hm,hall⟩:=ih t2
  refine ⟨_::m,rfl,by simp;omega,fun t ht=>?_⟩
  rcases List.mem_cons.1 ht with rfl|ht
  ·exact ⟨_,h,he,rfl⟩
  ·exact hall t ht
theorem tok_text (s:ByteArray) (q:Nat) (h:q<s.size) (he:zdN s q=0):∃ r,(bs s).drop q=bs (s.extract q (zb5 s q))++r∧(bs (s.extract q (zb5 s q))).length=zb5 s q-q∧tokL (bs (s.extract q (zb5 s q))++r)=(0,tokK s q,(bs (s.extract q (zb5 s q))).length)∧0<(bs (s.extract q (zb5 s q))).length:=by
 obtain ⟨t1,t2⟩:=zc6 s q h he
 obtain ⟨tl,_⟩:=tok_list s q h
 have hT:bs (s.extract q (zb5 s q))=((bs s).drop q).take (zb5 s q-q):=by rw [zdn]
 have hTl:(bs (s.extract q (zb5 s q))).length=zb5 s q-q:=by rw [hT,List.length_take,List.length_drop,zaR];omega
 refine ⟨((bs s).drop q).drop (zb5 s q-q),by rw [hT,List.take_append_drop],hTl,?_,by omega⟩
 rw [hTl,hT,List.take_append_drop,tl,he]
theorem endN_pre (L:Bool) (T r:List UInt8) (h:zdJ L (T++r)=T.length):T.all (goOn L)=true:=by
 induction T with
 | nil=>rfl
 | cons c T ih =>
  rw [List.cons_append,zdJ] at h
  split at h
  ·rename_i hc
   rw [List.all_cons,hc,ih (by simpa using h)];rfl
  ·simp at h
theorem tok_name {T r:List UInt8} (h:tokL (T++r)=(0,1,T.length)) (h0:0<T.length):nameB T = !isKw T:=by
 have hp:preB T=true:=by
  cases T with
  | nil=>simp at h0
  | cons c T =>
   rw [List.cons_append] at h
   unfold tokL at h
   by_cases a1:letB c.toNat=true
   ·simp only [a1,if_true] at h
    injection h with e1 e;injection e with e2 e3
    have hall:=endN_pre true (c::T) r e3
    rw [e3] at e1
    have hk:zcv c.toNat=2:=by
     have:=kind_letter (c.toNat:Int)
     rw [a1] at this;simpa using this
    have hl:(c::T).length≤20:=by
     by_cases h20:20<(c::T).length
     ·rw [if_pos h20] at e1;cases e1
     ·omega
    unfold preB
    rw [hall]
    simp [hk]
    simpa using hl
   ·exfalso
    by_cases a2:digB c.toNat=true
    ·simp only [a1,a2,Bool.false_eq_true,if_false,if_true] at h
     injection h with e1 e;injection e with e2 e3;cases e2
    ·simp only [a1,a2,Bool.false_eq_true,if_false] at h
     (repeat' split at h)<;>(injection h with e1 e;injection e with e2 e3;cases e2)
 unfold nameB
 rw [hp];rfl
theorem slk_none:∀ {l:List UInt8},(∀ x∈l,48≤x.toNat)→slk l=l.length
 | [],_=>rfl
 | c::l,h=>by
  have h1:=h c (List.mem_cons_self ..)
  have h2:¬c=47:=fun e=>by rw [e] at h1;exact absurd h1 (by decide)
  unfold slk
  rw [if_neg h2,slk_none (fun x hx=>h x (List.mem_cons_of_mem _ hx)),List.length_cons]
theorem tok_num {T r:List UInt8} (h:tokL (T++r)=(0,2,T.length)) (h0:0<T.length):qrE T=0:=by
 cases T with
 | nil=>simp at h0
 | cons c T =>
  rw [List.cons_append] at h
  unfold tokL at h
  by_cases a1:letB c.toNat=true
  ·simp only [a1,if_true] at h
   injection h with e1 e;injection e with e2 e3;cases e2
  ·by_cases a2:digB c.toNat=true
   ·simp only [a1,a2,Bool.false_eq_true,if_false,if_true] at h
    injection h with e1 e;injection e with e2 e3
    have hall:=endN_pre false (c::T) r e3
    rw [e3] at e1
    have h48:¬(1<(c::T).length∧c.toNat=48):=by
     intro hc;rw [if_pos hc] at e1;cases e1
    rw [if_neg h48] at e1
    have hl:(c::T).length≤1000:=by
     by_cases h20:1000<(c::T).length
     ·rw [if_pos h20] at e1;cases e1
     ·omega
    have hdig:∀ x∈c::T,48≤x.toNat∧x.toNat≤57:=by
     intro x hx
     have h1:=List.all_eq_true.1 hall x hx
     have h2:=kind_digit (x.toNat:Int)
     unfold goOn at h1
     simp only [Bool.false_and,Bool.or_false] at h1
     rw [h1] at h2
     have h3:=h2.symm
     unfold digB at h3
     simp at h3
     omega
    have hc0:=hdig c (List.mem_cons_self ..)
    have hs:slk (c::T)=(c::T).length:=slk_none (fun x hx=>(hdig x hx).1)
    have hA:slA (c::T)=c::T:=by unfold slA;rw [hs,List.take_length]
    have hH:slH (c::T)=false:=by unfold slH;rw [hs];simp
    have hn:izn (c::T)=false:=by unfold izn;simp [ch];omega
    have hd:izd (c::T)=c::T:=by unfold izd;rw [hn];rfl
    have hb:rdBad (c::T)=false:=by
     unfold rdBad
     rw [Bool.or_eq_false_iff]
     constructor
     ·rw [Bool.and_eq_false_iff]
      by_cases h1:1<(c::T).length
      ·right
       have:¬c.toNat=48:=fun e=>h48 ⟨h1,e⟩
       simp only [List.getD_cons_zero,decide_eq_false_iff_not]
       intro e;rw [e] at this;exact this rfl
      ·left;simpa using h1
     ·rw [List.any_eq_false]
      intro x hx
      have:=hdig x hx
      unfold isD;simp;omega
    have hr:rdE (c::T)=0:=by unfold rdE;rw [if_neg (by simp),if_neg (by omega),hb];rfl
    have hi:izE (c::T)=0:=by unfold izE;rw [hd,hr,hn];simp
    unfold qrE
    rw [hA,hi,hH];rfl
   ·exfalso
    simp only [a1,a2,Bool.false_eq_true,if_false] at h
    (repeat' split at h)<;>(injection h with e1 e;injection e with e2 e3;cases e2)
theorem wf_tok {s:ByteArray} (h:(ze0 s).2.2=0):Wf (tokT s):=by
 rcases allR_cases s with ⟨l,e,hl⟩|e|⟨p,er,_,hne,e,_⟩
 ·have hsm:=allR_small s l e
  obtain ⟨m,rfl,hm,hall⟩:=lexed_form s 0 l hl (Nat.zero_le _)
  have hT:tokT s=m.map (tkOf s)++[⟨0,s.size,s.size,[]⟩]:=by
   unfold tokT
   rw [e,List.map_append]
   congr 1
   simp [tkOf,zdF]
   rfl
  have hlen:(tokT s).length=m.length+1:=by rw [hT];simp
  have hin:∀ i,i<m.length→∃ q,q<s.size∧zdN s q=0∧zai (tokT s) i=tkOf s (tokK s q,q,zb5 s q):=by
   intro i hi
   obtain ⟨q,q1,q2,q3⟩:=hall _ (List.getElem_mem hi)
   refine ⟨q,q1,q2,?_⟩
   unfold zai
   rw [hT,List.getD_eq_getElem?_getD,List.getElem?_append_left (by simpa using hi)]
   simp [hi,q3]
  have hend:zai (tokT s) m.length=⟨0,s.size,s.size,[]⟩:=by
   unfold zai
   rw [hT,List.getD_eq_getElem?_getD,List.getElem?_append_right (by simp)]
   simp
  have hout:∀ i,m.length<i→zai (tokT s) i=⟨0,0,0,[]⟩:=by
   intro i hi
   unfold zai
   rw [List.getD_eq_getElem?_getD,List.getElem?_eq_none (by omega)]
   rfl
  have hcases:∀ i,(∃ q,q<s.size∧zdN s q=0∧zai (tokT s) i=tkOf s (tokK s q,q,zb5 s q))∨((zai (tokT s) i).k=0∧(zai (tokT s) i).t=[]∧(zai (tokT s) i).p≤s.size):=by
   intro i
   rcases Nat.lt_trichotomy i m.length with hi|hi|hi
   ·exact .inl (hin i hi)
   ·right;rw [hi,hend];exact ⟨rfl,rfl,Nat.le_refl _⟩
   ·right;rw [hout i hi];exact ⟨rfl,rfl,Nat.zero_le _⟩
  refine ⟨by omega,fun i hi=>?_,?_,fun i hk=>?_,fun i hk=>?_,fun i hk=>?_,fun i hk=>?_,fun i=>?_,by omega,fun i=>?_⟩
  ·obtain ⟨q,q1,q2,q3⟩:=hin i (by omega)
   rw [q3];exact tokK_pos s q
  ·rw [hlen,Nat.add_sub_cancel,hend]
  ·rcases hcases i with ⟨q,q1,q2,q3⟩|⟨c1,c2,c3⟩
   ·rw [q3] at hk;exact absurd hk (tokK_pos s q)
   ·exact c2
  ·rcases hcases i with ⟨q,q1,q2,q3⟩|⟨c1,c2,c3⟩
   ·rw [q3]
    obtain ⟨r,_,_,_,r4⟩:=tok_text s q q1 q2
    intro e0
    rw [show (tkOf s (tokK s q,q,zb5 s q)).t=bs (s.extract q (zb5 s q)) from rfl] at e0
    rw [e0] at r4;cases r4
   ·exact absurd c1 hk
  ·rcases hcases i with ⟨q,q1,q2,q3⟩|⟨c1,c2,c3⟩
   ·rw [q3] at hk ⊢
    obtain ⟨r,_,_,r3,r4⟩:=tok_text s q q1 q2
    have hk':tokK s q=1:=hk
    rw [hk'] at r3
    exact tok_name r3 r4
   ·rw [c1] at hk;cases hk
  ·rcases hcases i with ⟨q,q1,q2,q3⟩|⟨c1,c2,c3⟩
   ·rw [q3] at hk ⊢
    obtain ⟨r,_,_,r3,r4⟩:=tok_text s q q1 q2
    have hk':tokK s q=2:=hk
    rw [hk'] at r3
    exact tok_num r3 r4
   ·rw [c1] at hk;cases hk
  ·rcases hcases i with ⟨q,q1,q2,q3⟩|⟨c1,c2,c3⟩
   ·rw [q3]
    show (bs (s.extract q (zb5 s q))).length≤20000
    obtain ⟨r,_,r2,_,_⟩:=tok_text s q q1 q2
    have:=(zc6 s q q1 q2).2
    omega
   ·rw [c2];exact Nat.zero_le _
  ·rcases hcases i with ⟨q,q1,q2,q3⟩|⟨c1,c2,c3⟩
   ·rw [q3]
    show q≤20000
    omega
   ·omega
 ·rw [e] at h;cases h
 ·rw [e] at h;exact absurd h hne
end Go.Proofs.Ytefhenfofomjhaa
