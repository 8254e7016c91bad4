/- The lexer, sixth part: the program's All. -/
import Derived.Test.YtefhenfofomjhaaGreatLx3
set_option linter.unusedSimpArgs false
set_option linter.unusedVariables false
namespace Go.Proofs.YtefhenfofomjhaaGreat
open Go.RowKit Go.V
set_option maxRecDepth 20000
def comN:List UInt8→Nat
 | []=>0
 | c::l=>if c=10 then 0 else comN l+1
def blkB (c:Int):Bool:=decide (c=32∨c=9∨c=13∨c=10)
def zcE:Bool→List UInt8→Nat
 | _,[]=>0
 | true,c::l=>if c=10 then zcE false l+1 else zcE true l+1
 | false,c::l=>if blkB c.toNat=true then zcE false l+1 else if c=35 then zcE true l+1 else 0
def sgnB (c:Int):Bool:=decide (c=40∨c=41∨c=44∨c=59∨c=47∨c=45)
theorem kind_blank (c:Int):decide (zcW c=1)=blkB c:=by
 unfold zcW blkB
 rw [decide_eq_decide]
 (repeat' split)<;>omega
theorem kind_sign (c:Int):decide (zcW c=4)=sgnB c:=by
 unfold zcW sgnB
 rw [decide_eq_decide]
 (repeat' split)<;>omega
theorem kind_colon (c:Int):decide (zcW c=5)=decide (c=58):=by
 unfold zcW
 rw [decide_eq_decide]
 (repeat' split)<;>omega
theorem kind_hash (c:Int):decide (zcW c=6)=decide (c=35):=by
 unfold zcW
 rw [decide_eq_decide]
 (repeat' split)<;>omega
theorem byte_eq (c:UInt8) (n:Nat) (h:n<256):decide (c=UInt8.ofNat n)=decide ((c.toNat:Int)=n):=by
 rw [decide_eq_decide]
 constructor
 ·intro e;subst e;simp;omega
 ·intro e
  apply UInt8.toNat_inj.1
  simp;omega
def zaF (L:Bool) (s:ByteArray) (at':Nat):Nat:=at'+endN L ((bs s).drop at')
def zd8 (s:ByteArray) (at':Nat):Nat :=
 if letB (za9 s at').toNat=true then (if 20<zaF true s at' - at' then 4 else 0)
 else if digB (za9 s at').toNat=true then (if 1<zaF false s at' - at'∧(za9 s at').toNat=48 then 5 else if 1000<zaF false s at' - at' then 4 else 0)
 else if sgnB (za9 s at').toNat=true then 0
 else if (za9 s at').toNat=58 then (if at'+1<s.size∧(za9 s (at'+1)).toNat=61 then 0 else 5)
 else 5
def zdT (s:ByteArray) (at':Nat):Nat :=
 if letB (za9 s at').toNat=true then 1 else if digB (za9 s at').toNat=true then 2 else 3
def zbt (s:ByteArray) (at':Nat):Nat :=
 if letB (za9 s at').toNat=true then zaF true s at'
 else if digB (za9 s at').toNat=true then zaF false s at'
 else if (za9 s at').toNat=58 then at'+2 else at'+1
def tokC (s:ByteArray) (t:Nat × Nat × Nat):List Value:=[.int .i64 t.1,.int .i64 t.2.1,.int .i64 t.2.2,.string (s.extract t.2.1 t.2.2)]
theorem com_step (s:ByteArray) (k:Nat):comN ((bs s).drop k)=if (decide (k<s.size) && !decide (za9 s k=10))=true then comN ((bs s).drop (k+1))+1 else 0:=by
 by_cases h:k<s.size
 ·rw [zca s k h]
  by_cases h2:za9 s k=10<;>simp [comN,h,h2]
 ·rw [drop_end s k h];simp [comN,h]
set_option maxHeartbeats 1000000 in
theorem blank_any (c:Int) (w:World) :
  Calls Tryz.prog 59 #[.int .u8 c] w fun e w'=>e = .returned (.bool (blkB c))∧w=w':=by
 go_enter Tryz.func59,Tryz.ntmps59
 go_wp2
 all_goals go_ret
 all_goals (refine ⟨ret_bool ?_,rfl⟩;unfold blkB;(try rw [Bool.eq_iff_iff]);simp;try omega)
set_option maxHeartbeats 1000000 in
theorem comment_any (s:ByteArray) (n:Nat) (w:World) (hs:s.size≤maxLen) (hn:n≤s.size) :
  Calls Tryz.prog 25 #[.string s,.int .i64 n] w fun e w'=>e = .returned (.int .i64 ↑(n+comN ((bs s).drop n)))∧w=w':=by
 unfold maxLen at hs
 refine za7 (args:=[.string s,.int .i64 n]) (rs:=[.tmp 4]) (n:=18) Tryz.func25 rfl rfl rfl (by kernel_rfl) ?_
 first|refine zzr fun K hK=>?_|refine zzt fun K hK=>?_
 simp [go_sem]
 refine hK _ _ ?_;clear hK K
 refine zac (fun K1 hK1=>?_)
 refine zae ?_
 refine zaE (fun m g w'=>w'=w∧∃ k:Nat,n≤k∧k≤s.size∧m=s.size-k∧g 0 = .string s∧g 1 = .int .i64 k∧k+comN ((bs s).drop k)=n+comN ((bs s).drop n)) (s.size-n) ?_ ?_
 ·exact ⟨rfl,n,Nat.le_refl _,hn,rfl,rfl,rfl,rfl⟩
 ·rintro m g w' ⟨rfl,k,h1,h2,rfl,g0,g1,hk⟩
  have hb10:=byte_eq (za9 s k) 10 (by omega)
  refine zac (fun K2 hK2=>?_)
  refine zei (fun g' w1=>w1=w'∧g' 0 = .string s∧g' 1 = .int .i64 k∧g' 14 = .bool (decide (k<s.size) && !decide (za9 s k=10))) (by kernel_rfl) ?_ ?_
  ·by_cases hlt:k<s.size
   ·by_cases h10:((za9 s k).toNat:Int)=10
    ·have e:za9 s k=10:=by simpa [h10] using hb10
     simp [go_sem,g0,g1,hlt,h10,e]
    ·have e:¬za9 s k=10:=by simpa [h10] using hb10
     simp [go_sem,g0,g1,hlt,h10,e]
   ·simp [go_sem,g0,g1,hlt]
  ·rintro g' w1 ⟨rfl,g0,g1,g27⟩
   refine zai g27 rfl ?_
   rw [com_step] at hk
   cases hb:(decide (k<s.size) && !decide (za9 s k=10)) with
   | true =>
    rw [hb,if_pos rfl] at hk
    have hlt:k<s.size:=by simp at hb;exact hb.1
    refine zaa (hK2 _ _ ?_);clear hK2 K2
    refine zae ?_
    refine zzt fun K hK=>?_
    simp [go_sem,g0,g1]
    refine hK _ _ ⟨s.size-(k+1),by omega,rfl,k+1,by omega,by omega,rfl,?_,?_,by omega⟩
    all_goals simp (disch:=omega) [go_sem,g0,g1,IntWalk.i64_in]
   | false =>
    rw [hb,if_neg (by simp)] at hk
    refine zaz ?_
    repeat (first|refine zag ?_|refine za8 rfl ?_|refine zab ?_)
    refine hK1 _ _ ?_;clear hK1 K1 hK2 K2
    first|refine zzr fun K hK=>?_|refine zzt fun K hK=>?_
    simp [go_sem,g0,g1]
    refine hK _ _ ?_;clear hK K
    refine zaf ⟨trivial,?_,rfl⟩
    simp [go_sem,zat,zas]
    omega
def tok0:List Value:=[.int .i64 0,.int .i64 0,.int .i64 0,.string ⟨#[]⟩]
def tokR (s:ByteArray) (at':Nat):List Value:=if zd8 s at'=0 then tokC s (zdT s at',at',zbt s at') else tok0
theorem run_bound (L:Bool) (s:ByteArray) (k:Nat) (h:k≤s.size):zaF L s k≤s.size∧k≤zaF L s k:=by
 have:=endN_le L ((bs s).drop k)
 rw [List.length_drop,zb9] at this
 unfold zaF;omega
theorem endR_any (s:ByteArray) (n:Nat) (L:Bool) (w:World) (hs:s.size≤maxLen) (hn:n≤s.size) :
  Calls Tryz.prog 48 #[.string s,.int .i64 n,.bool L] w fun e w'=>e = .returned (.int .i64 ↑(zaF L s n))∧w=w':=end_any s n L w hs hn
set_option maxHeartbeats 1000000 in
theorem token_any (s:ByteArray) (n:Nat) (w:World) (hs:s.size≤20000) (hn:n<s.size) :
  Calls Tryz.prog 26 #[.string s,.int .i64 n] w fun e w'=>e = .returned (.tuple #[.agg (tokR s n).toArray,.int .i64 (zd8 s n)])∧Below w.heap.size w w':=by
 have hs':s.size≤maxLen:=by unfold maxLen;omega
 refine za7 (args:=[.string s,.int .i64 n]) (rs:=[.cell 4 52,.tmp 5]) (n:=83) Tryz.func26 rfl rfl rfl (by kernel_rfl) ?_
 first|refine zzr fun K hK=>?_|refine zzt fun K hK=>?_
 simp [go_sem]
 refine zam (by simp [go_sem]) rfl zc0 (fun w1 b1 hE1 hle1 hB1=>?_)
 simp [go_sem]
 refine hK _ _ ?_;clear hK K
 have hX1:=hE1
 first|refine zzr fun K hK=>?_|refine zzt fun K hK=>?_
 simp [go_sem]
 refine zal #[.int .i64 0,.int .i64 n,.int .i64 (IntKind.i64.wrap (↑n+1)),.string ⟨#[]⟩] (by simp [go_sem]) rfl zcN [(1,.int .i64 n),(2,.int .i64 (IntKind.i64.wrap (↑n+1)))] (by simp [go_sem]) rfl ?_
 simp [go_sem]
 refine zam (by simp [go_sem]) rfl zc0 (fun w2 b2 hE2 hle2 hB2=>?_)
 simp [go_sem]
 have hw1:IntKind.i64.wrap (↑n+1)=(n:Int)+1:=IntWalk.i64_in _ (by omega)
 rw [hw1]
 refine za6 (b:=b2) (off:=0) [.int .i64 0,.int .i64 n,.int .i64 (↑n+1),.string ⟨#[]⟩] (by simp [go_sem,hw1]) rfl (by simp [go_sem,hw1]) (by simp [go_sem,Value.cells,hw1]) zaT hB2 (by simp) (by simp [Value.oneCell']) (by decide) (fun w3 hS3 hB3=>?_)
 simp [zaD] at hB3
 have hne:b1≠b2:=by have:=hB1.lt;omega
 have hb1:w.heap.size≤b1:=hle1
 have hX:Below w.heap.size w w3:=(hE1.next hE2).nextS hS3 (by have:=hE1.size;omega)
 have hA:Bx w3 b1 #[.int .i64 0,.int .i64 0,.int .i64 0,.string ⟨#[]⟩] 52:=(hB1.keep hE2).sto hS3 hne
 have hb2:w.heap.size≤b2:=by have:=hE1.size;omega
 clear hX1 hE1 hE2 hB1 hB2 hS3
 simp [go_sem]
 refine hK _ _ ?_;clear hK K
 have hlt':(n:Int)<s.size:=by omega
 refine zac (fun K1 hK1=>?_)
 first|refine zzr fun K hK=>?_|refine zzt fun K hK=>?_
 simp [go_sem,hlt']
 refine za5 (by simp [go_sem]) rfl Tryz.call24 (fun R hR=>?_)
 simp [go_sem]
 refine (kind_any _ _).mono ?_
 rintro e w4 ⟨rfl,rfl⟩
 refine ⟨_,rfl,hR _ _ ?_⟩
 clear hR R
 simp [go_sem]
 refine hK _ _ ?_;clear hK K
 have tail:∀ (g:G) (w5:World),Below w.heap.size w w5→Bx w5 b1 #[.int .i64 0,.int .i64 0,.int .i64 0,.string ⟨#[]⟩] 52→g 0 = .string s→g 1 = .int .i64 n→g 4 = .pointer (some ⟨b1,0,none⟩)→g 6 = .pointer (some ⟨b2,0,none⟩) →
   Bx w5 b2 #[.int .i64 (zdT s n),.int .i64 n,.int .i64 (zbt s n),.string ⟨#[]⟩] 52→zd8 s n=0→n≤zbt s n→zbt s n≤s.size→K1 g w5:=by
  intro g w5 hX hA g0 g1 g4 g6 hB he hz1 hz2
  refine hK1 _ _ ?_
  have hz1':(n:Int)≤zbt s n:=by omega
  have hz2':(zbt s n:Int)≤s.size:=by omega
  have hb:=hB.cell
  first|refine zzr fun K hK=>?_|refine zzt fun K hK=>?_
  simp [go_sem,g0,g1,g4,g6,hb,hz1',hz2']
  refine za6 (b:=b2) (off:=3) [.string (s.extract n (zbt s n))] (by simp [go_sem,g0,g1,g4,g6,hb]) rfl (by simp [go_sem,g0,g1,g4,g6,hb]) (by simp [go_sem,Value.cells,g0,g1,g4,g6,hb]) ty_size9 hB (by simp) (by simp [Value.oneCell']) (by decide) (fun w6 hS6 hB6=>?_)
  simp [zaD] at hB6
  replace hA:=hA.sto hS6 hne
  replace hX:=hX.nextS hS6 hb2
  have hb:=hB6.cell
  simp [go_sem]
  refine hK _ _ ?_;clear hK K
  first|refine zzr fun K hK=>?_|refine zzt fun K hK=>?_
  simp [go_sem,g6,hb,za4,za1]
  refine za6 (b:=b1) (off:=0) [.int .i64 (zdT s n),.int .i64 n,.int .i64 (zbt s n),.string (s.extract n (zbt s n))] (by simp [go_sem,g4]) rfl (by simp [go_sem,g4]) (by simp [go_sem,Value.cells,g4]) zaT hA (by simp) (by simp [Value.oneCell']) (by decide) (fun w7 hS7 hB7=>?_)
  simp [zaD] at hB7
  have ha:=hB7.cell
  simp [go_sem]
  refine hK _ _ ?_;clear hK K
  refine zaf ?_
  repeat (first|refine za3 ?_|refine za2 ?_)
  refine ⟨by simp [zaO,go_sem,za1,ha,g4],?_,hX.nextS hS7 hb1⟩
  simp [go_sem,zat,zas,za4,ha,g4,tokR,tokC,he]
 have bad:∀ (g:G) (w5:World) (c:Int),Below w.heap.size w w5→Bx w5 b1 #[.int .i64 0,.int .i64 0,.int .i64 0,.string ⟨#[]⟩] 52→g 4 = .pointer (some ⟨b1,0,none⟩)→g 5 = .int .i64 c→(zd8 s n:Int)=c→zd8 s n≠0 →
   fnQ Tryz.prog [.cell 4 52,.tmp 5] (fun e w'=>e = .returned (.tuple #[.agg (tokR s n).toArray,.int .i64 (zd8 s n)])∧Below w.heap.size w w') .ret g w5:=by
  intro g w5 c hX hA g4 g5 he hne0
  have ha:=hA.cell
  refine ⟨by simp [zaO,go_sem,za1,ha,g4,tok0],?_,hX⟩
  simp [go_sem,zat,zas,za4,ha,g4,g5,tokR,tok0,he,hne0]
 refine zae ?_
 first|refine zzr fun K hK=>?_|refine zzt fun K hK=>?_
 simp [go_sem]
 refine hK _ _ ?_;clear hK K
 have hkl:=zdM (za9 s n).toNat
 have hkd:=zdB (za9 s n).toNat
 have hks:=kind_sign (za9 s n).toNat
 have hkc:=kind_colon (za9 s n).toNat
 by_cases k2:zcW ↑(za9 s n).toNat=2
 ·have hlet:letB (za9 s n).toNat=true:=by rw [←hkl];simp [k2]
  obtain ⟨hr1,hr2⟩:=run_bound true s n (by omega)
  have hwz:IntKind.i64.wrap (↑(zaF true s n) - ↑n)=(zaF true s n:Int)-n:=IntWalk.i64_in _ (by omega)
  refine zai (by simp [go_sem,k2];rfl) rfl ?_
  first|refine zzr fun K hK=>?_|refine zzt fun K hK=>?_
  simp [go_sem]
  refine za5 (by simp [go_sem]) rfl Tryz.call48 (fun R hR=>?_)
  simp [go_sem]
  refine (endR_any s n true _ hs' (by omega)).mono ?_
  rintro e w5 ⟨rfl,rfl⟩
  refine ⟨_,rfl,hR _ _ ?_⟩
  clear hR R
  simp [go_sem]
  refine za6 (b:=b2) (off:=0) [.int .i64 1] (by simp [go_sem]) rfl (by simp [go_sem]) (by simp [go_sem,Value.cells]) zb2 hB3 (by simp) (by simp [Value.oneCell']) (by decide) (fun w5 hS5 hB5=>?_)
  simp [zaD] at hB5
  replace hA:=hA.sto hS5 hne
  replace hX:=hX.nextS hS5 hb2
  simp [go_sem]
  refine za6 (b:=b2) (off:=2) [.int .i64 (zaF true s n)] (by simp [go_sem]) rfl (by simp [go_sem]) (by simp [go_sem,Value.cells]) zb2 hB5 (by simp) (by simp [Value.oneCell']) (by decide) (fun w6 hS6 hB6=>?_)
  simp [zaD] at hB6
  replace hA:=hA.sto hS6 hne
  replace hX:=hX.nextS hS6 hb2
  have hb:=hB6.cell
  simp [go_sem]
  refine hK _ _ ?_;clear hK K
  first|refine zzr fun K hK=>?_|refine zzt fun K hK=>?_
  simp [go_sem,hb]
  refine hK _ _ ?_;clear hK K
  by_cases hbig:20<zaF true s n-n
  ·have hbig':(20:Int) < ↑(zaF true s n) - ↑n:=by omega
   refine zai (by simp [go_sem,hwz,hbig'];rfl) rfl ?_
   first|refine zzr fun K hK=>?_|refine zzt fun K hK=>?_
   simp [go_sem]
   refine zal #[.int .i64 0,.int .i64 0,.int .i64 0,.string ⟨#[]⟩] (by simp [go_sem]) rfl zcN [] (by simp [go_sem]) rfl ?_
   simp [go_sem]
   refine za6 (b:=b1) (off:=0) [.int .i64 0,.int .i64 0,.int .i64 0,.string ⟨#[]⟩] (by simp [go_sem]) rfl (by simp [go_sem]) (by simp [go_sem,Value.cells]) zaT hA (by simp) (by simp [Value.oneCell']) (by decide) (fun w7 hS7 hB7=>?_)
   simp [zaD] at hB7
   simp [go_sem]
   refine hK _ _ ?_;clear hK K
   refine zaf ?_
   repeat (first|refine za3 ?_|refine za2 ?_)
   exact bad _ _ 4 (hX.nextS hS7 hb1) hB7 (by simp [go_sem]) (by simp [go_sem]) (by simp [zd8,hlet,hbig]) (by simp [zd8,hlet,hbig])
  ·have hbig':¬(20:Int) < ↑(zaF true s n) - ↑n:=by omega
   refine zai (by simp [go_sem,hwz,hbig'];rfl) rfl ?_
   refine zaa ?_
   refine tail _ _ hX hA (by simp [go_sem]) (by simp [go_sem]) (by simp [go_sem]) (by simp [go_sem]) ?_ (by simp [zd8,hlet,hbig]) (by simp [zbt,hlet];omega) (by simp [zbt,hlet];omega)
   simpa [zdT,zbt,hlet] using hB6
 ·have hlet:letB (za9 s n).toNat=false:=by rw [←hkl];simp [k2]
  refine zai (by simp [go_sem,k2];rfl) rfl ?_
  first|refine zzr fun K hK=>?_|refine zzt fun K hK=>?_
  simp [go_sem]
  refine hK _ _ ?_;clear hK K
  by_cases k3:zcW ↑(za9 s n).toNat=3
  ·have hdig:digB (za9 s n).toNat=true:=by rw [←hkd];simp [k3]
   obtain ⟨hr1,hr2⟩:=run_bound false s n (by omega)
   have hwz:IntKind.i64.wrap (↑(zaF false s n) - ↑n)=(zaF false s n:Int)-n:=IntWalk.i64_in _ (by omega)
   refine zai (by simp [go_sem,k3];rfl) rfl ?_
   first|refine zzr fun K hK=>?_|refine zzt fun K hK=>?_
   simp [go_sem]
   refine za5 (by simp [go_sem]) rfl Tryz.call48 (fun R hR=>?_)
   simp [go_sem]
   refine (endR_any s n false _ hs' (by omega)).mono ?_
   rintro e w5 ⟨rfl,rfl⟩
   refine ⟨_,rfl,hR _ _ ?_⟩
   clear hR R
   simp [go_sem]
   refine za6 (b:=b2) (off:=0) [.int .i64 2] (by simp [go_sem]) rfl (by simp [go_sem]) (by simp [go_sem,Value.cells]) zb2 hB3 (by simp) (by simp [Value.oneCell']) (by decide) (fun w5 hS5 hB5=>?_)
   simp [zaD] at hB5
   replace hA:=hA.sto hS5 hne
   replace hX:=hX.nextS hS5 hb2
   simp [go_sem]
   refine za6 (b:=b2) (off:=2) [.int .i64 (zaF false s n)] (by simp [go_sem]) rfl (by simp [go_sem]) (by simp [go_sem,Value.cells]) zb2 hB5 (by simp) (by simp [Value.oneCell']) (by decide) (fun w6 hS6 hB6=>?_)
   simp [zaD] at hB6
   replace hA:=hA.sto hS6 hne
   replace hX:=hX.nextS hS6 hb2
   have hb:=hB6.cell
   simp [go_sem]
   refine hK _ _ ?_;clear hK K
   have h48:decide (za9 s n=48)=decide ((za9 s n).toNat=48):=by
    rw [decide_eq_decide]
    constructor
    ·intro e;rw [e];rfl
    ·intro e;exact UInt8.toNat_inj.1 e
   refine zac (fun K2 hK2=>?_)
   refine zei (fun g w6'=>w6'=w6∧g 0 = .string s∧g 1 = .int .i64 n∧g 4 = .pointer (some ⟨b1,0,none⟩)∧g 6 = .pointer (some ⟨b2,0,none⟩)∧g 46 = .bool (decide (1<zaF false s n-n) && decide ((za9 s n).toNat=48))) (by kernel_rfl) ?_ ?_
   ·by_cases h1:1<zaF false s n-n
    ·have h1':(1:Int) < ↑(zaF false s n) - ↑n:=by omega
     simp [go_sem,hb,hwz,h1',h1,hlt']
     omega
    ·have h1':¬(1:Int) < ↑(zaF false s n) - ↑n:=by omega
     simp [go_sem,hb,hwz,h1',h1]
   ·rintro g w6' ⟨rfl,g0,g1,g4,g6,g46⟩
    refine zai g46 rfl ?_
    cases hz:(decide (1<zaF false s n-n) && decide ((za9 s n).toNat=48)) with
    | true =>
     have he:zd8 s n=5:=by simp [zd8,hlet,hdig];simp at hz;simp [hz]
     first|refine zzr fun K hK=>?_|refine zzt fun K hK=>?_
     simp [go_sem]
     refine zal #[.int .i64 0,.int .i64 0,.int .i64 0,.string ⟨#[]⟩] (by simp [go_sem]) rfl zcN [] (by simp [go_sem]) rfl ?_
     simp [go_sem]
     refine za6 (b:=b1) (off:=0) [.int .i64 0,.int .i64 0,.int .i64 0,.string ⟨#[]⟩] (by simp [go_sem,g4]) rfl (by simp [go_sem,g4]) (by simp [go_sem,Value.cells,g4]) zaT hA (by simp) (by simp [Value.oneCell']) (by decide) (fun w7 hS7 hB7=>?_)
     simp [zaD] at hB7
     simp [go_sem]
     refine hK _ _ ?_;clear hK K
     refine zaf ?_
     repeat (first|refine za3 ?_|refine za2 ?_)
     exact bad _ _ 5 (hX.nextS hS7 hb1) hB7 (by simp [go_sem,g4]) (by simp [go_sem]) (by rw [he];rfl) (by rw [he];decide)
    | false =>
     refine zaa (hK2 _ _ ?_)
     first|refine zzr fun K hK=>?_|refine zzt fun K hK=>?_
     simp [go_sem,g1,g6,hb]
     refine hK _ _ ?_;clear hK K
     have hz':¬(1<zaF false s n-n∧(za9 s n).toNat=48):=by simp at hz;intro ⟨a,b⟩;exact hz a b
     by_cases hbig:1000<zaF false s n-n
     ·have he:zd8 s n=4:=by simp [zd8,hlet,hdig,hz',hbig]
      have hbig':(1000:Int) < ↑(zaF false s n) - ↑n:=by omega
      refine zai (by simp [go_sem,hwz,hbig'];rfl) rfl ?_
      first|refine zzr fun K hK=>?_|refine zzt fun K hK=>?_
      simp [go_sem]
      refine zal #[.int .i64 0,.int .i64 0,.int .i64 0,.string ⟨#[]⟩] (by simp [go_sem]) rfl zcN [] (by simp [go_sem]) rfl ?_
      simp [go_sem]
      refine za6 (b:=b1) (off:=0) [.int .i64 0,.int .i64 0,.int .i64 0,.string ⟨#[]⟩] (by simp [go_sem,g4]) rfl (by simp [go_sem,g4]) (by simp [go_sem,Value.cells,g4]) zaT hA (by simp) (by simp [Value.oneCell']) (by decide) (fun w7 hS7 hB7=>?_)
      simp [zaD] at hB7
      simp [go_sem]
      refine hK _ _ ?_;clear hK K
      refine zaf ?_
      repeat (first|refine za3 ?_|refine za2 ?_)
      exact bad _ _ 4 (hX.nextS hS7 hb1) hB7 (by simp [go_sem,g4]) (by simp [go_sem]) (by rw [he];rfl) (by rw [he];decide)
     ·have he:zd8 s n=0:=by simp [zd8,hlet,hdig,hz',hbig]
      have hbig':¬(1000:Int) < ↑(zaF false s n) - ↑n:=by omega
      refine zai (by simp [go_sem,hwz,hbig'];rfl) rfl ?_
      refine zaa ?_
      refine tail _ _ hX hA (by simp [go_sem,g0]) (by simp [go_sem,g1]) (by simp [go_sem,g4]) (by simp [go_sem,g6]) ?_ he (by simp [zbt,hlet,hdig];omega) (by simp [zbt,hlet,hdig];omega)
      simpa [zdT,zbt,hlet,hdig] using hB6
  ·have hdig:digB (za9 s n).toNat=false:=by rw [←hkd];simp [k3]
   refine zai (by simp [go_sem,k3];rfl) rfl ?_
   first|refine zzr fun K hK=>?_|refine zzt fun K hK=>?_
   simp [go_sem]
   refine hK _ _ ?_;clear hK K
   by_cases k4:zcW ↑(za9 s n).toNat=4
   ·have hsg:sgnB (za9 s n).toNat=true:=by rw [←hks];simp [k4]
    have h58:(za9 s n).toNat≠58:=by
     intro e
     rw [e] at k4
     exact absurd k4 (by decide)
    refine zai (by simp [go_sem,k4];rfl) rfl ?_
    refine zzt fun K hK=>?_
    simp [go_sem]
    refine za6 (b:=b2) (off:=0) [.int .i64 3] (by simp [go_sem]) rfl (by simp [go_sem]) (by simp [go_sem,Value.cells]) zb2 hB3 (by simp) (by simp [Value.oneCell']) (by decide) (fun w5 hS5 hB5=>?_)
    simp [zaD] at hB5
    replace hA:=hA.sto hS5 hne
    replace hX:=hX.nextS hS5 hb2
    simp [go_sem]
    refine hK _ _ ?_;clear hK K
    refine tail _ _ hX hA (by simp [go_sem]) (by simp [go_sem]) (by simp [go_sem]) (by simp [go_sem]) ?_ (by simp [zd8,hlet,hdig,hsg]) (by simp [zbt,hlet,hdig,h58]) (by simp [zbt,hlet,hdig,h58];omega)
    simpa [zdT,zbt,hlet,hdig,h58] using hB5
   ·have hsg:sgnB (za9 s n).toNat=false:=by rw [←hks];simp [k4]
    refine zai (by simp [go_sem,k4];rfl) rfl ?_
    first|refine zzr fun K hK=>?_|refine zzt fun K hK=>?_
    simp [go_sem]
    refine hK _ _ ?_;clear hK K
    by_cases k5:zcW ↑(za9 s n).toNat=5
    ·have h58:(za9 s n).toNat=58:=by
      have:decide (((za9 s n).toNat:Int)=58)=true:=by rw [←hkc];simp [k5]
      simp at this;omega
     have hw2:IntKind.i64.wrap (↑n+2)=(n:Int)+2:=IntWalk.i64_in _ (by omega)
     have hn2:((n:Int)+1).toNat=n+1:=by omega
     refine zai (by simp [go_sem,k5];rfl) rfl ?_
     first|refine zzr fun K hK=>?_|refine zzt fun K hK=>?_
     simp [go_sem,hw2]
     refine za6 (b:=b2) (off:=0) [.int .i64 3] (by simp [go_sem]) rfl (by simp [go_sem]) (by simp [go_sem,Value.cells]) zb2 hB3 (by simp) (by simp [Value.oneCell']) (by decide) (fun w5 hS5 hB5=>?_)
     simp [zaD] at hB5
     replace hA:=hA.sto hS5 hne
     replace hX:=hX.nextS hS5 hb2
     simp [go_sem]
     refine za6 (b:=b2) (off:=2) [.int .i64 (↑n+2)] (by simp [go_sem]) rfl (by simp [go_sem]) (by simp [go_sem,Value.cells]) zb2 hB5 (by simp) (by simp [Value.oneCell']) (by decide) (fun w6 hS6 hB6=>?_)
     simp [zaD] at hB6
     replace hA:=hA.sto hS6 hne
     replace hX:=hX.nextS hS6 hb2
     simp [go_sem]
     refine hK _ _ ?_;clear hK K
     have h61:decide (za9 s (n+1)=61)=decide ((za9 s (n+1)).toNat=61):=by
      rw [decide_eq_decide]
      constructor
      ·intro e;rw [e];rfl
      ·intro e;exact UInt8.toNat_inj.1 e
     refine zei (fun g w6'=>w6'=w6∧g 0 = .string s∧g 1 = .int .i64 n∧g 4 = .pointer (some ⟨b1,0,none⟩)∧g 6 = .pointer (some ⟨b2,0,none⟩)∧g 74 = .bool (!(decide (n+1<s.size) && decide ((za9 s (n+1)).toNat=61)))) (by kernel_rfl) ?_ ?_
     ·by_cases h1:n+1<s.size
      ·have h1':¬(s.size:Int)≤↑n+1:=by omega
       have h1'':(n:Int)+1<s.size:=by omega
       have h0':(0:Int)≤n+1:=by omega
       simp [go_sem,hw1,h1',h1,h1'',hn2,h0']
       omega
      ·have h1':(s.size:Int)≤↑n+1:=by omega
       simp [go_sem,hw1,h1',h1]
     ·rintro g w6' ⟨rfl,g0,g1,g4,g6,g74⟩
      refine zai g74 rfl ?_
      cases hz:(decide (n+1<s.size) && decide ((za9 s (n+1)).toNat=61)) with
      | false =>
       have hz':¬(n+1<s.size∧(za9 s (n+1)).toNat=61):=by simp at hz;intro ⟨a,b⟩;exact hz a b
       have he:zd8 s n=5:=by simp only [zd8,hlet,hdig,hsg,Bool.false_eq_true,if_false];rw [if_pos h58];simp [hz']
       first|refine zzr fun K hK=>?_|refine zzt fun K hK=>?_
       simp [go_sem]
       refine zal #[.int .i64 0,.int .i64 0,.int .i64 0,.string ⟨#[]⟩] (by simp [go_sem]) rfl zcN [] (by simp [go_sem]) rfl ?_
       simp [go_sem]
       refine za6 (b:=b1) (off:=0) [.int .i64 0,.int .i64 0,.int .i64 0,.string ⟨#[]⟩] (by simp [go_sem,g4]) rfl (by simp [go_sem,g4]) (by simp [go_sem,Value.cells,g4]) zaT hA (by simp) (by simp [Value.oneCell']) (by decide) (fun w7 hS7 hB7=>?_)
       simp [zaD] at hB7
       simp [go_sem]
       refine hK _ _ ?_;clear hK K
       refine zaf ?_
       repeat (first|refine za3 ?_|refine za2 ?_)
       exact bad _ _ 5 (hX.nextS hS7 hb1) hB7 (by simp [go_sem,g4]) (by simp [go_sem]) (by rw [he];rfl) (by rw [he];decide)
      | true =>
       have hz':n+1<s.size∧(za9 s (n+1)).toNat=61:=by simpa using hz
       have he:zd8 s n=0:=by simp only [zd8,hlet,hdig,hsg,Bool.false_eq_true,if_false];rw [if_pos h58];simp [hz']
       have hzz:zbt s n=n+2:=by simp only [zbt,hlet,hdig,Bool.false_eq_true,if_false];rw [if_pos h58]
       have hkk:zdT s n=3:=by simp only [zdT,hlet,hdig,Bool.false_eq_true,if_false]
       refine zaa ?_
       refine tail _ _ hX hA g0 g1 g4 g6 ?_ he (by rw [hzz];omega) (by rw [hzz];omega)
       rw [hzz,hkk];simpa using hB6
    ·have h58:¬(za9 s n).toNat=58:=by
      intro e
      rw [e] at k5
      exact absurd rfl k5
     have he:zd8 s n=5:=by simp [zd8,hlet,hdig,hsg,h58]
     refine zai (by simp [go_sem,k5];rfl) rfl ?_
     first|refine zzr fun K hK=>?_|refine zzt fun K hK=>?_
     simp [go_sem]
     refine zal #[.int .i64 0,.int .i64 0,.int .i64 0,.string ⟨#[]⟩] (by simp [go_sem]) rfl zcN [] (by simp [go_sem]) rfl ?_
     simp [go_sem]
     refine za6 (b:=b1) (off:=0) [.int .i64 0,.int .i64 0,.int .i64 0,.string ⟨#[]⟩] (by simp [go_sem]) rfl (by simp [go_sem]) (by simp [go_sem,Value.cells]) zaT hA (by simp) (by simp [Value.oneCell']) (by decide) (fun w7 hS7 hB7=>?_)
     simp [zaD] at hB7
     simp [go_sem]
     refine hK _ _ ?_;clear hK K
     refine zaf ?_
     repeat (first|refine za3 ?_|refine za2 ?_)
     exact bad _ _ 5 (hX.nextS hS7 hb1) hB7 (by simp [go_sem]) (by simp [go_sem]) (by rw [he];rfl) (by rw [he];decide)
abbrev Tk:=Nat × Nat × Nat
def nxt (s:ByteArray) (k:Nat):Nat:=k+zcE false ((bs s).drop k)
def allF (s:ByteArray):Nat→Nat→List Tk→List Tk × Nat × Nat
 | 0,_,acc=>(acc,0,0)
 | f+1,k,acc =>
  if nxt s k<s.size then (if zd8 s (nxt s k)=0 then allF s f (zbt s (nxt s k)) (acc++[(zdT s (nxt s k),nxt s k,zbt s (nxt s k))]) else ([],nxt s k,zd8 s (nxt s k)))
  else (acc++[(0,s.size,s.size)],0,0)
def allAt (s:ByteArray) (k:Nat) (acc:List Tk):List Tk × Nat × Nat:=allF s (s.size+1-k) k acc
def allR (s:ByteArray):List Tk × Nat × Nat:=if s.size≤20000 then allAt s 0 [] else ([],0,4)
theorem endN_pos (L:Bool) (s:ByteArray) (k:Nat) (h:k<s.size) (hg:goOn L (za9 s k)=true):k<zaF L s k:=by
 unfold zaF
 rw [endN_step]
 simp [h,hg]
theorem goOn_let (L:Bool) (c:UInt8) (h:letB c.toNat=true):goOn true c=true:=by rw [goOn_true,h];rfl
theorem goOn_dig (L:Bool) (c:UInt8) (h:digB c.toNat=true):goOn L c=true:=by
 unfold goOn
 rw [zdB,h];rfl
theorem zcT (s:ByteArray) (k:Nat) (h:k<s.size) (he:zd8 s k=0):k<zbt s k∧zbt s k≤s.size:=by
 unfold zd8 at he
 unfold zbt
 by_cases h1:letB (za9 s k).toNat=true
 ·rw [if_pos h1]
  exact ⟨endN_pos true s k h (goOn_let true _ h1),(run_bound true s k (by omega)).1⟩
 ·rw [if_neg h1] at he ⊢
  by_cases h2:digB (za9 s k).toNat=true
  ·rw [if_pos h2]
   exact ⟨endN_pos false s k h (goOn_dig false _ h2),(run_bound false s k (by omega)).1⟩
  ·rw [if_neg h2] at he ⊢
   by_cases h58:(za9 s k).toNat=58
   ·have hs:¬sgnB (za9 s k).toNat=true:=by rw [h58];decide
    rw [if_neg hs,if_pos h58] at he
    rw [if_pos h58]
    by_cases h3:k+1<s.size∧(za9 s (k+1)).toNat=61
    ·omega
    ·rw [if_neg h3] at he;cases he
   ·rw [if_neg h58];omega
theorem skip_le:∀ (b:Bool) (l:List UInt8),zcE b l≤l.length
 | _,[]=>by simp [zcE]
 | true,c::l=>by
  have h1:=skip_le true l
  have h2:=skip_le false l
  unfold zcE
  split<;>simp<;>omega
 | false,c::l=>by
  have h1:=skip_le true l
  have h2:=skip_le false l
  unfold zcE
  repeat' split
  all_goals simp
  all_goals omega
theorem nxt_bound (s:ByteArray) (k:Nat) (h:k≤s.size):k≤nxt s k∧nxt s k≤s.size:=by
 have:=skip_le false ((bs s).drop k)
 rw [List.length_drop,zb9] at this
 unfold nxt;omega
theorem allF_fuel (s:ByteArray):∀ (f f' k:Nat) (acc:List Tk),k≤s.size→s.size<k+f→s.size<k+f'→allF s f k acc=allF s f' k acc
 | 0,_,k,acc,h,h1,_=>by omega
 | f+1,0,k,acc,h,_,h2=>by omega
 | f+1,f'+1,k,acc,h,h1,h2=>by
  obtain ⟨n1,n2⟩:=nxt_bound s k h
  unfold allF
  split
  ·rename_i hp
   split
   ·rename_i he
    obtain ⟨t1,t2⟩:=zcT s _ hp he
    exact allF_fuel s f f' _ _ t2 (by omega) (by omega)
   ·rfl
  ·rfl
theorem zeg (s:ByteArray) (k:Nat) (acc:List Tk) (h:k≤s.size):allAt s k acc =
  if nxt s k<s.size then (if zd8 s (nxt s k)=0 then allAt s (zbt s (nxt s k)) (acc++[(zdT s (nxt s k),nxt s k,zbt s (nxt s k))]) else ([],nxt s k,zd8 s (nxt s k)))
  else (acc++[(0,s.size,s.size)],0,0):=by
 obtain ⟨n1,n2⟩:=nxt_bound s k h
 unfold allAt
 have e:s.size+1-k=(s.size-k)+1:=by omega
 rw [e]
 conv=>lhs;unfold allF
 split
 ·rename_i hp
  split
  ·rename_i he
   obtain ⟨t1,t2⟩:=zcT s _ hp he
   exact allF_fuel s _ _ _ _ t2 (by omega) (by omega)
  ·rfl
 ·rfl
theorem allAt_skip (s:ByteArray) (k k':Nat) (acc:List Tk) (h:k≤s.size) (h':k'≤s.size) (hn:nxt s k=nxt s k'):allAt s k acc=allAt s k' acc:=by
 rw [zeg s k acc h,zeg s k' acc h',hn]
theorem nxt_blank (s:ByteArray) (k:Nat) (h:k<s.size) (hb:blkB (za9 s k).toNat=true):nxt s k=nxt s (k+1):=by
 unfold nxt
 rw [zca s k h,zcE,if_pos hb];omega
theorem skip_com (l:List UInt8):zcE true l=comN l+zcE false (l.drop (comN l)):=by
 induction l with
 | nil=>rfl
 | cons c l ih =>
  unfold comN
  by_cases h:c=10
  ·subst h
   rw [if_pos rfl]
   simp [zcE,blkB]
  ·rw [if_neg h,zcE,if_neg h,List.drop_succ_cons,ih];omega
theorem nxt_hash (s:ByteArray) (k:Nat) (h:k<s.size) (hb:za9 s k=35):nxt s k=nxt s (k+comN ((bs s).drop k))∧k<k+comN ((bs s).drop k)∧k+comN ((bs s).drop k)≤s.size:=by
 have hc:comN ((bs s).drop k)=comN ((bs s).drop (k+1))+1:=by rw [com_step];simp [h,hb]
 have hcl:∀ l:List UInt8,comN l≤l.length:=by
  intro l
  induction l with
  | nil=>simp [comN]
  | cons c l ih=>unfold comN;split<;>simp<;>omega
 have hl:=hcl ((bs s).drop k)
 rw [List.length_drop,zb9] at hl
 refine ⟨?_,by omega,by omega⟩
 unfold nxt
 rw [hc]
 have e1:zcE false ((bs s).drop k)=zcE true ((bs s).drop (k+1))+1:=by
  rw [zca s k h,hb]
  rfl
 rw [e1,skip_com,List.drop_drop]
 have e2:k+1+comN ((bs s).drop (k+1))=k+(comN ((bs s).drop (k+1))+1):=by omega
 rw [e2];omega
theorem nxt_here (s:ByteArray) (k:Nat) (h:k<s.size) (hb:blkB (za9 s k).toNat=false) (hh:za9 s k≠35):nxt s k=k:=by
 unfold nxt
 rw [zca s k h,zcE,if_neg (by rw [hb];decide),if_neg hh];omega
theorem nxt_end (s:ByteArray) (k:Nat) (h:¬k<s.size):nxt s k=k:=by
 unfold nxt
 rw [drop_end s k h];rfl
theorem bs_extract (s:ByteArray) (a b:Nat):bs (s.extract a b)=((bs s).drop a).take (b-a):=by
 unfold bs
 rw [ByteArray.data_extract]
 simp [List.extract_eq_take_drop]
theorem extract_nil (s:ByteArray) (a:Nat):s.extract a a=⟨#[]⟩:=by
 apply bs_inj
 rw [bs_extract]
 simp [bs]
def tksC (s:ByteArray) (l:List Tk):List Value:=l.flatMap (tokC s)
theorem tksC_app (s:ByteArray) (l:List Tk) (t:Tk):tksC s (l++[t])=tksC s l++tokC s t:=by simp [tksC]
theorem zaS {w w':World} {B e size n:Nat} {v:Value} {xs:List Value} (h:w.ownsRow B e size v n xs) (hb:Below w.heap.size w w'):w'.ownsRow B e size v n xs:=by
 refine ⟨h.1,?_⟩
 rcases h.2 with hn|⟨g,cap,cur,hv,hg,hh,r⟩
 ·exact .inl hn
 ·exact .inr ⟨g,cap,cur,hv,hg,by rw [hb.block g (Array.getElem?_eq_some_iff.1 hh).1];exact hh,r⟩
theorem zeh {w w':World} {B e size n b:Nat} {v:Value} {xs:List Value} (h:w.ownsRow B e size v n xs) (hs:Sto w w' b) (hne:v.ownBlock≠some b):w'.ownsRow B e size v n xs:=by
 refine ⟨h.1,?_⟩
 rcases h.2 with hn|⟨g,cap,cur,hv,hg,hh,r⟩
 ·exact .inl hn
 ·refine .inr ⟨g,cap,cur,hv,hg,?_,r⟩
  have:g≠b:=fun e=>hne (by rw [hv,e];rfl)
  rw [hs.block g this];exact hh
theorem zcB {w:World} {B e size n:Nat} {v:Value} {xs:List Value} (h:w.ownsRow B e size v n xs):∃ a c,v = .slice a n c:=by
 rcases h.2 with ⟨h1,h2⟩|⟨g,cap,cur,hv,_⟩
 ·subst h2;exact ⟨none,0,h1⟩
 ·exact ⟨_,_,hv⟩
theorem tokR_len (s:ByteArray) (k:Nat):(tokR s k).length=4:=by unfold tokR;split<;>rfl
theorem tokR_one (s:ByteArray) (k:Nat):∀ v∈tokR s k,v.oneCell'=true:=by
 intro v hv
 unfold tokR at hv
 split at hv
 ·simp [tokC] at hv;rcases hv with rfl|rfl|rfl|rfl<;>rfl
 ·simp [tok0] at hv;rcases hv with rfl|rfl<;>rfl
theorem putC_all (c:Array Value) (vs:List Value) (h:c.size=vs.length):zaD c 0 vs=vs.toArray:=by
 rw [←putC_toList vs c 0 (by omega)]
 have:c.toList.drop vs.length=[]:=List.drop_eq_nil_of_le (by simp;omega)
 simp [this]
def AllPost (s:ByteArray) (w:World) (e:Ending) (w':World):Prop :=
 ∃ a c,e = .returned (.tuple #[.slice a (allR s).1.length c,.int .i64 (allR s).2.1,.int .i64 (allR s).2.2])∧SL w' a (tksC s (allR s).1)∧Below w.heap.size w w'
set_option maxHeartbeats 1000000 in
theorem all_any (s:ByteArray) (w:World) (hs:s.size≤maxLen) :
  Calls Tryz.prog 11 #[.string s] w (AllPost s w):=by
 refine za7 (args:=[.string s]) (rs:=[.tmp 2,.tmp 3,.tmp 4]) (n:=51) Tryz.func11 rfl rfl rfl (by kernel_rfl) ?_
 first|refine zzr fun K hK=>?_|refine zzt fun K hK=>?_
 simp [go_sem]
 refine hK _ _ ?_;clear hK K
 refine zac (fun K1 hK1=>?_)
 first|refine zzr fun K hK=>?_|refine zzt fun K hK=>?_
 simp [go_sem]
 refine hK _ _ ?_;clear hK K
 by_cases hbig:s.size≤20000
 ·have hbig':¬(20000:Int)<s.size:=by omega
  have hR:allR s=allAt s 0 []:=by unfold allR;rw [if_pos hbig]
  refine zai (by simp [go_sem,hbig'];rfl) rfl ?_
  refine zaa ?_
  refine hK1 _ _ ?_;clear hK1 K1
  refine zac (fun K1 hK1=>?_)
  refine zae ?_
  refine zaE (fun m g w'=>Below w.heap.size w w'∧∃ (k:Nat) (v:Value) (acc:List Tk),k≤s.size∧m=s.size-k∧g 0 = .string s∧g 2=v∧g 3 = .int .i64 k∧w'.ownsRow w.heap.size 52 4 v acc.length (tksC s acc)∧acc.length≤k∧allAt s k acc=allAt s 0 []) s.size ?_ ?_
  ·exact ⟨Below.refl _ _,0,.slice none 0 0,[],Nat.zero_le _,rfl,rfl,rfl,rfl,World.ownsRow_nil _ _ _ _,Nat.le_refl _,rfl⟩
  ·rintro m g w' ⟨hE,k,v,acc,hk,rfl,g0,g2,g3,hown,hacc,hall⟩
   refine zac (fun K2 hK2=>?_)
   first|refine zzr fun K hK=>?_|refine zzt fun K hK=>?_
   simp [go_sem,g0,g3]
   refine hK _ _ ?_;clear hK K
   by_cases hlt:k<s.size
   ·have hlt':(k:Int)<s.size:=by omega
    have hw1:IntKind.i64.wrap (↑k+1)=(k:Int)+1:=IntWalk.i64_in _ (by omega)
    refine zai (by simp [go_sem,hlt,hlt'];rfl) rfl ?_
    refine zaa ?_
    refine hK2 _ _ ?_;clear hK2 K2
    refine zae ?_
    refine zac (fun K3 hK3=>?_)
    first|refine zzr fun K hK=>?_|refine zzt fun K hK=>?_
    simp [go_sem,g0,g3,hlt',hw1]
    refine za5 (by simp [go_sem]) rfl Tryz.call24 (fun R hR=>?_)
    simp [go_sem]
    refine (kind_any _ _).mono ?_
    rintro e w4 ⟨rfl,rfl⟩
    refine ⟨_,rfl,hR _ _ ?_⟩
    clear hR R
    simp [go_sem]
    refine hK _ _ ?_;clear hK K
    refine zae ?_
    first|refine zzr fun K hK=>?_|refine zzt fun K hK=>?_
    simp [go_sem]
    refine hK _ _ ?_;clear hK K
    have hkb:=kind_blank (za9 s k).toNat
    have hkh:=kind_hash (za9 s k).toNat
    by_cases k1:zcW ↑(za9 s k).toNat=1
    ·have hblk:blkB (za9 s k).toNat=true:=by rw [←hkb];simp [k1]
     refine zai (by simp [go_sem,k1];rfl) rfl ?_
     first|refine zzr fun K hK=>?_|refine zzt fun K hK=>?_
     simp [go_sem,g3,hw1]
     refine hK _ _ ?_;clear hK K
     refine zaz ?_
     repeat (first|refine zag ?_|refine za8 rfl ?_|refine zab ?_)
     refine ⟨s.size-(k+1),by omega,hE,k+1,v,acc,by omega,rfl,by simp [go_sem,g0],by simp [go_sem,g2],by simp [go_sem],hown,by omega,?_⟩
     rw [←hall]
     exact (allAt_skip s k (k+1) acc hk (by omega) (nxt_blank s k hlt hblk)).symm
    ·have hblk:blkB (za9 s k).toNat=false:=by rw [←hkb];simp [k1]
     refine zai (by simp [go_sem,k1];rfl) rfl ?_
     first|refine zzr fun K hK=>?_|refine zzt fun K hK=>?_
     simp [go_sem]
     refine hK _ _ ?_;clear hK K
     by_cases k6:zcW ↑(za9 s k).toNat=6
     ·have h35:za9 s k=35:=by
       have:decide (((za9 s k).toNat:Int)=35)=true:=by rw [←hkh];simp [k6]
       apply UInt8.toNat_inj.1
       simp at this;simp;omega
      obtain ⟨hn1,hn2,hn3⟩:=nxt_hash s k hlt h35
      refine zai (by simp [go_sem,k6];rfl) rfl ?_
      first|refine zzr fun K hK=>?_|refine zzt fun K hK=>?_
      simp [go_sem,g0,g3]
      refine za5 (by simp [go_sem]) rfl Tryz.call25 (fun R hR=>?_)
      simp [go_sem]
      refine (comment_any s k _ hs hk).mono ?_
      rintro e w5 ⟨rfl,rfl⟩
      refine ⟨_,rfl,hR _ _ ?_⟩
      clear hR R
      simp [go_sem]
      refine hK _ _ ?_;clear hK K
      refine zaz ?_
      repeat (first|refine zag ?_|refine za8 rfl ?_|refine zab ?_)
      refine ⟨s.size-(k+comN ((bs s).drop k)),by omega,hE,k+comN ((bs s).drop k),v,acc,by omega,rfl,by simp [go_sem,g0],by simp [go_sem,g2],by simp [go_sem],hown,by omega,?_⟩
      rw [←hall]
      exact (allAt_skip s k _ acc hk hn3 hn1).symm
     ·have h35:za9 s k≠35:=by
       intro e
       rw [e] at k6
       exact absurd rfl k6
      have hnx:=nxt_here s k hlt hblk h35
      have hae:=zeg s k acc hk
      rw [hnx,if_pos hlt,hall] at hae
      refine zai (by simp [go_sem,k6];rfl) rfl ?_
      refine zaa ?_
      refine hK3 _ _ ?_;clear hK3 K3
      first|refine zzr fun K hK=>?_|refine zzt fun K hK=>?_
      simp [go_sem,g0,g3]
      refine za5 (by simp [go_sem]) rfl Tryz.call26 (fun R hR=>?_)
      simp [go_sem]
      refine (token_any s k _ hbig hlt).mono ?_
      rintro e w5 ⟨rfl,hE5⟩
      refine ⟨_,rfl,hR _ _ ?_⟩
      clear hR R
      have hown5:w5.ownsRow w.heap.size 52 4 v acc.length (tksC s acc):=zaS hown hE5
      replace hE:=hE.next hE5
      simp [go_sem]
      refine zam (by simp [go_sem]) rfl zc0 (fun w6 b6 hE6 hle6 hB6=>?_)
      simp [go_sem]
      refine za6 (b:=b6) (off:=0) (tokR s k) (by simp [go_sem]) rfl (by simp [go_sem]) (by simp [go_sem,Value.cells]) (by rw [tokR_len];exact zaT) hB6 (by rw [tokR_len];simp) (tokR_one s k) (by decide) (fun w7 hS7 hB7=>?_)
      rw [putC_all _ _ (by simp [tokR_len])] at hB7
      have hb6:w.heap.size≤b6:=by have:=hE.size;omega
      have hne:v.ownBlock≠some b6:=fun e=>by have:=(hown5.lt b6 e).2;omega
      have hown7:w7.ownsRow w.heap.size 52 4 v acc.length (tksC s acc):=zeh (zaS hown5 hE6) hS7 hne
      replace hE:=(hE.next hE6).nextS hS7 hb6
      clear hown hown5 hE5 hE6 hS7 hB6
      simp [go_sem]
      refine hK _ _ ?_;clear hK K
      refine zac (fun K2 hK2=>?_)
      first|refine zzr fun K hK=>?_|refine zzt fun K hK=>?_
      simp [go_sem]
      refine hK _ _ ?_;clear hK K
      by_cases he:zd8 s k=0
      ·have he':(zd8 s k:Int)=0:=by omega
       rw [if_pos he] at hae
       obtain ⟨ht1,ht2⟩:=zcT s k hlt he
       have e1:tokR s k=[.int .i64 (zdT s k),.int .i64 k,.int .i64 (zbt s k),.string (s.extract k (zbt s k))]:=by simp [tokR,he,tokC]
       rw [e1] at hB7
       have hb:=hB7.cell
       refine zai (by simp [go_sem,he,he'];rfl) rfl ?_
       refine zaa ?_
       refine hK2 _ _ ?_;clear hK2 K2
       first|refine zzr fun K hK=>?_|refine zzt fun K hK=>?_
       simp [go_sem,g2,hb,za4,za1]
       refine zaq #[.int .i64 (zdT s k),.int .i64 k,.int .i64 (zbt s k),.string (s.extract k (zbt s k))] (by simp [go_sem]) rfl zdp (by decide) [(0,.agg #[.int .i64 (zdT s k),.int .i64 k,.int .i64 (zbt s k),.string (s.extract k (zbt s k))])] (by simp [go_sem]) (by kernel_rfl) (fun w8 b8 hE8 hle8 hB8=>?_)
       have hown8:w8.ownsRow w.heap.size 52 4 v acc.length (tksC s acc):=zaS hown7 hE8
       replace hB7:=hB7.keep hE8
       replace hE:=hE.next hE8
       clear hown7 hE8
       simp [go_sem]
       refine zbz (v:=v) (b:=b8) (len:=1) (c:=1) hB8 (by simp [go_sem]) rfl zdp ty_bytes52 rfl (by decide) (by simp [go_sem,g2]) (by simp [go_sem]) hown8 rfl (by simp [Value.oneCell']) (by unfold maxLen;omega) (by omega) hE.size (by decide) (fun v' w9 hown9 hg9 _=>?_)
       replace hB7:=hB7.grown hg9 (fun e=>hne e.symm)
       replace hE:=hE.nextG hg9 (fun b e=>(hown8.lt b e).1)
       have hb:=hB7.cell
       have hown10:w9.ownsRow w.heap.size 52 4 v' (acc++[(zdT s k,k,zbt s k)]).length (tksC s (acc++[(zdT s k,k,zbt s k)])):=by
        rw [tksC_app,List.length_append];exact hown9
       simp [go_sem]
       refine hK _ _ ?_;clear hK K
       refine zzt fun K hK=>?_
       simp [go_sem,hb]
       refine hK _ _ ⟨s.size-zbt s k,by omega,hE,zbt s k,v',acc++[(zdT s k,k,zbt s k)],ht2,rfl,by simp [go_sem,g0],by simp [go_sem],by simp [go_sem],hown10,by simp;omega,hae.symm⟩
      ·have he':¬(zd8 s k:Int)=0:=by omega
       rw [if_neg he] at hae
       have hR':allR s=([],k,zd8 s k):=by rw [hR,hae]
       refine zai (by simp [go_sem,he,he'];rfl) rfl ?_
       first|refine zzr fun K hK=>?_|refine zzt fun K hK=>?_
       simp [go_sem,g3]
       refine hK _ _ ?_;clear hK K
       refine zaf ?_
       repeat (first|refine za3 ?_|refine za2 ?_)
       refine ⟨trivial,none,0,?_,by rw [hR'];exact SL.nil _ _,hE⟩
       simp [go_sem,zat,zas,hR']
   ·have hk':k=s.size:=by omega
    have hae:=zeg s k acc hk
    rw [nxt_end s k hlt,if_neg hlt,hall] at hae
    have hR':allR s=(acc++[(0,s.size,s.size)],0,0):=by rw [hR,hae]
    refine zai (by simp [go_sem,hlt];rfl) rfl ?_
    refine zaz ?_
    repeat (first|refine zag ?_|refine za8 rfl ?_|refine zab ?_)
    refine hK1 _ _ ?_;clear hK1 K1 hK2 K2
    first|refine zzr fun K hK=>?_|refine zzt fun K hK=>?_
    simp [go_sem,g0,g2]
    refine zal #[.int .i64 0,.int .i64 s.size,.int .i64 s.size,.string ⟨#[]⟩] (by simp [go_sem]) rfl zcN [(0,.int .i64 0),(1,.int .i64 s.size),(2,.int .i64 s.size)] (by simp [go_sem]) rfl ?_
    simp [go_sem]
    refine zaq #[.int .i64 0,.int .i64 s.size,.int .i64 s.size,.string ⟨#[]⟩] (by simp [go_sem]) rfl zdp (by decide) [(0,.agg #[.int .i64 0,.int .i64 s.size,.int .i64 s.size,.string ⟨#[]⟩])] (by simp [go_sem]) (by kernel_rfl) (fun w8 b8 hE8 hle8 hB8=>?_)
    have hown8:w8.ownsRow w.heap.size 52 4 v acc.length (tksC s acc):=zaS hown hE8
    replace hE:=hE.next hE8
    simp [go_sem]
    refine zbz (v:=v) (b:=b8) (len:=1) (c:=1) hB8 (by simp [go_sem]) rfl zdp ty_bytes52 rfl (by decide) (by simp [go_sem,g2]) (by simp [go_sem]) hown8 rfl (by simp [Value.oneCell']) (by unfold maxLen;omega) (by omega) hE.size (by decide) (fun v' w9 hown9 hg9 _=>?_)
    replace hE:=hE.nextG hg9 (fun b e=>(hown8.lt b e).1)
    simp [go_sem]
    refine hK _ _ ?_;clear hK K
    obtain ⟨a,c,rfl⟩:=zcB hown9
    refine zaf ?_
    repeat (first|refine za3 ?_|refine za2 ?_)
    refine ⟨trivial,a,c,?_,?_,hE⟩
    ·simp [go_sem,zat,zas,hR']
    ·rw [hR']
     show SL _ a (tksC s (acc++[(0,s.size,s.size)]))
     rw [tksC_app]
     have e2:tokC s (0,s.size,s.size)=[.int .i64 0,.int .i64 s.size,.int .i64 s.size,.string ⟨#[]⟩]:=by
      simp only [tokC,extract_nil]
      first|rfl|skip
     rw [e2]
     exact zdz hown9
 ·have hbig':(20000:Int)<s.size:=by omega
  have hR:allR s=([],0,4):=by unfold allR;rw [if_neg hbig]
  refine zai (by simp [go_sem,hbig'];rfl) rfl ?_
  first|refine zzr fun K hK=>?_|refine zzt fun K hK=>?_
  simp [go_sem]
  refine hK _ _ ?_;clear hK K
  refine zaf ?_
  repeat (first|refine za3 ?_|refine za2 ?_)
  refine ⟨trivial,none,0,?_,by rw [hR];exact SL.nil _ _,Below.refl _ _⟩
  simp [go_sem,zat,zas,hR]
end Go.Proofs.YtefhenfofomjhaaGreat
