/- ast: the parameters of a kind. -/
import Derived.Test.YtefhenfofomjhaaGreatLx3
import Derived.Test.YtefhenfofomjhaaGreatRa6
set_option linter.unusedSimpArgs false
set_option linter.unusedVariables false
set_option maxHeartbeats 2000000
set_option maxRecDepth 20000
namespace Go.Proofs.YtefhenfofomjhaaGreat
open Go.RowKit Go.V
def comN:List UInt8→Nat
 | []=>0
 | c::l=>if c=10 then 0 else comN l+1
def blkB (c:Int):Bool:=decide (c=32∨c=9∨c=13∨c=10)
def zcN:Bool→List UInt8→Nat
 | _,[]=>0
 | true,c::l=>if c=10 then zcN false l+1 else zcN true l+1
 | false,c::l=>if blkB c.toNat=true then zcN false l+1 else if c=35 then zcN true l+1 else 0
def sgnB (c:Int):Bool:=decide (c=40∨c=41∨c=44∨c=59∨c=47∨c=45)
theorem kind_blank (c:Int):decide (zdg c=1)=blkB c:=by
 unfold zdg blkB
 rw [decide_eq_decide]
 (repeat' split)<;>omega
theorem kind_sign (c:Int):decide (zdg c=4)=sgnB c:=by
 unfold zdg sgnB
 rw [decide_eq_decide]
 (repeat' split)<;>omega
theorem kind_colon (c:Int):decide (zdg c=5)=decide (c=58):=by
 unfold zdg
 rw [decide_eq_decide]
 (repeat' split)<;>omega
theorem kind_hash (c:Int):decide (zdg c=6)=decide (c=35):=by
 unfold zdg
 rw [decide_eq_decide]
 (repeat' split)<;>omega
theorem byte_eq (c:UInt8) (n:Nat) (h:n<256):decide (c=UInt8.ofNat n)=decide ((c.toNat:Int)=n):=by
 rw [decide_eq_decide]
 constructor
 ·intro e;subst e;simp;omega
 ·intro e
  apply UInt8.toNat_inj.1
  simp;omega
def zaE (L:Bool) (s:ByteArray) (at':Nat):Nat:=at'+endN L ((bs s).drop at')
def zdw (s:ByteArray) (at':Nat):Nat :=
 if letB (za9 s at').toNat=true then (if 20<zaE true s at' - at' then 4 else 0)
 else if digB (za9 s at').toNat=true then (if 1<zaE false s at' - at'∧(za9 s at').toNat=48 then 5 else if 1000<zaE false s at' - at' then 4 else 0)
 else if sgnB (za9 s at').toNat=true then 0
 else if (za9 s at').toNat=58 then (if at'+1<s.size∧(za9 s (at'+1)).toNat=61 then 0 else 5)
 else 5
def zeh (s:ByteArray) (at':Nat):Nat :=
 if letB (za9 s at').toNat=true then 1 else if digB (za9 s at').toNat=true then 2 else 3
def zbt (s:ByteArray) (at':Nat):Nat :=
 if letB (za9 s at').toNat=true then zaE true s at'
 else if digB (za9 s at').toNat=true then zaE false s at'
 else if (za9 s at').toNat=58 then at'+2 else at'+1
def tokC (s:ByteArray) (t:Nat × Nat × Nat):List Value:=[.int .i64 t.1,.int .i64 t.2.1,.int .i64 t.2.2,.string (s.extract t.2.1 t.2.2)]
theorem com_step (s:ByteArray) (k:Nat):comN ((bs s).drop k)=if (decide (k<s.size) && !decide (za9 s k=10))=true then comN ((bs s).drop (k+1))+1 else 0:=by
 by_cases h:k<s.size
 ·rw [zco s k h]
  by_cases h2:za9 s k=10<;>simp [comN,h,h2]
 ·rw [drop_end s k h];simp [comN,h]
theorem blank_any (c:Int) (w:World) :
  Calls Tryz.prog 59 #[.int .u8 c] w fun e w'=>e = .returned (.bool (blkB c))∧w=w':=by
 go_enter Tryz.func59,Tryz.ntmps59
 go_wp2
 all_goals go_ret
 all_goals (refine ⟨ret_bool ?_,rfl⟩;unfold blkB;(try rw [Bool.eq_iff_iff]);simp;try omega)
theorem comment_any (s:ByteArray) (n:Nat) (w:World) (hs:s.size≤maxLen) (hn:n≤s.size) :
  Calls Tryz.prog 25 #[.string s,.int .i64 n] w fun e w'=>e = .returned (.int .i64 ↑(n+comN ((bs s).drop n)))∧w=w':=by
 unfold maxLen at hs
 refine za5 (rs:=[.tmp 4]) (n:=18) Tryz.func25 rfl rfl rfl (by kernel_rfl) ?_
 refine zzr fun K hK=>?_
 simp [go_sem]
 apply hK;clear hK K
 refine zab (fun K1 hK1=>?_)
 refine zac ?_
 refine zaz (fun m g w'=>w'=w∧∃ k:Nat,n≤k∧k≤s.size∧m=s.size-k∧g 0 = .string s∧g 1 = .int .i64 k∧k+comN ((bs s).drop k)=n+comN ((bs s).drop n)) (s.size-n) ?_ ?_
 ·exact ⟨rfl,n,Nat.le_refl _,hn,rfl,rfl,rfl,rfl⟩
 ·rintro m g w' ⟨rfl,k,h1,h2,rfl,g0,g1,hk⟩
  have hb10:=byte_eq (za9 s k) 10 (by omega)
  refine zab (fun K2 hK2=>?_)
  refine zeH (fun g' w1=>w1=w'∧g' 0 = .string s∧g' 1 = .int .i64 k∧g' 14 = .bool (decide (k<s.size) && !decide (za9 s k=10))) (by kernel_rfl) ?_ ?_
  ·by_cases hlt:k<s.size
   ·by_cases h10:((za9 s k).toNat:Int)=10
    ·have e:za9 s k=10:=by simpa [h10] using hb10
     simp [go_sem,g0,g1,hlt,h10,e]
    ·have e:¬za9 s k=10:=by simpa [h10] using hb10
     simp [go_sem,g0,g1,hlt,h10,e]
   ·simp [go_sem,g0,g1,hlt]
  ·rintro g' w1 ⟨rfl,g0,g1,g27⟩
   refine zaf g27 rfl ?_
   rw [com_step] at hk
   cases hb:(decide (k<s.size) && !decide (za9 s k=10)) with
   | true =>
    rw [hb,if_pos rfl] at hk
    have hlt:k<s.size:=by simp at hb;exact hb.1
    refine za7 (hK2 _ _ ?_);clear hK2 K2
    refine zac ?_
    refine zzt fun K hK=>?_
    simp [go_sem,g0,g1]
    refine hK _ _ ⟨s.size-(k+1),by omega,rfl,k+1,by omega,by omega,rfl,?_,?_,by omega⟩
    all_goals simp (disch:=omega) [go_sem,g0,g1,IntWalk.i64_in]
   | false =>
    rw [hb,if_neg (by simp)] at hk
    refine zav ?_
    repeat (first|refine zae ?_|refine za6 rfl ?_|refine za8 ?_)
    apply hK1;clear hK1 K1 hK2 K2
    refine zzr fun K hK=>?_
    simp [go_sem,g0,g1]
    apply hK;clear hK K
    refine zad ⟨trivial,?_,rfl⟩
    simp [go_sem,zar,zam]
    omega
def tok0:List Value:=[.int .i64 0,.int .i64 0,.int .i64 0,.string ⟨#[]⟩]
def tokR (s:ByteArray) (at':Nat):List Value:=if zdw s at'=0 then tokC s (zeh s at',at',zbt s at') else tok0
theorem run_bound (L:Bool) (s:ByteArray) (k:Nat) (h:k≤s.size):zaE L s k≤s.size∧k≤zaE L s k:=by
 have:=endN_le L ((bs s).drop k)
 rw [List.length_drop,zb7] at this
 unfold zaE;omega
theorem endR_any (s:ByteArray) (n:Nat) (L:Bool) (w:World) (hs:s.size≤maxLen) (hn:n≤s.size) :
  Calls Tryz.prog 48 #[.string s,.int .i64 n,.bool L] w fun e w'=>e = .returned (.int .i64 ↑(zaE L s n))∧w=w':=end_any s n L w hs hn
theorem token_any (s:ByteArray) (n:Nat) (w:World) (hs:s.size≤20000) (hn:n<s.size) :
  Calls Tryz.prog 26 #[.string s,.int .i64 n] w fun e w'=>e = .returned (.tuple #[.agg (tokR s n).toArray,.int .i64 (zdw s n)])∧Below w.heap.size w w':=by
 have hs':s.size≤maxLen:=by unfold maxLen;omega
 refine za5 (rs:=[.cell 4 52,.tmp 5]) (n:=83) Tryz.func26 rfl rfl rfl (by kernel_rfl) ?_
 refine zzr fun K hK=>?_
 simp [go_sem]
 refine zza rfl zcb (fun w1 b1 hE1 hle1 hB1=>?_)
 simp [go_sem]
 apply hK;clear hK K
 have hX1:=hE1
 refine zzr fun K hK=>?_
 simp [go_sem]
 refine zal #[.int .i64 0,.int .i64 n,.int .i64 (IntKind.i64.wrap (↑n+1)),.string ⟨#[]⟩] (by simp [go_sem]) rfl zd3 [(1,.int .i64 n),(2,.int .i64 (IntKind.i64.wrap (↑n+1)))] (by simp [go_sem]) rfl ?_
 simp [go_sem]
 refine zza rfl zcb (fun w2 b2 hE2 hle2 hB2=>?_)
 simp [go_sem]
 have hw1:IntKind.i64.wrap (↑n+1)=(n:Int)+1:=IntWalk.i64_in _ (by omega)
 rw [hw1]
 refine zzs (b:=b2) (off:=0) [.int .i64 0,.int .i64 n,.int .i64 (↑n+1),.string ⟨#[]⟩] rfl zaR hB2 (fun w3 hS3 hB3=>?_) (by simp [go_sem,Value.cells,hw1])
 simp [zaw] at hB3
 have hne:b1≠b2:=by have:=hB1.lt;omega
 have hb1:w.heap.size≤b1:=hle1
 have hX:Below w.heap.size w w3:=(hE1.next hE2).nextS hS3 (by have:=hE1.size;omega)
 have hA:Bx w3 b1 #[.int .i64 0,.int .i64 0,.int .i64 0,.string ⟨#[]⟩] 52:=(hB1.keep hE2).sto hS3 hne
 have hb2:w.heap.size≤b2:=by have:=hE1.size;omega
 clear hX1 hE1 hE2 hB1 hB2 hS3
 simp [go_sem]
 apply hK;clear hK K
 have hlt':(n:Int)<s.size:=by omega
 refine zab (fun K1 hK1=>?_)
 refine zzr fun K hK=>?_
 simp [go_sem,hlt']
 refine zzc rfl Tryz.call24 (fun R hR=>?_)
 simp [go_sem]
 refine (kind_any _ _).mono ?_
 rintro e w4 ⟨rfl,rfl⟩
 refine ⟨_,rfl,hR _ _ ?_⟩
 clear hR R
 simp [go_sem]
 apply hK;clear hK K
 have tail:∀ (g:G) (w5:World),Below w.heap.size w w5→Bx w5 b1 #[.int .i64 0,.int .i64 0,.int .i64 0,.string ⟨#[]⟩] 52→g 0 = .string s→g 1 = .int .i64 n→g 4 = .pointer (some ⟨b1,0,none⟩)→g 6 = .pointer (some ⟨b2,0,none⟩) →
   Bx w5 b2 #[.int .i64 (zeh s n),.int .i64 n,.int .i64 (zbt s n),.string ⟨#[]⟩] 52→zdw s n=0→n≤zbt s n→zbt s n≤s.size→K1 g w5:=by
  intro g w5 hX hA g0 g1 g4 g6 hB he hz1 hz2
  apply hK1
  have hz1':(n:Int)≤zbt s n:=by omega
  have hz2':(zbt s n:Int)≤s.size:=by omega
  have hb:=hB.cell
  refine zzr fun K hK=>?_
  simp [go_sem,g0,g1,g4,g6,hb,hz1',hz2']
  refine zzs (b:=b2) (off:=3) [.string (s.extract n (zbt s n))] rfl ty_size9 hB (fun w6 hS6 hB6=>?_) (by simp [go_sem,Value.cells,g0,g1,g4,g6,hb])
  simp [zaw] at hB6
  replace hA:=hA.sto hS6 hne
  replace hX:=hX.nextS hS6 hb2
  have hb:=hB6.cell
  simp [go_sem]
  apply hK;clear hK K
  refine zzr fun K hK=>?_
  simp [go_sem,g6,hb,za4,za1]
  refine zzs (b:=b1) (off:=0) [.int .i64 (zeh s n),.int .i64 n,.int .i64 (zbt s n),.string (s.extract n (zbt s n))] rfl zaR hA (fun w7 hS7 hB7=>?_) (by simp [go_sem,Value.cells,g4])
  simp [zaw] at hB7
  have ha:=hB7.cell
  simp [go_sem]
  apply hK;clear hK K
  refine zad ?_
  repeat first|refine za3 ?_|refine za2 ?_
  refine ⟨by simp [zaD,go_sem,za1,ha,g4],?_,hX.nextS hS7 hb1⟩
  simp [go_sem,zar,zam,za4,ha,g4,tokR,tokC,he]
 have bad:∀ (g:G) (w5:World) (c:Int),Below w.heap.size w w5→Bx w5 b1 #[.int .i64 0,.int .i64 0,.int .i64 0,.string ⟨#[]⟩] 52→g 4 = .pointer (some ⟨b1,0,none⟩)→g 5 = .int .i64 c→(zdw s n:Int)=c→zdw s n≠0 →
   fnQ Tryz.prog [.cell 4 52,.tmp 5] (fun e w'=>e = .returned (.tuple #[.agg (tokR s n).toArray,.int .i64 (zdw s n)])∧Below w.heap.size w w') .ret g w5:=by
  intro g w5 c hX hA g4 g5 he hne0
  have ha:=hA.cell
  refine ⟨by simp [zaD,go_sem,za1,ha,g4,tok0],?_,hX⟩
  simp [go_sem,zar,zam,za4,ha,g4,g5,tokR,tok0,he,hne0]
 refine zac ?_
 refine zzr fun K hK=>?_
 simp [go_sem]
 apply hK;clear hK K
 have hkl:=zeb (za9 s n).toNat
 have hkd:=ze1 (za9 s n).toNat
 have hks:=kind_sign (za9 s n).toNat
 have hkc:=kind_colon (za9 s n).toNat
 by_cases k2:zdg ↑(za9 s n).toNat=2
 ·have hlet:letB (za9 s n).toNat=true:=by rw [←hkl];simp [k2]
  obtain ⟨hr1,hr2⟩:=run_bound true s n (by omega)
  have hwz:IntKind.i64.wrap (↑(zaE true s n) - ↑n)=(zaE true s n:Int)-n:=IntWalk.i64_in _ (by omega)
  refine zaf (by simp [go_sem,k2];rfl) rfl ?_
  refine zzr fun K hK=>?_
  simp [go_sem]
  refine zzc rfl Tryz.call48 (fun R hR=>?_)
  simp [go_sem]
  refine (endR_any s n true _ hs' (by omega)).mono ?_
  rintro e w5 ⟨rfl,rfl⟩
  refine ⟨_,rfl,hR _ _ ?_⟩
  clear hR R
  simp [go_sem]
  refine zzs (b:=b2) (off:=0) [.int .i64 1] rfl zaQ hB3 (fun w5 hS5 hB5=>?_) (by simp [go_sem,Value.cells])
  simp [zaw] at hB5
  replace hA:=hA.sto hS5 hne
  replace hX:=hX.nextS hS5 hb2
  simp [go_sem]
  refine zzs (b:=b2) (off:=2) [.int .i64 (zaE true s n)] rfl zaQ hB5 (fun w6 hS6 hB6=>?_) (by simp [go_sem,Value.cells])
  simp [zaw] at hB6
  replace hA:=hA.sto hS6 hne
  replace hX:=hX.nextS hS6 hb2
  have hb:=hB6.cell
  simp [go_sem]
  apply hK;clear hK K
  refine zzr fun K hK=>?_
  simp [go_sem,hb]
  apply hK;clear hK K
  by_cases hbig:20<zaE true s n-n
  ·have hbig':(20:Int) < ↑(zaE true s n) - ↑n:=by omega
   refine zaf (by simp [go_sem,hwz,hbig'];rfl) rfl ?_
   refine zzr fun K hK=>?_
   simp [go_sem]
   refine zal #[.int .i64 0,.int .i64 0,.int .i64 0,.string ⟨#[]⟩] (by simp [go_sem]) rfl zd3 [] (by simp [go_sem]) rfl ?_
   simp [go_sem]
   refine zzs (b:=b1) (off:=0) [.int .i64 0,.int .i64 0,.int .i64 0,.string ⟨#[]⟩] rfl zaR hA (fun w7 hS7 hB7=>?_) (by simp [go_sem,Value.cells])
   simp [zaw] at hB7
   simp [go_sem]
   apply hK;clear hK K
   refine zad ?_
   repeat first|refine za3 ?_|refine za2 ?_
   exact bad _ _ 4 (hX.nextS hS7 hb1) hB7 (by simp [go_sem]) (by simp [go_sem]) (by simp [zdw,hlet,hbig]) (by simp [zdw,hlet,hbig])
  ·have hbig':¬(20:Int) < ↑(zaE true s n) - ↑n:=by omega
   refine zaf (by simp [go_sem,hwz,hbig'];rfl) rfl ?_
   refine za7 ?_
   refine tail _ _ hX hA (by simp [go_sem]) (by simp [go_sem]) (by simp [go_sem]) (by simp [go_sem]) ?_ (by simp [zdw,hlet,hbig]) (by simp [zbt,hlet];omega) (by simp [zbt,hlet];omega)
   simpa [zeh,zbt,hlet] using hB6
 ·have hlet:letB (za9 s n).toNat=false:=by rw [←hkl];simp [k2]
  refine zaf (by simp [go_sem,k2];rfl) rfl ?_
  refine zzr fun K hK=>?_
  simp [go_sem]
  apply hK;clear hK K
  by_cases k3:zdg ↑(za9 s n).toNat=3
  ·have hdig:digB (za9 s n).toNat=true:=by rw [←hkd];simp [k3]
   obtain ⟨hr1,hr2⟩:=run_bound false s n (by omega)
   have hwz:IntKind.i64.wrap (↑(zaE false s n) - ↑n)=(zaE false s n:Int)-n:=IntWalk.i64_in _ (by omega)
   refine zaf (by simp [go_sem,k3];rfl) rfl ?_
   refine zzr fun K hK=>?_
   simp [go_sem]
   refine zzc rfl Tryz.call48 (fun R hR=>?_)
   simp [go_sem]
   refine (endR_any s n false _ hs' (by omega)).mono ?_
   rintro e w5 ⟨rfl,rfl⟩
   refine ⟨_,rfl,hR _ _ ?_⟩
   clear hR R
   simp [go_sem]
   refine zzs (b:=b2) (off:=0) [.int .i64 2] rfl zaQ hB3 (fun w5 hS5 hB5=>?_) (by simp [go_sem,Value.cells])
   simp [zaw] at hB5
   replace hA:=hA.sto hS5 hne
   replace hX:=hX.nextS hS5 hb2
   simp [go_sem]
   refine zzs (b:=b2) (off:=2) [.int .i64 (zaE false s n)] rfl zaQ hB5 (fun w6 hS6 hB6=>?_) (by simp [go_sem,Value.cells])
   simp [zaw] at hB6
   replace hA:=hA.sto hS6 hne
   replace hX:=hX.nextS hS6 hb2
   have hb:=hB6.cell
   simp [go_sem]
   apply hK;clear hK K
   have h48:decide (za9 s n=48)=decide ((za9 s n).toNat=48):=by
    rw [decide_eq_decide]
    constructor
    ·intro e;rw [e];rfl
    ·intro e;exact UInt8.toNat_inj.1 e
   refine zab (fun K2 hK2=>?_)
   refine zeH (fun g w6'=>w6'=w6∧g 0 = .string s∧g 1 = .int .i64 n∧g 4 = .pointer (some ⟨b1,0,none⟩)∧g 6 = .pointer (some ⟨b2,0,none⟩)∧g 46 = .bool (decide (1<zaE false s n-n) && decide ((za9 s n).toNat=48))) (by kernel_rfl) ?_ ?_
   ·by_cases h1:1<zaE false s n-n
    ·have h1':(1:Int) < ↑(zaE false s n) - ↑n:=by omega
     simp [go_sem,hb,hwz,h1',h1,hlt']
     omega
    ·have h1':¬(1:Int) < ↑(zaE false s n) - ↑n:=by omega
     simp [go_sem,hb,hwz,h1',h1]
   ·rintro g w6' ⟨rfl,g0,g1,g4,g6,g46⟩
    refine zaf g46 rfl ?_
    cases hz:(decide (1<zaE false s n-n) && decide ((za9 s n).toNat=48)) with
    | true =>
     have he:zdw s n=5:=by simp [zdw,hlet,hdig];simp at hz;simp [hz]
     refine zzr fun K hK=>?_
     simp [go_sem]
     refine zal #[.int .i64 0,.int .i64 0,.int .i64 0,.string ⟨#[]⟩] (by simp [go_sem]) rfl zd3 [] (by simp [go_sem]) rfl ?_
     simp [go_sem]
     refine zzs (b:=b1) (off:=0) [.int .i64 0,.int .i64 0,.int .i64 0,.string ⟨#[]⟩] rfl zaR hA (fun w7 hS7 hB7=>?_) (by simp [go_sem,Value.cells,g4])
     simp [zaw] at hB7
     simp [go_sem]
     apply hK;clear hK K
     refine zad ?_
     repeat first|refine za3 ?_|refine za2 ?_
     exact bad _ _ 5 (hX.nextS hS7 hb1) hB7 (by simp [go_sem,g4]) (by simp [go_sem]) (by rw [he];rfl) (by rw [he];decide)
    | false =>
     refine za7 (hK2 _ _ ?_)
     refine zzr fun K hK=>?_
     simp [go_sem,g1,g6,hb]
     apply hK;clear hK K
     have hz':¬(1<zaE false s n-n∧(za9 s n).toNat=48):=by simp at hz;intro ⟨a,b⟩;exact hz a b
     by_cases hbig:1000<zaE false s n-n
     ·have he:zdw s n=4:=by simp [zdw,hlet,hdig,hz',hbig]
      have hbig':(1000:Int) < ↑(zaE false s n) - ↑n:=by omega
      refine zaf (by simp [go_sem,hwz,hbig'];rfl) rfl ?_
      refine zzr fun K hK=>?_
      simp [go_sem]
      refine zal #[.int .i64 0,.int .i64 0,.int .i64 0,.string ⟨#[]⟩] (by simp [go_sem]) rfl zd3 [] (by simp [go_sem]) rfl ?_
      simp [go_sem]
      refine zzs (b:=b1) (off:=0) [.int .i64 0,.int .i64 0,.int .i64 0,.string ⟨#[]⟩] rfl zaR hA (fun w7 hS7 hB7=>?_) (by simp [go_sem,Value.cells,g4])
      simp [zaw] at hB7
      simp [go_sem]
      apply hK;clear hK K
      refine zad ?_
      repeat first|refine za3 ?_|refine za2 ?_
      exact bad _ _ 4 (hX.nextS hS7 hb1) hB7 (by simp [go_sem,g4]) (by simp [go_sem]) (by rw [he];rfl) (by rw [he];decide)
     ·have he:zdw s n=0:=by simp [zdw,hlet,hdig,hz',hbig]
      have hbig':¬(1000:Int) < ↑(zaE false s n) - ↑n:=by omega
      refine zaf (by simp [go_sem,hwz,hbig'];rfl) rfl ?_
      refine za7 ?_
      refine tail _ _ hX hA (by simp [go_sem,g0]) (by simp [go_sem,g1]) (by simp [go_sem,g4]) (by simp [go_sem,g6]) ?_ he (by simp [zbt,hlet,hdig];omega) (by simp [zbt,hlet,hdig];omega)
      simpa [zeh,zbt,hlet,hdig] using hB6
  ·have hdig:digB (za9 s n).toNat=false:=by rw [←hkd];simp [k3]
   refine zaf (by simp [go_sem,k3];rfl) rfl ?_
   refine zzr fun K hK=>?_
   simp [go_sem]
   apply hK;clear hK K
   by_cases k4:zdg ↑(za9 s n).toNat=4
   ·have hsg:sgnB (za9 s n).toNat=true:=by rw [←hks];simp [k4]
    have h58:(za9 s n).toNat≠58:=by
     intro e
     rw [e] at k4
     exact absurd k4 (by decide)
    refine zaf (by simp [go_sem,k4];rfl) rfl ?_
    refine zzt fun K hK=>?_
    simp [go_sem]
    refine zzs (b:=b2) (off:=0) [.int .i64 3] rfl zaQ hB3 (fun w5 hS5 hB5=>?_) (by simp [go_sem,Value.cells])
    simp [zaw] at hB5
    replace hA:=hA.sto hS5 hne
    replace hX:=hX.nextS hS5 hb2
    simp [go_sem]
    apply hK;clear hK K
    refine tail _ _ hX hA (by simp [go_sem]) (by simp [go_sem]) (by simp [go_sem]) (by simp [go_sem]) ?_ (by simp [zdw,hlet,hdig,hsg]) (by simp [zbt,hlet,hdig,h58]) (by simp [zbt,hlet,hdig,h58];omega)
    simpa [zeh,zbt,hlet,hdig,h58] using hB5
   ·have hsg:sgnB (za9 s n).toNat=false:=by rw [←hks];simp [k4]
    refine zaf (by simp [go_sem,k4];rfl) rfl ?_
    refine zzr fun K hK=>?_
    simp [go_sem]
    apply hK;clear hK K
    by_cases k5:zdg ↑(za9 s n).toNat=5
    ·have h58:(za9 s n).toNat=58:=by
      have:decide (((za9 s n).toNat:Int)=58)=true:=by rw [←hkc];simp [k5]
      simp at this;omega
     have hw2:IntKind.i64.wrap (↑n+2)=(n:Int)+2:=IntWalk.i64_in _ (by omega)
     have hn2:((n:Int)+1).toNat=n+1:=by omega
     refine zaf (by simp [go_sem,k5];rfl) rfl ?_
     refine zzr fun K hK=>?_
     simp [go_sem,hw2]
     refine zzs (b:=b2) (off:=0) [.int .i64 3] rfl zaQ hB3 (fun w5 hS5 hB5=>?_) (by simp [go_sem,Value.cells])
     simp [zaw] at hB5
     replace hA:=hA.sto hS5 hne
     replace hX:=hX.nextS hS5 hb2
     simp [go_sem]
     refine zzs (b:=b2) (off:=2) [.int .i64 (↑n+2)] rfl zaQ hB5 (fun w6 hS6 hB6=>?_) (by simp [go_sem,Value.cells])
     simp [zaw] at hB6
     replace hA:=hA.sto hS6 hne
     replace hX:=hX.nextS hS6 hb2
     simp [go_sem]
     apply hK;clear hK K
     have h61:decide (za9 s (n+1)=61)=decide ((za9 s (n+1)).toNat=61):=by
      rw [decide_eq_decide]
      constructor
      ·intro e;rw [e];rfl
      ·intro e;exact UInt8.toNat_inj.1 e
     refine zeH (fun g w6'=>w6'=w6∧g 0 = .string s∧g 1 = .int .i64 n∧g 4 = .pointer (some ⟨b1,0,none⟩)∧g 6 = .pointer (some ⟨b2,0,none⟩)∧g 74 = .bool (!(decide (n+1<s.size) && decide ((za9 s (n+1)).toNat=61)))) (by kernel_rfl) ?_ ?_
     ·by_cases h1:n+1<s.size
      ·have h1':¬(s.size:Int)≤↑n+1:=by omega
       have h1'':(n:Int)+1<s.size:=by omega
       have h0':(0:Int)≤n+1:=by omega
       simp [go_sem,hw1,h1',h1,h1'',hn2,h0']
       omega
      ·have h1':(s.size:Int)≤↑n+1:=by omega
       simp [go_sem,hw1,h1',h1]
     ·rintro g w6' ⟨rfl,g0,g1,g4,g6,g74⟩
      refine zaf g74 rfl ?_
      cases hz:(decide (n+1<s.size) && decide ((za9 s (n+1)).toNat=61)) with
      | false =>
       have hz':¬(n+1<s.size∧(za9 s (n+1)).toNat=61):=by simp at hz;intro ⟨a,b⟩;exact hz a b
       have he:zdw s n=5:=by simp only [zdw,hlet,hdig,hsg,Bool.false_eq_true,if_false];rw [if_pos h58];simp [hz']
       refine zzr fun K hK=>?_
       simp [go_sem]
       refine zal #[.int .i64 0,.int .i64 0,.int .i64 0,.string ⟨#[]⟩] (by simp [go_sem]) rfl zd3 [] (by simp [go_sem]) rfl ?_
       simp [go_sem]
       refine zzs (b:=b1) (off:=0) [.int .i64 0,.int .i64 0,.int .i64 0,.string ⟨#[]⟩] rfl zaR hA (fun w7 hS7 hB7=>?_) (by simp [go_sem,Value.cells,g4])
       simp [zaw] at hB7
       simp [go_sem]
       apply hK;clear hK K
       refine zad ?_
       repeat first|refine za3 ?_|refine za2 ?_
       exact bad _ _ 5 (hX.nextS hS7 hb1) hB7 (by simp [go_sem,g4]) (by simp [go_sem]) (by rw [he];rfl) (by rw [he];decide)
      | true =>
       have hz':n+1<s.size∧(za9 s (n+1)).toNat=61:=by simpa using hz
       have he:zdw s n=0:=by simp only [zdw,hlet,hdig,hsg,Bool.false_eq_true,if_false];rw [if_pos h58];simp [hz']
       have hzz:zbt s n=n+2:=by simp only [zbt,hlet,hdig,Bool.false_eq_true,if_false];rw [if_pos h58]
       have hkk:zeh s n=3:=by simp only [zeh,hlet,hdig,Bool.false_eq_true,if_false]
       refine za7 ?_
       refine tail _ _ hX hA g0 g1 g4 g6 ?_ he (by rw [hzz];omega) (by rw [hzz];omega)
       rw [hzz,hkk];simpa using hB6
    ·have h58:¬(za9 s n).toNat=58:=by
      intro e
      rw [e] at k5
      exact absurd rfl k5
     have he:zdw s n=5:=by simp [zdw,hlet,hdig,hsg,h58]
     refine zaf (by simp [go_sem,k5];rfl) rfl ?_
     refine zzr fun K hK=>?_
     simp [go_sem]
     refine zal #[.int .i64 0,.int .i64 0,.int .i64 0,.string ⟨#[]⟩] (by simp [go_sem]) rfl zd3 [] (by simp [go_sem]) rfl ?_
     simp [go_sem]
     refine zzs (b:=b1) (off:=0) [.int .i64 0,.int .i64 0,.int .i64 0,.string ⟨#[]⟩] rfl zaR hA (fun w7 hS7 hB7=>?_) (by simp [go_sem,Value.cells])
     simp [zaw] at hB7
     simp [go_sem]
     apply hK;clear hK K
     refine zad ?_
     repeat first|refine za3 ?_|refine za2 ?_
     exact bad _ _ 5 (hX.nextS hS7 hb1) hB7 (by simp [go_sem]) (by simp [go_sem]) (by rw [he];rfl) (by rw [he];decide)
abbrev Tk:=Nat × Nat × Nat
def nxt (s:ByteArray) (k:Nat):Nat:=k+zcN false ((bs s).drop k)
def allF (s:ByteArray):Nat→Nat→List Tk→List Tk × Nat × Nat
 | 0,_,acc=>(acc,0,0)
 | f+1,k,acc =>
  if nxt s k<s.size then (if zdw s (nxt s k)=0 then allF s f (zbt s (nxt s k)) (acc++[(zeh s (nxt s k),nxt s k,zbt s (nxt s k))]) else ([],nxt s k,zdw s (nxt s k)))
  else (acc++[(0,s.size,s.size)],0,0)
def allAt (s:ByteArray) (k:Nat) (acc:List Tk):List Tk × Nat × Nat:=allF s (s.size+1-k) k acc
def allR (s:ByteArray):List Tk × Nat × Nat:=if s.size≤20000 then allAt s 0 [] else ([],0,4)
theorem endN_pos (L:Bool) (s:ByteArray) (k:Nat) (h:k<s.size) (hg:goOn L (za9 s k)=true):k<zaE L s k:=by
 unfold zaE
 rw [endN_step]
 simp [h,hg]
theorem goOn_let (L:Bool) (c:UInt8) (h:letB c.toNat=true):goOn true c=true:=by rw [goOn_true,h];rfl
theorem goOn_dig (L:Bool) (c:UInt8) (h:digB c.toNat=true):goOn L c=true:=by
 unfold goOn
 rw [ze1,h];rfl
theorem zdb (s:ByteArray) (k:Nat) (h:k<s.size) (he:zdw s k=0):k<zbt s k∧zbt s k≤s.size:=by
 unfold zdw at he
 unfold zbt
 by_cases h1:letB (za9 s k).toNat=true
 ·rw [if_pos h1]
  exact ⟨endN_pos true s k h (goOn_let true _ h1),(run_bound true s k (by omega)).1⟩
 ·rw [if_neg h1] at he ⊢
  by_cases h2:digB (za9 s k).toNat=true
  ·rw [if_pos h2]
   exact ⟨endN_pos false s k h (goOn_dig false _ h2),(run_bound false s k (by omega)).1⟩
  ·rw [if_neg h2] at he ⊢
   by_cases h58:(za9 s k).toNat=58
   ·have hs:¬sgnB (za9 s k).toNat=true:=by rw [h58];decide
    rw [if_neg hs,if_pos h58] at he
    rw [if_pos h58]
    by_cases h3:k+1<s.size∧(za9 s (k+1)).toNat=61
    ·omega
    ·rw [if_neg h3] at he;cases he
   ·rw [if_neg h58];omega
theorem skip_le:∀ (b:Bool) (l:List UInt8),zcN b l≤l.length
 | _,[]=>by simp [zcN]
 | true,c::l=>by
  have h1:=skip_le true l
  have h2:=skip_le false l
  unfold zcN
  split<;>simp<;>omega
 | false,c::l=>by
  have h1:=skip_le true l
  have h2:=skip_le false l
  unfold zcN
  repeat' split
  all_goals simp
  all_goals omega
theorem nxt_bound (s:ByteArray) (k:Nat) (h:k≤s.size):k≤nxt s k∧nxt s k≤s.size:=by
 have:=skip_le false ((bs s).drop k)
 rw [List.length_drop,zb7] at this
 unfold nxt;omega
theorem allF_fuel (s:ByteArray):∀ (f f' k:Nat) (acc:List Tk),k≤s.size→s.size<k+f→s.size<k+f'→allF s f k acc=allF s f' k acc
 | 0,_,k,acc,h,h1,_=>by omega
 | f+1,0,k,acc,h,_,h2=>by omega
 | f+1,f'+1,k,acc,h,h1,h2=>by
  obtain ⟨n1,n2⟩:=nxt_bound s k h
  unfold allF
  split
  ·rename_i hp
   split
   ·rename_i he
    obtain ⟨t1,t2⟩:=zdb s _ hp he
    exact allF_fuel s f f' _ _ t2 (by omega) (by omega)
   ·rfl
  ·rfl
theorem zeG (s:ByteArray) (k:Nat) (acc:List Tk) (h:k≤s.size):allAt s k acc =
  if nxt s k<s.size then (if zdw s (nxt s k)=0 then allAt s (zbt s (nxt s k)) (acc++[(zeh s (nxt s k),nxt s k,zbt s (nxt s k))]) else ([],nxt s k,zdw s (nxt s k)))
  else (acc++[(0,s.size,s.size)],0,0):=by
 obtain ⟨n1,n2⟩:=nxt_bound s k h
 unfold allAt
 have e:s.size+1-k=(s.size-k)+1:=by omega
 rw [e]
 conv=>lhs;unfold allF
 split
 ·rename_i hp
  split
  ·rename_i he
   obtain ⟨t1,t2⟩:=zdb s _ hp he
   exact allF_fuel s _ _ _ _ t2 (by omega) (by omega)
  ·rfl
 ·rfl
theorem allAt_skip (s:ByteArray) (k k':Nat) (acc:List Tk) (h:k≤s.size) (h':k'≤s.size) (hn:nxt s k=nxt s k'):allAt s k acc=allAt s k' acc:=by
 rw [zeG s k acc h,zeG s k' acc h',hn]
theorem nxt_blank (s:ByteArray) (k:Nat) (h:k<s.size) (hb:blkB (za9 s k).toNat=true):nxt s k=nxt s (k+1):=by
 unfold nxt
 rw [zco s k h,zcN,if_pos hb];omega
theorem skip_com (l:List UInt8):zcN true l=comN l+zcN false (l.drop (comN l)):=by
 induction l with
 | nil=>rfl
 | cons c l ih =>
  unfold comN
  by_cases h:c=10
  ·subst h
   rw [if_pos rfl]
   simp [zcN,blkB]
  ·rw [if_neg h,zcN,if_neg h,List.drop_succ_cons,ih];omega
theorem nxt_hash (s:ByteArray) (k:Nat) (h:k<s.size) (hb:za9 s k=35):nxt s k=nxt s (k+comN ((bs s).drop k))∧k<k+comN ((bs s).drop k)∧k+comN ((bs s).drop k)≤s.size:=by
 have hc:comN ((bs s).drop k)=comN ((bs s).drop (k+1))+1:=by rw [com_step];simp [h,hb]
 have hcl:∀ l:List UInt8,comN l≤l.length:=by
  intro l
  induction l with
  | nil=>simp [comN]
  | cons c l ih=>unfold comN;split<;>simp<;>omega
 have hl:=hcl ((bs s).drop k)
 rw [List.length_drop,zb7] at hl
 refine ⟨?_,by omega,by omega⟩
 unfold nxt
 rw [hc]
 have e1:zcN false ((bs s).drop k)=zcN true ((bs s).drop (k+1))+1:=by
  rw [zco s k h,hb]
  rfl
 rw [e1,skip_com,List.drop_drop]
 have e2:k+1+comN ((bs s).drop (k+1))=k+(comN ((bs s).drop (k+1))+1):=by omega
 rw [e2];omega
theorem nxt_here (s:ByteArray) (k:Nat) (h:k<s.size) (hb:blkB (za9 s k).toNat=false) (hh:za9 s k≠35):nxt s k=k:=by
 unfold nxt
 rw [zco s k h,zcN,if_neg (by rw [hb];decide),if_neg hh];omega
theorem nxt_end (s:ByteArray) (k:Nat) (h:¬k<s.size):nxt s k=k:=by
 unfold nxt
 rw [drop_end s k h];rfl
theorem bs_extract (s:ByteArray) (a b:Nat):bs (s.extract a b)=((bs s).drop a).take (b-a):=by
 unfold bs
 rw [ByteArray.data_extract]
 simp [List.extract_eq_take_drop]
theorem extract_nil (s:ByteArray) (a:Nat):s.extract a a=⟨#[]⟩:=by
 apply bs_inj
 rw [bs_extract]
 simp [bs]
def tksC (s:ByteArray) (l:List Tk):List Value:=l.flatMap (tokC s)
theorem tksC_app (s:ByteArray) (l:List Tk) (t:Tk):tksC s (l++[t])=tksC s l++tokC s t:=by simp [tksC]
theorem zas {w w':World} {B e size n:Nat} {v:Value} {xs:List Value} (h:w.ownsRow B e size v n xs) (hb:Below w.heap.size w w'):w'.ownsRow B e size v n xs:=by
 refine ⟨h.1,?_⟩
 rcases h.2 with hn|⟨g,cap,cur,hv,hg,hh,r⟩
 ·exact .inl hn
 ·exact .inr ⟨g,cap,cur,hv,hg,by rw [hb.block g (Array.getElem?_eq_some_iff.1 hh).1];exact hh,r⟩
theorem zdV {w w':World} {B e size n b:Nat} {v:Value} {xs:List Value} (h:w.ownsRow B e size v n xs) (hs:Sto w w' b) (hne:v.ownBlock≠some b):w'.ownsRow B e size v n xs:=by
 refine ⟨h.1,?_⟩
 rcases h.2 with hn|⟨g,cap,cur,hv,hg,hh,r⟩
 ·exact .inl hn
 ·refine .inr ⟨g,cap,cur,hv,hg,?_,r⟩
  have:g≠b:=fun e=>hne (by rw [hv,e];rfl)
  rw [hs.block g this];exact hh
theorem zbf {w:World} {B e size n:Nat} {v:Value} {xs:List Value} (h:w.ownsRow B e size v n xs):∃ a c,v = .slice a n c:=by
 rcases h.2 with ⟨h1,h2⟩|⟨g,cap,cur,hv,_⟩
 ·subst h2;exact ⟨none,0,h1⟩
 ·exact ⟨_,_,hv⟩
theorem tokR_len (s:ByteArray) (k:Nat):(tokR s k).length=4:=by unfold tokR;split<;>rfl
theorem tokR_one (s:ByteArray) (k:Nat):∀ v∈tokR s k,v.oneCell'=true:=by
 intro v hv
 unfold tokR at hv
 split at hv
 ·simp [tokC] at hv;rcases hv with rfl|rfl|rfl|rfl<;>rfl
 ·simp [tok0] at hv;rcases hv with rfl|rfl<;>rfl
theorem putC_all (c:Array Value) (vs:List Value) (h:c.size=vs.length):zaw c 0 vs=vs.toArray:=by
 rw [←putC_toList vs c 0 (by omega)]
 have:c.toList.drop vs.length=[]:=List.drop_eq_nil_of_le (by simp;omega)
 simp [this]
def AllPost (s:ByteArray) (w:World) (e:Ending) (w':World):Prop :=
 ∃ a c,e = .returned (.tuple #[.slice a (allR s).1.length c,.int .i64 (allR s).2.1,.int .i64 (allR s).2.2])∧SL w' a (tksC s (allR s).1)∧Below w.heap.size w w'
theorem all_any (s:ByteArray) (w:World) (hs:s.size≤maxLen) :
  Calls Tryz.prog 11 #[.string s] w (AllPost s w):=by
 refine za5 (rs:=[.tmp 2,.tmp 3,.tmp 4]) (n:=51) Tryz.func11 rfl rfl rfl (by kernel_rfl) ?_
 refine zzr fun K hK=>?_
 simp [go_sem]
 apply hK;clear hK K
 refine zab (fun K1 hK1=>?_)
 refine zzr fun K hK=>?_
 simp [go_sem]
 apply hK;clear hK K
 by_cases hbig:s.size≤20000
 ·have hbig':¬(20000:Int)<s.size:=by omega
  have hR:allR s=allAt s 0 []:=by unfold allR;rw [if_pos hbig]
  refine zaf (by simp [go_sem,hbig'];rfl) rfl ?_
  refine za7 ?_
  apply hK1;clear hK1 K1
  refine zab (fun K1 hK1=>?_)
  refine zac ?_
  refine zaz (fun m g w'=>Below w.heap.size w w'∧∃ (k:Nat) (v:Value) (acc:List Tk),k≤s.size∧m=s.size-k∧g 0 = .string s∧g 2=v∧g 3 = .int .i64 k∧w'.ownsRow w.heap.size 52 4 v acc.length (tksC s acc)∧acc.length≤k∧allAt s k acc=allAt s 0 []) s.size ?_ ?_
  ·exact ⟨Below.refl _ _,0,.slice none 0 0,[],Nat.zero_le _,rfl,rfl,rfl,rfl,World.ownsRow_nil _ _ _ _,Nat.le_refl _,rfl⟩
  ·rintro m g w' ⟨hE,k,v,acc,hk,rfl,g0,g2,g3,hown,hacc,hall⟩
   refine zab (fun K2 hK2=>?_)
   refine zzr fun K hK=>?_
   simp [go_sem,g0,g3]
   apply hK;clear hK K
   by_cases hlt:k<s.size
   ·have hlt':(k:Int)<s.size:=by omega
    have hw1:IntKind.i64.wrap (↑k+1)=(k:Int)+1:=IntWalk.i64_in _ (by omega)
    refine zaf (by simp [go_sem,hlt,hlt'];rfl) rfl ?_
    refine za7 ?_
    apply hK2;clear hK2 K2
    refine zac ?_
    refine zab (fun K3 hK3=>?_)
    refine zzr fun K hK=>?_
    simp [go_sem,g0,g3,hlt',hw1]
    refine zzc rfl Tryz.call24 (fun R hR=>?_)
    simp [go_sem]
    refine (kind_any _ _).mono ?_
    rintro e w4 ⟨rfl,rfl⟩
    refine ⟨_,rfl,hR _ _ ?_⟩
    clear hR R
    simp [go_sem]
    apply hK;clear hK K
    refine zac ?_
    refine zzr fun K hK=>?_
    simp [go_sem]
    apply hK;clear hK K
    have hkb:=kind_blank (za9 s k).toNat
    have hkh:=kind_hash (za9 s k).toNat
    by_cases k1:zdg ↑(za9 s k).toNat=1
    ·have hblk:blkB (za9 s k).toNat=true:=by rw [←hkb];simp [k1]
     refine zaf (by simp [go_sem,k1];rfl) rfl ?_
     refine zzr fun K hK=>?_
     simp [go_sem,g3,hw1]
     apply hK;clear hK K
     refine zav ?_
     repeat (first|refine zae ?_|refine za6 rfl ?_|refine za8 ?_)
     refine ⟨s.size-(k+1),by omega,hE,k+1,v,acc,by omega,rfl,by simp [go_sem,g0],by simp [go_sem,g2],by simp [go_sem],hown,by omega,?_⟩
     rw [←hall]
     exact (allAt_skip s k (k+1) acc hk (by omega) (nxt_blank s k hlt hblk)).symm
    ·have hblk:blkB (za9 s k).toNat=false:=by rw [←hkb];simp [k1]
     refine zaf (by simp [go_sem,k1];rfl) rfl ?_
     refine zzr fun K hK=>?_
     simp [go_sem]
     apply hK;clear hK K
     by_cases k6:zdg ↑(za9 s k).toNat=6
     ·have h35:za9 s k=35:=by
       have:decide (((za9 s k).toNat:Int)=35)=true:=by rw [←hkh];simp [k6]
       apply UInt8.toNat_inj.1
       simp at this;simp;omega
      obtain ⟨hn1,hn2,hn3⟩:=nxt_hash s k hlt h35
      refine zaf (by simp [go_sem,k6];rfl) rfl ?_
      refine zzr fun K hK=>?_
      simp [go_sem,g0,g3]
      refine zzc rfl Tryz.call25 (fun R hR=>?_)
      simp [go_sem]
      refine (comment_any s k _ hs hk).mono ?_
      rintro e w5 ⟨rfl,rfl⟩
      refine ⟨_,rfl,hR _ _ ?_⟩
      clear hR R
      simp [go_sem]
      apply hK;clear hK K
      refine zav ?_
      repeat (first|refine zae ?_|refine za6 rfl ?_|refine za8 ?_)
      refine ⟨s.size-(k+comN ((bs s).drop k)),by omega,hE,k+comN ((bs s).drop k),v,acc,by omega,rfl,by simp [go_sem,g0],by simp [go_sem,g2],by simp [go_sem],hown,by omega,?_⟩
      rw [←hall]
      exact (allAt_skip s k _ acc hk hn3 hn1).symm
     ·have h35:za9 s k≠35:=by
       intro e
       rw [e] at k6
       exact absurd rfl k6
      have hnx:=nxt_here s k hlt hblk h35
      have hae:=zeG s k acc hk
      rw [hnx,if_pos hlt,hall] at hae
      refine zaf (by simp [go_sem,k6];rfl) rfl ?_
      refine za7 ?_
      apply hK3;clear hK3 K3
      refine zzr fun K hK=>?_
      simp [go_sem,g0,g3]
      refine zzc rfl Tryz.call26 (fun R hR=>?_)
      simp [go_sem]
      refine (token_any s k _ hbig hlt).mono ?_
      rintro e w5 ⟨rfl,hE5⟩
      refine ⟨_,rfl,hR _ _ ?_⟩
      clear hR R
      have hown5:w5.ownsRow w.heap.size 52 4 v acc.length (tksC s acc):=zas hown hE5
      replace hE:=hE.next hE5
      simp [go_sem]
      refine zza rfl zcb (fun w6 b6 hE6 hle6 hB6=>?_)
      simp [go_sem]
      refine zbG (b:=b6) (off:=0) (tokR s k) (by simp [go_sem]) rfl (by simp [go_sem]) (by simp [go_sem,Value.cells]) (by rw [tokR_len];exact zaR) hB6 (by rw [tokR_len];simp) (tokR_one s k) (by decide) (fun w7 hS7 hB7=>?_)
      rw [putC_all _ _ (by simp [tokR_len])] at hB7
      have hb6:w.heap.size≤b6:=by have:=hE.size;omega
      have hne:v.ownBlock≠some b6:=fun e=>by have:=(hown5.lt b6 e).2;omega
      have hown7:w7.ownsRow w.heap.size 52 4 v acc.length (tksC s acc):=zdV (zas hown5 hE6) hS7 hne
      replace hE:=(hE.next hE6).nextS hS7 hb6
      clear hown hown5 hE5 hE6 hS7 hB6
      simp [go_sem]
      apply hK;clear hK K
      refine zab (fun K2 hK2=>?_)
      refine zzr fun K hK=>?_
      simp [go_sem]
      apply hK;clear hK K
      by_cases he:zdw s k=0
      ·have he':(zdw s k:Int)=0:=by omega
       rw [if_pos he] at hae
       obtain ⟨ht1,ht2⟩:=zdb s k hlt he
       have e1:tokR s k=[.int .i64 (zeh s k),.int .i64 k,.int .i64 (zbt s k),.string (s.extract k (zbt s k))]:=by simp [tokR,he,tokC]
       rw [e1] at hB7
       have hb:=hB7.cell
       refine zaf (by simp [go_sem,he,he'];rfl) rfl ?_
       refine za7 ?_
       apply hK2;clear hK2 K2
       refine zzr fun K hK=>?_
       simp [go_sem,g2,hb,za4,za1]
       refine zak #[.int .i64 (zeh s k),.int .i64 k,.int .i64 (zbt s k),.string (s.extract k (zbt s k))] (by simp [go_sem]) rfl zdQ (by decide) [(0,.agg #[.int .i64 (zeh s k),.int .i64 k,.int .i64 (zbt s k),.string (s.extract k (zbt s k))])] (by simp [go_sem]) (by kernel_rfl) (fun w8 b8 hE8 hle8 hB8=>?_)
       have hown8:w8.ownsRow w.heap.size 52 4 v acc.length (tksC s acc):=zas hown7 hE8
       replace hB7:=hB7.keep hE8
       replace hE:=hE.next hE8
       clear hown7 hE8
       simp [go_sem]
       refine zbv (v:=v) (b:=b8) (len:=1) (c:=1) hB8 (by simp [go_sem]) rfl zdQ ty_bytes52 rfl (by decide) (by simp [go_sem,g2]) (by simp [go_sem]) hown8 rfl (by simp [Value.oneCell']) (by unfold maxLen;omega) (by omega) hE.size (by decide) (fun v' w9 hown9 hg9 _=>?_)
       replace hB7:=hB7.grown hg9 (fun e=>hne e.symm)
       replace hE:=hE.nextG hg9 (fun b e=>(hown8.lt b e).1)
       have hb:=hB7.cell
       have hown10:w9.ownsRow w.heap.size 52 4 v' (acc++[(zeh s k,k,zbt s k)]).length (tksC s (acc++[(zeh s k,k,zbt s k)])):=by
        rw [tksC_app,List.length_append];exact hown9
       simp [go_sem]
       apply hK;clear hK K
       refine zzt fun K hK=>?_
       simp [go_sem,hb]
       refine hK _ _ ⟨s.size-zbt s k,by omega,hE,zbt s k,v',acc++[(zeh s k,k,zbt s k)],ht2,rfl,by simp [go_sem,g0],by simp [go_sem],by simp [go_sem],hown10,by simp;omega,hae.symm⟩
      ·have he':¬(zdw s k:Int)=0:=by omega
       rw [if_neg he] at hae
       have hR':allR s=([],k,zdw s k):=by rw [hR,hae]
       refine zaf (by simp [go_sem,he,he'];rfl) rfl ?_
       refine zzr fun K hK=>?_
       simp [go_sem,g3]
       apply hK;clear hK K
       refine zad ?_
       repeat first|refine za3 ?_|refine za2 ?_
       refine ⟨trivial,none,0,?_,by rw [hR'];exact SL.nil _ _,hE⟩
       simp [go_sem,zar,zam,hR']
   ·have hk':k=s.size:=by omega
    have hae:=zeG s k acc hk
    rw [nxt_end s k hlt,if_neg hlt,hall] at hae
    have hR':allR s=(acc++[(0,s.size,s.size)],0,0):=by rw [hR,hae]
    refine zaf (by simp [go_sem,hlt];rfl) rfl ?_
    refine zav ?_
    repeat (first|refine zae ?_|refine za6 rfl ?_|refine za8 ?_)
    apply hK1;clear hK1 K1 hK2 K2
    refine zzr fun K hK=>?_
    simp [go_sem,g0,g2]
    refine zal #[.int .i64 0,.int .i64 s.size,.int .i64 s.size,.string ⟨#[]⟩] (by simp [go_sem]) rfl zd3 [(0,.int .i64 0),(1,.int .i64 s.size),(2,.int .i64 s.size)] (by simp [go_sem]) rfl ?_
    simp [go_sem]
    refine zak #[.int .i64 0,.int .i64 s.size,.int .i64 s.size,.string ⟨#[]⟩] (by simp [go_sem]) rfl zdQ (by decide) [(0,.agg #[.int .i64 0,.int .i64 s.size,.int .i64 s.size,.string ⟨#[]⟩])] (by simp [go_sem]) (by kernel_rfl) (fun w8 b8 hE8 hle8 hB8=>?_)
    have hown8:w8.ownsRow w.heap.size 52 4 v acc.length (tksC s acc):=zas hown hE8
    replace hE:=hE.next hE8
    simp [go_sem]
    refine zbv (v:=v) (b:=b8) (len:=1) (c:=1) hB8 (by simp [go_sem]) rfl zdQ ty_bytes52 rfl (by decide) (by simp [go_sem,g2]) (by simp [go_sem]) hown8 rfl (by simp [Value.oneCell']) (by unfold maxLen;omega) (by omega) hE.size (by decide) (fun v' w9 hown9 hg9 _=>?_)
    replace hE:=hE.nextG hg9 (fun b e=>(hown8.lt b e).1)
    simp [go_sem]
    apply hK;clear hK K
    obtain ⟨a,c,rfl⟩:=zbf hown9
    refine zad ?_
    repeat first|refine za3 ?_|refine za2 ?_
    refine ⟨trivial,a,c,?_,?_,hE⟩
    ·simp [go_sem,zar,zam,hR']
    ·rw [hR']
     show SL _ a (tksC s (acc++[(0,s.size,s.size)]))
     rw [tksC_app]
     have e2:tokC s (0,s.size,s.size)=[.int .i64 0,.int .i64 s.size,.int .i64 s.size,.string ⟨#[]⟩]:=by
      simp only [tokC,extract_nil]
      first|rfl|skip
     rw [e2]
     exact zca hown9
 ·have hbig':(20000:Int)<s.size:=by omega
  have hR:allR s=([],0,4):=by unfold allR;rw [if_neg hbig]
  refine zaf (by simp [go_sem,hbig'];rfl) rfl ?_
  refine zzr fun K hK=>?_
  simp [go_sem]
  apply hK;clear hK K
  refine zad ?_
  repeat first|refine za3 ?_|refine za2 ?_
  refine ⟨trivial,none,0,?_,by rw [hR];exact SL.nil _ _,Below.refl _ _⟩
  simp [go_sem,zar,zam,hR]
end Go.Proofs.YtefhenfofomjhaaGreat
namespace Go.Proofs.YtefhenfofomjhaaGreat
open Go Go.RowKit Go.V
theorem ct_ss {P:Program} {f s:Nat} {c:Ct} {w:World} {vs:List Value} {als:List At} {x y:List UInt8} (h:c.ok P f) (hres:c.res=[[.s],[.s]]) (hs:s≤c.L) (hr:zeK w c.args als vs) (hz:∀ a∈als,a.sz≤s) (hF:c.F als=some [.s x,.s y]) :
  Calls P f vs.toArray w fun e w'=>e = .returned (.tuple #[.string ⟨x.toArray⟩,.string ⟨y.toArray⟩])∧Below w.heap.size w w':=by
 refine (h s w vs als _ hs hr hz hF).mono ?_
 rintro e w' ⟨rvs,he,hrv,hsz,hE⟩
 rw [hres] at hrv
 obtain ⟨a1,r,a2,r',e1,rfl,h1,h2⟩:=hrv
 obtain ⟨v2,rfl,h3⟩:=vs1 h2
 obtain ⟨l,rfl,rfl⟩:=repV_s.1 h1
 simp only [List.cons_append,List.nil_append,List.cons.injEq,At.s.injEq] at e1
 obtain ⟨e2,e3⟩:=e1
 subst e2;subst e3
 obtain ⟨m,e4,rfl⟩:=repV_s.1 h3
 simp only [List.cons.injEq,At.s.injEq,and_true] at e4
 subst e4
 exact ⟨he,hE⟩
theorem ashape_any (k:Int) (h1:10≤k) (h2:k≤68) (w:World):Calls Tryz.prog 52 #[.int .i64 k] w fun e w'=>e = .returned (.tuple #[.string ⟨(zeI k).toArray⟩,.string ⟨(letK k).toArray⟩])∧Below w.heap.size w w' :=
 ct_ss ev_ashape rfl (Nat.zero_le _) (ints1 k) (zs1 k 0) (ashape_den h1 h2)
theorem indexByteC_any (s:ByteArray) (c:UInt8) (w:World):Calls Tryz.prog 86 #[.string s,.int .u8 c.toNat] w fun e w'=>e = .returned (.int .i64 (Lib.indexByte (bs s) c))∧w'=w:=by
 refine za5 (rs:=[.tmp 4]) (n:=8) Tryz.func86 rfl rfl rfl (by kernel_rfl) ?_
 refine zzr fun K hK=>?_
 simp [go_sem]
 apply hK;clear hK K
 refine zzr fun K hK=>?_
 simp [go_sem]
 refine hv_ext (by simp [go_sem]) rfl Tryz.func106 (by kernel_rfl) (by kernel_rfl) (by kernel_rfl) (e:=Extern.BytealgIndexByte.indexByte) (by kernel_rfl) (by simp [go_sem];exact Lib.run_indexByteString _ _ _) ?_
 simp [go_sem]
 apply hK;clear hK K
 refine zad ?_
 repeat first|refine za3 ?_|refine za2 ?_
 exact ⟨trivial,by simp [go_sem,zar,zam];rfl,rfl⟩
theorem indexByteS_any (s:ByteArray) (c:UInt8) (w:World):Calls Tryz.prog 71 #[.string s,.int .u8 c.toNat] w fun e w'=>e = .returned (.int .i64 (Lib.indexByte (bs s) c))∧w'=w:=by
 refine za5 (rs:=[.tmp 4]) (n:=8) Tryz.func71 rfl rfl rfl (by kernel_rfl) ?_
 refine zzr fun K hK=>?_
 simp [go_sem]
 apply hK;clear hK K
 refine zzr fun K hK=>?_
 simp [go_sem]
 refine zzc rfl Tryz.call86 (fun R hR=>?_)
 simp [go_sem]
 refine (indexByteC_any s c _).mono ?_
 rintro e w2 ⟨rfl,rfl⟩
 refine ⟨_,rfl,hR _ _ ?_⟩
 clear hR R
 simp [go_sem]
 apply hK;clear hK K
 refine zad ?_
 repeat first|refine za3 ?_|refine za2 ?_
 exact ⟨trivial,by simp [go_sem,zar,zam],rfl⟩
theorem letP_pos:∀ p∈[(0:Int),1,2,3],Lib.indexByte [42,80,76,67] (letP p)=p:=by decide +kernel
theorem letP_cases (p:Int):letP p=42∨letP p=80∨letP p=76∨letP p=67:=by unfold letP;(repeat' split)<;>simp
theorem indexRune_any (p:Int) (hp:0≤p∧p≤3) (w:World):Calls Tryz.prog 53 #[.string ⟨#[42,80,76,67]⟩,.int .i32 (letP p).toNat] w fun e w'=>e = .returned (.int .i64 p)∧w'=w:=by
 have hpos:=letP_pos p (by
               have:p=0∨p=1∨p=2∨p=3:=by omega
               rcases this with rfl|rfl|rfl|rfl<;>simp)
 obtain ⟨c,hc⟩:∃ c:UInt8,c=letP p:=⟨_,rfl⟩
 have c2:c.toNat<128:=by
  rw [hc]
  rcases letP_cases p with h|h|h|h<;>rw [h]<;>decide
 rw [←hc] at hpos ⊢
 have c3:(c.toNat:Int)<128:=by omega
 have c4:(0:Int)≤c.toNat:=by omega
 have hw1:IntKind.u8.wrap (c.toNat:Int)=c.toNat:=IntWalk.u8_in _ (by omega)
 refine za5 (args:=[.string ⟨#[42,80,76,67]⟩,.int .i32 c.toNat]) (rs:=[.tmp 4]) (n:=187) Tryz.func53 rfl rfl rfl (by kernel_rfl) ?_
 refine zzr fun K hK=>?_
 simp [go_sem]
 apply hK;clear hK K
 refine zac ?_
 refine zzr fun K hK=>?_
 simp [go_sem,c3,c4]
 apply hK;clear hK K
 refine zaf (t:=true) (by simp [go_sem,c3,c4]) rfl ?_
 refine zzr fun K hK=>?_
 simp [go_sem,hw1]
 refine zzc rfl Tryz.call71 (fun R hR=>?_)
 simp [go_sem,hw1]
 refine (indexByteS_any ⟨#[42,80,76,67]⟩ c _).mono ?_
 rintro e w2 ⟨rfl,rfl⟩
 refine ⟨_,rfl,hR _ _ ?_⟩
 clear hR R
 rw [show bs ⟨#[42,80,76,67]⟩=[42,80,76,67] from rfl,hpos]
 simp [go_sem]
 apply hK;clear hK K
 refine zad ?_
 repeat first|refine za3 ?_|refine za2 ?_
 refine ⟨trivial,?_,rfl⟩
 simp [go_sem,zar,zam]
theorem dec_asciiC (s:ByteArray) (pos:Nat) (hp:pos<s.size) (h:(za9 s pos).toNat<128):decC s pos=((za9 s pos).toNat:Int):=by
 have e:(s.get! (pos+0)).toNat=(za9 s pos).toNat:=by
  have:s.get! pos=za9 s pos:=by
   have h':pos<s.data.size:=hp
   simp only [ByteArray.get!,za9,bs]
   rw [List.getD_eq_getElem?_getD,Array.getElem?_toList,Array.getElem?_eq_getElem h',Option.getD_some,getElem!_pos s.data pos h']
  rw [Nat.add_zero,this]
 unfold decC Utf8.decode
 simp only [e]
 rw [if_pos (by omega)]
theorem _root_.Go.V.It.grown {w w':World} {b pos:Nat} {s:ByteArray} {r:Option Nat} (h:It w b s pos) (hg:w.grownBy w' r) (hne:some b≠r):It w' b s pos:=⟨by rw [hg.block b h.lt hne];exact h.heap⟩
theorem params_any (k:Int) (h1:10≤k) (h2:k≤68) (w:World):Calls Tryz.prog 30 #[.int .i64 k] w fun e w'=>∃ a c,e = .returned (.slice a (zc6 k).length c)∧SL w' a (intC (zc6 k))∧(∀ ad,a=some ad→w.heap.size≤ad.block)∧Below w.heap.size w w':=by
 obtain ⟨L,hL⟩:∃ L:ByteArray,L=⟨(letK k).toArray⟩:=⟨_,rfl⟩
 have hLs:L.size=(zc6 k).length:=by rw [hL];simp [ByteArray.size,letK]
 have hn:(zc6 k).length≤6:=by
  by_cases h0:zeI k=[]
  ·have h3:=pars_none (k-10).toNat (by omega)
   rw [show (10:Int)+((k-10).toNat:Nat)=k by omega] at h3
   rw [h3 h0];decide
  ·have h3:=pars_ok (k-10).toNat (by omega)
   rw [show (10:Int)+((k-10).toNat:Nat)=k by omega] at h3
   exact (h3 h0).2.2
 have hr:∀ p∈zc6 k,0≤p∧p≤3:=by
  by_cases h0:zeI k=[]
  ·have h3:=pars_none (k-10).toNat (by omega)
   rw [show (10:Int)+((k-10).toNat:Nat)=k by omega] at h3
   rw [h3 h0];intro p hp;cases hp
  ·have h3:=pars_ok (k-10).toNat (by omega)
   rw [show (10:Int)+((k-10).toNat:Nat)=k by omega] at h3
   exact (h3 h0).2.1
 have hLb:∀ i,i<(zc6 k).length→za9 L i=letP ((zc6 k).getD i 0):=by
  intro i hi
  rw [hL]
  simp [za9,bs,letK,List.getD_eq_getElem?_getD,hi]
 generalize zc6 k=ps at *
 refine za5 (rs:=[.tmp 2]) (n:=24) Tryz.func30 rfl rfl rfl (by kernel_rfl) ?_
 have hA0:=Below.refl w.heap.size w
 refine zzr fun K hK=>?_
 simp [go_sem,za0,za4,za1]
 apply hK;clear hK K
 refine zzr fun K hK=>?_
 simp [go_sem,za0,za4,za1]
 refine zzc rfl Tryz.call52 (fun R hR=>?_)
 simp [go_sem,za0,za4,za1]
 refine (ashape_any k h1 h2 _).mono ?_
 rintro e w1 ⟨rfl,hE1⟩
 refine ⟨_,rfl,hR _ _ ?_⟩
 clear hR R
 replace hA0:=hA0.next hE1
 simp [go_sem,za0,za4,za1]
 rw [←hL]
 apply hK;clear hK K
 refine zzr fun K hK=>?_
 simp [go_sem,za0,za4,za1]
 apply hK;clear hK K
 refine zab (fun K1 hK1=>?_)
 refine zzr fun K hK=>?_
 simp [go_sem,za0,za4,za1]
 refine hv_range (s:=L) (by simp [go_sem]) rfl ty_isStr9 (by simp [go_sem]) (fun w2 ib hE hib hit=>?_)
 have hA2:=hA0.next hE
 have hB2:w.heap.size≤ib:=Nat.le_trans hA0.size hib
 have hB3:w.heap.size≤w2.heap.size:=hA2.size
 have hib2:ib<w2.heap.size:=hit.lt
 simp [go_sem]
 apply hK;clear hK K
 refine zac ?_
 refine zaz (fun m g w'=>Below w.heap.size w w'∧w2.heap.size≤w'.heap.size∧∃ (i:Nat) (v:Value),i≤ps.length∧m=ps.length-i∧It w' ib L i∧w'.ownsRow w2.heap.size 3 1 v i (intC (ps.take i))∧g 5=v∧g 14 = .pointer (some ⟨ib,0,none⟩)) ps.length ?_ ?_
 ·exact ⟨hA2,Nat.le_refl _,0,.slice none 0 0,Nat.zero_le _,rfl,hit,World.ownsRow_nil _ _ _ _,by simp [go_sem],by simp [go_sem]⟩
 clear hA0 hA2 hE hit
 rintro m g w' ⟨hA0,hsz,i,v,hi,rfl,hit,hown,g5,g14⟩
 by_cases hlt:i<ps.length
 ·have hlt':i<L.size:=by rw [hLs];exact hlt
  have hbi:=hLb i hlt
  have hba:(za9 L i).toNat<128:=by
   rw [hbi]
   rcases letP_cases (ps.getD i 0) with h|h|h|h<;>rw [h]<;>decide
  have hdw:=dec_ascii L i hlt' hba
  have hdc:=dec_asciiC L i hlt' hba
  rw [hbi] at hdc
  have hpi:0≤ps.getD i 0∧ps.getD i 0≤3:=hr _ (by rw [List.getD_eq_getElem?_getD,List.getElem?_eq_getElem hlt];exact List.getElem_mem hlt)
  have htk:ps.take (i+1)=ps.take i++[ps.getD i 0]:=by rw [List.take_succ_eq_append_getElem hlt,List.getD_eq_getElem?_getD,List.getElem?_eq_getElem hlt];rfl
  generalize ps.getD i 0=p at *
  refine zzr fun K hK=>?_
  simp [go_sem,za0,za4,za1]
  refine hv_next (by simp [go_sem]) rfl (by simp [go_sem,g14]) hit hlt' (by decide) (fun w3 hS hit3=>?_)
  rw [hdc,hdw] at *
  have hA3:Below w.heap.size w w3:=hA0.nextS hS hB2
  have hown3:w3.ownsRow w2.heap.size 3 1 v i (intC (ps.take i)):=zdV hown hS (fun e=>by have:=(hown.lt ib e).1;omega)
  have hsz3:w2.heap.size≤w3.heap.size:=by rw [hS.size];exact hsz
  clear hA0 hown hit hsz
  simp [go_sem]
  apply hK;clear hK K
  refine zab (fun K3 hK3=>?_)
  refine zaf (t:=true) (by simp [go_sem]) rfl ?_
  refine za7 ?_
  apply hK3
  refine zac ?_
  refine zzr fun K hK=>?_
  simp [go_sem]
  apply hK;clear hK K
  refine zzt fun K hK=>?_
  simp [go_sem,g5]
  refine zzc rfl Tryz.call53 (fun R hR=>?_)
  simp [go_sem,g5]
  refine (indexRune_any p hpi _).mono ?_
  rintro e w4 ⟨rfl,rfl⟩
  refine ⟨_,rfl,hR _ _ ?_⟩
  clear hR R
  simp [go_sem]
  refine zak #[.int .i64 p] (by simp [go_sem]) rfl zep (by decide) [(0,.int .i64 p)] (by simp [go_sem]) (by kernel_rfl) (fun w8 b8 hE8 hle8 hB8=>?_)
  have hown8:w8.ownsRow w2.heap.size 3 1 v i (intC (ps.take i)):=zas hown3 hE8
  replace hit3:=hit3.ext hE8 hit3.lt
  have hA8:=hA3.next hE8
  have hsz8:w2.heap.size≤w8.heap.size:=Nat.le_trans hsz3 hE8.size
  simp [go_sem]
  refine zbv (v:=v) (b:=b8) (len:=1) (c:=1) hB8 (by simp [go_sem]) rfl zep ty_bytes3 rfl (by decide) (by simp [go_sem,g5]) (by simp [go_sem]) hown8 rfl (by simp [Value.oneCell']) (by unfold maxLen;omega) (by omega) hsz8 (by decide) (fun v' w9 hown9 hg9 _=>?_)
  replace hit3:=hit3.grown hg9 (fun e=>by have:=(hown8.lt ib e.symm).1;omega)
  have hA9:=hA8.nextG hg9 (fun b e=>by have:=(hown8.lt b e).1;omega)
  have hsz9:w2.heap.size≤w9.heap.size:=Nat.le_trans hsz8 hg9.size
  simp [go_sem]
  apply hK;clear hK K
  refine ⟨ps.length-(i+1),by omega,hA9,hsz9,i+1,v',by omega,rfl,hit3,?_,by simp [go_sem],by simp [go_sem,g14]⟩
  rw [htk]
  simpa [intC] using hown9
 ·have hie:i=ps.length:=by omega
  subst hie
  rw [List.take_length] at hown
  refine zzr fun K hK=>?_
  simp [go_sem]
  refine hv_next_end (by simp [go_sem]) rfl (by simp [go_sem,g14]) hit (by omega) ?_
  simp [go_sem]
  apply hK;clear hK K
  refine zab (fun K3 hK3=>?_)
  refine zaf (t:=false) (by simp [go_sem]) rfl ?_
  refine zav ?_
  repeat (first|refine zae ?_|refine za6 rfl ?_|refine za8 ?_)
  apply hK1
  refine zzr fun K hK=>?_
  simp [go_sem,g5]
  apply hK;clear hK K
  obtain ⟨a,c,rfl⟩:=zbf hown
  refine zad ?_
  repeat first|refine za3 ?_|refine za2 ?_
  refine ⟨trivial,a,c,?_,zca hown,fun ad ha=>?_,hA0⟩
  ·simp [go_sem,zar,zam]
  ·subst ha;exact Nat.le_trans hB3 (hown.lt ad.block rfl).1
end Go.Proofs.YtefhenfofomjhaaGreat
