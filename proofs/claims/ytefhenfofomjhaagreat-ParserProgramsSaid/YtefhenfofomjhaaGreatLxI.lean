/- The lexer's specification: All. -/
import Derived.Test.YtefhenfofomjhaaGreatSx2
set_option linter.unusedSimpArgs false
set_option linter.unusedVariables false
set_option maxHeartbeats 4000000
set_option maxRecDepth 20000
namespace Go.Proofs.YtefhenfofomjhaaGreat
open Go.RowKit Go.V Go.ChangeMaps
theorem skip_true_step (s:ByteArray) (k:Nat) (h:k<s.size) (hb:za9 s k≠10):k+zcN true ((bs s).drop k)=(k+1)+zcN true ((bs s).drop (k+1)):=by
 rw [zco s k h,zcN,if_neg hb];omega
theorem skip_true_hash (s:ByteArray) (k:Nat) (h:k<s.size) (hb:za9 s k=35):nxt s k=k+zcN true ((bs s).drop k):=by
 unfold nxt
 rw [zco s k h,hb]
 rfl
theorem skip_true_end (s:ByteArray) (k:Nat) (h:¬(k<s.size∧za9 s k≠10)):k+zcN true ((bs s).drop k)=nxt s k:=by
 unfold nxt
 by_cases hk:k<s.size
 ·have hb:za9 s k=10:=by
   by_cases e:za9 s k=10
   ·exact e
   ·exact absurd ⟨hk,e⟩ h
  rw [zco s k hk,hb];rfl
 ·rw [drop_end s k hk];rfl
theorem skip_any (s:ByteArray) (n:Nat) (w:World) (hs:s.size≤maxLen) (hn:n≤s.size) :
  Calls Tryz.prog 33 #[.string s,.int .i64 n] w fun e w'=>e = .returned (.int .i64 (nxt s n))∧w=w':=by
 unfold maxLen at hs
 refine za5 (rs:=[.tmp 4]) (n:=40) Tryz.func33 rfl rfl rfl (by kernel_rfl) ?_
 refine zzr fun K hK=>?_
 simp [go_sem]
 apply hK;clear hK K
 refine zab (fun K1 hK1=>?_)
 refine zac ?_
 refine zaz (fun m g w'=>w'=w∧∃ k:Nat,k≤s.size∧m=s.size-k∧g 0 = .string s∧g 1 = .int .i64 k∧nxt s k=nxt s n) (s.size-n) ?_ ?_
 ·exact ⟨rfl,n,hn,rfl,rfl,rfl,rfl⟩
 ·rintro m g w' ⟨rfl,k,hk,rfl,g0,g1,hN⟩
  have e35:za9 s k=35↔((za9 s k).toNat:Int)=35:=byte_iff _ 35 (by omega)
  refine zab (fun K2 hK2=>?_)
  refine zeH (fun g' w1=>w1=w'∧g' 0 = .string s∧g' 1 = .int .i64 k∧g' 20 = .bool (decide (k<s.size) && (blkB (za9 s k).toNat || decide (za9 s k=35)))) (by kernel_rfl) ?_ ?_
  ·by_cases hlt:k<s.size
   ·have hlt':(k:Int)<s.size:=by omega
    simp [go_sem,g0,g1,hlt,hlt']
    refine zzc rfl Tryz.call59 (fun R hR=>?_)
    simp [go_sem,hlt,hlt']
    refine (blank_any _ _).mono ?_
    rintro e w1 ⟨rfl,rfl⟩
    refine ⟨_,rfl,hR _ _ ?_⟩
    clear hR R
    cases hb:blkB (za9 s k).toNat with
    | true =>
     simp [go_sem,hb,g0,g1,hlt,hlt']
    | false =>
     by_cases i35:((za9 s k).toNat:Int)=35
     ·have j35:=e35.2 i35
      simp [go_sem,hb,g0,g1,hlt,hlt',i35,j35]
     ·have j35:¬za9 s k=35:=fun e=>i35 (e35.1 e)
      have k35:¬(za9 s k).toNat=35:=by omega
      simp [go_sem,hb,g0,g1,hlt,hlt',i35,j35,k35]
   ·simp [go_sem,g0,g1,hlt]
  ·rintro g' w1 ⟨rfl,q0,q1,q20⟩
   refine zaf q20 rfl ?_
   by_cases hlt:k<s.size
   ·have hlt':(k:Int)<s.size:=by omega
    have hw1:IntKind.i64.wrap (↑k+1)=(k:Int)+1:=IntWalk.i64_in _ (by omega)
    by_cases h35:za9 s k=35
    ·have i35:=e35.1 h35
     have e1:(decide (k<s.size) && (blkB (za9 s k).toNat || decide (za9 s k=35)))=true:=by simp [hlt,h35]
     simp only [e1]
     refine za7 ?_
     apply hK2;clear hK2 K2
     refine zac ?_
     refine zab (fun K3 hK3=>?_)
     refine zzr fun K hK=>?_
     simp [go_sem,q0,q1,hlt,hlt']
     apply hK;clear hK K
     refine zaf (by simp [go_sem,h35,i35];rfl) rfl ?_
     refine zab (fun K4 hK4=>?_)
     refine zac ?_
     refine zaz (fun m g w'=>w'=w1∧∃ j:Nat,k≤j∧j≤s.size∧m=s.size-j∧g 0 = .string s∧g 1 = .int .i64 j∧j+zcN true ((bs s).drop j)=nxt s n) (s.size-k) ?_ ?_
     ·exact ⟨rfl,k,Nat.le_refl _,hk,rfl,by simp [go_sem,q0],by simp [go_sem,q1],by rw [←skip_true_hash s k hlt h35];exact hN⟩
     ·clear q0 q1 q20
      rintro m g'' w' ⟨rfl,j,hkj,hj,rfl,q0,q1,hM⟩
      have e10:za9 s j=10↔((za9 s j).toNat:Int)=10:=byte_iff _ 10 (by omega)
      refine zab (fun K5 hK5=>?_)
      by_cases hjl:j<s.size
      ·have hjl':(j:Int)<s.size:=by omega
       have hw2:IntKind.i64.wrap (↑j+1)=(j:Int)+1:=IntWalk.i64_in _ (by omega)
       by_cases h10:za9 s j=10
       ·have i10:=e10.1 h10
        refine zzr fun K hK=>?_
        simp [go_sem,q0,q1,hjl,hjl',h10,i10]
        apply hK;clear hK K
        refine zaf (by simp [go_sem,hjl,hjl',h10,i10];rfl) rfl ?_
        refine zav ?_
        repeat (first|refine zae ?_|refine za6 rfl ?_|refine za8 ?_)
        apply hK4;clear hK4 K4 hK5 K5
        refine zav ?_
        repeat (first|refine zae ?_|refine za6 rfl ?_|refine za8 ?_)
        have hkj':k<j:=by
         by_cases e:k=j
         ·subst e;rw [h35] at h10;exact absurd h10 (by decide)
         ·omega
        refine ⟨s.size-j,by omega,rfl,j,hj,rfl,by simp [go_sem,q0],by simp [go_sem,q1],?_⟩
        rw [←hM,skip_true_end s j (by simp [h10])]
       ·have i10:¬((za9 s j).toNat:Int)=10:=fun e=>h10 (e10.2 e)
        have j10:¬(za9 s j).toNat=10:=by omega
        refine zzr fun K hK=>?_
        simp [go_sem,q0,q1,hjl,hjl',h10,i10,j10]
        apply hK;clear hK K
        refine zaf (by simp [go_sem,hjl,hjl',h10,i10,j10];rfl) rfl ?_
        refine za7 ?_
        apply hK5;clear hK5 K5
        refine zac ?_
        refine zzt fun K hK=>?_
        simp [go_sem,q1,hw2]
        refine hK _ _ ⟨s.size-(j+1),by omega,rfl,j+1,by omega,by omega,rfl,by simp [go_sem,q0],by simp [go_sem],?_⟩
        rw [←hM,skip_true_step s j hjl h10]
      ·have hjs:j=s.size:=by omega
       refine zzr fun K hK=>?_
       simp [go_sem,q0,q1,hjl]
       apply hK;clear hK K
       refine zaf (by simp [go_sem,hjl];rfl) rfl ?_
       refine zav ?_
       repeat (first|refine zae ?_|refine za6 rfl ?_|refine za8 ?_)
       apply hK4;clear hK4 K4 hK5 K5
       refine zav ?_
       repeat (first|refine zae ?_|refine za6 rfl ?_|refine za8 ?_)
       refine ⟨s.size-j,by omega,rfl,j,hj,rfl,by simp [go_sem,q0],by simp [go_sem,q1],?_⟩
       rw [←hM,skip_true_end s j (by simp [hjl])]
    ·have i35:¬((za9 s k).toNat:Int)=35:=fun e=>h35 (e35.2 e)
     have k35:¬(za9 s k).toNat=35:=by omega
     cases hb:blkB (za9 s k).toNat with
     | true =>
      simp only [hlt,decide_true,Bool.true_or,Bool.and_true]
      refine za7 ?_
      apply hK2;clear hK2 K2
      refine zac ?_
      refine zab (fun K3 hK3=>?_)
      refine zzr fun K hK=>?_
      simp [go_sem,q0,q1,hlt,hlt']
      apply hK;clear hK K
      refine zaf (by simp [go_sem,i35,k35];rfl) rfl ?_
      refine za7 ?_
      apply hK3;clear hK3 K3
      refine zzt fun K hK=>?_
      simp [go_sem,q1,hw1]
      refine hK _ _ ⟨s.size-(k+1),by omega,rfl,k+1,by omega,rfl,by simp [go_sem,q0],by simp [go_sem],?_⟩
      rw [←hN,nxt_blank s k hlt hb]
     | false =>
      simp only [hlt,h35,decide_true,decide_false,Bool.or_self,Bool.and_false]
      refine zav ?_
      repeat (first|refine zae ?_|refine za6 rfl ?_|refine za8 ?_)
      apply hK1;clear hK1 K1 hK2 K2
      refine zzr fun K hK=>?_
      simp [go_sem,q1]
      apply hK;clear hK K
      refine zad ?_
      repeat first|refine za3 ?_|refine za2 ?_
      refine ⟨trivial,?_,rfl⟩
      simp [go_sem,zar,zam]
      rw [←hN,nxt_here s k hlt hb h35]
   ·simp only [hlt,decide_false,Bool.false_and]
    refine zav ?_
    repeat (first|refine zae ?_|refine za6 rfl ?_|refine za8 ?_)
    apply hK1;clear hK1 K1 hK2 K2
    refine zzr fun K hK=>?_
    simp [go_sem,q1]
    apply hK;clear hK K
    refine zad ?_
    repeat first|refine za3 ?_|refine za2 ?_
    refine ⟨trivial,?_,rfl⟩
    simp [go_sem,zar,zam]
    rw [←hN,nxt_end s k hlt]
def sgnE (s:ByteArray) (q:Nat):Nat :=
 if sgnB (za9 s q).toNat=true then 0 else if (za9 s q).toNat=58 then (if q+1<s.size∧(za9 s (q+1)).toNat=61 then 0 else 5) else 5
def sgnZ (s:ByteArray) (q:Nat):Nat:=if (za9 s q).toNat=58 then q+2 else q+1
def TokP (s:ByteArray) (w:World) (K q z:Nat) (er:Nat) (e:Ending) (w':World):Prop :=
 ∃ cs:List Value,e = .returned (.tuple #[.agg cs.toArray,.int .i64 er])∧cs.length=4∧(∀ v∈cs,v.oneCell'=true)∧(er=0→cs=tokC s (K,q,z))∧Below w.heap.size w w'
theorem nat_succ (n:Nat):((n:Int)+1).toNat=n+1:=by omega
theorem sign_any (s:ByteArray) (n:Nat) (w:World) (hs:s.size≤20000) (hn:n<s.size) :
  Calls Tryz.prog 34 #[.string s,.int .i64 n] w (TokP s w 3 n (sgnZ s n) (sgnE s n)):=by
 have hs':s.size≤maxLen:=by unfold maxLen;omega
 refine za5 (rs:=[.cell 4 52,.tmp 5]) (n:=48) Tryz.func34 rfl rfl rfl (by kernel_rfl) ?_
 refine zzr fun K hK=>?_
 simp [go_sem]
 refine zza rfl zcb (fun w1 b1 hE1 hle1 hB1=>?_)
 simp [go_sem]
 apply hK;clear hK K
 refine zzr fun K hK=>?_
 simp [go_sem]
 refine zal #[.int .i64 3,.int .i64 n,.int .i64 (IntKind.i64.wrap (↑n+1)),.string ⟨#[]⟩] (by simp [go_sem]) rfl zd3 [(0,.int .i64 3),(1,.int .i64 n),(2,.int .i64 (IntKind.i64.wrap (↑n+1)))] (by simp [go_sem]) rfl ?_
 simp [go_sem]
 refine zza rfl zcb (fun w2 b2 hE2 hle2 hB2=>?_)
 simp [go_sem]
 have hw1:IntKind.i64.wrap (↑n+1)=(n:Int)+1:=IntWalk.i64_in _ (by omega)
 rw [hw1]
 refine zzs (b:=b2) (off:=0) [.int .i64 3,.int .i64 n,.int .i64 (↑n+1),.string ⟨#[]⟩] rfl zaR hB2 (fun w3 hS3 hB3=>?_) (by simp [go_sem,Value.cells,hw1])
 simp [zaw] at hB3
 have hne:b1≠b2:=by have:=hB1.lt;omega
 have hb1:w.heap.size≤b1:=hle1
 have hX:Below w.heap.size w w3:=(hE1.next hE2).nextS hS3 (by have:=hE1.size;omega)
 have hA:Bx w3 b1 #[.int .i64 0,.int .i64 0,.int .i64 0,.string ⟨#[]⟩] 52:=(hB1.keep hE2).sto hS3 hne
 have hb2:w.heap.size≤b2:=by have:=hE1.size;omega
 clear hE1 hE2 hB1 hB2 hS3
 simp [go_sem]
 apply hK;clear hK K
 have hlt':(n:Int)<s.size:=by omega
 refine zab (fun K1 hK1=>?_)
 refine zzr fun K hK=>?_
 simp [go_sem,hn,hlt']
 apply hK;clear hK K
 have bad:∀ (g:G) (w5:World) (z:Int),Below w.heap.size w w5→Bx w5 b1 #[.int .i64 0,.int .i64 0,.int .i64 0,.string ⟨#[]⟩] 52→Bx w5 b2 #[.int .i64 3,.int .i64 n,.int .i64 z,.string ⟨#[]⟩] 52 →
   g 4 = .pointer (some ⟨b1,0,none⟩)→g 6 = .pointer (some ⟨b2,0,none⟩)→sgnE s n=5 →
   ∀ (K:G→World→Prop),(∀ (g':G) (w6:World),Below w.heap.size w w6→Bx w6 b1 #[.int .i64 3,.int .i64 n,.int .i64 z,.string ⟨#[]⟩] 52→g' 4 = .pointer (some ⟨b1,0,none⟩)→g' 5 = .int .i64 5→K g' w6)→True:=fun _ _ _ _ _ _ _ _ _ _ _=>trivial
 have ret:∀ (g:G) (w5:World) (K z:Int) (t:ByteArray) (er:Nat),Below w.heap.size w w5→Bx w5 b1 #[.int .i64 K,.int .i64 n,.int .i64 z,.string t] 52→g 4 = .pointer (some ⟨b1,0,none⟩)→g 5 = .int .i64 er→er=sgnE s n →
   (er=0→K=3∧z=sgnZ s n∧t=s.extract n (sgnZ s n)) →
   fnQ Tryz.prog [.cell 4 52,.tmp 5] (TokP s w 3 n (sgnZ s n) (sgnE s n)) .ret g w5:=by
  intro g w5 K z t er hX hA g4 g5 he h0
  have ha:=hA.cell
  refine ⟨by simp [zaD,go_sem,za1,ha,g4],[.int .i64 K,.int .i64 n,.int .i64 z,.string t],?_,rfl,?_,?_,hX⟩
  ·simp [go_sem,zar,zam,za4,ha,g4,g5,he]
  ·intro v hv;simp at hv;rcases hv with rfl|rfl|rfl|rfl<;>rfl
  ·intro h;obtain ⟨rfl,rfl,rfl⟩:=h0 (he.trans h);rfl
 clear bad
 have tail:∀ (g:G) (w5:World),Below w.heap.size w w5→Bx w5 b1 #[.int .i64 0,.int .i64 0,.int .i64 0,.string ⟨#[]⟩] 52→g 0 = .string s→g 1 = .int .i64 n→g 4 = .pointer (some ⟨b1,0,none⟩)→g 6 = .pointer (some ⟨b2,0,none⟩) →
   Bx w5 b2 #[.int .i64 3,.int .i64 n,.int .i64 (sgnZ s n),.string ⟨#[]⟩] 52→sgnE s n=0→n≤sgnZ s n→sgnZ s n≤s.size→K1 g w5:=by
  intro g w5 hX hA g0 g1 g4 g6 hB he hz1 hz2
  apply hK1
  have hz1':(n:Int)≤sgnZ s n:=by omega
  have hz2':(sgnZ s n:Int)≤s.size:=by omega
  have hb:=hB.cell
  refine zzr fun K hK=>?_
  simp [go_sem,g0,g1,g4,g6,hb,hz1',hz2']
  refine zzs (b:=b2) (off:=3) [.string (s.extract n (sgnZ s n))] rfl ty_size9 hB (fun w6 hS6 hB6=>?_) (by simp [go_sem,Value.cells,g0,g1,g4,g6,hb])
  simp [zaw] at hB6
  replace hA:=hA.sto hS6 hne
  replace hX:=hX.nextS hS6 hb2
  have hb:=hB6.cell
  simp [go_sem]
  apply hK;clear hK K
  refine zzr fun K hK=>?_
  simp [go_sem,g6,hb,za4,za1]
  refine zzs (b:=b1) (off:=0) [.int .i64 3,.int .i64 n,.int .i64 (sgnZ s n),.string (s.extract n (sgnZ s n))] rfl zaR hA (fun w7 hS7 hB7=>?_) (by simp [go_sem,Value.cells,g4])
  simp [zaw] at hB7
  simp [go_sem]
  apply hK;clear hK K
  refine zad ?_
  repeat first|refine za3 ?_|refine za2 ?_
  refine ret _ _ 3 (sgnZ s n) (s.extract n (sgnZ s n)) 0 (hX.nextS hS7 hb1) hB7 (by simp [go_sem,g4]) (by simp [go_sem]) he.symm (fun _=>⟨rfl,rfl,rfl⟩)
 refine zac ?_
 refine zab (fun K2 hK2=>?_)
 have join:∀ (g':G) (w5:World),w5=w3→g' 0 = .string s→g' 1 = .int .i64 n→g' 4 = .pointer (some ⟨b1,0,none⟩)→g' 6 = .pointer (some ⟨b2,0,none⟩)→g' 13 = .int .u8 (za9 s n).toNat→g' 15 = .bool (sgnB (za9 s n).toNat)→K2 g' w5:=by
  rintro g' w5 rfl g0 g1 g4 g6 g13 g15
  apply hK2;clear hK2 K2
  refine zaf g15 rfl ?_
  cases hsg:sgnB (za9 s n).toNat with
  | true =>
   have n58:=sgn_58 _ hsg
   have ez:sgnZ s n=n+1:=by unfold sgnZ;rw [if_neg n58]
   have ee:sgnE s n=0:=by unfold sgnE;rw [if_pos hsg]
   refine za7 ?_
   refine tail _ _ hX hA g0 g1 g4 g6 ?_ ee (by omega) (by omega)
   rw [ez];exact hB3
  | false =>
   refine zzr fun K hK=>?_
   simp [go_sem,g13]
   apply hK;clear hK K
   by_cases n58:((za9 s n).toNat:Int)=58
   ·have m58:(za9 s n).toNat=58:=by omega
    have ez:sgnZ s n=n+2:=by unfold sgnZ;rw [if_pos m58]
    have hw2:IntKind.i64.wrap (↑n+2)=(n:Int)+2:=IntWalk.i64_in _ (by omega)
    refine zaf (by simp [go_sem,n58,m58];rfl) rfl ?_
    refine zzr fun K hK=>?_
    simp [go_sem,g1,g6]
    rw [hw2]
    refine zzs (b:=b2) (off:=2) [.int .i64 (↑n+2)] rfl zaQ hB3 (fun w5 hS5 hB5=>?_) (by simp [go_sem,Value.cells,g1,g6,hw2])
    simp [zaw] at hB5
    replace hA:=hA.sto hS5 hne
    replace hX:=hX.nextS hS5 hb2
    have hb:=hB5.cell
    simp [go_sem]
    apply hK;clear hK K
    have sz:(s.size:Int) < ↑n+2↔¬n+1<s.size:=by omega
    refine zeH (fun g w6'=>w6'=w5∧g 0 = .string s∧g 1 = .int .i64 n∧g 4 = .pointer (some ⟨b1,0,none⟩)∧g 6 = .pointer (some ⟨b2,0,none⟩)∧g 38 = .bool (!decide (n+1<s.size∧(za9 s (n+1)).toNat=61))) (by kernel_rfl) ?_ ?_
    ·by_cases h1:n+1<s.size
     ·have h1':¬(s.size:Int) < ↑n+2:=by omega
      have h2':(n:Int)+1<s.size:=by omega
      have h3':(0:Int)≤↑n+1:=by omega
      by_cases n61:((za9 s (n+1)).toNat:Int)=61
      ·have m61:(za9 s (n+1)).toNat=61:=by omega
       simp [go_sem,g0,g1,g4,g6,hb,h1,h1',h2',h3',hw1,hw2,n61,m61,nat_succ]
      ·have m61:¬(za9 s (n+1)).toNat=61:=by omega
       simp [go_sem,g0,g1,g4,g6,hb,h1,h1',h2',h3',hw1,hw2,n61,m61,nat_succ]
     ·have h1':(s.size:Int) < ↑n+2:=by omega
      simp [go_sem,g0,g1,g4,g6,hb,h1,h1',hw2]
    ·clear g0 g1 g4 g6 g13 g15
     rintro g' w6' ⟨rfl,g0,g1,g4,g6,g38⟩
     refine zaf g38 rfl ?_
     by_cases hc:n+1<s.size∧(za9 s (n+1)).toNat=61
     ·have ee:sgnE s n=0:=by simp only [sgnE,hsg,Bool.false_eq_true,if_false];rw [if_pos m58,if_pos hc]
      simp only [decide_eq_true hc,Bool.not_true]
      refine za7 ?_
      refine tail _ _ hX hA g0 g1 g4 g6 ?_ ee (by omega) (by omega)
      rw [ez];exact hB5
     ·have ee:sgnE s n=5:=by simp only [sgnE,hsg,Bool.false_eq_true,if_false];rw [if_pos m58,if_neg hc]
      simp only [decide_eq_false hc,Bool.not_false]
      refine zzr fun K hK=>?_
      simp [go_sem,g6,hb,za4,za1]
      refine zzs (b:=b1) (off:=0) [.int .i64 3,.int .i64 n,.int .i64 (↑n+2),.string ⟨#[]⟩] rfl zaR hA (fun w7 hS7 hB7=>?_) (by simp [go_sem,Value.cells,g4])
      simp [zaw] at hB7
      simp [go_sem]
      apply hK;clear hK K
      refine zad ?_
      repeat first|refine za3 ?_|refine za2 ?_
      exact ret _ _ 3 (↑n+2) ⟨#[]⟩ 5 (hX.nextS hS7 hb1) hB7 (by simp [go_sem,g4]) (by simp [go_sem]) ee.symm (by intro h;cases h)
   ·have m58:¬(za9 s n).toNat=58:=by omega
    have ee:sgnE s n=5:=by simp only [sgnE,hsg,Bool.false_eq_true,if_false];rw [if_neg m58]
    have hb:=hB3.cell
    refine zaf (by simp [go_sem,n58,m58];rfl) rfl ?_
    refine zzr fun K hK=>?_
    simp [go_sem,g6,hb,za4,za1]
    refine zzs (b:=b1) (off:=0) [.int .i64 3,.int .i64 n,.int .i64 (↑n+1),.string ⟨#[]⟩] rfl zaR hA (fun w7 hS7 hB7=>?_) (by simp [go_sem,Value.cells,g4])
    simp [zaw] at hB7
    simp [go_sem]
    apply hK;clear hK K
    refine zad ?_
    repeat first|refine za3 ?_|refine za2 ?_
    exact ret _ _ 3 (↑n+1) ⟨#[]⟩ 5 (hX.nextS hS7 hb1) hB7 (by simp [go_sem,g4]) (by simp [go_sem]) ee.symm (by intro h;cases h)
 clear hK2
 refine zzr fun K hK=>?_
 simp [go_sem]
 apply hK;clear hK K
 by_cases n40:((za9 s n).toNat:Int)=40
 ·have m40:(za9 s n).toNat=40:=by omega
  refine zaf (by simp [go_sem,n40,m40];rfl) rfl ?_
  refine za7 ?_
  refine join _ _ rfl (by simp [go_sem]) (by simp [go_sem]) (by simp [go_sem]) (by simp [go_sem]) (by simp [go_sem]) ?_
  simp [go_sem,sgnB,n40,m40]
 ·have m40:¬(za9 s n).toNat=40:=by omega
  refine zaf (by simp [go_sem,n40,m40];rfl) rfl ?_
  refine zzr fun K hK=>?_
  simp [go_sem,n40,m40]
  apply hK;clear hK K
  by_cases n41:((za9 s n).toNat:Int)=41
  ·have m41:(za9 s n).toNat=41:=by omega
   refine zaf (by simp [go_sem,n41,m41];rfl) rfl ?_
   refine za7 ?_
   refine join _ _ rfl (by simp [go_sem]) (by simp [go_sem]) (by simp [go_sem]) (by simp [go_sem]) (by simp [go_sem]) ?_
   simp [go_sem,sgnB,n41,m41]
  ·have m41:¬(za9 s n).toNat=41:=by omega
   refine zaf (by simp [go_sem,n41,m41];rfl) rfl ?_
   refine zzr fun K hK=>?_
   simp [go_sem,n40,m40,n41,m41]
   apply hK;clear hK K
   by_cases n44:((za9 s n).toNat:Int)=44
   ·have m44:(za9 s n).toNat=44:=by omega
    refine zaf (by simp [go_sem,n44,m44];rfl) rfl ?_
    refine za7 ?_
    refine join _ _ rfl (by simp [go_sem]) (by simp [go_sem]) (by simp [go_sem]) (by simp [go_sem]) (by simp [go_sem]) ?_
    simp [go_sem,sgnB,n44,m44]
   ·have m44:¬(za9 s n).toNat=44:=by omega
    refine zaf (by simp [go_sem,n44,m44];rfl) rfl ?_
    refine zzr fun K hK=>?_
    simp [go_sem,n40,m40,n41,m41,n44,m44]
    apply hK;clear hK K
    by_cases n59:((za9 s n).toNat:Int)=59
    ·have m59:(za9 s n).toNat=59:=by omega
     refine zaf (by simp [go_sem,n59,m59];rfl) rfl ?_
     refine za7 ?_
     refine join _ _ rfl (by simp [go_sem]) (by simp [go_sem]) (by simp [go_sem]) (by simp [go_sem]) (by simp [go_sem]) ?_
     simp [go_sem,sgnB,n59,m59]
    ·have m59:¬(za9 s n).toNat=59:=by omega
     refine zaf (by simp [go_sem,n59,m59];rfl) rfl ?_
     refine zzr fun K hK=>?_
     simp [go_sem,n40,m40,n41,m41,n44,m44,n59,m59]
     apply hK;clear hK K
     by_cases n47:((za9 s n).toNat:Int)=47
     ·have m47:(za9 s n).toNat=47:=by omega
      refine zaf (by simp [go_sem,n47,m47];rfl) rfl ?_
      refine za7 ?_
      refine join _ _ rfl (by simp [go_sem]) (by simp [go_sem]) (by simp [go_sem]) (by simp [go_sem]) (by simp [go_sem]) ?_
      simp [go_sem,sgnB,n47,m47]
     ·have m47:¬(za9 s n).toNat=47:=by omega
      refine zaf (by simp [go_sem,n47,m47];rfl) rfl ?_
      refine zzt fun K hK=>?_
      simp [go_sem,n40,m40,n41,m41,n44,m44,n59,m59,n47,m47]
      apply hK;clear hK K
      refine join _ _ rfl (by simp [go_sem]) (by simp [go_sem]) (by simp [go_sem]) (by simp [go_sem]) (by simp [go_sem]) ?_
      simp [go_sem,sgnB,n40,m40,n41,m41,n44,m44,n59,m59,n47,m47]
theorem goOn_eq (L:Bool) (c:UInt8):goOn L c=(digB c.toNat || (L && letB c.toNat)):=by
 unfold goOn;rw [ze1,zeb]
def kL (L:Bool):Int:=if L then 1 else 2
def wrdE (L:Bool) (s:ByteArray) (n:Nat):Nat :=
 if L then (if 20<zaE true s n-n then 4 else 0)
 else (if 1<zaE false s n-n∧(za9 s n).toNat=48 then 5 else if 1000<zaE false s n-n then 4 else 0)
theorem word_any (s:ByteArray) (n:Nat) (w:World) (hs:s.size≤20000) (hn:n<s.size) :
  Calls Tryz.prog 37 #[.string s,.int .i64 n] w (TokP s w (if letB (za9 s n).toNat=true then 1 else 2) n (zaE (letB (za9 s n).toNat) s n) (wrdE (letB (za9 s n).toNat) s n)):=by
 have hs':s.size≤maxLen:=by unfold maxLen;omega
 refine za5 (rs:=[.cell 4 52,.tmp 5]) (n:=91) Tryz.func37 rfl rfl rfl (by kernel_rfl) ?_
 refine zzr fun K hK=>?_
 simp [go_sem]
 refine zza rfl zcb (fun w1 b1 hE1 hle1 hB1=>?_)
 simp [go_sem]
 apply hK;clear hK K
 refine zzr fun K hK=>?_
 simp [go_sem]
 refine zal #[.int .i64 2,.int .i64 n,.int .i64 n,.string ⟨#[]⟩] (by simp [go_sem]) rfl zd3 [(0,.int .i64 2),(1,.int .i64 n),(2,.int .i64 n)] (by simp [go_sem]) rfl ?_
 simp [go_sem]
 refine zza rfl zcb (fun w2 b2 hE2 hle2 hB2=>?_)
 simp [go_sem]
 refine zzs (b:=b2) (off:=0) [.int .i64 2,.int .i64 n,.int .i64 n,.string ⟨#[]⟩] rfl zaR hB2 (fun w3 hS3 hB3=>?_) (by simp [go_sem,Value.cells])
 simp [zaw] at hB3
 have hne:b1≠b2:=by have:=hB1.lt;omega
 have hb1:w.heap.size≤b1:=hle1
 have hX:Below w.heap.size w w3:=(hE1.next hE2).nextS hS3 (by have:=hE1.size;omega)
 have hA:Bx w3 b1 #[.int .i64 0,.int .i64 0,.int .i64 0,.string ⟨#[]⟩] 52:=(hB1.keep hE2).sto hS3 hne
 have hb2:w.heap.size≤b2:=by have:=hE1.size;omega
 clear hE1 hE2 hB1 hB2 hS3
 simp [go_sem]
 apply hK;clear hK K
 have hlt':(n:Int)<s.size:=by omega
 refine zab (fun K1 hK1=>?_)
 refine zzr fun K hK=>?_
 simp [go_sem,hn,hlt']
 refine zzc rfl Tryz.call35 (fun R hR=>?_)
 simp [go_sem,hn,hlt']
 refine (letter_any _ _).mono ?_
 rintro e w4 ⟨rfl,rfl⟩
 refine ⟨_,rfl,hR _ _ ?_⟩
 clear hR R
 simp [go_sem]
 apply hK;clear hK K
 generalize hL:letB ↑(za9 s n).toNat=L at hK1 ⊢
 have ret:∀ (g:G) (w5:World) (er:Nat),Below w.heap.size w w5→Bx w5 b1 #[.int .i64 (kL L),.int .i64 n,.int .i64 (zaE L s n),.string (s.extract n (zaE L s n))] 52→g 4 = .pointer (some ⟨b1,0,none⟩)→g 5 = .int .i64 er→er=wrdE L s n →
   fnQ Tryz.prog [.cell 4 52,.tmp 5] (TokP s w (if L=true then 1 else 2) n (zaE L s n) (wrdE L s n)) .ret g w5:=by
  intro g w5 er hX hA g4 g5 he
  have ha:=hA.cell
  refine ⟨by simp [zaD,go_sem,za1,ha,g4],[.int .i64 (kL L),.int .i64 n,.int .i64 (zaE L s n),.string (s.extract n (zaE L s n))],?_,rfl,?_,?_,hX⟩
  ·simp [go_sem,zar,zam,za4,ha,g4,g5,he]
  ·intro v hv;simp at hv;rcases hv with rfl|rfl|rfl|rfl<;>rfl
  ·intro h;cases L<;>rfl
 have main:∀ (g:G) (w5:World),Below w.heap.size w w5→Bx w5 b1 #[.int .i64 0,.int .i64 0,.int .i64 0,.string ⟨#[]⟩] 52→g 0 = .string s→g 1 = .int .i64 n→g 4 = .pointer (some ⟨b1,0,none⟩)→g 6 = .pointer (some ⟨b2,0,none⟩) →
   Bx w5 b2 #[.int .i64 (kL L),.int .i64 n,.int .i64 n,.string ⟨#[]⟩] 52→K1 g w5:=by
  clear hX hA hB3
  intro g w5 hX hA g0 g1 g4 g6 hB
  apply hK1;clear hK1 K1
  refine zab (fun K1 hK1=>?_)
  refine zac ?_
  refine zaz (fun m g w'=>Below w.heap.size w w'∧Bx w' b1 #[.int .i64 0,.int .i64 0,.int .i64 0,.string ⟨#[]⟩] 52∧∃ k:Nat,n≤k∧k≤s.size∧m=s.size-k∧g 0 = .string s∧g 1 = .int .i64 n∧g 4 = .pointer (some ⟨b1,0,none⟩)∧g 6 = .pointer (some ⟨b2,0,none⟩) ∧
   Bx w' b2 #[.int .i64 (kL L),.int .i64 n,.int .i64 k,.string ⟨#[]⟩] 52∧zaE L s k=zaE L s n) (s.size-n) ?_ ?_
  ·exact ⟨hX,hA,n,Nat.le_refl _,by omega,rfl,g0,g1,g4,g6,hB,rfl⟩
  ·clear g0 g1 g4 g6 hX hA hB
   rintro m g w' ⟨hX,hA,k,hnk,hk,rfl,g0,g1,g4,g6,hB,hM⟩
   have hb:=hB.cell
   refine zab (fun K2 hK2=>?_)
   refine zeH (fun g' w1=>w1=w'∧g' 0 = .string s∧g' 1 = .int .i64 n∧g' 4 = .pointer (some ⟨b1,0,none⟩)∧g' 6 = .pointer (some ⟨b2,0,none⟩)∧g' 38 = .bool (decide (k<s.size) && goOn L (za9 s k))) (by kernel_rfl) ?_ ?_
   ·by_cases hlt:k<s.size
    ·have hlt2:(k:Int)<s.size:=by omega
     rw [goOn_eq]
     simp [go_sem,g0,g1,g4,g6,hb,hlt,hlt2]
     refine zzc rfl Tryz.call36 (fun R hR=>?_)
     simp [go_sem,g0,g1,g4,g6,hb,hlt,hlt2]
     refine (digit_any _ _).mono ?_
     rintro e w1 ⟨rfl,rfl⟩
     refine ⟨_,rfl,hR _ _ ?_⟩
     clear hR R
     cases hd:digB ↑(za9 s k).toNat with
     | true =>
      simp [go_sem,g0,g1,g4,g6,hb,hlt,hlt2,hd]
     | false =>
      cases L with
      | true =>
       have ek:kL true=1:=rfl
       simp [go_sem,g0,g1,g4,g6,hb,hlt,hlt2,hd,ek]
       refine zzc rfl Tryz.call35 (fun R hR=>?_)
       simp [go_sem,g0,g1,g4,g6,hb,hlt,hlt2,hd,ek]
       refine (letter_any _ _).mono ?_
       rintro e w1 ⟨rfl,rfl⟩
       refine ⟨_,rfl,hR _ _ ?_⟩
       clear hR R
       simp [go_sem,g0,g1,g4,g6,hb,hlt,hlt2,hd,ek]
      | false =>
       have ek:kL false=2:=rfl
       simp [go_sem,g0,g1,g4,g6,hb,hlt,hlt2,hd,ek]
    ·have hlt2:¬(k:Int)<s.size:=by omega
     simp [go_sem,g0,g1,g4,g6,hb,hlt,hlt2]
   ·clear g0 g1 g4 g6
    rintro g' w1 ⟨rfl,g0,g1,g4,g6,g38⟩
    refine zaf g38 rfl ?_
    cases hc:(decide (k<s.size) && goOn L (za9 s k)) with
    | true =>
     have hlt:k<s.size:=by simp at hc;exact hc.1
     have hw1:IntKind.i64.wrap (↑k+1)=(k:Int)+1:=IntWalk.i64_in _ (by omega)
     refine za7 ?_
     apply hK2;clear hK2 K2
     refine zac ?_
     refine zzt fun K hK=>?_
     simp [go_sem,g6,hb]
     rw [hw1]
     refine zzs (b:=b2) (off:=2) [.int .i64 (↑k+1)] rfl zaQ hB (fun w5 hS5 hB5=>?_) (by simp [go_sem,Value.cells,g6,hb,hw1])
     simp [zaw] at hB5
     simp [go_sem]
     apply hK;clear hK K
     refine ⟨s.size-(k+1),by omega,hX.nextS hS5 hb2,hA.sto hS5 hne,k+1,by omega,by omega,rfl,by simp [go_sem,g0],by simp [go_sem,g1],by simp [go_sem,g4],by simp [go_sem,g6],hB5,?_⟩
     rw [←hM]
     unfold zaE
     rw [endN_step L s k,if_pos hc];omega
    | false =>
     have ez:zaE L s n=k:=by
      rw [←hM];unfold zaE
      rw [endN_step L s k,hc];rfl
     refine zav ?_
     repeat (first|refine zae ?_|refine za6 rfl ?_|refine za8 ?_)
     apply hK1;clear hK1 K1 hK2 K2
     clear hM hc g38
     have hw1:IntKind.i64.wrap (↑n+1)=(n:Int)+1:=IntWalk.i64_in _ (by omega)
     have hw2:IntKind.i64.wrap (↑k - ↑n)=(k:Int)-n:=IntWalk.i64_in _ (by omega)
     have i1:(n:Int)≤k:=by omega
     have i2:(k:Int)≤s.size:=by omega
     refine zzr fun K hK=>?_
     simp [go_sem,g0,g6,hb,i1,i2]
     refine zzs (b:=b2) (off:=3) [.string (s.extract n k)] rfl ty_size9 hB (fun w5 hS5 hB5=>?_) (by simp [go_sem,Value.cells,g0,g6,hb])
     simp [zaw] at hB5
     replace hA:=hA.sto hS5 hne
     replace hX:=hX.nextS hS5 hb2
     clear hS5 hB
     replace hb:=hB5.cell
     simp [go_sem]
     apply hK;clear hK K
     refine zab (fun K1 hK1=>?_)
     refine zeH (fun g' w1=>w1=w5∧g' 0 = .string s∧g' 1 = .int .i64 n∧g' 4 = .pointer (some ⟨b1,0,none⟩)∧g' 6 = .pointer (some ⟨b2,0,none⟩)∧g' 65 = .bool (!L && (decide ((za9 s n).toNat=48) && decide (n+1<k)))) (by kernel_rfl) ?_ ?_
     ·cases L with
      | true =>
       have ek:kL true=1:=rfl
       simp [go_sem,g0,g1,g4,g6,hb,ek,hlt',hn]
      | false =>
       have ek:kL false=2:=rfl
       by_cases i48:((za9 s n).toNat:Int)=48
       ·have n48:(za9 s n).toNat=48:=by omega
        by_cases hj:n+1<k
        ·have hj':(n:Int)+1<k:=by omega
         simp [go_sem,g0,g1,g4,g6,hb,ek,hlt',hn,i48,n48,hw1,hj,hj']
        ·have hj':¬(n:Int)+1<k:=by omega
         simp [go_sem,g0,g1,g4,g6,hb,ek,hlt',hn,i48,n48,hw1,hj,hj']
       ·have n48:¬(za9 s n).toNat=48:=by omega
        simp [go_sem,g0,g1,g4,g6,hb,ek,hlt',hn,i48,n48]
     ·clear g0 g1 g4 g6
      rintro g' w1 ⟨rfl,g0,g1,g4,g6,g65⟩
      refine zaf g65 rfl ?_
      cases hc:(!L && (decide ((za9 s n).toNat=48) && decide (n+1<k))) with
      | true =>
       have ee:wrdE L s n=5:=by
        simp at hc
        obtain ⟨rfl,h1,h2⟩:=hc
        unfold wrdE
        rw [if_neg (by decide),ez,if_pos ⟨by omega,h1⟩]
       refine zzr fun K hK=>?_
       simp [go_sem,g6,hb,za4,za1]
       refine zzs (b:=b1) (off:=0) [.int .i64 (kL L),.int .i64 n,.int .i64 k,.string (s.extract n k)] rfl zaR hA (fun w7 hS7 hB7=>?_) (by simp [go_sem,Value.cells,g4])
       simp [zaw] at hB7
       simp [go_sem]
       apply hK;clear hK K
       refine zad ?_
       repeat first|refine za3 ?_|refine za2 ?_
       refine ret _ _ 5 (hX.nextS hS7 hb1) ?_ ?_ ?_ ee.symm
       ·rw [ez];exact hB7
       ·simp [go_sem,g4]
       ·simp [go_sem]
      | false =>
       refine za7 ?_
       apply hK1;clear hK1 K1
       refine zab (fun K1 hK1=>?_)
       refine zeH (fun g' w2=>w2=w1∧g' 4 = .pointer (some ⟨b1,0,none⟩)∧g' 6 = .pointer (some ⟨b2,0,none⟩)∧g' 88 = .bool (decide ((if L=true then 20 else 1000)<k-n))) (by kernel_rfl) ?_ ?_
       ·cases L with
        | true =>
         have ek:kL true=1:=rfl
         by_cases hj:20<k-n
         ·have hj':(20:Int)<k-n:=by omega
          simp [go_sem,g0,g1,g4,g6,hb,ek,hw2,hj,hj']
         ·have hj':¬(20:Int)<k-n:=by omega
          simp [go_sem,g0,g1,g4,g6,hb,ek,hw2,hj,hj']
        | false =>
         have ek:kL false=2:=rfl
         by_cases hj:1000<k-n
         ·have hj':(1000:Int)<k-n:=by omega
          simp [go_sem,g0,g1,g4,g6,hb,ek,hw2,hj,hj']
         ·have hj':¬(1000:Int)<k-n:=by omega
          simp [go_sem,g0,g1,g4,g6,hb,ek,hw2,hj,hj']
       ·clear g0 g1 g4 g6
        rintro g' w2 ⟨rfl,g4,g6,g88⟩
        refine zaf g88 rfl ?_
        by_cases hj:(if L=true then 20 else 1000)<k-n
        ·have ee:wrdE L s n=4:=by
          unfold wrdE
          cases L with
          | true=>rw [if_pos rfl,ez,if_pos (by simpa using hj)]
          | false =>
           simp at hc hj
           rw [if_neg (by decide),ez,if_neg (by intro ⟨a,b⟩;have:=hc b;omega),if_pos hj]
         simp only [decide_eq_true hj]
         refine zzr fun K hK=>?_
         simp [go_sem,g6,hb,za4,za1]
         refine zzs (b:=b1) (off:=0) [.int .i64 (kL L),.int .i64 n,.int .i64 k,.string (s.extract n k)] rfl zaR hA (fun w7 hS7 hB7=>?_) (by simp [go_sem,Value.cells,g4])
         simp [zaw] at hB7
         simp [go_sem]
         apply hK;clear hK K
         refine zad ?_
         repeat first|refine za3 ?_|refine za2 ?_
         refine ret _ _ 4 (hX.nextS hS7 hb1) ?_ ?_ ?_ ee.symm
         ·rw [ez];exact hB7
         ·simp [go_sem,g4]
         ·simp [go_sem]
        ·have ee:wrdE L s n=0:=by
          unfold wrdE
          cases L with
          | true=>rw [if_pos rfl,ez,if_neg (by simpa using hj)]
          | false =>
           simp at hc hj
           rw [if_neg (by decide),ez,if_neg (by intro ⟨a,b⟩;have:=hc b;omega),if_neg (by omega)]
         simp only [decide_eq_false hj]
         refine za7 ?_
         apply hK1;clear hK1 K1
         refine zzr fun K hK=>?_
         simp [go_sem,g6,hb,za4,za1]
         refine zzs (b:=b1) (off:=0) [.int .i64 (kL L),.int .i64 n,.int .i64 k,.string (s.extract n k)] rfl zaR hA (fun w7 hS7 hB7=>?_) (by simp [go_sem,Value.cells,g4])
         simp [zaw] at hB7
         simp [go_sem]
         apply hK;clear hK K
         refine zad ?_
         repeat first|refine za3 ?_|refine za2 ?_
         refine ret _ _ 0 (hX.nextS hS7 hb1) ?_ ?_ ?_ ee.symm
         ·rw [ez];exact hB7
         ·simp [go_sem,g4]
         ·simp [go_sem]
 cases L with
 | true =>
  refine zaf (by simp [go_sem,hL];rfl) rfl ?_
  refine zzt fun K hK=>?_
  simp [go_sem]
  refine zzs (b:=b2) (off:=0) [.int .i64 1] rfl zaQ hB3 (fun w5 hS5 hB5=>?_) (by simp [go_sem,Value.cells])
  simp [zaw] at hB5
  simp [go_sem]
  apply hK;clear hK K
  exact main _ _ (hX.nextS hS5 hb2) (hA.sto hS5 hne) (by simp [go_sem]) (by simp [go_sem]) (by simp [go_sem]) (by simp [go_sem]) hB5
 | false =>
  refine zaf (by simp [go_sem,hL];rfl) rfl ?_
  refine za7 ?_
  exact main _ _ hX hA (by simp [go_sem]) (by simp [go_sem]) (by simp [go_sem]) (by simp [go_sem]) hB3
theorem tok_let (s:ByteArray) (q:Nat) (h:letB (za9 s q).toNat=true):zdw s q=wrdE true s q∧zeh s q=1∧zbt s q=zaE true s q:=by
 simp [zdw,zeh,zbt,wrdE,h]
theorem tok_dig (s:ByteArray) (q:Nat) (h:letB (za9 s q).toNat=false) (h2:digB (za9 s q).toNat=true):zdw s q=wrdE false s q∧zeh s q=2∧zbt s q=zaE false s q:=by
 simp [zdw,zeh,zbt,wrdE,h,h2]
theorem tok_sgn (s:ByteArray) (q:Nat) (h:letB (za9 s q).toNat=false) (h2:digB (za9 s q).toNat=false):zdw s q=sgnE s q∧zeh s q=3∧zbt s q=sgnZ s q:=by
 simp [zdw,zeh,zbt,sgnE,sgnZ,h,h2]
theorem allRef_any (s:ByteArray) (w:World) (hs:s.size≤maxLen) :
  Calls Tryz.prog 17 #[.string s] w (AllPost s w):=by
 refine za5 (rs:=[.tmp 2,.tmp 3,.tmp 4]) (n:=59) Tryz.func17 rfl rfl rfl (by kernel_rfl) ?_
 refine zzr fun K hK=>?_
 simp [go_sem]
 apply hK;clear hK K
 refine zab (fun K1 hK1=>?_)
 refine zzr fun K hK=>?_
 simp [go_sem]
 apply hK;clear hK K
 by_cases hbig:s.size≤20000
 ·have hbig':¬(20000:Int)<s.size:=by omega
  have hR:allR s=allAt s 0 []:=by unfold allR;rw [if_pos hbig]
  refine zaf (by simp [go_sem,hbig'];rfl) rfl ?_
  refine za7 ?_
  apply hK1;clear hK1 K1
  refine zzr fun K hK=>?_
  simp [go_sem]
  refine zzc rfl Tryz.call33 (fun R hR=>?_)
  simp [go_sem]
  refine (skip_any s 0 _ hs (by omega)).mono ?_
  rintro e w1 ⟨rfl,rfl⟩
  refine ⟨_,rfl,hR _ _ ?_⟩
  clear hR R
  simp [go_sem]
  apply hK;clear hK K
  refine zab (fun K1 hK1=>?_)
  refine zac ?_
  refine zaz (fun m g w'=>Below w.heap.size w w'∧∃ (k:Nat) (v:Value) (acc:List Tk),k≤s.size∧m=s.size-k∧g 0 = .string s∧g 2=v∧g 5 = .int .i64 (nxt s k)∧w'.ownsRow w.heap.size 52 4 v acc.length (tksC s acc)∧acc.length≤k∧allAt s k acc=allAt s 0 []) s.size ?_ ?_
  ·exact ⟨Below.refl _ _,0,.slice none 0 0,[],Nat.zero_le _,rfl,rfl,rfl,rfl,World.ownsRow_nil _ _ _ _,Nat.le_refl _,rfl⟩
  ·rintro m g w' ⟨hE,k,v,acc,hk,rfl,g0,g2,g5,hown,hacc,hall⟩
   obtain ⟨n1,n2⟩:=nxt_bound s k hk
   have hae:=zeG s k acc hk
   rw [hall] at hae
   generalize hq:nxt s k=q at *
   refine zab (fun K2 hK2=>?_)
   refine zzr fun K hK=>?_
   simp [go_sem,g0,g5]
   apply hK;clear hK K
   by_cases hlt:q<s.size
   ·have hlt':(q:Int)<s.size:=by omega
    rw [if_pos hlt] at hae
    refine zaf (by simp [go_sem,hlt,hlt'];rfl) rfl ?_
    refine za7 ?_
    apply hK2;clear hK2 K2
    refine zac ?_
    refine zzr fun K hK=>?_
    simp [go_sem,g0,g5]
    refine zzc rfl Tryz.call34 (fun R hR=>?_)
    simp [go_sem,g0,g5]
    refine (sign_any s q _ hbig hlt).mono ?_
    rintro e w5 ⟨cs,rfl,hl4,hone,hcs,hE5⟩
    refine ⟨_,rfl,hR _ _ ?_⟩
    clear hR R
    have hown5:w5.ownsRow w.heap.size 52 4 v acc.length (tksC s acc):=zas hown hE5
    replace hE:=hE.next hE5
    simp [go_sem]
    refine zza rfl zcb (fun w6 b6 hE6 hle6 hB6=>?_)
    simp [go_sem]
    refine zbG (b:=b6) (off:=0) cs (by simp [go_sem]) rfl (by simp [go_sem]) (by simp [go_sem,Value.cells]) (by rw [hl4];exact zaR) hB6 (by rw [hl4];simp) hone (by decide) (fun w7 hS7 hB7=>?_)
    rw [putC_all _ _ (by simp [hl4])] at hB7
    have hb6:w.heap.size≤b6:=by have:=hE.size;omega
    have hne:v.ownBlock≠some b6:=fun e=>by have:=(hown5.lt b6 e).2;omega
    have hown7:w7.ownsRow w.heap.size 52 4 v acc.length (tksC s acc):=zdV (zas hown5 hE6) hS7 hne
    replace hE:=(hE.next hE6).nextS hS7 hb6
    clear hown hown5 hE5 hE6 hS7 hB6
    simp [go_sem]
    apply hK;clear hK K
    refine zab (fun K2 hK2=>?_)
    have join:∀ (g':G) (wj:World) (er:Nat) (cs:List Value),Below w.heap.size w wj→wj.ownsRow w.heap.size 52 4 v acc.length (tksC s acc)→Bx wj b6 cs.toArray 52→g' 0 = .string s→g' 2=v→g' 5 = .int .i64 q→g' 6 = .pointer (some ⟨b6,0,none⟩)→g' 7 = .int .i64 er →
      er=zdw s q→(er=0→cs=tokC s (zeh s q,q,zbt s q))→K2 g' wj:=by
     clear hE hown7 hB7 hcs hl4 hone g0 g2 g5
     intro g' wj er cs hE hown7 hB7 g0 g2 g5 g6 g7 her hcs
     apply hK2;clear hK2 K2
     refine zab (fun K2 hK2=>?_)
     refine zzr fun K hK=>?_
     simp [go_sem,g7]
     apply hK;clear hK K
     by_cases he:er=0
     ·have he':(er:Int)=0:=by omega
      rw [if_pos (her▸he)] at hae
      obtain ⟨ht1,ht2⟩:=zdb s q hlt (her▸he)
      have e1:=hcs he
      unfold tokC at e1
      rw [e1] at hB7
      have hb:=hB7.cell
      refine zaf (by simp [go_sem,he,he'];rfl) rfl ?_
      refine za7 ?_
      apply hK2;clear hK2 K2
      refine zzr fun K hK=>?_
      simp [go_sem,g2,g6,hb,za4,za1]
      refine zak #[.int .i64 (zeh s q),.int .i64 q,.int .i64 (zbt s q),.string (s.extract q (zbt s q))] (by simp [go_sem]) rfl zdQ (by decide) [(0,.agg #[.int .i64 (zeh s q),.int .i64 q,.int .i64 (zbt s q),.string (s.extract q (zbt s q))])] (by simp [go_sem]) (by kernel_rfl) (fun w8 b8 hE8 hle8 hB8=>?_)
      have hown8:w8.ownsRow w.heap.size 52 4 v acc.length (tksC s acc):=zas hown7 hE8
      replace hB7:=hB7.keep hE8
      replace hE:=hE.next hE8
      clear hown7 hE8
      simp [go_sem]
      refine zbv (v:=v) (b:=b8) (len:=1) (c:=1) hB8 (by simp [go_sem]) rfl zdQ ty_bytes52 rfl (by decide) (by simp [go_sem,g2]) (by simp [go_sem]) hown8 rfl (by simp [Value.oneCell']) (by unfold maxLen;omega) (by omega) hE.size (by decide) (fun v' w9 hown9 hg9 _=>?_)
      replace hB7:=hB7.grown hg9 (fun e=>hne e.symm)
      replace hE:=hE.nextG hg9 (fun b e=>(hown8.lt b e).1)
      have hb:=hB7.cell
      have hown10:w9.ownsRow w.heap.size 52 4 v' (acc++[(zeh s q,q,zbt s q)]).length (tksC s (acc++[(zeh s q,q,zbt s q)])):=by
       rw [tksC_app,List.length_append];exact hown9
      simp [go_sem]
      apply hK;clear hK K
      refine zzt fun K hK=>?_
      simp [go_sem,g0,g6,hb]
      refine zzc rfl Tryz.call33 (fun R hR=>?_)
      simp [go_sem,g0,g6,hb]
      refine (skip_any s (zbt s q) _ hs ht2).mono ?_
      rintro e w10 ⟨rfl,rfl⟩
      refine ⟨_,rfl,hR _ _ ?_⟩
      clear hR R
      simp [go_sem]
      apply hK;clear hK K
      refine ⟨s.size-zbt s q,by omega,hE,zbt s q,v',acc++[(zeh s q,q,zbt s q)],ht2,rfl,by simp [go_sem,g0],by simp [go_sem],by simp [go_sem],hown10,by simp;omega,hae.symm⟩
     ·have he':¬(er:Int)=0:=by omega
      rw [if_neg (her▸he)] at hae
      have hR':allR s=([],q,zdw s q):=by rw [hR,hae]
      refine zaf (by simp [go_sem,he,he'];rfl) rfl ?_
      refine zzr fun K hK=>?_
      simp [go_sem,g5,g7]
      apply hK;clear hK K
      refine zad ?_
      repeat first|refine za3 ?_|refine za2 ?_
      refine ⟨trivial,none,0,?_,by rw [hR'];exact SL.nil _ _,hE⟩
      simp [go_sem,zar,zam,hR',her]
    refine zeH (fun g' wj=>wj=w7∧g' 0 = .string s∧g' 2=v∧g' 5 = .int .i64 q∧g' 6 = .pointer (some ⟨b6,0,none⟩)∧g' 7 = .int .i64 (sgnE s q)∧g' 32 = .bool (letB (za9 s q).toNat || digB (za9 s q).toNat)) (by kernel_rfl) ?_ ?_
    ·simp [go_sem,g0,g2,g5,hlt,hlt']
     refine zzc rfl Tryz.call35 (fun R hR=>?_)
     simp [go_sem,g0,g2,g5,hlt,hlt']
     refine (letter_any _ _).mono ?_
     rintro e w8 ⟨rfl,rfl⟩
     refine ⟨_,rfl,hR _ _ ?_⟩
     clear hR R
     cases hl:letB ↑(za9 s q).toNat with
     | true =>
      simp [go_sem,g0,g2,g5,hlt,hlt',hl]
     | false =>
      simp [go_sem,g0,g2,g5,hlt,hlt',hl]
      refine zzc rfl Tryz.call36 (fun R hR=>?_)
      simp [go_sem,g0,g2,g5,hlt,hlt',hl]
      refine (digit_any _ _).mono ?_
      rintro e w8 ⟨rfl,rfl⟩
      refine ⟨_,rfl,hR _ _ ?_⟩
      clear hR R
      simp [go_sem,g0,g2,g5,hlt,hlt',hl]
    ·clear g0 g2 g5
     rintro g' wj ⟨rfl,g0,g2,g5,g6,g7,g32⟩
     refine zaf g32 rfl ?_
     by_cases hld:letB (za9 s q).toNat=true∨digB (za9 s q).toNat=true
     ·have hldb:(letB (za9 s q).toNat || digB (za9 s q).toNat)=true:=by simpa using hld
      have hts:zdw s q=wrdE (letB (za9 s q).toNat) s q∧zeh s q=(if letB (za9 s q).toNat=true then 1 else 2)∧zbt s q=zaE (letB (za9 s q).toNat) s q:=by
       cases hl:letB (za9 s q).toNat with
       | true=>exact tok_let s q hl
       | false =>
        rw [hl] at hld
        exact tok_dig s q hl (by simpa using hld)
      obtain ⟨t1,t2,t3⟩:=hts
      simp only [hldb]
      refine zzt fun K hK=>?_
      simp [go_sem,g0,g5]
      refine zzc rfl Tryz.call37 (fun R hR=>?_)
      simp [go_sem,g0,g5]
      refine (word_any s q _ hbig hlt).mono ?_
      rintro e w8 ⟨cs2,rfl,hl42,hone2,hcs2,hE8⟩
      refine ⟨_,rfl,hR _ _ ?_⟩
      clear hR R
      replace hB7:=hB7.keep hE8
      replace hown7:=zas hown7 hE8
      replace hE:=hE.next hE8
      clear hE8
      simp [go_sem,g6]
      refine zbG (b:=b6) (off:=0) cs2 (by simp [go_sem]) rfl (by simp [go_sem,g6]) (by simp [go_sem,Value.cells]) (by rw [hl42];exact zaR) hB7 (by rw [hl42];simp [hl4]) hone2 (by decide) (fun w9 hS9 hB9=>?_)
      rw [putC_all _ _ (by simp [hl42,hl4])] at hB9
      replace hown7:=zdV hown7 hS9 hne
      replace hE:=hE.nextS hS9 hb6
      simp [go_sem]
      apply hK;clear hK K
      refine join _ _ _ cs2 hE hown7 hB9 (by simp [go_sem,g0]) (by simp [go_sem,g2]) (by simp [go_sem,g5]) (by simp [go_sem,g6]) (by simp [go_sem]) t1.symm ?_
      intro h;rw [t2,t3];exact hcs2 h
     ·have hldb:(letB (za9 s q).toNat || digB (za9 s q).toNat)=false:=by
       simp at hld;simp [hld]
      simp at hld
      obtain ⟨t1,t2,t3⟩:=tok_sgn s q hld.1 hld.2
      simp only [hldb]
      refine za7 ?_
      refine join _ _ _ cs hE hown7 hB7 g0 g2 g5 g6 g7 t1.symm ?_
      intro h;rw [t2,t3];exact hcs h
   ·rw [if_neg hlt] at hae
    have hR':allR s=(acc++[(0,s.size,s.size)],0,0):=by rw [hR,hae]
    refine zaf (by simp [go_sem,hlt];rfl) rfl ?_
    refine zav ?_
    repeat (first|refine zae ?_|refine za6 rfl ?_|refine za8 ?_)
    apply hK1;clear hK1 K1 hK2 K2
    refine zzr fun K hK=>?_
    simp [go_sem,g0,g2]
    refine zal #[.int .i64 0,.int .i64 s.size,.int .i64 s.size,.string ⟨#[]⟩] (by simp [go_sem]) rfl zd3 [(0,.int .i64 0),(1,.int .i64 s.size),(2,.int .i64 s.size)] (by simp [go_sem]) rfl ?_
    simp [go_sem]
    refine zak #[.int .i64 0,.int .i64 s.size,.int .i64 s.size,.string ⟨#[]⟩] (by simp [go_sem]) rfl zdQ (by decide) [(0,.agg #[.int .i64 0,.int .i64 s.size,.int .i64 s.size,.string ⟨#[]⟩])] (by simp [go_sem]) (by kernel_rfl) (fun w8 b8 hE8 hle8 hB8=>?_)
    have hown8:w8.ownsRow w.heap.size 52 4 v acc.length (tksC s acc):=zas hown hE8
    replace hE:=hE.next hE8
    simp [go_sem]
    refine zbv (v:=v) (b:=b8) (len:=1) (c:=1) hB8 (by simp [go_sem]) rfl zdQ ty_bytes52 rfl (by decide) (by simp [go_sem,g2]) (by simp [go_sem]) hown8 rfl (by simp [Value.oneCell']) (by unfold maxLen;omega) (by omega) hE.size (by decide) (fun v' w9 hown9 hg9 _=>?_)
    replace hE:=hE.nextG hg9 (fun b e=>(hown8.lt b e).1)
    simp [go_sem]
    apply hK;clear hK K
    obtain ⟨a,c,rfl⟩:=zbf hown9
    refine zad ?_
    repeat first|refine za3 ?_|refine za2 ?_
    refine ⟨trivial,a,c,?_,?_,hE⟩
    ·simp [go_sem,zar,zam,hR']
    ·rw [hR']
     show SL _ a (tksC s (acc++[(0,s.size,s.size)]))
     rw [tksC_app]
     have e2:tokC s (0,s.size,s.size)=[.int .i64 0,.int .i64 s.size,.int .i64 s.size,.string ⟨#[]⟩]:=by
      simp only [tokC,extract_nil]
      first|rfl|skip
     rw [e2]
     exact zca hown9
 ·have hbig':(20000:Int)<s.size:=by omega
  have hR:allR s=([],0,4):=by unfold allR;rw [if_neg hbig]
  refine zaf (by simp [go_sem,hbig'];rfl) rfl ?_
  refine zzr fun K hK=>?_
  simp [go_sem]
  apply hK;clear hK K
  refine zad ?_
  repeat first|refine za3 ?_|refine za2 ?_
  refine ⟨trivial,none,0,?_,by rw [hR];exact SL.nil _ _,Below.refl _ _⟩
  simp [go_sem,zar,zam,hR]
end Go.Proofs.YtefhenfofomjhaaGreat
