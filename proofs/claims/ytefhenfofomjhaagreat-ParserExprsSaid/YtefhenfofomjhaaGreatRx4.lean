/- The reference's parser: the expression of a string. -/
import Derived.Test.YtefhenfofomjhaaGreatLxG
set_option linter.unusedSimpArgs false
set_option linter.unusedVariables false
namespace Go.Proofs.YtefhenfofomjhaaGreat
open Go.RowKit Go.V Go.ChangeMaps
set_option maxRecDepth 20000
theorem goOn_eq (L:Bool) (c:UInt8):goOn L c=(digB c.toNat || (L && letB c.toNat)):=by
 unfold goOn;rw [zdB,zdM]
def kL (L:Bool):Int:=if L then 1 else 2
def wrdE (L:Bool) (s:ByteArray) (n:Nat):Nat :=
 if L then (if 20<zaF true s n-n then 4 else 0)
 else (if 1<zaF false s n-n∧(za9 s n).toNat=48 then 5 else if 1000<zaF false s n-n then 4 else 0)
set_option maxHeartbeats 4000000 in
theorem word_any (s:ByteArray) (n:Nat) (w:World) (hs:s.size≤20000) (hn:n<s.size) :
  Calls Tryz.prog 37 #[.string s,.int .i64 n] w (TokP s w (if letB (za9 s n).toNat=true then 1 else 2) n (zaF (letB (za9 s n).toNat) s n) (wrdE (letB (za9 s n).toNat) s n)):=by
 have hs':s.size≤maxLen:=by unfold maxLen;omega
 refine za7 (args:=[.string s,.int .i64 n]) (rs:=[.cell 4 52,.tmp 5]) (n:=91) Tryz.func37 rfl rfl rfl (by kernel_rfl) ?_
 first|refine zzr fun K hK=>?_|refine zzt fun K hK=>?_
 simp [go_sem]
 refine zam (by simp [go_sem]) rfl zc0 (fun w1 b1 hE1 hle1 hB1=>?_)
 simp [go_sem]
 refine hK _ _ ?_;clear hK K
 first|refine zzr fun K hK=>?_|refine zzt fun K hK=>?_
 simp [go_sem]
 refine zal #[.int .i64 2,.int .i64 n,.int .i64 n,.string ⟨#[]⟩] (by simp [go_sem]) rfl zcN [(0,.int .i64 2),(1,.int .i64 n),(2,.int .i64 n)] (by simp [go_sem]) rfl ?_
 simp [go_sem]
 refine zam (by simp [go_sem]) rfl zc0 (fun w2 b2 hE2 hle2 hB2=>?_)
 simp [go_sem]
 refine za6 (b:=b2) (off:=0) [.int .i64 2,.int .i64 n,.int .i64 n,.string ⟨#[]⟩] (by simp [go_sem]) rfl (by simp [go_sem]) (by simp [go_sem,Value.cells]) zaT hB2 (by simp) (by simp [Value.oneCell']) (by decide) (fun w3 hS3 hB3=>?_)
 simp [zaD] at hB3
 have hne:b1≠b2:=by have:=hB1.lt;omega
 have hb1:w.heap.size≤b1:=hle1
 have hX:Below w.heap.size w w3:=(hE1.next hE2).nextS hS3 (by have:=hE1.size;omega)
 have hA:Bx w3 b1 #[.int .i64 0,.int .i64 0,.int .i64 0,.string ⟨#[]⟩] 52:=(hB1.keep hE2).sto hS3 hne
 have hb2:w.heap.size≤b2:=by have:=hE1.size;omega
 clear hE1 hE2 hB1 hB2 hS3
 simp [go_sem]
 refine hK _ _ ?_;clear hK K
 have hlt':(n:Int)<s.size:=by omega
 refine zac (fun K1 hK1=>?_)
 first|refine zzr fun K hK=>?_|refine zzt fun K hK=>?_
 simp [go_sem,hn,hlt']
 refine za5 (by simp [go_sem,hn,hlt']) rfl Tryz.call35 (fun R hR=>?_)
 simp [go_sem,hn,hlt']
 refine (letter_any _ _).mono ?_
 rintro e w4 ⟨rfl,rfl⟩
 refine ⟨_,rfl,hR _ _ ?_⟩
 clear hR R
 simp [go_sem]
 refine hK _ _ ?_;clear hK K
 generalize hL:letB ↑(za9 s n).toNat=L at hK1 ⊢
 have ret:∀ (g:G) (w5:World) (er:Nat),Below w.heap.size w w5→Bx w5 b1 #[.int .i64 (kL L),.int .i64 n,.int .i64 (zaF L s n),.string (s.extract n (zaF L s n))] 52→g 4 = .pointer (some ⟨b1,0,none⟩)→g 5 = .int .i64 er→er=wrdE L s n →
   fnQ Tryz.prog [.cell 4 52,.tmp 5] (TokP s w (if L=true then 1 else 2) n (zaF L s n) (wrdE L s n)) .ret g w5:=by
  intro g w5 er hX hA g4 g5 he
  have ha:=hA.cell
  refine ⟨by simp [zaO,go_sem,za1,ha,g4],[.int .i64 (kL L),.int .i64 n,.int .i64 (zaF L s n),.string (s.extract n (zaF L s n))],?_,rfl,?_,?_,hX⟩
  ·simp [go_sem,zat,zas,za4,ha,g4,g5,he]
  ·intro v hv;simp at hv;rcases hv with rfl|rfl|rfl|rfl<;>rfl
  ·intro h;cases L<;>rfl
 have main:∀ (g:G) (w5:World),Below w.heap.size w w5→Bx w5 b1 #[.int .i64 0,.int .i64 0,.int .i64 0,.string ⟨#[]⟩] 52→g 0 = .string s→g 1 = .int .i64 n→g 4 = .pointer (some ⟨b1,0,none⟩)→g 6 = .pointer (some ⟨b2,0,none⟩) →
   Bx w5 b2 #[.int .i64 (kL L),.int .i64 n,.int .i64 n,.string ⟨#[]⟩] 52→K1 g w5:=by
  clear hX hA hB3
  intro g w5 hX hA g0 g1 g4 g6 hB
  refine hK1 _ _ ?_;clear hK1 K1
  refine zac (fun K1 hK1=>?_)
  refine zae ?_
  refine zaE (fun m g w'=>Below w.heap.size w w'∧Bx w' b1 #[.int .i64 0,.int .i64 0,.int .i64 0,.string ⟨#[]⟩] 52∧∃ k:Nat,n≤k∧k≤s.size∧m=s.size-k∧g 0 = .string s∧g 1 = .int .i64 n∧g 4 = .pointer (some ⟨b1,0,none⟩)∧g 6 = .pointer (some ⟨b2,0,none⟩) ∧
   Bx w' b2 #[.int .i64 (kL L),.int .i64 n,.int .i64 k,.string ⟨#[]⟩] 52∧zaF L s k=zaF L s n) (s.size-n) ?_ ?_
  ·exact ⟨hX,hA,n,Nat.le_refl _,by omega,rfl,g0,g1,g4,g6,hB,rfl⟩
  ·clear g0 g1 g4 g6 hX hA hB
   rintro m g w' ⟨hX,hA,k,hnk,hk,rfl,g0,g1,g4,g6,hB,hM⟩
   have hb:=hB.cell
   refine zac (fun K2 hK2=>?_)
   refine zei (fun g' w1=>w1=w'∧g' 0 = .string s∧g' 1 = .int .i64 n∧g' 4 = .pointer (some ⟨b1,0,none⟩)∧g' 6 = .pointer (some ⟨b2,0,none⟩)∧g' 38 = .bool (decide (k<s.size) && goOn L (za9 s k))) (by kernel_rfl) ?_ ?_
   ·by_cases hlt:k<s.size
    ·have hlt2:(k:Int)<s.size:=by omega
     rw [goOn_eq]
     simp [go_sem,g0,g1,g4,g6,hb,hlt,hlt2]
     refine za5 (by simp [go_sem,g0,g1,g4,g6,hb,hlt,hlt2]) rfl Tryz.call36 (fun R hR=>?_)
     simp [go_sem,g0,g1,g4,g6,hb,hlt,hlt2]
     refine (digit_any _ _).mono ?_
     rintro e w1 ⟨rfl,rfl⟩
     refine ⟨_,rfl,hR _ _ ?_⟩
     clear hR R
     cases hd:digB ↑(za9 s k).toNat with
     | true =>
      simp [go_sem,g0,g1,g4,g6,hb,hlt,hlt2,hd]
     | false =>
      cases L with
      | true =>
       have ek:kL true=1:=rfl
       simp [go_sem,g0,g1,g4,g6,hb,hlt,hlt2,hd,ek]
       refine za5 (by simp [go_sem,g0,g1,g4,g6,hb,hlt,hlt2,hd,ek]) rfl Tryz.call35 (fun R hR=>?_)
       simp [go_sem,g0,g1,g4,g6,hb,hlt,hlt2,hd,ek]
       refine (letter_any _ _).mono ?_
       rintro e w1 ⟨rfl,rfl⟩
       refine ⟨_,rfl,hR _ _ ?_⟩
       clear hR R
       simp [go_sem,g0,g1,g4,g6,hb,hlt,hlt2,hd,ek]
      | false =>
       have ek:kL false=2:=rfl
       simp [go_sem,g0,g1,g4,g6,hb,hlt,hlt2,hd,ek]
    ·have hlt2:¬(k:Int)<s.size:=by omega
     simp [go_sem,g0,g1,g4,g6,hb,hlt,hlt2]
   ·clear g0 g1 g4 g6
    rintro g' w1 ⟨rfl,g0,g1,g4,g6,g38⟩
    refine zai g38 rfl ?_
    cases hc:(decide (k<s.size) && goOn L (za9 s k)) with
    | true =>
     have hlt:k<s.size:=by simp at hc;exact hc.1
     have hw1:IntKind.i64.wrap (↑k+1)=(k:Int)+1:=IntWalk.i64_in _ (by omega)
     refine zaa ?_
     refine hK2 _ _ ?_;clear hK2 K2
     refine zae ?_
     refine zzt fun K hK=>?_
     simp [go_sem,g6,hb]
     rw [hw1]
     refine za6 (b:=b2) (off:=2) [.int .i64 (↑k+1)] (by simp [go_sem,g6,hb,hw1]) rfl (by simp [go_sem,g6,hb,hw1]) (by simp [go_sem,Value.cells,g6,hb,hw1]) zb2 hB (by simp) (by simp [Value.oneCell']) (by decide) (fun w5 hS5 hB5=>?_)
     simp [zaD] at hB5
     simp [go_sem]
     refine hK _ _ ?_;clear hK K
     refine ⟨s.size-(k+1),by omega,hX.nextS hS5 hb2,hA.sto hS5 hne,k+1,by omega,by omega,rfl,by simp [go_sem,g0],by simp [go_sem,g1],by simp [go_sem,g4],by simp [go_sem,g6],hB5,?_⟩
     rw [←hM]
     unfold zaF
     rw [endN_step L s k,if_pos hc];omega
    | false =>
     have ez:zaF L s n=k:=by
      rw [←hM];unfold zaF
      rw [endN_step L s k,hc];rfl
     refine zaz ?_
     repeat (first|refine zag ?_|refine za8 rfl ?_|refine zab ?_)
     refine hK1 _ _ ?_;clear hK1 K1 hK2 K2
     clear hM hc g38
     have hw1:IntKind.i64.wrap (↑n+1)=(n:Int)+1:=IntWalk.i64_in _ (by omega)
     have hw2:IntKind.i64.wrap (↑k - ↑n)=(k:Int)-n:=IntWalk.i64_in _ (by omega)
     have i1:(n:Int)≤k:=by omega
     have i2:(k:Int)≤s.size:=by omega
     first|refine zzr fun K hK=>?_|refine zzt fun K hK=>?_
     simp [go_sem,g0,g6,hb,i1,i2]
     refine za6 (b:=b2) (off:=3) [.string (s.extract n k)] (by simp [go_sem,g0,g6,hb]) rfl (by simp [go_sem,g0,g6,hb]) (by simp [go_sem,Value.cells,g0,g6,hb]) ty_size9 hB (by simp) (by simp [Value.oneCell']) (by decide) (fun w5 hS5 hB5=>?_)
     simp [zaD] at hB5
     replace hA:=hA.sto hS5 hne
     replace hX:=hX.nextS hS5 hb2
     clear hS5 hB
     replace hb:=hB5.cell
     simp [go_sem]
     refine hK _ _ ?_;clear hK K
     refine zac (fun K1 hK1=>?_)
     refine zei (fun g' w1=>w1=w5∧g' 0 = .string s∧g' 1 = .int .i64 n∧g' 4 = .pointer (some ⟨b1,0,none⟩)∧g' 6 = .pointer (some ⟨b2,0,none⟩)∧g' 65 = .bool (!L && (decide ((za9 s n).toNat=48) && decide (n+1<k)))) (by kernel_rfl) ?_ ?_
     ·cases L with
      | true =>
       have ek:kL true=1:=rfl
       simp [go_sem,g0,g1,g4,g6,hb,ek,hlt',hn]
      | false =>
       have ek:kL false=2:=rfl
       by_cases i48:((za9 s n).toNat:Int)=48
       ·have n48:(za9 s n).toNat=48:=by omega
        by_cases hj:n+1<k
        ·have hj':(n:Int)+1<k:=by omega
         simp [go_sem,g0,g1,g4,g6,hb,ek,hlt',hn,i48,n48,hw1,hj,hj']
        ·have hj':¬(n:Int)+1<k:=by omega
         simp [go_sem,g0,g1,g4,g6,hb,ek,hlt',hn,i48,n48,hw1,hj,hj']
       ·have n48:¬(za9 s n).toNat=48:=by omega
        simp [go_sem,g0,g1,g4,g6,hb,ek,hlt',hn,i48,n48]
     ·clear g0 g1 g4 g6
      rintro g' w1 ⟨rfl,g0,g1,g4,g6,g65⟩
      refine zai g65 rfl ?_
      cases hc:(!L && (decide ((za9 s n).toNat=48) && decide (n+1<k))) with
      | true =>
       have ee:wrdE L s n=5:=by
        simp at hc
        obtain ⟨rfl,h1,h2⟩:=hc
        unfold wrdE
        rw [if_neg (by decide),ez,if_pos ⟨by omega,h1⟩]
       first|refine zzr fun K hK=>?_|refine zzt fun K hK=>?_
       simp [go_sem,g6,hb,za4,za1]
       refine za6 (b:=b1) (off:=0) [.int .i64 (kL L),.int .i64 n,.int .i64 k,.string (s.extract n k)] (by simp [go_sem,g4]) rfl (by simp [go_sem,g4]) (by simp [go_sem,Value.cells,g4]) zaT hA (by simp) (by simp [Value.oneCell']) (by decide) (fun w7 hS7 hB7=>?_)
       simp [zaD] at hB7
       simp [go_sem]
       refine hK _ _ ?_;clear hK K
       refine zaf ?_
       repeat (first|refine za3 ?_|refine za2 ?_)
       refine ret _ _ 5 (hX.nextS hS7 hb1) ?_ ?_ ?_ ee.symm
       ·rw [ez];exact hB7
       ·simp [go_sem,g4]
       ·simp [go_sem]
      | false =>
       refine zaa ?_
       refine hK1 _ _ ?_;clear hK1 K1
       refine zac (fun K1 hK1=>?_)
       refine zei (fun g' w2=>w2=w1∧g' 4 = .pointer (some ⟨b1,0,none⟩)∧g' 6 = .pointer (some ⟨b2,0,none⟩)∧g' 88 = .bool (decide ((if L=true then 20 else 1000)<k-n))) (by kernel_rfl) ?_ ?_
       ·cases L with
        | true =>
         have ek:kL true=1:=rfl
         by_cases hj:20<k-n
         ·have hj':(20:Int)<k-n:=by omega
          simp [go_sem,g0,g1,g4,g6,hb,ek,hw2,hj,hj']
         ·have hj':¬(20:Int)<k-n:=by omega
          simp [go_sem,g0,g1,g4,g6,hb,ek,hw2,hj,hj']
        | false =>
         have ek:kL false=2:=rfl
         by_cases hj:1000<k-n
         ·have hj':(1000:Int)<k-n:=by omega
          simp [go_sem,g0,g1,g4,g6,hb,ek,hw2,hj,hj']
         ·have hj':¬(1000:Int)<k-n:=by omega
          simp [go_sem,g0,g1,g4,g6,hb,ek,hw2,hj,hj']
       ·clear g0 g1 g4 g6
        rintro g' w2 ⟨rfl,g4,g6,g88⟩
        refine zai g88 rfl ?_
        by_cases hj:(if L=true then 20 else 1000)<k-n
        ·have ee:wrdE L s n=4:=by
          unfold wrdE
          cases L with
          | true=>rw [if_pos rfl,ez,if_pos (by simpa using hj)]
          | false =>
           simp at hc hj
           rw [if_neg (by decide),ez,if_neg (by intro ⟨a,b⟩;have:=hc b;omega),if_pos hj]
         simp only [decide_eq_true hj]
         first|refine zzr fun K hK=>?_|refine zzt fun K hK=>?_
         simp [go_sem,g6,hb,za4,za1]
         refine za6 (b:=b1) (off:=0) [.int .i64 (kL L),.int .i64 n,.int .i64 k,.string (s.extract n k)] (by simp [go_sem,g4]) rfl (by simp [go_sem,g4]) (by simp [go_sem,Value.cells,g4]) zaT hA (by simp) (by simp [Value.oneCell']) (by decide) (fun w7 hS7 hB7=>?_)
         simp [zaD] at hB7
         simp [go_sem]
         refine hK _ _ ?_;clear hK K
         refine zaf ?_
         repeat (first|refine za3 ?_|refine za2 ?_)
         refine ret _ _ 4 (hX.nextS hS7 hb1) ?_ ?_ ?_ ee.symm
         ·rw [ez];exact hB7
         ·simp [go_sem,g4]
         ·simp [go_sem]
        ·have ee:wrdE L s n=0:=by
          unfold wrdE
          cases L with
          | true=>rw [if_pos rfl,ez,if_neg (by simpa using hj)]
          | false =>
           simp at hc hj
           rw [if_neg (by decide),ez,if_neg (by intro ⟨a,b⟩;have:=hc b;omega),if_neg (by omega)]
         simp only [decide_eq_false hj]
         refine zaa ?_
         refine hK1 _ _ ?_;clear hK1 K1
         first|refine zzr fun K hK=>?_|refine zzt fun K hK=>?_
         simp [go_sem,g6,hb,za4,za1]
         refine za6 (b:=b1) (off:=0) [.int .i64 (kL L),.int .i64 n,.int .i64 k,.string (s.extract n k)] (by simp [go_sem,g4]) rfl (by simp [go_sem,g4]) (by simp [go_sem,Value.cells,g4]) zaT hA (by simp) (by simp [Value.oneCell']) (by decide) (fun w7 hS7 hB7=>?_)
         simp [zaD] at hB7
         simp [go_sem]
         refine hK _ _ ?_;clear hK K
         refine zaf ?_
         repeat (first|refine za3 ?_|refine za2 ?_)
         refine ret _ _ 0 (hX.nextS hS7 hb1) ?_ ?_ ?_ ee.symm
         ·rw [ez];exact hB7
         ·simp [go_sem,g4]
         ·simp [go_sem]
 cases L with
 | true =>
  refine zai (by simp [go_sem,hL];rfl) rfl ?_
  refine zzt fun K hK=>?_
  simp [go_sem]
  refine za6 (b:=b2) (off:=0) [.int .i64 1] (by simp [go_sem]) rfl (by simp [go_sem]) (by simp [go_sem,Value.cells]) zb2 hB3 (by simp) (by simp [Value.oneCell']) (by decide) (fun w5 hS5 hB5=>?_)
  simp [zaD] at hB5
  simp [go_sem]
  refine hK _ _ ?_;clear hK K
  exact main _ _ (hX.nextS hS5 hb2) (hA.sto hS5 hne) (by simp [go_sem]) (by simp [go_sem]) (by simp [go_sem]) (by simp [go_sem]) hB5
 | false =>
  refine zai (by simp [go_sem,hL];rfl) rfl ?_
  refine zaa ?_
  exact main _ _ hX hA (by simp [go_sem]) (by simp [go_sem]) (by simp [go_sem]) (by simp [go_sem]) hB3
theorem tok_let (s:ByteArray) (q:Nat) (h:letB (za9 s q).toNat=true):zd8 s q=wrdE true s q∧zdT s q=1∧zbt s q=zaF true s q:=by
 simp [zd8,zdT,zbt,wrdE,h]
theorem tok_dig (s:ByteArray) (q:Nat) (h:letB (za9 s q).toNat=false) (h2:digB (za9 s q).toNat=true):zd8 s q=wrdE false s q∧zdT s q=2∧zbt s q=zaF false s q:=by
 simp [zd8,zdT,zbt,wrdE,h,h2]
theorem tok_sgn (s:ByteArray) (q:Nat) (h:letB (za9 s q).toNat=false) (h2:digB (za9 s q).toNat=false):zd8 s q=sgnE s q∧zdT s q=3∧zbt s q=sgnZ s q:=by
 simp [zd8,zdT,zbt,sgnE,sgnZ,h,h2]
set_option maxHeartbeats 4000000 in
theorem allRef_any (s:ByteArray) (w:World) (hs:s.size≤maxLen) :
  Calls Tryz.prog 17 #[.string s] w (AllPost s w):=by
 refine za7 (args:=[.string s]) (rs:=[.tmp 2,.tmp 3,.tmp 4]) (n:=59) Tryz.func17 rfl rfl rfl (by kernel_rfl) ?_
 first|refine zzr fun K hK=>?_|refine zzt fun K hK=>?_
 simp [go_sem]
 refine hK _ _ ?_;clear hK K
 refine zac (fun K1 hK1=>?_)
 first|refine zzr fun K hK=>?_|refine zzt fun K hK=>?_
 simp [go_sem]
 refine hK _ _ ?_;clear hK K
 by_cases hbig:s.size≤20000
 ·have hbig':¬(20000:Int)<s.size:=by omega
  have hR:allR s=allAt s 0 []:=by unfold allR;rw [if_pos hbig]
  refine zai (by simp [go_sem,hbig'];rfl) rfl ?_
  refine zaa ?_
  refine hK1 _ _ ?_;clear hK1 K1
  first|refine zzr fun K hK=>?_|refine zzt fun K hK=>?_
  simp [go_sem]
  refine za5 (by simp [go_sem]) rfl Tryz.call33 (fun R hR=>?_)
  simp [go_sem]
  refine (skip_any s 0 _ hs (by omega)).mono ?_
  rintro e w1 ⟨rfl,rfl⟩
  refine ⟨_,rfl,hR _ _ ?_⟩
  clear hR R
  simp [go_sem]
  refine hK _ _ ?_;clear hK K
  refine zac (fun K1 hK1=>?_)
  refine zae ?_
  refine zaE (fun m g w'=>Below w.heap.size w w'∧∃ (k:Nat) (v:Value) (acc:List Tk),k≤s.size∧m=s.size-k∧g 0 = .string s∧g 2=v∧g 5 = .int .i64 (nxt s k)∧w'.ownsRow w.heap.size 52 4 v acc.length (tksC s acc)∧acc.length≤k∧allAt s k acc=allAt s 0 []) s.size ?_ ?_
  ·exact ⟨Below.refl _ _,0,.slice none 0 0,[],Nat.zero_le _,rfl,rfl,rfl,rfl,World.ownsRow_nil _ _ _ _,Nat.le_refl _,rfl⟩
  ·rintro m g w' ⟨hE,k,v,acc,hk,rfl,g0,g2,g5,hown,hacc,hall⟩
   obtain ⟨n1,n2⟩:=nxt_bound s k hk
   have hae:=zeg s k acc hk
   rw [hall] at hae
   generalize hq:nxt s k=q at *
   refine zac (fun K2 hK2=>?_)
   first|refine zzr fun K hK=>?_|refine zzt fun K hK=>?_
   simp [go_sem,g0,g5]
   refine hK _ _ ?_;clear hK K
   by_cases hlt:q<s.size
   ·have hlt':(q:Int)<s.size:=by omega
    rw [if_pos hlt] at hae
    refine zai (by simp [go_sem,hlt,hlt'];rfl) rfl ?_
    refine zaa ?_
    refine hK2 _ _ ?_;clear hK2 K2
    refine zae ?_
    first|refine zzr fun K hK=>?_|refine zzt fun K hK=>?_
    simp [go_sem,g0,g5]
    refine za5 (by simp [go_sem,g0,g5]) rfl Tryz.call34 (fun R hR=>?_)
    simp [go_sem,g0,g5]
    refine (sign_any s q _ hbig hlt).mono ?_
    rintro e w5 ⟨cs,rfl,hl4,hone,hcs,hE5⟩
    refine ⟨_,rfl,hR _ _ ?_⟩
    clear hR R
    have hown5:w5.ownsRow w.heap.size 52 4 v acc.length (tksC s acc):=zaS hown hE5
    replace hE:=hE.next hE5
    simp [go_sem]
    refine zam (by simp [go_sem]) rfl zc0 (fun w6 b6 hE6 hle6 hB6=>?_)
    simp [go_sem]
    refine za6 (b:=b6) (off:=0) cs (by simp [go_sem]) rfl (by simp [go_sem]) (by simp [go_sem,Value.cells]) (by rw [hl4];exact zaT) hB6 (by rw [hl4];simp) hone (by decide) (fun w7 hS7 hB7=>?_)
    rw [putC_all _ _ (by simp [hl4])] at hB7
    have hb6:w.heap.size≤b6:=by have:=hE.size;omega
    have hne:v.ownBlock≠some b6:=fun e=>by have:=(hown5.lt b6 e).2;omega
    have hown7:w7.ownsRow w.heap.size 52 4 v acc.length (tksC s acc):=zeh (zaS hown5 hE6) hS7 hne
    replace hE:=(hE.next hE6).nextS hS7 hb6
    clear hown hown5 hE5 hE6 hS7 hB6
    simp [go_sem]
    refine hK _ _ ?_;clear hK K
    refine zac (fun K2 hK2=>?_)
    have join:∀ (g':G) (wj:World) (er:Nat) (cs:List Value),Below w.heap.size w wj→wj.ownsRow w.heap.size 52 4 v acc.length (tksC s acc)→Bx wj b6 cs.toArray 52→g' 0 = .string s→g' 2=v→g' 5 = .int .i64 q→g' 6 = .pointer (some ⟨b6,0,none⟩)→g' 7 = .int .i64 er →
      er=zd8 s q→(er=0→cs=tokC s (zdT s q,q,zbt s q))→K2 g' wj:=by
     clear hE hown7 hB7 hcs hl4 hone g0 g2 g5
     intro g' wj er cs hE hown7 hB7 g0 g2 g5 g6 g7 her hcs
     refine hK2 _ _ ?_;clear hK2 K2
     refine zac (fun K2 hK2=>?_)
     first|refine zzr fun K hK=>?_|refine zzt fun K hK=>?_
     simp [go_sem,g7]
     refine hK _ _ ?_;clear hK K
     by_cases he:er=0
     ·have he':(er:Int)=0:=by omega
      rw [if_pos (her▸he)] at hae
      obtain ⟨ht1,ht2⟩:=zcT s q hlt (her▸he)
      have e1:=hcs he
      unfold tokC at e1
      rw [e1] at hB7
      have hb:=hB7.cell
      refine zai (by simp [go_sem,he,he'];rfl) rfl ?_
      refine zaa ?_
      refine hK2 _ _ ?_;clear hK2 K2
      first|refine zzr fun K hK=>?_|refine zzt fun K hK=>?_
      simp [go_sem,g2,g6,hb,za4,za1]
      refine zaq #[.int .i64 (zdT s q),.int .i64 q,.int .i64 (zbt s q),.string (s.extract q (zbt s q))] (by simp [go_sem]) rfl zdp (by decide) [(0,.agg #[.int .i64 (zdT s q),.int .i64 q,.int .i64 (zbt s q),.string (s.extract q (zbt s q))])] (by simp [go_sem]) (by kernel_rfl) (fun w8 b8 hE8 hle8 hB8=>?_)
      have hown8:w8.ownsRow w.heap.size 52 4 v acc.length (tksC s acc):=zaS hown7 hE8
      replace hB7:=hB7.keep hE8
      replace hE:=hE.next hE8
      clear hown7 hE8
      simp [go_sem]
      refine zbz (v:=v) (b:=b8) (len:=1) (c:=1) hB8 (by simp [go_sem]) rfl zdp ty_bytes52 rfl (by decide) (by simp [go_sem,g2]) (by simp [go_sem]) hown8 rfl (by simp [Value.oneCell']) (by unfold maxLen;omega) (by omega) hE.size (by decide) (fun v' w9 hown9 hg9 _=>?_)
      replace hB7:=hB7.grown hg9 (fun e=>hne e.symm)
      replace hE:=hE.nextG hg9 (fun b e=>(hown8.lt b e).1)
      have hb:=hB7.cell
      have hown10:w9.ownsRow w.heap.size 52 4 v' (acc++[(zdT s q,q,zbt s q)]).length (tksC s (acc++[(zdT s q,q,zbt s q)])):=by
       rw [tksC_app,List.length_append];exact hown9
      simp [go_sem]
      refine hK _ _ ?_;clear hK K
      refine zzt fun K hK=>?_
      simp [go_sem,g0,g6,hb]
      refine za5 (by simp [go_sem,g0,g6,hb]) rfl Tryz.call33 (fun R hR=>?_)
      simp [go_sem,g0,g6,hb]
      refine (skip_any s (zbt s q) _ hs ht2).mono ?_
      rintro e w10 ⟨rfl,rfl⟩
      refine ⟨_,rfl,hR _ _ ?_⟩
      clear hR R
      simp [go_sem]
      refine hK _ _ ?_;clear hK K
      refine ⟨s.size-zbt s q,by omega,hE,zbt s q,v',acc++[(zdT s q,q,zbt s q)],ht2,rfl,by simp [go_sem,g0],by simp [go_sem],by simp [go_sem],hown10,by simp;omega,hae.symm⟩
     ·have he':¬(er:Int)=0:=by omega
      rw [if_neg (her▸he)] at hae
      have hR':allR s=([],q,zd8 s q):=by rw [hR,hae]
      refine zai (by simp [go_sem,he,he'];rfl) rfl ?_
      first|refine zzr fun K hK=>?_|refine zzt fun K hK=>?_
      simp [go_sem,g5,g7]
      refine hK _ _ ?_;clear hK K
      refine zaf ?_
      repeat (first|refine za3 ?_|refine za2 ?_)
      refine ⟨trivial,none,0,?_,by rw [hR'];exact SL.nil _ _,hE⟩
      simp [go_sem,zat,zas,hR',her]
    refine zei (fun g' wj=>wj=w7∧g' 0 = .string s∧g' 2=v∧g' 5 = .int .i64 q∧g' 6 = .pointer (some ⟨b6,0,none⟩)∧g' 7 = .int .i64 (sgnE s q)∧g' 32 = .bool (letB (za9 s q).toNat || digB (za9 s q).toNat)) (by kernel_rfl) ?_ ?_
    ·simp [go_sem,g0,g2,g5,hlt,hlt']
     refine za5 (by simp [go_sem,g0,g2,g5,hlt,hlt']) rfl Tryz.call35 (fun R hR=>?_)
     simp [go_sem,g0,g2,g5,hlt,hlt']
     refine (letter_any _ _).mono ?_
     rintro e w8 ⟨rfl,rfl⟩
     refine ⟨_,rfl,hR _ _ ?_⟩
     clear hR R
     cases hl:letB ↑(za9 s q).toNat with
     | true =>
      simp [go_sem,g0,g2,g5,hlt,hlt',hl]
     | false =>
      simp [go_sem,g0,g2,g5,hlt,hlt',hl]
      refine za5 (by simp [go_sem,g0,g2,g5,hlt,hlt',hl]) rfl Tryz.call36 (fun R hR=>?_)
      simp [go_sem,g0,g2,g5,hlt,hlt',hl]
      refine (digit_any _ _).mono ?_
      rintro e w8 ⟨rfl,rfl⟩
      refine ⟨_,rfl,hR _ _ ?_⟩
      clear hR R
      simp [go_sem,g0,g2,g5,hlt,hlt',hl]
    ·clear g0 g2 g5
     rintro g' wj ⟨rfl,g0,g2,g5,g6,g7,g32⟩
     refine zai g32 rfl ?_
     by_cases hld:letB (za9 s q).toNat=true∨digB (za9 s q).toNat=true
     ·have hldb:(letB (za9 s q).toNat || digB (za9 s q).toNat)=true:=by simpa using hld
      have hts:zd8 s q=wrdE (letB (za9 s q).toNat) s q∧zdT s q=(if letB (za9 s q).toNat=true then 1 else 2)∧zbt s q=zaF (letB (za9 s q).toNat) s q:=by
       cases hl:letB (za9 s q).toNat with
       | true=>exact tok_let s q hl
       | false =>
        rw [hl] at hld
        exact tok_dig s q hl (by simpa using hld)
      obtain ⟨t1,t2,t3⟩:=hts
      simp only [hldb]
      refine zzt fun K hK=>?_
      simp [go_sem,g0,g5]
      refine za5 (by simp [go_sem,g0,g5]) rfl Tryz.call37 (fun R hR=>?_)
      simp [go_sem,g0,g5]
      refine (word_any s q _ hbig hlt).mono ?_
      rintro e w8 ⟨cs2,rfl,hl42,hone2,hcs2,hE8⟩
      refine ⟨_,rfl,hR _ _ ?_⟩
      clear hR R
      replace hB7:=hB7.keep hE8
      replace hown7:=zaS hown7 hE8
      replace hE:=hE.next hE8
      clear hE8
      simp [go_sem,g6]
      refine za6 (b:=b6) (off:=0) cs2 (by simp [go_sem]) rfl (by simp [go_sem,g6]) (by simp [go_sem,Value.cells]) (by rw [hl42];exact zaT) hB7 (by rw [hl42];simp [hl4]) hone2 (by decide) (fun w9 hS9 hB9=>?_)
      rw [putC_all _ _ (by simp [hl42,hl4])] at hB9
      replace hown7:=zeh hown7 hS9 hne
      replace hE:=hE.nextS hS9 hb6
      simp [go_sem]
      refine hK _ _ ?_;clear hK K
      refine join _ _ _ cs2 hE hown7 hB9 (by simp [go_sem,g0]) (by simp [go_sem,g2]) (by simp [go_sem,g5]) (by simp [go_sem,g6]) (by simp [go_sem]) t1.symm ?_
      intro h;rw [t2,t3];exact hcs2 h
     ·have hldb:(letB (za9 s q).toNat || digB (za9 s q).toNat)=false:=by
       simp at hld;simp [hld]
      simp at hld
      obtain ⟨t1,t2,t3⟩:=tok_sgn s q hld.1 hld.2
      simp only [hldb]
      refine zaa ?_
      refine join _ _ _ cs hE hown7 hB7 g0 g2 g5 g6 g7 t1.symm ?_
      intro h;rw [t2,t3];exact hcs h
   ·rw [if_neg hlt] at hae
    have hR':allR s=(acc++[(0,s.size,s.size)],0,0):=by rw [hR,hae]
    refine zai (by simp [go_sem,hlt];rfl) rfl ?_
    refine zaz ?_
    repeat (first|refine zag ?_|refine za8 rfl ?_|refine zab ?_)
    refine hK1 _ _ ?_;clear hK1 K1 hK2 K2
    first|refine zzr fun K hK=>?_|refine zzt fun K hK=>?_
    simp [go_sem,g0,g2]
    refine zal #[.int .i64 0,.int .i64 s.size,.int .i64 s.size,.string ⟨#[]⟩] (by simp [go_sem]) rfl zcN [(0,.int .i64 0),(1,.int .i64 s.size),(2,.int .i64 s.size)] (by simp [go_sem]) rfl ?_
    simp [go_sem]
    refine zaq #[.int .i64 0,.int .i64 s.size,.int .i64 s.size,.string ⟨#[]⟩] (by simp [go_sem]) rfl zdp (by decide) [(0,.agg #[.int .i64 0,.int .i64 s.size,.int .i64 s.size,.string ⟨#[]⟩])] (by simp [go_sem]) (by kernel_rfl) (fun w8 b8 hE8 hle8 hB8=>?_)
    have hown8:w8.ownsRow w.heap.size 52 4 v acc.length (tksC s acc):=zaS hown hE8
    replace hE:=hE.next hE8
    simp [go_sem]
    refine zbz (v:=v) (b:=b8) (len:=1) (c:=1) hB8 (by simp [go_sem]) rfl zdp ty_bytes52 rfl (by decide) (by simp [go_sem,g2]) (by simp [go_sem]) hown8 rfl (by simp [Value.oneCell']) (by unfold maxLen;omega) (by omega) hE.size (by decide) (fun v' w9 hown9 hg9 _=>?_)
    replace hE:=hE.nextG hg9 (fun b e=>(hown8.lt b e).1)
    simp [go_sem]
    refine hK _ _ ?_;clear hK K
    obtain ⟨a,c,rfl⟩:=zcB hown9
    refine zaf ?_
    repeat (first|refine za3 ?_|refine za2 ?_)
    refine ⟨trivial,a,c,?_,?_,hE⟩
    ·simp [go_sem,zat,zas,hR']
    ·rw [hR']
     show SL _ a (tksC s (acc++[(0,s.size,s.size)]))
     rw [tksC_app]
     have e2:tokC s (0,s.size,s.size)=[.int .i64 0,.int .i64 s.size,.int .i64 s.size,.string ⟨#[]⟩]:=by
      simp only [tokC,extract_nil]
      first|rfl|skip
     rw [e2]
     exact zdz hown9
 ·have hbig':(20000:Int)<s.size:=by omega
  have hR:allR s=([],0,4):=by unfold allR;rw [if_neg hbig]
  refine zai (by simp [go_sem,hbig'];rfl) rfl ?_
  first|refine zzr fun K hK=>?_|refine zzt fun K hK=>?_
  simp [go_sem]
  refine hK _ _ ?_;clear hK K
  refine zaf ?_
  repeat (first|refine za3 ?_|refine za2 ?_)
  refine ⟨trivial,none,0,?_,by rw [hR];exact SL.nil _ _,Below.refl _ _⟩
  simp [go_sem,zat,zas,hR]
end Go.Proofs.YtefhenfofomjhaaGreat
namespace Go.Proofs.YtefhenfofomjhaaGreat
open Go Go.RowKit Go.V
set_option maxRecDepth 20000
def topN (T:List Tok):Nat→Int
 | 0=>1
 | j+1=>if kofS T 0 (2+j)≠0 then 2+j else topN T j
theorem topN_2 (T:List Tok):topN T 2=if (zan T 0).k=1 then topS (zan T 0).t else 1:=by
 unfold topN topN topN topS kofS
 by_cases h:(zan T 0).k=1
 ·simp [h]
 ·simp [h]
theorem topN_range (T:List Tok):∀ j,j≤2→0≤topN T j∧topN T j≤4
 | 0,_=>by unfold topN;omega
 | j+1,h=>by
  have:=topN_range T j (by omega)
  unfold topN;split<;>omega
set_option maxHeartbeats 4000000 in
theorem refExpr_any (s:ByteArray) (w:World) (hs:s.size≤maxLen):Calls Tryz.prog 6 #[.string s] w (ExprPost w (exprV s)):=by
 obtain ⟨V,hV⟩:∃ V,V=exprV s:=⟨_,rfl⟩
 rw [←hV]
 unfold exprV at hV
 refine za7 (args:=[.string s]) (rs:=[.cell 2 30,.tmp 3,.tmp 4]) (n:=62) Tryz.func6 rfl rfl rfl (by kernel_rfl) ?_
 have hA0:=Below.refl w.heap.size w
 first|refine zzr fun K hK=>?_|refine zzt fun K hK=>?_
 simp [go_sem,za0,za4,za1]
 refine zam (by simp [go_sem,za0,za4,za1]) rfl zbd (fun w1 b1 hE1 hle1 hB1=>?_)
 have hb1_0:=Nat.le_trans hA0.size hle1
 replace hA0:=hA0.next hE1
 simp [go_sem,za0,za4,za1,hB1.cell]
 refine hK _ _ ?_;clear hK K
 first|refine zzr fun K hK=>?_|refine zzt fun K hK=>?_
 simp [go_sem,za0,za4,za1,hB1.cell]
 refine za5 (by simp [go_sem,za0,za4,za1,hB1.cell]) rfl Tryz.call17 (fun R hR=>?_)
 simp [go_sem,za0,za4,za1,hB1.cell]
 refine (allRef_any s _ hs).mono ?_
 rintro e w2 ⟨la,cap,rfl,hsl,hE2⟩
 refine ⟨_,rfl,hR _ _ ?_⟩
 clear hR R
 replace hA0:=hA0.next hE2
 replace hB1:=hB1.keep hE2
 simp [go_sem,za0,za4,za1,hB1.cell]
 refine hK _ _ ?_;clear hK K
 refine zac (fun K1 hK1=>?_)
 first|refine zzr fun K hK=>?_|refine zzt fun K hK=>?_
 simp [go_sem,za0,za4,za1,hB1.cell]
 refine hK _ _ ?_;clear hK K
 by_cases he:(allR s).2.2=0
 ·rw [if_pos he] at hV
  have he':((allR s).2.2:Int)=0:=by omega
  have hW:=wf_tok he
  rw [expr_eq hW] at hV
  have hlen:(allR s).1.length=(tokT s).length:=by simp [tokT]
  have hsv:tksC s (allR s).1=zc9 (tokT s):=(toks_tks s _).symm
  rw [hlen] at *
  rw [hsv] at hsl
  generalize tokT s=T at *
  have hpos:=hW.pos
  have hlan:=la_ne hsl hpos hB1
  have hlal:=la_lt hsl hpos
  obtain ⟨lb,lo,rfl,_⟩:=toks_len hsl hpos
  have hlb1:lb≠b1:=hlan _ rfl
  refine zai (t:=false) (by simp [go_sem,za0,za4,za1,hB1.cell, he',he]) rfl ?_
  refine zaa ?_
  refine hK1 _ _ ?_
  first|refine zzr fun K hK=>?_|refine zzt fun K hK=>?_
  simp [go_sem,za0,za4,za1,hB1.cell]
  refine hK _ _ ?_;clear hK K
  refine zac (fun K2 hK2=>?_)
  first|refine zzr fun K hK=>?_|refine zzt fun K hK=>?_
  simp [go_sem,za0,za4,za1,hB1.cell]
  refine zaq #[.int .i64 2,.int .i64 3] (by simp [go_sem,za0,za4,za1,hB1.cell]) rfl ze1 (by decide) [(0,.int .i64 2),(1,.int .i64 3)] (by simp [go_sem,za0,za4,za1,hB1.cell]) (by kernel_rfl) (fun w30 b30 hE30 hle30 hB30=>?_)
  have hb30_0:=Nat.le_trans hA0.size hle30
  have hd1_30:b1≠b30:=Nat.ne_of_lt (Nat.lt_of_lt_of_le hB1.lt hle30)
  replace hA0:=hA0.next hE30
  replace hB1:=hB1.keep hE30
  simp [go_sem,za0,za4,za1,hB1.cell,hB30.cell]
  replace hsl:=hsl.ext hE30
  have hps:SL w30 (some ⟨b30,0,none⟩) (intC [2,3]):=intC_sl (l:=[2,3]) hB30
  refine hK _ _ ?_;clear hK K
  refine zae ?_
  refine zaE (fun m' g w'=>Below w.heap.size w w'∧Bx w' b1 #[.int .i64 0,.string ⟨#[]⟩,.bool false,.slice none 0 0,.slice none 0 0,.slice none 0 0,.int .i64 0] 30∧SL w' (some ⟨lb,lo,none⟩) (zc9 T)∧Bx w' b30 #[.int .i64 2,.int .i64 3] 3∧∃ j:Nat,j≤2∧m'=2-j∧g 2 = .pointer (some ⟨b1,0,none⟩)∧g 5 = .slice (some ⟨lb,lo,none⟩) T.length cap∧g 6 = .int .i64 (topN T j)∧g 21 = .slice (some ⟨b30,0,none⟩) 2 2∧g 22 = .int .i64 2∧g 23 = .int .i64 j) 2 ?_ ?_
  ·exact ⟨hA0,hB1,hsl,hB30,0,by omega,rfl,by simp [go_sem],by simp [go_sem],by simp [go_sem,topN],by simp [go_sem],by simp [go_sem],by simp [go_sem]⟩
  clear hA0 hB1 hB30 hsl hps
  rintro m' g w' ⟨hA0,hB1,hsl,hB30,j,hj,rfl,g2,g5,g6,g21,g22,g23⟩
  by_cases hlt:j<2
  ·have c1:(j:Int)<2:=by omega
   have hw1:IntKind.i64.wrap ((j:Int)+1)=(j+1:Nat):=by rw [IntWalk.i64_in _ (by omega)];omega
   have q1:w'.cell? ⟨b30,j,none⟩=some (.int .i64 (2+j:Int)):=by
    rw [hB30.cell]
    have:j=0∨j=1:=by omega
    rcases this with rfl|rfl<;>rfl
   obtain ⟨r1,r2,_⟩:=zdq hsl hpos
   simp only [Option.getD_some,za0] at r1 r2
   rw [Nat.zero_mul,Nat.add_zero] at r1 r2
   have hkc:∀ w:World,Calls Tryz.prog 18 #[.agg (zbH (zan T 0)).toArray,.int .i64 (2+j:Int)] w fun e w'=>e = .returned (.int .i64 (kofS T 0 (2+j)))∧Below w.heap.size w w':=fun w=>zdW (zan T 0) (2+j) w
   first|refine zzr fun K hK=>?_|refine zzt fun K hK=>?_
   simp [go_sem,za0,za4,za1,hB1.cell,hB30.cell,g2,g5,g6,g21,g22,g23, c1]
   refine hK _ _ ?_;clear hK K
   refine zac (fun K3 hK3=>?_)
   refine zai (t:=true) (by simp [go_sem,za0,za4,za1,hB1.cell,hB30.cell,g2,g5,g6,g21,g22,g23,c1]) rfl ?_
   refine zaa ?_
   refine hK3 _ _ ?_
   refine zac (fun K4 hK4=>?_)
   refine zae ?_
   first|refine zzr fun K hK=>?_|refine zzt fun K hK=>?_
   simp [go_sem,za0,za4,za1,hB1.cell,g2,g5,g6,g21,g22,g23, c1,q1]
   refine hK _ _ ?_;clear hK K
   first|refine zzr fun K hK=>?_|refine zzt fun K hK=>?_
   simp [go_sem,za0,hB1.cell,g2,g5,g6,g21,g22,g23, r1,r2,hpos]
   refine za5 (by simp [go_sem,za0,hB1.cell,g2,g5,g6,g21,g22,g23,r1,r2,hpos]) rfl Tryz.call18 (fun R hR=>?_)
   simp [go_sem,za0,hB1.cell,g2,g5,g6,g21,g22,g23,r1,r2,hpos]
   refine (hkc _).mono ?_
   rintro e w40 ⟨rfl,hE40⟩
   refine ⟨_,rfl,hR _ _ ?_⟩
   clear hR R
   replace hA0:=hA0.next hE40
   replace hB1:=hB1.keep hE40
   replace hB30:=hB30.keep hE40
   replace hsl:=hsl.ext hE40
   simp [go_sem,za0,hB1.cell,g2,g5,g6,g21,g22,g23,za4,za1]
   refine hK _ _ ?_;clear hK K
   by_cases hk0:kofS T 0 (2+j)=0
   ·have ht:topN T (j+1)=topN T j:=by unfold topN;rw [if_neg (fun h=>h hk0)];cases j<;>rfl
    refine zai (t:=false) (by simp [go_sem,za0,hB1.cell,g2,g5,g6,g21,g22,g23,za4,za1,hk0]) rfl ?_
    refine zaa ?_
    refine hK4 _ _ ?_
    refine zzt fun K hK=>?_
    simp [go_sem,g23,hw1]
    refine hK _ _ ⟨2-(j+1),by omega,hA0,hB1,hsl,hB30,j+1,by omega,rfl,by simp [go_sem,g2],by simp [go_sem,g5],by rw [ht];simp [go_sem,g6],by simp [go_sem,g21],by simp [go_sem,g22],by simp [go_sem]⟩
   ·have ht:topN T (j+1)=2+j:=by unfold topN;rw [if_pos hk0]
    refine zai (t:=true) (by simp [go_sem,za0,hB1.cell,g2,g5,g6,g21,g22,g23,za4,za1,hk0]) rfl ?_
    refine zzt fun K hK=>?_
    simp [go_sem]
    refine hK _ _ ?_;clear hK K
    refine hK4 _ _ ?_
    refine zzt fun K hK=>?_
    simp [go_sem,g23,hw1]
    refine hK _ _ ⟨2-(j+1),by omega,hA0,hB1,hsl,hB30,j+1,by omega,rfl,by simp [go_sem,g2],by simp [go_sem,g5],by rw [ht];simp [go_sem],by simp [go_sem,g21],by simp [go_sem,g22],by simp [go_sem]⟩
  ·have hje:j=2:=by omega
   subst hje
   obtain ⟨S,hS⟩:∃ S,S=topN T 2:=⟨_,rfl⟩
   have hSr:=topN_range T 2 (by omega)
   have hV2:V=(match argS T 20 S 0 with | .er j e=>(ex0,(zan T j).p,e) | .ok x j=>if (zan T j).k=0 then (x,0,0) else (ex0,(zan T j).p,5)):=by rw [hV,hS,topN_2];rfl
   rw [←hS] at g6 hSr
   first|refine zzr fun K hK=>?_|refine zzt fun K hK=>?_
   simp [go_sem,za0,za4,za1,hB1.cell,hB30.cell,g2,g5,g6,g21,g22,g23]
   refine hK _ _ ?_;clear hK K
   refine zac (fun K3 hK3=>?_)
   refine zai (t:=false) (by simp [go_sem,za0,za4,za1,hB1.cell,hB30.cell,g2,g5,g6,g21,g22,g23]) rfl ?_
   refine zaz ?_
   repeat (first|refine zag ?_|refine za8 rfl ?_|refine zab ?_)
   refine hK2 _ _ ?_
   have hG0:=hA0.size
   have h1l:=hB1.lt
   first|refine zzr fun K hK=>?_|refine zzt fun K hK=>?_
   simp [go_sem,za0,za4,za1,hB1.cell,hB30.cell,g2,g5,g6,g21,g22,g23]
   refine za5 (by simp [go_sem,za0,za4,za1,hB1.cell,hB30.cell,g2,g5,g6,g21,g22,g23]) rfl Tryz.call19 (fun R hR=>?_)
   simp [go_sem,za0,za4,za1,hB1.cell,hB30.cell,g2,g5,g6,g21,g22,g23]
   refine (rarg_any hW 20 (by omega) _ 0 S hSr hpos hsl).mono ?_
   rintro e w50 ⟨Rx,rfl,hxe,hE50⟩
   refine ⟨_,rfl,hR _ _ ?_⟩
   clear hR R
   replace hA0:=hA0.next hE50
   replace hB1:=hB1.keep hE50
   replace hB30:=hB30.keep hE50
   replace hsl:=hsl.ext hE50
   obtain ⟨r,hr⟩:∃ r,r=argS T 20 S 0:=⟨_,rfl⟩
   have hrl:=arg_lt hW 20 S 0 hpos
   have hra:=arg_agr hW (a0:=0) 20 S 0 hSr
   rw [←hr] at hxe hV2 hrl hra ⊢
   obtain ⟨x,hx⟩:∃ x,x=resX r:=⟨_,rfl⟩
   rw [←hx] at hxe
   obtain ⟨xa,xc,xb,xd,xad,xcap,xrows,hRx,_⟩:=hxe.open
   subst hRx
   replace hxe:=hxe.mono (F':=fun k=>w.heap.size≤k∧k≠b1) (fun k hk=>⟨Nat.le_trans hG0 hk,fun e=>by subst e;exact absurd hk (Nat.not_le.2 h1l)⟩)
   simp [go_sem,za0,za4,za1,hB1.cell,hB30.cell,g2,g5,g6,g21,g22,g23]
   refine za6 (b:=b1) (off:=0) [.int .i64 x.kind,.string ⟨x.name.toArray⟩,.bool x.neg,.slice xa x.num.length xc,.slice xb x.den.length xd,.slice xad x.args.length xcap,.int .i64 x.pos] (by simp [go_sem,za0,za4,za1,hB1.cell,hB30.cell,g2,g5,g6,g21,g22,g23]) rfl (by simp [go_sem,za0,za4,za1,hB1.cell,hB30.cell,g2,g5,g6,g21,g22,g23]) (by simp [go_sem,Value.cells,za0,za4,za1,hB1.cell,hB30.cell,g2,g5,g6,g21,g22,g23]) zaw hB1 (by simp) (by simp [Value.oneCell']) (by decide) (fun w60 hS60 hB60=>?_)
   simp [zaD] at hB60
   replace hA0:=hA0.nextS hS60 (by first|exact hb1_0|omega)
   replace hxe:=hxe.ch (Ch.of_sto hS60 (NL.of_bx hB1 (by intro u hu x e;subst e;simp at hu))) (by intro k hk e;subst e;first|exact hk.2 rfl|omega)
   replace hB30:=hB30.sto hS60 (by first|exact hd30_1|exact (hd1_30).symm)
   simp [go_sem,za0,za4,za1,hB30.cell,g2,g5,g6,g21,g22,g23,hB60.cell]
   replace hsl:=hsl.sto hS60 (fun ad ha _=>by injection ha with ha;subst ha;exact hlb1)
   refine hK _ _ ?_;clear hK K
   refine zac (fun K5 hK5=>?_)
   have tailE:∀ (g:G) (j:Nat) (e2:Int),¬e2=0→j<T.length→V=(ex0,((zan T j).p:Int),e2)→g 2 = .pointer (some ⟨b1,0,none⟩)→g 5 = .slice (some ⟨lb,lo,none⟩) T.length cap→g 9 = .int .i64 j→g 4 = .int .i64 e2→K5 g w60:=by
    clear g2 g5
    intro g j e2 he2 hj hV3 g2 g5 g9 g4
    have hj':(j:Int)<T.length:=by omega
    refine hK5 _ _ ?_
    refine zac (fun K6 hK6=>?_)
    first|refine zzr fun K hK=>?_|refine zzt fun K hK=>?_
    simp [go_sem,za0,za4,za1,hB30.cell,g2,g5,hB60.cell,g9,g4, he2]
    refine hK _ _ ?_;clear hK K
    refine zai (t:=true) (by simp [go_sem,za0,za4,za1,hB30.cell,g2,g5,hB60.cell,g9,g4,he2]) rfl ?_
    obtain ⟨c0,cp,ct⟩:=zck (hsl.ext (Below.drew1 _)) hj
    have hwb1:w.heap.size≤b1:=hle1
    have hD61:=Below.drew1 w60
    replace hA0:=hA0.next hD61
    replace hB60:=hB60.keep hD61
    replace hB30:=hB30.keep hD61
    replace hxe:=hxe.ext hD61
    first|refine W_rdS ([⟨lb,lo+j*4+1,none⟩]) [(1,0),(2,0),(3,0),(4,0),(5,0),(6,0),(0,1),(7,1),(8,0),(9,0)] (by kernel_rfl) (by kernel_rfl) (fun K hK=>?_)|refine W_drawS ([⟨lb,lo+j*4+1,none⟩]) [(1,0),(2,0),(3,0),(4,0),(5,0),(6,0),(0,1),(7,1),(8,0),(9,0)] (by kernel_rfl) (by kernel_rfl) (fun K hK=>?_)
    simp [go_sem,za0,za4,za1,hB30.cell,g2,g5,hB60.cell,g9,g4,hj,hj',cp]
    have hkp:Keep ([⟨lb,lo+j*4+1,none⟩]) w60.drew w60.drew:=keep_refl _ _
    have hbL:∀ a∈[(⟨lb,lo+j*4+1,none⟩:Addr)],a.block≠b1:=by
     intro a ha
     simp only [List.mem_cons,List.not_mem_nil,or_false] at ha
     subst ha;exact hlb1
    refine zal #[.int .i64 0,.string ⟨#[]⟩,.bool false,.slice none 0 0,.slice none 0 0,.slice none 0 0,.int .i64 0] (by simp [go_sem]) rfl zb3 [] (by simp [go_sem]) rfl ?_
    refine zcV hkp ?_
    simp [go_sem,za0,za4,za1,hB30.cell,g2,g5,hB60.cell,g9,g4,hj,hj',cp]
    have hB1':=hB60
    refine za6 (b:=b1) (off:=0) [.int .i64 0,.string ⟨#[]⟩,.bool false,.slice none 0 0,.slice none 0 0,.slice none 0 0,.int .i64 0] (by simp [go_sem,g2,za0]) rfl (by simp [go_sem,g2,za0]) (by simp [go_sem,Value.cells,g2,za0]) zaw hB1' (by simp) (by simp [Value.oneCell']) (by decide) (fun w70 hS70 hB70=>?_)
    simp [zaD] at hB70
    have hkp2:Keep [⟨lb,lo+j*4+1,none⟩] _ w70:=Keep.sto hbL hS70
    refine zcV hkp2 ?_
    simp [go_sem,hkp2]
    refine hK _ _ ?_;clear hK K
    refine zaf ?_
    repeat (first|refine za3 ?_|refine za2 ?_)
    rw [hV3]
    refine ⟨by simp [go_sem,zaO,zas,za4,za1,za0,hB70.cell,g2],?_⟩
    refine ⟨_,?_,EX.ex0 _ _ _ rfl,hA0.nextS hS70 hwb1⟩
    simp [go_sem,zat,zas,za4,za1,za0,hB70.cell,g2,g4]
   cases r with
   | er j e2 =>
    have he2:¬e2=0:=hra.1
    first|refine zzr fun K hK=>?_|refine zzt fun K hK=>?_
    simp [go_sem,za0,za4,za1,hB30.cell,g2,g5,hB60.cell, zdk,zcF,he2]
    refine hK _ _ ?_;clear hK K
    refine zai (t:=false) (by simp [go_sem,za0,za4,za1,hB30.cell,g2,g5,hB60.cell,zdk,zcF,he2]) rfl ?_
    refine zaa ?_
    refine tailE _ j e2 he2 hrl hV2 (by simp [go_sem,g2]) (by simp [go_sem,g5]) (by simp [go_sem,zcF]) (by simp [go_sem,zdk])
   | ok x0 j =>
    have hj:j<T.length:=hrl
    have hj':(j:Int)<T.length:=by omega
    have hx0:x=x0:=hx
    subst hx0
    obtain ⟨c0,cp,ct⟩:=zck hsl hj
    by_cases hk:(zan T j).k=0
    ·have hk':((zan T j).k:Int)=0:=by omega
     have hV3:V=(x,0,0):=by rw [hV2];simp only;rw [if_pos hk]
     first|refine zzr fun K hK=>?_|refine zzt fun K hK=>?_
     simp [go_sem,za0,za4,za1,hB30.cell,g2,g5,hB60.cell, zdk,zcF,hj,hj',c0,hk']
     refine hK _ _ ?_;clear hK K
     refine zai (t:=false) (by simp [go_sem,za0,za4,za1,hB30.cell,g2,g5,hB60.cell,zdk,zcF,hk']) rfl ?_
     refine zaa ?_
     refine hK5 _ _ ?_
     refine zac (fun K6 hK6=>?_)
     first|refine zzr fun K hK=>?_|refine zzt fun K hK=>?_
     simp [go_sem,za0,za4,za1,hB30.cell,g2,g5,hB60.cell, zdk]
     refine hK _ _ ?_;clear hK K
     refine zai (t:=false) (by simp [go_sem,za0,za4,za1,hB30.cell,g2,g5,hB60.cell, zdk]) rfl ?_
     refine zaa ?_
     refine hK6 _ _ ?_
     first|refine zzr fun K hK=>?_|refine zzt fun K hK=>?_
     simp [go_sem,za0,za4,za1,hB30.cell,g2,g5,hB60.cell]
     refine za6 (b:=b1) (off:=0) [.int .i64 x.kind,.string ⟨x.name.toArray⟩,.bool x.neg,.slice xa x.num.length xc,.slice xb x.den.length xd,.slice xad x.args.length xcap,.int .i64 x.pos] (by simp [go_sem,za0,za4,za1,hB30.cell,g2,g5,hB60.cell]) rfl (by simp [go_sem,za0,za4,za1,hB30.cell,g2,g5,hB60.cell]) (by simp [go_sem,Value.cells,za0,za4,za1,hB30.cell,g2,g5,hB60.cell]) zaw hB60 (by simp) (by simp [Value.oneCell']) (by decide) (fun w80 hS80 hB80=>?_)
     simp [zaD] at hB80
     replace hA0:=hA0.nextS hS80 (by first|exact hb1_0|omega)
     replace hxe:=hxe.ch (Ch.of_sto hS80 (NL.of_bx hB60 (by intro u hu x e;subst e;simp at hu))) (by intro k hk e;subst e;first|exact hk.2 rfl|omega)
     replace hB30:=hB30.sto hS80 (by first|exact hd30_1|exact (hd1_30).symm)
     simp [go_sem,za0,za4,za1,hB30.cell,g2,g5,hB80.cell]
     refine hK _ _ ?_;clear hK K
     refine zaf ?_
     repeat (first|refine za3 ?_|refine za2 ?_)
     rw [hV3]
     refine ⟨by simp [go_sem,zaO,zas,za4,za1,za0,hB80.cell,g2],?_⟩
     refine ⟨_,?_,hxe.mono (fun k hk=>hk.1),hA0⟩
     simp [go_sem,zat,zas,za4,za1,za0,hB80.cell,g2]
    ·have hk':¬((zan T j).k:Int)=0:=by omega
     have hV3:V=(ex0,((zan T j).p:Int),5):=by rw [hV2];simp only;rw [if_neg hk]
     first|refine zzr fun K hK=>?_|refine zzt fun K hK=>?_
     simp [go_sem,za0,za4,za1,hB30.cell,g2,g5,hB60.cell, zdk,zcF,hj,hj',c0,hk',hk]
     refine hK _ _ ?_;clear hK K
     refine zai (t:=true) (by simp [go_sem,za0,za4,za1,hB30.cell,g2,g5,hB60.cell,zdk,zcF,hk',hk]) rfl ?_
     refine zzt fun K hK=>?_
     simp [go_sem]
     refine hK _ _ ?_;clear hK K
     refine tailE _ j 5 (by decide) hj hV3 (by simp [go_sem,g2]) (by simp [go_sem,g5]) (by simp [go_sem,zcF]) (by simp [go_sem])
 ·rw [if_neg he] at hV
  have he':¬((allR s).2.2:Int)=0:=by omega
  refine zai (t:=true) (by simp [go_sem,za0,za4,za1,hB1.cell,he',he]) rfl ?_
  first|refine zzr fun K hK=>?_|refine zzt fun K hK=>?_
  simp [go_sem,za0,za4,za1,hB1.cell]
  refine zal #[.int .i64 0,.string ⟨#[]⟩,.bool false,.slice none 0 0,.slice none 0 0,.slice none 0 0,.int .i64 0] (by simp [go_sem]) rfl zb3 [] (by simp [go_sem]) rfl ?_
  simp [go_sem,za0]
  refine za6 (b:=b1) (off:=0) [.int .i64 0,.string ⟨#[]⟩,.bool false,.slice none 0 0,.slice none 0 0,.slice none 0 0,.int .i64 0] (by simp [go_sem,za0,za4,za1,hB1.cell]) rfl (by simp [go_sem,za0,za4,za1,hB1.cell]) (by simp [go_sem,Value.cells,za0,za4,za1,hB1.cell]) zaw hB1 (by simp) (by simp [Value.oneCell']) (by decide) (fun w81 hS81 hB81=>?_)
  simp [zaD] at hB81
  replace hA0:=hA0.nextS hS81 (by first|exact hb1_0|omega)
  simp [go_sem,za0,za4,za1,hB81.cell]
  refine hK _ _ ?_;clear hK K
  refine zaf ?_
  repeat (first|refine za3 ?_|refine za2 ?_)
  subst hV
  refine ⟨by simp [go_sem,zaO,zas,za4,za1,za0,hB81.cell],?_⟩
  refine ⟨_,?_,EX.ex0 _ _ _ rfl,hA0⟩
  simp [go_sem,zat,zas,za4,za1,za0,hB81.cell]
end Go.Proofs.YtefhenfofomjhaaGreat
