/- Rational numbers: plain laws. -/
import Derived.Test.YtefhenfofomjhaaGreatEv1
import Derived.Test.YtefhenfofomjhaaGreatIn2
import Derived.Test.YtefhenfofomjhaaGreatRa5
import Derived.Lib.Bytealg
import Derived.Test.YtefhenfofomjhaaGreatIc2
import Derived.ChangeSlices
import Derived.ChangeSame
set_option linter.unusedSimpArgs false
set_option linter.unusedVariables false
set_option maxHeartbeats 1000000
set_option maxRecDepth 20000
namespace Go.Proofs.YtefhenfofomjhaaGreat
open Go.RowKit Go.V
theorem bs_extI (s:ByteArray):bs (s.extract 1 s.size)=(bs s).drop 1:=by
 unfold bs
 rw [ByteArray.data_extract,Array.toList_extract]
 have:s.size=s.data.toList.length:=by rw [Array.length_toList];rfl
 rw [List.extract_eq_take_drop,this,List.take_of_length_le (by simp)]
theorem rdL_lenI (l:List UInt8):(rdL l).length≤1000:=by
 unfold rdL
 split
 ·rename_i h
  unfold rdE at h
  split at h
  ·cases h
  ·split at h
   ·cases h
   ·rename_i h1
    split at h
    ·cases h
    ·rename_i hb
     have hd:∀ k,k<l.length→isD (ch l k)=true:=by
      intro k hk
      cases hc:isD (ch l k) with
      | true=>rfl
      | false=>exact absurd (bad_at hk hc) hb
     have:=dv_len l l.length (Nat.le_refl _) hd
     rw [List.take_length] at this
     omega
 ·simp
def izn (l:List UInt8):Bool:=decide (0<l.length∧((ch l 0).toNat:Int)=45)
def izd (l:List UInt8):List UInt8:=if izn l=true then l.drop 1 else l
def izE (l:List UInt8):Int:=if ¬rdE (izd l)=0 then rdE (izd l) else if izn l=true∧(rdL (izd l)).length=0 then 9 else 0
def izV (l:List UInt8):Int:=if izE l=0 then iv (izn l) (dv (izd l)) else 0
def IReadPost (w:World) (l:List UInt8) (e:Ending) (w':World):Prop:=∃ a c,e = .returned (.tuple #[iR (izV l) a c,.int .i64 (izE l)])∧RD w' a c (lim (izV l).natAbs)∧Below w.heap.size w w'
theorem iR0:iR 0 none 0 = .agg #[.bool false,.slice none 0 0]:=by unfold iR;rw [show ((0:Int).natAbs)=0 from rfl,zap];rfl
theorem ireadErr {w w':World} {l:List UInt8} {e:Ending} (h0:izE l≠0) (he:e = .returned (.tuple #[.agg #[.bool false,.slice none 0 0],.int .i64 (izE l)])) (hE:Below w.heap.size w w'):IReadPost w l e w':=by
 have hv:izV l=0:=by unfold izV;rw [if_neg h0]
 refine ⟨none,0,?_,?_,hE⟩
 ·rw [hv,iR0,he]
 ·rw [hv,show ((0:Int).natAbs)=0 from rfl,zap];exact RD.nil _ _ _
theorem iRead_any (s:ByteArray) (w:World):Calls Tryz.prog 88 #[.string s] w (IReadPost w (bs s)):=by
 have hsz:=zb7 s
 have hbe:bs ⟨#[]⟩=[]:=rfl
 obtain ⟨l,hl⟩:∃ l,l=bs s:=⟨_,rfl⟩
 have hex:=bs_extI s
 rw [←hl] at hsz hex ⊢
 have hba:za9 s 0=ch l 0:=by rw [hl];rfl
 obtain ⟨n,hn⟩:∃ n,n=izn l:=⟨_,rfl⟩
 refine za5 (rs:=[.cell 2 25,.tmp 3]) (n:=38) Tryz.func88 rfl rfl rfl (by kernel_rfl) ?_
 first|refine zzr fun K hK=>?_|refine zzt fun K hK=>?_
 simp [go_sem]
 refine zza rfl zbC (fun w2 b2 hE2 hle2 hB2=>?_)
 have hE:=hE2
 simp [go_sem]
 apply hK;clear hK K
 refine zeH (fun g w'=>w'=w2∧g 0 = .string s∧g 2 = .pointer (some ⟨b2,0,none⟩)∧g 4 = .bool n) (by kernel_rfl) ?_ ?_
 ·by_cases h0:l=[]
  ·have hn0:n=false:=by rw [hn,h0];rfl
   simp [go_sem,←hl,hbe,h0,hn0]
  ·have hl0:0<s.size:=by rw [←hsz];exact List.length_pos_iff.2 h0
   have hl1:0<l.length:=List.length_pos_iff.2 h0
   by_cases h1:((ch l 0).toNat:Int)=45
   ·have hn1:n=true:=by rw [hn];unfold izn;exact decide_eq_true ⟨hl1,h1⟩
    simp [go_sem,←hl,hbe,h0,hba,h1,hl0,hn1]
   ·have hn1:n=false:=by rw [hn];unfold izn;exact decide_eq_false (fun h=>h1 h.2)
    simp [go_sem,←hl,hbe,h0,hba,h1,hl0,hn1]
 ·rintro g w2 ⟨rfl,g0,g2,g4⟩
  first|refine zzr fun K hK=>?_|refine zzt fun K hK=>?_
  simp [go_sem,g0]
  apply hK;clear hK K
  refine zab (fun K1 hK1=>?_)
  have main:∀ (g':G) (d:ByteArray),g' 2 = .pointer (some ⟨b2,0,none⟩)→g' 4 = .bool n→g' 5 = .string d→bs d=izd l→K1 g' w2:=by
   intro g' d g2 g4 g5 hd
   apply hK1;clear hK1 K1
   have hrd:=read_any d w2
   unfold zdR at hrd
   rw [hd] at hrd
   have hEl:izE l=if ¬rdE (izd l)=0 then rdE (izd l) else if n=true∧(rdL (izd l)).length=0 then 9 else 0:=by rw [hn];rfl
   have hVl:izE l=0→izV l=iv n (dv (izd l)):=fun h=>by unfold izV;rw [if_pos h,hn]
   have hLl:rdE (izd l)=0→rdL (izd l)=lim (dv (izd l)):=fun h=>by unfold rdL;rw [if_pos h]
   generalize izd l=D at *
   generalize hEE:rdE D=E at *
   generalize hLL:rdL D=L at *
   first|refine zzr fun K hK=>?_|refine zzt fun K hK=>?_
   simp [go_sem,g5]
   refine zzc rfl Tryz.call90 (fun R hR=>?_)
   simp [go_sem,g5]
   refine hrd.mono ?_
   rintro e w4 ⟨a4,c4,rfl,hr4,hE4⟩
   refine ⟨_,rfl,hR _ _ ?_⟩
   clear hR R
   replace hB2:=hB2.keep hE4
   replace hE:=hE.next hE4
   obtain ⟨k0,k1⟩:=ibx hB2
   simp [go_sem,g5]
   apply hK;clear hK K
   refine zab (fun K2 hK2=>?_)
   by_cases he:E=0
   ·have hL:=hLl he
    subst hL
    rw [if_neg (by rw [he];simp)] at hEl
    first|refine zzr fun K hK=>?_|refine zzt fun K hK=>?_
    simp [go_sem,g5,he]
    apply hK;clear hK K
    refine zaf (by simp [go_sem];rfl) rfl ?_
    refine za7 ?_
    apply hK2;clear hK2 K2
    refine zab (fun K3 hK3=>?_)
    refine zeH (fun g w'=>w'=w4∧g 2 = .pointer (some ⟨b2,0,none⟩)∧g 4 = .bool n∧g 6 = .slice a4 (lim (dv D)).length c4∧g 33 = .bool (n && decide (((lim (dv D)).length:Int)=0))) (by kernel_rfl) ?_ ?_
    ·cases n
     ·simp [go_sem,g2,g4]
     ·simp [go_sem,g2,g4]
    ·clear g2 g4 g5
     rintro g w5 ⟨rfl,g2,g4,g6,g33⟩
     refine zaf g33 rfl ?_
     by_cases hz:n=true∧(lim (dv D)).length=0
     ·rw [if_pos hz] at hEl
      obtain ⟨hz1,hz2⟩:=hz
      have hz3:((lim (dv D)).length:Int)=0:=by omega
      rw [hz1,decide_eq_true hz3,Bool.and_self]
      first|refine zzr fun K hK=>?_|refine zzt fun K hK=>?_
      simp [go_sem,g2,k0,k1]
      refine zal #[.bool false,.slice none 0 0] (by simp [go_sem,g2]) rfl zce [] (by simp [go_sem,g2]) rfl ?_
      simp [go_sem,g2]
      refine zzs (b:=b2) (off:=0) [.bool false,.slice none 0 0] rfl zaI hB2 (fun w9 hS9 hB9=>?_) (by simp [go_sem,Value.cells,g2])
      simp [zaw] at hB9
      replace hE:=hE.nextS hS9 hle2
      obtain ⟨k0,k1⟩:=ibx hB9
      simp [go_sem,g2]
      apply hK;clear hK K
      refine zad ?_
      repeat first|refine za3 ?_|refine za2 ?_
      refine ⟨by simp [zaD,go_sem,za1,g2,k0,k1,za0],ireadErr (by rw [hEl];decide) ?_ hE⟩
      simp [go_sem,zar,zam,za4,g2,k0,k1,za0,hEl]
     ·rw [if_neg hz] at hEl
      have hbb:(n && decide (((lim (dv D)).length:Int)=0))=false:=by
       cases n
       ·rfl
       ·have:¬((lim (dv D)).length:Int)=0:=fun h=>hz ⟨rfl,by omega⟩
        rw [decide_eq_false this];rfl
      rw [hbb]
      have hV:=hVl hEl
      refine za7 ?_
      apply hK3;clear hK3 K3
      first|refine zzr fun K hK=>?_|refine zzt fun K hK=>?_
      simp [go_sem,g2,g4,g6]
      refine zzc rfl Tryz.call92 (fun R hR=>?_)
      simp [go_sem,g2,g4,g6]
      refine (made_any n (dv D) a4 c4 _ hr4).mono ?_
      rintro e w6 ⟨a6,c6,rfl,hr6,hE6⟩
      refine ⟨_,rfl,hR _ _ ?_⟩
      clear hR R
      replace hB2:=hB2.keep hE6
      replace hE:=hE.next hE6
      simp [go_sem,g2]
      refine zzs (b:=b2) (off:=0) [.bool (decide (iv n (dv D)<0)),.slice a6 (lim (iv n (dv D)).natAbs).length c6] rfl zaI hB2 (fun w9 hS9 hB9=>?_) (by simp [go_sem,Value.cells,g2,iR])
      simp [zaw] at hB9
      replace hr6:=hr6.sto hS9 (hr6.nbox hB2)
      replace hE:=hE.nextS hS9 hle2
      obtain ⟨k0,k1⟩:=ibx hB9
      simp [go_sem,g2]
      apply hK;clear hK K
      refine zad ?_
      repeat first|refine za3 ?_|refine za2 ?_
      refine ⟨by simp [zaD,go_sem,za1,g2,k0,k1,za0],a6,c6,?_,by rw [hV];exact hr6,hE⟩
      simp [go_sem,zar,zam,za4,g2,k0,k1,za0,hEl,hV,iR]
   ·have hEl':izE l=E:=by rw [hEl,if_pos he]
    first|refine zzr fun K hK=>?_|refine zzt fun K hK=>?_
    simp [go_sem,g5,he]
    apply hK;clear hK K
    refine zaf (by simp [go_sem];rfl) rfl ?_
    first|refine zzr fun K hK=>?_|refine zzt fun K hK=>?_
    simp [go_sem,g2,k0,k1]
    refine zal #[.bool false,.slice none 0 0] (by simp [go_sem,g2]) rfl zce [] (by simp [go_sem,g2]) rfl ?_
    simp [go_sem,g2]
    refine zzs (b:=b2) (off:=0) [.bool false,.slice none 0 0] rfl zaI hB2 (fun w9 hS9 hB9=>?_) (by simp [go_sem,Value.cells,g2])
    simp [zaw] at hB9
    replace hE:=hE.nextS hS9 hle2
    obtain ⟨k0,k1⟩:=ibx hB9
    simp [go_sem,g2]
    apply hK;clear hK K
    refine zad ?_
    repeat first|refine za3 ?_|refine za2 ?_
    refine ⟨by simp [zaD,go_sem,za1,g2,k0,k1,za0],ireadErr (by rw [hEl'];exact he) ?_ hE⟩
    simp [go_sem,zar,zam,za4,g2,k0,k1,za0,hEl']
  cases hnn:n with
  | false =>
   have hd0:bs s=izd l:=by unfold izd;rw [←hn,hnn,←hl];simp
   rw [hnn] at main g4
   first|refine zzr fun K hK=>?_|refine zzt fun K hK=>?_
   simp [go_sem,g4]
   apply hK;clear hK K
   refine zaf (by simp [go_sem];rfl) rfl ?_
   refine za7 ?_
   exact main _ s (by simp [go_sem,g2]) (by simp [go_sem,g4]) (by simp [go_sem]) hd0
  | true =>
   have hd0:bs (s.extract 1 s.size)=izd l:=by unfold izd;rw [←hn,hnn,hex];simp
   have hp:1≤s.size:=by
    have h1:izn l=true:=by rw [←hn,hnn]
    unfold izn at h1
    have:=(of_decide_eq_true h1).1
    omega
   have hp':(1:Int)≤s.size:=by omega
   rw [hnn] at main g4
   first|refine zzr fun K hK=>?_|refine zzt fun K hK=>?_
   simp [go_sem,g4]
   apply hK;clear hK K
   refine zaf (by simp [go_sem];rfl) rfl ?_
   first|refine zzr fun K hK=>?_|refine zzt fun K hK=>?_
   simp [go_sem,g0,hp,hp']
   apply hK;clear hK K
   exact main _ (s.extract 1 s.size) (by simp [go_sem,g2]) (by simp [go_sem,g4]) (by simp [go_sem]) hd0
theorem iReadR_any (s:ByteArray) (w:World):Calls Tryz.prog 118 #[.string s] w (IReadPost w (bs s)):=by
 have hsz:=zb7 s
 have hbe:bs ⟨#[]⟩=[]:=rfl
 obtain ⟨l,hl⟩:∃ l,l=bs s:=⟨_,rfl⟩
 have hex:=bs_extI s
 rw [←hl] at hsz hex ⊢
 have hba:za9 s 0=ch l 0:=by rw [hl];rfl
 obtain ⟨n,hn⟩:∃ n,n=izn l:=⟨_,rfl⟩
 refine za5 (rs:=[.cell 2 25,.tmp 3]) (n:=37) Tryz.func118 rfl rfl rfl (by kernel_rfl) ?_
 first|refine zzr fun K hK=>?_|refine zzt fun K hK=>?_
 simp [go_sem]
 refine zza rfl zbC (fun w2 b2 hE2 hle2 hB2=>?_)
 have hE:=hE2
 simp [go_sem]
 apply hK;clear hK K
 refine zeH (fun g w'=>w'=w2∧g 0 = .string s∧g 2 = .pointer (some ⟨b2,0,none⟩)∧g 4 = .bool n) (by kernel_rfl) ?_ ?_
 ·by_cases h0:l=[]
  ·have hn0:n=false:=by rw [hn,h0];rfl
   have hs0:s.size=0:=by rw [←hsz,h0];rfl
   simp [go_sem,←hl,hbe,h0,hn0,hs0]
  ·have hl0:0<s.size:=by rw [←hsz];exact List.length_pos_iff.2 h0
   have hl0':(0:Int)<s.size:=by omega
   have hl1:0<l.length:=List.length_pos_iff.2 h0
   by_cases h1:((ch l 0).toNat:Int)=45
   ·have hn1:n=true:=by rw [hn];unfold izn;exact decide_eq_true ⟨hl1,h1⟩
    simp [go_sem,←hl,hbe,h0,hba,h1,hl0,hl0',hn1]
   ·have hn1:n=false:=by rw [hn];unfold izn;exact decide_eq_false (fun h=>h1 h.2)
    simp [go_sem,←hl,hbe,h0,hba,h1,hl0,hl0',hn1]
 ·rintro g w2 ⟨rfl,g0,g2,g4⟩
  refine zab (fun K1 hK1=>?_)
  have main:∀ (g':G) (d:ByteArray),g' 2 = .pointer (some ⟨b2,0,none⟩)→g' 4 = .bool n→g' 0 = .string d→bs d=izd l→K1 g' w2:=by
   intro g' d g2 g4 g0 hd
   apply hK1;clear hK1 K1
   have hrd:=readR_any d w2
   unfold zdR at hrd
   rw [hd] at hrd
   have hEl:izE l=if ¬rdE (izd l)=0 then rdE (izd l) else if n=true∧(rdL (izd l)).length=0 then 9 else 0:=by rw [hn];rfl
   have hVl:izE l=0→izV l=iv n (dv (izd l)):=fun h=>by unfold izV;rw [if_pos h,hn]
   have hLl:rdE (izd l)=0→rdL (izd l)=lim (dv (izd l)):=fun h=>by unfold rdL;rw [if_pos h]
   generalize izd l=D at *
   generalize hEE:rdE D=E at *
   generalize hLL:rdL D=L at *
   first|refine zzr fun K hK=>?_|refine zzt fun K hK=>?_
   simp [go_sem,g0]
   refine zzc rfl Tryz.call120 (fun R hR=>?_)
   simp [go_sem,g0]
   refine hrd.mono ?_
   rintro e w4 ⟨a4,c4,rfl,hr4,hE4⟩
   refine ⟨_,rfl,hR _ _ ?_⟩
   clear hR R
   replace hB2:=hB2.keep hE4
   replace hE:=hE.next hE4
   obtain ⟨k0,k1⟩:=ibx hB2
   simp [go_sem,g0]
   apply hK;clear hK K
   refine zab (fun K2 hK2=>?_)
   by_cases he:E=0
   ·have hL:=hLl he
    subst hL
    rw [if_neg (by rw [he];simp)] at hEl
    first|refine zzr fun K hK=>?_|refine zzt fun K hK=>?_
    simp [go_sem,g0,he]
    apply hK;clear hK K
    refine zaf (by simp [go_sem];rfl) rfl ?_
    refine za7 ?_
    apply hK2;clear hK2 K2
    refine zab (fun K3 hK3=>?_)
    refine zeH (fun g w'=>w'=w4∧g 2 = .pointer (some ⟨b2,0,none⟩)∧g 4 = .bool n∧g 5 = .slice a4 (lim (dv D)).length c4∧g 32 = .bool (n && decide (((lim (dv D)).length:Int)=0))) (by kernel_rfl) ?_ ?_
    ·cases n
     ·simp [go_sem,g2,g4]
     ·simp [go_sem,g2,g4]
    ·clear g2 g4 g0
     rintro g w5 ⟨rfl,g2,g4,g5,g32⟩
     refine zaf g32 rfl ?_
     by_cases hz:n=true∧(lim (dv D)).length=0
     ·rw [if_pos hz] at hEl
      obtain ⟨hz1,hz2⟩:=hz
      have hz3:((lim (dv D)).length:Int)=0:=by omega
      rw [hz1,decide_eq_true hz3,Bool.and_self]
      first|refine zzr fun K hK=>?_|refine zzt fun K hK=>?_
      simp [go_sem,g2,k0,k1]
      refine zal #[.bool false,.slice none 0 0] (by simp [go_sem,g2]) rfl zce [] (by simp [go_sem,g2]) rfl ?_
      simp [go_sem,g2]
      refine zzs (b:=b2) (off:=0) [.bool false,.slice none 0 0] rfl zaI hB2 (fun w9 hS9 hB9=>?_) (by simp [go_sem,Value.cells,g2])
      simp [zaw] at hB9
      replace hE:=hE.nextS hS9 hle2
      obtain ⟨k0,k1⟩:=ibx hB9
      simp [go_sem,g2]
      apply hK;clear hK K
      refine zad ?_
      repeat first|refine za3 ?_|refine za2 ?_
      refine ⟨by simp [zaD,go_sem,za1,g2,k0,k1,za0],ireadErr (by rw [hEl];decide) ?_ hE⟩
      simp [go_sem,zar,zam,za4,g2,k0,k1,za0,hEl]
     ·rw [if_neg hz] at hEl
      have hbb:(n && decide (((lim (dv D)).length:Int)=0))=false:=by
       cases n
       ·rfl
       ·have:¬((lim (dv D)).length:Int)=0:=fun h=>hz ⟨rfl,by omega⟩
        rw [decide_eq_false this];rfl
      rw [hbb]
      have hV:=hVl hEl
      refine za7 ?_
      apply hK3;clear hK3 K3
      first|refine zzr fun K hK=>?_|refine zzt fun K hK=>?_
      simp [go_sem,g2,g4,g5]
      have hof:=iofR_any n (lim (dv D)) a4 c4 w5 hr4 (by have:=rdL_lenI D;rw [hLL] at this;unfold zbZ;omega)
      rw [zao] at hof
      refine zzc rfl Tryz.call125 (fun R hR=>?_)
      simp [go_sem,g2,g4,g5]
      refine (hof).mono ?_
      rintro e w6 ⟨a6,c6,rfl,hr6,hE6⟩
      refine ⟨_,rfl,hR _ _ ?_⟩
      clear hR R
      replace hB2:=hB2.keep hE6
      replace hE:=hE.next hE6
      simp [go_sem,g2]
      refine zzs (b:=b2) (off:=0) [.bool (decide (iv n (dv D)<0)),.slice a6 (lim (iv n (dv D)).natAbs).length c6] rfl zaI hB2 (fun w9 hS9 hB9=>?_) (by simp [go_sem,Value.cells,g2,iR])
      simp [zaw] at hB9
      replace hr6:=hr6.sto hS9 (hr6.nbox hB2)
      replace hE:=hE.nextS hS9 hle2
      obtain ⟨k0,k1⟩:=ibx hB9
      simp [go_sem,g2]
      apply hK;clear hK K
      refine zad ?_
      repeat first|refine za3 ?_|refine za2 ?_
      refine ⟨by simp [zaD,go_sem,za1,g2,k0,k1,za0],a6,c6,?_,by rw [hV];exact hr6,hE⟩
      simp [go_sem,zar,zam,za4,g2,k0,k1,za0,hEl,hV,iR]
   ·have hEl':izE l=E:=by rw [hEl,if_pos he]
    first|refine zzr fun K hK=>?_|refine zzt fun K hK=>?_
    simp [go_sem,g0,he]
    apply hK;clear hK K
    refine zaf (by simp [go_sem];rfl) rfl ?_
    first|refine zzr fun K hK=>?_|refine zzt fun K hK=>?_
    simp [go_sem,g2,k0,k1]
    refine zal #[.bool false,.slice none 0 0] (by simp [go_sem,g2]) rfl zce [] (by simp [go_sem,g2]) rfl ?_
    simp [go_sem,g2]
    refine zzs (b:=b2) (off:=0) [.bool false,.slice none 0 0] rfl zaI hB2 (fun w9 hS9 hB9=>?_) (by simp [go_sem,Value.cells,g2])
    simp [zaw] at hB9
    replace hE:=hE.nextS hS9 hle2
    obtain ⟨k0,k1⟩:=ibx hB9
    simp [go_sem,g2]
    apply hK;clear hK K
    refine zad ?_
    repeat first|refine za3 ?_|refine za2 ?_
    refine ⟨by simp [zaD,go_sem,za1,g2,k0,k1,za0],ireadErr (by rw [hEl'];exact he) ?_ hE⟩
    simp [go_sem,zar,zam,za4,g2,k0,k1,za0,hEl']
  cases hnn:n with
  | false =>
   have hd0:bs s=izd l:=by unfold izd;rw [←hn,hnn,←hl];simp
   rw [hnn] at main g4
   first|refine zzr fun K hK=>?_|refine zzt fun K hK=>?_
   simp [go_sem,g4]
   apply hK;clear hK K
   refine zaf (by simp [go_sem];rfl) rfl ?_
   refine za7 ?_
   exact main _ s (by simp [go_sem,g2]) (by simp [go_sem,g4]) (by simp [go_sem,g0]) hd0
  | true =>
   have hd0:bs (s.extract 1 s.size)=izd l:=by unfold izd;rw [←hn,hnn,hex];simp
   have hp:1≤s.size:=by
    have h1:izn l=true:=by rw [←hn,hnn]
    unfold izn at h1
    have:=(of_decide_eq_true h1).1
    omega
   have hp':(1:Int)≤s.size:=by omega
   rw [hnn] at main g4
   first|refine zzr fun K hK=>?_|refine zzt fun K hK=>?_
   simp [go_sem,g4]
   apply hK;clear hK K
   refine zaf (by simp [go_sem];rfl) rfl ?_
   first|refine zzr fun K hK=>?_|refine zzt fun K hK=>?_
   simp [go_sem,g0,hp,hp']
   apply hK;clear hK K
   exact main _ (s.extract 1 s.size) (by simp [go_sem,g2]) (by simp [go_sem,g4]) (by simp [go_sem]) hd0
end Go.Proofs.YtefhenfofomjhaaGreat
namespace Go.Proofs.YtefhenfofomjhaaGreat
open Go Go.RowKit Go.V
def qR (x:Rat) (a:Option Addr) (c:Nat) (a':Option Addr) (c':Nat):Value:=.agg #[.bool (decide (x.num<0)),.slice a (lim x.num.natAbs).length c,.slice a' (lim x.den).length c']
def RetR (w:World) (s:Nat) (x:Rat) (e:Ending) (w':World):Prop:=∃ a c a' c',e = .returned (qR x a c a' c')∧RD w' a c (lim x.num.natAbs)∧RD w' a' c' (lim x.den)∧(lim x.num.natAbs).length≤s∧(lim x.den).length≤s∧Below w.heap.size w w'
theorem retR_of {w w':World} {x:Rat} {A B s:Nat} {e:Ending} (h:∃ rvs,e = .returned (zar rvs)∧zeK w' [[.r]] [qa x] rvs∧(∀ a∈[qa x],a.sz≤A*s+B)∧Below w.heap.size w w'):RetR w (A*s+B) x e w':=by
 obtain ⟨rvs,he,⟨a1,a2,v,q,e1,rfl,h1,rfl,rfl⟩,hz,hE⟩:=h
 rw [List.append_nil] at e1
 subst e1
 obtain ⟨neg,l,m,a,c,a',c',e2,rfl,r1,r2⟩:=repV_r.1 h1
 have hz0:=hz _ (List.mem_singleton.2 rfl)
 unfold qa at e2 hz0
 simp only [List.cons.injEq,At.r.injEq,and_true] at e2
 obtain ⟨rfl,rfl,rfl⟩:=e2
 simp only [At.sz] at hz0
 exact ⟨a,c,a',c',he,r1,r2,Nat.le_trans (Nat.le_max_left _ _) hz0,Nat.le_trans (Nat.le_max_right _ _) hz0,hE⟩
theorem reduced_any (neg:Bool) (l m:List Nat) (a b:Option Addr) (c d s:Nat) (w:World) (hr:RD w a c l) (hs:RD w b d m) (hl:l.length≤s) (hm:m.length≤s) (hL:s≤1000000000) :
  Calls Tryz.prog 81 #[.agg #[.bool neg,.slice a l.length c],.slice b m.length d] w (RetR w (s+1) (qv neg l m)):=by
 refine (ok_reduced s w [.agg #[.bool neg,.slice a l.length c],.slice b m.length d] [.y neg l,.u m] [qa (qv neg l m)] hL ?_ ?_ rfl).mono fun e w' h=>?_
 ·exact ⟨[_],_,_,_,rfl,rfl,repV_y.2 ⟨_,_,_,_,rfl,rfl,hr⟩,[_],[],_,_,rfl,rfl,zdN.2 ⟨_,_,_,rfl,rfl,hs⟩,rfl,rfl⟩
 ·simp only [List.mem_cons,List.not_mem_nil,or_false]
  rintro x (rfl|rfl)
  ·exact hl
  ·exact hm
 ·have:=retR_of (A:=1) (B:=1) h
  rwa [Nat.one_mul] at this
theorem over_any (neg:Bool) (l m:List Nat) (a b:Option Addr) (c d s:Nat) (w:World) (hr:RD w a c l) (hs:RD w b d m) (hl:l.length≤s) (hm:m.length≤s) (hL:s≤1000000000) :
  Calls Tryz.prog 100 #[.agg #[.bool neg,.slice a l.length c],.slice b m.length d] w (RetR w (s+4) (qv neg l m)):=by
 refine (ok_over s w [.agg #[.bool neg,.slice a l.length c],.slice b m.length d] [.y neg l,.u m] [qa (qv neg l m)] hL ?_ ?_ rfl).mono fun e w' h=>?_
 ·exact ⟨[_],_,_,_,rfl,rfl,repV_y.2 ⟨_,_,_,_,rfl,rfl,hr⟩,[_],[],_,_,rfl,rfl,zdN.2 ⟨_,_,_,rfl,rfl,hs⟩,rfl,rfl⟩
 ·simp only [List.mem_cons,List.not_mem_nil,or_false]
  rintro x (rfl|rfl)
  ·exact hl
  ·exact hm
 ·have:=retR_of (A:=1) (B:=4) h
  rwa [Nat.one_mul] at this
def slk:List UInt8→Nat
 | []=>0
 | b::l=>if b=47 then 0 else slk l+1
theorem slk_le:∀ l:List UInt8,slk l≤l.length
 | []=>Nat.le_refl _
 | b::l=>by
  have:=slk_le l
  unfold slk
  split<;>simp<;>omega
theorem index_slk:∀ l:List UInt8,Lib.indexByte l 47=if slk l<l.length then (slk l:Int) else -1
 | []=>rfl
 | b::l=>by
  have ih:=index_slk l
  have h0:=slk_le l
  show (if (b == 47)=true then (0:Int) else if (Lib.indexByte l 47 == -1)=true then -1 else Lib.indexByte l 47+1)=if (if b=47 then 0 else slk l+1)<(b::l).length then ((if b=47 then 0 else slk l+1:Nat):Int) else -1
  by_cases hb:b=47
  ·subst hb;simp
  ·have hb':(b == 47)=false:=by simpa using hb
   by_cases h:slk l<l.length
   ·have e:Lib.indexByte l 47=slk l:=by rw [ih,if_pos h]
    have h1:((slk l:Int) == -1)=false:=by simp
    rw [hb',if_neg hb,e,h1]
    simp [h]
   ·have e:Lib.indexByte l 47 = -1:=by rw [ih,if_neg h]
    rw [hb',if_neg hb,e]
    simp [h]
theorem slk_at:∀ (l:List UInt8) (k:Nat),k<slk l→l.getD k 0≠47
 | [],k,h=>by simp [slk] at h
 | b::l,k,h=>by
  unfold slk at h
  split at h
  ·omega
  ·rename_i hb
   cases k with
   | zero=>simpa using hb
   | succ k=>simpa using slk_at l k (by omega)
theorem slk_hit:∀ (l:List UInt8),slk l<l.length→l.getD (slk l) 0=47
 | [],h=>by simp at h
 | b::l,h=>by
  unfold slk at h ⊢
  split
  ·rename_i hb;simpa using hb
  ·rename_i hb
   rw [if_neg hb] at h
   have:=slk_hit l (by simpa using h)
   simpa using this
theorem indexByte_any (s:ByteArray) (w:World):Calls Tryz.prog 86 #[.string s,.int .u8 47] w fun e w'=>e = .returned (.int .i64 (Lib.indexByte (bs s) 47))∧w'=w:=by
 refine za5 (rs:=[.tmp 4]) (n:=8) Tryz.func86 rfl rfl rfl (by kernel_rfl) ?_
 first|refine zzr fun K hK=>?_|refine zzt fun K hK=>?_
 simp [go_sem]
 apply hK;clear hK K
 first|refine zzr fun K hK=>?_|refine zzt fun K hK=>?_
 simp [go_sem]
 refine hv_ext (by simp [go_sem]) rfl Tryz.func106 (by kernel_rfl) (by kernel_rfl) (by kernel_rfl) (e:=Extern.BytealgIndexByte.indexByte) (by kernel_rfl) (by simp [go_sem];exact Lib.run_indexByteString _ _ _) ?_
 simp [go_sem]
 apply hK;clear hK K
 refine zad ?_
 repeat first|refine za3 ?_|refine za2 ?_
 exact ⟨trivial,by simp [go_sem,zar,zam];rfl,rfl⟩
theorem sz47:(⟨#[47]⟩:ByteArray).size=1:=rfl
theorem at47:(za9 ⟨#[47]⟩ 0).toNat=47:=rfl
theorem bs47:bs ⟨#[47]⟩=[47]:=rfl
theorem index_any (s:ByteArray) (w:World):Calls Tryz.prog 128 #[.string s,.string ⟨#[47]⟩] w fun e w'=>e = .returned (.int .i64 (Lib.indexByte (bs s) 47))∧w'=w:=by
 refine za5 (rs:=[.tmp 4]) (n:=143) Tryz.func128 rfl rfl rfl (by kernel_rfl) ?_
 first|refine zzr fun K hK=>?_|refine zzt fun K hK=>?_
 simp [go_sem]
 apply hK;clear hK K
 first|refine zzr fun K hK=>?_|refine zzt fun K hK=>?_
 simp [go_sem,sz47]
 apply hK;clear hK K
 refine zab (fun K1 hK1=>?_)
 refine zac ?_
 by_cases hq:[47]=bs s
 ·first|refine zzr fun K hK=>?_|refine zzt fun K hK=>?_
  simp [go_sem,bs47,eq_true hq]
  apply hK;clear hK K
  refine zaf (t:=true) (by simp [go_sem]) rfl ?_
  first|refine zzr fun K hK=>?_|refine zzt fun K hK=>?_
  simp [go_sem]
  apply hK;clear hK K
  refine zad ?_
  repeat first|refine za3 ?_|refine za2 ?_
  refine ⟨trivial,?_,rfl⟩
  simp [go_sem,zar,zam,←hq];rfl
 ·first|refine zzr fun K hK=>?_|refine zzt fun K hK=>?_
  simp [go_sem,bs47,hq]
  apply hK;clear hK K
  refine zaf (t:=false) (by simp [go_sem]) rfl ?_
  first|refine zzr fun K hK=>?_|refine zzt fun K hK=>?_
  simp [go_sem]
  apply hK;clear hK K
  refine zaf (t:=true) (by simp [go_sem]) rfl ?_
  first|refine zzr fun K hK=>?_|refine zzt fun K hK=>?_
  simp [go_sem,at47]
  refine zzc rfl Tryz.call86 (fun R hR=>?_)
  simp [go_sem,at47]
  refine (indexByte_any s w).mono ?_
  rintro e w2 ⟨rfl,rfl⟩
  refine ⟨_,rfl,hR _ _ ?_⟩
  clear hR R
  simp [go_sem]
  apply hK;clear hK K
  refine zad ?_
  repeat first|refine za3 ?_|refine za2 ?_
  refine ⟨trivial,?_,rfl⟩
  simp [go_sem,zar,zam]
def slA (l:List UInt8):List UInt8:=l.take (slk l)
def slB (l:List UInt8):List UInt8:=l.drop (slk l+1)
def slH (l:List UInt8):Bool:=decide (slk l<l.length)
theorem slk_size (s:ByteArray):slk (bs s)≤s.size:=by rw [←zb7];exact slk_le _
theorem bs_ext (s:ByteArray) (a b:Nat):bs (s.extract a b)=((bs s).drop a).take (b-a):=by
 unfold bs
 rw [ByteArray.data_extract,Array.toList_extract,List.extract_eq_take_drop]
def cutV (l:List UInt8):Value:=.tuple #[.string ⟨(slA l).toArray⟩,.string ⟨(slB l).toArray⟩,.bool (slH l)]
theorem ba_of_bs {s:ByteArray} {l:List UInt8} (h:bs s=l):s=⟨l.toArray⟩:=bs_inj (by rw [h,bs_mk])
theorem cutI_any (s:ByteArray) (w:World) (hs:s.size<9223372036854775807):Calls Tryz.prog 107 #[.string s,.string ⟨#[47]⟩] w fun e w'=>e = .returned (cutV (bs s))∧Below w.heap.size w w':=by
 have h0:=slk_size s
 have hi:=index_slk (bs s)
 rw [zb7] at hi
 refine za5 (rs:=[.tmp 4,.tmp 5,.tmp 6]) (n:=23) Tryz.func107 rfl rfl rfl (by kernel_rfl) ?_
 first|refine zzr fun K hK=>?_|refine zzt fun K hK=>?_
 simp [go_sem]
 apply hK;clear hK K
 refine zab (fun K1 hK1=>?_)
 first|refine zzr fun K hK=>?_|refine zzt fun K hK=>?_
 simp [go_sem]
 refine zzc rfl Tryz.call128 (fun R hR=>?_)
 simp [go_sem]
 refine (index_any s w).mono ?_
 rintro e w2 ⟨rfl,rfl⟩
 refine ⟨_,rfl,hR _ _ ?_⟩
 clear hR R
 by_cases h:slk (bs s)<s.size
 ·rw [if_pos h] at hi
  rw [hi]
  obtain ⟨k,hk⟩:∃ k,k=slk (bs s):=⟨_,rfl⟩
  rw [←hk] at h h0 ⊢
  have hw1:IntKind.i64.wrap ((k:Int)+1)=(k:Int)+1:=IntWalk.i64_in _ (by omega)
  simp [go_sem]
  apply hK;clear hK K
  first|refine zzr fun K hK=>?_|refine zzt fun K hK=>?_
  simp [go_sem]
  apply hK;clear hK K
  have c0:(0:Int)≤k:=by omega
  refine zaf (t:=true) (by simp [go_sem]) rfl ?_
  first|refine W_rd [(0,0),(1,0),(2,0),(3,0),(4,0),(5,0),(6,0),(7,0),(8,0),(9,0),(10,0),(11,0)] (by kernel_rfl) (by kernel_rfl) (fun K hK=>?_)|refine zbE [(0,0),(1,0),(2,0),(3,0),(4,0),(5,0),(6,0),(7,0),(8,0),(9,0),(10,0),(11,0)] (by kernel_rfl) (by kernel_rfl) (fun K hK=>?_)
  simp [go_sem,sz47,hw1,c0]
  refine ⟨h0,⟨by omega,by omega⟩,?_⟩
  apply hK;clear hK K
  refine zad ?_
  repeat first|refine za3 ?_|refine za2 ?_
  refine ⟨trivial,?_,Below.drew1 _⟩
  simp [go_sem,zar,zam,cutV]
  refine ⟨ba_of_bs ?_,ba_of_bs ?_,?_⟩
  ·rw [bs_ext,slA,←hk];simp
  ·rw [bs_ext,slB,←hk]
   refine List.take_of_length_le ?_
   rw [List.length_drop,zb7];omega
  ·unfold slH;rw [←hk,zb7];exact decide_eq_true h
 ·rw [if_neg h] at hi
  rw [hi]
  simp [go_sem]
  apply hK;clear hK K
  first|refine zzr fun K hK=>?_|refine zzt fun K hK=>?_
  simp [go_sem]
  apply hK;clear hK K
  refine zaf (t:=false) (by simp [go_sem]) rfl ?_
  refine za7 ?_
  apply hK1
  first|refine zzr fun K hK=>?_|refine zzt fun K hK=>?_
  simp [go_sem]
  apply hK;clear hK K
  refine zad ?_
  repeat first|refine za3 ?_|refine za2 ?_
  refine ⟨trivial,?_,Below.refl _ _⟩
  simp [go_sem,zar,zam,cutV]
  refine ⟨ba_of_bs ?_,?_,?_⟩
  ·unfold slA;rw [List.take_of_length_le (by rw [zb7];omega)]
  ·unfold slB;exact List.drop_eq_nil_of_le (by rw [zb7];omega)
  ·unfold slH;rw [zb7];exact decide_eq_false h
theorem cut_any (s:ByteArray) (w:World) (hs:s.size<9223372036854775807):Calls Tryz.prog 87 #[.string s,.string ⟨#[47]⟩] w fun e w'=>e = .returned (cutV (bs s))∧Below w.heap.size w w':=by
 refine za5 (rs:=[.tmp 4,.tmp 5,.tmp 6]) (n:=13) Tryz.func87 rfl rfl rfl (by kernel_rfl) ?_
 first|refine zzr fun K hK=>?_|refine zzt fun K hK=>?_
 simp [go_sem]
 apply hK;clear hK K
 first|refine zzr fun K hK=>?_|refine zzt fun K hK=>?_
 simp [go_sem]
 refine zzc rfl Tryz.call107 (fun R hR=>?_)
 simp [go_sem]
 refine (cutI_any s w hs).mono ?_
 rintro e w2 ⟨rfl,hE⟩
 refine ⟨_,rfl,hR _ _ ?_⟩
 clear hR R
 simp [go_sem,cutV]
 apply hK;clear hK K
 refine zad ?_
 repeat first|refine za3 ?_|refine za2 ?_
 refine ⟨trivial,?_,hE⟩
 simp [go_sem,zar,zam,cutV]
def f_cut:List At→Option (List At)
 | [.s l,.s [47]]=>if l.length<9223372036854775807 then some [.s (slA l),.s (slB l),.b (slH l)] else none
 | _=>none
def ct_cut:Ct:={ args:=[[.s],[.s]],res:=[[.s],[.s],[.b]],F:=f_cut,L:=1000000000000,A:=0,B:=0 }
theorem ctF_cut:ct_cut.F=f_cut:=rfl
theorem ok_cut:ct_cut.ok Tryz.prog 87:=by
 intro s w vs als r hs hr hz hF
 obtain ⟨a1,a2,v,u,rfl,rfl,h1,h2⟩:=vs2 hr
 obtain ⟨l,rfl,rfl⟩:=repV_s.1 h1
 obtain ⟨m,rfl,rfl⟩:=repV_s.1 h2
 have hF':f_cut [.s l,.s m]=some r:=hF
 unfold f_cut at hF'
 split at hF'
 ·rename_i l' e1
  simp only [List.cons.injEq,At.s.injEq,and_true] at e1
  obtain ⟨rfl,rfl⟩:=e1
  split at hF'
  ·rename_i hl
   injection hF' with hF';subst hF'
   refine (cut_any ⟨l.toArray⟩ w (by rw [←zb7,bs_mk];exact hl)).mono ?_
   rintro e w' ⟨he,hE⟩
   rw [bs_mk] at he
   exact ret3 (r1:=[At.s _]) (r2:=[At.s _]) (r3:=[At.b _]) rfl he (repV_s.2 ⟨_,rfl,rfl⟩) (repV_s.2 ⟨_,rfl,rfl⟩) (repV_b.2 ⟨_,rfl,rfl⟩) (fun x hx=>by simp at hx;rcases hx with rfl|rfl|rfl<;>exact Nat.zero_le _) hE
  ·cases hF'
 ·cases hF'
theorem RD.nboxR {w:World} {a a1 a2:Option Addr} {c n1 c1 n2 c2 b:Nat} {l:List Nat} {neg:Bool} {t:TypeId} (h:RD w a c l) (hB:Bx w b #[.bool neg,.slice a1 n1 c1,.slice a2 n2 c2] t):∀ ad,a=some ad→l≠[]→ad.block≠b:=by
 intro ad ha hl e
 rcases h.sl with e0|⟨b',off,e1,hc⟩
 ·exact hl (List.map_eq_nil_iff.1 e0)
 ·rw [ha] at e1
  injection e1 with e1
  subst e1
  subst e
  obtain ⟨x,r,rfl⟩:∃ x r,l=x::r:=by
   cases l with
   | nil=>exact absurd rfl hl
   | cons x r=>exact ⟨x,r,rfl⟩
  have h1:=hc 0 (.int .u16 x) rfl
  rw [hB.cell] at h1
  rcases off with _|_|_|off
  ·cases h1
  ·cases h1
  ·cases h1
  ·cases h1
end Go.Proofs.YtefhenfofomjhaaGreat
namespace Go.Proofs.YtefhenfofomjhaaGreat
open Go Go.RowKit Go.V Go.ChangeMaps
def f_iread:List At→Option (List At)
 | [.s l]=>some [za (izV l),.n (izE l)]
 | _=>none
theorem izV_len (l:List UInt8):(lim (izV l).natAbs).length≤1001:=by
 unfold izV
 split
 ·rename_i h
  have h0:rdE (izd l)=0:=by
   unfold izE at h
   split at h
   ·rename_i h1;exact absurd h h1
   ·rename_i h1;exact Decidable.of_not_not h1
  have:=rdL_lenI (izd l)
  unfold rdL at this
  rw [if_pos h0] at this
  rw [zcf];omega
 ·rw [show ((0:Int).natAbs)=0 from rfl,zap];simp
theorem ok_read {P:Program} {f L:Nat} (h:∀ s w,Calls P f #[.string s] w (IReadPost w (bs s))):Ct.ok P f { args:=[[.s]],res:=[[.y],[.n]],F:=f_iread,L:=L,A:=0,B:=1001 }:=by
 intro s w vs als r hs hr hsz hF
 obtain ⟨v,rfl,h1⟩:=vs1 hr
 obtain ⟨l,rfl,rfl⟩:=repV_s.1 h1
 injection hF with hF;subst hF
 refine (h ⟨l.toArray⟩ w).mono ?_
 rintro e w' ⟨a,c,he,hr',hE⟩
 rw [bs_mk] at he hr'
 exact ret2 (r1:=[za (izV l)]) (r2:=[.n (izE l)]) rfl he (repV_y.2 ⟨_,_,a,c,rfl,rfl,hr'⟩) (repV_n.2 ⟨_,rfl,rfl⟩) (fun x hx=>by
  simp only [List.cons_append,List.nil_append,List.mem_cons,List.not_mem_nil,or_false] at hx
  rcases hx with rfl|rfl
  ·have:=izV_len l
   simp only [za,At.sz];omega
  ·simp [At.sz]) hE
def ct_iread:Ct:={ args:=[[.s]],res:=[[.y],[.n]],F:=f_iread,L:=1000000000000,A:=0,B:=1001 }
theorem ctF_iread:ct_iread.F=f_iread:=rfl
theorem ok_iread:ct_iread.ok Tryz.prog 88:=ok_read iRead_any
end Go.Proofs.YtefhenfofomjhaaGreat
namespace Go.Proofs.YtefhenfofomjhaaGreat
open Go Go.RowKit Go.V
def f_nread:List At→Option (List At)
 | [.s l]=>some [.u (rdL l),.n (rdE l)]
 | _=>none
def ct_nread:Ct:={ args:=[[.s]],res:=[[.u],[.n]],F:=f_nread,L:=1000000000000,A:=0,B:=1001 }
theorem ctF_nread:ct_nread.F=f_nread:=rfl
theorem ok_nread:ct_nread.ok Tryz.prog 90:=by
 intro s w vs als r hs hr hsz hF
 obtain ⟨v,rfl,h1⟩:=vs1 hr
 obtain ⟨l,rfl,rfl⟩:=repV_s.1 h1
 injection hF with hF;subst hF
 refine (read_any ⟨l.toArray⟩ w).mono ?_
 rintro e w' ⟨a,c,he,hr',hE⟩
 rw [bs_mk] at he hr'
 exact ret2 (r1:=[.u (rdL l)]) (r2:=[.n (rdE l)]) rfl he (zdN.2 ⟨_,a,c,rfl,rfl,hr'⟩) (repV_n.2 ⟨_,rfl,rfl⟩) (fun x hx=>by
  simp only [List.cons_append,List.nil_append,List.mem_cons,List.not_mem_nil,or_false] at hx
  rcases hx with rfl|rfl
  ·have:=rdL_lenI l
   show (rdL l).length≤0*s+1001
   omega
  ·simp [At.sz]) hE
def qrE (l:List UInt8):Int:=if izE (slA l)=0 then (if slH l=false then 0 else if rdE (slB l)=0 then (if dv (slB l)=0 then 3 else 0) else rdE (slB l)) else izE (slA l)
def qrV (l:List UInt8):Rat:=if slH l=false then (izV (slA l):Rat) else (izV (slA l):Rat) / (dv (slB l):Rat)
def qrR (l:List UInt8):At:=if qrE l=0 then qa (qrV l) else .r false [] []
def f_qread:List At→Option (List At)
 | [.s l]=>if l.length<9223372036854775807 then some [qrR l,.n (qrE l)] else none
 | _=>none
def GRd:Gam:=gamOf [(87,ct_cut),(88,ct_iread),(90,ct_nread),(81,ct_reduced),(89,ct_unit),(78,ct_qmake)]
theorem GRd_ok:GamOk Tryz.prog GRd:=gamOk_of ⟨ok_cut,ok_iread,ok_nread,ok_reduced,ok_unit,ok_qmake,trivial⟩
theorem GRd_cut:GRd 87=some ct_cut:=rfl
theorem GRd_iread:GRd 88=some ct_iread:=rfl
theorem GRd_nread:GRd 90=some ct_nread:=rfl
theorem zdo:GRd 81=some ct_reduced:=rfl
theorem GRd_unit:GRd 89=some ct_unit:=rfl
theorem GRd_qmake:GRd 78=some ct_qmake:=rfl
def tr_qread:Tr (List SA):=(.call 87 [(.s (.var 0)),(.s (.lit [47]))] 1 (.call 88 [(.s (.var 1))] 4 (.br (.not (.eq (.var 5) (.lit 0))) (.leaf [(.r (.lit false) .nil .nil),(.n (.var 5))]) (.br (.not (.var 3)) (.call 89 [] 6 (.call 81 [(.ob 4),(.u (.var 6 0))] 7 (.leaf [(.ob 7),(.n (.lit 0))]))) (.call 90 [(.s (.var 2))] 6 (.br (.not (.eq (.var 7) (.lit 0))) (.leaf [(.r (.lit false) .nil .nil),(.n (.var 7))]) (.call 78 [(.ob 4),(.y (.lit false) (.var 6 0))] 8 (.leaf [(.ob 8),(.n (.var 9))]))))))))
theorem ev_qread:Ct.ok Tryz.prog 75 { args:=[[.s]],res:=[[.r],[.n]],F:=fun als=>tr_qread.den GRd (zdh als),L:=1000,A:=0,B:=1005 } :=
 top_ok (by kernel_rfl) GRd_ok (plans:=planF) (lf:=60) (k:=20) (by kernel_rfl)
theorem qread_den (l:List UInt8) (h:l.length<9223372036854775807):tr_qread.den GRd (zdh [.s l])=some [qrR l,.n (qrE l)]:=by
 unfold qrR
 by_cases h1:izE (slA l)=0
 ·by_cases h2:slH l=false
  ·have e1:qrE l=0:=by unfold qrE;rw [if_pos h1,if_pos h2]
   have e2:qrV l=(izV (slA l):Rat):=if_pos h2
   rw [e1,if_pos rfl,e2]
   simp only [tr_qread,Tr.den,zbK,SA.ev,BE.ev,IE.ev,SE.ev,LE.ev,zdh,zaZ,zcU,evN,evB,evS,zcp,zcI,zcD,At.len,At.bit,At.lst,op1,op2,op3,Nat.reduceLeDiff,Nat.reduceSub,Nat.reduceEqDiff,if_true,if_false,ite_true,ite_false,decide_true,decide_false,Bool.not_true,Bool.not_false,Nat.zero_le,Nat.sub_zero,List.getElem?_cons_zero,List.getElem?_cons_succ,List.getElem?_nil,GRd_cut,ctF_cut,GRd_iread,ctF_iread,GRd_nread,ctF_nread,zdo,zaA,GRd_unit,zaG,GRd_qmake,ctF_qmake,f_yur,f_un,f_uu,f_ub,f_yb,f_yn,f_yyn,f_yyy,f_uuu,f_yy,f_idiv,f_iof,f_nof,f_sqrt,f_uub,na,za,zcL,zb0,zby,zcM,zcB,zcq,zao,zbL,zaH,decide_eq_true_eq,f_cut,if_pos h,f_iread,f_nread,eq_true h1,h2,Rat.mkRat_one]
  ·have h2':slH l=true:=by simpa using h2
   by_cases h3:rdE (slB l)=0
   ·by_cases h4:dv (slB l)=0
    ·have h4i:((dv (slB l):Nat):Int)=0:=by omega
     have e1:qrE l=3:=by unfold qrE;rw [if_pos h1,if_neg h2,if_pos h3,if_pos h4]
     rw [e1,if_neg (by decide)]
     have e3:rdL (slB l)=lim (dv (slB l)):=if_pos h3
     simp only [tr_qread,Tr.den,zbK,SA.ev,BE.ev,IE.ev,SE.ev,LE.ev,zdh,zaZ,zcU,evN,evB,evS,zcp,zcI,zcD,At.len,At.bit,At.lst,op1,op2,op3,Nat.reduceLeDiff,Nat.reduceSub,Nat.reduceEqDiff,if_true,if_false,ite_true,ite_false,decide_true,decide_false,Bool.not_true,Bool.not_false,Nat.zero_le,Nat.sub_zero,List.getElem?_cons_zero,List.getElem?_cons_succ,List.getElem?_nil,GRd_cut,ctF_cut,GRd_iread,ctF_iread,GRd_nread,ctF_nread,zdo,zaA,GRd_unit,zaG,GRd_qmake,ctF_qmake,f_yur,f_un,f_uu,f_ub,f_yb,f_yn,f_yyn,f_yyy,f_uuu,f_yy,f_idiv,f_iof,f_nof,f_sqrt,f_uub,na,za,zcL,zb0,zby,zcM,zcB,zcq,zao,zbL,zaH,decide_eq_true_eq,f_cut,if_pos h,f_iread,f_nread,f_qmake,eq_true h1,h2',eq_true h3,e3,eq_true h4i]
    ·have h4i:¬((dv (slB l):Nat):Int)=0:=by omega
     have e1:qrE l=0:=by unfold qrE;rw [if_pos h1,if_neg h2,if_pos h3,if_neg h4]
     have e2:qrV l=(izV (slA l):Rat) / (dv (slB l):Rat):=if_neg h2
     rw [e1,if_pos rfl,e2]
     have e3:rdL (slB l)=lim (dv (slB l)):=if_pos h3
     simp only [tr_qread,Tr.den,zbK,SA.ev,BE.ev,IE.ev,SE.ev,LE.ev,zdh,zaZ,zcU,evN,evB,evS,zcp,zcI,zcD,At.len,At.bit,At.lst,op1,op2,op3,Nat.reduceLeDiff,Nat.reduceSub,Nat.reduceEqDiff,if_true,if_false,ite_true,ite_false,decide_true,decide_false,Bool.not_true,Bool.not_false,Nat.zero_le,Nat.sub_zero,List.getElem?_cons_zero,List.getElem?_cons_succ,List.getElem?_nil,GRd_cut,ctF_cut,GRd_iread,ctF_iread,GRd_nread,ctF_nread,zdo,zaA,GRd_unit,zaG,GRd_qmake,ctF_qmake,f_yur,f_un,f_uu,f_ub,f_yb,f_yn,f_yyn,f_yyy,f_uuu,f_yy,f_idiv,f_iof,f_nof,f_sqrt,f_uub,na,za,zcL,zb0,zby,zcM,zcB,zcq,zao,zbL,zaH,decide_eq_true_eq,f_cut,if_pos h,f_iread,f_nread,f_qmake,eq_true h1,h2',eq_true h3,e3,h4i,Rat.intCast_natCast]
   ·have e1:qrE l=rdE (slB l):=by unfold qrE;rw [if_pos h1,if_neg h2,if_neg h3]
    rw [e1,if_neg h3]
    simp only [tr_qread,Tr.den,zbK,SA.ev,BE.ev,IE.ev,SE.ev,LE.ev,zdh,zaZ,zcU,evN,evB,evS,zcp,zcI,zcD,At.len,At.bit,At.lst,op1,op2,op3,Nat.reduceLeDiff,Nat.reduceSub,Nat.reduceEqDiff,if_true,if_false,ite_true,ite_false,decide_true,decide_false,Bool.not_true,Bool.not_false,Nat.zero_le,Nat.sub_zero,List.getElem?_cons_zero,List.getElem?_cons_succ,List.getElem?_nil,GRd_cut,ctF_cut,GRd_iread,ctF_iread,GRd_nread,ctF_nread,zdo,zaA,GRd_unit,zaG,GRd_qmake,ctF_qmake,f_yur,f_un,f_uu,f_ub,f_yb,f_yn,f_yyn,f_yyy,f_uuu,f_yy,f_idiv,f_iof,f_nof,f_sqrt,f_uub,na,za,zcL,zb0,zby,zcM,zcB,zcq,zao,zbL,zaH,decide_eq_true_eq,f_cut,if_pos h,f_iread,f_nread,f_qmake,eq_true h1,h2',h3]
 ·have e1:qrE l=izE (slA l):=by unfold qrE;rw [if_neg h1]
  rw [e1,if_neg h1]
  simp only [tr_qread,Tr.den,zbK,SA.ev,BE.ev,IE.ev,SE.ev,LE.ev,zdh,zaZ,zcU,evN,evB,evS,zcp,zcI,zcD,At.len,At.bit,At.lst,op1,op2,op3,Nat.reduceLeDiff,Nat.reduceSub,Nat.reduceEqDiff,if_true,if_false,ite_true,ite_false,decide_true,decide_false,Bool.not_true,Bool.not_false,Nat.zero_le,Nat.sub_zero,List.getElem?_cons_zero,List.getElem?_cons_succ,List.getElem?_nil,GRd_cut,ctF_cut,GRd_iread,ctF_iread,GRd_nread,ctF_nread,zdo,zaA,GRd_unit,zaG,GRd_qmake,ctF_qmake,f_yur,f_un,f_uu,f_ub,f_yb,f_yn,f_yyn,f_yyy,f_uuu,f_yy,f_idiv,f_iof,f_nof,f_sqrt,f_uub,na,za,zcL,zb0,zby,zcM,zcB,zcq,zao,zbL,zaH,decide_eq_true_eq,f_cut,if_pos h,f_iread,f_nread,f_qmake,h1]
def ct_qread:Ct:={ args:=[[.s]],res:=[[.r],[.n]],F:=f_qread,L:=1000,A:=0,B:=1005 }
theorem ok_qread:ct_qread.ok Tryz.prog 75:=by
 refine ev_qread.weaken fun als r h=>?_
 have h':=h
 unfold f_qread at h
 split at h
 ·split at h
  ·rename_i l hl
   injection h with h;subst h
   exact qread_den l hl
  ·cases h
 ·cases h
def QReadPost (w:World) (l:List UInt8) (e:Ending) (w':World):Prop:=∃ n x y a c b d,e = .returned (.tuple #[.agg #[.bool n,.slice a x.length c,.slice b y.length d],.int .i64 (qrE l)])∧RD w' a c x∧RD w' b d y∧At.r n x y=qrR l∧x.length≤1005∧y.length≤1005∧Below w.heap.size w w'
theorem qReadR_any (s:ByteArray) (w:World) (hs:s.size<9223372036854775807):Calls Tryz.prog 99 #[.string s] w (QReadPost w (bs s)):=by
 have hkl:=slk_le (bs s)
 rw [zb7] at hkl
 refine za5 (rs:=[.cell 2 27,.tmp 3]) (n:=57) Tryz.func99 rfl rfl rfl (by kernel_rfl) ?_
 first|refine zzr fun K hK=>?_|refine zzt fun K hK=>?_
 simp [go_sem]
 refine zza rfl zb2 (fun w2 b2 hE2 hle2 hB2=>?_)
 simp [go_sem]
 apply hK;clear hK K
 first|refine zzr fun K hK=>?_|refine zzt fun K hK=>?_
 simp [go_sem]
 apply hK;clear hK K
 refine zab (fun K1 hK1=>?_)
 refine zac ?_
 refine zaz (fun m g w'=>w'=w2∧∃ k:Nat,k≤slk (bs s)∧m=slk (bs s)-k∧g 0 = .string s∧g 2 = .pointer (some ⟨b2,0,none⟩)∧g 4 = .int .i64 k) (slk (bs s)) ?_ ?_
 ·exact ⟨rfl,0,by omega,rfl,by simp [go_sem],by simp [go_sem],by simp [go_sem]⟩
 ·rintro m g w' ⟨rfl,k,hk,rfl,g0,g2,g4⟩
  refine zab (fun K2 hK2=>?_)
  by_cases hlt:k<slk (bs s)
  ·have c1:(k:Int)<s.size:=by omega
   have c2:k<s.size:=by omega
   have c3:=slk_at (bs s) k hlt
   have c4:¬((za9 s k).toNat:Int)=47:=by
    intro h
    refine c3 (UInt8.toNat_inj.1 ?_)
    show (za9 s k).toNat=47
    omega
   have hw1:IntKind.i64.wrap ((k:Int)+1)=(k:Int)+1:=IntWalk.i64_in _ (by omega)
   first|refine zzr fun K hK=>?_|refine zzt fun K hK=>?_
   simp [go_sem,g0,g4,c1,c2,c4]
   apply hK;clear hK K
   refine zaf (t:=true) (by simp [go_sem]) rfl ?_
   refine za7 ?_
   apply hK2
   refine zac ?_
   refine zzt fun K hK=>?_
   simp [go_sem,g4,hw1]
   refine hK _ _ ⟨slk (bs s)-(k+1),by omega,rfl,k+1,by omega,rfl,by simp [go_sem,g0],by simp [go_sem,g2],by simp [go_sem]⟩
  ·have hke:k=slk (bs s):=by omega
   clear hlt
   refine zeH (fun g w5=>w5=w'∧g 0 = .string s∧g 2 = .pointer (some ⟨b2,0,none⟩)∧g 4 = .int .i64 k∧g 17 = .bool false) (by kernel_rfl) ?_ ?_
   ·by_cases hsz:k<s.size
    ·have c1:(k:Int)<s.size:=by omega
     have c3:=slk_hit (bs s) (by rw [zb7];omega)
     rw [←hke] at c3
     have c4:(za9 s k).toNat=47:=by
      unfold za9;rw [c3];rfl
     simp [go_sem,g0,g2,g4,c1,hsz,c4]
    ·have c1:¬(k:Int)<s.size:=by omega
     simp [go_sem,g0,g2,g4,c1,hsz]
   ·clear g0 g2 g4
    rintro g w5 ⟨rfl,g0,g2,g4,g17⟩
    refine zaf g17 rfl ?_
    refine zav ?_
    repeat (first|refine zae ?_|refine za6 rfl ?_|refine za8 ?_)
    apply hK1
    have hA:bs (s.extract 0 k)=slA (bs s):=by rw [bs_ext,hke];simp [slA]
    have hcB:=iReadR_any (s.extract 0 k) w5
    rw [hA] at hcB
    unfold IReadPost at hcB
    obtain ⟨U,hU⟩:∃ U,U=izV (slA (bs s)):=⟨_,rfl⟩
    obtain ⟨V,hV⟩:∃ V,V=izE (slA (bs s)):=⟨_,rfl⟩
    have hUl:(lim U.natAbs).length≤1001:=by rw [hU];exact izV_len _
    rw [←hU,←hV] at hcB
    have hlt2:=hB2.lt
    first|refine zzr fun K hK=>?_|refine zzt fun K hK=>?_
    simp [go_sem,g0,g4,hkl]
    refine ⟨by omega,?_⟩
    refine zzc rfl Tryz.call118 (fun R hR=>?_)
    simp [go_sem,g0,g4]
    refine (hcB).mono ?_
    rintro e w3 ⟨a3,c3,rfl,hr3,hE3⟩
    refine ⟨_,rfl,hR _ _ ?_⟩
    clear hR R
    replace hB2:=hB2.keep hE3
    have hE:=hE2.next hE3
    simp [go_sem]
    refine zza rfl zbC (fun w5 b5 hE5 hle5 hB5=>?_)
    replace hr3:=hr3.keep hE5
    replace hB2:=hB2.keep hE5
    replace hE:=hE.next hE5
    have hb5:w.heap.size≤b5:=by have:=hE2.size;have:=hE3.size;omega
    have hne:b2≠b5:=by have:=hE3.size;omega
    simp [go_sem]
    refine zzs (b:=b5) (off:=0) [.bool (decide (U<0)),.slice a3 (lim U.natAbs).length c3] rfl zaI hB5 (fun w6 hS6 hB6=>?_) (by simp [go_sem,Value.cells,iR])
    simp [zaw] at hB6
    replace hr3:=hr3.sto hS6 (hr3.nbox hB5)
    replace hB2:=hB2.sto hS6 hne
    replace hE:=hE.nextS hS6 hb5
    obtain ⟨k0,k1⟩:=ibx hB6
    simp [go_sem]
    apply hK;clear hK K
    refine zab (fun K3 hK3=>?_)
    first|refine zzr fun K hK=>?_|refine zzt fun K hK=>?_
    simp [go_sem]
    apply hK;clear hK K
    have ret:∀ (g:G) (w9:World) (n:Bool) (x y:List Nat) (a b:Option Addr) (c d:Nat),Below w.heap.size w w9→Bx w9 b2 #[.bool n,.slice a x.length c,.slice b y.length d] 27→g 2 = .pointer (some ⟨b2,0,none⟩)→g 3 = .int .i64 (qrE (bs s))→RD w9 a c x→RD w9 b d y→At.r n x y=qrR (bs s)→x.length≤1005→y.length≤1005→fnQ Tryz.prog [.cell 2 27,.tmp 3] (QReadPost w (bs s)) .ret g w9:=by
     intro g w9 n x y a b c d hE hB g2 g3 r1 r2 hq l1 l2
     obtain ⟨q0,q1,q2⟩:=qbx hB
     refine ⟨by simp [go_sem,zaD,g2,q0,q1,q2,za0,za4,za1],n,x,y,a,c,b,d,?_,r1,r2,hq,l1,l2,hE⟩
     simp [go_sem,zar,zam,g2,g3,q0,q1,q2,za0,za4]
    by_cases h1:V=0
    ·refine zaf (t:=false) (by simp [go_sem,h1]) rfl ?_
     refine za7 ?_
     apply hK3
     refine zab (fun K4 hK4=>?_)
     first|refine zzr fun K hK=>?_|refine zzt fun K hK=>?_
     simp [go_sem,g0,g4]
     apply hK;clear hK K
     by_cases h2:k=s.size
     ·have c2:(k:Int)=s.size:=by omega
      refine zaf (t:=true) (by simp [go_sem,c2]) rfl ?_
      have hD:Below w6.heap.size w6 w6.drew:=Below.drew1 _
      replace hr3:=hr3.keep hD
      replace hB2:=hB2.keep hD
      replace hB6:=hB6.keep hD
      replace hE:=hE.next hD
      obtain ⟨k0,k1⟩:=ibx hB6
      first|refine W_rd [(0,0),(1,1),(2,1),(3,2),(4,0)] (by kernel_rfl) (by kernel_rfl) (fun K hK=>?_)|refine zbE [(0,0),(1,1),(2,1),(3,2),(4,0)] (by kernel_rfl) (by kernel_rfl) (fun K hK=>?_)
      simp [go_sem,k0,k1,za0,za4,za1]
      refine zzc rfl Tryz.call119 (fun R hR=>?_)
      simp [go_sem,k0,k1,za0]
      refine (ofR_any 1 _ (by decide)).mono ?_
      rintro e w7 ⟨a7,c7,rfl,hr7,hE7⟩
      refine ⟨_,rfl,(by assumption),hR _ _ ?_⟩
      clear hR R
      replace hr3:=hr3.keep hE7
      replace hB2:=hB2.keep hE7
      replace hB6:=hB6.keep hE7
      replace hE:=hE.next hE7
      simp [go_sem]
      obtain ⟨X,hX⟩:∃ X,X=qv (decide (U<0)) (lim U.natAbs) (lim 1):=⟨_,rfl⟩
      have hX':X=(U:Rat):=by rw [hX,zcq,Rat.mkRat_one]
      have hcO:=over_any (decide (U<0)) (lim U.natAbs) (lim 1) a3 a7 c3 c7 1001 _ hr3 hr7 hUl (Nat.le_trans (zbx 1 1 (by decide)) (by decide)) (by decide)
      rw [←hX] at hcO
      refine zzc rfl Tryz.call100 (fun R hR=>?_)
      simp [go_sem]
      refine (hcO).mono ?_
      rintro e w8 ⟨a8,c8,b8,d8,rfl,hr8,hs8,hz8,hy8,hE8⟩
      refine ⟨_,rfl,(by assumption),hR _ _ ?_⟩
      clear hR R
      replace hB2:=hB2.keep hE8
      replace hE:=hE.next hE8
      simp [go_sem,qR]
      refine zzs (b:=b2) (off:=0) [.bool (decide (X.num<0)),.slice a8 (lim X.num.natAbs).length c8,.slice b8 (lim X.den).length d8] rfl zax hB2 (fun w9 hS9 hB9=>?_) (by simp [go_sem,Value.cells,g2])
      simp [zaw] at hB9
      replace hr8:=hr8.sto hS9 (hr8.nboxR hB2)
      replace hs8:=hs8.sto hS9 (hs8.nboxR hB2)
      replace hE:=hE.nextS hS9 hle2
      simp [go_sem]
      apply hK;clear hK K
      refine zad ?_
      repeat first|refine za3 ?_|refine za2 ?_
      have hf:slH (bs s)=false:=by unfold slH;rw [zb7,←hke];exact decide_eq_false (by omega)
      have hq:qrE (bs s)=0:=by unfold qrE;rw [←hV,if_pos h1,if_pos hf]
      refine ret _ _ _ _ _ _ _ _ _ hE hB9 (by simp [go_sem,g2]) (by simp [go_sem,hq]) hr8 hs8 ?_ (by omega) (by omega)
      unfold qrR
      rw [if_pos hq,qrV,if_pos hf,←hU,←hX'];rfl
     ·have c2:¬(k:Int)=s.size:=by omega
      have hks:k<s.size:=by omega
      have hf:¬slH (bs s)=false:=by unfold slH;rw [zb7,←hke,decide_eq_true hks];decide
      have hw1:IntKind.i64.wrap ((k:Int)+1)=(k:Int)+1:=IntWalk.i64_in _ (by omega)
      refine zaf (t:=false) (by simp [go_sem,c2]) rfl ?_
      refine za7 ?_
      apply hK4
      have hA2:bs (s.extract (k+1) s.size)=slB (bs s):=by
       rw [bs_ext,slB,←hke]
       refine List.take_of_length_le ?_
       rw [List.length_drop,zb7];omega
      have hcB:=fun w=>readR_any (s.extract (k+1) s.size) w
      rw [hA2] at hcB
      unfold zdR at hcB
      obtain ⟨L,hL⟩:∃ L,L=rdL (slB (bs s)):=⟨_,rfl⟩
      obtain ⟨V2,hV2⟩:∃ V2,V2=rdE (slB (bs s)):=⟨_,rfl⟩
      have hLl:L.length≤1000:=by rw [hL];exact rdL_lenI _
      rw [←hL,←hV2] at hcB
      first|refine zzr fun K hK=>?_|refine zzt fun K hK=>?_
      simp [go_sem,g0,g4,hw1]
      refine ⟨by omega,?_⟩
      refine zzc rfl Tryz.call120 (fun R hR=>?_)
      simp [go_sem,g0,g4,hw1]
      refine (hcB _).mono ?_
      rintro e w7 ⟨a7,c7,rfl,hr7,hE7⟩
      refine ⟨_,rfl,hR _ _ ?_⟩
      clear hR R
      replace hr3:=hr3.keep hE7
      replace hB2:=hB2.keep hE7
      replace hB6:=hB6.keep hE7
      replace hE:=hE.next hE7
      simp [go_sem]
      apply hK;clear hK K
      refine zab (fun K5 hK5=>?_)
      first|refine zzr fun K hK=>?_|refine zzt fun K hK=>?_
      simp [go_sem]
      apply hK;clear hK K
      by_cases h5:V2=0
      ·refine zaf (t:=false) (by simp [go_sem,h5]) rfl ?_
       refine za7 ?_
       apply hK5
       refine zab (fun K6 hK6=>?_)
       first|refine zzr fun K hK=>?_|refine zzt fun K hK=>?_
       simp [go_sem]
       apply hK;clear hK K
       have hLv:L=lim (dv (slB (bs s))):=by rw [hL];unfold rdL;rw [if_pos (by rw [←hV2];exact h5)]
       by_cases h6:L.length=0
       ·have c6:(L.length:Int)=0:=by omega
        have h7:dv (slB (bs s))=0:=by
         have:=List.length_eq_zero_iff.1 h6
         rw [this] at hLv
         have h8:=zao (dv (slB (bs s)))
         rw [←hLv] at h8
         exact h8.symm
        have hq:qrE (bs s)=3:=by unfold qrE;rw [←hV,if_pos h1,if_neg hf,←hV2,if_pos h5,if_pos h7]
        have hn:=List.length_eq_zero_iff.1 h6
        refine zaf (t:=true) (by simp [go_sem,hn]) rfl ?_
        first|refine zzr fun K hK=>?_|refine zzt fun K hK=>?_
        simp [go_sem]
        refine zal #[.bool false,.slice none 0 0,.slice none 0 0] (by simp [go_sem]) rfl zdr [] (by simp [go_sem]) rfl ?_
        simp [go_sem]
        refine zzs (b:=b2) (off:=0) [.bool false,.slice none 0 0,.slice none 0 0] rfl zax hB2 (fun w8 hS8 hB8=>?_) (by simp [go_sem,Value.cells,g2])
        simp [zaw] at hB8
        simp [go_sem]
        apply hK;clear hK K
        refine zad ?_
        repeat first|refine za3 ?_|refine za2 ?_
        exact ret _ _ false [] [] none none 0 0 (hE.nextS hS8 hle2) hB8 (by simp [go_sem,g2]) (by simp [go_sem,hq]) (RD.nil _ _ _) (RD.nil _ _ _) (by unfold qrR;rw [if_neg (by rw [hq];decide)]) (by simp) (by simp)
       ·have c6:¬(L.length:Int)=0:=by omega
        have h7:¬dv (slB (bs s))=0:=by
         intro e
         rw [e,zap] at hLv
         rw [hLv] at h6;exact h6 rfl
        have hq:qrE (bs s)=0:=by unfold qrE;rw [←hV,if_pos h1,if_neg hf,←hV2,if_pos h5,if_neg h7]
        have hn:¬L=[]:=fun e=>h6 (by rw [e];rfl)
        refine zaf (t:=false) (by simp [go_sem,hn]) rfl ?_
        refine za7 ?_
        apply hK6
        obtain ⟨k0,k1⟩:=ibx hB6
        obtain ⟨X,hX⟩:∃ X,X=qv (decide (U<0)) (lim U.natAbs) L:=⟨_,rfl⟩
        have hX':X=(U:Rat) / (dv (slB (bs s)):Rat):=by rw [hX,hLv,zcq,Rat.mkRat_eq_div]
        have hcO:=over_any (decide (U<0)) (lim U.natAbs) L a3 a7 c3 c7 1001 _ hr3 hr7 hUl (by omega) (by decide)
        rw [←hX] at hcO
        first|refine zzr fun K hK=>?_|refine zzt fun K hK=>?_
        simp [go_sem,k0,k1,za0,za4,za1]
        refine zzc rfl Tryz.call100 (fun R hR=>?_)
        simp [go_sem,k0,k1,za0,za4,za1]
        refine (hcO).mono ?_
        rintro e w8 ⟨a8,c8,b8,d8,rfl,hr8,hs8,hz8,hy8,hE8⟩
        refine ⟨_,rfl,hR _ _ ?_⟩
        clear hR R
        replace hB2:=hB2.keep hE8
        replace hE:=hE.next hE8
        simp [go_sem,qR]
        refine zzs (b:=b2) (off:=0) [.bool (decide (X.num<0)),.slice a8 (lim X.num.natAbs).length c8,.slice b8 (lim X.den).length d8] rfl zax hB2 (fun w9 hS9 hB9=>?_) (by simp [go_sem,Value.cells,g2])
        simp [zaw] at hB9
        replace hr8:=hr8.sto hS9 (hr8.nboxR hB2)
        replace hs8:=hs8.sto hS9 (hs8.nboxR hB2)
        replace hE:=hE.nextS hS9 hle2
        simp [go_sem]
        apply hK;clear hK K
        refine zad ?_
        repeat first|refine za3 ?_|refine za2 ?_
        refine ret _ _ _ _ _ _ _ _ _ hE hB9 (by simp [go_sem,g2]) (by simp [go_sem,hq]) hr8 hs8 ?_ (by omega) (by omega)
        unfold qrR
        rw [if_pos hq,qrV,if_neg hf,←hU,←hX'];rfl
      ·have hq:qrE (bs s)=V2:=by unfold qrE;rw [←hV,if_pos h1,if_neg hf,←hV2,if_neg h5]
       refine zaf (t:=true) (by simp [go_sem,h5]) rfl ?_
       first|refine zzr fun K hK=>?_|refine zzt fun K hK=>?_
       simp [go_sem]
       refine zal #[.bool false,.slice none 0 0,.slice none 0 0] (by simp [go_sem]) rfl zdr [] (by simp [go_sem]) rfl ?_
       simp [go_sem]
       refine zzs (b:=b2) (off:=0) [.bool false,.slice none 0 0,.slice none 0 0] rfl zax hB2 (fun w8 hS8 hB8=>?_) (by simp [go_sem,Value.cells,g2])
       simp [zaw] at hB8
       simp [go_sem]
       apply hK;clear hK K
       refine zad ?_
       repeat first|refine za3 ?_|refine za2 ?_
       exact ret _ _ false [] [] none none 0 0 (hE.nextS hS8 hle2) hB8 (by simp [go_sem,g2]) (by simp [go_sem,hq]) (RD.nil _ _ _) (RD.nil _ _ _) (by unfold qrR;rw [if_neg (by rw [hq];exact h5)]) (by simp) (by simp)
    ·have hq:qrE (bs s)=V:=by unfold qrE;rw [←hV,if_neg h1]
     refine zaf (t:=true) (by simp [go_sem,h1]) rfl ?_
     first|refine zzr fun K hK=>?_|refine zzt fun K hK=>?_
     simp [go_sem]
     refine zal #[.bool false,.slice none 0 0,.slice none 0 0] (by simp [go_sem]) rfl zdr [] (by simp [go_sem]) rfl ?_
     simp [go_sem]
     refine zzs (b:=b2) (off:=0) [.bool false,.slice none 0 0,.slice none 0 0] rfl zax hB2 (fun w7 hS7 hB7=>?_) (by simp [go_sem,Value.cells,g2])
     simp [zaw] at hB7
     simp [go_sem]
     apply hK;clear hK K
     refine zad ?_
     repeat first|refine za3 ?_|refine za2 ?_
     exact ret _ _ false [] [] none none 0 0 (hE.nextS hS7 hle2) hB7 (by simp [go_sem,g2]) (by simp [go_sem,hq]) (RD.nil _ _ _) (RD.nil _ _ _) (by unfold qrR;rw [if_neg (by rw [hq];exact h1)]) (by simp) (by simp)
theorem sg_num (x:Rat):(sg x.num=0)=(x=0):=by
 apply propext
 rw [←Rat.num_eq_zero]
 unfold sg
 by_cases h:x.num=0
 ·simp [h]
 ·simp only [h,if_false,iff_false]
  split<;>decide
end Go.Proofs.YtefhenfofomjhaaGreat
