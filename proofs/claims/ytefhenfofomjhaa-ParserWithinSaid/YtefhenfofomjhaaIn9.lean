/- Integers: the numerals. -/
import Derived.Test.YtefhenfofomjhaaNtT
import Derived.Test.YtefhenfofomjhaaLx1
import Derived.Test.YtefhenfofomjhaaNt9
import Derived.Test.YtefhenfofomjhaaVE
import Derived.Test.YtefhenfofomjhaaTy
import Derived.Shelf.Strings.Builder1
import Derived.Laws.BytesString
import Derived.Test.YtefhenfofomjhaaRows
import Derived.ProofKit
import Derived.SizedLaws
import Derived.ChangeSlices
import Derived.ChangeSame
set_option linter.unusedSimpArgs false
set_option linter.unusedVariables false
namespace Go.Proofs.Ytefhenfofomjhaa
open Go.RowKit Go.V
set_option maxRecDepth 20000
theorem lim_mono {A B k:Nat} (h:A≤B) (hk:(lim B).length≤k):(lim A).length≤k:=by
 refine Nat.le_trans (zdX (lim B).length A ?_) hk
 have:=zcP _ (lim_ok B)
 rw [zau] at this
 omega
theorem lim_ne {B:Nat} (h:B≠0):0<(lim B).length:=by
 rw [lim_pos B h];simp
theorem lim_small {A:Nat} (h:(lim A).length≤4):A<18446744073709551616:=by
 have:=val_lt4 _ (lim_ok A) h
 rwa [zau] at this
set_option maxHeartbeats 4000000 in
theorem gcd_any (l m:List Nat) (a b:Option Addr) (c d:Nat) (w:World) (hr:RD w a c l) (hs:RD w b d m) (hl:l.length+1≤lenS) (hm:m.length+1≤lenS) :
  Calls Try.prog 73 #[.slice a l.length c,.slice b m.length d] w (RetN w (lim (Nat.gcd (val l) (val m)))):=by
 have hl':l.length+1≤100000000000:=hl
 have hm':m.length+1≤100000000000:=hm
 have hn1:=zbn l
 have hn2:=zbn m
 refine za8 (args:=[.slice a l.length c,.slice b m.length d]) (rs:=[.tmp 4]) (n:=51) Try.func73 rfl rfl rfl (by kernel_rfl) ?_
 first|refine zzr fun K hK=>?_|refine zzt fun K hK=>?_
 simp [go_sem]
 refine hK _ _ ?_;clear hK K
 first|refine zzr fun K hK=>?_|refine zzt fun K hK=>?_
 simp [go_sem]
 refine za5 (by simp [go_sem]) rfl Try.call70 (fun R hR=>?_)
 simp [go_sem]
 refine (norm_any l a c _ hr (by unfold zcQ;omega)).mono ?_
 rintro e w1 ⟨a1,c1,rfl,hr1,hE1⟩
 refine ⟨_,rfl,hR _ _ ?_⟩
 clear hR R
 replace hs:=hs.ext hE1
 simp [go_sem]
 refine za5 (by simp [go_sem]) rfl Try.call70 (fun R hR=>?_)
 simp [go_sem]
 refine (norm_any m b d _ hs (by unfold zcQ;omega)).mono ?_
 rintro e w2 ⟨b1,d1,rfl,hs1,hE2⟩
 refine ⟨_,rfl,hR _ _ ?_⟩
 clear hR R
 replace hr1:=hr1.ext hE2
 have hE:=hE1.next hE2
 have hokl:=hr.ok
 have hokm:=hs.ok
 rw [←zb9 l hokl] at hr1 hn1
 rw [←zb9 m hokm] at hs1 hn2
 rw [←zb9 l hokl,←zb9 m hokm]
 simp [go_sem]
 refine hK _ _ ?_;clear hK K
 clear hr hs hE1 hE2
 generalize val l=A0 at *
 generalize val m=B0 at *
 have hkA:(lim A0).length+1≤lenS:=by unfold lenS;omega
 have hkB:(lim B0).length+1≤lenS:=by unfold lenS;omega
 refine zad (fun K1 hK1=>?_)
 refine zag ?_
 refine zaJ (fun t g w'=>Below w.heap.size w w'∧∃ A B a1 c1 b1 d1,B=t∧g 0 = .slice a1 (lim A).length c1∧g 1 = .slice b1 (lim B).length d1∧RD w' a1 c1 (lim A)∧RD w' b1 d1 (lim B)∧(lim A).length+1≤lenS∧(lim B).length+1≤lenS∧Nat.gcd A B=Nat.gcd A0 B0) B0 ?_ ?_
 ·exact ⟨hE,A0,B0,a1,c1,b1,d1,rfl,by simp [go_sem],by simp [go_sem],hr1,hs1,hkA,hkB,rfl⟩
 ·clear hE hr1 hs1
  rintro t g w' ⟨hE,A,B,a1,c1,b1,d1,rfl,g0,g1,hr1,hs1,hA,hB,hg⟩
  refine zad (fun K2 hK2=>?_)
  by_cases h0:B=0
  ·subst h0
   rw [Nat.gcd_zero_right] at hg
   rw [zaq] at g1
   first|refine zzr fun K hK=>?_|refine zzt fun K hK=>?_
   simp [go_sem,g1]
   refine hK _ _ ?_;clear hK K
   refine zao (by simp [go_sem];rfl) rfl ?_
   refine zaB ?_
   repeat (first|refine zak ?_|refine za9 rfl ?_|refine zac ?_)
   refine hK1 _ _ ?_;clear hK1 K1 hK2 K2
   first|refine zzr fun K hK=>?_|refine zzt fun K hK=>?_
   simp [go_sem,g0]
   refine hK _ _ ?_;clear hK K
   refine zal ?_
   repeat (first|refine za4 ?_|refine za3 ?_)
   rw [←hg]
   refine ⟨trivial,a1,c1,?_,hr1,hE⟩
   simp [go_sem,zaw,zav,g0]
  ·have hp:0<(lim B).length:=lim_ne h0
   have hp':(0:Int)<(lim B).length:=by omega
   have hu1:=uint_any (lim A) a1 c1 _ hr1 (by unfold zcQ;unfold lenS at hA;omega)
   have hu2:=uint_any (lim B) b1 d1 _ hs1 (by unfold zcQ;unfold lenS at hB;omega)
   unfold uintV at hu1 hu2
   rw [nrm_lim,zau] at hu1 hu2
   generalize hla:(lim A).length=la at *
   generalize hlb:(lim B).length=lb at *
   first|refine zzr fun K hK=>?_|refine zzt fun K hK=>?_
   simp [go_sem,g1,hp,hp']
   refine hK _ _ ?_;clear hK K
   refine zao (by simp [go_sem,hp,hp'];rfl) rfl ?_
   refine zae ?_
   refine hK2 _ _ ?_;clear hK2 K2
   refine zag ?_
   first|refine zzr fun K hK=>?_|refine zzt fun K hK=>?_
   simp [go_sem,g0]
   refine za5 (by simp [go_sem,g0]) rfl Try.call80 (fun R hR=>?_)
   simp [go_sem,g0]
   refine (hu1).mono ?_
   rintro e w3 ⟨rfl,rfl⟩
   refine ⟨_,rfl,hR _ _ ?_⟩
   clear hR R
   simp [go_sem]
   refine hK _ _ ?_;clear hK K
   first|refine zzr fun K hK=>?_|refine zzt fun K hK=>?_
   simp [go_sem,g1]
   refine za5 (by simp [go_sem,g1]) rfl Try.call80 (fun R hR=>?_)
   simp [go_sem,g1]
   refine (hu2).mono ?_
   rintro e w3 ⟨rfl,rfl⟩
   refine ⟨_,rfl,hR _ _ ?_⟩
   clear hR R
   simp [go_sem]
   refine hK _ _ ?_;clear hK K
   refine zad (fun K3 hK3=>?_)
   have big:∀ g:G,g 0 = .slice a1 la c1→g 1 = .slice b1 lb d1→K3 g w':=by
    clear g0 g1
    clear g
    intro g g0 g1
    refine hK3 _ _ ?_;clear hK3 K3
    rw [←hla] at g0
    rw [←hlb] at g1
    have hdm:=divmod_any (lim A) (lim B) a1 b1 c1 d1 _ hr1 hs1 (by rw [hla];exact hA) (by rw [hlb];omega)
    rw [zau,zau] at hdm
    first|refine zzr fun K hK=>?_|refine zzt fun K hK=>?_
    simp [go_sem,g0,g1]
    refine za5 (by simp [go_sem,g0,g1]) rfl Try.call74 (fun R hR=>?_)
    simp [go_sem,g0,g1]
    refine hdm.mono ?_
    rintro e w4 (⟨hbad,_⟩|⟨_,a4,c4,a5,c5,rfl,hr4,hr5,hE4⟩)
    ·exact absurd hbad h0
    refine ⟨_,rfl,hR _ _ ?_⟩
    clear hR R
    replace hs1:=hs1.ext hE4
    simp [go_sem]
    refine hK _ _ ?_;clear hK K
    first|refine zzr fun K hK=>?_|refine zzt fun K hK=>?_
    simp [go_sem,g1]
    have hlt:=Nat.mod_lt A (show 0<B by omega)
    exact hK _ _ ⟨A % B,hlt,hE.next hE4,B,A % B,b1,d1,a5,c5,rfl,by simp [go_sem],by simp [go_sem],hs1,hr5,by rw [hlb];exact hB,by
     have:=lim_mono (Nat.le_of_lt hlt) (Nat.le_of_eq hlb)
     omega,by rw [←hg,Nat.gcd_comm A B,Nat.gcd_comm B,←Nat.gcd_rec]⟩
   by_cases h1:la≤4
   ·by_cases h2:lb≤4
    ·have hAs:=lim_small (by rw [hla];exact h1)
     have hBs:=lim_small (by rw [hlb];exact h2)
     first|refine zzr fun K hK=>?_|refine zzt fun K hK=>?_
     simp [go_sem,h1,h2]
     refine hK _ _ ?_;clear hK K
     refine zao (by simp [go_sem,h1,h2];rfl) rfl ?_
     refine zad (fun K4 hK4=>?_)
     refine zag ?_
     refine zaJ (fun t g w1=>Below w.heap.size w w1∧∃ x y:Nat,y=t∧x<18446744073709551616∧y<18446744073709551616∧g 5 = .int .u64 x∧g 7 = .int .u64 y∧Nat.gcd x y=Nat.gcd A0 B0) B ?_ ?_
     ·exact ⟨hE,A,B,rfl,hAs,hBs,by simp [go_sem,h1],by simp [go_sem,h2],hg⟩
     ·clear big g0 g1
      clear g
      rintro t g w1 ⟨hE,x,y,rfl,hx,hy,g5,g7,hg⟩
      refine zad (fun K5 hK5=>?_)
      by_cases hy0:y=0
      ·subst hy0
       rw [Nat.gcd_zero_right] at hg
       first|refine zzr fun K hK=>?_|refine zzt fun K hK=>?_
       simp [go_sem,g7]
       refine hK _ _ ?_;clear hK K
       refine zao (by simp [go_sem];rfl) rfl ?_
       refine zaB ?_
       repeat (first|refine zak ?_|refine za9 rfl ?_|refine zac ?_)
       refine hK4 _ _ ?_;clear hK4 K4 hK5 K5
       first|refine zzr fun K hK=>?_|refine zzt fun K hK=>?_
       simp [go_sem,g5]
       refine za5 (by simp [go_sem,g5]) rfl Try.call81 (fun R hR=>?_)
       simp [go_sem,g5]
       refine (of_any x _ hx).mono ?_
       rintro e w5 ⟨a5,c5,rfl,hr5,hE5⟩
       refine ⟨_,rfl,hR _ _ ?_⟩
       clear hR R
       simp [go_sem]
       refine hK _ _ ?_;clear hK K
       refine zal ?_
       repeat (first|refine za4 ?_|refine za3 ?_)
       rw [←hg]
       refine ⟨trivial,a5,c5,?_,hr5,hE.next hE5⟩
       simp [go_sem,zaw,zav]
      ·have hy':(0:Int)<y:=by omega
       have hyp:0<y:=by omega
       have hy'':¬(y:Int)=0:=by omega
       have hlt:=Nat.mod_lt x hyp
       have f1:(x:Int).tmod y=((x % y:Nat):Int):=rfl
       obtain ⟨z,hz⟩:∃ z,z=x % y:=⟨_,rfl⟩
       rw [←hz] at f1 hlt
       first|refine zzr fun K hK=>?_|refine zzt fun K hK=>?_
       simp [go_sem,g7,hy',hyp]
       refine hK _ _ ?_;clear hK K
       refine zao (by simp [go_sem,hy',hyp];rfl) rfl ?_
       refine zae ?_
       refine hK5 _ _ ?_;clear hK5 K5
       refine zag ?_
       first|refine W_rd [(0,0),(1,0),(2,0),(3,0),(4,0),(5,0)] (by kernel_rfl) (by kernel_rfl) (fun K hK=>?_)|refine zbC [(0,0),(1,0),(2,0),(3,0),(4,0),(5,0)] (by kernel_rfl) (by kernel_rfl) (fun K hK=>?_)
       simp [go_sem,g5,g7,hy0,hy'',f1]
       refine hK _ _ ⟨z,hlt,?_,y,z,rfl,hy,by omega,by simp [go_sem],by simp [go_sem],by rw [←hg,hz,Nat.gcd_comm x y,Nat.gcd_comm y,←Nat.gcd_rec]⟩
       exact hE.next (Below.drew1 _)
    ·first|refine zzr fun K hK=>?_|refine zzt fun K hK=>?_
     simp [go_sem,h1,h2]
     refine hK _ _ ?_;clear hK K
     refine zao (by simp [go_sem,h1,h2];rfl) rfl ?_
     refine zae ?_
     exact big _ (by simp [go_sem,g0]) (by simp [go_sem,g1])
   ·first|refine zzr fun K hK=>?_|refine zzt fun K hK=>?_
    simp [go_sem,h1]
    refine hK _ _ ?_;clear hK K
    refine zao (by simp [go_sem,h1];rfl) rfl ?_
    refine zae ?_
    exact big _ (by simp [go_sem,g0]) (by simp [go_sem,g1])
end Go.Proofs.Ytefhenfofomjhaa
namespace Go.Proofs.Ytefhenfofomjhaa
open Go.RowKit Go.V Go.Shelf
set_option maxRecDepth 20000
theorem own_slice {w:World} {B e size n:Nat} {v:Value} {xs:List Value} (h:w.ownsRow B e size v n xs):∃ a c,v = .slice a n c:=by
 rcases h.2 with ⟨h1,h2⟩|⟨g,cap,cur,hv,_⟩
 ·exact ⟨none,0,by rw [h1,h2]⟩
 ·exact ⟨_,_,hv⟩
end Go.Proofs.Ytefhenfofomjhaa
namespace Go.Proofs.Ytefhenfofomjhaa
open Go.RowKit Go.V
set_option maxRecDepth 20000
def isq:Nat→Nat
 | 0=>0
 | n+1=>if (isq n+1)*(isq n+1)≤n+1 then isq n+1 else isq n
theorem RD.drop {w:World} {a:Option Addr} {c:Nat} {l:List Nat} (h:RD w a c l) {k:Nat} (hk:k<l.length):RD w (a.map (·.add k)) (c-k) (l.drop k):=by
 refine ⟨?_,h.ok.drop k,by have:=h.cap;rw [List.length_drop];omega⟩
 have:=h.sl.sub k l.length
 rw [List.take_of_length_le (by rw [List.length_drop,zaY];omega),←lmC_drop] at this
 exact this
def isD (c:UInt8):Bool:=decide (48≤c.toNat) && decide (c.toNat≤57)
def dv (l:List UInt8):Nat:=l.foldl (fun n c=>n*10+(c.toNat-48)) 0
def rdBad (l:List UInt8):Bool:=(decide (1<l.length) && decide (l.getD 0 0=48)) || l.any (fun c=>!isD c)
def rdE (l:List UInt8):Int:=if l=[] then 10 else if 1000<l.length then 4 else if rdBad l=true then 9 else 0
def rdL (l:List UInt8):List Nat:=if rdE l=0 then lim (dv l) else []
def ReadPost (w:World) (l:List UInt8) (e:Ending) (w':World):Prop:=∃ a c,e = .returned (.tuple #[.slice a (rdL l).length c,.int .i64 (rdE l)])∧RD w' a c (rdL l)∧Below w.heap.size w w'
theorem readErr {w w':World} {l:List UInt8} {e:Ending} {n:Int} (hn:rdE l=n) (h0:n≠0) (he:e = .returned (.tuple #[.slice none 0 0,.int .i64 n])) (hE:Below w.heap.size w w'):ReadPost w l e w':=by
 have hL:rdL l=[]:=by unfold rdL;rw [if_neg (by rw [hn];exact h0)]
 refine ⟨none,0,?_,by rw [hL];exact RD.nil _ _ _,hE⟩
 rw [hL,hn,he];rfl
def ch (l:List UInt8) (k:Nat):UInt8:=l.getD k 0
theorem dv_take (l:List UInt8) (i:Nat) (h:i<l.length):dv (l.take (i+1))=dv (l.take i)*10+((l.getD i 0).toNat-48):=by
 unfold dv
 rw [List.take_succ_eq_append_getElem h,List.foldl_append]
 simp [List.getD_eq_getElem?_getD,List.getElem?_eq_getElem h]
theorem dv_lt (l:List UInt8):∀ i,i≤l.length→(∀ k,k<i→isD (l.getD k 0)=true)→dv (l.take i)<10 ^ i
 | 0,_,_=>by simp [dv]
 | i+1,h,hd=>by
  have ih:=dv_lt l i (by omega) (fun k hk=>hd k (by omega))
  have hi:=hd i (by omega)
  unfold isD at hi
  simp only [Bool.and_eq_true,decide_eq_true_eq] at hi
  rw [dv_take l i (by omega),Nat.pow_succ]
  omega
theorem dv_len (l:List UInt8) (i:Nat) (h:i≤l.length) (hd:∀ k,k<i→isD (l.getD k 0)=true):(lim (dv (l.take i))).length≤i:=by
 refine zdX _ _ (Nat.lt_of_lt_of_le (dv_lt l i h hd) (Nat.pow_le_pow_left (by decide) i))
theorem bad_at {l:List UInt8} {i:Nat} (h:i<l.length) (hb:isD (l.getD i 0)=false):rdBad l=true:=by
 unfold rdBad
 have:l.any (fun c=>!isD c)=true:=by
  rw [List.any_eq_true]
  refine ⟨l.getD i 0,?_,by rw [hb];rfl⟩
  rw [List.getD_eq_getElem?_getD,List.getElem?_eq_getElem h,Option.getD_some]
  exact List.getElem_mem h
 rw [this,Bool.or_true]
theorem bad_none {l:List UInt8} (h0:¬(1<l.length∧l.getD 0 0=48)) (hd:∀ k,k<l.length→isD (l.getD k 0)=true):rdBad l=false:=by
 unfold rdBad
 have h1:l.any (fun c=>!isD c)=false:=by
  rw [List.any_eq_false]
  intro c hc
  obtain ⟨k,hk,rfl⟩:=List.mem_iff_getElem.1 hc
  have:=hd k hk
  rw [List.getD_eq_getElem?_getD,List.getElem?_eq_getElem hk,Option.getD_some] at this
  simp [this]
 rw [h1,Bool.or_false,Bool.and_eq_false_iff]
 by_cases h:1<l.length
 ·right;exact decide_eq_false (fun h'=>h0 ⟨h,h'⟩)
 ·left;exact decide_eq_false h
theorem own_block2 {w:World} {base n:Nat} {e:TypeId} {v:Value} {xs:List Value} (h:w.ownsRow base e 1 v n xs) (hn:0<n):∃ g cap Z,v = .slice (some ⟨g,0,none⟩) n cap∧base≤g∧Bx w g (xs++Z).toArray e∧cap≤maxLen∧n+Z.length=cap:=by
 have hl:=h.1
 rcases h.2 with ⟨_,h2⟩|⟨g,cap,cur,hv,hb,hg,hle,hm,hsz,ht⟩
 ·omega
 ·rw [Nat.mul_one] at ht hsz
  refine ⟨g,cap,cur.toList.drop n,hv,hb,⟨?_⟩,hm,?_⟩
  ·rw [hg,←ht,List.take_append_drop]
  ·rw [List.length_drop];simp [hsz];omega
theorem own_of_blk {w:World} {base n g cap:Nat} {e:TypeId} {xs Z:List Value} (hB:Bx w g (xs++Z).toArray e) (hl:xs.length=n) (hc:n+Z.length=cap) (hm:cap≤maxLen) (hb:base≤g):w.ownsRow base e 1 (.slice (some ⟨g,0,none⟩) n cap) n xs:=by
 refine ⟨by rw [Nat.mul_one];exact hl,.inr ⟨g,cap,_,rfl,hb,hB.heap,by omega,hm,by simp;omega,?_⟩⟩
 rw [Nat.mul_one,←hl]
 simp
theorem read_step (ws O:List Nat) (k dg cy s:Nat) (hw:ws.length=k) (h:val ws+65536 ^ k*cy=10*val (O.take k)+dg) (hs:s=cy+10*lat O k):val (ws++[s % 65536])+65536 ^ (k+1)*(s / 65536)=10*val (O.take (k+1))+dg:=by
 rw [zdW,zaZ O k,hw,Nat.pow_succ]
 simp only [val,Nat.mul_zero,Nat.add_zero]
 generalize 65536 ^ k=P at *
 have e1:P*(s % 65536)+P*65536*(s / 65536)=P*s:=by rw [Nat.mul_assoc,←Nat.mul_add,Nat.mod_add_div]
 have e2:P*s=P*cy+P*(10*lat O k):=by rw [hs,Nat.mul_add]
 have e3:10*(val (O.take k)+P*lat O k)=10*val (O.take k)+P*(10*lat O k):=by rw [Nat.mul_add,Nat.mul_left_comm]
 omega
theorem read_end (ws:List Nat) (N N' cy:Nat) (hok:Ok ws) (hw:ws.length=(lim N).length) (hcy:cy<65536) (h:val ws+65536 ^ (lim N).length*cy=N') (hN:N≤N'):lim N'=if cy=0 then ws else ws++[cy]:=by
 split
 ·rename_i h0
  subst h0
  rw [Nat.mul_zero,Nat.add_zero] at h
  rw [←h,zb9 ws hok]
  rcases hl:(lim N).length with _|k
  ·have:ws=[]:=List.length_eq_zero_iff.1 (by omega)
   subst this;rfl
  ·refine nrm_full ws hok k (by omega) ?_
   have:=val_len (lim N) (lim_ok N) k (by rw [nrm_lim];exact hl)
   rw [zau] at this
   omega
 ·rename_i h0
  have e:val (ws++[cy])=N':=by rw [zdW,hw,←h];simp [val]
  rw [←e,zb9 _ (hok.app (Ok.cons hcy Ok.nil)),nrm_snoc _ _ h0]
theorem set_drop (ws O:List Nat) (k x:Nat) (hw:ws.length=k) (hk:k<O.length):(ws++O.drop k).set k x=(ws++[x])++O.drop (k+1):=by
 have:=set_win [] ws O [] k x hw hk
 simpa using this
theorem lat_drop2 (ws O:List Nat) (k:Nat) (hw:ws.length=k) (hk:k<O.length):lat (ws++O.drop k) k=lat O k:=by
 have:=lat_win [] ws O [] k hw hk
 simpa using this
set_option maxHeartbeats 1000000 in
theorem read_any (s:ByteArray) (w:World):Calls Try.prog 66 #[.string s] w (ReadPost w (bs s)):=by
 have hsz:=zaR s
 have hbe:bs ⟨#[]⟩=[]:=rfl
 obtain ⟨l,hl⟩:∃ l,l=bs s:=⟨_,rfl⟩
 rw [←hl] at hsz ⊢
 have hba:∀ k,zah s k=ch l k:=fun k=>by rw [hl];rfl
 refine za8 (args:=[.string s]) (rs:=[.tmp 2,.tmp 3]) (n:=74) Try.func66 rfl rfl rfl (by kernel_rfl) ?_
 first|refine zzr fun K hK=>?_|refine zzt fun K hK=>?_
 simp [go_sem]
 refine hK _ _ ?_;clear hK K
 refine zad (fun K1 hK1=>?_)
 refine zag ?_
 by_cases h0:l=[]
 ·first|refine zzr fun K hK=>?_|refine zzt fun K hK=>?_
  simp [go_sem,←hl,hbe,h0]
  refine hK _ _ ?_;clear hK K
  refine zao (by simp [go_sem,h0];rfl) rfl ?_
  first|refine zzr fun K hK=>?_|refine zzt fun K hK=>?_
  simp [go_sem]
  refine hK _ _ ?_;clear hK K
  refine zal ?_
  repeat (first|refine za4 ?_|refine za3 ?_)
  refine ⟨trivial,readErr (n:=10) (by unfold rdE;rw [if_pos h0]) (by decide) ?_ (Below.refl _ _)⟩
  simp [go_sem,zaw,zav]
 ·first|refine zzr fun K hK=>?_|refine zzt fun K hK=>?_
  simp [go_sem,←hl,hbe,h0]
  refine hK _ _ ?_;clear hK K
  refine zao (by simp [go_sem,h0];rfl) rfl ?_
  by_cases h1:1000<l.length
  ·have h1':(1000:Int)<l.length:=by omega
   first|refine zzr fun K hK=>?_|refine zzt fun K hK=>?_
   simp [go_sem,←hsz,h1,h1']
   refine hK _ _ ?_;clear hK K
   refine zao (by simp [go_sem,h1,h1'];rfl) rfl ?_
   first|refine zzr fun K hK=>?_|refine zzt fun K hK=>?_
   simp [go_sem]
   refine hK _ _ ?_;clear hK K
   refine zal ?_
   repeat (first|refine za4 ?_|refine za3 ?_)
   refine ⟨trivial,readErr (n:=4) (by unfold rdE;rw [if_neg h0,if_pos h1]) (by decide) ?_ (Below.refl _ _)⟩
   simp [go_sem,zaw,zav]
  ·have h1':¬(1000:Int)<l.length:=by omega
   have hE9:rdBad l=true→rdE l=9:=fun hb=>by unfold rdE;rw [if_neg h0,if_neg h1,if_pos hb]
   first|refine zzr fun K hK=>?_|refine zzt fun K hK=>?_
   simp [go_sem,←hsz,h1,h1']
   refine hK _ _ ?_;clear hK K
   refine zao (by simp [go_sem,h1,h1'];rfl) rfl ?_
   have main:¬(1<l.length∧ch l 0=48)→∀ g:G,g 0 = .string s→K1 g w:=by
    intro hz g g0
    refine hK1 _ _ ?_;clear hK1 K1
    first|refine zzr fun K hK=>?_|refine zzt fun K hK=>?_
    simp [go_sem]
    refine hK _ _ ?_;clear hK K
    refine zad (fun K1 hK1=>?_)
    first|refine zzr fun K hK=>?_|refine zzt fun K hK=>?_
    simp [go_sem,g0,←hsz]
    refine hK _ _ ?_;clear hK K
    refine zag ?_
    refine zaJ (fun t g w'=>Below w.heap.size w w'∧∃ (i:Nat) (a:Option Addr) (c:Nat),i≤l.length∧t=l.length-i∧g 0 = .string s∧g 25 = .int .i64 l.length∧g 26 = .int .i64 i∧g 4 = .slice a (lim (dv (l.take i))).length c ∧
     w'.ownsRow w.heap.size 109 1 (.slice a (lim (dv (l.take i))).length c) (lim (dv (l.take i))).length (lmC (lim (dv (l.take i))))∧(∀ k,k<i→isD (ch l k)=true)) l.length ?_ ?_
    ·have e:lim (dv (l.take 0))=[]:=by simp [dv,zaq]
     refine ⟨Below.refl _ _,0,none,0,by omega,rfl,by simp [go_sem,g0],by simp [go_sem],by simp [go_sem],?_,?_,fun k hk=>by omega⟩
     ·rw [e];simp [go_sem]
     ·rw [e];exact World.ownsRow_nil _ _ _ _
    ·clear g0
     clear g
     rintro t g w' ⟨hE,i,a,c,hi,rfl,g0,g25,g26,g4,hown,hdig⟩
     have hNl:=dv_len l i hi hdig
     obtain ⟨N,hN⟩:∃ N,N=dv (l.take i):=⟨_,rfl⟩
     rw [←hN] at g4 hown hNl
     obtain ⟨n,hn⟩:∃ n,n=(lim N).length:=⟨_,rfl⟩
     rw [←hn] at g4 hown hNl
     first|refine zzr fun K hK=>?_|refine zzt fun K hK=>?_
     simp [go_sem,g25,g26]
     refine hK _ _ ?_;clear hK K
     refine zad (fun K2 hK2=>?_)
     by_cases hlt:i<l.length
     ·have hlt':(i:Int)<l.length:=by omega
      have hdvt:=dv_take l i hlt
      rw [←hN] at hdvt
      have hbi:=hba i
      have hbad:=bad_at hlt
      have hdgn:isD (ch l i)=true↔48≤(ch l i).toNat∧(ch l i).toNat≤57:=by unfold isD;simp
      have hdvt':dv (l.take (i+1))=N*10+((ch l i).toNat-48):=hdvt
      have hbad':isD (ch l i)=false→rdBad l=true:=hbad
      obtain ⟨cn,hcn⟩:∃ cn,cn=(ch l i).toNat:=⟨_,rfl⟩
      have hcc:(zah s i).toNat=cn:=by rw [hbi,hcn]
      rw [←hcn] at hdgn hdvt'
      have hw1:IntKind.i64.wrap (↑i+1)=(i:Int)+1:=IntWalk.i64_in _ (by omega)
      refine zao (by simp [go_sem,hlt,hlt'];rfl) rfl ?_
      refine zae ?_
      refine hK2 _ _ ?_;clear hK2 K2
      refine zad (fun K2 hK2=>?_)
      refine zag ?_
      first|refine zzr fun K hK=>?_|refine zzt fun K hK=>?_
      simp [go_sem,g26]
      refine hK _ _ ?_;clear hK K
      refine zad (fun K3 hK3=>?_)
      by_cases hd:isD (ch l i)=true
      ·obtain ⟨d1,d2⟩:=hdgn.1 hd
       have d1':¬(cn:Int)<48:=by omega
       have d2':¬(57:Int)<cn:=by omega
       have d1'':¬cn<48:=by omega
       have d2'':¬57<cn:=by omega
       obtain ⟨dg,hdg⟩:∃ dg,dg=cn-48:=⟨_,rfl⟩
       rw [←hdg] at hdvt'
       have f1:IntKind.u8.wrap ((cn:Int)-48)=(dg:Int):=by rw [w8_in _ (by omega)];omega
       have f2:IntKind.u32.wrap (dg:Int)=dg:=zb7 _ (by omega)
       first|refine zzr fun K hK=>?_|refine zzt fun K hK=>?_
       simp [go_sem,g0,←hsz,hlt,hlt',hcc,d1',d2',d1'',d2'']
       refine hK _ _ ?_;clear hK K
       refine zao (by simp [go_sem,d1',d2',d1'',d2''];rfl) rfl ?_
       refine zae ?_
       refine hK3 _ _ ?_;clear hK3 K3
       first|refine zzr fun K hK=>?_|refine zzt fun K hK=>?_
       simp [go_sem,g0,←hsz,hlt,hlt',hcc,f1,f2]
       refine hK _ _ ?_;clear hK K
       refine zad (fun K3 hK3=>?_)
       first|refine zzr fun K hK=>?_|refine zzt fun K hK=>?_
       simp [go_sem,g4]
       refine hK _ _ ?_;clear hK K
       refine zag ?_
       refine zaJ (fun t g w'=>Below w.heap.size w w'∧∃ (k cy:Nat) (ws:List Nat) (a:Option Addr) (c:Nat),k≤n∧t=n-k∧g 0 = .string s∧g 25 = .int .i64 l.length∧g 26 = .int .i64 i∧g 4 = .slice a n c∧w'.ownsRow w.heap.size 109 1 (.slice a n c) n (lmC (ws++(lim N).drop k))∧ws.length=k∧Ok ws∧g 6 = .int .u32 cy∧cy≤9∧g 45 = .int .i64 n∧g 46 = .int .i64 k∧val ws+65536 ^ k*cy=10*val ((lim N).take k)+dg) n ?_ ?_
       ·exact ⟨hE,0,dg,[],a,c,by omega,rfl,by simp [go_sem,g0],by simp [go_sem,g25],by simp [go_sem,g26],by simp [go_sem,g4],by simpa using hown,rfl,Ok.nil,by simp [go_sem],by omega,by simp [go_sem],by simp [go_sem],by simp [val]⟩
       ·clear hE hown g0 g25 g26 g4
        clear g
        rintro t g w' ⟨hE,k,cy,ws,a,c,hk,rfl,g0,g25,g26,g4,hown,hwl,hwok,g6,hcy,g45,g46,hval⟩
        first|refine zzr fun K hK=>?_|refine zzt fun K hK=>?_
        simp [go_sem,g45,g46]
        refine hK _ _ ?_;clear hK K
        refine zad (fun K4 hK4=>?_)
        by_cases hkn:k<n
        ·have hkn':(k:Int)<n:=by omega
         have hkN:k<(lim N).length:=by omega
         obtain ⟨gb,cap,Z,hveq,hgb,hB,hcm,hcz⟩:=own_block2 hown (by omega)
         injection hveq with ha1 ha2 ha3
         subst ha1
         subst ha3
         have hx:=zbu (lim_ok N) k
         have hread:w'.cell? ⟨gb,k,none⟩=some (.int .u16 (lat (lim N) k)):=by
          rw [bx_atZ hB (by rw [List.length_append,List.length_drop];omega),lat_drop2 ws _ k hwl hkN]
         obtain ⟨S,hS⟩:∃ S,S=cy+10*lat (lim N) k:=⟨_,rfl⟩
         have hstep:=read_step ws (lim N) k dg cy S hwl hval hS
         have r1:IntKind.u32.wrap (lat (lim N) k:Int)=lat (lim N) k:=zb7 _ (by omega)
         have r2:IntKind.u32.wrap (10*(lat (lim N) k:Int))=((10*lat (lim N) k:Nat):Int):=by rw [zb7 _ (by omega)];omega
         obtain ⟨X,hX⟩:∃ X,X=10*lat (lim N) k:=⟨_,rfl⟩
         rw [←hX] at r2 hS
         have r3:IntKind.u32.wrap ((cy:Int)+X)=(S:Int):=by rw [zb7 _ (by omega)];omega
         have r4:IntKind.u16.wrap (S:Int)=((S % 65536:Nat):Int):=w16 _
         have r5:shrI .u32 (S:Int) 16=((S / 65536:Nat):Int):=shr_nat .u32 S 16 (by decide)
         have hlo:S % 65536<65536:=Nat.mod_lt _ (by decide)
         have hhi:S / 65536≤9:=by omega
         obtain ⟨lo,hloe⟩:∃ lo,lo=S % 65536:=⟨_,rfl⟩
         obtain ⟨C,hCe⟩:∃ C,C=S / 65536:=⟨_,rfl⟩
         rw [←hloe] at r4 hlo hstep
         rw [←hCe] at r5 hhi hstep
         have hw2:IntKind.i64.wrap (↑k+1)=(k:Int)+1:=IntWalk.i64_in _ (by omega)
         refine zao (by simp [go_sem,hkn,hkn'];rfl) rfl ?_
         refine zae ?_
         refine hK4 _ _ ?_;clear hK4 K4
         refine zad (fun K4 hK4=>?_)
         refine zag ?_
         first|refine zzr fun K hK=>?_|refine zzt fun K hK=>?_
         simp [go_sem,g46]
         refine hK _ _ ?_;clear hK K
         first|refine zzr fun K hK=>?_|refine zzt fun K hK=>?_
         simp [go_sem,g4,g6,hkn,hkn',za0,hread,r1,r2,r3]
         refine hK _ _ ?_;clear hK K
         first|refine zzr fun K hK=>?_|refine zzt fun K hK=>?_
         simp [go_sem,g4,hkn,hkn',za0,r4]
         refine za7 (b:=gb) (off:=k) [.int .u16 lo] (by simp [go_sem]) rfl (by simp [go_sem]) (by simp [go_sem,Value.cells]) zaV hB (by simp [zaY]<;>omega) (by simp [Value.oneCell']) (by decide) (fun w5 hS5 hB5=>?_)
         rw [putC_lmZ _ _ _ _ (by rw [List.length_append,List.length_drop];omega),set_drop ws _ k lo hwl hkN] at hB5
         have hown5:w5.ownsRow w.heap.size 109 1 (.slice (some ⟨gb,0,none⟩) n c) n (lmC ((ws++[lo])++(lim N).drop (k+1))) :=
          own_of_blk hB5 (by rw [zaY];simp;omega) hcz hcm hgb
         replace hE:=hE.nextS hS5 hgb
         simp [go_sem]
         refine hK _ _ ?_;clear hK K
         refine zzt fun K hK=>?_
         simp [go_sem,r5]
         refine hK _ _ ?_;clear hK K
         refine hK4 _ _ ?_;clear hK4 K4
         first|refine zzr fun K hK=>?_|refine zzt fun K hK=>?_
         simp [go_sem,g46,hw2]
         exact hK _ _ ⟨n-(k+1),by omega,hE,k+1,C,ws++[lo],_,c,by omega,rfl,by simp [go_sem,g0],by simp [go_sem,g25],by simp [go_sem,g26],by simp [go_sem,g4],hown5,by simp [hwl],hwok.app (Ok.cons hlo Ok.nil),by simp [go_sem],hhi,by simp [go_sem,g45],by simp [go_sem],hstep⟩
        ·have hkn2:k=n:=by omega
         subst hkn2
         rw [List.take_of_length_le (by omega),zau,hn] at hval
         rw [List.drop_eq_nil_of_le (by omega),List.append_nil] at hown
         have hN':10*N+dg=dv (l.take (i+1)):=by rw [hdvt'];omega
         rw [hN'] at hval
         have hend:=read_end ws N _ cy hwok (by omega) (by omega) hval (by omega)
         have hdig2:∀ k,k<i+1→isD (ch l k)=true:=by
          intro k hk
          by_cases h:k<i
          ·exact hdig k h
          ·have:k=i:=by omega
           subst this;exact hd
         refine zao (by simp [go_sem,hkn];rfl) rfl ?_
         refine zaB ?_
         repeat (first|refine zak ?_|refine za9 rfl ?_|refine zac ?_)
         refine hK3 _ _ ?_;clear hK3 K3 hK4 K4
         first|refine zzr fun K hK=>?_|refine zzt fun K hK=>?_
         simp [go_sem,g6]
         refine hK _ _ ?_;clear hK K
         by_cases hc0:cy=0
         ·rw [if_pos hc0] at hend
          subst hc0
          refine zao (by simp [go_sem];rfl) rfl ?_
          refine zae ?_
          refine hK2 _ _ ?_;clear hK2 K2
          first|refine zzr fun K hK=>?_|refine zzt fun K hK=>?_
          simp [go_sem,g26,hw1]
          exact hK _ _ ⟨l.length-(i+1),by omega,hE,i+1,a,c,by omega,rfl,by simp [go_sem,g0],by simp [go_sem,g25],by simp [go_sem],by rw [hend,hwl];simp [go_sem,g4],by rw [hend,hwl];exact hown,hdig2⟩
         ·rw [if_neg hc0] at hend
          have hcp:0<cy:=by omega
          have hcp':(0:Int)<cy:=by omega
          have r6:IntKind.u16.wrap (cy:Int)=cy:=w16_in _ (by omega)
          refine zao (by simp [go_sem,hcp,hcp'];rfl) rfl ?_
          first|refine zzr fun K hK=>?_|refine zzt fun K hK=>?_
          simp [go_sem,g4,g6,r6]
          refine zam #[.int .u16 cy] (by simp [go_sem,g4,g6,r6]) rfl zc5 (by decide) [(0,.int .u16 cy)] (by simp [go_sem,g4,g6,r6]) (by kernel_rfl) (fun w8 b8 hE8 hle8 hB8=>?_)
          have hown8:=own_keep hown hE8
          replace hE:=hE.next hE8
          simp [go_sem,g4]
          refine zcB (v:=.slice a k c) (b:=b8) (len:=1) (c:=1) hB8 (by simp [go_sem,g4]) rfl zc5 zb8 rfl (by decide) (by simp [go_sem,g4,hn]) (by simp [go_sem]) hown8 rfl (by simp [Value.oneCell']) (by unfold maxLen;omega) (by omega) hE.size (by decide) (fun v9 w9 hown9 hg9 _=>?_)
          replace hE:=hE.nextG hg9 (fun b e=>(hown8.lt b e).1)
          obtain ⟨a9,c9,rfl⟩:=own_slice hown9
          simp [go_sem]
          refine hK _ _ ?_;clear hK K
          refine hK2 _ _ ?_;clear hK2 K2
          have hll:(lim (dv (l.take (i+1)))).length=k+1:=by rw [hend];simp [hwl]
          first|refine zzr fun K hK=>?_|refine zzt fun K hK=>?_
          simp [go_sem,g26,hw1]
          refine hK _ _ ⟨l.length-(i+1),by omega,hE,i+1,a9,c9,by omega,rfl,by simp [go_sem,g0],by simp [go_sem,g25],by simp [go_sem],by rw [hll];simp [go_sem],?_,hdig2⟩
          rw [hll,hend,lmC_snoc]
          exact hown9
      ·have hd0:isD (ch l i)=false:=by simpa using hd
       have hrb:=hE9 (hbad' hd0)
       have hfin:∀ e:Ending,e = .returned (.tuple #[.slice none 0 0,.int .i64 9])→ReadPost w l e w':=fun e he=>readErr hrb (by decide) he hE
       by_cases d1:cn<48
       ·have d1':(cn:Int)<48:=by omega
        first|refine zzr fun K hK=>?_|refine zzt fun K hK=>?_
        simp [go_sem,g0,←hsz,hlt,hlt',hcc,d1,d1']
        refine hK _ _ ?_;clear hK K
        refine zao (by simp [go_sem,d1,d1'];rfl) rfl ?_
        first|refine zzr fun K hK=>?_|refine zzt fun K hK=>?_
        simp [go_sem]
        refine hK _ _ ?_;clear hK K
        refine zal ?_
        repeat (first|refine za4 ?_|refine za3 ?_)
        refine ⟨trivial,hfin _ ?_⟩
        simp [go_sem,zaw,zav]
       ·have d2:57<cn:=by
         rcases Nat.lt_or_ge 57 cn with h|h
         ·exact h
         ·exact absurd (hdgn.2 ⟨by omega,h⟩) hd
        have d1':¬(cn:Int)<48:=by omega
        have d2':(57:Int)<cn:=by omega
        first|refine zzr fun K hK=>?_|refine zzt fun K hK=>?_
        simp [go_sem,g0,←hsz,hlt,hlt',hcc,d1,d1',d2,d2']
        refine hK _ _ ?_;clear hK K
        refine zao (by simp [go_sem,d1,d1',d2,d2'];rfl) rfl ?_
        first|refine zzr fun K hK=>?_|refine zzt fun K hK=>?_
        simp [go_sem]
        refine hK _ _ ?_;clear hK K
        refine zal ?_
        repeat (first|refine za4 ?_|refine za3 ?_)
        refine ⟨trivial,hfin _ ?_⟩
        simp [go_sem,zaw,zav]
     ·have him:i=l.length:=by omega
      subst him
      rw [List.take_length] at hN
      have hE0:rdE l=0:=by
       unfold rdE
       rw [if_neg h0,if_neg h1,if_neg]
       rw [bad_none hz hdig];decide
      have hL:rdL l=lim N:=by unfold rdL;rw [if_pos hE0,hN]
      obtain ⟨a7,c7,hv7,hr7⟩:=RD.of_own (hn▸hown) (lim_ok N)
      injection hv7 with h71 h72 h73
      subst h71
      subst h73
      refine zao (by simp [go_sem,hlt];rfl) rfl ?_
      refine zaB ?_
      repeat (first|refine zak ?_|refine za9 rfl ?_|refine zac ?_)
      refine hK1 _ _ ?_;clear hK1 K1 hK2 K2
      first|refine zzr fun K hK=>?_|refine zzt fun K hK=>?_
      simp [go_sem,g4]
      refine hK _ _ ?_;clear hK K
      refine zal ?_
      repeat (first|refine za4 ?_|refine za3 ?_)
      refine ⟨trivial,a,c,?_,by rw [hL];exact hr7,hE⟩
      rw [hL,hE0,←hn]
      simp [go_sem,zaw,zav,g4]
   by_cases h2:1<l.length
   ·have h2':(1:Int)<l.length:=by omega
    have h20:0<l.length:=by omega
    have h20':(0:Int)<l.length:=by omega
    have hb0:=hba 0
    obtain ⟨cn,hcn⟩:∃ cn,cn=(ch l 0).toNat:=⟨_,rfl⟩
    have hcc:(zah s 0).toNat=cn:=by rw [hb0,hcn]
    by_cases h3:ch l 0=48
    ·have hc48:cn=48:=by rw [hcn,h3];rfl
     have hrb:rdE l=9:=hE9 (by unfold rdBad;simp [h2];left;exact h3)
     subst hc48
     first|refine zzr fun K hK=>?_|refine zzt fun K hK=>?_
     simp [go_sem,←hsz,h2,h2',hcc,h20,h20']
     refine hK _ _ ?_;clear hK K
     refine zao (by simp [go_sem,h2,h2'];rfl) rfl ?_
     first|refine zzr fun K hK=>?_|refine zzt fun K hK=>?_
     simp [go_sem]
     refine hK _ _ ?_;clear hK K
     refine zal ?_
     repeat (first|refine za4 ?_|refine za3 ?_)
     refine ⟨trivial,readErr hrb (by decide) ?_ (Below.refl _ _)⟩
     simp [go_sem,zaw,zav]
    ·have hc48:¬cn=48:=by
      intro e
      apply h3
      apply UInt8.toNat_inj.1
      rw [←hcn,e];rfl
     have hc48':¬(cn:Int)=48:=by omega
     first|refine zzr fun K hK=>?_|refine zzt fun K hK=>?_
     simp [go_sem,←hsz,h2,h2',hcc,h20,h20',hc48,hc48']
     refine hK _ _ ?_;clear hK K
     refine zao (by simp [go_sem,h2,h2',hc48,hc48'];rfl) rfl ?_
     refine zae ?_
     exact main (fun h=>h3 h.2) _ (by simp [go_sem])
   ·have h2':¬(1:Int)<l.length:=by omega
    first|refine zzr fun K hK=>?_|refine zzt fun K hK=>?_
    simp [go_sem,←hsz,h2,h2']
    refine hK _ _ ?_;clear hK K
    refine zao (by simp [go_sem,h2,h2'];rfl) rfl ?_
    refine zae ?_
    exact main (fun h=>h2 h.1) _ (by simp [go_sem])
def iv (neg:Bool) (x:Nat):Int:=if neg then -(x:Int) else x
def iR (z:Int) (a:Option Addr) (c:Nat):Value:=.agg #[.bool (decide (z<0)),.slice a (lim z.natAbs).length c]
def RetI (w:World) (z:Int) (e:Ending) (w':World):Prop:=∃ a c,e = .returned (iR z a c)∧RD w' a c (lim z.natAbs)∧Below w.heap.size w w'
theorem zd6 (neg:Bool) (x:Nat):(iv neg x).natAbs=x:=by unfold iv;cases neg<;>simp
theorem iv_neg (neg:Bool) (x:Nat):decide (iv neg x<0)=(neg && decide (0<(lim x).length)):=by
 unfold iv
 cases neg with
 | false=>simp
 | true =>
  by_cases h:x=0
  ·subst h;simp [zaq]
  ·have:=lim_ne h
   simp [this];omega
theorem iv_self (z:Int):iv (decide (z<0)) z.natAbs=z:=by
 unfold iv
 by_cases h:z<0
 ·simp [h];omega
 ·simp [h];omega
theorem RD.keep {w w':World} {a:Option Addr} {c:Nat} {l:List Nat} (h:RD w a c l) (hb:Below w.heap.size w w'):RD w' a c l:=h.ext hb
theorem RD.nbox {w:World} {a a':Option Addr} {c n c' b:Nat} {l:List Nat} {neg:Bool} {t:TypeId} (h:RD w a c l) (hB:Bx w b #[.bool neg,.slice a' n c'] t):∀ ad,a=some ad→l≠[]→ad.block≠b:=by
 intro ad ha hl e
 rcases h.sl with e0|⟨b',off,e1,hc⟩
 ·exact hl (List.map_eq_nil_iff.1 e0)
 ·rw [ha] at e1
  injection e1 with e1
  subst e1
  subst e
  obtain ⟨x,r,rfl⟩:∃ x r,l=x::r:=by
   cases l with
   | nil=>exact absurd rfl hl
   | cons x r=>exact ⟨x,r,rfl⟩
  have h1:=hc 0 (.int .u16 x) rfl
  rw [hB.cell] at h1
  rcases off with _|_|off
  ·cases h1
  ·cases h1
  ·cases h1
theorem ibx {w:World} {b n c:Nat} {t:TypeId} {a:Option Addr} {neg:Bool} (h:Bx w b #[.bool neg,.slice a n c] t):w.cell? ⟨b,0,none⟩=some (.bool neg)∧w.cell? ⟨b,1,none⟩=some (.slice a n c):=⟨h.cell 0,h.cell 1⟩
theorem iv_n (x:Nat):decide (iv false x<0)=false:=by rw [iv_neg];rfl
theorem iv_z:decide (iv true 0<0)=false:=by rw [iv_neg,zaq];rfl
theorem iv_p (x:Nat) (h:x≠0):decide (iv true x<0)=true:=by
 rw [iv_neg];have:=lim_ne h;simp [this]
set_option maxHeartbeats 400000 in
theorem made_any (neg:Bool) (x:Nat) (a:Option Addr) (c:Nat) (w:World) (hr:RD w a c (lim x)) :
  Calls Try.prog 68 #[.bool neg,.slice a (lim x).length c] w (RetI w (iv neg x)):=by
 refine za8 (args:=[.bool neg,.slice a (lim x).length c]) (rs:=[.cell 4 33]) (n:=13) Try.func68 rfl rfl rfl (by kernel_rfl) ?_
 first|refine zzr fun K hK=>?_|refine zzt fun K hK=>?_
 simp [go_sem]
 refine zar (by simp [go_sem]) rfl zdj (fun w4 b4 hE4 hle4 hB4=>?_)
 replace hr:=hr.ext hE4
 have hE:=hE4
 simp [go_sem]
 refine hK _ _ ?_;clear hK K
 cases neg with
 | false =>
  have e0:=iv_n x
  first|refine zzr fun K hK=>?_|refine zzt fun K hK=>?_
  simp [go_sem,zaq]
  refine zap #[.bool false,.slice a (lim x).length c] (by simp [go_sem,zaq]) rfl zda [(0,.bool false),(1,.slice a (lim x).length c)] (by simp [go_sem,zaq]) rfl ?_
  simp [go_sem,zaq]
  refine za7 (b:=b4) (off:=0) [.bool false,.slice a (lim x).length c] (by simp [go_sem,zaq]) rfl (by simp [go_sem,zaq]) (by simp [go_sem,Value.cells,zaq]) zbs hB4 (by simp) (by simp [Value.oneCell']) (by decide) (fun w5 hS5 hB5=>?_)
  simp [zaD] at hB5
  replace hr:=hr.sto hS5 (hr.nbox hB4)
  obtain ⟨k0,k1⟩:=ibx hB5
  simp [go_sem]
  refine hK _ _ ?_;clear hK K
  refine zal ?_
  repeat (first|refine za4 ?_|refine za3 ?_)
  refine ⟨by simp [zb6,go_sem,za1,k0,k1,za0],a,c,?_,by rw [zd6];exact hr,hE.nextS hS5 hle4⟩
  simp [go_sem,zaw,zav,za2,k0,k1,za0,iR,zd6,e0]
 | true =>
  by_cases h:x=0
  ·have e0:decide (iv true x<0)=false:=by rw [h];exact iv_z
   have hx1:¬0<(lim x).length:=by rw [h,zaq];simp
   have hx1':¬(0:Int)<(lim x).length:=by omega
   first|refine zzr fun K hK=>?_|refine zzt fun K hK=>?_
   simp [go_sem,hx1,hx1']
   refine zap #[.bool false,.slice a (lim x).length c] (by simp [go_sem,hx1,hx1']) rfl zda [(0,.bool false),(1,.slice a (lim x).length c)] (by simp [go_sem,hx1,hx1']) rfl ?_
   simp [go_sem,hx1,hx1']
   refine za7 (b:=b4) (off:=0) [.bool false,.slice a (lim x).length c] (by simp [go_sem,hx1,hx1']) rfl (by simp [go_sem,hx1,hx1']) (by simp [go_sem,Value.cells,hx1,hx1']) zbs hB4 (by simp) (by simp [Value.oneCell']) (by decide) (fun w5 hS5 hB5=>?_)
   simp [zaD] at hB5
   replace hr:=hr.sto hS5 (hr.nbox hB4)
   obtain ⟨k0,k1⟩:=ibx hB5
   simp [go_sem]
   refine hK _ _ ?_;clear hK K
   refine zal ?_
   repeat (first|refine za4 ?_|refine za3 ?_)
   refine ⟨by simp [zb6,go_sem,za1,k0,k1,za0],a,c,?_,by rw [zd6];exact hr,hE.nextS hS5 hle4⟩
   simp [go_sem,zaw,zav,za2,k0,k1,za0,iR,zd6,e0]
  ·have e0:=iv_p x h
   have hp:=lim_ne h
   have hp':(0:Int)<(lim x).length:=by omega
   first|refine zzr fun K hK=>?_|refine zzt fun K hK=>?_
   simp [go_sem,hp,hp']
   refine zap #[.bool true,.slice a (lim x).length c] (by simp [go_sem,hp,hp']) rfl zda [(0,.bool true),(1,.slice a (lim x).length c)] (by simp [go_sem,hp,hp']) rfl ?_
   simp [go_sem,hp,hp']
   refine za7 (b:=b4) (off:=0) [.bool true,.slice a (lim x).length c] (by simp [go_sem,hp,hp']) rfl (by simp [go_sem,hp,hp']) (by simp [go_sem,Value.cells,hp,hp']) zbs hB4 (by simp) (by simp [Value.oneCell']) (by decide) (fun w5 hS5 hB5=>?_)
   simp [zaD] at hB5
   replace hr:=hr.sto hS5 (hr.nbox hB4)
   obtain ⟨k0,k1⟩:=ibx hB5
   simp [go_sem]
   refine hK _ _ ?_;clear hK K
   refine zal ?_
   repeat (first|refine za4 ?_|refine za3 ?_)
   refine ⟨by simp [zb6,go_sem,za1,k0,k1,za0],a,c,?_,by rw [zd6];exact hr,hE.nextS hS5 hle4⟩
   simp [go_sem,zaw,zav,za2,k0,k1,za0,iR,zd6,e0]
set_option maxHeartbeats 400000 in
theorem iof_any (neg:Bool) (l:List Nat) (a:Option Addr) (c:Nat) (w:World) (hr:RD w a c l) (hl:l.length≤zcQ) :
  Calls Try.prog 79 #[.bool neg,.slice a l.length c] w (RetI w (iv neg (val l))):=by
 have hno:=fun {w} hr=>norm_any l a c w hr hl
 rw [←zb9 l hr.ok] at hno
 refine za8 (args:=[.bool neg,.slice a l.length c]) (rs:=[.cell 4 33]) (n:=15) Try.func79 rfl rfl rfl (by kernel_rfl) ?_
 first|refine zzr fun K hK=>?_|refine zzt fun K hK=>?_
 simp [go_sem]
 refine zar (by simp [go_sem]) rfl zdj (fun w4 b4 hE4 hle4 hB4=>?_)
 replace hr:=hr.ext hE4
 simp [go_sem]
 refine hK _ _ ?_;clear hK K
 first|refine zzr fun K hK=>?_|refine zzt fun K hK=>?_
 simp [go_sem]
 refine za5 (by simp [go_sem]) rfl Try.call70 (fun R hR=>?_)
 simp [go_sem]
 refine (hno hr).mono ?_
 rintro e w6 ⟨a,c,rfl,hr,hE6⟩
 refine ⟨_,rfl,hR _ _ ?_⟩
 clear hR R
 generalize val l=x at *
 have hE:=hE4.next hE6
 replace hB4:=hB4.keep hE6
 simp [go_sem]
 refine hK _ _ ?_;clear hK K
 cases neg with
 | false =>
  have e0:=iv_n x
  first|refine zzr fun K hK=>?_|refine zzt fun K hK=>?_
  simp [go_sem,zaq]
  refine zap #[.bool false,.slice a (lim x).length c] (by simp [go_sem,zaq]) rfl zda [(0,.bool false),(1,.slice a (lim x).length c)] (by simp [go_sem,zaq]) rfl ?_
  simp [go_sem,zaq]
  refine za7 (b:=b4) (off:=0) [.bool false,.slice a (lim x).length c] (by simp [go_sem,zaq]) rfl (by simp [go_sem,zaq]) (by simp [go_sem,Value.cells,zaq]) zbs hB4 (by simp) (by simp [Value.oneCell']) (by decide) (fun w5 hS5 hB5=>?_)
  simp [zaD] at hB5
  replace hr:=hr.sto hS5 (hr.nbox hB4)
  obtain ⟨k0,k1⟩:=ibx hB5
  simp [go_sem]
  refine hK _ _ ?_;clear hK K
  refine zal ?_
  repeat (first|refine za4 ?_|refine za3 ?_)
  refine ⟨by simp [zb6,go_sem,za1,k0,k1,za0],a,c,?_,by rw [zd6];exact hr,hE.nextS hS5 hle4⟩
  simp [go_sem,zaw,zav,za2,k0,k1,za0,iR,zd6,e0]
 | true =>
  by_cases h:x=0
  ·have e0:decide (iv true x<0)=false:=by rw [h];exact iv_z
   have hx1:¬0<(lim x).length:=by rw [h,zaq];simp
   have hx1':¬(0:Int)<(lim x).length:=by omega
   first|refine zzr fun K hK=>?_|refine zzt fun K hK=>?_
   simp [go_sem,hx1,hx1']
   refine zap #[.bool false,.slice a (lim x).length c] (by simp [go_sem,hx1,hx1']) rfl zda [(0,.bool false),(1,.slice a (lim x).length c)] (by simp [go_sem,hx1,hx1']) rfl ?_
   simp [go_sem,hx1,hx1']
   refine za7 (b:=b4) (off:=0) [.bool false,.slice a (lim x).length c] (by simp [go_sem,hx1,hx1']) rfl (by simp [go_sem,hx1,hx1']) (by simp [go_sem,Value.cells,hx1,hx1']) zbs hB4 (by simp) (by simp [Value.oneCell']) (by decide) (fun w5 hS5 hB5=>?_)
   simp [zaD] at hB5
   replace hr:=hr.sto hS5 (hr.nbox hB4)
   obtain ⟨k0,k1⟩:=ibx hB5
   simp [go_sem]
   refine hK _ _ ?_;clear hK K
   refine zal ?_
   repeat (first|refine za4 ?_|refine za3 ?_)
   refine ⟨by simp [zb6,go_sem,za1,k0,k1,za0],a,c,?_,by rw [zd6];exact hr,hE.nextS hS5 hle4⟩
   simp [go_sem,zaw,zav,za2,k0,k1,za0,iR,zd6,e0]
  ·have e0:=iv_p x h
   have hp:=lim_ne h
   have hp':(0:Int)<(lim x).length:=by omega
   first|refine zzr fun K hK=>?_|refine zzt fun K hK=>?_
   simp [go_sem,hp,hp']
   refine zap #[.bool true,.slice a (lim x).length c] (by simp [go_sem,hp,hp']) rfl zda [(0,.bool true),(1,.slice a (lim x).length c)] (by simp [go_sem,hp,hp']) rfl ?_
   simp [go_sem,hp,hp']
   refine za7 (b:=b4) (off:=0) [.bool true,.slice a (lim x).length c] (by simp [go_sem,hp,hp']) rfl (by simp [go_sem,hp,hp']) (by simp [go_sem,Value.cells,hp,hp']) zbs hB4 (by simp) (by simp [Value.oneCell']) (by decide) (fun w5 hS5 hB5=>?_)
   simp [zaD] at hB5
   replace hr:=hr.sto hS5 (hr.nbox hB4)
   obtain ⟨k0,k1⟩:=ibx hB5
   simp [go_sem]
   refine hK _ _ ?_;clear hK K
   refine zal ?_
   repeat (first|refine za4 ?_|refine za3 ?_)
   refine ⟨by simp [zb6,go_sem,za1,k0,k1,za0],a,c,?_,by rw [zd6];exact hr,hE.nextS hS5 hle4⟩
   simp [go_sem,zaw,zav,za2,k0,k1,za0,iR,zd6,e0]
set_option maxHeartbeats 400000 in
theorem iNorm_any (neg:Bool) (l:List Nat) (a:Option Addr) (c:Nat) (w:World) (hr:RD w a c l) (hl:l.length≤zcQ) :
  Calls Try.prog 71 #[.agg #[.bool neg,.slice a l.length c]] w (RetI w (iv (neg) (val l))):=by
 refine za8 (args:=[.agg #[.bool neg,.slice a l.length c]]) (rs:=[.cell 2 33]) (n:=8) Try.func71 rfl rfl rfl (by kernel_rfl) ?_
 first|refine zzr fun K hK=>?_|refine zzt fun K hK=>?_
 simp [go_sem]
 refine zbF #[.bool neg,.slice a l.length c] (by simp [go_sem]) rfl (by simp [go_sem,Value.cells]) (fun w1 b1 hE1 hle1 hB1=>?_)
 replace hr:=hr.ext hE1
 simp [go_sem]
 refine zar (by simp [go_sem]) rfl zdj (fun w2 b2 hE2 hle2 hB2=>?_)
 replace hr:=hr.ext hE2
 have hE:=hE1.next hE2
 have hle2':=Nat.le_trans hE1.size hle2
 replace hB1:=hB1.keep hE2
 obtain ⟨k0,k1⟩:=ibx hB1
 simp [go_sem]
 refine hK _ _ ?_;clear hK K
 first|refine zzr fun K hK=>?_|refine zzt fun K hK=>?_
 simp [go_sem,k0,k1,za0]
 refine za5 (by simp [go_sem,k0,k1,za0]) rfl Try.call79 (fun R hR=>?_)
 simp [go_sem,k0,k1,za0]
 refine (iof_any (neg) l a c _ hr hl).mono ?_
 rintro e w6 ⟨a6,c6,rfl,hr6,hE6⟩
 refine ⟨_,rfl,hR _ _ ?_⟩
 clear hR R
 replace hB2:=hB2.keep hE6
 replace hE:=hE.next hE6
 simp [go_sem]
 generalize iv (neg) (val l)=z at *
 refine za7 (b:=b2) (off:=0) [.bool (decide (z<0)),.slice a6 (lim z.natAbs).length c6] (by simp [go_sem,iR]) rfl (by simp [go_sem,iR]) (by simp [go_sem,Value.cells,iR]) zbs hB2 (by simp) (by simp [Value.oneCell']) (by decide) (fun w7 hS7 hB7=>?_)
 simp [zaD] at hB7
 replace hr6:=hr6.sto hS7 (hr6.nbox hB2)
 obtain ⟨k0,k1⟩:=ibx hB7
 simp [go_sem]
 refine hK _ _ ?_;clear hK K
 refine zal ?_
 repeat (first|refine za4 ?_|refine za3 ?_)
 refine ⟨by simp [zb6,go_sem,za1,k0,k1,za0],a6,c6,?_,hr6,hE.nextS hS7 hle2'⟩
 simp [go_sem,zaw,zav,za2,k0,k1,za0,iR]
def sg (z:Int):Int:=if z=0 then 0 else if z<0 then -1 else 1
theorem blen0 (x:Nat):zdu x=0↔x=0:=by
 constructor
 ·intro h
  rcases Nat.eq_zero_or_pos x with h0|h0
  ·exact h0
  ·rw [zdR x (by omega)] at h;omega
 ·rintro rfl;exact blen_0
theorem sg_0 (neg:Bool) (x:Nat) (h:x=0):sg (iv neg x)=0:=by subst h;cases neg<;>rfl
theorem sg_t (x:Nat) (h:x≠0):sg (iv true x) = -1:=by unfold sg iv;simp;omega
theorem sg_f (x:Nat) (h:x≠0):sg (iv false x)=1:=by unfold sg iv;simp;omega
set_option maxHeartbeats 400000 in
theorem iSign_any (neg:Bool) (l:List Nat) (a:Option Addr) (c:Nat) (w:World) (hr:RD w a c l) (hl:l.length≤zcQ) :
  Calls Try.prog 57 #[.agg #[.bool neg,.slice a l.length c]] w fun e w'=>e = .returned (.int .i64 (sg (iv neg (val l))))∧Below w.heap.size w w':=by
 obtain ⟨Z,hZ⟩:∃ Z,Z=sg (iv neg (val l)):=⟨_,rfl⟩
 rw [←hZ]
 refine za8 (args:=[.agg #[.bool neg,.slice a l.length c]]) (rs:=[.tmp 2]) (n:=11) Try.func57 rfl rfl rfl (by kernel_rfl) ?_
 first|refine zzr fun K hK=>?_|refine zzt fun K hK=>?_
 simp [go_sem]
 refine zbF #[.bool neg,.slice a l.length c] (by simp [go_sem]) rfl (by simp [go_sem,Value.cells]) (fun w1 b1 hE1 hle1 hB1=>?_)
 replace hr:=hr.ext hE1
 obtain ⟨k0,k1⟩:=ibx hB1
 simp [go_sem]
 refine hK _ _ ?_;clear hK K
 refine zad (fun K1 hK1=>?_)
 refine zag ?_
 first|refine zzr fun K hK=>?_|refine zzt fun K hK=>?_
 simp [go_sem,k0,k1,za0]
 refine za5 (by simp [go_sem,k0,k1,za0]) rfl Try.call67 (fun R hR=>?_)
 simp [go_sem,k0,k1,za0]
 refine (bits_any l a c _ hr hl).mono ?_
 rintro e w2 ⟨rfl,rfl⟩
 refine ⟨_,rfl,hR _ _ ?_⟩
 clear hR R
 by_cases h0:val l=0
 ·have hb:zdu (val l)=0:=(blen0 _).2 h0
  rw [hb]
  have hz:=hZ.trans (sg_0 neg _ h0)
  subst hz
  simp [go_sem]
  refine hK _ _ ?_;clear hK K
  refine zao (by simp [go_sem];rfl) rfl ?_
  first|refine zzr fun K hK=>?_|refine zzt fun K hK=>?_
  simp [go_sem]
  refine hK _ _ ?_;clear hK K
  refine zal ?_
  repeat (first|refine za4 ?_|refine za3 ?_)
  refine ⟨trivial,?_,hE1⟩
  simp [go_sem,zaw,zav]
 ·have hb:¬zdu (val l)=0:=fun h=>h0 ((blen0 _).1 h)
  have hb':¬(zdu (val l):Int)=0:=by omega
  simp [go_sem,hb,hb']
  refine hK _ _ ?_;clear hK K
  refine zao (by simp [go_sem,hb,hb'];rfl) rfl ?_
  cases neg with
  | true =>
   have hz:=hZ.trans (sg_t _ h0)
   subst hz
   first|refine zzr fun K hK=>?_|refine zzt fun K hK=>?_
   simp [go_sem,k0,k1,za0]
   refine hK _ _ ?_;clear hK K
   refine zao (by simp [go_sem];rfl) rfl ?_
   first|refine zzr fun K hK=>?_|refine zzt fun K hK=>?_
   simp [go_sem]
   refine hK _ _ ?_;clear hK K
   refine zal ?_
   repeat (first|refine za4 ?_|refine za3 ?_)
   refine ⟨trivial,?_,hE1⟩
   simp [go_sem,zaw,zav]
  | false =>
   have hz:=hZ.trans (sg_f _ h0)
   subst hz
   first|refine zzr fun K hK=>?_|refine zzt fun K hK=>?_
   simp [go_sem,k0,k1,za0]
   refine hK _ _ ?_;clear hK K
   refine zao (by simp [go_sem];rfl) rfl ?_
   refine zae ?_
   refine hK1 _ _ ?_;clear hK1 K1
   first|refine zzr fun K hK=>?_|refine zzt fun K hK=>?_
   simp [go_sem]
   refine hK _ _ ?_;clear hK K
   refine zal ?_
   repeat (first|refine za4 ?_|refine za3 ?_)
   refine ⟨trivial,?_,hE1⟩
   simp [go_sem,zaw,zav]
theorem iv_mul (neg peg:Bool) (x y:Nat):iv (!(neg == peg)) (x*y)=iv neg x*iv peg y:=by
 unfold iv
 cases neg<;>cases peg<;>simp [Int.natCast_mul,Int.neg_mul,Int.mul_neg]
theorem iv_not (neg:Bool) (x:Nat):iv (!neg) x = - iv neg x:=by
 unfold iv
 cases neg<;>simp
set_option maxHeartbeats 1000000 in
theorem iMul_any (neg peg:Bool) (l m:List Nat) (a b:Option Addr) (c d:Nat) (w:World) (hr:RD w a c l) (hs:RD w b d m) (hl:l.length≤1000000000) (hm:m.length≤1000000000) :
  Calls Try.prog 59 #[.agg #[.bool neg,.slice a l.length c],.agg #[.bool peg,.slice b m.length d]] w (RetI w (iv neg (val l)*iv peg (val m))):=by
 have hT:zd2 Try.prog 4=true:=by kernel_rfl
 obtain ⟨Z,hZ⟩:∃ Z,Z=iv neg (val l)*iv peg (val m):=⟨_,rfl⟩
 rw [←hZ]
 rw [←iv_mul] at hZ
 refine za8 (args:=[.agg #[.bool neg,.slice a l.length c],.agg #[.bool peg,.slice b m.length d]]) (rs:=[.cell 4 33]) (n:=16) Try.func59 rfl rfl rfl (by kernel_rfl) ?_
 first|refine zzr fun K hK=>?_|refine zzt fun K hK=>?_
 simp [go_sem]
 refine zbF #[.bool neg,.slice a l.length c] (by simp [go_sem]) rfl (by simp [go_sem,Value.cells]) (fun w1 b1 hE1 hle1 hB1=>?_)
 replace hr:=hr.keep hE1
 replace hs:=hs.keep hE1
 simp [go_sem]
 refine zbF #[.bool peg,.slice b m.length d] (by simp [go_sem]) rfl (by simp [go_sem,Value.cells]) (fun w2 b2 hE2 hle2 hB2=>?_)
 replace hr:=hr.keep hE2
 replace hs:=hs.keep hE2
 replace hB1:=hB1.keep hE2
 simp [go_sem]
 refine zar (by simp [go_sem]) rfl zdj (fun w4 b4 hE4 hle4 hB4=>?_)
 replace hr:=hr.keep hE4
 replace hs:=hs.keep hE4
 replace hB1:=hB1.keep hE4
 replace hB2:=hB2.keep hE4
 have hE:=(hE1.next hE2).next hE4
 have hle4':w.heap.size≤b4:=Nat.le_trans hE1.size (Nat.le_trans hE2.size hle4)
 obtain ⟨k0,k1⟩:=ibx hB1
 obtain ⟨k2,k3⟩:=ibx hB2
 simp [go_sem]
 refine hK _ _ ?_;clear hK K
 have hD:Below w4.heap.size w4 w4.drew:=Below.drew1 _
 replace hr:=hr.keep hD
 replace hs:=hs.keep hD
 replace hB1:=hB1.keep hD
 replace hB2:=hB2.keep hD
 replace hB4:=hB4.keep hD
 replace hE:=hE.next hD
 obtain ⟨k0,k1⟩:=ibx hB1
 obtain ⟨k2,k3⟩:=ibx hB2
 first|refine W_rd [(0,0),(1,0),(2,0),(3,0),(4,0),(5,0),(6,0),(7,0),(8,0),(9,1),(10,1),(11,2)] (by kernel_rfl) (by kernel_rfl) (fun K hK=>?_)|refine zbC [(0,0),(1,0),(2,0),(3,0),(4,0),(5,0),(6,0),(7,0),(8,0),(9,1),(10,1),(11,2)] (by kernel_rfl) (by kernel_rfl) (fun K hK=>?_)
 simp [go_sem,k0,k1,k2,k3,za0,hT]
 refine za5 (by simp [go_sem,k0,k1,k2,k3,za0,hT]) rfl Try.call69 (fun R hR=>?_)
 simp [go_sem,k0,k1,k2,k3,za0,hT]
 refine (mul_any l m a b c d _ hr hs (by unfold lenS;omega) (by unfold lenS;omega)).mono ?_
 rintro e w5 ⟨a5,c5,rfl,hr5,hE5⟩
 refine ⟨_,rfl,hE5,hR _ _ ?_⟩
 clear hR R
 replace hB4:=hB4.keep hE5
 replace hE:=hE.next hE5
 have hma:=made_any (!(neg == peg)) _ _ _ _ hr5
 rw [←hZ] at hma
 simp [go_sem,k0,k2,hT]
 refine za5 (by simp [go_sem,k0,k2,hT]) rfl Try.call68 (fun R hR=>?_)
 simp [go_sem,k0,k2,hT]
 refine (hma).mono ?_
 rintro e w6 ⟨a6,c6,rfl,hr6,hE6⟩
 refine ⟨_,rfl,hE6,hR _ _ ?_⟩
 clear hR R
 replace hB4:=hB4.keep hE6
 replace hE:=hE.next hE6
 simp [go_sem]
 refine za7 (b:=b4) (off:=0) [.bool (decide (Z<0)),.slice a6 (lim Z.natAbs).length c6] (by simp [go_sem,iR]) rfl (by simp [go_sem,iR]) (by simp [go_sem,Value.cells,iR]) zbs hB4 (by simp) (by simp [Value.oneCell']) (by decide) (fun w9 hS9 hB9=>?_)
 simp [zaD] at hB9
 replace hr6:=hr6.sto hS9 (hr6.nbox hB4)
 obtain ⟨k0,k1⟩:=ibx hB9
 simp [go_sem]
 refine hK _ _ ?_;clear hK K
 refine zal ?_
 repeat (first|refine za4 ?_|refine za3 ?_)
 refine ⟨by simp [zb6,go_sem,za1,k0,k1,za0],a6,c6,?_,hr6,hE.nextS hS9 hle4'⟩
 simp [go_sem,zaw,zav,za2,k0,k1,za0,iR]
theorem zdm {l:List Nat} (h:Ok l) {k:Nat} (hl:l.length≤k):(lim (val l)).length≤k:=by rw [zb9 l h];exact Nat.le_trans (zbn l) hl
def qq (z y:Int):Int:=if y=0 then 0 else z / y
def rr (z y:Int):Int:=if y=0 then 0 else z % y
def ee (y:Int):Int:=if y=0 then 3 else 0
theorem rd_one {w:World} {b x:Nat} {t:TypeId} (h:Bx w b #[.int .u16 (x:Int)] t) (hx:x<65536):RD w (some ⟨b,0,none⟩) 1 [x]:=by
 refine ⟨.inr ⟨b,0,rfl,fun j u hu=>?_⟩,?_,by simp⟩
 ·match j with
  | 0 =>
   simp [lmC] at hu
   subst hu
   simpa using h.cell 0
  | j+1=>simp [lmC] at hu
 ·intro y hy
  simp at hy;omega
end Go.Proofs.Ytefhenfofomjhaa
namespace Go.V
open Go Go.RowKit Go.ChangeShapes Go.WideShapes Go.ChangeAt
theorem trodAll_below {H:Type} {enc:TypeId × Value→H} {P:Program} (hl:laidOutB P=true) {W W':World} (hb:Below W.heap.size W W'):∀ (ts:List TypeId) (vs:List Value) (ds:List (DataW H)) (ps:List MemPlace),
  (ts.all fun t=>P.readableRec t && decide (t<P.types.size))=true→(∀ p∈ps,p.block<W.heap.size)→DataW.TrodAll enc P W 0 (fun _=>true) true ts vs ds ps →
  DataW.TrodAll enc P W' 0 (fun b=>decide (b<W.heap.size)) true ts vs ds ps
 | [],[],[],ps,_,_,h=>h
 | t::ts,v::vs,d::ds,ps,hr,hlt,h=>by
  obtain ⟨p,q,h1,h2,rfl⟩:=h
  simp only [List.all_cons,Bool.and_eq_true,decide_eq_true_eq] at hr
  exact ⟨p,q,Below.trod hl hr.1.1 hr.1.2 h1 hb (fun x hx=>hlt x (List.mem_append_left _ hx)),trodAll_below hl hb ts vs ds q hr.2 (fun x hx=>hlt x (List.mem_append_right _ hx)) h2,rfl⟩
 | [],_::_,_,_,_,_,h=>h.elim
 | [],[],_::_,_,_,_,h=>h.elim
 | _::_,[],_,_,_,_,h=>h.elim
 | _::_,_::_,[],_,_,_,h=>h.elim
theorem trodAll_len {H:Type} {enc:TypeId × Value→H} {P:Program} {W:World} {base:Nat} {sp:Nat→Bool} {held:Bool}:∀ (ts:List TypeId) (vs:List Value) (ds:List (DataW H)) (ps:List MemPlace),DataW.TrodAll enc P W base sp held ts vs ds ps→ds.length=ts.length∧vs.length=ts.length
 | [],[],[],ps,h=>⟨rfl,rfl⟩
 | t::ts,v::vs,d::ds,ps,h=>by
  obtain ⟨p,q,h1,h2,rfl⟩:=h
  have:=trodAll_len ts vs ds q h2
  simp [this.1,this.2]
 | [],_::_,_,_,h=>h.elim
 | [],[],_::_,_,h=>h.elim
 | _::_,[],_,_,h=>h.elim
 | _::_,_::_,[],_,h=>h.elim
theorem law_lifted {C:Checked} {f:FuncId} {fn:Func} {s:ChangeSpec} (own:ownKnob C.prog.godebug=none) (hl:laidOutB C.prog=true) (noInit:C.prog.inits.idxOf? f=none) (hfn:C.prog.funcs[f]? = some fn) (hvars:s.vars=[])
  (tb:TypeId) (hres:fn.resultTypes = #[tb]) (hb:C.prog.underlying tb=some .bool)
  (hread:(fn.params.toList.all fun t=>C.prog.readableRec t && decide (t<C.prog.types.size))=true)
  {H:Type} (enc:TypeId × Value→H)
  (hspec:∀ ds:List (DataW H),ds.length=fn.params.toList.length→s.fn H ds={ results:=[.lit (.bool true)],args:=ds })
  (contract:∀ (W:World) (base:Nat) (args:Array Value) (ds:List (DataW H)) (ps:List MemPlace),
   (∀ (j:Nat) t v,fn.params[j]? = some t→args[j]? = some v→Value.okWide C.prog W .any base t v) →
   DataW.TrodAll enc C.prog W 0 (fun _=>true) true fn.params.toList args.toList ds ps→(∀ p∈ps,p.block<W.heap.size) →
   (DataW.weightsEach C.prog fn.params.toList ds).all (·≤reachBytes)=true →
   Calls C.prog f args W fun e W'=>e = .returned (.bool true)∧Below W.heap.size W W')
  (os:Os) (started:os.Started)
  (witness:∃ (w:World) (tape:Tape) (i:Input),w.os=os∧(w.forCall tape i).Shaped C.prog∧i.vars=[]∧Input.okWide C.prog (w.forCall tape i) .any w.heap.size f i ∧
   s.pre6 enc C.prog fn [] false (w.forCall tape i).memory i.args∧({}:Assume).holds C.prog (lone (Frame.enter C.prog f i.args .normal) [] (w.forCall tape i))) :
  ReturnsInHanded {} C os f .any (s.pre6 enc C.prog fn [] false) (s.post enc C.prog fn false true false false):=by
 refine returnsInHanded_of_change_sized own started noInit hfn witness ?_
 intro W base args ds gs before hval hW _ hsz _
 have hW':=hW
 obtain ⟨p,q,hA,hV,rfl,_,_⟩:=hW
 have hgs:gs=[]∧q=[]:=by
  rw [hvars] at hV
  cases gs with
  | nil=>exact ⟨rfl,hV⟩
  | cons g r=>exact hV.elim
 obtain ⟨rfl,rfl⟩:=hgs
 have hlt:∀ x∈p,x.block<W.heap.size:=fun x hx=>hW'.lt x (by simpa using hx)
 have hsz':(DataW.weightsEach C.prog fn.params.toList ds).all (·≤reachBytes)=true:=by
  have e:s.plain.varTypes C.prog=[]:=by simp [ChangeSpec.plain,DataSpec.varTypes,hvars]
  rw [e] at hsz
  simpa using hsz
 have hlen:=(trodAll_len _ _ _ _ hA).1
 refine (contract W base args ds p hval hA hlt hsz').mono fun e W' ⟨he,hbel⟩=>?_
 subst he
 have hs:s.fn H (ds++[])={ results:=[.lit (.bool true)],args:=ds }:=by rw [List.append_nil];exact hspec ds hlen
 refine ⟨_,rfl,ds,[],p++[],[],p,[],hW',?_,?_,?_,hbel.frame _,fun h=>by cases h⟩
 ·rw [hs,hres]
  exact ⟨[],[],⟨1,by simp [DataW.trod,Value.cells,hb]⟩,rfl,rfl⟩
 ·rw [hs]
  exact trodAll_below hl hbel _ _ _ _ hread hlt hA
 ·rw [hs,hvars];rfl
end Go.V
namespace Go.Proofs.Ytefhenfofomjhaa
open Go.RowKit Go.V Go.ChangeMaps
set_option maxRecDepth 20000
theorem Try.own:ownKnob Try.prog.godebug=none:=by kernel_rfl
theorem Try.laidOut:laidOutB Try.prog=true:=by kernel_rfl
theorem lim_1' (x:Nat) (h:0<x) (hx:x<65536):lim x=[x]:=by
 rw [lim_pos x (by omega),Nat.mod_eq_of_lt hx,Nat.div_eq_of_lt hx,zaq]
end Go.Proofs.Ytefhenfofomjhaa
namespace Go.Proofs.Ytefhenfofomjhaa
open Go.RowKit Go.V
set_option maxRecDepth 20000
end Go.Proofs.Ytefhenfofomjhaa
