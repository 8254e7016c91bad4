/- The parser: names. -/
import Derived.Test.YtefhenfofomjhaaLx1
set_option linter.unusedSimpArgs false
set_option linter.unusedVariables false
namespace Go.Proofs.Ytefhenfofomjhaa
open Go.RowKit Go.V
set_option maxRecDepth 20000
def KW:List (List UInt8):=[[97,110,103,108,101],
 [97,112,101,120],
 [98,105,115,101,99,116,111,114],
 [99,101,110,116,101,114],
 [99,105,114,99,108,101],
 [99,105,114,99,117,109],
 [99,111,108,108,105,110,101,97,114],
 [99,111,109,109,111,110],
 [99,111,110,99,121,99,108,105,99],
 [99,111,110,103,114,117,101,110,116],
 [99,114,111,115,115],
 [99,117,116],
 [100,105,118,105,100,101],
 [102,111,111,116],
 [108,105,110,101],
 [109,101,101,116],
 [109,105,100,112,111,105,110,116],
 [109,105,114,114,111,114],
 [111,110],
 [111,116,104,101,114],
 [112,97,114,97,108,108,101,108],
 [112,101,114,112,101,110,100,105,99,117,108,97,114],
 [112,111,105,110,116,115],
 [112,114,111,118,101],
 [114,97,116,105,111],
 [114,101,102,108,101,99,116],
 [115,97,109,101],
 [115,104,105,102,116],
 [116,117,114,110]]
def strV (l:List UInt8):Value:=.string ⟨l.toArray⟩
def KWC:Array Value:=(KW.map strV).toArray
def kwAt (k:Nat):List UInt8:=KW.getD k []
def isKw (l:List UInt8):Bool:=KW.contains l
theorem kw_any (w:World):Calls Try.prog 39 #[] w fun e w'=>∃ b,e = .returned (.slice (some ⟨b,0,none⟩) 29 29)∧Below w.heap.size w w'∧w.heap.size≤b∧Bx w' b KWC 9:=by
 refine za8 (args:=[]) (rs:=[.tmp 0]) (n:=2) Try.func39 rfl rfl rfl (by kernel_rfl) ?_
 first|refine zzr fun K hK=>?_|refine zzt fun K hK=>?_
 simp [go_sem]
 refine hK _ _ ?_;clear hK K
 first|refine zzr fun K hK=>?_|refine zzt fun K hK=>?_
 simp [go_sem]
 refine zam KWC (by simp [go_sem]) rfl zcJ (by decide) _ rfl (by kernel_rfl) (fun w1 b hb hle hbx=>?_)
 simp [go_sem]
 refine hK _ _ ?_;clear hK K
 refine zal ⟨trivial,b,?_,hb,hle,hbx⟩
 simp [go_sem,zaw,zav]
def preB (l:List UInt8):Bool:=!l.isEmpty && decide (l.length≤20) && decide (zcv (l.getD 0 0).toNat=2) && l.all (goOn true)
def nameB (l:List UInt8):Bool:=preB l && !(isKw l)
theorem preB_s (s:ByteArray):preB (bs s)=(decide (0<s.size) && decide (s.size≤20) && decide (zcv (zah s 0).toNat=2) && (bs s).all (goOn true)):=by
 unfold preB zah
 rw [zaR]
 congr 3
 rw [←zaR]
 cases bs s<;>simp
theorem KWC_get (k:Nat) (hk:k<29):KWC[k]? = some (strV (kwAt k)):=by
 have h:k<KW.length:=hk
 simp [kwAt,KWC,List.getD_eq_getElem?_getD,List.getElem?_eq_getElem h]
theorem KW_mem (l:List UInt8) (h:∀ i,i<29→kwAt i≠l):isKw l=false:=by
 cases hc:isKw l with
 | false=>rfl
 | true =>
  unfold isKw at hc
  rw [List.contains_iff_mem] at hc
  obtain ⟨i,hi,he⟩:=List.getElem_of_mem hc
  refine absurd ?_ (h i hi)
  rw [kwAt,List.getD_eq_getElem?_getD,List.getElem?_eq_getElem hi,Option.getD_some,he]
theorem KW_hit (l:List UInt8) (i:Nat) (hi:i<29) (h:kwAt i=l):isKw l=true:=by
 have hi':i<KW.length:=hi
 unfold isKw
 rw [List.contains_iff_mem,←h,kwAt,List.getD_eq_getElem?_getD,List.getElem?_eq_getElem hi',Option.getD_some]
 exact List.getElem_mem hi'
theorem endN_lt (s:ByteArray):decide (((zdJ true (bs s):Nat):Int)<((s.size:Nat):Int)) = !((bs s).all (goOn true)):=by
 have h1:=endN_le true (bs s)
 have h2:=endN_all true (bs s)
 rw [zaR] at h1 h2
 cases hb:(bs s).all (goOn true) with
 | true =>
  have:zdJ true (bs s)=s.size:=by rw [h2,hb]
  simp [this]
 | false =>
  have:zdJ true (bs s)≠s.size:=by rw [Ne,h2,hb];simp
  simp;omega
set_option maxHeartbeats 1000000 in
theorem isName_any (s:ByteArray) (w:World) (hs:s.size≤maxLen) :
  Calls Try.prog 29 #[.string s] w fun e w'=>e = .returned (.bool (nameB (bs s)))∧Below w.heap.size w w':=by
 have hl:=zaR s
 have hpre:=preB_s s
 refine za8 (args:=[.string s]) (rs:=[.tmp 2]) (n:=35) Try.func29 rfl rfl rfl (by kernel_rfl) ?_
 first|refine zzr fun K hK=>?_|refine zzt fun K hK=>?_
 simp [go_sem]
 refine hK _ _ ?_;clear hK K
 refine zad (fun K1 hK1=>?_)
 refine W_rtJ (fun g w1=>w1=w∧g 0 = .string s∧g 24 = .bool (!preB (bs s))) (by kernel_rfl) ?_ ?_
 ·by_cases h0:s.size=0
  ·have e:bs s=[]:=List.length_eq_zero_iff.1 (by rw [zaR];exact h0)
   have hp:preB (bs s)=false:=by rw [e];rfl
   have e2:bs ⟨#[]⟩=[]:=rfl
   have e3:preB []=false:=rfl
   simp [go_sem,e,e3,e2]
  ·have hpos:0<s.size:=by omega
   have e:¬bs s=[]:=fun h=>h0 (by rw [←zaR,h];rfl)
   have e2:bs ⟨#[]⟩=[]:=rfl
   by_cases h20:s.size≤20
   ·have h20':¬(20:Int)<s.size:=by omega
    simp [go_sem,e,e2,h20',hpos]
    refine za5 (by simp [go_sem,h20']) rfl Try.call21 (fun R hR=>?_)
    simp [go_sem,h20']
    refine (kind_any _ _).mono ?_
    rintro e w1 ⟨rfl,rfl⟩
    refine ⟨_,rfl,hR _ _ ?_⟩
    clear hR R
    by_cases h2:zcv ↑(zah s 0).toNat=2
    ·simp [go_sem,h2,h20']
     refine za5 (by simp [go_sem,h2,h20']) rfl Try.call35 (fun R hR=>?_)
     simp [go_sem,h2,h20']
     refine (end_any s 0 true _ hs (by omega)).mono ?_
     rintro e w1 ⟨rfl,rfl⟩
     refine ⟨_,rfl,hR _ _ ?_⟩
     clear hR R
     have e3:=endN_lt s
     simp [go_sem,h2,h20',hpre,hpos,h20] at e3 ⊢
     exact e3
    ·simp [go_sem,h2,h20',hpre]
   ·have h20':(20:Int)<s.size:=by omega
    simp [go_sem,e,e2,h20',hpos,hpre,h20]
 ·rintro g w1 ⟨rfl,g0,g24⟩
  refine zao g24 rfl ?_
  cases hb:preB (bs s) with
  | false =>
   first|refine zzr fun K hK=>?_|refine zzt fun K hK=>?_
   simp [go_sem]
   refine hK _ _ ?_;clear hK K
   refine zal ?_
   repeat (first|refine za4 ?_|refine za3 ?_)
   refine ⟨trivial,?_,Below.refl _ _⟩
   simp [go_sem,zaw,zav,nameB,hb]
  | true =>
   refine zae (hK1 _ _ ?_);clear hK1 K1
   refine zad (fun K1 hK1=>?_)
   first|refine zzr fun K hK=>?_|refine zzt fun K hK=>?_
   simp [go_sem]
   refine za5 (by simp [go_sem]) rfl Try.call39 (fun R hR=>?_)
   simp [go_sem]
   refine (kw_any _).mono ?_
   rintro e w2 ⟨b,rfl,hE,hle,hbx⟩
   refine ⟨_,rfl,hR _ _ ?_⟩
   clear hR R
   simp [go_sem]
   refine hK _ _ ?_;clear hK K
   refine zag ?_
   refine zaJ (fun m g w'=>w'=w2∧∃ k:Nat,k≤29∧m=29-k∧g 0 = .string s∧g 25 = .slice (some ⟨b,0,none⟩) 29 29∧g 26 = .int .i64 29∧g 27 = .int .i64 k∧∀ i,i<k→kwAt i≠bs s) 29 ?_ ?_
   ·exact ⟨rfl,0,by omega,rfl,by simp [go_sem,g0],rfl,rfl,rfl,fun i hi=>by omega⟩
   ·rintro m g w' ⟨rfl,k,h1,rfl,g0,g25,g26,g27,hk⟩
    by_cases hlt:k<29
    ·have hlt':(k:Int)<29:=by omega
     first|refine zzr fun K hK=>?_|refine zzt fun K hK=>?_
     simp [go_sem,g26,g27,hlt']
     refine hK _ _ ?_;clear hK K
     refine zad (fun K2 hK2=>?_)
     refine zao (by simp [go_sem];rfl) rfl ?_
     refine zae (hK2 _ _ ?_);clear hK2 K2
     refine zad (fun K2 hK2=>?_)
     refine zag ?_
     have hc:=hbx.cell k
     rw [KWC_get k hlt] at hc
     first|refine zzr fun K hK=>?_|refine zzt fun K hK=>?_
     simp [go_sem,g25,g27,hc,hlt']
     refine hK _ _ ?_;clear hK K
     have ek:bs ⟨(kwAt k).toArray⟩=kwAt k:=bs_mk _
     first|refine zzr fun K hK=>?_|refine zzt fun K hK=>?_
     simp [go_sem,g0,strV]
     by_cases heq:kwAt k=bs s
     ·refine hK _ _ ?_;clear hK K
      refine zao (by simp [go_sem,ek,heq];rfl) rfl ?_
      first|refine zzr fun K hK=>?_|refine zzt fun K hK=>?_
      simp [go_sem]
      refine hK _ _ ?_;clear hK K
      refine zal ?_
      repeat (first|refine za4 ?_|refine za3 ?_)
      refine ⟨trivial,?_,hE⟩
      simp [go_sem,zaw,zav,nameB,hb,KW_hit _ k hlt heq]
     ·refine hK _ _ ?_;clear hK K
      refine zao (by simp [go_sem,ek,heq];rfl) rfl ?_
      refine zae ?_
      refine hK2 _ _ ?_;clear hK2 K2
      refine zzt fun K hK=>?_
      simp [go_sem,g27]
      refine hK _ _ ⟨29-(k+1),by omega,rfl,k+1,by omega,rfl,?_,?_,?_,?_,?_⟩
      ·simp [go_sem,g0]
      ·simp [go_sem,g25]
      ·simp [go_sem,g26]
      ·simp (disch:=omega) [go_sem,IntWalk.i64_in]
      ·intro i hi
       by_cases h:i=k
       ·rw [h];exact heq
       ·exact hk i (by omega)
    ·have hlt':¬(k:Int)<29:=by omega
     first|refine zzr fun K hK=>?_|refine zzt fun K hK=>?_
     simp [go_sem,g26,g27,hlt']
     refine hK _ _ ?_;clear hK K
     refine zad (fun K2 hK2=>?_)
     refine zao (by simp [go_sem];rfl) rfl ?_
     refine zaB ?_
     repeat (first|refine zak ?_|refine za9 rfl ?_|refine zac ?_)
     refine hK1 _ _ ?_
     first|refine zzr fun K hK=>?_|refine zzt fun K hK=>?_
     simp [go_sem]
     refine hK _ _ ?_;clear hK K
     refine zal ⟨trivial,?_,hE⟩
     have:=KW_mem (bs s) (fun i hi=>hk i (by omega))
     simp [go_sem,zaw,zav,nameB,hb,this]
end Go.Proofs.Ytefhenfofomjhaa
namespace Go.Proofs.Ytefhenfofomjhaa
open Go Go.RowKit Go.V
set_option maxRecDepth 20000
theorem toks_text {w:World} {lb lo:Nat} {T:List Tok} (h:SL w (some ⟨lb,lo,none⟩) (zdw T)) {i:Nat} (hi:i<T.length):w.cell? ⟨lb,lo+i*4+3,none⟩=some (.string ⟨(zai T i).t.toArray⟩):=by
 have hrow:((zdw T).drop (i*4)).take 4=zbk (zai T i):=by
  unfold zdw zai
  refine zcT (toks_all T) ?_
  simp [List.getD_eq_getElem?_getD,hi]
 have h3:(zdw T)[i*4+3]? = some (.string ⟨(zai T i).t.toArray⟩):=by
  have h4:(((zdw T).drop (i*4)).take 4)[3]? = some (.string ⟨(zai T i).t.toArray⟩):=by rw [hrow];rfl
  rw [List.getElem?_take_of_lt (by decide),List.getElem?_drop] at h4
  exact h4
 rcases h with h0|⟨b,off,e,h1⟩
 ·rw [h0] at h3;simp at h3
 ·injection e with e
  injection e with e1 e2
  subst e1;subst e2
  have:=h1 _ _ h3
  rwa [←Nat.add_assoc] at this
def nmT (T:List Tok) (er:Int) (i:Nat):Bool:=decide (er=0) && (decide ((zai T i).k=1) && nameB (zai T i).t)
set_option maxHeartbeats 1000000 in
theorem named_any {w:World} {b tb cap i:Nat} {la:Option Addr} {T:List Tok} {at' er:Int} (h:PS w b tb la cap T i at' er) (hT:T.length≤maxLen) (hl:(zai T i).t.length≤maxLen) :
  Calls Try.prog 17 #[.pointer (some ⟨b,0,none⟩)] w fun x w'=>x = .returned (.bool (nmT T er i))∧Below w.heap.size w w':=by
 refine za8 (args:=[.pointer (some ⟨b,0,none⟩)]) (rs:=[.tmp 2]) (n:=17) Try.func17 rfl rfl rfl (by kernel_rfl) ?_
 have hA0:=Below.refl w.heap.size w
 first|refine zzr fun K hK=>?_|refine zzt fun K hK=>?_
 simp [go_sem,za0,za2,za1]
 refine hK _ _ ?_;clear hK K
 first|refine zzr fun K hK=>?_|refine zzt fun K hK=>?_
 simp [go_sem,za0,za2,za1]
 refine za5 (by simp [go_sem,za0,za2,za1]) rfl Try.call12 (fun R hR=>?_)
 simp [go_sem,za0,za2,za1]
 refine (zbD (h.ext hA0)).mono ?_
 rintro e w1 ⟨rfl,hE1⟩
 refine ⟨_,rfl,hR _ _ ?_⟩
 clear hR R
 replace hA0:=hA0.next hE1
 simp [go_sem,za0,za2,za1]
 by_cases h0:er=0
 ·by_cases h1:(zai T i).k=1
  ·have h1':((zai T i).k:Int)=1:=by omega
   simp [go_sem,za0,za2,za1,h0]
   refine za5 (by simp [go_sem,za0,za2,za1,h0,h1,h1',zbk]) rfl Try.call13 (fun R hR=>?_)
   simp [go_sem,za0,za2,za1,h0,h1,h1',zbk]
   refine (zba (h.ext hA0) hT).mono ?_
   rintro e w2 ⟨rfl,hE2⟩
   refine ⟨_,rfl,hR _ _ ?_⟩
   clear hR R
   replace hA0:=hA0.next hE2
   simp [go_sem,za0,za2,za1,h0,h1,h1',zbk]
   refine za5 (by simp [go_sem,za0,za2,za1,h0,h1,h1',zbk]) rfl Try.call13 (fun R hR=>?_)
   simp [go_sem,za0,za2,za1,h0,h1,h1',zbk]
   refine (zba (h.ext hA0) hT).mono ?_
   rintro e w3 ⟨rfl,hE3⟩
   refine ⟨_,rfl,hR _ _ ?_⟩
   clear hR R
   replace hA0:=hA0.next hE3
   simp [go_sem,za0,za2,za1,h0,h1,h1',zbk]
   refine za5 (by simp [go_sem,za0,za2,za1,h0,h1,h1',zbk]) rfl Try.call29 (fun R hR=>?_)
   simp [go_sem,za0,za2,za1,h0,h1,h1',zbk]
   refine (isName_any ⟨(zai T i).t.toArray⟩ _ (by simpa [ByteArray.size] using hl)).mono ?_
   rintro e w4 ⟨rfl,hE4⟩
   refine ⟨_,rfl,hR _ _ ?_⟩
   clear hR R
   replace hA0:=hA0.next hE4
   simp [go_sem,za0,za2,za1,h0,h1,h1',zbk]
   refine hK _ _ ?_;clear hK K
   refine zal ?_
   repeat (first|refine za4 ?_|refine za3 ?_)
   refine ⟨trivial,?_,hA0⟩
   simp [go_sem,zaw,zav,nmT,h0,h1,bs]
  ·have h1':¬((zai T i).k:Int)=1:=by omega
   simp [go_sem,za0,za2,za1,h0]
   refine za5 (by simp [go_sem,za0,za2,za1,h0,h1,h1',zbk]) rfl Try.call13 (fun R hR=>?_)
   simp [go_sem,za0,za2,za1,h0,h1,h1',zbk]
   refine (zba (h.ext hA0) hT).mono ?_
   rintro e w5 ⟨rfl,hE5⟩
   refine ⟨_,rfl,hR _ _ ?_⟩
   clear hR R
   replace hA0:=hA0.next hE5
   simp [go_sem,za0,za2,za1,h0,h1,h1',zbk]
   refine hK _ _ ?_;clear hK K
   refine zal ?_
   repeat (first|refine za4 ?_|refine za3 ?_)
   refine ⟨trivial,?_,hA0⟩
   simp [go_sem,zaw,zav,nmT,h0,h1,h1']
 ·simp [go_sem,za0,za2,za1,h0]
  refine hK _ _ ?_;clear hK K
  refine zal ?_
  repeat (first|refine za4 ?_|refine za3 ?_)
  refine ⟨trivial,?_,hA0⟩
  simp [go_sem,zaw,zav,nmT,h0]
set_option maxHeartbeats 1000000 in
theorem nameT_any {w:World} {b tb cap i:Nat} {la:Option Addr} {T:List Tok} {at' er:Int} (h:PS w b tb la cap T i at' er) (hT:T.length≤maxLen) (hl:(zai T i).t.length≤maxLen) (hs:nmT T er i=true) (hi:i+1<T.length) :
  Calls Try.prog 37 #[.pointer (some ⟨b,0,none⟩)] w fun x w'=>x = .returned (.string ⟨(zai T i).t.toArray⟩)∧PS w' b tb la cap T (i+1) at' er∧w.grownBy w' (some b):=by
 have hw:IntKind.i64.wrap ((i:Int)+1)=(i:Int)+1:=IntWalk.i64_in _ (by unfold maxLen at hT;omega)
 have hw2:IntKind.i64.wrap ((i:Int)+1-1)=(i:Int):=by rw [IntWalk.i64_in _ (by unfold maxLen at hT;omega)];omega
 have hw3:IntKind.i64.wrap (i:Int)=(i:Int):=IntWalk.i64_in _ (by unfold maxLen at hT;omega)
 refine za8 (args:=[.pointer (some ⟨b,0,none⟩)]) (rs:=[.tmp 2]) (n:=27) Try.func37 rfl rfl rfl (by kernel_rfl) ?_
 have hA0:=Below.refl w.heap.size w
 first|refine zzr fun K hK=>?_|refine zzt fun K hK=>?_
 simp [go_sem,za0,za2,za1]
 refine hK _ _ ?_;clear hK K
 refine zad (fun K1 hK1=>?_)
 first|refine zzr fun K hK=>?_|refine zzt fun K hK=>?_
 simp [go_sem,za0,za2,za1]
 refine za5 (by simp [go_sem,za0,za2,za1]) rfl Try.call17 (fun R hR=>?_)
 simp [go_sem,za0,za2,za1]
 refine (named_any (h.ext hA0) hT hl).mono ?_
 rintro e w1 ⟨rfl,hE1⟩
 refine ⟨_,rfl,hR _ _ ?_⟩
 clear hR R
 replace hA0:=hA0.next hE1
 simp [go_sem,za0,za2,za1]
 rw [hs]
 refine hK _ _ ?_;clear hK K
 refine zao (t:=false) (by simp [go_sem,za0,za2,za1]) rfl ?_
 refine zae ?_
 refine hK1 _ _ ?_
 have h1:=h.keep hA0
 have hbx:=h1.bx
 obtain ⟨k0,k1,k2,k3⟩:=h1.cells
 first|refine zzr fun K hK=>?_|refine zzt fun K hK=>?_
 simp [go_sem,za0,za2,za1, k1,hw]
 refine za7 (b:=b) (off:=1) [.int .i64 ((i:Int)+1)] (by simp [go_sem,k1,hw,za0]) rfl (by simp [go_sem,k1,hw,za0]) (by simp [go_sem,Value.cells,k1,hw,za0]) zaI hbx (by simp) (by simp [Value.oneCell']) (by decide) (fun w9 hS9 hB9=>?_)
 simp [zaD] at hB9
 simp [go_sem]
 refine hK _ _ ?_;clear hK K
 have hg:=(za6 hA0).trans (zaC hS9)
 have h2:PS _ b tb la cap T (i+1) at' er:=h.next hg (by simpa using hB9) hi
 have hD:=Below.drew1 w9
 have h3:=h2.keep hD
 obtain ⟨k0,k1,k2,k3⟩:=h3.cells
 have hlt:(i:Int)<T.length:=by have:=h.lt;omega
 obtain ⟨lb,lo,rfl,_⟩:=h3.sl.lt (by intro e;have h4:=zc1 (toks_all T);rw [show (T.map zbk).flatten=zdw T from rfl,e,List.length_map] at h4;have:=h.lt;simp at h4;omega)
 have r1:=toks_text h3.sl h.lt
 have hlt':=h.lt
 first|refine W_rd [(0,0),(1,0),(2,0),(3,0),(4,0),(5,0),(6,0),(7,0),(8,0),(9,0),(10,0),(11,0),(12,0)] (by kernel_rfl) (by kernel_rfl) (fun K hK=>?_)|refine zbC [(0,0),(1,0),(2,0),(3,0),(4,0),(5,0),(6,0),(7,0),(8,0),(9,0),(10,0),(11,0),(12,0)] (by kernel_rfl) (by kernel_rfl) (fun K hK=>?_)
 simp [go_sem,k0,k1,hw2,hw3,hlt,hlt',r1,za0]
 refine hK _ _ ?_;clear hK K
 refine zal ?_
 repeat (first|refine za4 ?_|refine za3 ?_)
 refine ⟨trivial,?_,h3,hg.trans (za6 hD)⟩
 simp [go_sem,zaw,zav,r1]
set_option maxHeartbeats 1000000 in
theorem nameF_any {w:World} {b tb cap i:Nat} {la:Option Addr} {T:List Tok} {at':Int} (h:PS w b tb la cap T i at' 0) (hT:T.length≤maxLen) (hl:(zai T i).t.length≤maxLen) (hs:nmT T 0 i=false) :
  Calls Try.prog 37 #[.pointer (some ⟨b,0,none⟩)] w fun x w'=>x = .returned (.string ⟨#[]⟩)∧PS w' b tb la cap T i (zai T i).p 5∧w.grownBy w' (some b):=by
 refine za8 (args:=[.pointer (some ⟨b,0,none⟩)]) (rs:=[.tmp 2]) (n:=27) Try.func37 rfl rfl rfl (by kernel_rfl) ?_
 first|refine zzr fun K hK=>?_|refine zzt fun K hK=>?_
 simp [go_sem]
 refine hK _ _ ?_;clear hK K
 refine zad (fun K1 hK1=>?_)
 first|refine zzr fun K hK=>?_|refine zzt fun K hK=>?_
 simp [go_sem]
 refine za5 (by simp [go_sem]) rfl Try.call17 (fun R hR=>?_)
 simp [go_sem]
 refine (named_any h hT hl).mono ?_
 rintro x w1 ⟨rfl,hE1⟩
 refine ⟨_,rfl,hR _ _ ?_⟩
 clear hR R
 rw [hs]
 simp [go_sem]
 refine hK _ _ ?_;clear hK K
 refine zao (t:=true) (by simp [go_sem]) rfl ?_
 first|refine zzr fun K hK=>?_|refine zzt fun K hK=>?_
 simp [go_sem]
 refine za5 (by simp [go_sem]) rfl Try.call19 (fun R hR=>?_)
 simp [go_sem]
 refine (failG_any (h.keep hE1) hT 5).mono ?_
 rintro x w2 ⟨rfl,h2,hg2⟩
 refine ⟨_,rfl,hR _ _ ?_⟩
 clear hR R
 simp [go_sem]
 refine hK _ _ ?_;clear hK K
 first|refine zzr fun K hK=>?_|refine zzt fun K hK=>?_
 simp [go_sem]
 refine hK _ _ ?_;clear hK K
 refine zal ?_
 repeat (first|refine za4 ?_|refine za3 ?_)
 refine ⟨trivial,?_,h2,(za6 hE1).trans hg2⟩
 simp [go_sem,zaw,zav]
set_option maxHeartbeats 1000000 in
theorem nameB_any {w:World} {b tb cap i:Nat} {la:Option Addr} {T:List Tok} {at' er:Int} (h:PS w b tb la cap T i at' er) (hT:T.length≤maxLen) (hl:(zai T i).t.length≤maxLen) (h0:¬er=0) :
  Calls Try.prog 37 #[.pointer (some ⟨b,0,none⟩)] w fun x w'=>x = .returned (.string ⟨#[]⟩)∧Below w.heap.size w w':=by
 have hs:nmT T er i=false:=by simp [nmT,h0]
 refine za8 (args:=[.pointer (some ⟨b,0,none⟩)]) (rs:=[.tmp 2]) (n:=27) Try.func37 rfl rfl rfl (by kernel_rfl) ?_
 first|refine zzr fun K hK=>?_|refine zzt fun K hK=>?_
 simp [go_sem]
 refine hK _ _ ?_;clear hK K
 refine zad (fun K1 hK1=>?_)
 first|refine zzr fun K hK=>?_|refine zzt fun K hK=>?_
 simp [go_sem]
 refine za5 (by simp [go_sem]) rfl Try.call17 (fun R hR=>?_)
 simp [go_sem]
 refine (named_any h hT hl).mono ?_
 rintro x w1 ⟨rfl,hE1⟩
 refine ⟨_,rfl,hR _ _ ?_⟩
 clear hR R
 rw [hs]
 simp [go_sem]
 refine hK _ _ ?_;clear hK K
 refine zao (t:=true) (by simp [go_sem]) rfl ?_
 first|refine zzr fun K hK=>?_|refine zzt fun K hK=>?_
 simp [go_sem]
 refine za5 (by simp [go_sem]) rfl Try.call19 (fun R hR=>?_)
 simp [go_sem]
 refine (failB_any (h.keep hE1) h0 5).mono ?_
 rintro x w2 ⟨rfl,hE2⟩
 refine ⟨_,rfl,hR _ _ ?_⟩
 clear hR R
 simp [go_sem]
 refine hK _ _ ?_;clear hK K
 first|refine zzr fun K hK=>?_|refine zzt fun K hK=>?_
 simp [go_sem]
 refine hK _ _ ?_;clear hK K
 refine zal ?_
 repeat (first|refine za4 ?_|refine za3 ?_)
 refine ⟨trivial,?_,hE1.next hE2⟩
 simp [go_sem,zaw,zav]
end Go.Proofs.Ytefhenfofomjhaa
