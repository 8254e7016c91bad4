/- The parser: names. -/
import Derived.Test.YtefhenfofomjhaaGreatLx2
set_option linter.unusedSimpArgs false
set_option linter.unusedVariables false
namespace Go.Proofs.YtefhenfofomjhaaGreat
open Go Go.RowKit Go.V
set_option maxRecDepth 20000
theorem toks_text {w:World} {lb lo:Nat} {T:List Tok} (h:SL w (some ⟨lb,lo,none⟩) (zc9 T)) {i:Nat} (hi:i<T.length):w.cell? ⟨lb,lo+i*4+3,none⟩=some (.string ⟨(zan T i).t.toArray⟩):=by
 have hrow:((zc9 T).drop (i*4)).take 4=zbH (zan T i):=by
  unfold zc9 zan
  refine flatN_row (ze4 T) ?_
  simp [List.getD_eq_getElem?_getD,hi]
 have h3:(zc9 T)[i*4+3]? = some (.string ⟨(zan T i).t.toArray⟩):=by
  have h4:(((zc9 T).drop (i*4)).take 4)[3]? = some (.string ⟨(zan T i).t.toArray⟩):=by rw [hrow];rfl
  rw [List.getElem?_take_of_lt (by decide),List.getElem?_drop] at h4
  exact h4
 rcases h with h0|⟨b,off,e,h1⟩
 ·rw [h0] at h3;simp at h3
 ·injection e with e
  injection e with e1 e2
  subst e1;subst e2
  have:=h1 _ _ h3
  rwa [←Nat.add_assoc] at this
def nmT (T:List Tok) (er:Int) (i:Nat):Bool:=decide (er=0) && (decide ((zan T i).k=1) && nameB (zan T i).t)
set_option maxHeartbeats 1000000 in
theorem named_any {w:World} {b tb cap i:Nat} {la:Option Addr} {T:List Tok} {at' er:Int} (h:PS w b tb la cap T i at' er) (hT:T.length≤maxLen) (hl:(zan T i).t.length≤maxLen) :
  Calls Tryz.prog 12 #[.pointer (some ⟨b,0,none⟩)] w fun x w'=>x = .returned (.bool (nmT T er i))∧Below w.heap.size w w':=by
 refine za7 (args:=[.pointer (some ⟨b,0,none⟩)]) (rs:=[.tmp 2]) (n:=17) Tryz.func12 rfl rfl rfl (by kernel_rfl) ?_
 have hA0:=Below.refl w.heap.size w
 first|refine zzr fun K hK=>?_|refine zzt fun K hK=>?_
 simp [go_sem,za0,za4,za1]
 refine hK _ _ ?_;clear hK K
 first|refine zzr fun K hK=>?_|refine zzt fun K hK=>?_
 simp [go_sem,za0,za4,za1]
 refine za5 (by simp [go_sem,za0,za4,za1]) rfl Tryz.call15 (fun R hR=>?_)
 simp [go_sem,za0,za4,za1]
 refine (zcw (h.ext hA0)).mono ?_
 rintro e w1 ⟨rfl,hE1⟩
 refine ⟨_,rfl,hR _ _ ?_⟩
 clear hR R
 replace hA0:=hA0.next hE1
 simp [go_sem,za0,za4,za1]
 by_cases h0:er=0
 ·by_cases h1:(zan T i).k=1
  ·have h1':((zan T i).k:Int)=1:=by omega
   simp [go_sem,za0,za4,za1,h0]
   refine za5 (by simp [go_sem,za0,za4,za1,h0,h1,h1',zbH]) rfl Tryz.call13 (fun R hR=>?_)
   simp [go_sem,za0,za4,za1,h0,h1,h1',zbH]
   refine (zbV (h.ext hA0) hT).mono ?_
   rintro e w2 ⟨rfl,hE2⟩
   refine ⟨_,rfl,hR _ _ ?_⟩
   clear hR R
   replace hA0:=hA0.next hE2
   simp [go_sem,za0,za4,za1,h0,h1,h1',zbH]
   refine za5 (by simp [go_sem,za0,za4,za1,h0,h1,h1',zbH]) rfl Tryz.call13 (fun R hR=>?_)
   simp [go_sem,za0,za4,za1,h0,h1,h1',zbH]
   refine (zbV (h.ext hA0) hT).mono ?_
   rintro e w3 ⟨rfl,hE3⟩
   refine ⟨_,rfl,hR _ _ ?_⟩
   clear hR R
   replace hA0:=hA0.next hE3
   simp [go_sem,za0,za4,za1,h0,h1,h1',zbH]
   refine za5 (by simp [go_sem,za0,za4,za1,h0,h1,h1',zbH]) rfl Tryz.call27 (fun R hR=>?_)
   simp [go_sem,za0,za4,za1,h0,h1,h1',zbH]
   refine (isName_any ⟨(zan T i).t.toArray⟩ _ (by simpa [ByteArray.size] using hl)).mono ?_
   rintro e w4 ⟨rfl,hE4⟩
   refine ⟨_,rfl,hR _ _ ?_⟩
   clear hR R
   replace hA0:=hA0.next hE4
   simp [go_sem,za0,za4,za1,h0,h1,h1',zbH]
   refine hK _ _ ?_;clear hK K
   refine zaf ?_
   repeat (first|refine za3 ?_|refine za2 ?_)
   refine ⟨trivial,?_,hA0⟩
   simp [go_sem,zat,zas,nmT,h0,h1,bs]
  ·have h1':¬((zan T i).k:Int)=1:=by omega
   simp [go_sem,za0,za4,za1,h0]
   refine za5 (by simp [go_sem,za0,za4,za1,h0,h1,h1',zbH]) rfl Tryz.call13 (fun R hR=>?_)
   simp [go_sem,za0,za4,za1,h0,h1,h1',zbH]
   refine (zbV (h.ext hA0) hT).mono ?_
   rintro e w5 ⟨rfl,hE5⟩
   refine ⟨_,rfl,hR _ _ ?_⟩
   clear hR R
   replace hA0:=hA0.next hE5
   simp [go_sem,za0,za4,za1,h0,h1,h1',zbH]
   refine hK _ _ ?_;clear hK K
   refine zaf ?_
   repeat (first|refine za3 ?_|refine za2 ?_)
   refine ⟨trivial,?_,hA0⟩
   simp [go_sem,zat,zas,nmT,h0,h1,h1']
 ·simp [go_sem,za0,za4,za1,h0]
  refine hK _ _ ?_;clear hK K
  refine zaf ?_
  repeat (first|refine za3 ?_|refine za2 ?_)
  refine ⟨trivial,?_,hA0⟩
  simp [go_sem,zat,zas,nmT,h0]
set_option maxHeartbeats 1000000 in
theorem nameT_any {w:World} {b tb cap i:Nat} {la:Option Addr} {T:List Tok} {at' er:Int} (h:PS w b tb la cap T i at' er) (hT:T.length≤maxLen) (hl:(zan T i).t.length≤maxLen) (hs:nmT T er i=true) (hi:i+1<T.length) :
  Calls Tryz.prog 54 #[.pointer (some ⟨b,0,none⟩)] w fun x w'=>x = .returned (.string ⟨(zan T i).t.toArray⟩)∧PS w' b tb la cap T (i+1) at' er∧w.grownBy w' (some b):=by
 have hw:IntKind.i64.wrap ((i:Int)+1)=(i:Int)+1:=IntWalk.i64_in _ (by unfold maxLen at hT;omega)
 have hw2:IntKind.i64.wrap ((i:Int)+1-1)=(i:Int):=by rw [IntWalk.i64_in _ (by unfold maxLen at hT;omega)];omega
 have hw3:IntKind.i64.wrap (i:Int)=(i:Int):=IntWalk.i64_in _ (by unfold maxLen at hT;omega)
 refine za7 (args:=[.pointer (some ⟨b,0,none⟩)]) (rs:=[.tmp 2]) (n:=27) Tryz.func54 rfl rfl rfl (by kernel_rfl) ?_
 have hA0:=Below.refl w.heap.size w
 first|refine zzr fun K hK=>?_|refine zzt fun K hK=>?_
 simp [go_sem,za0,za4,za1]
 refine hK _ _ ?_;clear hK K
 refine zac (fun K1 hK1=>?_)
 first|refine zzr fun K hK=>?_|refine zzt fun K hK=>?_
 simp [go_sem,za0,za4,za1]
 refine za5 (by simp [go_sem,za0,za4,za1]) rfl Tryz.call12 (fun R hR=>?_)
 simp [go_sem,za0,za4,za1]
 refine (named_any (h.ext hA0) hT hl).mono ?_
 rintro e w1 ⟨rfl,hE1⟩
 refine ⟨_,rfl,hR _ _ ?_⟩
 clear hR R
 replace hA0:=hA0.next hE1
 simp [go_sem,za0,za4,za1]
 rw [hs]
 refine hK _ _ ?_;clear hK K
 refine zai (t:=false) (by simp [go_sem,za0,za4,za1]) rfl ?_
 refine zaa ?_
 refine hK1 _ _ ?_
 have h1:=h.keep hA0
 have hbx:=h1.bx
 obtain ⟨k0,k1,k2,k3⟩:=h1.cells
 first|refine zzr fun K hK=>?_|refine zzt fun K hK=>?_
 simp [go_sem,za0,za4,za1, k1,hw]
 refine za6 (b:=b) (off:=1) [.int .i64 ((i:Int)+1)] (by simp [go_sem,k1,hw,za0]) rfl (by simp [go_sem,k1,hw,za0]) (by simp [go_sem,Value.cells,k1,hw,za0]) zb2 hbx (by simp) (by simp [Value.oneCell']) (by decide) (fun w9 hS9 hB9=>?_)
 simp [zaD] at hB9
 simp [go_sem]
 refine hK _ _ ?_;clear hK K
 have hg:=(zad hA0).trans (zaR hS9)
 have h2:PS _ b tb la cap T (i+1) at' er:=h.next hg (by simpa using hB9) hi
 have hD:=Below.drew1 w9
 have h3:=h2.keep hD
 obtain ⟨k0,k1,k2,k3⟩:=h3.cells
 have hlt:(i:Int)<T.length:=by have:=h.lt;omega
 obtain ⟨lb,lo,rfl,_⟩:=h3.sl.lt (by intro e;have h4:=zdL (ze4 T);rw [show (T.map zbH).flatten=zc9 T from rfl,e,List.length_map] at h4;have:=h.lt;simp at h4;omega)
 have r1:=toks_text h3.sl h.lt
 have hlt':=h.lt
 first|refine W_rd [(0,0),(1,0),(2,0),(3,0),(4,0),(5,0),(6,0),(7,0),(8,0),(9,0),(10,0),(11,0),(12,0)] (by kernel_rfl) (by kernel_rfl) (fun K hK=>?_)|refine zbG [(0,0),(1,0),(2,0),(3,0),(4,0),(5,0),(6,0),(7,0),(8,0),(9,0),(10,0),(11,0),(12,0)] (by kernel_rfl) (by kernel_rfl) (fun K hK=>?_)
 simp [go_sem,k0,k1,hw2,hw3,hlt,hlt',r1,za0]
 refine hK _ _ ?_;clear hK K
 refine zaf ?_
 repeat (first|refine za3 ?_|refine za2 ?_)
 refine ⟨trivial,?_,h3,hg.trans (zad hD)⟩
 simp [go_sem,zat,zas,r1]
set_option maxHeartbeats 1000000 in
theorem nameF_any {w:World} {b tb cap i:Nat} {la:Option Addr} {T:List Tok} {at':Int} (h:PS w b tb la cap T i at' 0) (hT:T.length≤maxLen) (hl:(zan T i).t.length≤maxLen) (hs:nmT T 0 i=false) :
  Calls Tryz.prog 54 #[.pointer (some ⟨b,0,none⟩)] w fun x w'=>x = .returned (.string ⟨#[]⟩)∧PS w' b tb la cap T i (zan T i).p 5∧w.grownBy w' (some b):=by
 refine za7 (args:=[.pointer (some ⟨b,0,none⟩)]) (rs:=[.tmp 2]) (n:=27) Tryz.func54 rfl rfl rfl (by kernel_rfl) ?_
 first|refine zzr fun K hK=>?_|refine zzt fun K hK=>?_
 simp [go_sem]
 refine hK _ _ ?_;clear hK K
 refine zac (fun K1 hK1=>?_)
 first|refine zzr fun K hK=>?_|refine zzt fun K hK=>?_
 simp [go_sem]
 refine za5 (by simp [go_sem]) rfl Tryz.call12 (fun R hR=>?_)
 simp [go_sem]
 refine (named_any h hT hl).mono ?_
 rintro x w1 ⟨rfl,hE1⟩
 refine ⟨_,rfl,hR _ _ ?_⟩
 clear hR R
 rw [hs]
 simp [go_sem]
 refine hK _ _ ?_;clear hK K
 refine zai (t:=true) (by simp [go_sem]) rfl ?_
 first|refine zzr fun K hK=>?_|refine zzt fun K hK=>?_
 simp [go_sem]
 refine za5 (by simp [go_sem]) rfl Tryz.call16 (fun R hR=>?_)
 simp [go_sem]
 refine (failG_any (h.keep hE1) hT 5).mono ?_
 rintro x w2 ⟨rfl,h2,hg2⟩
 refine ⟨_,rfl,hR _ _ ?_⟩
 clear hR R
 simp [go_sem]
 refine hK _ _ ?_;clear hK K
 first|refine zzr fun K hK=>?_|refine zzt fun K hK=>?_
 simp [go_sem]
 refine hK _ _ ?_;clear hK K
 refine zaf ?_
 repeat (first|refine za3 ?_|refine za2 ?_)
 refine ⟨trivial,?_,h2,(zad hE1).trans hg2⟩
 simp [go_sem,zat,zas]
set_option maxHeartbeats 1000000 in
theorem nameB_any {w:World} {b tb cap i:Nat} {la:Option Addr} {T:List Tok} {at' er:Int} (h:PS w b tb la cap T i at' er) (hT:T.length≤maxLen) (hl:(zan T i).t.length≤maxLen) (h0:¬er=0) :
  Calls Tryz.prog 54 #[.pointer (some ⟨b,0,none⟩)] w fun x w'=>x = .returned (.string ⟨#[]⟩)∧Below w.heap.size w w':=by
 have hs:nmT T er i=false:=by simp [nmT,h0]
 refine za7 (args:=[.pointer (some ⟨b,0,none⟩)]) (rs:=[.tmp 2]) (n:=27) Tryz.func54 rfl rfl rfl (by kernel_rfl) ?_
 first|refine zzr fun K hK=>?_|refine zzt fun K hK=>?_
 simp [go_sem]
 refine hK _ _ ?_;clear hK K
 refine zac (fun K1 hK1=>?_)
 first|refine zzr fun K hK=>?_|refine zzt fun K hK=>?_
 simp [go_sem]
 refine za5 (by simp [go_sem]) rfl Tryz.call12 (fun R hR=>?_)
 simp [go_sem]
 refine (named_any h hT hl).mono ?_
 rintro x w1 ⟨rfl,hE1⟩
 refine ⟨_,rfl,hR _ _ ?_⟩
 clear hR R
 rw [hs]
 simp [go_sem]
 refine hK _ _ ?_;clear hK K
 refine zai (t:=true) (by simp [go_sem]) rfl ?_
 first|refine zzr fun K hK=>?_|refine zzt fun K hK=>?_
 simp [go_sem]
 refine za5 (by simp [go_sem]) rfl Tryz.call16 (fun R hR=>?_)
 simp [go_sem]
 refine (failB_any (h.keep hE1) h0 5).mono ?_
 rintro x w2 ⟨rfl,hE2⟩
 refine ⟨_,rfl,hR _ _ ?_⟩
 clear hR R
 simp [go_sem]
 refine hK _ _ ?_;clear hK K
 first|refine zzr fun K hK=>?_|refine zzt fun K hK=>?_
 simp [go_sem]
 refine hK _ _ ?_;clear hK K
 refine zaf ?_
 repeat (first|refine za3 ?_|refine za2 ?_)
 refine ⟨trivial,?_,hE1.next hE2⟩
 simp [go_sem,zat,zas]
end Go.Proofs.YtefhenfofomjhaaGreat
