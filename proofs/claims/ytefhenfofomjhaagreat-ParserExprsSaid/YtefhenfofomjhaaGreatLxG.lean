/- The lexer's specification: word and sign. -/
import Derived.Test.YtefhenfofomjhaaGreatRx2
import Derived.Test.YtefhenfofomjhaaGreatRw1
import Derived.Test.YtefhenfofomjhaaGreatTk1
set_option linter.unusedSimpArgs false
set_option linter.unusedVariables false
namespace Go.Proofs.YtefhenfofomjhaaGreat
open Go Go.RowKit Go.V
set_option maxRecDepth 20000
set_option maxHeartbeats 4000000 in
theorem rarg1_any {cap f:Nat} {lb lo:Nat} {T:List Tok} (hW:Wf T) (d:Int) (hd:d=21-(f:Int)) (hf:f≤20)
  (hcon:∀ (f':Nat),f=f'+1→∀ (w:World) (i:Nat) (sort:Int),0≤sort∧sort≤4→i<T.length→SL w (some ⟨lb,lo,none⟩) (zc9 T)→Calls Tryz.prog 40 #[.slice (some ⟨lb,lo,none⟩) T.length cap,.int .i64 i,.int .i64 sort,.int .i64 d] w (RArgPost w (conS T (argS T f') sort i)))
  {w:World} {i:Nat} {sort:Int} (hsr:0≤sort∧sort≤4) (hi:i<T.length) (hsl:SL w (some ⟨lb,lo,none⟩) (zc9 T)) :
  Calls Tryz.prog 19 #[.slice (some ⟨lb,lo,none⟩) T.length cap,.int .i64 i,.int .i64 sort,.int .i64 d] w (RArgPost w (argS T f sort i)):=by
 have hT:T.length≤20001:=hW.size
 have hi':(i:Int)<T.length:=by omega
 have hlb:lb<w.heap.size:=la_lt hsl (by omega) _ rfl
 obtain ⟨C,hC⟩:∃ C,C=argS T f sort i:=⟨_,rfl⟩
 rw [←hC]
 unfold argS at hC
 obtain ⟨kn,hkn⟩:∃ kn,kn=kofS T i sort:=⟨_,rfl⟩
 rw [←hkn] at hC
 have hkv:(if (zan T i).k≠1 then 0 else if sort=0 then max (wsS (zan T i).t 2) (wsS (zan T i).t 3) else wsS (zan T i).t sort)=kn:=by rw [hkn];rfl
 obtain ⟨nm,hnmv⟩:∃ nm,nm=nmS T i:=⟨_,rfl⟩
 rw [←hnmv] at hC
 have hnv:(decide ((zan T i).k=1) && !isKw (zan T i).t)=nm:=by rw [hnmv];rfl
 have hcn:∀ w:World,Calls Tryz.prog 39 #[.agg (zbH (zan T i)).toArray] w fun e w'=>e = .returned (.bool nm)∧Below w.heap.size w w':=fun w=>by
  have:=risName_any (zan T i) w
  rw [hnv] at this;exact this
 have hkc:∀ w:World,Calls Tryz.prog 18 #[.agg (zbH (zan T i)).toArray,.int .i64 sort] w fun e w'=>e = .returned (.int .i64 kn)∧Below w.heap.size w w':=fun w=>by
  have:=zdW (zan T i) sort w
  rw [hkv] at this;exact this
 have hwd:IntKind.i64.wrap ((i:Int)+1)=(i+1:Nat):=by rw [IntWalk.i64_in _ (by omega)];omega
 refine za7 (args:=[.slice (some ⟨lb,lo,none⟩) T.length cap,.int .i64 i,.int .i64 sort,.int .i64 d]) (rs:=[.cell 8 30,.tmp 9,.tmp 10]) (n:=58) Tryz.func19 rfl rfl rfl (by kernel_rfl) ?_
 have hA0:=Below.refl w.heap.size w
 first|refine zzr fun K hK=>?_|refine zzt fun K hK=>?_
 simp [go_sem,za0,za4,za1]
 refine zam (by simp [go_sem,za0,za4,za1]) rfl zbd (fun w1 b1 hE1 hle1 hB1=>?_)
 have hb1_0:=Nat.le_trans hA0.size hle1
 replace hA0:=hA0.next hE1
 simp [go_sem,za0,za4,za1,hB1.cell]
 refine hK _ _ ?_;clear hK K
 refine zac (fun K1 hK1=>?_)
 have tail:∀ (g:G) (w9:World),¬(nm=false∧kn=0)→g 0 = .slice (some ⟨lb,lo,none⟩) T.length cap→g 1 = .int .i64 i→g 2 = .int .i64 sort→g 3 = .int .i64 d→g 8 = .pointer (some ⟨b1,0,none⟩)→Below w.heap.size w w9→Bx w9 b1 #[.int .i64 0,.string ⟨#[]⟩,.bool false,.slice none 0 0,.slice none 0 0,.slice none 0 0,.int .i64 0] 30→K1 g w9:=by
  clear hA0 hB1
  intro g w9 hne g0 g1 g2 g3 g8 hA0 hB1
  rw [if_neg hne] at hC
  refine hK1 _ _ ?_
  refine zac (fun K2 hK2=>?_)
  first|refine zzr fun K hK=>?_|refine zzt fun K hK=>?_
  simp [go_sem,za0,za4,za1,hB1.cell,g0,g1,g2,g3,g8]
  refine hK _ _ ?_;clear hK K
  cases f with
  | zero =>
   have c1:(20:Int)<d:=by omega
   have hC1:C = .er i 4:=hC
   refine zai (t:=true) (by simp [go_sem,za0,za4,za1,hB1.cell,g0,g1,g2,g3,g8,c1]) rfl ?_
   first|refine zzr fun K hK=>?_|refine zzt fun K hK=>?_
   simp [go_sem,za0,za4,za1,hB1.cell,g0,g1,g2,g3,g8]
   refine zal #[.int .i64 0,.string ⟨#[]⟩,.bool false,.slice none 0 0,.slice none 0 0,.slice none 0 0,.int .i64 0] (by simp [go_sem]) rfl zb3 [] (by simp [go_sem]) rfl ?_
   simp [go_sem,za0]
   refine za6 (b:=b1) (off:=0) [.int .i64 0,.string ⟨#[]⟩,.bool false,.slice none 0 0,.slice none 0 0,.slice none 0 0,.int .i64 0] (by simp [go_sem,za0,za4,za1,hB1.cell,g0,g1,g2,g3,g8]) rfl (by simp [go_sem,za0,za4,za1,hB1.cell,g0,g1,g2,g3,g8]) (by simp [go_sem,Value.cells,za0,za4,za1,hB1.cell,g0,g1,g2,g3,g8]) zaw hB1 (by simp) (by simp [Value.oneCell']) (by decide) (fun w2 hS2 hB2=>?_)
   simp [zaD] at hB2
   replace hA0:=hA0.nextS hS2 (by first|exact hb1_0|omega)
   simp [go_sem,za0,za4,za1,g0,g1,g2,g3,g8,hB2.cell]
   refine hK _ _ ?_;clear hK K
   refine zaf ?_
   repeat (first|refine za3 ?_|refine za2 ?_)
   rw [hC1]
   refine ⟨by simp [go_sem,zaO,zas,za4,za1,za0,hB2.cell,g8],?_⟩
   refine ⟨_,?_,EX.ex0 _ _ _ rfl,hA0⟩
   simp [go_sem,zat,zas,za4,za1,za0,hB2.cell,resX,zcF,zdk,g8]
  | succ f =>
   have c1:¬(20:Int)<d:=by omega
   simp only at hC
   refine zai (t:=false) (by simp [go_sem,za0,za4,za1,hB1.cell,g0,g1,g2,g3,g8, c1]) rfl ?_
   refine zaa ?_
   refine hK2 _ _ ?_
   refine zac (fun K3 hK3=>?_)
   obtain ⟨r1,r2,_⟩:=zdq (hsl.ext hA0) hi
   simp only [Option.getD_some,za0] at r1 r2
   first|refine zzr fun K hK=>?_|refine zzt fun K hK=>?_
   simp [go_sem,za0,hB1.cell,g0,g1,g2,g3,g8, hi,hi',r1,r2]
   refine za5 (by simp [go_sem,za0,hB1.cell,g0,g1,g2,g3,g8,hi,hi']) rfl Tryz.call39 (fun R hR=>?_)
   simp [go_sem,za0,hB1.cell,g0,g1,g2,g3,g8,hi,hi']
   refine (hcn _).mono ?_
   rintro e w3 ⟨rfl,hE3⟩
   refine ⟨_,rfl,hR _ _ ?_⟩
   clear hR R
   replace hA0:=hA0.next hE3
   replace hB1:=hB1.keep hE3
   cases nm with
   | true =>
    simp [go_sem,za0,hB1.cell,g0,g1,g2,g3,g8]
    refine hK _ _ ?_;clear hK K
    rw [if_pos rfl] at hC
    have hC1:=hC
    refine zai (t:=true) (by simp [go_sem,za0,hB1.cell,g0,g1,g2,g3,g8]) rfl ?_
    have hwb1:w.heap.size≤b1:=hle1
    obtain ⟨c0,cp,ct⟩:=zck ((hsl.ext hA0).ext (Below.drew1 _)) hi
    have hD4:=Below.drew1 w3
    replace hA0:=hA0.next hD4
    replace hB1:=hB1.keep hD4
    first|refine W_rdS ([⟨lb,lo+i*4+3,none⟩,⟨lb,lo+i*4+1,none⟩]) [(0,0),(1,0),(2,0),(3,0),(4,0),(5,0),(6,0),(7,0),(8,0),(9,0),(11,0),(12,0),(10,1),(13,1),(14,0),(15,0)] (by kernel_rfl) (by kernel_rfl) (fun K hK=>?_)|refine W_drawS ([⟨lb,lo+i*4+3,none⟩,⟨lb,lo+i*4+1,none⟩]) [(0,0),(1,0),(2,0),(3,0),(4,0),(5,0),(6,0),(7,0),(8,0),(9,0),(11,0),(12,0),(10,1),(13,1),(14,0),(15,0)] (by kernel_rfl) (by kernel_rfl) (fun K hK=>?_)
    simp [go_sem,za0,hB1.cell,g0,g1,g2,g3,g8,hi,hi',cp,ct,hwd]
    have hkp:Keep ([⟨lb,lo+i*4+3,none⟩,⟨lb,lo+i*4+1,none⟩]) w3.drew w3.drew:=keep_refl _ _
    have hbL:∀ a∈[(⟨lb,lo+i*4+3,none⟩:Addr),⟨lb,lo+i*4+1,none⟩],a.block≠b1:=by
     intro a ha
     simp only [List.mem_cons,List.not_mem_nil,or_false] at ha
     rcases ha with rfl|rfl<;>(simp only;omega)
    refine zal #[.int .i64 1,.string ⟨(zan T i).t.toArray⟩,.bool false,.slice none 0 0,.slice none 0 0,.slice none 0 0,.int .i64 (zan T i).p] (by simp [go_sem]) rfl zb3 [(0,.int .i64 1),(1,.string ⟨(zan T i).t.toArray⟩),(4,.int .i64 (zan T i).p)] (by simp [go_sem]) rfl ?_
    refine zcV hkp ?_
    simp [go_sem,za0,hB1.cell,g0,g1,g2,g3,g8,hi,hi',cp,ct,hwd]
    have hB1':=hB1
    refine za6 (b:=b1) (off:=0) [.int .i64 1,.string ⟨(zan T i).t.toArray⟩,.bool false,.slice none 0 0,.slice none 0 0,.slice none 0 0,.int .i64 (zan T i).p] (by simp [go_sem,g8,za0]) rfl (by simp [go_sem,g8,za0]) (by simp [go_sem,Value.cells,g8,za0]) zaw hB1' (by simp) (by simp [Value.oneCell']) (by decide) (fun w60 hS60 hB60=>?_)
    simp [zaD] at hB60
    have hkp2:Keep [⟨lb,lo+i*4+3,none⟩,⟨lb,lo+i*4+1,none⟩] _ w60:=Keep.sto hbL hS60
    refine zcV hkp2 ?_
    simp [go_sem,hkp2]
    refine hK _ _ ?_;clear hK K
    refine zaf ?_
    repeat (first|refine za3 ?_|refine za2 ?_)
    rw [hC1]
    refine ⟨by simp [go_sem,zaO,zas,za4,za1,za0,hB60.cell,g8],?_⟩
    refine ⟨_,?_,EX.leaf (name:=(zan T i).t) (pos:=((zan T i).p:Int)) (by have:=hW.len i;unfold maxLen;omega),hA0.nextS hS60 hwb1⟩
    simp [go_sem,zat,zas,za4,za1,za0,hB60.cell,g8,zcF,zdk]
   | false =>
    simp [go_sem,za0,hB1.cell,g0,g1,g2,g3,g8]
    refine hK _ _ ?_;clear hK K
    rw [if_neg (by decide)] at hC
    refine zai (t:=false) (by simp [go_sem,za0,hB1.cell,g0,g1,g2,g3,g8]) rfl ?_
    refine zaa ?_
    refine hK3 _ _ ?_
    have hG0:=hA0.size
    have h1l:=hB1.lt
    first|refine zzr fun K hK=>?_|refine zzt fun K hK=>?_
    simp [go_sem,za0,hB1.cell,g0,g1,g2,g3,g8]
    refine za5 (by simp [go_sem,za0,hB1.cell,g0,g1,g2,g3,g8]) rfl Tryz.call40 (fun R hR=>?_)
    simp [go_sem,za0,hB1.cell,g0,g1,g2,g3,g8]
    refine (hcon f rfl _ i sort hsr hi (hsl.ext hA0)).mono ?_
    rintro e w30 ⟨Rx,rfl,hxe,hE30⟩
    refine ⟨_,rfl,hR _ _ ?_⟩
    clear hR R
    replace hA0:=hA0.next hE30
    replace hB1:=hB1.keep hE30
    obtain ⟨r,hr⟩:∃ r,r=conS T (argS T f) sort i:=⟨_,rfl⟩
    rw [←hr] at hxe hC ⊢
    obtain ⟨x,hx⟩:∃ x,x=resX r:=⟨_,rfl⟩
    rw [←hx] at hxe
    obtain ⟨xa,xc,xb,xd,xad,xcap,xrows,hRx,_⟩:=hxe.open
    subst hRx
    have hA3:=hA0
    replace hxe:=hxe.mono (F':=fun k=>w.heap.size≤k∧k≠b1) (fun k hk=>⟨Nat.le_trans hG0 hk,fun e=>by subst e;exact absurd hk (Nat.not_le.2 h1l)⟩)
    simp [go_sem,za0,hB1.cell,g0,g1,g2,g3,g8]
    refine za6 (b:=b1) (off:=0) [.int .i64 x.kind,.string ⟨x.name.toArray⟩,.bool x.neg,.slice xa x.num.length xc,.slice xb x.den.length xd,.slice xad x.args.length xcap,.int .i64 x.pos] (by simp [go_sem,za0,hB1.cell,g0,g1,g2,g3,g8,za4,za1]) rfl (by simp [go_sem,za0,hB1.cell,g0,g1,g2,g3,g8,za4,za1]) (by simp [go_sem,Value.cells,za0,hB1.cell,g0,g1,g2,g3,g8,za4,za1]) zaw hB1 (by simp) (by simp [Value.oneCell']) (by decide) (fun w31 hS31 hB31=>?_)
    simp [zaD] at hB31
    replace hA0:=hA0.nextS hS31 (by first|exact hb1_0|omega)
    replace hxe:=hxe.ch (Ch.of_sto hS31 (NL.of_bx hB1 (by intro u hu x e;subst e;simp at hu))) (by intro k hk e;subst e;first|exact hk.2 rfl|omega)
    simp [go_sem,za0,g0,g1,g2,g3,g8,za4,za1,hB31.cell]
    refine hK _ _ ?_;clear hK K
    refine zaf ?_
    repeat (first|refine za3 ?_|refine za2 ?_)
    rw [hC]
    refine ⟨by simp [go_sem,zaO,zas,za4,za1,za0,hB31.cell,g8],?_⟩
    refine ⟨_,?_,by rw [←hx];exact hxe.mono (fun k hk=>hk.1),hA0⟩
    simp [go_sem,zat,zas,za4,za1,za0,hB31.cell,g8,zcF,zdk]
 obtain ⟨r1,r2,_⟩:=zdq (hsl.ext hA0) hi
 simp only [Option.getD_some,za0] at r1 r2
 first|refine zzr fun K hK=>?_|refine zzt fun K hK=>?_
 simp [go_sem,za0,hB1.cell, hi,hi',r1,r2]
 refine za5 (by simp [go_sem,za0,hB1.cell,hi,hi']) rfl Tryz.call39 (fun R hR=>?_)
 simp [go_sem,za0,hB1.cell,hi,hi']
 refine (hcn _).mono ?_
 rintro e w32 ⟨rfl,hE32⟩
 refine ⟨_,rfl,hR _ _ ?_⟩
 clear hR R
 replace hA0:=hA0.next hE32
 replace hB1:=hB1.keep hE32
 cases nm with
 | true =>
  simp [go_sem,za0,hB1.cell]
  refine hK _ _ ?_;clear hK K
  refine zai (t:=false) (by simp [go_sem,za0,hB1.cell]) rfl ?_
  refine zaa ?_
  refine tail _ _ (by simp) (by simp [go_sem]) (by simp [go_sem]) (by simp [go_sem]) (by simp [go_sem]) (by simp [go_sem]) hA0 hB1
 | false =>
  obtain ⟨s1,s2,_⟩:=zdq (hsl.ext hA0) hi
  simp only [Option.getD_some,za0] at s1 s2
  simp [go_sem,za0,hB1.cell,hi,hi',s1,s2]
  refine za5 (by simp [go_sem,za0,hB1.cell,hi,hi',s1,s2]) rfl Tryz.call18 (fun R hR=>?_)
  simp [go_sem,za0,hB1.cell,hi,hi',s1,s2]
  refine (hkc _).mono ?_
  rintro e w33 ⟨rfl,hE33⟩
  refine ⟨_,rfl,hR _ _ ?_⟩
  clear hR R
  replace hA0:=hA0.next hE33
  replace hB1:=hB1.keep hE33
  by_cases hkz:kn=0
  ·rw [if_pos ⟨rfl,hkz⟩] at hC
   have hC1:C = .er i 5:=hC
   simp [go_sem,za0,hB1.cell,hkz]
   refine hK _ _ ?_;clear hK K
   refine zai (t:=true) (by simp [go_sem,za0,hB1.cell,hkz]) rfl ?_
   first|refine zzr fun K hK=>?_|refine zzt fun K hK=>?_
   simp [go_sem,za0,hB1.cell,za4,za1]
   refine zal #[.int .i64 0,.string ⟨#[]⟩,.bool false,.slice none 0 0,.slice none 0 0,.slice none 0 0,.int .i64 0] (by simp [go_sem]) rfl zb3 [] (by simp [go_sem]) rfl ?_
   simp [go_sem,za0]
   refine za6 (b:=b1) (off:=0) [.int .i64 0,.string ⟨#[]⟩,.bool false,.slice none 0 0,.slice none 0 0,.slice none 0 0,.int .i64 0] (by simp [go_sem,za0,hB1.cell,za4,za1]) rfl (by simp [go_sem,za0,hB1.cell,za4,za1]) (by simp [go_sem,Value.cells,za0,hB1.cell,za4,za1]) zaw hB1 (by simp) (by simp [Value.oneCell']) (by decide) (fun w34 hS34 hB34=>?_)
   simp [zaD] at hB34
   replace hA0:=hA0.nextS hS34 (by first|exact hb1_0|omega)
   simp [go_sem,za0,za4,za1,hB34.cell]
   refine hK _ _ ?_;clear hK K
   refine zaf ?_
   repeat (first|refine za3 ?_|refine za2 ?_)
   rw [hC1]
   refine ⟨by simp [go_sem,zaO,zas,za4,za1,za0,hB34.cell,za0],?_⟩
   refine ⟨_,?_,EX.ex0 _ _ _ rfl,hA0⟩
   simp [go_sem,zat,zas,za4,za1,za0,hB34.cell,resX,zcF,zdk,za0]
  ·simp [go_sem,za0,hB1.cell,hkz]
   refine hK _ _ ?_;clear hK K
   refine zai (t:=false) (by simp [go_sem,za0,hB1.cell,hkz]) rfl ?_
   refine zaa ?_
   refine tail _ _ (fun h=>hkz h.2) (by simp [go_sem]) (by simp [go_sem]) (by simp [go_sem]) (by simp [go_sem]) (by simp [go_sem]) hA0 hB1
theorem rarg_any {cap:Nat} {lb lo:Nat} {T:List Tok} (hW:Wf T):∀ (f:Nat),f≤20→∀ (w:World) (i:Nat) (sort:Int),0≤sort∧sort≤4→i<T.length→SL w (some ⟨lb,lo,none⟩) (zc9 T) →
  Calls Tryz.prog 19 #[.slice (some ⟨lb,lo,none⟩) T.length cap,.int .i64 i,.int .i64 sort,.int .i64 (21-(f:Int))] w (RArgPost w (argS T f sort i))
 | 0,hf,w,i,sort,hs,hi,h=>rarg1_any hW _ rfl hf (fun f' e=>by omega) hs hi h
 | f+1,hf,w,i,sort,hs,hi,h=>by
  refine rarg1_any hW _ rfl hf (fun f' e w i sort hs hi h=>?_) hs hi h
  have e':f=f':=by omega
  subst e'
  refine rcon_any hW _ (by omega) (fun w i sort hs hi h=>?_) hs hi h
  rw [show (21-((f+1:Nat):Int)+1)=21-(f:Int) by omega]
  exact rarg_any hW f (by omega) w i sort hs hi h
end Go.Proofs.YtefhenfofomjhaaGreat
namespace Go.Proofs.YtefhenfofomjhaaGreat
open Go.RowKit Go.V Go.ChangeMaps
set_option maxRecDepth 20000
theorem skip_true_step (s:ByteArray) (k:Nat) (h:k<s.size) (hb:za9 s k≠10):k+zcE true ((bs s).drop k)=(k+1)+zcE true ((bs s).drop (k+1)):=by
 rw [zca s k h,zcE,if_neg hb];omega
theorem skip_true_hash (s:ByteArray) (k:Nat) (h:k<s.size) (hb:za9 s k=35):nxt s k=k+zcE true ((bs s).drop k):=by
 unfold nxt
 rw [zca s k h,hb]
 rfl
theorem skip_true_end (s:ByteArray) (k:Nat) (h:¬(k<s.size∧za9 s k≠10)):k+zcE true ((bs s).drop k)=nxt s k:=by
 unfold nxt
 by_cases hk:k<s.size
 ·have hb:za9 s k=10:=by
   by_cases e:za9 s k=10
   ·exact e
   ·exact absurd ⟨hk,e⟩ h
  rw [zca s k hk,hb];rfl
 ·rw [drop_end s k hk];rfl
set_option maxHeartbeats 1000000 in
theorem skip_any (s:ByteArray) (n:Nat) (w:World) (hs:s.size≤maxLen) (hn:n≤s.size) :
  Calls Tryz.prog 33 #[.string s,.int .i64 n] w fun e w'=>e = .returned (.int .i64 (nxt s n))∧w=w':=by
 unfold maxLen at hs
 refine za7 (args:=[.string s,.int .i64 n]) (rs:=[.tmp 4]) (n:=40) Tryz.func33 rfl rfl rfl (by kernel_rfl) ?_
 first|refine zzr fun K hK=>?_|refine zzt fun K hK=>?_
 simp [go_sem]
 refine hK _ _ ?_;clear hK K
 refine zac (fun K1 hK1=>?_)
 refine zae ?_
 refine zaE (fun m g w'=>w'=w∧∃ k:Nat,k≤s.size∧m=s.size-k∧g 0 = .string s∧g 1 = .int .i64 k∧nxt s k=nxt s n) (s.size-n) ?_ ?_
 ·exact ⟨rfl,n,hn,rfl,rfl,rfl,rfl⟩
 ·rintro m g w' ⟨rfl,k,hk,rfl,g0,g1,hN⟩
  have e35:za9 s k=35↔((za9 s k).toNat:Int)=35:=byte_iff _ 35 (by omega)
  refine zac (fun K2 hK2=>?_)
  refine zei (fun g' w1=>w1=w'∧g' 0 = .string s∧g' 1 = .int .i64 k∧g' 20 = .bool (decide (k<s.size) && (blkB (za9 s k).toNat || decide (za9 s k=35)))) (by kernel_rfl) ?_ ?_
  ·by_cases hlt:k<s.size
   ·have hlt':(k:Int)<s.size:=by omega
    simp [go_sem,g0,g1,hlt,hlt']
    refine za5 (by simp [go_sem,hlt,hlt']) rfl Tryz.call59 (fun R hR=>?_)
    simp [go_sem,hlt,hlt']
    refine (blank_any _ _).mono ?_
    rintro e w1 ⟨rfl,rfl⟩
    refine ⟨_,rfl,hR _ _ ?_⟩
    clear hR R
    cases hb:blkB (za9 s k).toNat with
    | true =>
     simp [go_sem,hb,g0,g1,hlt,hlt']
    | false =>
     by_cases i35:((za9 s k).toNat:Int)=35
     ·have j35:=e35.2 i35
      simp [go_sem,hb,g0,g1,hlt,hlt',i35,j35]
     ·have j35:¬za9 s k=35:=fun e=>i35 (e35.1 e)
      have k35:¬(za9 s k).toNat=35:=by omega
      simp [go_sem,hb,g0,g1,hlt,hlt',i35,j35,k35]
   ·simp [go_sem,g0,g1,hlt]
  ·rintro g' w1 ⟨rfl,q0,q1,q20⟩
   refine zai q20 rfl ?_
   by_cases hlt:k<s.size
   ·have hlt':(k:Int)<s.size:=by omega
    have hw1:IntKind.i64.wrap (↑k+1)=(k:Int)+1:=IntWalk.i64_in _ (by omega)
    by_cases h35:za9 s k=35
    ·have i35:=e35.1 h35
     have e1:(decide (k<s.size) && (blkB (za9 s k).toNat || decide (za9 s k=35)))=true:=by simp [hlt,h35]
     simp only [e1]
     refine zaa ?_
     refine hK2 _ _ ?_;clear hK2 K2
     refine zae ?_
     refine zac (fun K3 hK3=>?_)
     first|refine zzr fun K hK=>?_|refine zzt fun K hK=>?_
     simp [go_sem,q0,q1,hlt,hlt']
     refine hK _ _ ?_;clear hK K
     refine zai (by simp [go_sem,h35,i35];rfl) rfl ?_
     refine zac (fun K4 hK4=>?_)
     refine zae ?_
     refine zaE (fun m g w'=>w'=w1∧∃ j:Nat,k≤j∧j≤s.size∧m=s.size-j∧g 0 = .string s∧g 1 = .int .i64 j∧j+zcE true ((bs s).drop j)=nxt s n) (s.size-k) ?_ ?_
     ·exact ⟨rfl,k,Nat.le_refl _,hk,rfl,by simp [go_sem,q0],by simp [go_sem,q1],by rw [←skip_true_hash s k hlt h35];exact hN⟩
     ·clear q0 q1 q20
      rintro m g'' w' ⟨rfl,j,hkj,hj,rfl,q0,q1,hM⟩
      have e10:za9 s j=10↔((za9 s j).toNat:Int)=10:=byte_iff _ 10 (by omega)
      refine zac (fun K5 hK5=>?_)
      by_cases hjl:j<s.size
      ·have hjl':(j:Int)<s.size:=by omega
       have hw2:IntKind.i64.wrap (↑j+1)=(j:Int)+1:=IntWalk.i64_in _ (by omega)
       by_cases h10:za9 s j=10
       ·have i10:=e10.1 h10
        first|refine zzr fun K hK=>?_|refine zzt fun K hK=>?_
        simp [go_sem,q0,q1,hjl,hjl',h10,i10]
        refine hK _ _ ?_;clear hK K
        refine zai (by simp [go_sem,hjl,hjl',h10,i10];rfl) rfl ?_
        refine zaz ?_
        repeat (first|refine zag ?_|refine za8 rfl ?_|refine zab ?_)
        refine hK4 _ _ ?_;clear hK4 K4 hK5 K5
        refine zaz ?_
        repeat (first|refine zag ?_|refine za8 rfl ?_|refine zab ?_)
        have hkj':k<j:=by
         by_cases e:k=j
         ·subst e;rw [h35] at h10;exact absurd h10 (by decide)
         ·omega
        refine ⟨s.size-j,by omega,rfl,j,hj,rfl,by simp [go_sem,q0],by simp [go_sem,q1],?_⟩
        rw [←hM,skip_true_end s j (by simp [h10])]
       ·have i10:¬((za9 s j).toNat:Int)=10:=fun e=>h10 (e10.2 e)
        have j10:¬(za9 s j).toNat=10:=by omega
        first|refine zzr fun K hK=>?_|refine zzt fun K hK=>?_
        simp [go_sem,q0,q1,hjl,hjl',h10,i10,j10]
        refine hK _ _ ?_;clear hK K
        refine zai (by simp [go_sem,hjl,hjl',h10,i10,j10];rfl) rfl ?_
        refine zaa ?_
        refine hK5 _ _ ?_;clear hK5 K5
        refine zae ?_
        refine zzt fun K hK=>?_
        simp [go_sem,q1,hw2]
        refine hK _ _ ⟨s.size-(j+1),by omega,rfl,j+1,by omega,by omega,rfl,by simp [go_sem,q0],by simp [go_sem],?_⟩
        rw [←hM,skip_true_step s j hjl h10]
      ·have hjs:j=s.size:=by omega
       first|refine zzr fun K hK=>?_|refine zzt fun K hK=>?_
       simp [go_sem,q0,q1,hjl]
       refine hK _ _ ?_;clear hK K
       refine zai (by simp [go_sem,hjl];rfl) rfl ?_
       refine zaz ?_
       repeat (first|refine zag ?_|refine za8 rfl ?_|refine zab ?_)
       refine hK4 _ _ ?_;clear hK4 K4 hK5 K5
       refine zaz ?_
       repeat (first|refine zag ?_|refine za8 rfl ?_|refine zab ?_)
       refine ⟨s.size-j,by omega,rfl,j,hj,rfl,by simp [go_sem,q0],by simp [go_sem,q1],?_⟩
       rw [←hM,skip_true_end s j (by simp [hjl])]
    ·have i35:¬((za9 s k).toNat:Int)=35:=fun e=>h35 (e35.2 e)
     have k35:¬(za9 s k).toNat=35:=by omega
     cases hb:blkB (za9 s k).toNat with
     | true =>
      simp only [hlt,decide_true,Bool.true_or,Bool.and_true]
      refine zaa ?_
      refine hK2 _ _ ?_;clear hK2 K2
      refine zae ?_
      refine zac (fun K3 hK3=>?_)
      first|refine zzr fun K hK=>?_|refine zzt fun K hK=>?_
      simp [go_sem,q0,q1,hlt,hlt']
      refine hK _ _ ?_;clear hK K
      refine zai (by simp [go_sem,i35,k35];rfl) rfl ?_
      refine zaa ?_
      refine hK3 _ _ ?_;clear hK3 K3
      refine zzt fun K hK=>?_
      simp [go_sem,q1,hw1]
      refine hK _ _ ⟨s.size-(k+1),by omega,rfl,k+1,by omega,rfl,by simp [go_sem,q0],by simp [go_sem],?_⟩
      rw [←hN,nxt_blank s k hlt hb]
     | false =>
      simp only [hlt,h35,decide_true,decide_false,Bool.or_self,Bool.and_false]
      refine zaz ?_
      repeat (first|refine zag ?_|refine za8 rfl ?_|refine zab ?_)
      refine hK1 _ _ ?_;clear hK1 K1 hK2 K2
      first|refine zzr fun K hK=>?_|refine zzt fun K hK=>?_
      simp [go_sem,q1]
      refine hK _ _ ?_;clear hK K
      refine zaf ?_
      repeat (first|refine za3 ?_|refine za2 ?_)
      refine ⟨trivial,?_,rfl⟩
      simp [go_sem,zat,zas]
      rw [←hN,nxt_here s k hlt hb h35]
   ·simp only [hlt,decide_false,Bool.false_and]
    refine zaz ?_
    repeat (first|refine zag ?_|refine za8 rfl ?_|refine zab ?_)
    refine hK1 _ _ ?_;clear hK1 K1 hK2 K2
    first|refine zzr fun K hK=>?_|refine zzt fun K hK=>?_
    simp [go_sem,q1]
    refine hK _ _ ?_;clear hK K
    refine zaf ?_
    repeat (first|refine za3 ?_|refine za2 ?_)
    refine ⟨trivial,?_,rfl⟩
    simp [go_sem,zat,zas]
    rw [←hN,nxt_end s k hlt]
def sgnE (s:ByteArray) (q:Nat):Nat :=
 if sgnB (za9 s q).toNat=true then 0 else if (za9 s q).toNat=58 then (if q+1<s.size∧(za9 s (q+1)).toNat=61 then 0 else 5) else 5
def sgnZ (s:ByteArray) (q:Nat):Nat:=if (za9 s q).toNat=58 then q+2 else q+1
def TokP (s:ByteArray) (w:World) (K q z:Nat) (er:Nat) (e:Ending) (w':World):Prop :=
 ∃ cs:List Value,e = .returned (.tuple #[.agg cs.toArray,.int .i64 er])∧cs.length=4∧(∀ v∈cs,v.oneCell'=true)∧(er=0→cs=tokC s (K,q,z))∧Below w.heap.size w w'
theorem nat_succ (n:Nat):((n:Int)+1).toNat=n+1:=by omega
set_option maxHeartbeats 2000000 in
theorem sign_any (s:ByteArray) (n:Nat) (w:World) (hs:s.size≤20000) (hn:n<s.size) :
  Calls Tryz.prog 34 #[.string s,.int .i64 n] w (TokP s w 3 n (sgnZ s n) (sgnE s n)):=by
 have hs':s.size≤maxLen:=by unfold maxLen;omega
 refine za7 (args:=[.string s,.int .i64 n]) (rs:=[.cell 4 52,.tmp 5]) (n:=48) Tryz.func34 rfl rfl rfl (by kernel_rfl) ?_
 first|refine zzr fun K hK=>?_|refine zzt fun K hK=>?_
 simp [go_sem]
 refine zam (by simp [go_sem]) rfl zc0 (fun w1 b1 hE1 hle1 hB1=>?_)
 simp [go_sem]
 refine hK _ _ ?_;clear hK K
 first|refine zzr fun K hK=>?_|refine zzt fun K hK=>?_
 simp [go_sem]
 refine zal #[.int .i64 3,.int .i64 n,.int .i64 (IntKind.i64.wrap (↑n+1)),.string ⟨#[]⟩] (by simp [go_sem]) rfl zcN [(0,.int .i64 3),(1,.int .i64 n),(2,.int .i64 (IntKind.i64.wrap (↑n+1)))] (by simp [go_sem]) rfl ?_
 simp [go_sem]
 refine zam (by simp [go_sem]) rfl zc0 (fun w2 b2 hE2 hle2 hB2=>?_)
 simp [go_sem]
 have hw1:IntKind.i64.wrap (↑n+1)=(n:Int)+1:=IntWalk.i64_in _ (by omega)
 rw [hw1]
 refine za6 (b:=b2) (off:=0) [.int .i64 3,.int .i64 n,.int .i64 (↑n+1),.string ⟨#[]⟩] (by simp [go_sem,hw1]) rfl (by simp [go_sem,hw1]) (by simp [go_sem,Value.cells,hw1]) zaT hB2 (by simp) (by simp [Value.oneCell']) (by decide) (fun w3 hS3 hB3=>?_)
 simp [zaD] at hB3
 have hne:b1≠b2:=by have:=hB1.lt;omega
 have hb1:w.heap.size≤b1:=hle1
 have hX:Below w.heap.size w w3:=(hE1.next hE2).nextS hS3 (by have:=hE1.size;omega)
 have hA:Bx w3 b1 #[.int .i64 0,.int .i64 0,.int .i64 0,.string ⟨#[]⟩] 52:=(hB1.keep hE2).sto hS3 hne
 have hb2:w.heap.size≤b2:=by have:=hE1.size;omega
 clear hE1 hE2 hB1 hB2 hS3
 simp [go_sem]
 refine hK _ _ ?_;clear hK K
 have hlt':(n:Int)<s.size:=by omega
 refine zac (fun K1 hK1=>?_)
 first|refine zzr fun K hK=>?_|refine zzt fun K hK=>?_
 simp [go_sem,hn,hlt']
 refine hK _ _ ?_;clear hK K
 have bad:∀ (g:G) (w5:World) (z:Int),Below w.heap.size w w5→Bx w5 b1 #[.int .i64 0,.int .i64 0,.int .i64 0,.string ⟨#[]⟩] 52→Bx w5 b2 #[.int .i64 3,.int .i64 n,.int .i64 z,.string ⟨#[]⟩] 52 →
   g 4 = .pointer (some ⟨b1,0,none⟩)→g 6 = .pointer (some ⟨b2,0,none⟩)→sgnE s n=5 →
   ∀ (K:G→World→Prop),(∀ (g':G) (w6:World),Below w.heap.size w w6→Bx w6 b1 #[.int .i64 3,.int .i64 n,.int .i64 z,.string ⟨#[]⟩] 52→g' 4 = .pointer (some ⟨b1,0,none⟩)→g' 5 = .int .i64 5→K g' w6)→True:=fun _ _ _ _ _ _ _ _ _ _ _=>trivial
 have ret:∀ (g:G) (w5:World) (K z:Int) (t:ByteArray) (er:Nat),Below w.heap.size w w5→Bx w5 b1 #[.int .i64 K,.int .i64 n,.int .i64 z,.string t] 52→g 4 = .pointer (some ⟨b1,0,none⟩)→g 5 = .int .i64 er→er=sgnE s n →
   (er=0→K=3∧z=sgnZ s n∧t=s.extract n (sgnZ s n)) →
   fnQ Tryz.prog [.cell 4 52,.tmp 5] (TokP s w 3 n (sgnZ s n) (sgnE s n)) .ret g w5:=by
  intro g w5 K z t er hX hA g4 g5 he h0
  have ha:=hA.cell
  refine ⟨by simp [zaO,go_sem,za1,ha,g4],[.int .i64 K,.int .i64 n,.int .i64 z,.string t],?_,rfl,?_,?_,hX⟩
  ·simp [go_sem,zat,zas,za4,ha,g4,g5,he]
  ·intro v hv;simp at hv;rcases hv with rfl|rfl|rfl|rfl<;>rfl
  ·intro h;obtain ⟨rfl,rfl,rfl⟩:=h0 (he.trans h);rfl
 clear bad
 have tail:∀ (g:G) (w5:World),Below w.heap.size w w5→Bx w5 b1 #[.int .i64 0,.int .i64 0,.int .i64 0,.string ⟨#[]⟩] 52→g 0 = .string s→g 1 = .int .i64 n→g 4 = .pointer (some ⟨b1,0,none⟩)→g 6 = .pointer (some ⟨b2,0,none⟩) →
   Bx w5 b2 #[.int .i64 3,.int .i64 n,.int .i64 (sgnZ s n),.string ⟨#[]⟩] 52→sgnE s n=0→n≤sgnZ s n→sgnZ s n≤s.size→K1 g w5:=by
  intro g w5 hX hA g0 g1 g4 g6 hB he hz1 hz2
  refine hK1 _ _ ?_
  have hz1':(n:Int)≤sgnZ s n:=by omega
  have hz2':(sgnZ s n:Int)≤s.size:=by omega
  have hb:=hB.cell
  first|refine zzr fun K hK=>?_|refine zzt fun K hK=>?_
  simp [go_sem,g0,g1,g4,g6,hb,hz1',hz2']
  refine za6 (b:=b2) (off:=3) [.string (s.extract n (sgnZ s n))] (by simp [go_sem,g0,g1,g4,g6,hb]) rfl (by simp [go_sem,g0,g1,g4,g6,hb]) (by simp [go_sem,Value.cells,g0,g1,g4,g6,hb]) ty_size9 hB (by simp) (by simp [Value.oneCell']) (by decide) (fun w6 hS6 hB6=>?_)
  simp [zaD] at hB6
  replace hA:=hA.sto hS6 hne
  replace hX:=hX.nextS hS6 hb2
  have hb:=hB6.cell
  simp [go_sem]
  refine hK _ _ ?_;clear hK K
  first|refine zzr fun K hK=>?_|refine zzt fun K hK=>?_
  simp [go_sem,g6,hb,za4,za1]
  refine za6 (b:=b1) (off:=0) [.int .i64 3,.int .i64 n,.int .i64 (sgnZ s n),.string (s.extract n (sgnZ s n))] (by simp [go_sem,g4]) rfl (by simp [go_sem,g4]) (by simp [go_sem,Value.cells,g4]) zaT hA (by simp) (by simp [Value.oneCell']) (by decide) (fun w7 hS7 hB7=>?_)
  simp [zaD] at hB7
  simp [go_sem]
  refine hK _ _ ?_;clear hK K
  refine zaf ?_
  repeat (first|refine za3 ?_|refine za2 ?_)
  refine ret _ _ 3 (sgnZ s n) (s.extract n (sgnZ s n)) 0 (hX.nextS hS7 hb1) hB7 (by simp [go_sem,g4]) (by simp [go_sem]) he.symm (fun _=>⟨rfl,rfl,rfl⟩)
 refine zae ?_
 refine zac (fun K2 hK2=>?_)
 have join:∀ (g':G) (w5:World),w5=w3→g' 0 = .string s→g' 1 = .int .i64 n→g' 4 = .pointer (some ⟨b1,0,none⟩)→g' 6 = .pointer (some ⟨b2,0,none⟩)→g' 13 = .int .u8 (za9 s n).toNat→g' 15 = .bool (sgnB (za9 s n).toNat)→K2 g' w5:=by
  rintro g' w5 rfl g0 g1 g4 g6 g13 g15
  refine hK2 _ _ ?_;clear hK2 K2
  refine zai g15 rfl ?_
  cases hsg:sgnB (za9 s n).toNat with
  | true =>
   have n58:=sgn_58 _ hsg
   have ez:sgnZ s n=n+1:=by unfold sgnZ;rw [if_neg n58]
   have ee:sgnE s n=0:=by unfold sgnE;rw [if_pos hsg]
   refine zaa ?_
   refine tail _ _ hX hA g0 g1 g4 g6 ?_ ee (by omega) (by omega)
   rw [ez];exact hB3
  | false =>
   first|refine zzr fun K hK=>?_|refine zzt fun K hK=>?_
   simp [go_sem,g13]
   refine hK _ _ ?_;clear hK K
   by_cases n58:((za9 s n).toNat:Int)=58
   ·have m58:(za9 s n).toNat=58:=by omega
    have ez:sgnZ s n=n+2:=by unfold sgnZ;rw [if_pos m58]
    have hw2:IntKind.i64.wrap (↑n+2)=(n:Int)+2:=IntWalk.i64_in _ (by omega)
    refine zai (by simp [go_sem,n58,m58];rfl) rfl ?_
    first|refine zzr fun K hK=>?_|refine zzt fun K hK=>?_
    simp [go_sem,g1,g6]
    rw [hw2]
    refine za6 (b:=b2) (off:=2) [.int .i64 (↑n+2)] (by simp [go_sem,g1,g6,hw2]) rfl (by simp [go_sem,g1,g6,hw2]) (by simp [go_sem,Value.cells,g1,g6,hw2]) zb2 hB3 (by simp) (by simp [Value.oneCell']) (by decide) (fun w5 hS5 hB5=>?_)
    simp [zaD] at hB5
    replace hA:=hA.sto hS5 hne
    replace hX:=hX.nextS hS5 hb2
    have hb:=hB5.cell
    simp [go_sem]
    refine hK _ _ ?_;clear hK K
    have sz:(s.size:Int) < ↑n+2↔¬n+1<s.size:=by omega
    refine zei (fun g w6'=>w6'=w5∧g 0 = .string s∧g 1 = .int .i64 n∧g 4 = .pointer (some ⟨b1,0,none⟩)∧g 6 = .pointer (some ⟨b2,0,none⟩)∧g 38 = .bool (!decide (n+1<s.size∧(za9 s (n+1)).toNat=61))) (by kernel_rfl) ?_ ?_
    ·by_cases h1:n+1<s.size
     ·have h1':¬(s.size:Int) < ↑n+2:=by omega
      have h2':(n:Int)+1<s.size:=by omega
      have h3':(0:Int)≤↑n+1:=by omega
      by_cases n61:((za9 s (n+1)).toNat:Int)=61
      ·have m61:(za9 s (n+1)).toNat=61:=by omega
       simp [go_sem,g0,g1,g4,g6,hb,h1,h1',h2',h3',hw1,hw2,n61,m61,nat_succ]
      ·have m61:¬(za9 s (n+1)).toNat=61:=by omega
       simp [go_sem,g0,g1,g4,g6,hb,h1,h1',h2',h3',hw1,hw2,n61,m61,nat_succ]
     ·have h1':(s.size:Int) < ↑n+2:=by omega
      simp [go_sem,g0,g1,g4,g6,hb,h1,h1',hw2]
    ·clear g0 g1 g4 g6 g13 g15
     rintro g' w6' ⟨rfl,g0,g1,g4,g6,g38⟩
     refine zai g38 rfl ?_
     by_cases hc:n+1<s.size∧(za9 s (n+1)).toNat=61
     ·have ee:sgnE s n=0:=by simp only [sgnE,hsg,Bool.false_eq_true,if_false];rw [if_pos m58,if_pos hc]
      simp only [decide_eq_true hc,Bool.not_true]
      refine zaa ?_
      refine tail _ _ hX hA g0 g1 g4 g6 ?_ ee (by omega) (by omega)
      rw [ez];exact hB5
     ·have ee:sgnE s n=5:=by simp only [sgnE,hsg,Bool.false_eq_true,if_false];rw [if_pos m58,if_neg hc]
      simp only [decide_eq_false hc,Bool.not_false]
      first|refine zzr fun K hK=>?_|refine zzt fun K hK=>?_
      simp [go_sem,g6,hb,za4,za1]
      refine za6 (b:=b1) (off:=0) [.int .i64 3,.int .i64 n,.int .i64 (↑n+2),.string ⟨#[]⟩] (by simp [go_sem,g4]) rfl (by simp [go_sem,g4]) (by simp [go_sem,Value.cells,g4]) zaT hA (by simp) (by simp [Value.oneCell']) (by decide) (fun w7 hS7 hB7=>?_)
      simp [zaD] at hB7
      simp [go_sem]
      refine hK _ _ ?_;clear hK K
      refine zaf ?_
      repeat (first|refine za3 ?_|refine za2 ?_)
      exact ret _ _ 3 (↑n+2) ⟨#[]⟩ 5 (hX.nextS hS7 hb1) hB7 (by simp [go_sem,g4]) (by simp [go_sem]) ee.symm (by intro h;cases h)
   ·have m58:¬(za9 s n).toNat=58:=by omega
    have ee:sgnE s n=5:=by simp only [sgnE,hsg,Bool.false_eq_true,if_false];rw [if_neg m58]
    have hb:=hB3.cell
    refine zai (by simp [go_sem,n58,m58];rfl) rfl ?_
    first|refine zzr fun K hK=>?_|refine zzt fun K hK=>?_
    simp [go_sem,g6,hb,za4,za1]
    refine za6 (b:=b1) (off:=0) [.int .i64 3,.int .i64 n,.int .i64 (↑n+1),.string ⟨#[]⟩] (by simp [go_sem,g4]) rfl (by simp [go_sem,g4]) (by simp [go_sem,Value.cells,g4]) zaT hA (by simp) (by simp [Value.oneCell']) (by decide) (fun w7 hS7 hB7=>?_)
    simp [zaD] at hB7
    simp [go_sem]
    refine hK _ _ ?_;clear hK K
    refine zaf ?_
    repeat (first|refine za3 ?_|refine za2 ?_)
    exact ret _ _ 3 (↑n+1) ⟨#[]⟩ 5 (hX.nextS hS7 hb1) hB7 (by simp [go_sem,g4]) (by simp [go_sem]) ee.symm (by intro h;cases h)
 clear hK2
 first|refine zzr fun K hK=>?_|refine zzt fun K hK=>?_
 simp [go_sem]
 refine hK _ _ ?_;clear hK K
 by_cases n40:((za9 s n).toNat:Int)=40
 ·have m40:(za9 s n).toNat=40:=by omega
  refine zai (by simp [go_sem,n40,m40];rfl) rfl ?_
  refine zaa ?_
  refine join _ _ rfl (by simp [go_sem]) (by simp [go_sem]) (by simp [go_sem]) (by simp [go_sem]) (by simp [go_sem]) ?_
  simp [go_sem,sgnB,n40,m40]
 ·have m40:¬(za9 s n).toNat=40:=by omega
  refine zai (by simp [go_sem,n40,m40];rfl) rfl ?_
  first|refine zzr fun K hK=>?_|refine zzt fun K hK=>?_
  simp [go_sem,n40,m40]
  refine hK _ _ ?_;clear hK K
  by_cases n41:((za9 s n).toNat:Int)=41
  ·have m41:(za9 s n).toNat=41:=by omega
   refine zai (by simp [go_sem,n41,m41];rfl) rfl ?_
   refine zaa ?_
   refine join _ _ rfl (by simp [go_sem]) (by simp [go_sem]) (by simp [go_sem]) (by simp [go_sem]) (by simp [go_sem]) ?_
   simp [go_sem,sgnB,n41,m41]
  ·have m41:¬(za9 s n).toNat=41:=by omega
   refine zai (by simp [go_sem,n41,m41];rfl) rfl ?_
   first|refine zzr fun K hK=>?_|refine zzt fun K hK=>?_
   simp [go_sem,n40,m40,n41,m41]
   refine hK _ _ ?_;clear hK K
   by_cases n44:((za9 s n).toNat:Int)=44
   ·have m44:(za9 s n).toNat=44:=by omega
    refine zai (by simp [go_sem,n44,m44];rfl) rfl ?_
    refine zaa ?_
    refine join _ _ rfl (by simp [go_sem]) (by simp [go_sem]) (by simp [go_sem]) (by simp [go_sem]) (by simp [go_sem]) ?_
    simp [go_sem,sgnB,n44,m44]
   ·have m44:¬(za9 s n).toNat=44:=by omega
    refine zai (by simp [go_sem,n44,m44];rfl) rfl ?_
    first|refine zzr fun K hK=>?_|refine zzt fun K hK=>?_
    simp [go_sem,n40,m40,n41,m41,n44,m44]
    refine hK _ _ ?_;clear hK K
    by_cases n59:((za9 s n).toNat:Int)=59
    ·have m59:(za9 s n).toNat=59:=by omega
     refine zai (by simp [go_sem,n59,m59];rfl) rfl ?_
     refine zaa ?_
     refine join _ _ rfl (by simp [go_sem]) (by simp [go_sem]) (by simp [go_sem]) (by simp [go_sem]) (by simp [go_sem]) ?_
     simp [go_sem,sgnB,n59,m59]
    ·have m59:¬(za9 s n).toNat=59:=by omega
     refine zai (by simp [go_sem,n59,m59];rfl) rfl ?_
     first|refine zzr fun K hK=>?_|refine zzt fun K hK=>?_
     simp [go_sem,n40,m40,n41,m41,n44,m44,n59,m59]
     refine hK _ _ ?_;clear hK K
     by_cases n47:((za9 s n).toNat:Int)=47
     ·have m47:(za9 s n).toNat=47:=by omega
      refine zai (by simp [go_sem,n47,m47];rfl) rfl ?_
      refine zaa ?_
      refine join _ _ rfl (by simp [go_sem]) (by simp [go_sem]) (by simp [go_sem]) (by simp [go_sem]) (by simp [go_sem]) ?_
      simp [go_sem,sgnB,n47,m47]
     ·have m47:¬(za9 s n).toNat=47:=by omega
      refine zai (by simp [go_sem,n47,m47];rfl) rfl ?_
      refine zzt fun K hK=>?_
      simp [go_sem,n40,m40,n41,m41,n44,m44,n59,m59,n47,m47]
      refine hK _ _ ?_;clear hK K
      refine join _ _ rfl (by simp [go_sem]) (by simp [go_sem]) (by simp [go_sem]) (by simp [go_sem]) (by simp [go_sem]) ?_
      simp [go_sem,sgnB,n40,m40,n41,m41,n44,m44,n59,m59,n47,m47]
end Go.Proofs.YtefhenfofomjhaaGreat
