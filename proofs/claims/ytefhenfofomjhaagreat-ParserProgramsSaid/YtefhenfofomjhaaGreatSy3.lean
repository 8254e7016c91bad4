/- The reference's parser: statements. -/
import Derived.Test.YtefhenfofomjhaaGreatRx2
import Derived.Test.YtefhenfofomjhaaGreatPa1
set_option linter.unusedSimpArgs false
set_option linter.unusedVariables false
set_option maxHeartbeats 4000000
set_option maxRecDepth 20000
namespace Go.Proofs.YtefhenfofomjhaaGreat
open Go Go.RowKit Go.V
theorem rarg1_any {cap f:Nat} {lb lo:Nat} {T:List Tok} (hW:Wf T) (d:Int) (hd:d=21-(f:Int)) (hf:f≤20)
  (hcon:∀ (f':Nat),f=f'+1→∀ (w:World) (i:Nat) (sort:Int),0≤sort∧sort≤4→i<T.length→SL w (some ⟨lb,lo,none⟩) (zc2 T)→Calls Tryz.prog 40 #[.slice (some ⟨lb,lo,none⟩) T.length cap,.int .i64 i,.int .i64 sort,.int .i64 d] w (RArgPost w (conS T (argS T f') sort i)))
  {w:World} {i:Nat} {sort:Int} (hsr:0≤sort∧sort≤4) (hi:i<T.length) (hsl:SL w (some ⟨lb,lo,none⟩) (zc2 T)) :
  Calls Tryz.prog 19 #[.slice (some ⟨lb,lo,none⟩) T.length cap,.int .i64 i,.int .i64 sort,.int .i64 d] w (RArgPost w (argS T f sort i)):=by
 have hT:T.length≤20001:=hW.size
 have hi':(i:Int)<T.length:=by omega
 have hlb:lb<w.heap.size:=la_lt hsl (by omega) _ rfl
 obtain ⟨C,hC⟩:∃ C,C=argS T f sort i:=⟨_,rfl⟩
 rw [←hC]
 unfold argS at hC
 obtain ⟨kn,hkn⟩:∃ kn,kn=kofS T i sort:=⟨_,rfl⟩
 rw [←hkn] at hC
 have hkv:(if (zai T i).k≠1 then 0 else if sort=0 then max (wsS (zai T i).t 2) (wsS (zai T i).t 3) else wsS (zai T i).t sort)=kn:=by rw [hkn];rfl
 obtain ⟨nm,hnmv⟩:∃ nm,nm=nmS T i:=⟨_,rfl⟩
 rw [←hnmv] at hC
 have hnv:(decide ((zai T i).k=1) && !isKw (zai T i).t)=nm:=by rw [hnmv];rfl
 have hcn:∀ w:World,Calls Tryz.prog 39 #[.agg (zcV (zai T i)).toArray] w fun e w'=>e = .returned (.bool nm)∧Below w.heap.size w w':=fun w=>by
  have:=risName_any (zai T i) w
  rw [hnv] at this;exact this
 have hkc:∀ w:World,Calls Tryz.prog 18 #[.agg (zcV (zai T i)).toArray,.int .i64 sort] w fun e w'=>e = .returned (.int .i64 kn)∧Below w.heap.size w w':=fun w=>by
  have:=rkindOf_any (zai T i) sort w
  rw [hkv] at this;exact this
 have hwd:IntKind.i64.wrap ((i:Int)+1)=(i+1:Nat):=zzw (by omega)
 refine za5 (rs:=[.cell 8 30,.tmp 9,.tmp 10]) (n:=58) Tryz.func19 rfl rfl rfl (by kernel_rfl) ?_
 have hA0:=Below.refl w.heap.size w
 refine zzr fun K hK=>?_
 simp [go_sem,za0,za4,za1]
 refine zza rfl zbY (fun w1 b1 hE1 hle1 hB1=>?_)
 have hb1_0:=Nat.le_trans hA0.size hle1
 replace hA0:=hA0.next hE1
 simp [go_sem,za0,za4,za1,hB1.cell]
 apply hK;clear hK K
 refine zab (fun K1 hK1=>?_)
 have tail:∀ (g:G) (w9:World),¬(nm=false∧kn=0)→g 0 = .slice (some ⟨lb,lo,none⟩) T.length cap→g 1 = .int .i64 i→g 2 = .int .i64 sort→g 3 = .int .i64 d→g 8 = .pointer (some ⟨b1,0,none⟩)→Below w.heap.size w w9→Bx w9 b1 #[.int .i64 0,.string ⟨#[]⟩,.bool false,.slice none 0 0,.slice none 0 0,.slice none 0 0,.int .i64 0] 30→K1 g w9:=by
  clear hA0 hB1
  intro g w9 hne g0 g1 g2 g3 g8 hA0 hB1
  rw [if_neg hne] at hC
  apply hK1
  refine zab (fun K2 hK2=>?_)
  refine zzr fun K hK=>?_
  simp [go_sem,za0,za4,za1,hB1.cell,g0,g1,g2,g3,g8]
  apply hK;clear hK K
  cases f with
  | zero =>
   have c1:(20:Int)<d:=by omega
   have hC1:C = .er i 4:=hC
   refine zaf (t:=true) (by simp [go_sem,g0,g1,g2,g3,g8,c1]) rfl ?_
   refine zzr fun K hK=>?_
   simp [go_sem,za0,za4,za1,hB1.cell,g0,g1,g2,g3,g8]
   refine zal #[.int .i64 0,.string ⟨#[]⟩,.bool false,.slice none 0 0,.slice none 0 0,.slice none 0 0,.int .i64 0] (by simp [go_sem]) rfl zbI [] (by simp [go_sem]) rfl ?_
   simp [go_sem,za0]
   refine zzs (b:=b1) (off:=0) [.int .i64 0,.string ⟨#[]⟩,.bool false,.slice none 0 0,.slice none 0 0,.slice none 0 0,.int .i64 0] rfl zaC hB1 (fun w2 hS2 hB2=>?_) (by simp [go_sem,Value.cells,g0,g1,g2,g3,g8])
   simp [zaw] at hB2
   replace hA0:=hA0.nextS hS2 (by first|exact hb1_0|omega)
   simp [go_sem,za0,za4,za1,g0,g1,g2,g3,g8,hB2.cell]
   apply hK;clear hK K
   refine zad ?_
   repeat first|refine za3 ?_|refine za2 ?_
   rw [hC1]
   refine ⟨by simp [go_sem,zaD,zam,za4,za1,za0,hB2.cell,g8],?_⟩
   refine ⟨_,?_,EX.ex0 _ _ _ rfl,hA0⟩
   simp [go_sem,zar,zam,za4,za1,za0,hB2.cell,resX,zbB,zcu,g8]
  | succ f =>
   have c1:¬(20:Int)<d:=by omega
   simp only at hC
   refine zaf (t:=false) (by simp [go_sem,g0,g1,g2,g3,g8, c1]) rfl ?_
   refine za7 ?_
   apply hK2
   refine zab (fun K3 hK3=>?_)
   obtain ⟨r1,r2,_⟩:=zdt (hsl.ext hA0) hi
   simp only [Option.getD_some,za0] at r1 r2
   refine zzr fun K hK=>?_
   simp [go_sem,za0,hB1.cell,g0,g1,g2,g3,g8, hi,hi',r1,r2]
   refine zzc rfl Tryz.call39 (fun R hR=>?_)
   simp [go_sem,za0,hB1.cell,g0,g1,g2,g3,g8,hi,hi']
   refine (hcn _).mono ?_
   rintro e w3 ⟨rfl,hE3⟩
   refine ⟨_,rfl,hR _ _ ?_⟩
   clear hR R
   replace hA0:=hA0.next hE3
   replace hB1:=hB1.keep hE3
   cases nm with
   | true =>
    simp [go_sem,za0,hB1.cell,g0,g1,g2,g3,g8]
    apply hK;clear hK K
    rw [if_pos rfl] at hC
    have hC1:=hC
    refine zaf (t:=true) (by simp [go_sem,g0,g1,g2,g3,g8]) rfl ?_
    have hwb1:w.heap.size≤b1:=hle1
    obtain ⟨c0,cp,ct⟩:=zbg ((hsl.ext hA0).ext (Below.drew1 _)) hi
    have hD4:=Below.drew1 w3
    replace hA0:=hA0.next hD4
    replace hB1:=hB1.keep hD4
    refine W_rdS ([⟨lb,lo+i*4+3,none⟩,⟨lb,lo+i*4+1,none⟩]) [(0,0),(1,0),(2,0),(3,0),(4,0),(5,0),(6,0),(7,0),(8,0),(9,0),(11,0),(12,0),(10,1),(13,1),(14,0),(15,0)] (by kernel_rfl) (by kernel_rfl) (fun K hK=>?_)
    simp [go_sem,za0,hB1.cell,g0,g1,g2,g3,g8,hi,hi',cp,ct,hwd]
    have hkp:Keep ([⟨lb,lo+i*4+3,none⟩,⟨lb,lo+i*4+1,none⟩]) w3.drew w3.drew:=zdc _ _
    have hbL:∀ a∈[(⟨lb,lo+i*4+3,none⟩:Addr),⟨lb,lo+i*4+1,none⟩],a.block≠b1:=by
     intro a ha
     simp only [List.mem_cons,List.not_mem_nil,or_false] at ha
     rcases ha with rfl|rfl<;>(simp only;omega)
    refine zal #[.int .i64 1,.string ⟨(zai T i).t.toArray⟩,.bool false,.slice none 0 0,.slice none 0 0,.slice none 0 0,.int .i64 (zai T i).p] (by simp [go_sem]) rfl zbI [(0,.int .i64 1),(1,.string ⟨(zai T i).t.toArray⟩),(4,.int .i64 (zai T i).p)] (by simp [go_sem]) rfl ?_
    refine zbb hkp ?_
    simp [go_sem,za0,hB1.cell,g0,g1,g2,g3,g8,hi,hi',cp,ct,hwd]
    have hB1':=hB1
    refine zzs (b:=b1) (off:=0) [.int .i64 1,.string ⟨(zai T i).t.toArray⟩,.bool false,.slice none 0 0,.slice none 0 0,.slice none 0 0,.int .i64 (zai T i).p] rfl zaC hB1' (fun w60 hS60 hB60=>?_) (by simp [go_sem,Value.cells,g8])
    simp [zaw] at hB60
    have hkp2:Keep [⟨lb,lo+i*4+3,none⟩,⟨lb,lo+i*4+1,none⟩] _ w60:=Keep.sto hbL hS60
    refine zbb hkp2 ?_
    simp [go_sem,hkp2]
    apply hK;clear hK K
    refine zad ?_
    repeat first|refine za3 ?_|refine za2 ?_
    rw [hC1]
    refine ⟨by simp [go_sem,zaD,zam,za4,za1,za0,hB60.cell,g8],?_⟩
    refine ⟨_,?_,EX.leaf (name:=(zai T i).t) (pos:=((zai T i).p:Int)) (by have:=hW.len i;unfold maxLen;omega),hA0.nextS hS60 hwb1⟩
    simp [go_sem,zar,zam,za4,za1,za0,hB60.cell,g8,zbB,zcu]
   | false =>
    simp [go_sem,za0,hB1.cell,g0,g1,g2,g3,g8]
    apply hK;clear hK K
    rw [if_neg (by decide)] at hC
    refine zaf (t:=false) (by simp [go_sem,g0,g1,g2,g3,g8]) rfl ?_
    refine za7 ?_
    apply hK3
    have hG0:=hA0.size
    have h1l:=hB1.lt
    refine zzr fun K hK=>?_
    simp [go_sem,za0,hB1.cell,g0,g1,g2,g3,g8]
    refine zzc rfl Tryz.call40 (fun R hR=>?_)
    simp [go_sem,za0,hB1.cell,g0,g1,g2,g3,g8]
    refine (hcon f rfl _ i sort hsr hi (hsl.ext hA0)).mono ?_
    rintro e w30 ⟨Rx,rfl,hxe,hE30⟩
    refine ⟨_,rfl,hR _ _ ?_⟩
    clear hR R
    replace hA0:=hA0.next hE30
    replace hB1:=hB1.keep hE30
    obtain ⟨r,hr⟩:∃ r,r=conS T (argS T f) sort i:=⟨_,rfl⟩
    rw [←hr] at hxe hC ⊢
    obtain ⟨x,hx⟩:∃ x,x=resX r:=⟨_,rfl⟩
    rw [←hx] at hxe
    obtain ⟨xa,xc,xb,xd,xad,xcap,xrows,hRx,_⟩:=hxe.open
    subst hRx
    have hA3:=hA0
    replace hxe:=hxe.mono (F':=fun k=>w.heap.size≤k∧k≠b1) (fun k hk=>⟨Nat.le_trans hG0 hk,fun e=>by subst e;exact absurd hk (Nat.not_le.2 h1l)⟩)
    simp [go_sem,za0,hB1.cell,g0,g1,g2,g3,g8]
    refine zzs (b:=b1) (off:=0) [.int .i64 x.kind,.string ⟨x.name.toArray⟩,.bool x.neg,.slice xa x.num.length xc,.slice xb x.den.length xd,.slice xad x.args.length xcap,.int .i64 x.pos] rfl zaC hB1 (fun w31 hS31 hB31=>?_) (by simp [go_sem,Value.cells,g0,g1,g2,g3,g8])
    simp [zaw] at hB31
    replace hA0:=hA0.nextS hS31 (by first|exact hb1_0|omega)
    replace hxe:=hxe.ch (Ch.of_sto hS31 (NL.of_bx hB1 (by intro u hu x e;subst e;simp at hu))) (by intro k hk e;subst e;first|exact hk.2 rfl|omega)
    simp [go_sem,za0,g0,g1,g2,g3,g8,za4,za1,hB31.cell]
    apply hK;clear hK K
    refine zad ?_
    repeat first|refine za3 ?_|refine za2 ?_
    rw [hC]
    refine ⟨by simp [go_sem,zaD,zam,za4,za1,za0,hB31.cell,g8],?_⟩
    refine ⟨_,?_,by rw [←hx];exact hxe.mono (fun k hk=>hk.1),hA0⟩
    simp [go_sem,zar,zam,za4,za1,za0,hB31.cell,g8,zbB,zcu]
 obtain ⟨r1,r2,_⟩:=zdt (hsl.ext hA0) hi
 simp only [Option.getD_some,za0] at r1 r2
 refine zzr fun K hK=>?_
 simp [go_sem,za0,hB1.cell, hi,hi',r1,r2]
 refine zzc rfl Tryz.call39 (fun R hR=>?_)
 simp [go_sem,za0,hB1.cell,hi,hi']
 refine (hcn _).mono ?_
 rintro e w32 ⟨rfl,hE32⟩
 refine ⟨_,rfl,hR _ _ ?_⟩
 clear hR R
 replace hA0:=hA0.next hE32
 replace hB1:=hB1.keep hE32
 cases nm with
 | true =>
  simp [go_sem,za0,hB1.cell]
  apply hK;clear hK K
  refine zaf (t:=false) (by simp [go_sem]) rfl ?_
  refine za7 ?_
  refine tail _ _ (by simp) (by simp [go_sem]) (by simp [go_sem]) (by simp [go_sem]) (by simp [go_sem]) (by simp [go_sem]) hA0 hB1
 | false =>
  obtain ⟨s1,s2,_⟩:=zdt (hsl.ext hA0) hi
  simp only [Option.getD_some,za0] at s1 s2
  simp [go_sem,za0,hB1.cell,hi,hi',s1,s2]
  refine zzc rfl Tryz.call18 (fun R hR=>?_)
  simp [go_sem,za0,hB1.cell,hi,hi',s1,s2]
  refine (hkc _).mono ?_
  rintro e w33 ⟨rfl,hE33⟩
  refine ⟨_,rfl,hR _ _ ?_⟩
  clear hR R
  replace hA0:=hA0.next hE33
  replace hB1:=hB1.keep hE33
  by_cases hkz:kn=0
  ·rw [if_pos ⟨rfl,hkz⟩] at hC
   have hC1:C = .er i 5:=hC
   simp [go_sem,za0,hB1.cell,hkz]
   apply hK;clear hK K
   refine zaf (t:=true) (by simp [go_sem,hkz]) rfl ?_
   refine zzr fun K hK=>?_
   simp [go_sem,za0,hB1.cell,za4,za1]
   refine zal #[.int .i64 0,.string ⟨#[]⟩,.bool false,.slice none 0 0,.slice none 0 0,.slice none 0 0,.int .i64 0] (by simp [go_sem]) rfl zbI [] (by simp [go_sem]) rfl ?_
   simp [go_sem,za0]
   refine zzs (b:=b1) (off:=0) [.int .i64 0,.string ⟨#[]⟩,.bool false,.slice none 0 0,.slice none 0 0,.slice none 0 0,.int .i64 0] rfl zaC hB1 (fun w34 hS34 hB34=>?_) (by simp [go_sem,Value.cells])
   simp [zaw] at hB34
   replace hA0:=hA0.nextS hS34 (by first|exact hb1_0|omega)
   simp [go_sem,za0,za4,za1,hB34.cell]
   apply hK;clear hK K
   refine zad ?_
   repeat first|refine za3 ?_|refine za2 ?_
   rw [hC1]
   refine ⟨by simp [go_sem,zaD,zam,za4,za1,za0,hB34.cell,za0],?_⟩
   refine ⟨_,?_,EX.ex0 _ _ _ rfl,hA0⟩
   simp [go_sem,zar,zam,za4,za1,za0,hB34.cell,resX,zbB,zcu,za0]
  ·simp [go_sem,za0,hB1.cell,hkz]
   apply hK;clear hK K
   refine zaf (t:=false) (by simp [go_sem,hkz]) rfl ?_
   refine za7 ?_
   refine tail _ _ (fun h=>hkz h.2) (by simp [go_sem]) (by simp [go_sem]) (by simp [go_sem]) (by simp [go_sem]) (by simp [go_sem]) hA0 hB1
theorem rarg_any {cap:Nat} {lb lo:Nat} {T:List Tok} (hW:Wf T):∀ (f:Nat),f≤20→∀ (w:World) (i:Nat) (sort:Int),0≤sort∧sort≤4→i<T.length→SL w (some ⟨lb,lo,none⟩) (zc2 T) →
  Calls Tryz.prog 19 #[.slice (some ⟨lb,lo,none⟩) T.length cap,.int .i64 i,.int .i64 sort,.int .i64 (21-(f:Int))] w (RArgPost w (argS T f sort i))
 | 0,hf,w,i,sort,hs,hi,h=>rarg1_any hW _ rfl hf (fun f' e=>by omega) hs hi h
 | f+1,hf,w,i,sort,hs,hi,h=>by
  refine rarg1_any hW _ rfl hf (fun f' e w i sort hs hi h=>?_) hs hi h
  have e':f=f':=by omega
  subst e'
  refine rcon_any hW _ (by omega) (fun w i sort hs hi h=>?_) hs hi h
  rw [show (21-((f+1:Nat):Int)+1)=21-(f:Int) by omega]
  exact rarg_any hW f (by omega) w i sort hs hi h
theorem rcon1_any {cap:Nat} {lb lo:Nat} {T:List Tok} (hW:Wf T) {w:World} {i:Nat} {sort:Int} (hs:0≤sort∧sort≤4) (hi:i<T.length) (h:SL w (some ⟨lb,lo,none⟩) (zc2 T)) :
  Calls Tryz.prog 40 #[.slice (some ⟨lb,lo,none⟩) T.length cap,.int .i64 i,.int .i64 sort,.int .i64 1] w (RArgPost w (conS T (argS T 19) sort i)) :=
 rcon_any hW 1 (by omega) (fun w i sort hs hi h=>rarg_any hW 19 (by omega) w i sort hs hi h) hs hi h
theorem rsort_any (k:Int) (w:World):Calls Tryz.prog 68 #[.int .i64 k] w fun e w'=>e = .returned (.int .i64 (srtS k))∧Below w.heap.size w w':=by
 obtain ⟨R,hR⟩:∃ R,R=srtS k:=⟨_,rfl⟩
 rw [←hR]
 unfold srtS at hR
 refine za5 (rs:=[.tmp 2]) (n:=12) Tryz.func68 rfl rfl rfl (by kernel_rfl) ?_
 have hA0:=Below.refl w.heap.size w
 refine zzr fun K hK=>?_
 simp [go_sem,za0,za4,za1]
 apply hK;clear hK K
 refine zab (fun K1 hK1=>?_)
 refine zzr fun K hK=>?_
 simp [go_sem,za0,za4,za1]
 apply hK;clear hK K
 refine zac ?_
 by_cases h2:k=2
 ·rw [if_pos h2] at hR
  refine zzr fun K hK=>?_
  simp [go_sem,za0,za4,za1, h2]
  apply hK;clear hK K
  refine zaf (t:=true) (by simp [go_sem,h2]) rfl ?_
  refine zzr fun K hK=>?_
  simp [go_sem,za0,za4,za1]
  apply hK;clear hK K
  refine zad ?_
  repeat first|refine za3 ?_|refine za2 ?_
  refine ⟨trivial,?_,hA0⟩
  simp [go_sem,zar,zam,hR]
 rw [if_neg h2] at hR
 refine zzr fun K hK=>?_
 simp [go_sem,za0,za4,za1, h2]
 apply hK;clear hK K
 refine zaf (t:=false) (by simp [go_sem,h2]) rfl ?_
 by_cases h3:k=3
 ·rw [if_pos h3] at hR
  refine zzr fun K hK=>?_
  simp [go_sem,za0,za4,za1, h3]
  apply hK;clear hK K
  refine zaf (t:=true) (by simp [go_sem,h3]) rfl ?_
  refine zzr fun K hK=>?_
  simp [go_sem,za0,za4,za1]
  apply hK;clear hK K
  refine zad ?_
  repeat first|refine za3 ?_|refine za2 ?_
  refine ⟨trivial,?_,hA0⟩
  simp [go_sem,zar,zam,hR]
 rw [if_neg h3] at hR
 refine zzr fun K hK=>?_
 simp [go_sem,za0,za4,za1, h3]
 apply hK;clear hK K
 refine zaf (t:=false) (by simp [go_sem,h3]) rfl ?_
 by_cases h4:k=4
 ·rw [if_pos h4] at hR
  refine zzr fun K hK=>?_
  simp [go_sem,za0,za4,za1, h4]
  apply hK;clear hK K
  refine zaf (t:=true) (by simp [go_sem,h4]) rfl ?_
  refine zzr fun K hK=>?_
  simp [go_sem,za0,za4,za1]
  apply hK;clear hK K
  refine zad ?_
  repeat first|refine za3 ?_|refine za2 ?_
  refine ⟨trivial,?_,hA0⟩
  simp [go_sem,zar,zam,hR]
 rw [if_neg h4] at hR
 refine zzr fun K hK=>?_
 simp [go_sem,za0,za4,za1, h4]
 apply hK;clear hK K
 refine zaf (t:=false) (by simp [go_sem,h4]) rfl ?_
 by_cases h5:k=5
 ·rw [if_pos h5] at hR
  refine zzr fun K hK=>?_
  simp [go_sem,za0,za4,za1, h5]
  apply hK;clear hK K
  refine zaf (t:=true) (by simp [go_sem,h5]) rfl ?_
  refine zzr fun K hK=>?_
  simp [go_sem,za0,za4,za1]
  apply hK;clear hK K
  refine zad ?_
  repeat first|refine za3 ?_|refine za2 ?_
  refine ⟨trivial,?_,hA0⟩
  simp [go_sem,zar,zam,hR]
 rw [if_neg h5] at hR
 refine zzr fun K hK=>?_
 simp [go_sem,za0,za4,za1, h5]
 apply hK;clear hK K
 refine zaf (t:=false) (by simp [go_sem, h5]) rfl ?_
 refine za7 ?_
 apply hK1
 refine zzr fun K hK=>?_
 simp [go_sem,za0,za4,za1]
 apply hK;clear hK K
 refine zad ?_
 repeat first|refine za3 ?_|refine za2 ?_
 refine ⟨trivial,?_,hA0⟩
 simp [go_sem,zar,zam,hR]
def DefPost (w:World) (r:Res Stm) (e:Ending) (w':World):Prop :=
 ∃ (R:List Value) (x:Stm),e = .returned (.tuple #[.agg R.toArray,.int .i64 (zbB r),.int .i64 (zcu r)])∧SX w' (fun k=>w.heap.size≤k) R x∧(∀ s j,r = .ok s j→x=s)∧Below w.heap.size w w'
theorem rdef_any {cap:Nat} {lb lo:Nat} {T:List Tok} (hW:Wf T) {w:World} {i:Nat} {kind:Int} (hk:kind=2∨kind=3∨kind=4∨kind=5) (hi:i<T.length) (hsl:SL w (some ⟨lb,lo,none⟩) (zc2 T)) :
  Calls Tryz.prog 46 #[.slice (some ⟨lb,lo,none⟩) T.length cap,.int .i64 i,.int .i64 kind] w (DefPost w (defS T kind i)):=by
 have hT:T.length≤20001:=hW.size
 have hi':(i:Int)<T.length:=by omega
 have hlb:lb<w.heap.size:=la_lt hsl (by omega) _ rfl
 obtain ⟨C,hC⟩:∃ C,C=defS T kind i:=⟨_,rfl⟩
 rw [←hC]
 unfold defS at hC
 obtain ⟨srt,hsrt⟩:∃ S,S=srtS kind:=⟨_,rfl⟩
 have hsr:0≤srt∧srt≤4:=by rw [hsrt];rcases hk with rfl|rfl|rfl|rfl<;>decide
 rw [←hsrt] at hC
 refine za5 (rs:=[.cell 6 64,.tmp 7,.tmp 8]) (n:=61) Tryz.func46 rfl rfl rfl (by kernel_rfl) ?_
 have hA0:=Below.refl w.heap.size w
 refine zzr fun K hK=>?_
 simp [go_sem,za0,za4,za1]
 refine zza rfl zbD (fun w1 b1 hE1 hle1 hB1=>?_)
 have hb1_0:=Nat.le_trans hA0.size hle1
 replace hA0:=hA0.next hE1
 simp [go_sem,za0,za4,za1,hB1.cell]
 apply hK;clear hK K
 refine zzr fun K hK=>?_
 simp [go_sem,za0,za4,za1,hB1.cell]
 refine zal #[.int .i64 kind,.slice none 0 0,.int .i64 0,.string ⟨#[]⟩,.bool false,.slice none 0 0,.slice none 0 0,.slice none 0 0,.int .i64 0,.int .i64 0] (by simp [go_sem]) rfl ty_stZ64 [(0,.int .i64 kind)] (by simp [go_sem]) rfl ?_
 simp [go_sem,za0]
 refine zza rfl zbD (fun w10 b10 hE10 hle10 hB10=>?_)
 have hb10_0:=Nat.le_trans hA0.size hle10
 have hd1_10:b1≠b10:=Nat.ne_of_lt (Nat.lt_of_lt_of_le hB1.lt hle10)
 replace hA0:=hA0.next hE10
 replace hB1:=hB1.keep hE10
 simp [go_sem,za0,za4,za1,hB1.cell,hB10.cell]
 refine zzs (b:=b10) (off:=0) [.int .i64 kind,.slice none 0 0,.int .i64 0,.string ⟨#[]⟩,.bool false,.slice none 0 0,.slice none 0 0,.slice none 0 0,.int .i64 0,.int .i64 0] rfl zaJ hB10 (fun w11 hS11 hB11=>?_) (by simp [go_sem,Value.cells])
 simp [zaw] at hB11
 replace hA0:=hA0.nextS hS11 (by first|exact hb10_0|omega)
 replace hB1:=hB1.sto hS11 (by first|exact hd1_10|exact (hd10_1).symm)
 simp [go_sem,za0,za4,za1,hB1.cell,hB11.cell]
 apply hK;clear hK K
 refine zab (fun K1 hK1=>?_)
 have tail:∀ (g:G) (w9:World) (j:Nat) (l:List (List UInt8)) (na:Option Addr) (nc:Nat),C=(match conS T (argS T 19) srt j with | .er j e=>.er j e | .ok x j=>.ok ⟨kind,l,x,0⟩ j)→j<T.length→g 0 = .slice (some ⟨lb,lo,none⟩) T.length cap→g 1 = .int .i64 j→g 2 = .int .i64 kind→g 6 = .pointer (some ⟨b1,0,none⟩)→g 9 = .pointer (some ⟨b10,0,none⟩)→Below w.heap.size w w9→Bx w9 b1 #[.int .i64 0,.slice none 0 0,.int .i64 0,.string ⟨#[]⟩,.bool false,.slice none 0 0,.slice none 0 0,.slice none 0 0,.int .i64 0,.int .i64 0] 64→Bx w9 b10 #[.int .i64 kind,.slice na l.length nc,.int .i64 0,.string ⟨#[]⟩,.bool false,.slice none 0 0,.slice none 0 0,.slice none 0 0,.int .i64 0,.int .i64 0] 64→NmS w9 (fun k=>w.heap.size≤k∧k≠b1∧k≠b10) na l→K1 g w9:=by
  clear hA0 hB1 hB11
  intro g w9 j l na nc hC hj g0 g1 g2 g6 g9 hA0 hB1 hB10 hnm
  apply hK1
  obtain ⟨N5,hN5⟩:∃ N,N=w9.heap.size:=⟨_,rfl⟩
  have hwN:w.heap.size≤N5:=by rw [hN5];exact hA0.size
  have h1N:=hB1.lt
  have h10N:=hB10.lt
  rw [←hN5] at h1N h10N
  replace hnm:=hnm.blt.mono (F':=fun k=>w.heap.size≤k∧k≠b1∧k≠b10∧k<N5) (fun k hk=>⟨hk.1.1,hk.1.2.1,hk.1.2.2,by rw [hN5];exact hk.2⟩)
  refine zzr fun K hK=>?_
  simp [go_sem,za0,za4,za1,hB1.cell,hB10.cell,g0,g1,g2,g6,g9]
  refine zzc rfl Tryz.call68 (fun R hR=>?_)
  simp [go_sem,za0,za4,za1,hB1.cell,hB10.cell,g0,g1,g2,g6,g9]
  refine (rsort_any kind _).mono ?_
  rintro e w30 ⟨rfl,hE30⟩
  refine ⟨_,rfl,hR _ _ ?_⟩
  clear hR R
  replace hA0:=hA0.next hE30
  replace hB1:=hB1.keep hE30
  replace hB10:=hB10.keep hE30
  replace hnm:=hnm.ext hE30
  simp [go_sem,za0,za4,za1,hB1.cell,hB10.cell,g0,g1,g2,g6,g9]
  rw [←hsrt]
  have hN30:N5≤w30.heap.size:=by rw [hN5];exact hE30.size
  refine zzc rfl Tryz.call40 (fun R hR=>?_)
  simp [go_sem,za0,za4,za1,hB1.cell,hB10.cell,g0,g1,g2,g6,g9]
  refine (rcon1_any hW hsr hj (hsl.ext hA0)).mono ?_
  rintro e w31 ⟨Rx,rfl,hxe,hE31⟩
  refine ⟨_,rfl,hR _ _ ?_⟩
  clear hR R
  replace hA0:=hA0.next hE31
  replace hB1:=hB1.keep hE31
  replace hB10:=hB10.keep hE31
  replace hnm:=hnm.ext hE31
  obtain ⟨r,hr⟩:∃ r,r=conS T (argS T 19) srt j:=⟨_,rfl⟩
  rw [←hr] at hxe hC ⊢
  obtain ⟨x,hx⟩:∃ x,x=resX r:=⟨_,rfl⟩
  rw [←hx] at hxe
  obtain ⟨xa,xc,xb,xd,xad,xcap,xrows,hRx,_⟩:=hxe.open
  subst hRx
  have hN31:N5≤w31.heap.size:=Nat.le_trans hN30 hE31.size
  replace hxe:=hxe.blt.mono (F':=fun k=>N5≤k∧k<w31.heap.size) (fun k hk=>⟨Nat.le_trans hN30 hk.1,hk.2⟩)
  simp [go_sem,za0,za4,za1,hB1.cell,hB10.cell,g0,g1,g2,g6,g9]
  refine zza rfl zbY (fun w40 b40 hE40 hle40 hB40=>?_)
  have hb40_0:=Nat.le_trans hA0.size hle40
  have hd1_40:b1≠b40:=Nat.ne_of_lt (Nat.lt_of_lt_of_le hB1.lt hle40)
  have hd10_40:b10≠b40:=Nat.ne_of_lt (Nat.lt_of_lt_of_le hB10.lt hle40)
  replace hA0:=hA0.next hE40
  replace hB1:=hB1.keep hE40
  replace hB10:=hB10.keep hE40
  replace hnm:=hnm.ext hE40
  replace hxe:=hxe.ext hE40
  simp [go_sem,za0,za4,za1,hB1.cell,hB10.cell,g0,g1,g2,g6,g9,hB40.cell]
  refine zzs (b:=b40) (off:=0) [.int .i64 x.kind,.string ⟨x.name.toArray⟩,.bool x.neg,.slice xa x.num.length xc,.slice xb x.den.length xd,.slice xad x.args.length xcap,.int .i64 x.pos] rfl zaC hB40 (fun w41 hS41 hB41=>?_) (by simp [go_sem,Value.cells,g0,g1,g2,g6,g9])
  simp [zaw] at hB41
  replace hA0:=hA0.nextS hS41 (by first|exact hb40_0|omega)
  replace hnm:=hnm.ch (Ch.of_sto hS41 (NL.of_bx hB40 (by intro u hu x e;subst e;simp at hu))) (by intro k hk e;subst e;first|exact hk.2 rfl|omega)
  replace hxe:=hxe.ch (Ch.of_sto hS41 (NL.of_bx hB40 (by intro u hu x e;subst e;simp at hu))) (by intro k hk e;subst e;first|exact hk.2 rfl|omega)
  replace hB1:=hB1.sto hS41 (by first|exact hd1_40|exact (hd40_1).symm)
  replace hB10:=hB10.sto hS41 (by first|exact hd10_40|exact (hd40_10).symm)
  simp [go_sem,za0,za4,za1,hB1.cell,hB10.cell,g0,g1,g2,g6,g9,hB41.cell]
  apply hK;clear hK K
  refine zzr fun K hK=>?_
  simp [go_sem,za0,za4,za1,hB1.cell,hB10.cell,g0,g1,g2,g6,g9,hB41.cell]
  refine zzs (b:=b10) (off:=2) [.int .i64 x.kind,.string ⟨x.name.toArray⟩,.bool x.neg,.slice xa x.num.length xc,.slice xb x.den.length xd,.slice xad x.args.length xcap,.int .i64 x.pos] rfl zaC hB10 (fun w42 hS42 hB42=>?_) (by simp [go_sem,Value.cells,g0,g1,g2,g6,g9])
  simp [zaw] at hB42
  replace hA0:=hA0.nextS hS42 (by first|exact hb10_0|omega)
  replace hnm:=hnm.ch (Ch.of_sto hS42 (NL.of_bx hB10 (by intro u hu x e;subst e;simp at hu))) (by intro k hk e;subst e;first|exact hk.2 rfl|omega)
  replace hxe:=hxe.ch (Ch.of_sto hS42 (NL.of_bx hB10 (by intro u hu x e;subst e;simp at hu))) (by intro k hk e;subst e;first|exact hk.2 rfl|omega)
  replace hB1:=hB1.sto hS42 (by first|exact hd1_10|exact (hd10_1).symm)
  replace hB41:=hB41.sto hS42 (by first|exact hd40_10|exact (hd10_40).symm)
  simp [go_sem,za0,za4,za1,hB1.cell,g0,g1,g2,g6,g9,hB41.cell,hB42.cell]
  apply hK;clear hK K
  refine zzr fun K hK=>?_
  simp [go_sem,za0,za4,za1,hB1.cell,g0,g1,g2,g6,g9,hB41.cell,hB42.cell]
  refine zzs (b:=b1) (off:=0) [.int .i64 kind,.slice na l.length nc,.int .i64 x.kind,.string ⟨x.name.toArray⟩,.bool x.neg,.slice xa x.num.length xc,.slice xb x.den.length xd,.slice xad x.args.length xcap,.int .i64 x.pos,.int .i64 0] rfl zaJ hB1 (fun w43 hS43 hB43=>?_) (by simp [go_sem,Value.cells,g0,g1,g2,g6,g9])
  simp [zaw] at hB43
  replace hA0:=hA0.nextS hS43 (by first|exact hb1_0|omega)
  replace hnm:=hnm.ch (Ch.of_sto hS43 (NL.of_bx hB1 (by intro u hu x e;subst e;simp at hu))) (by intro k hk e;subst e;first|exact hk.2 rfl|omega)
  replace hxe:=hxe.ch (Ch.of_sto hS43 (NL.of_bx hB1 (by intro u hu x e;subst e;simp at hu))) (by intro k hk e;subst e;first|exact hk.2 rfl|omega)
  replace hB42:=hB42.sto hS43 (by first|exact hd10_1|exact (hd1_10).symm)
  replace hB41:=hB41.sto hS43 (by first|exact hd40_1|exact (hd1_40).symm)
  simp [go_sem,za0,za4,za1,g0,g1,g2,g6,g9,hB41.cell,hB42.cell,hB43.cell]
  apply hK;clear hK K
  refine zad ?_
  repeat first|refine za3 ?_|refine za2 ?_
  refine ⟨by simp [go_sem,zaD,zam,za4,za1,za0,hB43.cell,g6],?_⟩
  have hIE:zbB C=zbB r∧zcu C=zcu r:=by rw [hC];cases r<;>exact ⟨rfl,rfl⟩
  refine ⟨_,⟨kind,l,x,0⟩,?_,SX.mk' (c:=nc) (hnm.mono (fun k hk=>hk.1)) (hxe.mono (fun k hk=>Nat.le_trans hwN hk.1)),fun s j2 e=>?_,hA0⟩
  ·rw [hIE.1,hIE.2];simp [go_sem,zar,zam,za4,za1,za0,hB43.cell,g6]
  ·rw [hC] at e
   cases r with
   | er j3 e3=>cases e
   | ok x3 j3=>injection e with e _;rw [←e,hx];rfl
 by_cases hk5:kind=5
 ·rw [if_neg (fun h=>h hk5)] at hC
  refine zzr fun K hK=>?_
  simp [go_sem,za0,za4,za1,hB1.cell,hB11.cell, hk5]
  apply hK;clear hK K
  refine zaf (t:=false) (by simp [go_sem,hk5]) rfl ?_
  refine za7 ?_
  refine tail _ _ i [] none 0 hC hi (by simp [go_sem]) (by simp [go_sem]) (by simp [go_sem,hk5]) (by simp [go_sem]) (by simp [go_sem]) hA0 hB1 hB11 (NmS.nil _ _ _)
 ·rw [if_pos hk5] at hC
  refine zzr fun K hK=>?_
  simp [go_sem,za0,za4,za1,hB1.cell,hB11.cell, hk5]
  apply hK;clear hK K
  refine zaf (t:=true) (by simp [go_sem,hk5]) rfl ?_
  obtain ⟨nm,hnmv⟩:∃ nm,nm=nmS T i:=⟨_,rfl⟩
  rw [←hnmv] at hC
  have hnv:(decide ((zai T i).k=1) && !isKw (zai T i).t)=nm:=by rw [hnmv];rfl
  have hcn:∀ w:World,Calls Tryz.prog 39 #[.agg (zcV (zai T i)).toArray] w fun e w'=>e = .returned (.bool nm)∧Below w.heap.size w w':=fun w=>by
   have:=risName_any (zai T i) w
   rw [hnv] at this;exact this
  obtain ⟨r1,r2,_⟩:=zdt (hsl.ext hA0) hi
  simp only [Option.getD_some,za0] at r1 r2
  refine zab (fun K2 hK2=>?_)
  refine zzr fun K hK=>?_
  simp [go_sem,za0,hB1.cell,hB11.cell, hi,hi',r1,r2]
  refine zzc rfl Tryz.call39 (fun R hR=>?_)
  simp [go_sem,za0,hB1.cell,hB11.cell,hi,hi']
  refine (hcn _).mono ?_
  rintro e w50 ⟨rfl,hE50⟩
  refine ⟨_,rfl,hR _ _ ?_⟩
  clear hR R
  replace hA0:=hA0.next hE50
  replace hB1:=hB1.keep hE50
  replace hB11:=hB11.keep hE50
  cases nm with
  | false =>
   rw [if_pos rfl] at hC
   simp [go_sem,za0,hB1.cell,hB11.cell,za4,za1]
   apply hK;clear hK K
   refine zaf (t:=true) (by simp [go_sem]) rfl ?_
   refine zzr fun K hK=>?_
   simp [go_sem,za0,hB1.cell,hB11.cell,za4,za1]
   refine zzs (b:=b1) (off:=0) [.int .i64 kind,.slice none 0 0,.int .i64 0,.string ⟨#[]⟩,.bool false,.slice none 0 0,.slice none 0 0,.slice none 0 0,.int .i64 0,.int .i64 0] rfl zaJ hB1 (fun w60 hS60 hB60=>?_) (by simp [go_sem,Value.cells])
   simp [zaw] at hB60
   replace hA0:=hA0.nextS hS60 (by first|exact hb1_0|omega)
   replace hB11:=hB11.sto hS60 (by first|exact hd10_1|exact (hd1_10).symm)
   simp [go_sem,za0,hB11.cell,za4,za1,hB60.cell]
   apply hK;clear hK K
   refine zad ?_
   repeat first|refine za3 ?_|refine za2 ?_
   subst hC
   refine ⟨by simp [go_sem,zaD,zam,za4,za1,za0,hB60.cell],?_⟩
   refine ⟨_,⟨kind,[],ex0,0⟩,?_,SX.mk' (c:=0) (a:=none) (NmS.nil _ _ _) (EX.ex0 _ _ _ rfl),(fun s j e=>by cases e),hA0⟩
   simp [go_sem,zar,zam,za4,za1,za0,hB60.cell,zbB,zcu]
  | true =>
   rw [if_neg (by decide)] at hC
   have hk1:=nmS_k hnmv.symm
   have hi1:i+1<T.length:=hW.next hi (by rw [hk1];decide)
   have hi1':(i+1:Int)<T.length:=by omega
   have hw1:IntKind.i64.wrap ((i:Int)+1)=((i+1:Nat):Int):=by rw [IntWalk.i64_in _ (by omega)];omega
   simp [go_sem,za0,hB1.cell,hB11.cell,za4,za1]
   apply hK;clear hK K
   refine zaf (t:=false) (by simp [go_sem]) rfl ?_
   refine za7 ?_
   apply hK2
   obtain ⟨c0,cp,ct⟩:=zbg (hsl.ext hA0) hi
   refine zzr fun K hK=>?_
   simp [go_sem,za0,hB1.cell,hB11.cell,za4,za1, hi,hi',ct]
   refine zak #[.string ⟨(zai T i).t.toArray⟩] (by simp [go_sem,za0,hB1.cell,hB11.cell,za4,za1,ct]) rfl zcO (by decide) [(0,.string ⟨(zai T i).t.toArray⟩)] (by simp [go_sem,za0,hB1.cell,hB11.cell,za4,za1,ct]) (by kernel_rfl) (fun w70 b70 hE70 hle70 hB70=>?_)
   have hb70_0:=Nat.le_trans hA0.size hle70
   have hd1_70:b1≠b70:=Nat.ne_of_lt (Nat.lt_of_lt_of_le hB1.lt hle70)
   have hd10_70:b10≠b70:=Nat.ne_of_lt (Nat.lt_of_lt_of_le hB11.lt hle70)
   replace hA0:=hA0.next hE70
   replace hB1:=hB1.keep hE70
   replace hB11:=hB11.keep hE70
   simp [go_sem,za0,hB1.cell,hB11.cell,za4,za1,hB70.cell,ct]
   have hnm:NmS w70 (fun k=>w.heap.size≤k∧k≠b1∧k≠b10) (some ⟨b70,0,none⟩) [(zai T i).t]:=by
    refine ⟨?_,fun ad ha _=>?_,by simp [maxLen]⟩
    ·have:=SL.whole hB70
     simpa [strV] using this
    ·injection ha with ha
     subst ha
     exact ⟨by omega,hd1_70.symm,hd10_70.symm⟩
   refine zzs (b:=b10) (off:=1) [.slice (some ⟨b70,0,none⟩) 1 1] rfl ty_size62 hB11 (fun w71 hS71 hB71=>?_) (by simp [go_sem,Value.cells,ct])
   simp [zaw] at hB71
   replace hA0:=hA0.nextS hS71 (by first|exact hb10_0|omega)
   replace hnm:=hnm.ch (Ch.of_sto hS71 (NL.of_bx hB11 (by intro u hu x e;subst e;simp at hu))) (by intro k hk e;subst e;first|exact hk.2 rfl|omega)
   replace hB1:=hB1.sto hS71 (by first|exact hd1_10|exact (hd10_1).symm)
   replace hB70:=hB70.sto hS71 (by first|exact hd70_10|exact (hd10_70).symm)
   simp [go_sem,za0,hB1.cell,za4,za1,hB70.cell,hB71.cell,ct]
   apply hK;clear hK K
   refine zzr fun K hK=>?_
   simp [go_sem,za0,hB1.cell,za4,za1,hB70.cell,hB71.cell, hw1]
   refine zzc rfl Tryz.call47 (fun R hR=>?_)
   simp [go_sem,za0,hB1.cell,za4,za1,hB70.cell,hB71.cell,hw1]
   refine (zdp (hsl.ext hA0) hT (i+1) hi1 sAS).mono ?_
   rintro e w80 ⟨rfl,hE80⟩
   refine ⟨_,rfl,hR _ _ ?_⟩
   clear hR R
   replace hA0:=hA0.next hE80
   replace hB1:=hB1.keep hE80
   replace hB71:=hB71.keep hE80
   replace hB70:=hB70.keep hE80
   replace hnm:=hnm.ext hE80
   simp [go_sem,za0,hB1.cell,za4,za1,hB70.cell,hB71.cell,hw1]
   apply hK;clear hK K
   obtain ⟨q,hq⟩:∃ q,q=zeE T sAS (i+1):=⟨_,rfl⟩
   have hql:=exp_lt hW (t:=sAS) hi1
   rw [←hq] at hC hql ⊢
   refine zab (fun K3 hK3=>?_)
   cases q with
   | er j e =>
    have he:e=5:=by
     unfold zeE at hq
     split at hq<;>injection hq
    subst he
    refine zzr fun K hK=>?_
    simp [go_sem,za0,hB1.cell,za4,za1,hB70.cell,hB71.cell, zcu,zbB]
    apply hK;clear hK K
    refine zaf (t:=true) (by simp [go_sem,zcu,zbB]) rfl ?_
    refine zzr fun K hK=>?_
    simp [go_sem,za0,hB1.cell,za4,za1,hB70.cell,hB71.cell]
    refine zzs (b:=b1) (off:=0) [.int .i64 kind,.slice (some ⟨b70,0,none⟩) 1 1,.int .i64 0,.string ⟨#[]⟩,.bool false,.slice none 0 0,.slice none 0 0,.slice none 0 0,.int .i64 0,.int .i64 0] rfl zaJ hB1 (fun w90 hS90 hB90=>?_) (by simp [go_sem,Value.cells])
    simp [zaw] at hB90
    replace hA0:=hA0.nextS hS90 (by first|exact hb1_0|omega)
    replace hnm:=hnm.ch (Ch.of_sto hS90 (NL.of_bx hB1 (by intro u hu x e;subst e;simp at hu))) (by intro k hk e;subst e;first|exact hk.2 rfl|omega)
    replace hB71:=hB71.sto hS90 (by first|exact hd10_1|exact (hd1_10).symm)
    replace hB70:=hB70.sto hS90 (by first|exact hd70_1|exact (hd1_70).symm)
    simp [go_sem,za0,za4,za1,hB70.cell,hB71.cell,hB90.cell]
    apply hK;clear hK K
    refine zad ?_
    repeat first|refine za3 ?_|refine za2 ?_
    subst hC
    refine ⟨by simp [go_sem,zaD,zam,za4,za1,za0,hB90.cell],?_⟩
    refine ⟨_,⟨kind,[(zai T i).t],ex0,0⟩,?_,SX.mk' (c:=1) (hnm.mono (fun k hk=>hk.1)) (EX.ex0 _ _ _ rfl),(fun s j e=>by cases e),hA0⟩
    simp [go_sem,zar,zam,za4,za1,za0,hB90.cell,zbB,zcu]
   | ok u j =>
    have hj:j<T.length:=hql
    refine zzr fun K hK=>?_
    simp [go_sem,za0,hB1.cell,za4,za1,hB70.cell,hB71.cell, zcu,zbB]
    apply hK;clear hK K
    refine zaf (t:=false) (by simp [go_sem, zcu,zbB]) rfl ?_
    refine za7 ?_
    apply hK3
    refine zzt fun K hK=>?_
    simp [go_sem,za0,hB1.cell,za4,za1,hB70.cell,hB71.cell]
    apply hK;clear hK K
    refine tail _ _ j [(zai T i).t] (some ⟨b70,0,none⟩) 1 hC hj (by simp [go_sem]) (by simp [go_sem,zbB]) (by simp [go_sem]) (by simp [go_sem]) (by simp [go_sem]) hA0 hB1 hB71 hnm
theorem stm1_ne {T:List Tok} (hW:Wf T) {i j:Nat} {e:Int} (h:stmS1 T i = .er j e):e≠0:=by
 have ha:=stm_agr hW (a0:=0) i
 unfold stmS at ha
 rw [h] at ha
 exact ha.1
theorem rstm_any {cap:Nat} {lb lo:Nat} {T:List Tok} (hW:Wf T) {w:World} {i:Nat} (hi:i<T.length) (hsl:SL w (some ⟨lb,lo,none⟩) (zc2 T)) :
  Calls Tryz.prog 22 #[.slice (some ⟨lb,lo,none⟩) T.length cap,.int .i64 i] w (DefPost w (stmS T i)):=by
 have hT:T.length≤20001:=hW.size
 have hi':(i:Int)<T.length:=by omega
 have hlb:lb<w.heap.size:=la_lt hsl (by omega) _ rfl
 have hw1:IntKind.i64.wrap ((i:Int)+1)=((i+1:Nat):Int):=by rw [IntWalk.i64_in _ (by omega)];omega
 obtain ⟨V,hV⟩:∃ V,V=stmS T i:=⟨_,rfl⟩
 rw [←hV]
 unfold stmS at hV
 obtain ⟨C,hC⟩:∃ C,C=stmS1 T i:=⟨_,rfl⟩
 have hne:∀ j e,C = .er j e→e≠0:=fun j e h=>stm1_ne hW (by rw [←hC];exact h)
 have hCl:=stm1_lt hW hi
 rw [←hC] at hV hCl
 unfold stmS1 at hC
 have ht:∀ t:List UInt8,t≠[]→(zai T i).t=t→i+1<T.length:=fun t h0 h=>hW.next hi (fun hk=>h0 (by rw [←h,hW.text i hk]))
 refine za5 (rs:=[.cell 4 64,.tmp 5,.tmp 6]) (n:=88) Tryz.func22 rfl rfl rfl (by kernel_rfl) ?_
 have hA0:=Below.refl w.heap.size w
 refine zzr fun K hK=>?_
 simp [go_sem,za0,za4,za1]
 refine zza rfl zbD (fun w1 b1 hE1 hle1 hB1=>?_)
 have hb1_0:=Nat.le_trans hA0.size hle1
 replace hA0:=hA0.next hE1
 simp [go_sem,za0,za4,za1,hB1.cell]
 apply hK;clear hK K
 refine zzr fun K hK=>?_
 simp [go_sem,za0,za4,za1,hB1.cell]
 refine zal #[.int .i64 0,.slice none 0 0,.int .i64 0,.string ⟨#[]⟩,.bool false,.slice none 0 0,.slice none 0 0,.slice none 0 0,.int .i64 0,.int .i64 0] (by simp [go_sem]) rfl ty_stZ64 [] (by simp [go_sem]) rfl ?_
 simp [go_sem,za0]
 refine zza rfl zbD (fun w20 b20 hE20 hle20 hB20=>?_)
 have hb20_0:=Nat.le_trans hA0.size hle20
 have hd1_20:b1≠b20:=Nat.ne_of_lt (Nat.lt_of_lt_of_le hB1.lt hle20)
 replace hA0:=hA0.next hE20
 replace hB1:=hB1.keep hE20
 simp [go_sem,za0,za4,za1,hB1.cell,hB20.cell]
 refine zzs (b:=b20) (off:=0) [.int .i64 0,.slice none 0 0,.int .i64 0,.string ⟨#[]⟩,.bool false,.slice none 0 0,.slice none 0 0,.slice none 0 0,.int .i64 0,.int .i64 0] rfl zaJ hB20 (fun w21 hS21 hB21=>?_) (by simp [go_sem,Value.cells])
 simp [zaw] at hB21
 replace hA0:=hA0.nextS hS21 (by first|exact hb20_0|omega)
 replace hB1:=hB1.sto hS21 (by first|exact hd1_20|exact (hd20_1).symm)
 simp [go_sem,za0,za4,za1,hB1.cell,hB21.cell]
 apply hK;clear hK K
 refine zzr fun K hK=>?_
 simp [go_sem,za0,za4,za1,hB1.cell,hB21.cell, hw1]
 apply hK;clear hK K
 refine zzr fun K hK=>?_
 simp [go_sem,za0,za4,za1,hB1.cell,hB21.cell]
 apply hK;clear hK K
 refine zab (fun K1 hK1=>?_)
 have tail:∀ (g:G) (w9:World) (r:Res Stm) (x:Stm) (a:Option Addr) (c:Nat) (ya:Option Addr) (yc:Nat) (yb:Option Addr) (yd:Nat) (ye:Option Addr) (yp:Nat),C=r→(∀ s j,r = .ok s j→x=s)→g 0 = .slice (some ⟨lb,lo,none⟩) T.length cap→g 1 = .int .i64 i→g 4 = .pointer (some ⟨b1,0,none⟩)→g 7 = .pointer (some ⟨b20,0,none⟩)→g 8 = .int .i64 (zbB r)→g 9 = .int .i64 (zcu r)→Below w.heap.size w w9→Bx w9 b1 #[.int .i64 0,.slice none 0 0,.int .i64 0,.string ⟨#[]⟩,.bool false,.slice none 0 0,.slice none 0 0,.slice none 0 0,.int .i64 0,.int .i64 0] 64→Bx w9 b20 #[.int .i64 x.kind,.slice a x.names.length c,.int .i64 x.expr.kind,.string ⟨x.expr.name.toArray⟩,.bool x.expr.neg,.slice ya x.expr.num.length yc,.slice yb x.expr.den.length yd,.slice ye x.expr.args.length yp,.int .i64 x.expr.pos,.int .i64 x.pos] 64→NmS w9 (fun k=>w.heap.size≤k∧k≠b1∧k≠b20) a x.names→EX w9 (fun k=>w.heap.size≤k∧k≠b1∧k≠b20) [.int .i64 x.expr.kind,.string ⟨x.expr.name.toArray⟩,.bool x.expr.neg,.slice ya x.expr.num.length yc,.slice yb x.expr.den.length yd,.slice ye x.expr.args.length yp,.int .i64 x.expr.pos] x.expr→K1 g w9:=by
  clear hA0 hB1 hB21 hC
  intro g w9 r x a c ya yc yb yd ye yp hr hx g0 g1 g4 g7 g8 g9 hA0 hB1 hB20 hnm hxe
  subst hr
  apply hK1
  refine zab (fun K2 hK2=>?_)
  cases C with
  | er j e =>
   have he:=hne j e rfl
   refine zzr fun K hK=>?_
   simp [go_sem,za0,za4,za1,hB1.cell,hB20.cell,g0,g1,g4,g7,g8,g9, zcu,zbB,he]
   apply hK;clear hK K
   refine zaf (t:=true) (by simp [go_sem,g0,g1,g4,g7,g8,g9,zcu,zbB,he]) rfl ?_
   refine zzr fun K hK=>?_
   simp [go_sem,za0,za4,za1,hB1.cell,hB20.cell,g0,g1,g4,g7,g8,g9, zcu,zbB]
   refine zal #[.int .i64 0,.slice none 0 0,.int .i64 0,.string ⟨#[]⟩,.bool false,.slice none 0 0,.slice none 0 0,.slice none 0 0,.int .i64 0,.int .i64 0] (by simp [go_sem]) rfl ty_stZ64 [] (by simp [go_sem]) rfl ?_
   simp [go_sem,za0]
   refine zzs (b:=b1) (off:=0) [.int .i64 0,.slice none 0 0,.int .i64 0,.string ⟨#[]⟩,.bool false,.slice none 0 0,.slice none 0 0,.slice none 0 0,.int .i64 0,.int .i64 0] rfl zaJ hB1 (fun w30 hS30 hB30=>?_) (by simp [go_sem,Value.cells,g0,g1,g4,g7,g8,g9])
   simp [zaw] at hB30
   replace hA0:=hA0.nextS hS30 (by first|exact hb1_0|omega)
   replace hnm:=hnm.ch (Ch.of_sto hS30 (NL.of_bx hB1 (by intro u hu x e;subst e;simp at hu))) (by intro k hk e;subst e;first|exact hk.2 rfl|omega)
   replace hxe:=hxe.ch (Ch.of_sto hS30 (NL.of_bx hB1 (by intro u hu x e;subst e;simp at hu))) (by intro k hk e;subst e;first|exact hk.2 rfl|omega)
   replace hB20:=hB20.sto hS30 (by first|exact hd20_1|exact (hd1_20).symm)
   simp [go_sem,za0,za4,za1,hB20.cell,g0,g1,g4,g7,g8,g9,hB30.cell]
   apply hK;clear hK K
   refine zad ?_
   repeat first|refine za3 ?_|refine za2 ?_
   subst hV
   refine ⟨by simp [go_sem,zaD,zam,za4,za1,za0,hB30.cell,g4],?_⟩
   refine ⟨_,stm0,?_,SX.mk' (c:=0) (a:=none) (NmS.nil _ _ _) (EX.ex0 _ _ _ rfl),(fun s j e=>by cases e),hA0⟩
   simp [go_sem,zar,zam,za4,za1,za0,hB30.cell,zbB,zcu,g4,g8,g9]
  | ok s1 j =>
   have hj:j<T.length:=hCl
   have hx1:=hx s1 j rfl
   subst hx1
   simp only at hV
   refine zzr fun K hK=>?_
   simp [go_sem,za0,za4,za1,hB1.cell,hB20.cell,g0,g1,g4,g7,g8,g9, zcu,zbB]
   apply hK;clear hK K
   refine zaf (t:=false) (by simp [go_sem,g0,g1,g4,g7,g8,g9, zcu,zbB]) rfl ?_
   refine za7 ?_
   apply hK2
   obtain ⟨c0,cp,ct⟩:=zbg (hsl.ext hA0) hi
   refine zzr fun K hK=>?_
   simp [go_sem,za0,za4,za1,hB1.cell,hB20.cell,g0,g1,g4,g7,g8,g9, hi,hi',cp]
   refine zzs (b:=b20) (off:=9) [.int .i64 (zai T i).p] rfl zaQ hB20 (fun w40 hS40 hB40=>?_) (by simp [go_sem,Value.cells,g0,g1,g4,g7,g8,g9,hi,hi',cp])
   simp [zaw] at hB40
   replace hA0:=hA0.nextS hS40 (by first|exact hb20_0|omega)
   replace hnm:=hnm.ch (Ch.of_sto hS40 (NL.of_bx hB20 (by intro u hu x e;subst e;simp at hu))) (by intro k hk e;subst e;first|exact hk.2 rfl|omega)
   replace hxe:=hxe.ch (Ch.of_sto hS40 (NL.of_bx hB20 (by intro u hu x e;subst e;simp at hu))) (by intro k hk e;subst e;first|exact hk.2 rfl|omega)
   replace hB1:=hB1.sto hS40 (by first|exact hd1_20|exact (hd20_1).symm)
   simp [go_sem,za0,za4,za1,hB1.cell,g0,g1,g4,g7,g8,g9,hB40.cell,hi,hi',cp]
   apply hK;clear hK K
   refine zzr fun K hK=>?_
   simp [go_sem,za0,za4,za1,hB1.cell,g0,g1,g4,g7,g8,g9,hB40.cell, zbB]
   refine zzc rfl Tryz.call47 (fun R hR=>?_)
   simp [go_sem,za0,za4,za1,hB1.cell,g0,g1,g4,g7,g8,g9,hB40.cell,zbB]
   refine (zdp (hsl.ext hA0) hT j hj sSC).mono ?_
   rintro e w50 ⟨rfl,hE50⟩
   refine ⟨_,rfl,hR _ _ ?_⟩
   clear hR R
   replace hA0:=hA0.next hE50
   replace hB1:=hB1.keep hE50
   replace hB40:=hB40.keep hE50
   replace hnm:=hnm.ext hE50
   replace hxe:=hxe.ext hE50
   simp [go_sem,za0,za4,za1,hB1.cell,g0,g1,g4,g7,g8,g9,hB40.cell,zbB]
   apply hK;clear hK K
   refine zzr fun K hK=>?_
   simp [go_sem,za0,za4,za1,hB1.cell,g0,g1,g4,g7,g8,g9,hB40.cell]
   refine zzs (b:=b1) (off:=0) [.int .i64 x.kind,.slice a x.names.length c,.int .i64 x.expr.kind,.string ⟨x.expr.name.toArray⟩,.bool x.expr.neg,.slice ya x.expr.num.length yc,.slice yb x.expr.den.length yd,.slice ye x.expr.args.length yp,.int .i64 x.expr.pos,.int .i64 (zai T i).p] rfl zaJ hB1 (fun w60 hS60 hB60=>?_) (by simp [go_sem,Value.cells,g0,g1,g4,g7,g8,g9])
   simp [zaw] at hB60
   replace hA0:=hA0.nextS hS60 (by first|exact hb1_0|omega)
   replace hnm:=hnm.ch (Ch.of_sto hS60 (NL.of_bx hB1 (by intro u hu x e;subst e;simp at hu))) (by intro k hk e;subst e;first|exact hk.2 rfl|omega)
   replace hxe:=hxe.ch (Ch.of_sto hS60 (NL.of_bx hB1 (by intro u hu x e;subst e;simp at hu))) (by intro k hk e;subst e;first|exact hk.2 rfl|omega)
   replace hB40:=hB40.sto hS60 (by first|exact hd20_1|exact (hd1_20).symm)
   simp [go_sem,za0,za4,za1,g0,g1,g4,g7,g8,g9,hB40.cell,hB60.cell]
   apply hK;clear hK K
   refine zad ?_
   repeat first|refine za3 ?_|refine za2 ?_
   refine ⟨by simp [go_sem,zaD,zam,za4,za1,za0,hB60.cell,g4],?_⟩
   have hIE:zbB V=zbB (zeE T sSC j)∧zcu V=zcu (zeE T sSC j):=by rw [hV];cases zeE T sSC j<;>exact ⟨rfl,rfl⟩
   refine ⟨_,⟨x.kind,x.names,x.expr,(zai T i).p⟩,?_,⟨a,c,_,rfl,hnm.mono (fun k hk=>hk.1),hxe.mono (fun k hk=>hk.1)⟩,fun s j2 e=>?_,hA0⟩
   ·rw [hIE.1,hIE.2];simp [go_sem,zar,zam,za4,za1,za0,hB60.cell,g4];rfl
   ·rw [hV] at e
    cases hq:zeE T sSC j with
    | er j3 e3=>rw [hq] at e;cases e
    | ok u j3=>rw [hq] at e;cases e;rfl
 obtain ⟨c0,cp,ct⟩:=zbg (hsl.ext hA0) hi
 refine zzr fun K hK=>?_
 simp [go_sem,za0,za4,za1,hB1.cell,hB21.cell, hi,hi',ct]
 apply hK;clear hK K
 refine zac ?_
 by_cases c1:(zai T i).t=zcr
 ·rw [if_pos c1] at hC
  have c1':(zai T i).t=[112,111,105,110,116,115]:=c1
  have hi1:=ht _ (by decide) c1
  refine zzr fun K hK=>?_
  simp [go_sem,za0,za4,za1,hB1.cell,hB21.cell, c1']
  apply hK;clear hK K
  refine zaf (t:=true) (by simp [go_sem,c1']) rfl ?_
  refine zzr fun K hK=>?_
  simp [go_sem,za0,za4,za1,hB1.cell,hB21.cell]
  refine zzs (b:=b20) (off:=0) [.int .i64 1] rfl zaQ hB21 (fun w70 hS70 hB70=>?_) (by simp [go_sem,Value.cells])
  simp [zaw] at hB70
  replace hA0:=hA0.nextS hS70 (by first|exact hb20_0|omega)
  replace hB1:=hB1.sto hS70 (by first|exact hd1_20|exact (hd20_1).symm)
  simp [go_sem,za0,za4,za1,hB1.cell,hB70.cell]
  apply hK;clear hK K
  refine zzt fun K hK=>?_
  simp [go_sem,za0,za4,za1,hB1.cell,hB70.cell, hw1]
  have hwz:=hA0.size
  have h1l:=hB1.lt
  have h20l:=hB70.lt
  refine zzc rfl Tryz.call45 (fun R hR=>?_)
  simp [go_sem,za0,za4,za1,hB1.cell,hB70.cell,hw1]
  refine (rnames_any hW hi1 (hsl.ext hA0)).mono ?_
  rintro e w71 ⟨na,nc,rfl,hnm,hE71⟩
  refine ⟨_,rfl,hR _ _ ?_⟩
  clear hR R
  replace hA0:=hA0.next hE71
  replace hB1:=hB1.keep hE71
  replace hB70:=hB70.keep hE71
  obtain ⟨r,hr⟩:∃ r,r=zcC T T.length (i+1) []:=⟨_,rfl⟩
  rw [←hr] at hC hnm ⊢
  obtain ⟨l,hl⟩:∃ l,l=resN r:=⟨_,rfl⟩
  rw [←hl] at hnm ⊢
  replace hnm:=hnm.mono (F':=fun k=>w.heap.size≤k∧k≠b1∧k≠b20) (fun k hk=>⟨Nat.le_trans hwz hk,fun e=>by subst e;exact absurd hk (Nat.not_le.2 h1l),fun e=>by subst e;exact absurd hk (Nat.not_le.2 h20l)⟩)
  simp [go_sem,za0,za4,za1,hB1.cell,hB70.cell,hw1]
  refine zzs (b:=b20) (off:=1) [.slice na l.length nc] rfl ty_size62 hB70 (fun w72 hS72 hB72=>?_) (by simp [go_sem,Value.cells])
  simp [zaw] at hB72
  replace hA0:=hA0.nextS hS72 (by first|exact hb20_0|omega)
  replace hnm:=hnm.ch (Ch.of_sto hS72 (NL.of_bx hB70 (by intro u hu x e;subst e;simp at hu))) (by intro k hk e;subst e;first|exact hk.2 rfl|omega)
  replace hB1:=hB1.sto hS72 (by first|exact hd1_20|exact (hd20_1).symm)
  simp [go_sem,za0,za4,za1,hB1.cell,hB72.cell]
  apply hK;clear hK K
  refine tail _ _ _ ⟨1,l,ex0,0⟩ na nc none 0 none 0 none 0 hC (fun s j e=>by cases r with|er j e2=>cases e|ok l2 j2=>rw [hl];cases e;rfl) (by simp [go_sem]) (by simp [go_sem]) (by simp [go_sem]) (by simp [go_sem]) (by cases r<;>simp [go_sem,zbB]) (by cases r<;>simp [go_sem,zcu]) hA0 hB1 hB72 hnm (EX.ex0 _ _ _ rfl)
 rw [if_neg c1] at hC
 have c1':¬(zai T i).t=[112,111,105,110,116,115]:=c1
 refine zzr fun K hK=>?_
 simp [go_sem,za0,za4,za1,hB1.cell,hB21.cell, c1']
 apply hK;clear hK K
 refine zaf (t:=false) (by simp [go_sem,c1']) rfl ?_
 by_cases c2:(zai T i).t=wLine
 ·rw [if_pos c2] at hC
  have c2':(zai T i).t=[108,105,110,101]:=c2
  have hi1:=ht _ (by decide) c2
  refine zzr fun K hK=>?_
  simp [go_sem,za0,za4,za1,hB1.cell,hB21.cell, c2']
  apply hK;clear hK K
  refine zaf (t:=true) (by simp [go_sem,c2']) rfl ?_
  refine zzt fun K hK=>?_
  simp [go_sem,za0,za4,za1,hB1.cell,hB21.cell, hw1]
  have hwz:=hA0.size
  have h1l:=hB1.lt
  have h20l:=hB21.lt
  refine zzc rfl Tryz.call46 (fun R hR=>?_)
  simp [go_sem,za0,za4,za1,hB1.cell,hB21.cell,hw1]
  refine (rdef_any hW (.inr (.inl rfl)) hi1 (hsl.ext hA0)).mono ?_
  rintro e w70 ⟨Rx,x,rfl,hsx,hxv,hE70⟩
  refine ⟨_,rfl,hR _ _ ?_⟩
  clear hR R
  replace hA0:=hA0.next hE70
  replace hB1:=hB1.keep hE70
  replace hB21:=hB21.keep hE70
  obtain ⟨a,c,ya,yc,yb,yd,ye,yp,hRx,hnm,hxe⟩:=hsx.open
  subst hRx
  replace hnm:=hnm.mono (F':=fun k=>w.heap.size≤k∧k≠b1∧k≠b20) (fun k hk=>⟨Nat.le_trans hwz hk,fun e=>by subst e;exact absurd hk (Nat.not_le.2 h1l),fun e=>by subst e;exact absurd hk (Nat.not_le.2 h20l)⟩)
  replace hxe:=hxe.mono (F':=fun k=>w.heap.size≤k∧k≠b1∧k≠b20) (fun k hk=>⟨Nat.le_trans hwz hk,fun e=>by subst e;exact absurd hk (Nat.not_le.2 h1l),fun e=>by subst e;exact absurd hk (Nat.not_le.2 h20l)⟩)
  simp [go_sem,za0,za4,za1,hB1.cell,hB21.cell,hw1]
  refine zzs (b:=b20) (off:=0) [.int .i64 x.kind,.slice a x.names.length c,.int .i64 x.expr.kind,.string ⟨x.expr.name.toArray⟩,.bool x.expr.neg,.slice ya x.expr.num.length yc,.slice yb x.expr.den.length yd,.slice ye x.expr.args.length yp,.int .i64 x.expr.pos,.int .i64 x.pos] rfl zaJ hB21 (fun w71 hS71 hB71=>?_) (by simp [go_sem,Value.cells])
  simp [zaw] at hB71
  replace hA0:=hA0.nextS hS71 (by first|exact hb20_0|omega)
  replace hnm:=hnm.ch (Ch.of_sto hS71 (NL.of_bx hB21 (by intro u hu x e;subst e;simp at hu))) (by intro k hk e;subst e;first|exact hk.2 rfl|omega)
  replace hxe:=hxe.ch (Ch.of_sto hS71 (NL.of_bx hB21 (by intro u hu x e;subst e;simp at hu))) (by intro k hk e;subst e;first|exact hk.2 rfl|omega)
  replace hB1:=hB1.sto hS71 (by first|exact hd1_20|exact (hd20_1).symm)
  simp [go_sem,za0,za4,za1,hB1.cell,hB71.cell]
  apply hK;clear hK K
  refine tail _ _ _ x a c ya yc yb yd ye yp hC hxv (by simp [go_sem]) (by simp [go_sem]) (by simp [go_sem]) (by simp [go_sem]) (by simp [go_sem]) (by simp [go_sem]) hA0 hB1 hB71 hnm hxe
 rw [if_neg c2] at hC
 have c2':¬(zai T i).t=[108,105,110,101]:=c2
 refine zzr fun K hK=>?_
 simp [go_sem,za0,za4,za1,hB1.cell,hB21.cell, c2']
 apply hK;clear hK K
 refine zaf (t:=false) (by simp [go_sem,c2']) rfl ?_
 by_cases c3:(zai T i).t=zcQ
 ·rw [if_pos c3] at hC
  have c3':(zai T i).t=[99,105,114,99,108,101]:=c3
  have hi1:=ht _ (by decide) c3
  refine zzr fun K hK=>?_
  simp [go_sem,za0,za4,za1,hB1.cell,hB21.cell, c3']
  apply hK;clear hK K
  refine zaf (t:=true) (by simp [go_sem,c3']) rfl ?_
  refine zzt fun K hK=>?_
  simp [go_sem,za0,za4,za1,hB1.cell,hB21.cell, hw1]
  have hwz:=hA0.size
  have h1l:=hB1.lt
  have h20l:=hB21.lt
  refine zzc rfl Tryz.call46 (fun R hR=>?_)
  simp [go_sem,za0,za4,za1,hB1.cell,hB21.cell,hw1]
  refine (rdef_any hW (.inr (.inr (.inl rfl))) hi1 (hsl.ext hA0)).mono ?_
  rintro e w70 ⟨Rx,x,rfl,hsx,hxv,hE70⟩
  refine ⟨_,rfl,hR _ _ ?_⟩
  clear hR R
  replace hA0:=hA0.next hE70
  replace hB1:=hB1.keep hE70
  replace hB21:=hB21.keep hE70
  obtain ⟨a,c,ya,yc,yb,yd,ye,yp,hRx,hnm,hxe⟩:=hsx.open
  subst hRx
  replace hnm:=hnm.mono (F':=fun k=>w.heap.size≤k∧k≠b1∧k≠b20) (fun k hk=>⟨Nat.le_trans hwz hk,fun e=>by subst e;exact absurd hk (Nat.not_le.2 h1l),fun e=>by subst e;exact absurd hk (Nat.not_le.2 h20l)⟩)
  replace hxe:=hxe.mono (F':=fun k=>w.heap.size≤k∧k≠b1∧k≠b20) (fun k hk=>⟨Nat.le_trans hwz hk,fun e=>by subst e;exact absurd hk (Nat.not_le.2 h1l),fun e=>by subst e;exact absurd hk (Nat.not_le.2 h20l)⟩)
  simp [go_sem,za0,za4,za1,hB1.cell,hB21.cell,hw1]
  refine zzs (b:=b20) (off:=0) [.int .i64 x.kind,.slice a x.names.length c,.int .i64 x.expr.kind,.string ⟨x.expr.name.toArray⟩,.bool x.expr.neg,.slice ya x.expr.num.length yc,.slice yb x.expr.den.length yd,.slice ye x.expr.args.length yp,.int .i64 x.expr.pos,.int .i64 x.pos] rfl zaJ hB21 (fun w71 hS71 hB71=>?_) (by simp [go_sem,Value.cells])
  simp [zaw] at hB71
  replace hA0:=hA0.nextS hS71 (by first|exact hb20_0|omega)
  replace hnm:=hnm.ch (Ch.of_sto hS71 (NL.of_bx hB21 (by intro u hu x e;subst e;simp at hu))) (by intro k hk e;subst e;first|exact hk.2 rfl|omega)
  replace hxe:=hxe.ch (Ch.of_sto hS71 (NL.of_bx hB21 (by intro u hu x e;subst e;simp at hu))) (by intro k hk e;subst e;first|exact hk.2 rfl|omega)
  replace hB1:=hB1.sto hS71 (by first|exact hd1_20|exact (hd20_1).symm)
  simp [go_sem,za0,za4,za1,hB1.cell,hB71.cell]
  apply hK;clear hK K
  refine tail _ _ _ x a c ya yc yb yd ye yp hC hxv (by simp [go_sem]) (by simp [go_sem]) (by simp [go_sem]) (by simp [go_sem]) (by simp [go_sem]) (by simp [go_sem]) hA0 hB1 hB71 hnm hxe
 rw [if_neg c3] at hC
 have c3':¬(zai T i).t=[99,105,114,99,108,101]:=c3
 refine zzr fun K hK=>?_
 simp [go_sem,za0,za4,za1,hB1.cell,hB21.cell, c3']
 apply hK;clear hK K
 refine zaf (t:=false) (by simp [go_sem,c3']) rfl ?_
 by_cases c4:(zai T i).t=zda
 ·rw [if_pos c4] at hC
  have c4':(zai T i).t=[112,114,111,118,101]:=c4
  have hi1:=ht _ (by decide) c4
  refine zzr fun K hK=>?_
  simp [go_sem,za0,za4,za1,hB1.cell,hB21.cell, c4']
  apply hK;clear hK K
  refine zaf (t:=true) (by simp [go_sem,c4']) rfl ?_
  refine zzt fun K hK=>?_
  simp [go_sem,za0,za4,za1,hB1.cell,hB21.cell, hw1]
  have hwz:=hA0.size
  have h1l:=hB1.lt
  have h20l:=hB21.lt
  refine zzc rfl Tryz.call46 (fun R hR=>?_)
  simp [go_sem,za0,za4,za1,hB1.cell,hB21.cell,hw1]
  refine (rdef_any hW (.inr (.inr (.inr rfl))) hi1 (hsl.ext hA0)).mono ?_
  rintro e w70 ⟨Rx,x,rfl,hsx,hxv,hE70⟩
  refine ⟨_,rfl,hR _ _ ?_⟩
  clear hR R
  replace hA0:=hA0.next hE70
  replace hB1:=hB1.keep hE70
  replace hB21:=hB21.keep hE70
  obtain ⟨a,c,ya,yc,yb,yd,ye,yp,hRx,hnm,hxe⟩:=hsx.open
  subst hRx
  replace hnm:=hnm.mono (F':=fun k=>w.heap.size≤k∧k≠b1∧k≠b20) (fun k hk=>⟨Nat.le_trans hwz hk,fun e=>by subst e;exact absurd hk (Nat.not_le.2 h1l),fun e=>by subst e;exact absurd hk (Nat.not_le.2 h20l)⟩)
  replace hxe:=hxe.mono (F':=fun k=>w.heap.size≤k∧k≠b1∧k≠b20) (fun k hk=>⟨Nat.le_trans hwz hk,fun e=>by subst e;exact absurd hk (Nat.not_le.2 h1l),fun e=>by subst e;exact absurd hk (Nat.not_le.2 h20l)⟩)
  simp [go_sem,za0,za4,za1,hB1.cell,hB21.cell,hw1]
  refine zzs (b:=b20) (off:=0) [.int .i64 x.kind,.slice a x.names.length c,.int .i64 x.expr.kind,.string ⟨x.expr.name.toArray⟩,.bool x.expr.neg,.slice ya x.expr.num.length yc,.slice yb x.expr.den.length yd,.slice ye x.expr.args.length yp,.int .i64 x.expr.pos,.int .i64 x.pos] rfl zaJ hB21 (fun w71 hS71 hB71=>?_) (by simp [go_sem,Value.cells])
  simp [zaw] at hB71
  replace hA0:=hA0.nextS hS71 (by first|exact hb20_0|omega)
  replace hnm:=hnm.ch (Ch.of_sto hS71 (NL.of_bx hB21 (by intro u hu x e;subst e;simp at hu))) (by intro k hk e;subst e;first|exact hk.2 rfl|omega)
  replace hxe:=hxe.ch (Ch.of_sto hS71 (NL.of_bx hB21 (by intro u hu x e;subst e;simp at hu))) (by intro k hk e;subst e;first|exact hk.2 rfl|omega)
  replace hB1:=hB1.sto hS71 (by first|exact hd1_20|exact (hd20_1).symm)
  simp [go_sem,za0,za4,za1,hB1.cell,hB71.cell]
  apply hK;clear hK K
  refine tail _ _ _ x a c ya yc yb yd ye yp hC hxv (by simp [go_sem]) (by simp [go_sem]) (by simp [go_sem]) (by simp [go_sem]) (by simp [go_sem]) (by simp [go_sem]) hA0 hB1 hB71 hnm hxe
 rw [if_neg c4] at hC
 have c4':¬(zai T i).t=[112,114,111,118,101]:=c4
 refine zzr fun K hK=>?_
 simp [go_sem,za0,za4,za1,hB1.cell,hB21.cell, c4']
 apply hK;clear hK K
 refine zaf (t:=false) (by simp [go_sem,c4']) rfl ?_
 refine zzt fun K hK=>?_
 simp [go_sem,za0,za4,za1,hB1.cell,hB21.cell, hw1]
 have hwz:=hA0.size
 have h1l:=hB1.lt
 have h20l:=hB21.lt
 refine zzc rfl Tryz.call46 (fun R hR=>?_)
 simp [go_sem,za0,za4,za1,hB1.cell,hB21.cell,hw1]
 refine (rdef_any hW (.inl rfl) hi (hsl.ext hA0)).mono ?_
 rintro e w70 ⟨Rx,x,rfl,hsx,hxv,hE70⟩
 refine ⟨_,rfl,hR _ _ ?_⟩
 clear hR R
 replace hA0:=hA0.next hE70
 replace hB1:=hB1.keep hE70
 replace hB21:=hB21.keep hE70
 obtain ⟨a,c,ya,yc,yb,yd,ye,yp,hRx,hnm,hxe⟩:=hsx.open
 subst hRx
 replace hnm:=hnm.mono (F':=fun k=>w.heap.size≤k∧k≠b1∧k≠b20) (fun k hk=>⟨Nat.le_trans hwz hk,fun e=>by subst e;exact absurd hk (Nat.not_le.2 h1l),fun e=>by subst e;exact absurd hk (Nat.not_le.2 h20l)⟩)
 replace hxe:=hxe.mono (F':=fun k=>w.heap.size≤k∧k≠b1∧k≠b20) (fun k hk=>⟨Nat.le_trans hwz hk,fun e=>by subst e;exact absurd hk (Nat.not_le.2 h1l),fun e=>by subst e;exact absurd hk (Nat.not_le.2 h20l)⟩)
 simp [go_sem,za0,za4,za1,hB1.cell,hB21.cell,hw1]
 refine zzs (b:=b20) (off:=0) [.int .i64 x.kind,.slice a x.names.length c,.int .i64 x.expr.kind,.string ⟨x.expr.name.toArray⟩,.bool x.expr.neg,.slice ya x.expr.num.length yc,.slice yb x.expr.den.length yd,.slice ye x.expr.args.length yp,.int .i64 x.expr.pos,.int .i64 x.pos] rfl zaJ hB21 (fun w71 hS71 hB71=>?_) (by simp [go_sem,Value.cells])
 simp [zaw] at hB71
 replace hA0:=hA0.nextS hS71 (by first|exact hb20_0|omega)
 replace hnm:=hnm.ch (Ch.of_sto hS71 (NL.of_bx hB21 (by intro u hu x e;subst e;simp at hu))) (by intro k hk e;subst e;first|exact hk.2 rfl|omega)
 replace hxe:=hxe.ch (Ch.of_sto hS71 (NL.of_bx hB21 (by intro u hu x e;subst e;simp at hu))) (by intro k hk e;subst e;first|exact hk.2 rfl|omega)
 replace hB1:=hB1.sto hS71 (by first|exact hd1_20|exact (hd20_1).symm)
 simp [go_sem,za0,za4,za1,hB1.cell,hB71.cell]
 apply hK;clear hK K
 refine tail _ _ _ x a c ya yc yb yd ye yp hC hxv (by simp [go_sem]) (by simp [go_sem]) (by simp [go_sem]) (by simp [go_sem]) (by simp [go_sem]) (by simp [go_sem]) hA0 hB1 hB71 hnm hxe
end Go.Proofs.YtefhenfofomjhaaGreat
