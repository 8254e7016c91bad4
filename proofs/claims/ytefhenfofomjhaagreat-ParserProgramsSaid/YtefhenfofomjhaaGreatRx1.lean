/- The reference's parser: numbers and ratios. -/
import Derived.Test.YtefhenfofomjhaaGreatRw2
import Derived.Test.YtefhenfofomjhaaGreatPa1
import Derived.Test.YtefhenfofomjhaaGreatLx3
set_option linter.unusedSimpArgs false
set_option linter.unusedVariables false
set_option maxHeartbeats 4000000
set_option maxRecDepth 20000
namespace Go.Proofs.YtefhenfofomjhaaGreat
open Go Go.RowKit Go.V
structure RSs (w:World) (F:Nat→Prop) (rows:List (List Value)) (xs:List Stm):Prop where
 len:rows.length=xs.length
 he:∀ (i:Nat) (R:List Value) (x:Stm),rows[i]? = some R→xs[i]? = some x→SX w F R x
theorem RSs.nil (w:World) (F:Nat→Prop):RSs w F [] []:=⟨rfl,fun i R x h=>by simp at h⟩
theorem RSs.ch {w w':World} {F S:Nat→Prop} {rows:List (List Value)} {xs:List Stm} (h:RSs w F rows xs) (hc:Ch w w' S) (hd:∀ k,F k→¬S k):RSs w' F rows xs:=⟨h.len,fun i R x hR hx=>(h.he i R x hR hx).ch hc hd⟩
theorem RSs.ext {w w':World} {F:Nat→Prop} {rows:List (List Value)} {xs:List Stm} (h:RSs w F rows xs) (hb:Below w.heap.size w w'):RSs w' F rows xs:=⟨h.len,fun i R x hR hx=>(h.he i R x hR hx).ext hb⟩
theorem RSs.mono {w:World} {F F':Nat→Prop} {rows:List (List Value)} {xs:List Stm} (h:RSs w F rows xs) (hF:∀ k,F k→F' k):RSs w F' rows xs:=⟨h.len,fun i R x hR hx=>(h.he i R x hR hx).mono hF⟩
theorem RSs.blt {w:World} {F:Nat→Prop} {rows:List (List Value)} {xs:List Stm} (h:RSs w F rows xs):RSs w (fun k=>F k∧k<w.heap.size) rows xs:=⟨h.len,fun i R x hR hx=>(h.he i R x hR hx).blt⟩
theorem RSs.snoc {w:World} {F:Nat→Prop} {rows:List (List Value)} {xs:List Stm} {R:List Value} {x:Stm} (h:RSs w F rows xs) (hx:SX w F R x):RSs w F (rows++[R]) (xs++[x]):=by
 refine ⟨by simp [h.len],fun i R' x' hR hx'=>?_⟩
 rcases Nat.lt_trichotomy i rows.length with hi|hi|hi
 ·rw [List.getElem?_append_left hi] at hR
  rw [List.getElem?_append_left (by rw [←h.len];exact hi)] at hx'
  exact h.he i R' x' hR hx'
 ·rw [List.getElem?_append_right (by omega)] at hR
  rw [List.getElem?_append_right (by rw [←h.len];omega)] at hx'
  rw [hi,Nat.sub_self] at hR
  rw [hi,h.len,Nat.sub_self] at hx'
  simp at hR hx'
  subst hR;subst hx'
  exact hx
 ·rw [List.getElem?_eq_none (by simp;omega)] at hR
  cases hR
def progV (s:ByteArray):List Stm × Int × Int:=if (allR s).2.2=0 then progP (tokT s) else ([],(allR s).2.1,(allR s).2.2)
def ProgPost (w:World) (r:List Stm × Int × Int) (e:Ending) (w':World):Prop :=
 ∃ (a:Option Addr) (c:Nat) (rows:List (List Value)),e = .returned (.tuple #[.agg #[.slice a r.1.length c],.int .i64 r.2.1,.int .i64 r.2.2]) ∧
  w'.ownsRow w.heap.size 64 10 (.slice a r.1.length c) r.1.length rows.flatten∧NB w' (.slice a r.1.length c) ∧
  RSs w' (fun k=>w.heap.size≤k∧Value.ownBlock (.slice a r.1.length c)≠some k) rows r.1∧r.1.length≤20001∧Below w.heap.size w w'
theorem la_neP {w:World} {b t:Nat} {la:Option Addr} {T:List Tok} {v:Value} (hsl:SL w la (zc2 T)) (hT:0<T.length) (hB:Bx w b #[v] t):∀ ad,la=some ad→ad.block≠b:=by
 intro ad ha e
 have hrow:∃ r,zc2 T = .int .i64 (zai T 0).k :: .int .i64 (zai T 0).p :: .int .i64 (zai T 0).e::r:=by
  cases T with
  | nil=>simp at hT
  | cons t T=>exact ⟨_,rfl⟩
 obtain ⟨r,hr⟩:=hrow
 rcases hsl with h0|⟨b',off,e1,h1⟩
 ·rw [hr] at h0;cases h0
 ·rw [ha] at e1;injection e1 with e1;subst e1
  simp only at e
  subst e
  have c1:=h1 1 (.int .i64 (zai T 0).p) (by rw [hr];rfl)
  rw [hB.cell] at c1
  simp at c1
theorem own_base {w:World} {B B' e size n:Nat} {v:Value} {xs:List Value} (h:w.ownsRow B e size v n xs) (hb:B'≤B):w.ownsRow B' e size v n xs:=by
 refine ⟨h.1,?_⟩
 rcases h.2 with hn|⟨g,cap,cur,hv,hg1,hh,r⟩
 ·exact .inl hn
 ·exact .inr ⟨g,cap,cur,hv,Nat.le_trans hb hg1,hh,r⟩
theorem stmP_adv {T:List Tok} (hW:Wf T) (s:PSt) (h:s.er=0) (h':(stmP T s).1.er=0):s.i<(stmP T s).1.i:=by
 obtain ⟨i,a0,er⟩:=s
 simp only at h
 subst h
 have ha:=stm_agr hW (a0:=a0) i
 cases hr:stmS T i with
 | er j e =>
  rw [hr] at ha
  exact absurd (ha.2.1.symm.trans h') ha.1
 | ok x j =>
  rw [hr] at ha
  have h2:stmP T ⟨i,a0,0⟩=(⟨j,a0,0⟩,x):=ha
  have:=stm_le hr
  rw [h2];simp only;omega
theorem stmsP_end {T:List Tok} (n:Nat) (s:PSt) (acc:List Stm) (h:¬(s.er=0∧¬(zai T s.i).k=0)):stmsP T n s acc=(s,acc):=by
 cases n with
 | zero=>rfl
 | succ n=>unfold stmsP;rw [if_neg h]
theorem parseProg_any (s:ByteArray) (w:World) (hs:s.size≤maxLen):Calls Tryz.prog 8 #[.string s] w (ProgPost w (progV s)):=by
 obtain ⟨V,hV⟩:∃ V,V=progV s:=⟨_,rfl⟩
 rw [←hV]
 unfold progV at hV
 refine za5 (rs:=[.cell 2 38,.tmp 3,.tmp 4]) (n:=64) Tryz.func8 rfl rfl rfl (by kernel_rfl) ?_
 have hA0:=Below.refl w.heap.size w
 refine zzr fun K hK=>?_
 simp [go_sem,za0,za4,za1]
 refine zza rfl zdk (fun w1 b1 hE1 hle1 hB1=>?_)
 have hb1_0:=Nat.le_trans hA0.size hle1
 replace hA0:=hA0.next hE1
 simp [go_sem,za0,za4,za1,hB1.cell]
 apply hK;clear hK K
 refine zzr fun K hK=>?_
 simp [go_sem,za0,za4,za1,hB1.cell]
 refine zzc rfl Tryz.call11 (fun R hR=>?_)
 simp [go_sem,za0,za4,za1,hB1.cell]
 refine (all_any s _ hs).mono ?_
 rintro e w2 ⟨la,cap,rfl,hsl,hE2⟩
 refine ⟨_,rfl,hR _ _ ?_⟩
 clear hR R
 replace hA0:=hA0.next hE2
 replace hB1:=hB1.keep hE2
 simp [go_sem,za0,za4,za1,hB1.cell]
 apply hK;clear hK K
 refine zab (fun K1 hK1=>?_)
 refine zzr fun K hK=>?_
 simp [go_sem,za0,za4,za1,hB1.cell]
 apply hK;clear hK K
 by_cases he:(allR s).2.2=0
 ·rw [if_pos he] at hV
  have he':((allR s).2.2:Int)=0:=by omega
  have hW:=wf_tok he
  have hlen:(allR s).1.length=(tokT s).length:=by simp [tokT]
  have hsv:tksC s (allR s).1=zc2 (tokT s):=(toks_tks s _).symm
  rw [hlen] at *
  rw [hsv] at hsl
  generalize tokT s=T at *
  have hT:T.length≤20001:=hW.size
  refine zaf (t:=false) (by simp [go_sem, he',he]) rfl ?_
  refine za7 ?_
  apply hK1
  refine zzr fun K hK=>?_
  simp [go_sem,za0,za4,za1,hB1.cell]
  refine zal #[.slice la T.length cap,.int .i64 0,.int .i64 0,.int .i64 0] (by simp [go_sem]) rfl ty_stZ47 [(0,.slice la T.length cap)] (by simp [go_sem]) rfl ?_
  simp [go_sem,za0]
  refine zal #[.slice la T.length cap,.int .i64 0,.int .i64 0,.int .i64 0] (by simp [go_sem]) rfl ty_stZ49 [(0,.agg #[.slice la T.length cap,.int .i64 0,.int .i64 0,.int .i64 0])] (by simp [go_sem]) rfl ?_
  simp [go_sem,za0]
  refine zal #[.slice la T.length cap,.int .i64 0,.int .i64 0,.int .i64 0] (by simp [go_sem]) rfl ty_stZ61 [(0,.agg #[.slice la T.length cap,.int .i64 0,.int .i64 0,.int .i64 0])] (by simp [go_sem]) rfl ?_
  simp [go_sem,za0]
  refine zbF #[.slice la T.length cap,.int .i64 0,.int .i64 0,.int .i64 0] (by simp [go_sem]) rfl (by simp [go_sem,Value.cells]) (fun w9 b9 hE9 hle9 hB9=>?_)
  have hpos:=hW.pos
  have hlan:=la_neP hsl hpos hB1
  have hlal:=la_lt hsl hpos
  have hwb1:=hle1
  have hb1b:b1<b9:=Nat.lt_of_lt_of_le (hB1.lt) hle9
  have hwb9:w.heap.size≤b9:=Nat.le_trans hA0.size hle9
  have hP:PSS w9 b9 61 la cap T ⟨0,0,0⟩:=⟨by simpa using hB9,hsl.ext hE9,fun ad ha=>by have:=hlal ad ha;omega,hpos⟩
  replace hA0:=hA0.next hE9
  replace hB1:=hB1.keep hE9
  have hle9':=hle9
  clear hB9 hsl hE9 hle9
  obtain ⟨b,hb⟩:∃ b,b=b9:=⟨_,rfl⟩
  subst hb
  have hG:w.grownBy w9 (some b):=zaa hA0
  have hla0:=hlan
  clear hA0
  simp [go_sem,za0,za4,za1,hB1.cell]
  apply hK;clear hK K
  refine zab (fun K2 hK2=>?_)
  unfold progP at hV
  obtain ⟨Z,hZ⟩:∃ Z,Z=stmsP T T.length ⟨0,0,0⟩ []:=⟨_,rfl⟩
  replace hV:V=if Z.1.er=0 then (Z.2,0,0) else ([],Z.1.at',Z.1.er):=by rw [hV,hZ]
  obtain ⟨N4,hN4⟩:∃ N,N=w9.heap.size:=⟨_,rfl⟩
  have hbN4:=hP.lt'
  have h1N4:=hB1.lt
  rw [←hN4] at hbN4 h1N4
  have hlaN:∀ ad,la=some ad→ad.block<N4:=fun ad ha=>by have:=hlal ad ha;omega
  have hwN4:w.heap.size≤N4:=by omega
  have tail:∀ (g:G) (w9:World) (s':PSt) (acc xs:List Stm) (rows:List (List Value)) (va:Option Addr) (vc:Nat),Z=(s',acc)→(s'.er=0→xs=acc)→xs.length≤T.length→g 2 = .pointer (some ⟨b1,0,none⟩)→g 6 = .pointer (some ⟨b,0,none⟩)→PSS w9 b 61 la cap T s'→w.grownBy w9 (some b)→Bx w9 b1 #[.slice va xs.length vc] 38→w9.ownsRow N4 64 10 (.slice va xs.length vc) xs.length rows.flatten→NB w9 (.slice va xs.length vc)→RSs w9 (fun k=>N4≤k∧Value.ownBlock (.slice va xs.length vc)≠some k) rows xs→K2 g w9:=by
   clear hP hG hB1
   intro g w9 s' acc xs rows va vc hz hx hxl g2 g6 hP hG hB1 hown hnb hrx
   rw [hz] at hV
   apply hK2
   refine zab (fun K4 hK4=>?_)
   refine zzr fun K hK=>?_
   simp [go_sem,za0,za4,za1,hB1.cell,g2,g6]
   refine zzc rfl Tryz.call15 (fun R hR=>?_)
   simp [go_sem,za0,za4,za1,hB1.cell,g2,g6]
   refine (zd5 hP).mono ?_
   rintro e w3 ⟨rfl,hE3⟩
   refine ⟨_,rfl,hR _ _ ?_⟩
   clear hR R
   replace hB1:=hB1.keep hE3
   replace hG:=hG.trans (zaa hE3)
   replace hP:=hP.ext hE3
   replace hrx:=hrx.ext hE3
   replace hnb:=hnb.keep hE3
   replace hown:=zas hown hE3
   simp [go_sem,za0,za4,za1,hB1.cell,g2,g6]
   apply hK;clear hK K
   by_cases h0:s'.er=0
   ·rw [if_pos h0] at hV
    refine zaf (t:=false) (by simp [go_sem,g2,g6, h0]) rfl ?_
    refine za7 ?_
    apply hK4
    refine zzr fun K hK=>?_
    simp [go_sem,za0,za4,za1,hB1.cell,g2,g6]
    refine zzs (b:=b1) (off:=0) [.slice va xs.length vc] rfl zcj hB1 (fun w4 hS4 hB4=>?_) (by simp [go_sem,Value.cells,g2,g6])
    simp [zaw] at hB4
    replace hrx:=hrx.ch (Ch.of_sto hS4 (NL.of_bx hB1 (by intro u hu x e;subst e;simp at hu))) (by intro k hk e;subst e;first|exact hk.2 rfl|omega)
    replace hnb:=zdf hnb hown hS4 (by omega)
    replace hown:=zbu hown hS4 (by omega)
    replace hG:=zan hG hS4 hwb1
    replace hP:=hP.sto hS4 (by omega) (fun ad ha=>by have:=hla0 ad ha;omega)
    simp [go_sem,za0,za4,za1,g2,g6,hB4.cell]
    apply hK;clear hK K
    refine zad ?_
    repeat first|refine za3 ?_|refine za2 ?_
    subst hV
    rw [hx h0] at hown hnb hrx hxl
    refine ⟨by simp [go_sem,zaD,zam,za4,za1,za0,hB4.cell,g2],?_⟩
    refine ⟨va,vc,rows,?_,own_base hown hwN4,hnb,hrx.mono (fun k hk=>⟨Nat.le_trans hwN4 hk.1,hk.2⟩),(by show acc.length≤20001;omega),below_of_grown hG hwb9⟩
    simp [go_sem,zar,zam,za4,za1,za0,hB4.cell,g2,hx h0]
   ·rw [if_neg h0] at hV
    refine zaf (t:=true) (by simp [go_sem,g2,g6,h0]) rfl ?_
    have hbL:∀ a∈[(⟨b,2,none⟩:Addr),⟨b,3,none⟩],a.block≠b1:=by
     intro a ha
     simp only [List.mem_cons,List.not_mem_nil,or_false] at ha
     rcases ha with rfl|rfl<;>(simp only;omega)
    obtain ⟨k0,k1,k2,k3⟩:=PS.cells (hP.ext (Below.drew1 _))
    have hD5:=Below.drew1 w3
    replace hB1:=hB1.keep hD5
    replace hG:=hG.trans (zaa hD5)
    replace hP:=hP.ext hD5
    replace hrx:=hrx.ext hD5
    replace hnb:=hnb.keep hD5
    replace hown:=zas hown hD5
    refine W_rdS ([⟨b,2,none⟩,⟨b,3,none⟩]) [(1,0),(2,0),(3,0),(4,0),(5,0),(6,0),(7,0),(8,0),(9,0),(10,0),(11,0),(12,0),(0,1),(13,1),(14,0),(15,0)] (by kernel_rfl) (by kernel_rfl) (fun K hK=>?_)
    simp [go_sem,za0,za4,za1,hB1.cell,g2,g6,k2,k3]
    have hkp:Keep ([⟨b,2,none⟩,⟨b,3,none⟩]) w3.drew w3.drew:=zdc _ _
    refine zal #[.slice none 0 0] (by simp [go_sem]) rfl ty_stZ38 [] (by simp [go_sem]) rfl ?_
    refine zbb hkp ?_
    simp [go_sem,za0,za4,za1,hB1.cell,g2,g6,k2,k3]
    have hB1':=hB1
    refine zzs (b:=b1) (off:=0) [.slice none 0 0] rfl zcj hB1' (fun w60 hS60 hB60=>?_) (by simp [go_sem,Value.cells,g2])
    simp [zaw] at hB60
    have hkp2:Keep [⟨b,2,none⟩,⟨b,3,none⟩] _ w60:=Keep.sto hbL hS60
    refine zbb hkp2 ?_
    simp [go_sem,hkp2]
    apply hK;clear hK K
    refine zad ?_
    repeat first|refine za3 ?_|refine za2 ?_
    subst hV
    refine ⟨by simp [go_sem,zaD,zam,za4,za1,za0,hB60.cell,g2],?_⟩
    refine ⟨none,0,[],?_,World.ownsRow_nil _ _ _ _,NB.nil _,RSs.nil _ _,Nat.zero_le _,below_of_grown (zan hG hS60 hwb1) hwb9⟩
    simp [go_sem,zar,zam,za4,za1,za0,hB60.cell,g2]
  refine zac ?_
  refine zaz (fun m g w'=>∃ (s':PSt) (acc xs:List Stm) (rows:List (List Value)) (va:Option Addr) (vc:Nat),xs.length+m≤T.length∧(s'.er=0→T.length≤m+s'.i)∧stmsP T m s' acc=Z∧(s'.er=0→xs=acc)∧g 2 = .pointer (some ⟨b1,0,none⟩)∧g 6 = .pointer (some ⟨b,0,none⟩)∧PSS w' b 61 la cap T s'∧w.grownBy w' (some b)∧N4≤w'.heap.size∧Bx w' b1 #[.slice va xs.length vc] 38∧w'.ownsRow N4 64 10 (.slice va xs.length vc) xs.length rows.flatten∧NB w' (.slice va xs.length vc)∧RSs w' (fun k=>N4≤k∧Value.ownBlock (.slice va xs.length vc)≠some k) rows xs) T.length ?_ ?_
  ·exact ⟨⟨0,0,0⟩,[],[],[],none,0,by simp,fun _=>by simp,hZ.symm,fun _=>rfl,by simp [go_sem],by simp [go_sem],hP,hG,by omega,hB1,World.ownsRow_nil _ _ _ _,NB.nil _,RSs.nil _ _⟩
  clear hP hG hB1
  rintro m g w' ⟨s',acc,xs,rows,va,vc,hm,hi,hz,hx,g2,g6,hP,hG,hNs,hB1,hown,hnb,hrx⟩
  refine zab (fun K3 hK3=>?_)
  have hil:=hP.lt
  refine zzr fun K hK=>?_
  simp [go_sem,za0,za4,za1,hB1.cell,g2,g6]
  refine zzc rfl Tryz.call15 (fun R hR=>?_)
  simp [go_sem,za0,za4,za1,hB1.cell,g2,g6]
  refine (zd5 hP).mono ?_
  rintro e w6 ⟨rfl,hE6⟩
  refine ⟨_,rfl,hR _ _ ?_⟩
  clear hR R
  replace hB1:=hB1.keep hE6
  replace hG:=hG.trans (zaa hE6)
  replace hP:=hP.ext hE6
  replace hrx:=hrx.ext hE6
  replace hnb:=hnb.keep hE6
  replace hown:=zas hown hE6
  simp [go_sem,za0,za4,za1,hB1.cell,g2,g6]
  by_cases h0:s'.er=0
  ·simp [go_sem,za0,za4,za1,hB1.cell,g2,g6,h0]
   refine zzc rfl Tryz.call13 (fun R hR=>?_)
   simp [go_sem,za0,za4,za1,hB1.cell,g2,g6,h0,zcV]
   refine (zcd hP (by unfold maxLen;omega)).mono ?_
   rintro e w7 ⟨rfl,hE7⟩
   refine ⟨_,rfl,hR _ _ ?_⟩
   clear hR R
   replace hB1:=hB1.keep hE7
   replace hG:=hG.trans (zaa hE7)
   replace hP:=hP.ext hE7
   replace hrx:=hrx.ext hE7
   replace hnb:=hnb.keep hE7
   replace hown:=zas hown hE7
   simp [go_sem,za0,za4,za1,hB1.cell,g2,g6,h0,zcV]
   apply hK;clear hK K
   by_cases hk:(zai T s'.i).k=0
   ·have hk':((zai T s'.i).k:Int)=0:=by omega
    refine zaf (t:=false) (by simp [go_sem,g2,g6,hk,hk',h0]) rfl ?_
    refine zav ?_
    repeat (first|refine zae ?_|refine za6 rfl ?_|refine za8 ?_)
    rw [stmsP_end m s' acc (fun hh=>hh.2 hk)] at hz
    exact tail _ _ s' acc xs rows va vc hz.symm hx (by omega) (by simp [go_sem,g2]) (by simp [go_sem,g6]) hP hG hB1 hown hnb hrx
   ·have hk':¬((zai T s'.i).k:Int)=0:=by omega
    cases m with
    | zero=>have:=hi h0;omega
    | succ m =>
     unfold stmsP at hz
     rw [if_pos ⟨h0,hk⟩] at hz
     have hxa:=hx h0
     refine zaf (t:=true) (by simp [go_sem,g2,g6,hk,hk',h0]) rfl ?_
     refine za7 ?_
     apply hK3
     refine zac ?_
     have hN7:N4≤w7.heap.size:=Nat.le_trans hNs (Nat.le_trans hE6.size hE7.size)
     have hD8:=Below.drew1 w7
     replace hB1:=hB1.keep hD8
     replace hG:=hG.trans (zaa hD8)
     replace hP:=hP.ext hD8
     replace hrx:=hrx.ext hD8
     replace hnb:=hnb.keep hD8
     replace hown:=zas hown hD8
     refine zeJ ([⟨b1,0,none⟩]) [(0,0),(1,0),(2,0),(3,1),(4,1),(5,2),(6,0),(7,2)] (by kernel_rfl) (by kernel_rfl) (fun K hK=>?_)
     simp [go_sem,za0,za4,za1,hB1.cell,g2,g6]
     have hkp:Keep ([⟨b1,0,none⟩]) w7.drew w7.drew:=zdc _ _
     have hN8:N4≤w7.drew.heap.size:=Nat.le_trans hN7 hD8.size
     have hownD:=hown
     refine zzc rfl Tryz.call21 (fun R hR=>?_)
     simp [go_sem,za0,za4,za1,hB1.cell,g2,g6]
     refine (statement_any hW hP).mono ?_
     rintro e w30 ⟨Rx,x,rfl,hsx,hxv,hQ30,hg30⟩
     refine ⟨_,rfl,hR _ _ ?_⟩
     clear hR R
     replace hkp:=hkp.trans (Keep.grown (by intro a ha;simp only [List.mem_cons,List.not_mem_nil,or_false] at ha;rcases ha with rfl<;>exact ⟨by first|exact hB1.lt,(by intro e;injection e with e;simp at e;omega)⟩) hg30)
     replace hrx:=hrx.ch (hP.ch hg30) (by intro k hk e;subst e;first|omega|(have:=hk.1;omega))
     replace hnb:=zdO hnb hown hg30 (by omega)
     replace hown:=zcF hown hg30 (by omega)
     replace hB1:=hB1.grown hg30 (by intro e;injection e with e;omega)
     replace hP:=hQ30
     replace hG:=hG.trans hg30
     clear hQ30
     refine zbb hkp ?_
     obtain ⟨a,c,ya,yc,yb,yd,ye,yp,hRx,_⟩:=id hsx.open
     subst hRx
     replace hsx:=hsx.mono (F':=fun k=>N4≤k∧Value.ownBlock (.slice va xs.length vc)≠some k) (fun k hk=>⟨Nat.le_trans hN8 hk,fun e=>by have:=(hownD.lt k e).2;exact absurd hk (by omega)⟩)
     simp [go_sem,za0,za4,za1,hB1.cell,g2,g6]
     refine zak #[.int .i64 x.kind,.slice a x.names.length c,.int .i64 x.expr.kind,.string ⟨x.expr.name.toArray⟩,.bool x.expr.neg,.slice ya x.expr.num.length yc,.slice yb x.expr.den.length yd,.slice ye x.expr.args.length yp,.int .i64 x.expr.pos,.int .i64 x.pos] (by simp [go_sem,za0,za4,za1,hB1.cell,g2,g6]) rfl ty_slZ36 (by decide) [(0,.agg #[.int .i64 x.kind,.slice a x.names.length c,.int .i64 x.expr.kind,.string ⟨x.expr.name.toArray⟩,.bool x.expr.neg,.slice ya x.expr.num.length yc,.slice yb x.expr.den.length yd,.slice ye x.expr.args.length yp,.int .i64 x.expr.pos,.int .i64 x.pos])] (by simp [go_sem,za0,za4,za1,hB1.cell,g2,g6]) (by kernel_rfl) (fun w40 b40 hE40 hle40 hB40=>?_)
     replace hkp:=hkp.trans (Keep.below (by intro a ha;simp only [List.mem_cons,List.not_mem_nil,or_false] at ha;rcases ha with rfl<;>first|exact hB1.lt) hE40)
     have hwb40:_≤b40:=Nat.le_trans hG.size hle40
     have hd1_40:b1≠b40:=Nat.ne_of_lt (Nat.lt_of_lt_of_le hB1.lt hle40)
     replace hB1:=hB1.keep hE40
     replace hG:=hG.trans (zaa hE40)
     replace hP:=hP.ext hE40
     replace hrx:=hrx.ext hE40
     replace hsx:=hsx.ext hE40
     replace hnb:=hnb.keep hE40
     replace hown:=zas hown hE40
     refine zbb hkp ?_
     simp [go_sem,za0,za4,za1,hB1.cell,g2,g6,hB40.cell]
     have hN40:N4≤w40.heap.size:=Nat.le_trans hN8 (Nat.le_trans hg30.size hE40.size)
     refine zcn (v:=.slice va xs.length vc) (b:=b40) (len:=1) (c:=1) hB40 (by simp [go_sem]) rfl ty_slZ36 ty_bytes64 rfl (by decide) (by simp [go_sem,za0,hB1.cell,g2]) (by simp [go_sem]) hown rfl (by simp [Value.oneCell']) (by unfold maxLen;omega) (by omega) hN40 (by decide) (by intro u hu x e;subst e;simp at hu) (by intro u hu x e;subst e;simp at hu) hnb (fun v' w50 hown' hg50 hat50 hnb'=>?_)
     obtain ⟨va',vc',rfl⟩:=zbf hown'
     have hob:∀ k,(Value.ownBlock (.slice va xs.length vc))=some k→N4≤k:=fun k e=>(hown.lt k e).1
     replace hrx:=((hrx.snoc hsx).blt).ch (Ch.of_grown hg50 (NL.of_nb hnb)) (fun k hk e=>hk.1.2 e)
     replace hrx:=hrx.mono (F':=fun k=>N4≤k∧Value.ownBlock (.slice va' (xs.length+1) vc')≠some k) (fun k hk=>⟨hk.1.1,fun e=>by
      rcases hat50 with h|h
      ·exact hk.1.2 (h▸e)
      ·rw [h] at e;injection e with e;have:=hk.2;omega⟩)
     replace hP:=hP.grown hg50 (fun e=>by have:=hob b e.symm;omega) (fun ad ha e=>by have:=hob ad.block e.symm;have:=hlaN ad ha;omega)
     replace hG:=grown_own hG hg50 (fun k e=>by have:=hob k e;omega)
     have hkp2:=hkp.trans (Keep.grown (by intro a ha;simp only [List.mem_cons,List.not_mem_nil,or_false] at ha;subst ha;exact ⟨hB1.lt,fun e=>by have:=hob b1 e.symm;omega⟩) hg50)
     replace hB1:=hB1.grown hg50 (fun e=>by have:=hob b1 e.symm;omega)
     refine zde ?_
     simp [go_sem,za0,za4,za1,g2,g6,hB1.cell,hkp2]
     refine zzs (b:=b1) (off:=0) [.slice va' (xs.length+1) vc'] rfl ty_size36 hB1 (fun w60 hS60 hB60=>?_) (by simp [go_sem,Value.cells,g2,g6])
     simp [zaw] at hB60
     replace hrx:=hrx.ch (Ch.of_sto hS60 (NL.of_bx hB1 (by intro u hu x e;subst e;simp at hu))) (by intro k hk e;subst e;first|exact hk.2 rfl|omega)
     replace hnb':=zdf hnb' hown' hS60 (by omega)
     replace hown':=zbu hown' hS60 (by omega)
     replace hG:=zan hG hS60 hwb1
     replace hP:=hP.sto hS60 (by omega) (fun ad ha=>by have:=hla0 ad ha;omega)
     refine zde ?_
     simp [go_sem,za0,za4,za1,g2,g6,hB60.cell]
     apply hK;clear hK K
     have hN60:N4≤w60.heap.size:=by rw [hS60.size];exact Nat.le_trans hN40 hg50.size
     have hlx:(xs++[x]).length=xs.length+1:=by simp
     refine ⟨m,by omega,(stmP T s').1,acc++[(stmP T s').2],xs++[x],rows++[[.int .i64 x.kind,.slice a x.names.length c,.int .i64 x.expr.kind,.string ⟨x.expr.name.toArray⟩,.bool x.expr.neg,.slice ya x.expr.num.length yc,.slice yb x.expr.den.length yd,.slice ye x.expr.args.length yp,.int .i64 x.expr.pos,.int .i64 x.pos]],va',vc',by omega,fun e=>by have:=stmP_adv hW s' h0 e;have:=hi h0;omega,hz,fun e=>by rw [hxv e,hxa],by simp [go_sem,g2],by simp [go_sem,g6],hP,hG,hN60,by rw [hlx];exact hB60,by rw [hlx];simpa using hown',by rw [hlx];exact hnb',by rw [hlx];exact hrx⟩
  ·simp [go_sem,za0,za4,za1,hB1.cell,g2,g6,h0]
   apply hK;clear hK K
   refine zaf (t:=false) (by simp [go_sem,g2,g6,h0]) rfl ?_
   refine zav ?_
   repeat (first|refine zae ?_|refine za6 rfl ?_|refine za8 ?_)
   rw [stmsP_end m s' acc (fun hh=>h0 hh.1)] at hz
   exact tail _ _ s' acc xs rows va vc hz.symm hx (by omega) (by simp [go_sem,g2]) (by simp [go_sem,g6]) hP hG hB1 hown hnb hrx
 ·rw [if_neg he] at hV
  have he':¬((allR s).2.2:Int)=0:=by omega
  refine zaf (t:=true) (by simp [go_sem,he',he]) rfl ?_
  refine zzr fun K hK=>?_
  simp [go_sem,za0,za4,za1,hB1.cell]
  refine zal #[.slice none 0 0] (by simp [go_sem]) rfl ty_stZ38 [] (by simp [go_sem]) rfl ?_
  simp [go_sem,za0]
  refine zzs (b:=b1) (off:=0) [.slice none 0 0] rfl zcj hB1 (fun w61 hS61 hB61=>?_) (by simp [go_sem,Value.cells])
  simp [zaw] at hB61
  replace hA0:=hA0.nextS hS61 (by first|exact hb1_0|omega)
  simp [go_sem,za0,za4,za1,hB61.cell]
  apply hK;clear hK K
  refine zad ?_
  repeat first|refine za3 ?_|refine za2 ?_
  subst hV
  refine ⟨by simp [go_sem,zaD,zam,za4,za1,za0,hB61.cell],?_⟩
  refine ⟨none,0,[],?_,World.ownsRow_nil _ _ _ _,NB.nil _,RSs.nil _ _,Nat.zero_le _,hA0⟩
  simp [go_sem,zar,zam,za4,za1,za0,hB61.cell]
theorem rnum_any (t:Tok) (h0:qrE t.t=0) (hl:t.t.length≤20000) (w:World):Calls Tryz.prog 83 #[.agg (zcV t).toArray] w fun e w'=>∃ a c a' c',e = .returned (.agg #[.bool (qR3 (qrV t.t)).1,.slice a (qR3 (qrV t.t)).2.1.length c,.slice a' (qR3 (qrV t.t)).2.2.length c'])∧RV w' (qR3 (qrV t.t)) (.agg #[.bool (qR3 (qrV t.t)).1,.slice a (qR3 (qrV t.t)).2.1.length c,.slice a' (qR3 (qrV t.t)).2.2.length c'])∧qS (qR3 (qrV t.t)) 1005∧Below w.heap.size w w':=by
 refine za5 (args:=[.agg #[.int .i64 t.k,.int .i64 t.p,.int .i64 t.e,.string ⟨t.t.toArray⟩]]) (rs:=[.cell 2 27]) (n:=12) Tryz.func83 rfl rfl rfl (by kernel_rfl) ?_
 have hA0:=Below.refl w.heap.size w
 refine zzr fun K hK=>?_
 simp [go_sem,za0,za4,za1]
 refine zbF #[.int .i64 t.k,.int .i64 t.p,.int .i64 t.e,.string ⟨t.t.toArray⟩] (by simp [go_sem,za0,za4,za1]) rfl (by simp [go_sem,Value.cells,za0,za4,za1]) (fun w1 b1 hE1 hle1 hB1=>?_)
 have hb1_0:=Nat.le_trans hA0.size hle1
 replace hA0:=hA0.next hE1
 simp [go_sem,za0,za4,za1,hB1.cell]
 refine zza rfl zb2 (fun w2 b2 hE2 hle2 hB2=>?_)
 have hb2_0:=Nat.le_trans hA0.size hle2
 have hd1_2:b1≠b2:=Nat.ne_of_lt (Nat.lt_of_lt_of_le hB1.lt hle2)
 replace hA0:=hA0.next hE2
 replace hB1:=hB1.keep hE2
 simp [go_sem,za0,za4,za1,hB1.cell,hB2.cell]
 apply hK;clear hK K
 refine zzr fun K hK=>?_
 simp [go_sem,za0,za4,za1,hB1.cell,hB2.cell]
 refine zzc rfl Tryz.call99 (fun R hR=>?_)
 simp [go_sem,za0,za4,za1,hB1.cell,hB2.cell]
 refine (readRq_any t.t _ hl h0).mono ?_
 rintro e w3 ⟨v,rfl,⟨a,c,a',c',rfl,r1,r2⟩,hqs,hE3⟩
 refine ⟨_,rfl,hR _ _ ?_⟩
 clear hR R
 replace hA0:=hA0.next hE3
 replace hB1:=hB1.keep hE3
 replace hB2:=hB2.keep hE3
 have hv:RV w3 (qR3 (qrV t.t)) _:=⟨a,c,a',c',rfl,r1,r2⟩
 simp [go_sem,za0,za4,za1,hB1.cell,hB2.cell]
 refine zza rfl zb2 (fun w4 b4 hE4 hle4 hB4=>?_)
 have hb4_0:=Nat.le_trans hA0.size hle4
 have hd1_4:b1≠b4:=Nat.ne_of_lt (Nat.lt_of_lt_of_le hB1.lt hle4)
 have hd2_4:b2≠b4:=Nat.ne_of_lt (Nat.lt_of_lt_of_le hB2.lt hle4)
 replace hA0:=hA0.next hE4
 replace hB1:=hB1.keep hE4
 replace hB2:=hB2.keep hE4
 replace hv:=hv.ext hE4
 simp [go_sem,za0,za4,za1,hB1.cell,hB2.cell,hB4.cell]
 refine zzs (b:=b4) (off:=0) [.bool (qR3 (qrV t.t)).1,.slice a (qR3 (qrV t.t)).2.1.length c,.slice a' (qR3 (qrV t.t)).2.2.length c'] rfl zax hB4 (fun w5 hS5 hB5=>?_) (by simp [go_sem,Value.cells])
 simp [zaw] at hB5
 replace hA0:=hA0.nextS hS5 (by first|exact hb4_0|omega)
 replace hv:=hv.ch (Ch.of_sto hS5 (NL.of_bx hB4 (by intro u hu x e;subst e;simp at hu)))
 replace hB1:=hB1.sto hS5 (by first|exact hd1_4|exact (hd4_1).symm)
 replace hB2:=hB2.sto hS5 (by first|exact hd2_4|exact (hd4_2).symm)
 simp [go_sem,za0,za4,za1,hB1.cell,hB2.cell,hB5.cell]
 apply hK;clear hK K
 refine zzr fun K hK=>?_
 simp [go_sem,za0,za4,za1,hB1.cell,hB2.cell,hB5.cell]
 refine zzs (b:=b2) (off:=0) [.bool (qR3 (qrV t.t)).1,.slice a (qR3 (qrV t.t)).2.1.length c,.slice a' (qR3 (qrV t.t)).2.2.length c'] rfl zax hB2 (fun w6 hS6 hB6=>?_) (by simp [go_sem,Value.cells])
 simp [zaw] at hB6
 replace hA0:=hA0.nextS hS6 (by first|exact hb2_0|omega)
 replace hv:=hv.ch (Ch.of_sto hS6 (NL.of_bx hB2 (by intro u hu x e;subst e;simp at hu)))
 replace hB1:=hB1.sto hS6 (by first|exact hd1_2|exact (hd2_1).symm)
 replace hB5:=hB5.sto hS6 (by first|exact hd4_2|exact (hd2_4).symm)
 simp [go_sem,za0,za4,za1,hB1.cell,hB5.cell,hB6.cell]
 apply hK;clear hK K
 refine zad ?_
 repeat first|refine za3 ?_|refine za2 ?_
 refine ⟨by simp [go_sem,zaD,zam,za4,za1,za0,hB6.cell],a,c,a',c',?_,hv,hqs,hA0⟩
 simp [go_sem,zar,zam,za4,za1,za0,hB6.cell]
def resQ:Res Rat→R3
 | .ok x _=>qR3 x
 | .er _ _=>r30
def RatPost (w:World) (r:Res Rat) (e:Ending) (w':World):Prop:=∃ (a a':Option Addr) (c c':Nat),e = .returned (.tuple #[.agg #[.bool (resQ r).1,.slice a (resQ r).2.1.length c,.slice a' (resQ r).2.2.length c'],.int .i64 (zbB r),.int .i64 (zcu r)])∧RV w' (resQ r) (.agg #[.bool (resQ r).1,.slice a (resQ r).2.1.length c,.slice a' (resQ r).2.2.length c'])∧qS (resQ r) 200000∧Below w.heap.size w w'
theorem zbg {w:World} {lb lo:Nat} {T:List Tok} (hsl:SL w (some ⟨lb,lo,none⟩) (zc2 T)) {i:Nat} (hi:i<T.length):w.cell? ⟨lb,lo+i*4,none⟩=some (.int .i64 (zai T i).k)∧w.cell? ⟨lb,lo+i*4+1,none⟩=some (.int .i64 (zai T i).p)∧w.cell? ⟨lb,lo+i*4+3,none⟩=some (.string ⟨(zai T i).t.toArray⟩):=by
 obtain ⟨b,o,e,h⟩:=toks_len hsl hi
 injection e with e
 injection e with e1 e2
 subst e1;subst e2
 exact h
theorem rat_row {w:World} {b t:Nat} {x y z:Value} (h:Bx w b #[x,y,z] t):za4 w ⟨b,0,none⟩ 0 3=[x,y,z]∧za1 w ⟨b,0,none⟩ 0 3:=by
 refine ⟨?_,?_⟩
 ·simp [za4,cellV,za0,h.cell]
 ·simp [za1,za0,h.cell]
theorem qS_neg {x:Rat} {s:Nat} (h:qS (qR3 x) s):qS (qR3 (-x)) s:=by
 have e1:(-x).num.natAbs=x.num.natAbs:=by rw [Rat.neg_num,Int.natAbs_neg]
 have e2:(-x).den=x.den:=Rat.neg_den ..
 unfold qR3
 unfold qS
 simp only [e1,e2]
 exact h
theorem rratio_any {w:World} {la:Option Addr} {cap:Nat} {T:List Tok} (hsl:SL w la (zc2 T)) (hW:Wf T) (i:Nat) (hi:i<T.length) :
  Calls Tryz.prog 65 #[.slice la T.length cap,.int .i64 i] w (RatPost w (ratS T i)):=by
 have hT:T.length≤20001:=hW.size
 obtain ⟨R,hR⟩:∃ R,R=ratS T i:=⟨_,rfl⟩
 rw [←hR]
 unfold ratS at hR
 obtain ⟨lb,lo,rfl,_⟩:=toks_len hsl hi
 refine za5 (args:=[.slice (some ⟨lb,lo,none⟩) T.length cap,.int .i64 i]) (rs:=[.cell 4 27,.tmp 5,.tmp 6]) (n:=84) Tryz.func65 rfl rfl rfl (by kernel_rfl) ?_
 have hA0:=Below.refl w.heap.size w
 refine zzr fun K hK=>?_
 simp [go_sem,za0,za4,za1]
 refine zza rfl zb2 (fun w1 b1 hE1 hle1 hB1=>?_)
 have hb1_0:=Nat.le_trans hA0.size hle1
 replace hA0:=hA0.next hE1
 simp [go_sem,za0,za4,za1,hB1.cell]
 apply hK;clear hK K
 refine zzr fun K hK=>?_
 simp [go_sem,za0,za4,za1,hB1.cell]
 refine zzc rfl Tryz.call47 (fun R hR=>?_)
 simp [go_sem,za0,za4,za1,hB1.cell]
 refine (zdp (hsl.ext hA0) hT i hi sCM).mono ?_
 rintro e w2 ⟨rfl,hE2⟩
 refine ⟨_,rfl,hR _ _ ?_⟩
 clear hR R
 replace hA0:=hA0.next hE2
 replace hB1:=hB1.keep hE2
 simp [go_sem,za0,za4,za1,hB1.cell]
 apply hK;clear hK K
 refine zab (fun K1 hK1=>?_)
 rcases zct (T:=T) sCM i 0 with ⟨e1,_⟩|⟨e1,_⟩
 ·rw [e1] at hR ⊢
  simp only at hR
  have hk0:(zai T i).k≠0:=by
   intro h;unfold zeE at e1;rw [if_pos (.inl h)] at e1;cases e1
  have hj:=hW.next hi hk0
  have hj':((i+1:Nat):Int)<T.length:=by omega
  obtain ⟨j,hje⟩:∃ j,j=i+1:=⟨_,rfl⟩
  rw [←hje] at hj hj' hR ⊢
  refine zzr fun K hK=>?_
  simp [go_sem,za0,za4,za1,hB1.cell, zbB,zcu]
  apply hK;clear hK K
  refine zaf (t:=false) (by simp [go_sem, zbB,zcu]) rfl ?_
  refine za7 ?_
  apply hK1
  obtain ⟨c0,c1,c3⟩:=zbg (hsl.ext hA0) hj
  refine zzr fun K hK=>?_
  simp [go_sem,za0,za4,za1,hB1.cell, hj,hj',c0,c1,c3]
  apply hK;clear hK K
  refine zab (fun K2 hK2=>?_)
  have tail:∀ (g:G) (w9:World) (neg:Bool) (j:Nat),j<T.length→ratS1 T neg j=R→g 0 = .slice (some ⟨lb,lo,none⟩) T.length cap→g 1 = .int .i64 j→g 4 = .pointer (some ⟨b1,0,none⟩)→g 8 = .bool neg→Below w.heap.size w w9→Bx w9 b1 #[.bool false,.slice none 0 0,.slice none 0 0] 27→K2 g w9:=by
   clear hA0 hB1 hR c0 c1 c3 hj hj'
   intro g w9 neg j hj hR g0 g1 g4 g8 hA0 hB1
   unfold ratS1 at hR
   have hj':(j:Int)<T.length:=by omega
   obtain ⟨c0,c1,c3⟩:=zbg (hsl.ext hA0) hj
   apply hK2
   refine zab (fun K3 hK3=>?_)
   by_cases h2:(zai T j).k=2
   ·have h2':((zai T j).k:Int)=2:=by omega
    rw [if_neg (fun h=>h h2)] at hR
    have hj1:=hW.next hj (show (zai T j).k≠0 by rw [h2];decide)
    have hw1:IntKind.i64.wrap ((j:Int)+1)=(j+1:Nat):=zzw (by omega)
    obtain ⟨r1,r2,_⟩:=zdt (hsl.ext hA0) hj
    simp only [Option.getD_some,za0] at r1 r2
    refine zzr fun K hK=>?_
    simp [go_sem,za0,za4,za1,hB1.cell,g0,g1,g4,g8, hj,hj',c0,c1,c3,h2']
    apply hK;clear hK K
    refine zaf (t:=false) (by simp [go_sem,g0,g1,g4,g8, h2']) rfl ?_
    refine za7 ?_
    apply hK3
    refine zzr fun K hK=>?_
    simp [go_sem,za0,hB1.cell,g0,g1,g4,g8, hj,hj',r1,r2]
    obtain ⟨x,hx⟩:∃ x,x=qrV (zai T j).t:=⟨_,rfl⟩
    have hnum:=rnum_any (zai T j) (hW.num j h2) (hW.len j)
    rw [←hx] at hnum hR
    refine zzc rfl Tryz.call83 (fun R hR=>?_)
    simp [go_sem,za0,hB1.cell,g0,g1,g4,g8,r1,r2]
    refine (hnum _).mono ?_
    rintro e w20 ⟨a,c,a',c',rfl,hv,hqs,hE20⟩
    refine ⟨_,rfl,hR _ _ ?_⟩
    clear hR R
    replace hA0:=hA0.next hE20
    replace hB1:=hB1.keep hE20
    simp [go_sem,za0,hB1.cell,g0,g1,g4,g8]
    refine zza rfl zb2 (fun w30 b30 hE30 hle30 hB30=>?_)
    have hb30_0:=Nat.le_trans hA0.size hle30
    have hd1_30:b1≠b30:=Nat.ne_of_lt (Nat.lt_of_lt_of_le hB1.lt hle30)
    replace hA0:=hA0.next hE30
    replace hB1:=hB1.keep hE30
    replace hv:=hv.ext hE30
    simp [go_sem,za0,hB1.cell,g0,g1,g4,g8,hB30.cell]
    refine zzs (b:=b30) (off:=0) [.bool (qR3 x).1,.slice a (qR3 x).2.1.length c,.slice a' (qR3 x).2.2.length c'] rfl zax hB30 (fun w31 hS31 hB31=>?_) (by simp [go_sem,Value.cells,g0,g1,g4,g8])
    simp [zaw] at hB31
    replace hA0:=hA0.nextS hS31 (by first|exact hb30_0|omega)
    replace hv:=hv.ch (Ch.of_sto hS31 (NL.of_bx hB30 (by intro u hu x e;subst e;simp at hu)))
    replace hB1:=hB1.sto hS31 (by first|exact hd1_30|exact (hd30_1).symm)
    simp [go_sem,za0,hB1.cell,g0,g1,g4,g8,hB31.cell]
    apply hK;clear hK K
    refine zab (fun K4 hK4=>?_)
    have tail3:∀ (g:G) (w9:World) (X:Rat) (a a':Option Addr) (c c':Nat),ratS2 T X (j+1)=R→g 0 = .slice (some ⟨lb,lo,none⟩) T.length cap→g 1 = .int .i64 j→g 4 = .pointer (some ⟨b1,0,none⟩)→g 9 = .pointer (some ⟨b30,0,none⟩)→Below w.heap.size w w9→Bx w9 b1 #[.bool false,.slice none 0 0,.slice none 0 0] 27→Bx w9 b30 #[.bool (qR3 X).1,.slice a (qR3 X).2.1.length c,.slice a' (qR3 X).2.2.length c'] 27→RV w9 (qR3 X) (.agg #[.bool (qR3 X).1,.slice a (qR3 X).2.1.length c,.slice a' (qR3 X).2.2.length c'])→qS (qR3 X) 10000→K4 g w9:=by
     clear hA0 hB1 hB31 hR c0 c1 c3 r1 r2 hv hqs hx hnum g0 g1 g4 g8
     intro g w9 X a a' c c' hR g0 g1 g4 g9 hA0 hB1 hB30 hv hqs
     unfold ratS2 at hR
     obtain ⟨m,hm⟩:∃ m,m=j+1:=⟨_,rfl⟩
     rw [←hm] at hj1 hR hw1
     have hj1':(m:Int)<T.length:=by omega
     apply hK4
     refine zzr fun K hK=>?_
     simp [go_sem,za0,g0,g1,g4,za4,za1,hB1.cell,hB30.cell,g9, hw1]
     apply hK;clear hK K
     refine zab (fun K5 hK5=>?_)
     obtain ⟨c0,c1,c3⟩:=zbg (hsl.ext hA0) hj1
     by_cases hs:(zai T m).t=[47]
     ·rw [if_neg (show ¬((zai T m).t≠sSL) from fun h=>h hs)] at hR
      have hmk:(zai T m).k≠0:=fun h=>by have:=hW.text m h;rw [hs] at this;cases this
      have hm1:=hW.next hj1 hmk
      obtain ⟨q,hq⟩:∃ q,q=m+1:=⟨_,rfl⟩
      rw [←hq] at hR hm1
      have hm1':(q:Int)<T.length:=by omega
      have hw2:IntKind.i64.wrap ((m:Int)+1)=(q:Int):=by rw [IntWalk.i64_in _ (by omega)];omega
      refine zzr fun K hK=>?_
      simp [go_sem,za0,g0,g1,g4,za4,za1,hB1.cell,hB30.cell,g9, hj1,hj1',c0,c1,c3,hs]
      apply hK;clear hK K
      refine zaf (t:=false) (by simp [go_sem,g0,g1,g4,g9, hs]) rfl ?_
      refine za7 ?_
      apply hK5
      refine zzr fun K hK=>?_
      simp [go_sem,za0,g0,g1,g4,za4,za1,hB1.cell,hB30.cell,g9, hw2]
      apply hK;clear hK K
      refine zab (fun K6 hK6=>?_)
      obtain ⟨d0,d1,d3⟩:=zbg (hsl.ext hA0) hm1
      by_cases hk2:(zai T q).k=2
      ·have hk2':((zai T q).k:Int)=2:=by omega
       rw [if_neg (fun h=>h hk2)] at hR
       refine zzr fun K hK=>?_
       simp [go_sem,za0,g0,g1,g4,za4,za1,hB1.cell,hB30.cell,g9, hm1,hm1',d0,d1,d3,hk2']
       apply hK;clear hK K
       refine zaf (t:=false) (by simp [go_sem,g0,g1,g4,g9, hk2']) rfl ?_
       refine za7 ?_
       apply hK6
       have hqn:=hW.next hm1 (show (zai T q).k≠0 by rw [hk2];decide)
       have hw3:IntKind.i64.wrap ((q:Int)+1)=(m+2:Nat):=by rw [IntWalk.i64_in _ (by omega)];omega
       obtain ⟨y,hy⟩:∃ y,y=qrV (zai T q).t:=⟨_,rfl⟩
       have hnum:=rnum_any (zai T q) (hW.num q hk2) (hW.len q)
       rw [←hy] at hnum hR
       obtain ⟨J,hJ⟩:∃ J:G→World→Prop,J=fun g' w2=>∃ b99 a c a' c',g' 0 = .slice (some ⟨lb,lo,none⟩) T.length cap∧g' 1 = .int .i64 q∧g' 4 = .pointer (some ⟨b1,0,none⟩)∧g' 7 = .int .i64 (if y=0 then 3 else 0)∧g' 10 = .pointer (some ⟨b99,0,none⟩)∧b1≠b99∧w.heap.size≤b99∧Below w.heap.size w w2∧Bx w2 b1 #[.bool false,.slice none 0 0,.slice none 0 0] 27∧Bx w2 b99 #[.bool (if y=0 then r30 else qR3 (X / y)).1,.slice a (if y=0 then r30 else qR3 (X / y)).2.1.length c,.slice a' (if y=0 then r30 else qR3 (X / y)).2.2.length c'] 27∧RV w2 (if y=0 then r30 else qR3 (X / y)) (.agg #[.bool (if y=0 then r30 else qR3 (X / y)).1,.slice a (if y=0 then r30 else qR3 (X / y)).2.1.length c,.slice a' (if y=0 then r30 else qR3 (X / y)).2.2.length c'])∧qS (if y=0 then r30 else qR3 (X / y)) 100000:=⟨_,rfl⟩
       refine W_rdTJ (J) (.li 0 (.li 1 (.li 2 (.li 3 (.li 4 (.fork 5 (.fork 6 (.li 7 (.li 8 (.li 9 (.hv 10 (.hv 11 (.li 12 .done)))))) (.hv 10 (.hv 6 (.li 7 (.li 8 (.li 9 (.hv 11 (.li 12 .done)))))))) (.hv 10 (.hv 5 (.hv 6 (.li 7 (.li 8 (.li 9 (.hv 11 (.li 12 .done)))))))))))))) (by kernel_rfl) (by kernel_rfl) ?_ ?_
       ·intro w0 hw0
        have hA:Below w.heap.size w w0:=by rw [hw0];exact hA0.next (Below.drew1 _)
        replace hB1:Bx w0 b1 #[.bool false,.slice none 0 0,.slice none 0 0] 27:=by rw [hw0];exact hB1.keep (Below.drew1 _)
        replace hB30:=hB30.keep (Below.drew1 _)
        replace hv:=hv.ext (Below.drew1 _)
        rw [←hw0] at hB30 hv
        clear hw0
        obtain ⟨r1,r2,_⟩:=zdt (hsl.ext hA) hm1
        simp only [Option.getD_some,za0] at r1 r2
        obtain ⟨s1,s2⟩:=rat_row hB30
        have hz:=Nat.le_refl w0.heap.size
        have hb1z:=hB1.lt
        clear hA0 c0 c1 c3 d0 d1 d3
        simp [go_sem,hm1,hm1',r1,r2,s1,s2,g0,g1,g4,g9,za0]
        refine ⟨?_,?_⟩
        ·skip
         refine zzc rfl Tryz.call83 (fun R hR=>?_)
         simp [go_sem,hm1,hm1',r1,r2,s1,s2,g0,g1,g4,g9,za0]
         refine (hnum _).mono ?_
         rintro e w51 ⟨ya,yc,ya',yc',rfl,hvy,hqsy,hE51⟩
         refine ⟨_,rfl,hR _ _ ?_⟩
         clear hR R
         refine zay (hE51.mono hz) ?_
         replace hz:=Nat.le_trans hz hE51.size
         replace hv:=hv.ext hE51
         replace hA:=hA.next hE51
         replace hB1:=hB1.keep hE51
         try replace hB60:=hB60.keep hE51
         simp [go_sem,hm1,hm1',r1,r2,s1,s2,g0,g1,g4,g9,za0]
         refine ⟨?_,?_⟩
         ·skip
          refine zzc rfl Tryz.call85 (fun R hR=>?_)
          simp [go_sem,hm1,hm1',r1,r2,s1,s2,g0,g1,g4,g9,za0]
          refine (divR_any hv hvy hqs ⟨by have:=hqsy.1;omega,by have:=hqsy.2;omega⟩).mono ?_
          rintro e w52 ⟨v,rfl,⟨da,dc,da',dc',rfl,dd1,dd2⟩,hqd,hE52⟩
          refine ⟨_,rfl,hR _ _ ?_⟩
          clear hR R
          refine zay (hE52.mono hz) ?_
          replace hz:=Nat.le_trans hz hE52.size
          have hvd:RV w52 (if y=0 then r30 else qR3 (X / y)) _:=⟨da,dc,da',dc',rfl,dd1,dd2⟩
          replace hA:=hA.next hE52
          replace hB1:=hB1.keep hE52
          try replace hB60:=hB60.keep hE52
          simp [go_sem,hm1,hm1',r1,r2,s1,s2,g0,g1,g4,g9,za0]
          refine zza rfl zb2 (fun w60 b60 hE60 hle60 hB60=>?_)
          refine zay (hE60.mono hz) ?_
          have hw060:w0.heap.size≤b60:=Nat.le_trans hz hle60
          replace hz:=Nat.le_trans hz hE60.size
          try replace hv:=hv.ext hE60
          have hw60:w.heap.size≤b60:=Nat.le_trans hA.size hle60
          replace hA:=hA.next hE60
          replace hB1:=hB1.keep hE60
          try replace hvd:=hvd.ext hE60
          try replace hvy:=hvy.ext hE60
          simp [go_sem,hm1,hm1',r1,r2,s1,s2,g0,g1,g4,g9,za0]
          refine zzs (b:=b60) (off:=0) [.bool (if y=0 then r30 else qR3 (X / y)).1,.slice da (if y=0 then r30 else qR3 (X / y)).2.1.length dc,.slice da' (if y=0 then r30 else qR3 (X / y)).2.2.length dc'] rfl zax hB60 (fun w61 hS61 hB61=>?_) (by simp [go_sem,Value.cells])
          simp [zaw] at hB61
          refine zay (hS61.below hw060) ?_
          have hne60:b1≠b60:=by omega
          replace hvd:=hvd.ch (Ch.of_sto hS61 (NL.of_bx hB60 (by intro u hu x e;subst e;simp at hu)))
          simp [go_sem,za0]
          rw [hJ]
          refine ⟨b60,da,dc,da',dc',?_,?_,?_,?_,?_,hne60,hw60,hA.nextS hS61 hw60,hB1.sto hS61 hne60,hB61,hvd,hqd⟩<;>simp [go_sem,g0,g1,g4]
         ·skip
          refine zza rfl zb2 (fun w60 b60 hE60 hle60 hB60=>?_)
          refine zay (hE60.mono hz) ?_
          have hw060:w0.heap.size≤b60:=Nat.le_trans hz hle60
          replace hz:=Nat.le_trans hz hE60.size
          try replace hv:=hv.ext hE60
          have hw60:w.heap.size≤b60:=Nat.le_trans hA.size hle60
          replace hA:=hA.next hE60
          replace hB1:=hB1.keep hE60
          try replace hvd:=hvd.ext hE60
          try replace hvy:=hvy.ext hE60
          simp [go_sem,hm1,hm1',r1,r2,s1,s2,g0,g1,g4,g9,za0]
          refine zzc rfl Tryz.call85 (fun R hR=>?_)
          simp [go_sem,hm1,hm1',r1,r2,s1,s2,g0,g1,g4,g9,za0]
          refine (divR_any hv hvy hqs ⟨by have:=hqsy.1;omega,by have:=hqsy.2;omega⟩).mono ?_
          rintro e w52 ⟨v,rfl,⟨da,dc,da',dc',rfl,dd1,dd2⟩,hqd,hE52⟩
          refine ⟨_,rfl,hR _ _ ?_⟩
          clear hR R
          refine zay (hE52.mono hz) ?_
          replace hz:=Nat.le_trans hz hE52.size
          have hvd:RV w52 (if y=0 then r30 else qR3 (X / y)) _:=⟨da,dc,da',dc',rfl,dd1,dd2⟩
          replace hA:=hA.next hE52
          replace hB1:=hB1.keep hE52
          try replace hB60:=hB60.keep hE52
          simp [go_sem,hm1,hm1',r1,r2,s1,s2,g0,g1,g4,g9,za0]
          refine zzs (b:=b60) (off:=0) [.bool (if y=0 then r30 else qR3 (X / y)).1,.slice da (if y=0 then r30 else qR3 (X / y)).2.1.length dc,.slice da' (if y=0 then r30 else qR3 (X / y)).2.2.length dc'] rfl zax hB60 (fun w61 hS61 hB61=>?_) (by simp [go_sem,Value.cells])
          simp [zaw] at hB61
          refine zay (hS61.below hw060) ?_
          have hne60:b1≠b60:=by omega
          replace hvd:=hvd.ch (Ch.of_sto hS61 (NL.of_bx hB60 (by intro u hu x e;subst e;simp at hu)))
          simp [go_sem,za0]
          rw [hJ]
          refine ⟨b60,da,dc,da',dc',?_,?_,?_,?_,?_,hne60,hw60,hA.nextS hS61 hw60,hB1.sto hS61 hne60,hB61,hvd,hqd⟩<;>simp [go_sem,g0,g1,g4]
        ·skip
         refine zza rfl zb2 (fun w60 b60 hE60 hle60 hB60=>?_)
         refine zay (hE60.mono hz) ?_
         have hw060:w0.heap.size≤b60:=Nat.le_trans hz hle60
         replace hz:=Nat.le_trans hz hE60.size
         try replace hv:=hv.ext hE60
         have hw60:w.heap.size≤b60:=Nat.le_trans hA.size hle60
         replace hA:=hA.next hE60
         replace hB1:=hB1.keep hE60
         try replace hvd:=hvd.ext hE60
         try replace hvy:=hvy.ext hE60
         simp [go_sem,hm1,hm1',r1,r2,s1,s2,g0,g1,g4,g9,za0]
         refine zzc rfl Tryz.call83 (fun R hR=>?_)
         simp [go_sem,hm1,hm1',r1,r2,s1,s2,g0,g1,g4,g9,za0]
         refine (hnum _).mono ?_
         rintro e w51 ⟨ya,yc,ya',yc',rfl,hvy,hqsy,hE51⟩
         refine ⟨_,rfl,hR _ _ ?_⟩
         clear hR R
         refine zay (hE51.mono hz) ?_
         replace hz:=Nat.le_trans hz hE51.size
         replace hv:=hv.ext hE51
         replace hA:=hA.next hE51
         replace hB1:=hB1.keep hE51
         try replace hB60:=hB60.keep hE51
         simp [go_sem,hm1,hm1',r1,r2,s1,s2,g0,g1,g4,g9,za0]
         refine zzc rfl Tryz.call85 (fun R hR=>?_)
         simp [go_sem,hm1,hm1',r1,r2,s1,s2,g0,g1,g4,g9,za0]
         refine (divR_any hv hvy hqs ⟨by have:=hqsy.1;omega,by have:=hqsy.2;omega⟩).mono ?_
         rintro e w52 ⟨v,rfl,⟨da,dc,da',dc',rfl,dd1,dd2⟩,hqd,hE52⟩
         refine ⟨_,rfl,hR _ _ ?_⟩
         clear hR R
         refine zay (hE52.mono hz) ?_
         replace hz:=Nat.le_trans hz hE52.size
         have hvd:RV w52 (if y=0 then r30 else qR3 (X / y)) _:=⟨da,dc,da',dc',rfl,dd1,dd2⟩
         replace hA:=hA.next hE52
         replace hB1:=hB1.keep hE52
         try replace hB60:=hB60.keep hE52
         simp [go_sem,hm1,hm1',r1,r2,s1,s2,g0,g1,g4,g9,za0]
         refine zzs (b:=b60) (off:=0) [.bool (if y=0 then r30 else qR3 (X / y)).1,.slice da (if y=0 then r30 else qR3 (X / y)).2.1.length dc,.slice da' (if y=0 then r30 else qR3 (X / y)).2.2.length dc'] rfl zax hB60 (fun w61 hS61 hB61=>?_) (by simp [go_sem,Value.cells])
         simp [zaw] at hB61
         refine zay (hS61.below hw060) ?_
         have hne60:b1≠b60:=by omega
         replace hvd:=hvd.ch (Ch.of_sto hS61 (NL.of_bx hB60 (by intro u hu x e;subst e;simp at hu)))
         simp [go_sem,za0]
         rw [hJ]
         refine ⟨b60,da,dc,da',dc',?_,?_,?_,?_,?_,hne60,hw60,hA.nextS hS61 hw60,hB1.sto hS61 hne60,hB61,hvd,hqd⟩<;>simp [go_sem,g0,g1,g4]
       ·intro g9' w2 hJ'
        rw [hJ] at hJ'
        clear hJ J g0 g1 g4 g9 hA0 hB1 hB30 hv c0 c1 c3 d0 d1 d3
        obtain ⟨b99,a,c,a',c',g0,g1,g4,g7,g10,hne,hb99,hA0,hB1,hB99,hv,hqz⟩:=hJ'
        have hd1_99:b1≠b99:=hne
        have hd99_1:b99≠b1:=hne.symm
        refine zab (fun K7 hK7=>?_)
        by_cases hy0:y=0
        ·simp only [hy0,if_true] at hR g7 hv hB99 hqz
         have hR1:R = .er q 3:=hR.symm
         refine zzr fun K hK=>?_
         simp [go_sem,za0,g0,g1,g4,za4,za1,hB1.cell,hB99.cell,g7,g10,za4,za1, hy0]
         apply hK;clear hK K
         refine zaf (t:=true) (by simp [go_sem,g0,g1,g4,g7,g10,hy0]) rfl ?_
         refine zzr fun K hK=>?_
         simp [go_sem,za0,g0,g1,g4,za4,za1,hB1.cell,hB99.cell,g7,g10,za4,za1]
         refine zal #[.bool false,.slice none 0 0,.slice none 0 0] (by simp [go_sem]) rfl zdr [] (by simp [go_sem]) rfl ?_
         simp [go_sem,za0]
         refine zzs (b:=b1) (off:=0) [.bool false,.slice none 0 0,.slice none 0 0] rfl zax hB1 (fun w32 hS32 hB32=>?_) (by simp [go_sem,Value.cells,g0,g1,g4,g7,g10])
         simp [zaw] at hB32
         replace hA0:=hA0.nextS hS32 (by first|exact hb1_0|omega)
         replace hv:=hv.ch (Ch.of_sto hS32 (NL.of_bx hB1 (by intro u hu x e;subst e;simp at hu)))
         replace hB99:=hB99.sto hS32 (by first|exact hd99_1|exact (hd1_99).symm)
         simp [go_sem,za0,g0,g1,g4,za4,za1,hB99.cell,g7,g10,za4,za1,hB32.cell]
         apply hK;clear hK K
         refine zad ?_
         repeat first|refine za3 ?_|refine za2 ?_
         rw [hR1]
         refine ⟨by simp [go_sem,zaD,zam,za4,za1,za0,hB32.cell,g4],none,none,0,0,?_,RV.nil _,⟨Nat.zero_le _,Nat.zero_le _⟩,hA0⟩
         simp [go_sem,zar,zam,za4,za1,za0,hB32.cell,resQ,zbB,zcu,r30,g4]
        ·simp only [hy0,if_false] at hR g7 hv hB99 hqz
         have hR1:R = .ok (X / y) (m+2):=hR.symm
         refine zzr fun K hK=>?_
         simp [go_sem,za0,g0,g1,g4,za4,za1,hB1.cell,hB99.cell,g7,g10,za4,za1, hy0]
         apply hK;clear hK K
         refine zaf (t:=false) (by simp [go_sem,g0,g1,g4,g7,g10, hy0]) rfl ?_
         refine za7 ?_
         apply hK7
         refine zzr fun K hK=>?_
         simp [go_sem,za0,g0,g1,g4,za4,za1,hB1.cell,hB99.cell,g7,g10,za4,za1, hw3]
         refine zzs (b:=b1) (off:=0) [.bool (qR3 (X / y)).1,.slice a (qR3 (X / y)).2.1.length c,.slice a' (qR3 (X / y)).2.2.length c'] rfl zax hB1 (fun w33 hS33 hB33=>?_) (by simp [go_sem,Value.cells,g0,g1,g4,g7,g10,hw3])
         simp [zaw] at hB33
         replace hA0:=hA0.nextS hS33 (by first|exact hb1_0|omega)
         replace hv:=hv.ch (Ch.of_sto hS33 (NL.of_bx hB1 (by intro u hu x e;subst e;simp at hu)))
         replace hB99:=hB99.sto hS33 (by first|exact hd99_1|exact (hd1_99).symm)
         simp [go_sem,za0,g0,g1,g4,za4,za1,hB99.cell,g7,g10,za4,za1,hB33.cell,hw3]
         apply hK;clear hK K
         refine zad ?_
         repeat first|refine za3 ?_|refine za2 ?_
         rw [hR1]
         refine ⟨by simp [go_sem,zaD,zam,za4,za1,za0,hB33.cell,g4],a,a',c,c',?_,hv,⟨by have:=hqz.1;simp only [resQ];omega,by have:=hqz.2;simp only [resQ];omega⟩,hA0⟩
         simp [go_sem,zar,zam,za4,za1,za0,hB33.cell,resQ,zbB,zcu,g4]
      ·have hk2':¬((zai T q).k:Int)=2:=by omega
       rw [if_pos hk2] at hR
       have hR1:R = .er q 5:=hR.symm
       refine zzr fun K hK=>?_
       simp [go_sem,za0,g0,g1,g4,za4,za1,hB1.cell,hB30.cell,g9, hm1,hm1',d0,d1,d3,hk2']
       apply hK;clear hK K
       refine zaf (t:=true) (by simp [go_sem,g0,g1,g4,g9,hk2']) rfl ?_
       refine zzr fun K hK=>?_
       simp [go_sem,za0,g0,g1,g4,za4,za1,hB1.cell,hB30.cell,g9]
       refine zal #[.bool false,.slice none 0 0,.slice none 0 0] (by simp [go_sem]) rfl zdr [] (by simp [go_sem]) rfl ?_
       simp [go_sem,za0]
       refine zzs (b:=b1) (off:=0) [.bool false,.slice none 0 0,.slice none 0 0] rfl zax hB1 (fun w34 hS34 hB34=>?_) (by simp [go_sem,Value.cells,g0,g1,g4,g9])
       simp [zaw] at hB34
       replace hA0:=hA0.nextS hS34 (by first|exact hb1_0|omega)
       replace hv:=hv.ch (Ch.of_sto hS34 (NL.of_bx hB1 (by intro u hu x e;subst e;simp at hu)))
       replace hB30:=hB30.sto hS34 (by first|exact hd30_1|exact (hd1_30).symm)
       simp [go_sem,za0,g0,g1,g4,za4,za1,hB30.cell,g9,hB34.cell]
       apply hK;clear hK K
       refine zad ?_
       repeat first|refine za3 ?_|refine za2 ?_
       rw [hR1]
       refine ⟨by simp [go_sem,zaD,zam,za4,za1,za0,hB34.cell,g4],none,none,0,0,?_,RV.nil _,⟨Nat.zero_le _,Nat.zero_le _⟩,hA0⟩
       simp [go_sem,zar,zam,za4,za1,za0,hB34.cell,resQ,zbB,zcu,r30,g4]
     ·rw [if_pos (show (zai T m).t≠sSL from hs)] at hR
      have hR1:R = .ok X m:=hR.symm
      refine zzr fun K hK=>?_
      simp [go_sem,za0,g0,g1,g4,za4,za1,hB1.cell,hB30.cell,g9, hj1,hj1',c0,c1,c3,hs]
      apply hK;clear hK K
      refine zaf (t:=true) (by simp [go_sem,g0,g1,g4,g9,hs]) rfl ?_
      refine zzr fun K hK=>?_
      simp [go_sem,za0,g0,g1,g4,za4,za1,hB1.cell,hB30.cell,g9]
      refine zzs (b:=b1) (off:=0) [.bool (qR3 X).1,.slice a (qR3 X).2.1.length c,.slice a' (qR3 X).2.2.length c'] rfl zax hB1 (fun w35 hS35 hB35=>?_) (by simp [go_sem,Value.cells,g0,g1,g4,g9])
      simp [zaw] at hB35
      replace hA0:=hA0.nextS hS35 (by first|exact hb1_0|omega)
      replace hv:=hv.ch (Ch.of_sto hS35 (NL.of_bx hB1 (by intro u hu x e;subst e;simp at hu)))
      replace hB30:=hB30.sto hS35 (by first|exact hd30_1|exact (hd1_30).symm)
      simp [go_sem,za0,g0,g1,g4,za4,za1,hB30.cell,g9,hB35.cell]
      apply hK;clear hK K
      refine zad ?_
      repeat first|refine za3 ?_|refine za2 ?_
      rw [hR1]
      refine ⟨by simp [go_sem,zaD,zam,za4,za1,za0,hB35.cell,g4],a,a',c,c',?_,hv,⟨by have:=hqs.1;simp only [resQ];omega,by have:=hqs.2;simp only [resQ];omega⟩,hA0⟩
      simp [go_sem,zar,zam,za4,za1,za0,hB35.cell,resQ,zbB,zcu,g4]
    cases neg with
    | false =>
     have hR2:ratS2 T x (j+1)=R:=hR
     refine zzr fun K hK=>?_
     simp [go_sem,za0,hB1.cell,g0,g1,g4,g8,hB31.cell,za4,za1]
     apply hK;clear hK K
     refine zaf (t:=false) (by simp [go_sem,g0,g1,g4,g8]) rfl ?_
     refine za7 ?_
     refine tail3 _ _ x a a' c c' hR2 (by simp [go_sem,g0]) (by simp [go_sem,g1]) (by simp [go_sem,g4]) (by simp [go_sem]) hA0 hB1 hB31 hv ⟨by have:=hqs.1;omega,by have:=hqs.2;omega⟩
    | true =>
     have hR2:ratS2 T (-x) (j+1)=R:=hR
     have hqs1:qS (qR3 x) 100000:=⟨by have:=hqs.1;omega,by have:=hqs.2;omega⟩
     have hqs2:qS (qR3 (-x)) 10000:=qS_neg ⟨by have:=hqs.1;omega,by have:=hqs.2;omega⟩
     refine zzr fun K hK=>?_
     simp [go_sem,za0,hB1.cell,g0,g1,g4,g8,hB31.cell,za4,za1]
     apply hK;clear hK K
     refine zaf (t:=true) (by simp [go_sem,g0,g1,g4,g8]) rfl ?_
     refine zzt fun K hK=>?_
     simp [go_sem,za0,hB1.cell,g0,g1,g4,g8,hB31.cell,za4,za1]
     refine zzc rfl Tryz.call84 (fun R hR=>?_)
     simp [go_sem,za0,hB1.cell,g0,g1,g4,g8,hB31.cell,za4,za1]
     refine (negR_any hv hqs1).mono ?_
     rintro e w40 ⟨v,rfl,⟨a3,c3,a3',c3',rfl,q1,q2⟩,hqs3,hE40⟩
     refine ⟨_,rfl,hR _ _ ?_⟩
     clear hR R
     replace hA0:=hA0.next hE40
     replace hB1:=hB1.keep hE40
     replace hB31:=hB31.keep hE40
     replace hv:=hv.ext hE40
     have hv3:RV _ (qR3 (-x)) _:=⟨a3,c3,a3',c3',rfl,q1,q2⟩
     simp [go_sem,za0,hB1.cell,g0,g1,g4,g8,hB31.cell,za4,za1]
     refine zzs (b:=b30) (off:=0) [.bool (qR3 (-x)).1,.slice a3 (qR3 (-x)).2.1.length c3,.slice a3' (qR3 (-x)).2.2.length c3'] rfl zax hB31 (fun w41 hS41 hB41=>?_) (by simp [go_sem,Value.cells,g0,g1,g4,g8])
     simp [zaw] at hB41
     replace hA0:=hA0.nextS hS41 (by first|exact hb30_0|omega)
     replace hv:=hv.ch (Ch.of_sto hS41 (NL.of_bx hB31 (by intro u hu x e;subst e;simp at hu)))
     replace hv3:=hv3.ch (Ch.of_sto hS41 (NL.of_bx hB31 (by intro u hu x e;subst e;simp at hu)))
     replace hB1:=hB1.sto hS41 (by first|exact hd1_30|exact (hd30_1).symm)
     simp [go_sem,za0,hB1.cell,g0,g1,g4,g8,za4,za1,hB41.cell]
     apply hK;clear hK K
     refine tail3 _ _ (-x) a3 a3' c3 c3' hR2 (by simp [go_sem,g0]) (by simp [go_sem,g1]) (by simp [go_sem,g4]) (by simp [go_sem]) hA0 hB1 hB41 hv3 hqs2
   ·have h2':¬((zai T j).k:Int)=2:=by omega
    rw [if_pos h2] at hR
    have hR1:R = .er j 5:=hR.symm
    refine zzr fun K hK=>?_
    simp [go_sem,za0,za4,za1,hB1.cell,g0,g1,g4,g8, hj,hj',c0,c1,c3,h2']
    apply hK;clear hK K
    refine zaf (t:=true) (by simp [go_sem,g0,g1,g4,g8,h2']) rfl ?_
    refine zzr fun K hK=>?_
    simp [go_sem,za0,za4,za1,hB1.cell,g0,g1,g4,g8]
    refine zal #[.bool false,.slice none 0 0,.slice none 0 0] (by simp [go_sem]) rfl zdr [] (by simp [go_sem]) rfl ?_
    simp [go_sem,za0]
    refine zzs (b:=b1) (off:=0) [.bool false,.slice none 0 0,.slice none 0 0] rfl zax hB1 (fun w42 hS42 hB42=>?_) (by simp [go_sem,Value.cells,g0,g1,g4,g8])
    simp [zaw] at hB42
    replace hA0:=hA0.nextS hS42 (by first|exact hb1_0|omega)
    simp [go_sem,za0,za4,za1,g0,g1,g4,g8,hB42.cell]
    apply hK;clear hK K
    refine zad ?_
    repeat first|refine za3 ?_|refine za2 ?_
    rw [hR1]
    refine ⟨by simp [go_sem,zaD,zam,za4,za1,za0,hB42.cell,g4],none,none,0,0,?_,RV.nil _,⟨Nat.zero_le _,Nat.zero_le _⟩,hA0⟩
    simp [go_sem,zar,zam,za4,za1,za0,hB42.cell,resQ,zbB,zcu,r30,g4]
  by_cases hm:(zai T j).t=[45]
  ·rw [if_pos (show (zai T j).t=sMI from hm)] at hR
   have hmk:(zai T j).k≠0:=fun h=>by have:=hW.text j h;rw [hm] at this;cases this
   have hj2:=hW.next hj hmk
   have hw1:IntKind.i64.wrap ((j:Int)+1)=(j+1:Nat):=zzw (by omega)
   refine zzr fun K hK=>?_
   simp [go_sem,za0,za4,za1,hB1.cell, hm]
   apply hK;clear hK K
   refine zaf (t:=true) (by simp [go_sem,hm]) rfl ?_
   refine zzt fun K hK=>?_
   simp [go_sem,hw1,hm]
   apply hK;clear hK K
   refine tail _ _ true (j+1) hj2 hR.symm (by simp [go_sem]) (by simp [go_sem]) (by simp [go_sem]) (by simp [go_sem,hm]) hA0 hB1
  ·rw [if_neg (show ¬(zai T j).t=sMI from hm)] at hR
   refine zzr fun K hK=>?_
   simp [go_sem,za0,za4,za1,hB1.cell, hm]
   apply hK;clear hK K
   refine zaf (t:=false) (by simp [go_sem,hm]) rfl ?_
   refine za7 ?_
   refine tail _ _ false j hj hR.symm (by simp [go_sem]) (by simp [go_sem]) (by simp [go_sem]) (by simp [go_sem,hm]) hA0 hB1
 ·rw [e1] at hR ⊢
  have hR1:R = .er i 5:=hR
  refine zzr fun K hK=>?_
  simp [go_sem,za0,za4,za1,hB1.cell, zbB,zcu]
  apply hK;clear hK K
  refine zaf (t:=true) (by simp [go_sem]) rfl ?_
  refine zzr fun K hK=>?_
  simp [go_sem,za0,za4,za1,hB1.cell]
  refine zal #[.bool false,.slice none 0 0,.slice none 0 0] (by simp [go_sem]) rfl zdr [] (by simp [go_sem]) rfl ?_
  simp [go_sem,za0]
  refine zzs (b:=b1) (off:=0) [.bool false,.slice none 0 0,.slice none 0 0] rfl zax hB1 (fun w43 hS43 hB43=>?_) (by simp [go_sem,Value.cells])
  simp [zaw] at hB43
  replace hA0:=hA0.nextS hS43 (by first|exact hb1_0|omega)
  simp [go_sem,za0,za4,za1,hB43.cell]
  apply hK;clear hK K
  refine zad ?_
  repeat first|refine za3 ?_|refine za2 ?_
  rw [hR1]
  refine ⟨by simp [go_sem,zaD,zam,za4,za1,za0,hB43.cell,za0],none,none,0,0,?_,RV.nil _,⟨Nat.zero_le _,Nat.zero_le _⟩,hA0⟩
  simp [go_sem,zar,zam,za4,za1,za0,hB43.cell,resQ,zbB,zcu,r30,za0]
end Go.Proofs.YtefhenfofomjhaaGreat
