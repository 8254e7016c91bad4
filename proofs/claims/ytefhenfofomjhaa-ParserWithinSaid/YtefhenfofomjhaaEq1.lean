/- Equal expressions, compared. -/
import Derived.Test.YtefhenfofomjhaaPa1
import Derived.Test.YtefhenfofomjhaaSm1
import Derived.Test.YtefhenfofomjhaaPt8
set_option linter.unusedSimpArgs false
set_option linter.unusedVariables false
namespace Go.Proofs.Ytefhenfofomjhaa
open Go Go.RowKit Go.V
set_option maxRecDepth 20000
structure RSs (w:World) (F:Nat→Prop) (rows:List (List Value)) (xs:List Stm):Prop where
 len:rows.length=xs.length
 he:∀ (i:Nat) (R:List Value) (x:Stm),rows[i]? = some R→xs[i]? = some x→SX w F R x
theorem RSs.nil (w:World) (F:Nat→Prop):RSs w F [] []:=⟨rfl,fun i R x h=>by simp at h⟩
theorem RSs.ch {w w':World} {F S:Nat→Prop} {rows:List (List Value)} {xs:List Stm} (h:RSs w F rows xs) (hc:Ch w w' S) (hd:∀ k,F k→¬S k):RSs w' F rows xs:=⟨h.len,fun i R x hR hx=>(h.he i R x hR hx).ch hc hd⟩
theorem RSs.ext {w w':World} {F:Nat→Prop} {rows:List (List Value)} {xs:List Stm} (h:RSs w F rows xs) (hb:Below w.heap.size w w'):RSs w' F rows xs:=⟨h.len,fun i R x hR hx=>(h.he i R x hR hx).ext hb⟩
theorem RSs.mono {w:World} {F F':Nat→Prop} {rows:List (List Value)} {xs:List Stm} (h:RSs w F rows xs) (hF:∀ k,F k→F' k):RSs w F' rows xs:=⟨h.len,fun i R x hR hx=>(h.he i R x hR hx).mono hF⟩
theorem RSs.blt {w:World} {F:Nat→Prop} {rows:List (List Value)} {xs:List Stm} (h:RSs w F rows xs):RSs w (fun k=>F k∧k<w.heap.size) rows xs:=⟨h.len,fun i R x hR hx=>(h.he i R x hR hx).blt⟩
theorem RSs.snoc {w:World} {F:Nat→Prop} {rows:List (List Value)} {xs:List Stm} {R:List Value} {x:Stm} (h:RSs w F rows xs) (hx:SX w F R x):RSs w F (rows++[R]) (xs++[x]):=by
 refine ⟨by simp [h.len],fun i R' x' hR hx'=>?_⟩
 rcases Nat.lt_trichotomy i rows.length with hi|hi|hi
 ·rw [List.getElem?_append_left hi] at hR
  rw [List.getElem?_append_left (by rw [←h.len];exact hi)] at hx'
  exact h.he i R' x' hR hx'
 ·rw [List.getElem?_append_right (by omega)] at hR
  rw [List.getElem?_append_right (by rw [←h.len];omega)] at hx'
  rw [hi,Nat.sub_self] at hR
  rw [hi,h.len,Nat.sub_self] at hx'
  simp at hR hx'
  subst hR;subst hx'
  exact hx
 ·rw [List.getElem?_eq_none (by simp;omega)] at hR
  cases hR
def progV (s:ByteArray):List Stm × Int × Int:=if (ze0 s).2.2=0 then progP (tokT s) else ([],(ze0 s).2.1,(ze0 s).2.2)
def ProgPost (w:World) (r:List Stm × Int × Int) (e:Ending) (w':World):Prop :=
 ∃ (a:Option Addr) (c:Nat) (rows:List (List Value)),e = .returned (.tuple #[.agg #[.slice a r.1.length c],.int .i64 r.2.1,.int .i64 r.2.2]) ∧
  w'.ownsRow w.heap.size 40 10 (.slice a r.1.length c) r.1.length rows.flatten∧NB w' (.slice a r.1.length c) ∧
  RSs w' (fun k=>w.heap.size≤k∧Value.ownBlock (.slice a r.1.length c)≠some k) rows r.1∧r.1.length≤20001∧Below w.heap.size w w'
theorem la_neP {w:World} {b t:Nat} {la:Option Addr} {T:List Tok} {v:Value} (hsl:SL w la (zdw T)) (hT:0<T.length) (hB:Bx w b #[v] t):∀ ad,la=some ad→ad.block≠b:=by
 intro ad ha e
 have hrow:∃ r,zdw T = .int .i64 (zai T 0).k :: .int .i64 (zai T 0).p :: .int .i64 (zai T 0).e::r:=by
  cases T with
  | nil=>simp at hT
  | cons t T=>exact ⟨_,rfl⟩
 obtain ⟨r,hr⟩:=hrow
 rcases hsl with h0|⟨b',off,e1,h1⟩
 ·rw [hr] at h0;cases h0
 ·rw [ha] at e1;injection e1 with e1;subst e1
  simp only at e
  subst e
  have c1:=h1 1 (.int .i64 (zai T 0).p) (by rw [hr];rfl)
  rw [hB.cell] at c1
  simp at c1
theorem own_base {w:World} {B B' e size n:Nat} {v:Value} {xs:List Value} (h:w.ownsRow B e size v n xs) (hb:B'≤B):w.ownsRow B' e size v n xs:=by
 refine ⟨h.1,?_⟩
 rcases h.2 with hn|⟨g,cap,cur,hv,hg1,hh,r⟩
 ·exact .inl hn
 ·exact .inr ⟨g,cap,cur,hv,Nat.le_trans hb hg1,hh,r⟩
theorem stmP_adv {T:List Tok} (hW:Wf T) (s:PSt) (h:s.er=0) (h':(stmP T s).1.er=0):s.i<(stmP T s).1.i:=by
 obtain ⟨i,a0,er⟩:=s
 simp only at h
 subst h
 have ha:=stm_agr hW (a0:=a0) i
 cases hr:stmS T i with
 | er j e =>
  rw [hr] at ha
  exact absurd (ha.2.1.symm.trans h') ha.1
 | ok x j =>
  rw [hr] at ha
  have h2:stmP T ⟨i,a0,0⟩=(⟨j,a0,0⟩,x):=ha
  have:=stm_le hr
  rw [h2];simp only;omega
theorem stmsP_end {T:List Tok} (n:Nat) (s:PSt) (acc:List Stm) (h:¬(s.er=0∧¬(zai T s.i).k=0)):stmsP T n s acc=(s,acc):=by
 cases n with
 | zero=>rfl
 | succ n=>unfold stmsP;rw [if_neg h]
set_option maxHeartbeats 4000000 in
theorem parseProg_any (s:ByteArray) (w:World) (hs:s.size≤maxLen):Calls Try.prog 6 #[.string s] w (ProgPost w (progV s)):=by
 obtain ⟨V,hV⟩:∃ V,V=progV s:=⟨_,rfl⟩
 rw [←hV]
 unfold progV at hV
 refine za8 (args:=[.string s]) (rs:=[.cell 2 25,.tmp 3,.tmp 4]) (n:=64) Try.func6 rfl rfl rfl (by kernel_rfl) ?_
 have hA0:=Below.refl w.heap.size w
 first|refine zzr fun K hK=>?_|refine zzt fun K hK=>?_
 simp [go_sem,za0,za2,za1]
 refine zar (by simp [go_sem,za0,za2,za1]) rfl ty_zeroC25 (fun w1 b1 hE1 hle1 hB1=>?_)
 have hb1_0:=Nat.le_trans hA0.size hle1
 replace hA0:=hA0.next hE1
 simp [go_sem,za0,za2,za1,hB1.cell]
 refine hK _ _ ?_;clear hK K
 first|refine zzr fun K hK=>?_|refine zzt fun K hK=>?_
 simp [go_sem,za0,za2,za1,hB1.cell]
 refine za5 (by simp [go_sem,za0,za2,za1,hB1.cell]) rfl Try.call11 (fun R hR=>?_)
 simp [go_sem,za0,za2,za1,hB1.cell]
 refine (all_any s _ hs).mono ?_
 rintro e w2 ⟨la,cap,rfl,hsl,hE2⟩
 refine ⟨_,rfl,hR _ _ ?_⟩
 clear hR R
 replace hA0:=hA0.next hE2
 replace hB1:=hB1.keep hE2
 simp [go_sem,za0,za2,za1,hB1.cell]
 refine hK _ _ ?_;clear hK K
 refine zad (fun K1 hK1=>?_)
 first|refine zzr fun K hK=>?_|refine zzt fun K hK=>?_
 simp [go_sem,za0,za2,za1,hB1.cell]
 refine hK _ _ ?_;clear hK K
 by_cases he:(ze0 s).2.2=0
 ·rw [if_pos he] at hV
  have he':((ze0 s).2.2:Int)=0:=by omega
  have hW:=wf_tok he
  have hlen:(ze0 s).1.length=(tokT s).length:=by simp [tokT]
  have hsv:tksC s (ze0 s).1=zdw (tokT s):=(toks_tks s _).symm
  rw [hlen] at *
  rw [hsv] at hsl
  generalize tokT s=T at *
  have hT:T.length≤20001:=hW.size
  refine zao (t:=false) (by simp [go_sem,za0,za2,za1,hB1.cell, he',he]) rfl ?_
  refine zae ?_
  refine hK1 _ _ ?_
  first|refine zzr fun K hK=>?_|refine zzt fun K hK=>?_
  simp [go_sem,za0,za2,za1,hB1.cell]
  refine zap #[.slice la T.length cap,.int .i64 0,.int .i64 0,.int .i64 0] (by simp [go_sem]) rfl ty_stZ53 [(0,.slice la T.length cap)] (by simp [go_sem]) rfl ?_
  simp [go_sem,za0]
  refine zap #[.slice la T.length cap,.int .i64 0,.int .i64 0,.int .i64 0] (by simp [go_sem]) rfl ty_stZ55 [(0,.agg #[.slice la T.length cap,.int .i64 0,.int .i64 0,.int .i64 0])] (by simp [go_sem]) rfl ?_
  simp [go_sem,za0]
  refine zap #[.slice la T.length cap,.int .i64 0,.int .i64 0,.int .i64 0] (by simp [go_sem]) rfl ty_stZ57 [(0,.agg #[.slice la T.length cap,.int .i64 0,.int .i64 0,.int .i64 0])] (by simp [go_sem]) rfl ?_
  simp [go_sem,za0]
  refine zbF #[.slice la T.length cap,.int .i64 0,.int .i64 0,.int .i64 0] (by simp [go_sem]) rfl (by simp [go_sem,Value.cells]) (fun w9 b9 hE9 hle9 hB9=>?_)
  have hpos:=hW.pos
  have hlan:=la_neP hsl hpos hB1
  have hlal:=la_lt hsl hpos
  have hwb1:=hle1
  have hb1b:b1<b9:=Nat.lt_of_lt_of_le (hB1.lt) hle9
  have hwb9:w.heap.size≤b9:=Nat.le_trans hA0.size hle9
  have hP:PSS w9 b9 57 la cap T ⟨0,0,0⟩:=⟨by simpa using hB9,hsl.ext hE9,fun ad ha=>by have:=hlal ad ha;omega,hpos⟩
  replace hA0:=hA0.next hE9
  replace hB1:=hB1.keep hE9
  have hle9':=hle9
  clear hB9 hsl hE9 hle9
  obtain ⟨b,hb⟩:∃ b,b=b9:=⟨_,rfl⟩
  subst hb
  have hG:w.grownBy w9 (some b):=za6 hA0
  have hla0:=hlan
  clear hA0
  simp [go_sem,za0,za2,za1,hB1.cell]
  refine hK _ _ ?_;clear hK K
  refine zad (fun K2 hK2=>?_)
  unfold progP at hV
  obtain ⟨Z,hZ⟩:∃ Z,Z=stmsP T T.length ⟨0,0,0⟩ []:=⟨_,rfl⟩
  replace hV:V=if Z.1.er=0 then (Z.2,0,0) else ([],Z.1.at',Z.1.er):=by rw [hV,hZ]
  obtain ⟨N4,hN4⟩:∃ N,N=w9.heap.size:=⟨_,rfl⟩
  have hbN4:=hP.lt'
  have h1N4:=hB1.lt
  rw [←hN4] at hbN4 h1N4
  have hlaN:∀ ad,la=some ad→ad.block<N4:=fun ad ha=>by have:=hlal ad ha;omega
  have hwN4:w.heap.size≤N4:=by omega
  have tail:∀ (g:G) (w9:World) (s':PSt) (acc xs:List Stm) (rows:List (List Value)) (va:Option Addr) (vc:Nat),Z=(s',acc)→(s'.er=0→xs=acc)→xs.length≤T.length→g 2 = .pointer (some ⟨b1,0,none⟩)→g 6 = .pointer (some ⟨b,0,none⟩)→PSS w9 b 57 la cap T s'→w.grownBy w9 (some b)→Bx w9 b1 #[.slice va xs.length vc] 25→w9.ownsRow N4 40 10 (.slice va xs.length vc) xs.length rows.flatten→NB w9 (.slice va xs.length vc)→RSs w9 (fun k=>N4≤k∧Value.ownBlock (.slice va xs.length vc)≠some k) rows xs→K2 g w9:=by
   clear hP hG hB1
   intro g w9 s' acc xs rows va vc hz hx hxl g2 g6 hP hG hB1 hown hnb hrx
   rw [hz] at hV
   refine hK2 _ _ ?_
   refine zad (fun K4 hK4=>?_)
   first|refine zzr fun K hK=>?_|refine zzt fun K hK=>?_
   simp [go_sem,za0,za2,za1,hB1.cell,g2,g6]
   refine za5 (by simp [go_sem,za0,za2,za1,hB1.cell,g2,g6]) rfl Try.call12 (fun R hR=>?_)
   simp [go_sem,za0,za2,za1,hB1.cell,g2,g6]
   refine (zbD hP).mono ?_
   rintro e w3 ⟨rfl,hE3⟩
   refine ⟨_,rfl,hR _ _ ?_⟩
   clear hR R
   replace hB1:=hB1.keep hE3
   replace hG:=hG.trans (za6 hE3)
   replace hP:=hP.ext hE3
   replace hrx:=hrx.ext hE3
   replace hnb:=hnb.keep hE3
   replace hown:=zax hown hE3
   simp [go_sem,za0,za2,za1,hB1.cell,g2,g6]
   refine hK _ _ ?_;clear hK K
   by_cases h0:s'.er=0
   ·rw [if_pos h0] at hV
    refine zao (t:=false) (by simp [go_sem,za0,za2,za1,hB1.cell,g2,g6, h0]) rfl ?_
    refine zae ?_
    refine hK4 _ _ ?_
    first|refine zzr fun K hK=>?_|refine zzt fun K hK=>?_
    simp [go_sem,za0,za2,za1,hB1.cell,g2,g6]
    refine za7 (b:=b1) (off:=0) [.slice va xs.length vc] (by simp [go_sem,za0,za2,za1,hB1.cell,g2,g6]) rfl (by simp [go_sem,za0,za2,za1,hB1.cell,g2,g6]) (by simp [go_sem,Value.cells,za0,za2,za1,hB1.cell,g2,g6]) ty_size25 hB1 (by simp) (by simp [Value.oneCell']) (by decide) (fun w4 hS4 hB4=>?_)
    simp [zaD] at hB4
    replace hrx:=hrx.ch (Ch.of_sto hS4 (NL.of_bx hB1 (by intro u hu x e;subst e;simp at hu))) (by intro k hk e;subst e;first|exact hk.2 rfl|omega)
    replace hnb:=zdI hnb hown hS4 (by omega)
    replace hown:=zbr hown hS4 (by omega)
    replace hG:=zaj hG hS4 hwb1
    replace hP:=hP.sto hS4 (by omega) (fun ad ha=>by have:=hla0 ad ha;omega)
    simp [go_sem,za0,za2,za1,g2,g6,hB4.cell]
    refine hK _ _ ?_;clear hK K
    refine zal ?_
    repeat (first|refine za4 ?_|refine za3 ?_)
    subst hV
    rw [hx h0] at hown hnb hrx hxl
    refine ⟨by simp [go_sem,zb6,zav,za2,za1,za0,hB4.cell,g2],?_⟩
    refine ⟨va,vc,rows,?_,own_base hown hwN4,hnb,hrx.mono (fun k hk=>⟨Nat.le_trans hwN4 hk.1,hk.2⟩),(by show acc.length≤20001;omega),zc4 hG hwb9⟩
    simp [go_sem,zaw,zav,za2,za1,za0,hB4.cell,g2,hx h0]
   ·rw [if_neg h0] at hV
    refine zao (t:=true) (by simp [go_sem,za0,za2,za1,hB1.cell,g2,g6,h0]) rfl ?_
    have hbL:∀ a∈[(⟨b,2,none⟩:Addr),⟨b,3,none⟩],a.block≠b1:=by
     intro a ha
     simp only [List.mem_cons,List.not_mem_nil,or_false] at ha
     rcases ha with rfl|rfl<;>(simp only;omega)
    obtain ⟨k0,k1,k2,k3⟩:=PS.cells (hP.ext (Below.drew1 _))
    have hD5:=Below.drew1 w3
    replace hB1:=hB1.keep hD5
    replace hG:=hG.trans (za6 hD5)
    replace hP:=hP.ext hD5
    replace hrx:=hrx.ext hD5
    replace hnb:=hnb.keep hD5
    replace hown:=zax hown hD5
    first|refine W_rdS ([⟨b,2,none⟩,⟨b,3,none⟩]) [(1,0),(2,0),(3,0),(4,0),(5,0),(6,0),(7,0),(8,0),(9,0),(10,0),(11,0),(12,0),(0,1),(13,1),(14,0),(15,0)] (by kernel_rfl) (by kernel_rfl) (fun K hK=>?_)|refine W_drawS ([⟨b,2,none⟩,⟨b,3,none⟩]) [(1,0),(2,0),(3,0),(4,0),(5,0),(6,0),(7,0),(8,0),(9,0),(10,0),(11,0),(12,0),(0,1),(13,1),(14,0),(15,0)] (by kernel_rfl) (by kernel_rfl) (fun K hK=>?_)
    simp [go_sem,za0,za2,za1,hB1.cell,g2,g6,k2,k3]
    have hkp:Keep ([⟨b,2,none⟩,⟨b,3,none⟩]) w3.drew w3.drew:=zd1 _ _
    refine zap #[.slice none 0 0] (by simp [go_sem]) rfl ty_stZ25 [] (by simp [go_sem]) rfl ?_
    refine zb3 hkp ?_
    simp [go_sem,za0,za2,za1,hB1.cell,g2,g6,k2,k3]
    have hB1':=hB1
    refine za7 (b:=b1) (off:=0) [.slice none 0 0] (by simp [go_sem,g2,za0]) rfl (by simp [go_sem,g2,za0]) (by simp [go_sem,Value.cells,g2,za0]) ty_size25 hB1' (by simp) (by simp [Value.oneCell']) (by decide) (fun w60 hS60 hB60=>?_)
    simp [zaD] at hB60
    have hkp2:Keep [⟨b,2,none⟩,⟨b,3,none⟩] _ w60:=Keep.sto hbL hS60
    refine zb3 hkp2 ?_
    simp [go_sem,hkp2]
    refine hK _ _ ?_;clear hK K
    refine zal ?_
    repeat (first|refine za4 ?_|refine za3 ?_)
    subst hV
    refine ⟨by simp [go_sem,zb6,zav,za2,za1,za0,hB60.cell,g2],?_⟩
    refine ⟨none,0,[],?_,World.ownsRow_nil _ _ _ _,NB.nil _,RSs.nil _ _,Nat.zero_le _,zc4 (zaj hG hS60 hwb1) hwb9⟩
    simp [go_sem,zaw,zav,za2,za1,za0,hB60.cell,g2]
  refine zag ?_
  refine zaJ (fun m g w'=>∃ (s':PSt) (acc xs:List Stm) (rows:List (List Value)) (va:Option Addr) (vc:Nat),xs.length+m≤T.length∧(s'.er=0→T.length≤m+s'.i)∧stmsP T m s' acc=Z∧(s'.er=0→xs=acc)∧g 2 = .pointer (some ⟨b1,0,none⟩)∧g 6 = .pointer (some ⟨b,0,none⟩)∧PSS w' b 57 la cap T s'∧w.grownBy w' (some b)∧N4≤w'.heap.size∧Bx w' b1 #[.slice va xs.length vc] 25∧w'.ownsRow N4 40 10 (.slice va xs.length vc) xs.length rows.flatten∧NB w' (.slice va xs.length vc)∧RSs w' (fun k=>N4≤k∧Value.ownBlock (.slice va xs.length vc)≠some k) rows xs) T.length ?_ ?_
  ·exact ⟨⟨0,0,0⟩,[],[],[],none,0,by simp,fun _=>by simp,hZ.symm,fun _=>rfl,by simp [go_sem],by simp [go_sem],hP,hG,by omega,hB1,World.ownsRow_nil _ _ _ _,NB.nil _,RSs.nil _ _⟩
  clear hP hG hB1
  rintro m g w' ⟨s',acc,xs,rows,va,vc,hm,hi,hz,hx,g2,g6,hP,hG,hNs,hB1,hown,hnb,hrx⟩
  refine zad (fun K3 hK3=>?_)
  have hil:=hP.lt
  first|refine zzr fun K hK=>?_|refine zzt fun K hK=>?_
  simp [go_sem,za0,za2,za1,hB1.cell,g2,g6]
  refine za5 (by simp [go_sem,za0,za2,za1,hB1.cell,g2,g6]) rfl Try.call12 (fun R hR=>?_)
  simp [go_sem,za0,za2,za1,hB1.cell,g2,g6]
  refine (zbD hP).mono ?_
  rintro e w6 ⟨rfl,hE6⟩
  refine ⟨_,rfl,hR _ _ ?_⟩
  clear hR R
  replace hB1:=hB1.keep hE6
  replace hG:=hG.trans (za6 hE6)
  replace hP:=hP.ext hE6
  replace hrx:=hrx.ext hE6
  replace hnb:=hnb.keep hE6
  replace hown:=zax hown hE6
  simp [go_sem,za0,za2,za1,hB1.cell,g2,g6]
  by_cases h0:s'.er=0
  ·simp [go_sem,za0,za2,za1,hB1.cell,g2,g6,h0]
   refine za5 (by simp [go_sem,za0,za2,za1,hB1.cell,g2,g6,h0,zbk]) rfl Try.call13 (fun R hR=>?_)
   simp [go_sem,za0,za2,za1,hB1.cell,g2,g6,h0,zbk]
   refine (zba hP (by unfold maxLen;omega)).mono ?_
   rintro e w7 ⟨rfl,hE7⟩
   refine ⟨_,rfl,hR _ _ ?_⟩
   clear hR R
   replace hB1:=hB1.keep hE7
   replace hG:=hG.trans (za6 hE7)
   replace hP:=hP.ext hE7
   replace hrx:=hrx.ext hE7
   replace hnb:=hnb.keep hE7
   replace hown:=zax hown hE7
   simp [go_sem,za0,za2,za1,hB1.cell,g2,g6,h0,zbk]
   refine hK _ _ ?_;clear hK K
   by_cases hk:(zai T s'.i).k=0
   ·have hk':((zai T s'.i).k:Int)=0:=by omega
    refine zao (t:=false) (by simp [go_sem,za0,za2,za1,hB1.cell,g2,g6,hk,hk',h0]) rfl ?_
    refine zaB ?_
    repeat (first|refine zak ?_|refine za9 rfl ?_|refine zac ?_)
    rw [stmsP_end m s' acc (fun hh=>hh.2 hk)] at hz
    exact tail _ _ s' acc xs rows va vc hz.symm hx (by omega) (by simp [go_sem,g2]) (by simp [go_sem,g6]) hP hG hB1 hown hnb hrx
   ·have hk':¬((zai T s'.i).k:Int)=0:=by omega
    cases m with
    | zero=>have:=hi h0;omega
    | succ m =>
     unfold stmsP at hz
     rw [if_pos ⟨h0,hk⟩] at hz
     have hxa:=hx h0
     refine zao (t:=true) (by simp [go_sem,za0,za2,za1,hB1.cell,g2,g6,hk,hk',h0]) rfl ?_
     refine zae ?_
     refine hK3 _ _ ?_
     refine zag ?_
     have hN7:N4≤w7.heap.size:=Nat.le_trans hNs (Nat.le_trans hE6.size hE7.size)
     have hD8:=Below.drew1 w7
     replace hB1:=hB1.keep hD8
     replace hG:=hG.trans (za6 hD8)
     replace hP:=hP.ext hD8
     replace hrx:=hrx.ext hD8
     replace hnb:=hnb.keep hD8
     replace hown:=zax hown hD8
     first|refine W_rdS ([⟨b1,0,none⟩]) [(0,0),(1,0),(2,0),(3,1),(4,1),(5,2),(6,0),(7,2)] (by kernel_rfl) (by kernel_rfl) (fun K hK=>?_)|refine W_drawS ([⟨b1,0,none⟩]) [(0,0),(1,0),(2,0),(3,1),(4,1),(5,2),(6,0),(7,2)] (by kernel_rfl) (by kernel_rfl) (fun K hK=>?_)
     simp [go_sem,za0,za2,za1,hB1.cell,g2,g6]
     have hkp:Keep ([⟨b1,0,none⟩]) w7.drew w7.drew:=zd1 _ _
     have hN8:N4≤w7.drew.heap.size:=Nat.le_trans hN7 hD8.size
     have hownD:=hown
     refine za5 (by simp [go_sem,za0,za2,za1,hB1.cell,g2,g6]) rfl Try.call14 (fun R hR=>?_)
     simp [go_sem,za0,za2,za1,hB1.cell,g2,g6]
     refine (statement_any hW hP).mono ?_
     rintro e w30 ⟨Rx,x,rfl,hsx,hxv,hQ30,hg30⟩
     refine ⟨_,rfl,hR _ _ ?_⟩
     clear hR R
     replace hkp:=hkp.trans (Keep.grown (by intro a ha;simp only [List.mem_cons,List.not_mem_nil,or_false] at ha;rcases ha with rfl<;>exact ⟨by first|exact hB1.lt,(by intro e;injection e with e;simp at e;omega)⟩) hg30)
     replace hrx:=hrx.ch (hP.ch hg30) (by intro k hk e;subst e;first|omega|(have:=hk.1;omega))
     replace hnb:=zd7 hnb hown hg30 (by omega)
     replace hown:=zbX hown hg30 (by omega)
     replace hB1:=hB1.grown hg30 (by intro e;injection e with e;omega)
     replace hP:=hQ30
     replace hG:=hG.trans hg30
     clear hQ30
     refine zb3 hkp ?_
     obtain ⟨a,c,ya,yc,yb,yd,ye,yp,hRx,_⟩:=id hsx.open
     subst hRx
     replace hsx:=hsx.mono (F':=fun k=>N4≤k∧Value.ownBlock (.slice va xs.length vc)≠some k) (fun k hk=>⟨Nat.le_trans hN8 hk,fun e=>by have:=(hownD.lt k e).2;exact absurd hk (by omega)⟩)
     simp [go_sem,za0,za2,za1,hB1.cell,g2,g6]
     refine zam #[.int .i64 x.kind,.slice a x.names.length c,.int .i64 x.expr.kind,.string ⟨x.expr.name.toArray⟩,.bool x.expr.neg,.slice ya x.expr.num.length yc,.slice yb x.expr.den.length yd,.slice ye x.expr.args.length yp,.int .i64 x.expr.pos,.int .i64 x.pos] (by simp [go_sem,za0,za2,za1,hB1.cell,g2,g6]) rfl ty_slZ23 (by decide) [(0,.agg #[.int .i64 x.kind,.slice a x.names.length c,.int .i64 x.expr.kind,.string ⟨x.expr.name.toArray⟩,.bool x.expr.neg,.slice ya x.expr.num.length yc,.slice yb x.expr.den.length yd,.slice ye x.expr.args.length yp,.int .i64 x.expr.pos,.int .i64 x.pos])] (by simp [go_sem,za0,za2,za1,hB1.cell,g2,g6]) (by kernel_rfl) (fun w40 b40 hE40 hle40 hB40=>?_)
     replace hkp:=hkp.trans (Keep.below (by intro a ha;simp only [List.mem_cons,List.not_mem_nil,or_false] at ha;rcases ha with rfl<;>first|exact hB1.lt) hE40)
     have hwb40:_≤b40:=Nat.le_trans hG.size hle40
     have hd1_40:b1≠b40:=Nat.ne_of_lt (Nat.lt_of_lt_of_le hB1.lt hle40)
     replace hB1:=hB1.keep hE40
     replace hG:=hG.trans (za6 hE40)
     replace hP:=hP.ext hE40
     replace hrx:=hrx.ext hE40
     replace hsx:=hsx.ext hE40
     replace hnb:=hnb.keep hE40
     replace hown:=zax hown hE40
     refine zb3 hkp ?_
     simp [go_sem,za0,za2,za1,hB1.cell,g2,g6,hB40.cell]
     have hN40:N4≤w40.heap.size:=Nat.le_trans hN8 (Nat.le_trans hg30.size hE40.size)
     refine zc8 (v:=.slice va xs.length vc) (b:=b40) (len:=1) (c:=1) hB40 (by simp [go_sem]) rfl ty_slZ23 ty_bytes40 rfl (by decide) (by simp [go_sem,za0,hB1.cell,g2]) (by simp [go_sem]) hown rfl (by simp [Value.oneCell']) (by unfold maxLen;omega) (by omega) hN40 (by decide) (by intro u hu x e;subst e;simp at hu) (by intro u hu x e;subst e;simp at hu) hnb (fun v' w50 hown' hg50 hat50 hnb'=>?_)
     obtain ⟨va',vc',rfl⟩:=zbz hown'
     have hob:∀ k,(Value.ownBlock (.slice va xs.length vc))=some k→N4≤k:=fun k e=>(hown.lt k e).1
     replace hrx:=((hrx.snoc hsx).blt).ch (Ch.of_grown hg50 (NL.of_nb hnb)) (fun k hk e=>hk.1.2 e)
     replace hrx:=hrx.mono (F':=fun k=>N4≤k∧Value.ownBlock (.slice va' (xs.length+1) vc')≠some k) (fun k hk=>⟨hk.1.1,fun e=>by
      rcases hat50 with h|h
      ·exact hk.1.2 (h▸e)
      ·rw [h] at e;injection e with e;have:=hk.2;omega⟩)
     replace hP:=hP.grown hg50 (fun e=>by have:=hob b e.symm;omega) (fun ad ha e=>by have:=hob ad.block e.symm;have:=hlaN ad ha;omega)
     replace hG:=grown_own hG hg50 (fun k e=>by have:=hob k e;omega)
     have hkp2:=hkp.trans (Keep.grown (by intro a ha;simp only [List.mem_cons,List.not_mem_nil,or_false] at ha;subst ha;exact ⟨hB1.lt,fun e=>by have:=hob b1 e.symm;omega⟩) hg50)
     replace hB1:=hB1.grown hg50 (fun e=>by have:=hob b1 e.symm;omega)
     refine zcu ?_
     simp [go_sem,za0,za2,za1,g2,g6,hB1.cell,hkp2]
     refine za7 (b:=b1) (off:=0) [.slice va' (xs.length+1) vc'] (by simp [go_sem,za0,za2,za1,g2,g6,hB1.cell]) rfl (by simp [go_sem,za0,za2,za1,g2,g6,hB1.cell]) (by simp [go_sem,Value.cells,za0,za2,za1,g2,g6,hB1.cell]) ty_size23 hB1 (by simp) (by simp [Value.oneCell']) (by decide) (fun w60 hS60 hB60=>?_)
     simp [zaD] at hB60
     replace hrx:=hrx.ch (Ch.of_sto hS60 (NL.of_bx hB1 (by intro u hu x e;subst e;simp at hu))) (by intro k hk e;subst e;first|exact hk.2 rfl|omega)
     replace hnb':=zdI hnb' hown' hS60 (by omega)
     replace hown':=zbr hown' hS60 (by omega)
     replace hG:=zaj hG hS60 hwb1
     replace hP:=hP.sto hS60 (by omega) (fun ad ha=>by have:=hla0 ad ha;omega)
     refine zcu ?_
     simp [go_sem,za0,za2,za1,g2,g6,hB60.cell]
     refine hK _ _ ?_;clear hK K
     have hN60:N4≤w60.heap.size:=by rw [hS60.size];exact Nat.le_trans hN40 hg50.size
     have hlx:(xs++[x]).length=xs.length+1:=by simp
     refine ⟨m,by omega,(stmP T s').1,acc++[(stmP T s').2],xs++[x],rows++[[.int .i64 x.kind,.slice a x.names.length c,.int .i64 x.expr.kind,.string ⟨x.expr.name.toArray⟩,.bool x.expr.neg,.slice ya x.expr.num.length yc,.slice yb x.expr.den.length yd,.slice ye x.expr.args.length yp,.int .i64 x.expr.pos,.int .i64 x.pos]],va',vc',by omega,fun e=>by have:=stmP_adv hW s' h0 e;have:=hi h0;omega,hz,fun e=>by rw [hxv e,hxa],by simp [go_sem,g2],by simp [go_sem,g6],hP,hG,hN60,by rw [hlx];exact hB60,by rw [hlx];simpa using hown',by rw [hlx];exact hnb',by rw [hlx];exact hrx⟩
  ·simp [go_sem,za0,za2,za1,hB1.cell,g2,g6,h0]
   refine hK _ _ ?_;clear hK K
   refine zao (t:=false) (by simp [go_sem,za0,za2,za1,hB1.cell,g2,g6,h0]) rfl ?_
   refine zaB ?_
   repeat (first|refine zak ?_|refine za9 rfl ?_|refine zac ?_)
   rw [stmsP_end m s' acc (fun hh=>h0 hh.1)] at hz
   exact tail _ _ s' acc xs rows va vc hz.symm hx (by omega) (by simp [go_sem,g2]) (by simp [go_sem,g6]) hP hG hB1 hown hnb hrx
 ·rw [if_neg he] at hV
  have he':¬((ze0 s).2.2:Int)=0:=by omega
  refine zao (t:=true) (by simp [go_sem,za0,za2,za1,hB1.cell,he',he]) rfl ?_
  first|refine zzr fun K hK=>?_|refine zzt fun K hK=>?_
  simp [go_sem,za0,za2,za1,hB1.cell]
  refine zap #[.slice none 0 0] (by simp [go_sem]) rfl ty_stZ25 [] (by simp [go_sem]) rfl ?_
  simp [go_sem,za0]
  refine za7 (b:=b1) (off:=0) [.slice none 0 0] (by simp [go_sem,za0,za2,za1,hB1.cell]) rfl (by simp [go_sem,za0,za2,za1,hB1.cell]) (by simp [go_sem,Value.cells,za0,za2,za1,hB1.cell]) ty_size25 hB1 (by simp) (by simp [Value.oneCell']) (by decide) (fun w61 hS61 hB61=>?_)
  simp [zaD] at hB61
  replace hA0:=hA0.nextS hS61 (by first|exact hb1_0|omega)
  simp [go_sem,za0,za2,za1,hB61.cell]
  refine hK _ _ ?_;clear hK K
  refine zal ?_
  repeat (first|refine za4 ?_|refine za3 ?_)
  subst hV
  refine ⟨by simp [go_sem,zb6,zav,za2,za1,za0,hB61.cell],?_⟩
  refine ⟨none,0,[],?_,World.ownsRow_nil _ _ _ _,NB.nil _,RSs.nil _ _,Nat.zero_le _,hA0⟩
  simp [go_sem,zaw,zav,za2,za1,za0,hB61.cell]
inductive Nar:Tre→Prop where
 | mk {k:Int} {n:List UInt8} {b:Bool} {l m:List Nat} {args:List Tre} {p:Int} (h:args.length≤6) (ha:∀ x∈args,Nar x):Nar (.mk k n b l m args p)
theorem Nar.len {x:Tre} (h:Nar x):x.args.length≤6:=by cases h;assumption
theorem Nar.arg {x y:Tre} (h:Nar x) (hy:y∈x.args):Nar y:=by
 cases h with
 | mk h ha=>exact ha y hy
section
variable {T:List Tok}
theorem args_nar {arg:Int→Nat→Res Tre} (h:∀ p i x j,arg p i = .ok x j→Nar x):∀ (ps:List Int) (first:Bool) (i:Nat) (xs:List Tre) (j:Nat),zc9 T arg first ps i = .ok xs j→xs.length=ps.length∧∀ x∈xs,Nar x
 | [],first,i,xs,j,e=>by
  unfold zc9 at e
  injection e with e _
  subst e
  exact ⟨rfl,fun x h=>by cases h⟩
 | p::r,first,i,xs,j,e=>by
  unfold zc9 at e
  cases he:expS T (if first=true then sLP else sCM) i with
  | er j e2=>rw [he] at e;cases e
  | ok u j1 =>
   rw [he] at e
   simp only at e
   cases ha:arg p j1 with
   | er j e2=>rw [ha] at e;cases e
   | ok x j2 =>
    rw [ha] at e
    simp only at e
    cases hz:zc9 T arg false r j2 with
    | er j e2=>rw [hz] at e;cases e
    | ok ys j3 =>
     rw [hz] at e
     obtain ⟨h1,h2⟩:=args_nar h r false j2 ys j3 hz
     injection e with e _
     subst e
     refine ⟨by simp [h1],fun y hy=>?_⟩
     rcases List.mem_cons.1 hy with rfl|hy
     ·exact h _ _ _ _ ha
     ·exact h2 y hy
theorem pars_len (k:Int):(zbq k).length≤6:=by
 have h:∀ i,i<31→(zaf i).2.2.2.length≤6:=by decide +kernel
 unfold zbq
 have hk:kIx k<31:=by
  unfold kIx
  (repeat' split)<;>omega
 exact h _ hk
theorem con_nar {arg:Int→Nat→Res Tre} (h:∀ p i x j,arg p i = .ok x j→Nar x) {sort:Int} {i j:Nat} {x:Tre} (e:conS T arg sort i = .ok x j):Nar x:=by
 unfold conS at e
 split at e
 ·cases e
 ·cases ha:zc9 T arg true (zbq (zdZ T i sort)) (i+1) with
  | er j e2=>rw [ha] at e;cases e
  | ok xs j1 =>
   rw [ha] at e
   obtain ⟨h1,h2⟩:=args_nar h _ _ _ _ _ ha
   simp only at e
   cases he:endS T (zdZ T i sort) j1 with
   | er j e2=>rw [he] at e;cases e
   | ok q j2 =>
    rw [he] at e
    injection e with e _
    subst e
    exact .mk (by rw [h1];exact pars_len _) h2
theorem arg_nar:∀ (f:Nat) (sort:Int) (i:Nat) (x:Tre) (j:Nat),argS T f sort i = .ok x j→Nar x
 | 0,sort,i,x,j,h=>by
  unfold argS at h
  split at h<;>cases h
 | f+1,sort,i,x,j,h=>by
  unfold argS at h
  split at h
  ·cases h
  ·simp only at h
   split at h
   ·injection h with h _
    subst h
    exact .mk (Nat.zero_le _) (fun x h=>by cases h)
   ·exact con_nar (arg_nar f) h
end
theorem bs_append (a b:ByteArray):bs (a++b)=bs a++bs b:=by simp [bs]
theorem exprV_ok {s:ByteArray} (h:(exprV s).2.2=0):(ze0 s).2.2=0∧exprV s=exprS (tokT s)∧Wf (tokT s):=by
 unfold exprV at h ⊢
 by_cases he:(ze0 s).2.2=0
 ·rw [if_pos he]
  exact ⟨he,expr_eq (wf_tok he),wf_tok he⟩
 ·rw [if_neg he] at h
  exact absurd (by simpa using h) he
theorem exprS_ok {T:List Tok} (hW:Wf T) (h:(exprS T).2.2=0):Nar (exprS T).1∧exprS T=((exprS T).1,0,0):=by
 unfold exprS at h ⊢
 obtain ⟨S,hS⟩:∃ S,S=(if (zai T 0).k=1 then topS (zai T 0).t else 1):=⟨_,rfl⟩
 have hS4:0≤S∧S≤4:=by
  rw [hS];unfold topS;(repeat' split)<;>omega
 rw [←hS] at h ⊢
 have hag:=arg_agr hW (a0:=0) 20 S 0 hS4
 cases hr:argS T 20 S 0 with
 | er j e =>
  rw [hr] at h hag
  exact absurd h hag.1
 | ok y j =>
  rw [hr] at h
  simp only at h ⊢
  split at h
  ·rename_i hk
   rw [if_pos hk]
   exact ⟨arg_nar _ _ _ _ _ hr,rfl⟩
  ·cases h
theorem progV_within {s u:ByteArray} (hs:s.size≤9000) (hu:bs u=[88,32,58,61,32]++(bs s++[10,59])) (h:(exprV s).2.2=0) (hk:ze1 (exprV s).1.kind=1) :
  progV u=([⟨2,[[88]],mvW 5 (exprV s).1,0⟩],0,0)∧Nar (exprV s).1:=by
 obtain ⟨a1,a2,a3⟩:=exprV_ok h
 obtain ⟨TI,t1,t2⟩:=lexL_within (lexL_allR a1)
 have hus:u.size≤20000:=by
  have:=congrArg List.length hu
  rw [zaR] at this
  simp at this
  rw [zaR] at this
  omega
 rw [show (bs s++10::[59])=bs s++[10,59] from rfl,←hu] at t2
 obtain ⟨u1,u2⟩:=allR_lexL t2 hus
 have hwu:=wf_tok u1
 have hpu:progV u=progS (tokT u):=by unfold progV;rw [if_pos u1,prog_eq hwu]
 rw [a2] at h hk ⊢
 obtain ⟨n1,n2⟩:=exprS_ok a3 h
 refine ⟨?_,n1⟩
 rw [hpu,u2]
 obtain ⟨x,hx⟩:∃ x,x=(exprS (tokT s)).1:=⟨_,rfl⟩
 rw [←hx] at n2 hk ⊢
 rw [t1] at a3 n2
 exact prog_within a3 n2 hk
theorem lmC_at {l:List Nat} {i:Nat} (h:i<l.length):(lmC l).getD i undef = .int .u16 (l.getD i 0):=by
 unfold lmC
 simp [List.getD_eq_getElem?_getD,h]
set_option maxHeartbeats 1000000 in
theorem sameNat_any {w:World} {a b:Option Addr} {c d:Nat} {l:List Nat} (h1:RD w a c l) (h2:RD w b d l) (hl:l.length≤maxLen):Calls Try.prog 48 #[.slice a l.length c,.slice b l.length d] w fun e w'=>e = .returned (.bool true)∧Below w.heap.size w w':=by
 unfold maxLen at hl
 refine za8 (args:=[.slice a l.length c,.slice b l.length d]) (rs:=[.tmp 4]) (n:=26) Try.func48 rfl rfl rfl (by kernel_rfl) ?_
 have hA0:=Below.refl w.heap.size w
 first|refine zzr fun K hK=>?_|refine zzt fun K hK=>?_
 simp [go_sem,za0,za2,za1]
 refine hK _ _ ?_;clear hK K
 refine zad (fun K1 hK1=>?_)
 first|refine zzr fun K hK=>?_|refine zzt fun K hK=>?_
 simp [go_sem,za0,za2,za1]
 refine hK _ _ ?_;clear hK K
 refine zao (t:=false) (by simp [go_sem,za0,za2,za1]) rfl ?_
 refine zae ?_
 refine hK1 _ _ ?_
 refine zad (fun K2 hK2=>?_)
 first|refine zzr fun K hK=>?_|refine zzt fun K hK=>?_
 simp [go_sem,za0,za2,za1]
 refine hK _ _ ?_;clear hK K
 refine zag ?_
 refine zaJ (fun m' g w'=>Below w.heap.size w w'∧∃ j:Nat,j≤l.length∧m'=l.length-j∧g 0 = .slice a l.length c∧g 1 = .slice b l.length d∧g 12 = .int .i64 l.length∧g 13 = .int .i64 j) l.length ?_ ?_
 ·exact ⟨hA0,0,by omega,rfl,by simp [go_sem],by simp [go_sem],by simp [go_sem],by simp [go_sem]⟩
 clear hA0
 rintro m' g w' ⟨hA0,j,hj,rfl,g0,g1,g12,g13⟩
 by_cases hlt:j<l.length
 ·have c1:(j:Int)<l.length:=by omega
  have hw1:IntKind.i64.wrap ((j:Int)+1)=(j+1:Nat):=by rw [IntWalk.i64_in _ (by omega)];omega
  have k1:=h1.sl.ext (hA0.next (Below.drew1 _))
  have k2:=h2.sl.ext (hA0.next (Below.drew1 _))
  obtain ⟨q1,q2⟩:=k1.getD (j:=j) (by simp [lmC];omega)
  obtain ⟨p1,p2⟩:=k2.getD (j:=j) (by simp [lmC];omega)
  rw [lmC_at hlt] at q1 p1
  generalize l.getD j 0=v at q1 p1
  first|refine zzr fun K hK=>?_|refine zzt fun K hK=>?_
  simp [go_sem,za0,za2,za1,g0,g1,g12,g13, c1,hlt]
  refine hK _ _ ?_;clear hK K
  refine zad (fun K3 hK3=>?_)
  refine zao (t:=true) (by simp [go_sem,za0,za2,za1,g0,g1,g12,g13,c1,hlt]) rfl ?_
  refine zae ?_
  refine hK3 _ _ ?_
  refine zad (fun K4 hK4=>?_)
  refine zag ?_
  first|refine zzr fun K hK=>?_|refine zzt fun K hK=>?_
  simp [go_sem,za0,za2,za1,g0,g1,g12,g13]
  refine hK _ _ ?_;clear hK K
  have hD1:=Below.drew1 w'
  replace hA0:=hA0.next hD1
  first|refine W_rd [(0,0),(1,0),(2,0),(3,0),(4,0),(5,0),(6,0),(7,0),(8,0)] (by kernel_rfl) (by kernel_rfl) (fun K hK=>?_)|refine zbC [(0,0),(1,0),(2,0),(3,0),(4,0),(5,0),(6,0),(7,0),(8,0)] (by kernel_rfl) (by kernel_rfl) (fun K hK=>?_)
  simp [go_sem,za0,za2,za1,g0,g1,g12,g13, c1,hlt,q1,q2,p1,p2]
  refine hK _ _ ?_;clear hK K
  refine zao (t:=false) (by simp [go_sem,za0,za2,za1,g0,g1,g12,g13]) rfl ?_
  refine zae ?_
  refine hK4 _ _ ?_
  refine zzt fun K hK=>?_
  simp [go_sem,g13,hw1]
  refine hK _ _ ⟨l.length-(j+1),by omega,hA0,j+1,by omega,rfl,by simp [go_sem,g0],by simp [go_sem,g1],by simp [go_sem,g12],by simp [go_sem]⟩
 ·have c1:¬(j:Int)<l.length:=by omega
  first|refine zzr fun K hK=>?_|refine zzt fun K hK=>?_
  simp [go_sem,za0,za2,za1,g0,g1,g12,g13, c1,hlt]
  refine hK _ _ ?_;clear hK K
  refine zad (fun K3 hK3=>?_)
  refine zao (t:=false) (by simp [go_sem,za0,za2,za1,g0,g1,g12,g13,c1,hlt]) rfl ?_
  refine zaB ?_
  repeat (first|refine zak ?_|refine za9 rfl ?_|refine zac ?_)
  refine hK2 _ _ ?_
  first|refine zzr fun K hK=>?_|refine zzt fun K hK=>?_
  simp [go_sem,za0,za2,za1,g0,g1,g12,g13]
  refine hK _ _ ?_;clear hK K
  refine zal ?_
  repeat (first|refine za4 ?_|refine za3 ?_)
  refine ⟨trivial,?_,hA0⟩
  simp [go_sem,zaw,zav]
set_option maxHeartbeats 1000000 in
theorem sameRat_any {w:World} {n:Bool} {ya yb za zb:Option Addr} {yc yd zc zd:Nat} {l m:List Nat} (h1:RD w ya yc l) (h2:RD w yb yd m) (h3:RD w za zc l) (h4:RD w zb zd m) (hl:l.length≤maxLen) (hm:m.length≤maxLen) :
  Calls Try.prog 38 #[.agg #[.bool n,.slice ya l.length yc,.slice yb m.length yd],.agg #[.bool n,.slice za l.length zc,.slice zb m.length zd]] w fun e w'=>e = .returned (.bool true)∧Below w.heap.size w w':=by
 refine za8 (args:=[.agg #[.bool n,.slice ya l.length yc,.slice yb m.length yd],.agg #[.bool n,.slice za l.length zc,.slice zb m.length zd]]) (rs:=[.tmp 4]) (n:=28) Try.func38 rfl rfl rfl (by kernel_rfl) ?_
 have hA0:=Below.refl w.heap.size w
 first|refine zzr fun K hK=>?_|refine zzt fun K hK=>?_
 simp [go_sem,za0,za2,za1]
 refine zbF #[.bool n,.slice ya l.length yc,.slice yb m.length yd] (by simp [go_sem,za0,za2,za1]) rfl (by simp [go_sem,Value.cells,za0,za2,za1]) (fun w1 b1 hE1 hle1 hB1=>?_)
 have hb1_0:=Nat.le_trans hA0.size hle1
 replace hA0:=hA0.next hE1
 simp [go_sem,za0,za2,za1,hB1.cell]
 refine zbF #[.bool n,.slice za l.length zc,.slice zb m.length zd] (by simp [go_sem,za0,za2,za1,hB1.cell]) rfl (by simp [go_sem,Value.cells,za0,za2,za1,hB1.cell]) (fun w2 b2 hE2 hle2 hB2=>?_)
 have hb2_0:=Nat.le_trans hA0.size hle2
 have hd1_2:b1≠b2:=Nat.ne_of_lt (Nat.lt_of_lt_of_le hB1.lt hle2)
 replace hA0:=hA0.next hE2
 replace hB1:=hB1.keep hE2
 simp [go_sem,za0,za2,za1,hB1.cell,hB2.cell]
 refine hK _ _ ?_;clear hK K
 first|refine zzr fun K hK=>?_|refine zzt fun K hK=>?_
 simp [go_sem,za0,za2,za1,hB1.cell,hB2.cell]
 refine za5 (by simp [go_sem,za0,za2,za1,hB1.cell,hB2.cell]) rfl Try.call48 (fun R hR=>?_)
 simp [go_sem,za0,za2,za1,hB1.cell,hB2.cell]
 refine (sameNat_any (h1.ext hA0) (h3.ext hA0) hl).mono ?_
 rintro e w3 ⟨rfl,hE3⟩
 refine ⟨_,rfl,hR _ _ ?_⟩
 clear hR R
 replace hA0:=hA0.next hE3
 replace hB1:=hB1.keep hE3
 replace hB2:=hB2.keep hE3
 simp [go_sem,za0,za2,za1,hB1.cell,hB2.cell]
 refine za5 (by simp [go_sem,za0,za2,za1,hB1.cell,hB2.cell]) rfl Try.call48 (fun R hR=>?_)
 simp [go_sem,za0,za2,za1,hB1.cell,hB2.cell]
 refine (sameNat_any (h2.ext hA0) (h4.ext hA0) hm).mono ?_
 rintro e w4 ⟨rfl,hE4⟩
 refine ⟨_,rfl,hR _ _ ?_⟩
 clear hR R
 replace hA0:=hA0.next hE4
 replace hB1:=hB1.keep hE4
 replace hB2:=hB2.keep hE4
 simp [go_sem,za0,za2,za1,hB1.cell,hB2.cell]
 refine hK _ _ ?_;clear hK K
 refine zal ?_
 repeat (first|refine za4 ?_|refine za3 ?_)
 refine ⟨trivial,?_,hA0⟩
 simp [go_sem,zaw,zav]
set_option maxHeartbeats 2000000 in
theorem zdf (x:Tre) (w:World) (F1 F2:Nat→Prop) (R1 R2:List Value) (h1:EX w F1 R1 x) (h2:EX w F2 R2 x):Calls Try.prog 28 #[.agg R1.toArray,.agg R2.toArray] w fun e w'=>e = .returned (.bool true)∧Below w.heap.size w w':=by
 obtain ⟨ya,yc,yb,yd,ye,yp,yrows,rfl,y1,y2,y3,y4,y5,y6⟩:=h1.open
 obtain ⟨za,zc,zb,zd,ze,zp,zrows,rfl,z1,z2,z3,z4,z5,z6⟩:=h2.open
 have hal:=y3.max
 unfold maxLen at hal
 refine za8 (args:=[.agg #[.int .i64 x.kind,.string ⟨x.name.toArray⟩,.bool x.neg,.slice ya x.num.length yc,.slice yb x.den.length yd,.slice ye x.args.length yp,.int .i64 x.pos],.agg #[.int .i64 x.kind,.string ⟨x.name.toArray⟩,.bool x.neg,.slice za x.num.length zc,.slice zb x.den.length zd,.slice ze x.args.length zp,.int .i64 x.pos]]) (rs:=[.tmp 4]) (n:=54) Try.func28 rfl rfl rfl (by kernel_rfl) ?_
 have hA0:=Below.refl w.heap.size w
 first|refine zzr fun K hK=>?_|refine zzt fun K hK=>?_
 simp [go_sem,za0,za2,za1]
 refine zbF #[.int .i64 x.kind,.string ⟨x.name.toArray⟩,.bool x.neg,.slice ya x.num.length yc,.slice yb x.den.length yd,.slice ye x.args.length yp,.int .i64 x.pos] (by simp [go_sem,za0,za2,za1]) rfl (by simp [go_sem,Value.cells,za0,za2,za1]) (fun w1 b1 hE1 hle1 hB1=>?_)
 have hb1_0:=Nat.le_trans hA0.size hle1
 replace hA0:=hA0.next hE1
 simp [go_sem,za0,za2,za1,hB1.cell]
 refine zbF #[.int .i64 x.kind,.string ⟨x.name.toArray⟩,.bool x.neg,.slice za x.num.length zc,.slice zb x.den.length zd,.slice ze x.args.length zp,.int .i64 x.pos] (by simp [go_sem,za0,za2,za1,hB1.cell]) rfl (by simp [go_sem,Value.cells,za0,za2,za1,hB1.cell]) (fun w2 b2 hE2 hle2 hB2=>?_)
 have hb2_0:=Nat.le_trans hA0.size hle2
 have hd1_2:b1≠b2:=Nat.ne_of_lt (Nat.lt_of_lt_of_le hB1.lt hle2)
 replace hA0:=hA0.next hE2
 replace hB1:=hB1.keep hE2
 simp [go_sem,za0,za2,za1,hB1.cell,hB2.cell]
 refine hK _ _ ?_;clear hK K
 refine zad (fun K1 hK1=>?_)
 first|refine zzr fun K hK=>?_|refine zzt fun K hK=>?_
 simp [go_sem,za0,za2,za1,hB1.cell,hB2.cell]
 refine za5 (by simp [go_sem,za0,za2,za1,hB1.cell,hB2.cell]) rfl Try.call38 (fun R hR=>?_)
 simp [go_sem,za0,za2,za1,hB1.cell,hB2.cell]
 refine (sameRat_any (y1.ext hA0) (y2.ext hA0) (z1.ext hA0) (z2.ext hA0) y5 y6).mono ?_
 rintro e w3 ⟨rfl,hE3⟩
 refine ⟨_,rfl,hR _ _ ?_⟩
 clear hR R
 replace hA0:=hA0.next hE3
 replace hB1:=hB1.keep hE3
 replace hB2:=hB2.keep hE3
 simp [go_sem,za0,za2,za1,hB1.cell,hB2.cell]
 refine hK _ _ ?_;clear hK K
 refine zao (t:=false) (by simp [go_sem,za0,za2,za1,hB1.cell,hB2.cell]) rfl ?_
 refine zae ?_
 refine hK1 _ _ ?_
 refine zad (fun K2 hK2=>?_)
 first|refine zzr fun K hK=>?_|refine zzt fun K hK=>?_
 simp [go_sem,za0,za2,za1,hB1.cell,hB2.cell]
 refine hK _ _ ?_;clear hK K
 refine zag ?_
 refine zaJ (fun m' g w'=>Below w.heap.size w w'∧Bx w' b1 #[.int .i64 x.kind,.string ⟨x.name.toArray⟩,.bool x.neg,.slice ya x.num.length yc,.slice yb x.den.length yd,.slice ye x.args.length yp,.int .i64 x.pos] 38∧Bx w' b2 #[.int .i64 x.kind,.string ⟨x.name.toArray⟩,.bool x.neg,.slice za x.num.length zc,.slice zb x.den.length zd,.slice ze x.args.length zp,.int .i64 x.pos] 38∧∃ j:Nat,j≤x.args.length∧m'=x.args.length-j∧g 2 = .pointer (some ⟨b1,0,none⟩)∧g 3 = .pointer (some ⟨b2,0,none⟩)∧g 37 = .int .i64 x.args.length∧g 38 = .int .i64 j) x.args.length ?_ ?_
 ·exact ⟨hA0,hB1,hB2,0,by omega,rfl,by simp [go_sem],by simp [go_sem],by simp [go_sem],by simp [go_sem]⟩
 clear hA0 hB1 hB2
 rintro m' g w' ⟨hA0,hB1,hB2,j,hj,rfl,g2,g3,gn,gi⟩
 by_cases hlt:j<x.args.length
 ·have c1:(j:Int)<x.args.length:=by omega
  have hw1:IntKind.i64.wrap ((j:Int)+1)=(j+1:Nat):=by rw [IntWalk.i64_in _ (by omega)];omega
  have hAd:=hA0.next (Below.drew1 w')
  obtain ⟨Ra,_,q1,q2,q3,q4⟩:=(y3.ext hAd).row (List.getElem?_eq_getElem hlt)
  obtain ⟨Rb,_,p1,p2,p3,p4⟩:=(z3.ext hAd).row (List.getElem?_eq_getElem hlt)
  have hrec:=zdf (x.args[j]'hlt) w'.drew _ _ Ra Rb q4 p4
  first|refine zzr fun K hK=>?_|refine zzt fun K hK=>?_
  simp [go_sem,za0,za2,za1,hB1.cell,hB2.cell,g2,g3,gn,gi, c1,hlt]
  refine hK _ _ ?_;clear hK K
  refine zad (fun K3 hK3=>?_)
  refine zao (t:=true) (by simp [go_sem,za0,za2,za1,hB1.cell,hB2.cell,g2,g3,gn,gi,c1,hlt]) rfl ?_
  refine zae ?_
  refine hK3 _ _ ?_
  refine zad (fun K4 hK4=>?_)
  refine zag ?_
  first|refine zzr fun K hK=>?_|refine zzt fun K hK=>?_
  simp [go_sem,za0,za2,za1,hB1.cell,hB2.cell,g2,g3,gn,gi]
  refine hK _ _ ?_;clear hK K
  have hD4:=Below.drew1 w'
  replace hA0:=hA0.next hD4
  replace hB1:=hB1.keep hD4
  replace hB2:=hB2.keep hD4
  first|refine W_rd [(0,0),(1,0),(2,0),(3,0),(4,0),(5,0),(6,0),(7,0),(8,0),(9,0),(10,1),(11,0)] (by kernel_rfl) (by kernel_rfl) (fun K hK=>?_)|refine zbC [(0,0),(1,0),(2,0),(3,0),(4,0),(5,0),(6,0),(7,0),(8,0),(9,0),(10,1),(11,0)] (by kernel_rfl) (by kernel_rfl) (fun K hK=>?_)
  simp [go_sem,za0,hB1.cell,hB2.cell,g2,g3,gn,gi, c1,hlt,q1,q2,q3,p1,p2,p3]
  refine za5 (by simp [go_sem,za0,hB1.cell,hB2.cell,g2,g3,gn,gi,za2,za1,c1,hlt]) rfl Try.call28 (fun R hR=>?_)
  simp [go_sem,za0,hB1.cell,hB2.cell,g2,g3,gn,gi,za2,za1,c1,hlt]
  refine (hrec).mono ?_
  rintro e w5 ⟨rfl,hE5⟩
  refine ⟨_,rfl,(by assumption),hR _ _ ?_⟩
  clear hR R
  replace hA0:=hA0.next hE5
  replace hB1:=hB1.keep hE5
  replace hB2:=hB2.keep hE5
  simp [go_sem,za0,hB1.cell,hB2.cell,g2,g3,gn,gi,za2,za1,c1,hlt]
  refine hK _ _ ?_;clear hK K
  refine zao (t:=false) (by simp [go_sem,za0,hB1.cell,hB2.cell,g2,g3,gn,gi,za2,za1]) rfl ?_
  refine zae ?_
  refine hK4 _ _ ?_
  refine zzt fun K hK=>?_
  simp [go_sem,gi,hw1]
  refine hK _ _ ⟨x.args.length-(j+1),by omega,hA0,hB1,hB2,j+1,by omega,rfl,by simp [go_sem,g2],by simp [go_sem,g3],by simp [go_sem,gn],by simp [go_sem]⟩
 ·have c1:¬(j:Int)<x.args.length:=by omega
  first|refine zzr fun K hK=>?_|refine zzt fun K hK=>?_
  simp [go_sem,za0,za2,za1,hB1.cell,hB2.cell,g2,g3,gn,gi, c1,hlt]
  refine hK _ _ ?_;clear hK K
  refine zad (fun K3 hK3=>?_)
  refine zao (t:=false) (by simp [go_sem,za0,za2,za1,hB1.cell,hB2.cell,g2,g3,gn,gi,c1,hlt]) rfl ?_
  refine zaB ?_
  repeat (first|refine zak ?_|refine za9 rfl ?_|refine zac ?_)
  refine hK2 _ _ ?_
  first|refine zzr fun K hK=>?_|refine zzt fun K hK=>?_
  simp [go_sem,za0,za2,za1,hB1.cell,hB2.cell,g2,g3,gn,gi]
  refine hK _ _ ?_;clear hK K
  refine zal ?_
  repeat (first|refine za4 ?_|refine za3 ?_)
  refine ⟨trivial,?_,hA0⟩
  simp [go_sem,zaw,zav]
termination_by SizeOf.sizeOf x
decreasing_by
 exact Tre.lt_args (List.getElem_mem _)
set_option maxHeartbeats 2000000 in
theorem sameExpr_any (x:Tre) (w:World) (F1 F2:Nat→Prop) (R1 R2:List Value) (h1:EX w F1 R1 x) (h2:EX w F2 R2 x):Calls Try.prog 16 #[.agg R1.toArray,.agg R2.toArray] w fun e w'=>e = .returned (.bool true)∧Below w.heap.size w w':=by
 obtain ⟨ya,yc,yb,yd,ye,yp,yrows,rfl,y1,y2,y3,y4,y5,y6⟩:=h1.open
 obtain ⟨za,zc,zb,zd,ze,zp,zrows,rfl,z1,z2,z3,z4,z5,z6⟩:=h2.open
 have hal:=y3.max
 unfold maxLen at hal
 refine za8 (args:=[.agg #[.int .i64 x.kind,.string ⟨x.name.toArray⟩,.bool x.neg,.slice ya x.num.length yc,.slice yb x.den.length yd,.slice ye x.args.length yp,.int .i64 x.pos],.agg #[.int .i64 x.kind,.string ⟨x.name.toArray⟩,.bool x.neg,.slice za x.num.length zc,.slice zb x.den.length zd,.slice ze x.args.length zp,.int .i64 x.pos]]) (rs:=[.tmp 4]) (n:=36) Try.func16 rfl rfl rfl (by kernel_rfl) ?_
 have hA0:=Below.refl w.heap.size w
 first|refine zzr fun K hK=>?_|refine zzt fun K hK=>?_
 simp [go_sem,za0,za2,za1]
 refine zbF #[.int .i64 x.kind,.string ⟨x.name.toArray⟩,.bool x.neg,.slice ya x.num.length yc,.slice yb x.den.length yd,.slice ye x.args.length yp,.int .i64 x.pos] (by simp [go_sem,za0,za2,za1]) rfl (by simp [go_sem,Value.cells,za0,za2,za1]) (fun w1 b1 hE1 hle1 hB1=>?_)
 have hb1_0:=Nat.le_trans hA0.size hle1
 replace hA0:=hA0.next hE1
 simp [go_sem,za0,za2,za1,hB1.cell]
 refine zbF #[.int .i64 x.kind,.string ⟨x.name.toArray⟩,.bool x.neg,.slice za x.num.length zc,.slice zb x.den.length zd,.slice ze x.args.length zp,.int .i64 x.pos] (by simp [go_sem,za0,za2,za1,hB1.cell]) rfl (by simp [go_sem,Value.cells,za0,za2,za1,hB1.cell]) (fun w2 b2 hE2 hle2 hB2=>?_)
 have hb2_0:=Nat.le_trans hA0.size hle2
 have hd1_2:b1≠b2:=Nat.ne_of_lt (Nat.lt_of_lt_of_le hB1.lt hle2)
 replace hA0:=hA0.next hE2
 replace hB1:=hB1.keep hE2
 simp [go_sem,za0,za2,za1,hB1.cell,hB2.cell]
 refine hK _ _ ?_;clear hK K
 refine zad (fun K1 hK1=>?_)
 first|refine zzr fun K hK=>?_|refine zzt fun K hK=>?_
 simp [go_sem,za0,za2,za1,hB1.cell,hB2.cell]
 refine za5 (by simp [go_sem,za0,za2,za1,hB1.cell,hB2.cell]) rfl Try.call28 (fun R hR=>?_)
 simp [go_sem,za0,za2,za1,hB1.cell,hB2.cell]
 refine (zdf x _ _ _ _ _ (h1.ext hA0) (h2.ext hA0)).mono ?_
 rintro e w3 ⟨rfl,hE3⟩
 refine ⟨_,rfl,hR _ _ ?_⟩
 clear hR R
 replace hA0:=hA0.next hE3
 replace hB1:=hB1.keep hE3
 replace hB2:=hB2.keep hE3
 simp [go_sem,za0,za2,za1,hB1.cell,hB2.cell]
 refine hK _ _ ?_;clear hK K
 refine zao (t:=false) (by simp [go_sem,za0,za2,za1,hB1.cell,hB2.cell]) rfl ?_
 refine zae ?_
 refine hK1 _ _ ?_
 refine zad (fun K2 hK2=>?_)
 first|refine zzr fun K hK=>?_|refine zzt fun K hK=>?_
 simp [go_sem,za0,za2,za1,hB1.cell,hB2.cell]
 refine hK _ _ ?_;clear hK K
 refine zag ?_
 refine zaJ (fun m' g w'=>Below w.heap.size w w'∧Bx w' b1 #[.int .i64 x.kind,.string ⟨x.name.toArray⟩,.bool x.neg,.slice ya x.num.length yc,.slice yb x.den.length yd,.slice ye x.args.length yp,.int .i64 x.pos] 38∧Bx w' b2 #[.int .i64 x.kind,.string ⟨x.name.toArray⟩,.bool x.neg,.slice za x.num.length zc,.slice zb x.den.length zd,.slice ze x.args.length zp,.int .i64 x.pos] 38∧∃ j:Nat,j≤x.args.length∧m'=x.args.length-j∧g 2 = .pointer (some ⟨b1,0,none⟩)∧g 3 = .pointer (some ⟨b2,0,none⟩)∧g 19 = .int .i64 x.args.length∧g 20 = .int .i64 j) x.args.length ?_ ?_
 ·exact ⟨hA0,hB1,hB2,0,by omega,rfl,by simp [go_sem],by simp [go_sem],by simp [go_sem],by simp [go_sem]⟩
 clear hA0 hB1 hB2
 rintro m' g w' ⟨hA0,hB1,hB2,j,hj,rfl,g2,g3,gn,gi⟩
 by_cases hlt:j<x.args.length
 ·have c1:(j:Int)<x.args.length:=by omega
  have hw1:IntKind.i64.wrap ((j:Int)+1)=(j+1:Nat):=by rw [IntWalk.i64_in _ (by omega)];omega
  have hAd:=hA0.next (Below.drew1 w')
  obtain ⟨Ra,_,q1,q2,q3,q4⟩:=(y3.ext hAd).row (List.getElem?_eq_getElem hlt)
  obtain ⟨Rb,_,p1,p2,p3,p4⟩:=(z3.ext hAd).row (List.getElem?_eq_getElem hlt)
  have hrec:=sameExpr_any (x.args[j]'hlt) w'.drew _ _ Ra Rb q4 p4
  first|refine zzr fun K hK=>?_|refine zzt fun K hK=>?_
  simp [go_sem,za0,za2,za1,hB1.cell,hB2.cell,g2,g3,gn,gi, c1,hlt]
  refine hK _ _ ?_;clear hK K
  refine zad (fun K3 hK3=>?_)
  refine zao (t:=true) (by simp [go_sem,za0,za2,za1,hB1.cell,hB2.cell,g2,g3,gn,gi,c1,hlt]) rfl ?_
  refine zae ?_
  refine hK3 _ _ ?_
  refine zad (fun K4 hK4=>?_)
  refine zag ?_
  first|refine zzr fun K hK=>?_|refine zzt fun K hK=>?_
  simp [go_sem,za0,za2,za1,hB1.cell,hB2.cell,g2,g3,gn,gi]
  refine hK _ _ ?_;clear hK K
  have hD4:=Below.drew1 w'
  replace hA0:=hA0.next hD4
  replace hB1:=hB1.keep hD4
  replace hB2:=hB2.keep hD4
  first|refine W_rd [(0,0),(1,0),(2,0),(3,0),(4,0),(5,0),(6,0),(7,0),(8,0),(9,0),(10,1),(11,0)] (by kernel_rfl) (by kernel_rfl) (fun K hK=>?_)|refine zbC [(0,0),(1,0),(2,0),(3,0),(4,0),(5,0),(6,0),(7,0),(8,0),(9,0),(10,1),(11,0)] (by kernel_rfl) (by kernel_rfl) (fun K hK=>?_)
  simp [go_sem,za0,hB1.cell,hB2.cell,g2,g3,gn,gi, c1,hlt,q1,q2,q3,p1,p2,p3]
  refine za5 (by simp [go_sem,za0,hB1.cell,hB2.cell,g2,g3,gn,gi,za2,za1,c1,hlt]) rfl Try.call16 (fun R hR=>?_)
  simp [go_sem,za0,hB1.cell,hB2.cell,g2,g3,gn,gi,za2,za1,c1,hlt]
  refine (hrec).mono ?_
  rintro e w5 ⟨rfl,hE5⟩
  refine ⟨_,rfl,(by assumption),hR _ _ ?_⟩
  clear hR R
  replace hA0:=hA0.next hE5
  replace hB1:=hB1.keep hE5
  replace hB2:=hB2.keep hE5
  simp [go_sem,za0,hB1.cell,hB2.cell,g2,g3,gn,gi,za2,za1,c1,hlt]
  refine hK _ _ ?_;clear hK K
  refine zao (t:=false) (by simp [go_sem,za0,hB1.cell,hB2.cell,g2,g3,gn,gi,za2,za1]) rfl ?_
  refine zae ?_
  refine hK4 _ _ ?_
  refine zzt fun K hK=>?_
  simp [go_sem,gi,hw1]
  refine hK _ _ ⟨x.args.length-(j+1),by omega,hA0,hB1,hB2,j+1,by omega,rfl,by simp [go_sem,g2],by simp [go_sem,g3],by simp [go_sem,gn],by simp [go_sem]⟩
 ·have c1:¬(j:Int)<x.args.length:=by omega
  first|refine zzr fun K hK=>?_|refine zzt fun K hK=>?_
  simp [go_sem,za0,za2,za1,hB1.cell,hB2.cell,g2,g3,gn,gi, c1,hlt]
  refine hK _ _ ?_;clear hK K
  refine zad (fun K3 hK3=>?_)
  refine zao (t:=false) (by simp [go_sem,za0,za2,za1,hB1.cell,hB2.cell,g2,g3,gn,gi,c1,hlt]) rfl ?_
  refine zaB ?_
  repeat (first|refine zak ?_|refine za9 rfl ?_|refine zac ?_)
  refine hK2 _ _ ?_
  first|refine zzr fun K hK=>?_|refine zzt fun K hK=>?_
  simp [go_sem,za0,za2,za1,hB1.cell,hB2.cell,g2,g3,gn,gi]
  refine hK _ _ ?_;clear hK K
  refine zal ?_
  repeat (first|refine za4 ?_|refine za3 ?_)
  refine ⟨trivial,?_,hA0⟩
  simp [go_sem,zaw,zav]
termination_by SizeOf.sizeOf x
decreasing_by
 exact Tre.lt_args (List.getElem_mem _)
end Go.Proofs.Ytefhenfofomjhaa
