/- Symbolic evaluation: one operation, a region. -/
import Derived.Test.YtefhenfofomjhaaGreatEv3
import Derived.Conc.MuLone
set_option linter.unusedSimpArgs false
set_option linter.unusedVariables false
namespace Go.Proofs.YtefhenfofomjhaaGreat
open Go Go.RowKit Go.V
def Reps (w:World):List Sh→List At→List Value→Prop
 | [],als,cs=>als=[]∧cs=[]
 | sh::shs,als,cs=>∃ a r c1 c2,als=a::r∧cs=c1++c2∧a.sh=sh∧a.Rep w c1∧Reps w shs r c2
def mkV (shs:List Sh) (cs:List Value):Value:=match single shs,cs with
 | true,[v]=>v
 | _,cs=>.agg cs.toArray
def RepV (w:World):List Sh→List At→Value→Prop
 | .sl n::r,als,v=>∃ ad c cs,v = .slice ad n c∧SL w ad cs∧Reps w r als cs
 | shs,als,v=>∃ cs,Reps w shs als cs∧v=mkV shs cs
theorem RepV_of {w:World} {shs:List Sh} {als:List At} {v:Value} (h:noSl shs=true):RepV w shs als v↔∃ cs,Reps w shs als cs∧v=mkV shs cs:=by
 cases shs with
 | nil=>exact Iff.rfl
 | cons sh r=>cases sh<;>first|exact Iff.rfl|cases h
def zeK (w:World):List (List Sh)→List At→List Value→Prop
 | [],als,vs=>als=[]∧vs=[]
 | shs::r,als,vs=>∃ a1 a2 v q,als=a1++a2∧vs=v::q∧RepV w shs a1 v∧zeK w r a2 q
def Ct.ok (P:Program) (f:Nat) (c:Ct):Prop:=∀ (s:Nat) (w:World) (vs:List Value) (als r:List At),s≤c.L→zeK w c.args als vs→(∀ a∈als,a.sz≤s)→c.F als=some r →
 Calls P f vs.toArray w fun e w'=>∃ rvs,e = .returned (zar rvs)∧zeK w' c.res r rvs∧(∀ a∈r,a.sz≤c.A*s+c.B)∧Below w.heap.size w w'
def GamOk (P:Program) (Γ:Gam):Prop:=∀ f c,Γ f=some c→c.ok P (f % 8192)
theorem zbe {α β:Type} {Γ:Gam} {Q:β→Ev→Prop} {k:α→Tr β}:∀ (t:Tr α) (e:Ev),(t.bind k).sat Γ Q e↔t.sat Γ (fun a e'=>(k a).sat Γ Q e') e
 | .leaf a,e=>Iff.rfl
 | .br c t f,e=>by simp only [Tr.bind,Tr.sat,zbe t e,zbe f e]
 | .call f args base t,e=>by simp only [Tr.bind,Tr.sat,zbe t]
 | .obj l base t,e=>by simp only [Tr.bind,Tr.sat,zbe t]
 | .bad,e=>Iff.rfl
theorem sat_mono {α:Type} {Γ:Gam} {Q Q':α→Ev→Prop} (h:∀ a e,Q a e→Q' a e):∀ (t:Tr α) (e:Ev),t.sat Γ Q e→t.sat Γ Q' e
 | .leaf a,e,ht=>h a e ht
 | .br c t f,e,ht=>⟨fun hc=>sat_mono h t e (ht.1 hc),fun hc=>sat_mono h f e (ht.2 hc)⟩
 | .call f args base t,e,⟨c,als,r,h1,h2,h3,h4⟩=>⟨c,als,r,h1,h2,h3,sat_mono h t _ h4⟩
 | .obj l base t,e,ht=>sat_mono h t _ ht
 | .bad,e,ht=>ht
section
variable {s:Nat} {E:En} {h:List (Option (List SC))} {sz:Szs} {w:World} (H:SatM s E h sz w)
include H
theorem shOf_rep {k:Nat} {sh:Sh} (hs:shOf sz k=some sh):∃ a cs,E.ob k=some (a,cs)∧E.env k=some a∧a.sh=sh∧a.Rep w cs∧∃ p,szK sz k=some p∧a.sz≤p.1*s+p.2:=by
 unfold shOf at hs
 split at hs
 ·rename_i p hp
  injection hs with hs;subst hs
  obtain ⟨a,cs,h1,h2,h3,h4⟩:=H.objs k p hp
  exact ⟨a,cs,h1,env_of h1,h2,h3,p.2,by simp [szK,hp],h4⟩
 ·cases hs
theorem lOf_rd {c:SC} {e:LE} {v:Value} (hl:lOf sz c=some e) (hc:zcW E c=some v):∃ l a cap,e.ev E.env=some l∧v = .slice a l.length cap∧RD w a cap l∧(∀ p,szL sz e=some p→l.length≤p.1*s+p.2):=by
 unfold lOf at hl
 split at hl
 ·injection hl with hl;subst hl;injection hc with hc;subst hc;exact ⟨[],_,_,rfl,rfl,RD.nil _ _ _,fun p _=>by simp⟩
 ·rename_i k j
  have key:∀ sh,shOf sz k=some sh→(∀ a:At,a.sh=sh→∃ l,a.lst j=some l∧l.length≤a.sz)→∃ l a cap,(LE.var k j).ev E.env=some l∧v = .slice a l.length cap∧RD w a cap l∧(∀ p,szL sz (.var k j)=some p→l.length≤p.1*s+p.2):=by
   intro sh hs hsh
   obtain ⟨a,cs,h1,h0,h2,h3,p,h5,h6⟩:=shOf_rep H hs
   obtain ⟨l,hl,hle⟩:=hsh a h2
   obtain ⟨ad,c,h4,hrd⟩:=Rep_lst h3 hl
   simp only [zcW,h1,obC,h4] at hc
   injection hc with hc
   refine ⟨l,ad,c,by simp [LE.ev,h0,zcD,hl],hc.symm,hrd,fun q hq=>?_⟩
   simp only [szL,h5] at hq
   injection hq with hq;subst hq
   omega
  split at hl
  all_goals first
   | (rename_i hs;injection hl with hl;subst hl;refine key _ hs ?_;intro a ha;cases a<;>simp [At.sh] at ha;exact ⟨_,rfl,by simp only [At.sz];omega⟩)
   | (cases hl;done)
 ·cases hl
theorem obj_den {sh:Sh} {cs:List SC} {k:Nat} {vs:List Value} (ho:objS sz sh cs=some k) (hd:zcT E cs=some vs):∃ a,E.env k=some a∧a.sh=sh∧a.Rep w vs∧(∀ p,szK sz k=some p→a.sz≤p.1*s+p.2):=by
 unfold objS at ho
 split at ho
 ·rename_i k1 k2 k3
  split at ho
  ·rename_i hs
   split at ho
   ·rename_i hc
    injection ho with ho;subst ho
    simp only [Bool.and_eq_true,Nat.beq_eq] at hc
    obtain ⟨rfl,rfl⟩:=hc
    obtain ⟨a,cs,h1,h0,h2,h3,p,h5,h6⟩:=shOf_rep H hs
    refine ⟨a,h0,h2,?_,fun q hq=>by rw [h5] at hq;injection hq with hq;subst hq;exact h6⟩
    cases a<;>simp [At.sh] at h2
    obtain ⟨a,c,a',c',rfl,h7,h8⟩:=h3
    simp [zcT,zcW,h1,obC,op2] at hd
    exact ⟨a,c,a',c',hd.symm,h7,h8⟩
   ·cases ho
  ·cases ho
 ·rename_i k1 k2
  split at ho
  ·rename_i hs
   split at ho
   ·rename_i hc
    injection ho with ho;subst ho
    simp only [Nat.beq_eq] at hc
    subst hc
    obtain ⟨a,cs,h1,h0,h2,h3,p,h5,h6⟩:=shOf_rep H hs
    refine ⟨a,h0,h2,?_,fun q hq=>by rw [h5] at hq;injection hq with hq;subst hq;exact h6⟩
    cases a<;>simp [At.sh] at h2
    obtain ⟨a,c,rfl,h7⟩:=h3
    simp [zcT,zcW,h1,obC,op2] at hd
    exact ⟨a,c,hd.symm,h7⟩
   ·cases ho
  ·cases ho
 ·split at ho
  ·rename_i hs
   injection ho with ho;subst ho
   obtain ⟨a,cs,h1,h0,h2,h3,p,h5,h6⟩:=shOf_rep H hs
   refine ⟨a,h0,h2,?_,fun q hq=>by rw [h5] at hq;injection hq with hq;subst hq;exact h6⟩
   cases a<;>simp [At.sh] at h2
   obtain ⟨rfl,h3,h4⟩:=h3
   simp [zcT,zcW,h1,obC,op2] at hd
   exact ⟨hd.symm,h3,h4⟩
  ·cases ho
 ·cases ho
theorem parseA_den {sh:Sh} {cs:List SC} {a:SA} {vs:List Value} (hp:parseA sz sh cs=some a) (hd:zcT E cs=some vs):∃ x,a.ev E.env=some x∧x.sh=sh∧x.Rep w vs∧(∀ p,szA sz a=some p→x.sz≤p.1*s+p.2):=by
 unfold parseA at hp
 split at hp
 ·rename_i k hk
  injection hp with hp;subst hp
  exact obj_den H hk hd
 ·split at hp
  ·rename_i c
   obtain ⟨e,h1,rfl⟩:=zaF hp
   obtain ⟨v,q,h2,h3,rfl⟩:=zat hd
   injection h3 with h3;subst h3
   obtain ⟨z,h4,rfl⟩:=iOf_den h1 h2
   exact ⟨.n z,by simp [SA.ev,h4,op1],rfl,rfl,fun p _=>by simp [At.sz]⟩
  ·rename_i c
   obtain ⟨e,h1,rfl⟩:=zaF hp
   obtain ⟨v,q,h2,h3,rfl⟩:=zat hd
   injection h3 with h3;subst h3
   obtain ⟨z,h4,rfl⟩:=zdK H.o h1 h2
   exact ⟨.b z,by simp [SA.ev,h4,op1],rfl,rfl,fun p _=>by simp [At.sz]⟩
  ·rename_i c
   obtain ⟨e,h1,rfl⟩:=zaF hp
   obtain ⟨v,q,h2,h3,rfl⟩:=zat hd
   injection h3 with h3;subst h3
   obtain ⟨z,h4,rfl⟩:=sOf_den H.o h1 h2
   exact ⟨.s (bs z),by simp [SA.ev,h4,op1],rfl,by simp [At.Rep,bs],fun p _=>by simp [At.sz]⟩
  ·rename_i c d e
   obtain ⟨x,l,m,h1,h2,h3,rfl⟩:=op3_some hp
   obtain ⟨v,q,h4,h5,rfl⟩:=zat hd
   obtain ⟨v2,q2,h6,h7,rfl⟩:=zat h5
   obtain ⟨v3,q3,h8,h9,rfl⟩:=zat h7
   injection h9 with h9;subst h9
   obtain ⟨z,e1,rfl⟩:=zdK H.o h1 h4
   obtain ⟨l1,a1,c1,e2,rfl,r1,s1⟩:=lOf_rd H h2 h6
   obtain ⟨l2,a2,c2,e3,rfl,r2,s2⟩:=lOf_rd H h3 h8
   refine ⟨.r z l1 l2,by simp [SA.ev,e1,e2,e3,op3],rfl,⟨a1,c1,a2,c2,rfl,r1,r2⟩,fun p hp=>?_⟩
   obtain ⟨p1,p2,g1,g2,rfl⟩:=zat hp
   have:=s1 p1 g1
   have:=s2 p2 g2
   simp only [At.sz,max2]
   have m1:p1.1*s≤max p1.1 p2.1*s:=Nat.mul_le_mul_right _ (by omega)
   have m2:p2.1*s≤max p1.1 p2.1*s:=Nat.mul_le_mul_right _ (by omega)
   omega
  ·rename_i c d
   obtain ⟨x,l,h1,h2,rfl⟩:=zat hp
   obtain ⟨v,q,h4,h5,rfl⟩:=zat hd
   obtain ⟨v2,q2,h6,h7,rfl⟩:=zat h5
   injection h7 with h7;subst h7
   obtain ⟨z,e1,rfl⟩:=zdK H.o h1 h4
   obtain ⟨l1,a1,c1,e2,rfl,r1,s1⟩:=lOf_rd H h2 h6
   exact ⟨.y z l1,by simp [SA.ev,e1,e2,op2],rfl,⟨a1,c1,rfl,r1⟩,fun p hp=>s1 p hp⟩
  ·rename_i c
   obtain ⟨l,h1,rfl⟩:=zaF hp
   obtain ⟨v,q,h2,h3,rfl⟩:=zat hd
   injection h3 with h3;subst h3
   obtain ⟨l1,a1,c1,e2,rfl,r1,s1⟩:=lOf_rd H h1 h2
   exact ⟨.u l1,by simp [SA.ev,e2,op1],rfl,⟨a1,c1,rfl,r1⟩,fun p hp=>s1 p hp⟩
  ·rename_i z _
   injection hp with hp;subst hp
   obtain ⟨v,q,h2,h3,rfl⟩:=zat hd
   injection h3 with h3;subst h3
   injection h2 with h2;subst h2
   exact ⟨.w (.int .u64 z),rfl,rfl,⟨rfl,rfl,rfl⟩,fun p _=>by simp [At.sz]⟩
  ·cases hp
theorem parseL_den:∀ {shs:List Sh} {cs:List SC} {sas:List SA} {vs:List Value},parseL sz shs cs=some sas→zcT E cs=some vs→∃ als,zbK E.env sas=some als∧Reps w shs als vs∧(∀ p,szAll sz sas=some p→∀ a∈als,a.sz≤p.1*s+p.2)
 | [],[],sas,vs,hp,hd=>by
  injection hp with hp;subst hp;injection hd with hd;subst hd
  exact ⟨[],rfl,⟨rfl,rfl⟩,fun p _ a ha=>by cases ha⟩
 | [],_::_,_,_,hp,_=>by cases hp
 | sh::r,cs,sas,vs,hp,hd=>by
  simp only [parseL] at hp
  split at hp
  ·rename_i hle
   obtain ⟨a,l,h1,h2,rfl⟩:=zat hp
   obtain ⟨x,h3,h4,h5,h6⟩:=parseA_den H h1 (denL_take sh.size hd)
   obtain ⟨als,g1,g2,g3⟩:=parseL_den h2 (denL_drop sh.size hd)
   refine ⟨x::als,by simp [zbK,h3,g1,op2],⟨x,als,_,_,rfl,(List.take_append_drop sh.size vs).symm,h4,h5,g2⟩,fun p hp=>?_⟩
   obtain ⟨p1,p2,q1,q2,rfl⟩:=zat hp
   have m1:p1.1*s≤max p1.1 p2.1*s:=Nat.mul_le_mul_right _ (by omega)
   have m2:p2.1*s≤max p1.1 p2.1*s:=Nat.mul_le_mul_right _ (by omega)
   intro b hb
   simp only [max2]
   rcases List.mem_cons.1 hb with rfl|hb
   ·have:=h6 p1 q1;omega
   ·have:=g3 p2 q2 b hb;omega
  ·cases hp
theorem parseB_den {n:Nat} {r:List Sh} {b off m c:Nat} {sas:List SA} {v:Value} (hp:parseB sz h n r b off m=some sas) (hd:op1 (fun β=>Value.slice (some ⟨β,off,none⟩) m c) (E.bl b)=some v):∃ als,zbK E.env sas=some als∧RepV w (.sl n::r) als v∧(∀ p,szAll sz sas=some p→∀ a∈als,a.sz≤p.1*s+p.2):=by
 unfold parseB at hp
 ·split at hp
  ·rename_i hm
   split at hp
   ·rename_i cs hb
    split at hp
    ·rename_i hle
     simp only [Bool.and_eq_true] at hle
     obtain ⟨hle,hn16⟩:=hle
     obtain ⟨β,t,vs,h1,h2,h3⟩:=H.blocks b cs hb
     obtain ⟨als,g1,g2,g3⟩:=parseL_den H hp (denL_take (slTot r) (denL_drop off h2))
     have hm':=Nat.eq_of_beq_eq_true hm
     subst hm'
     have hv:v = .slice (some ⟨β,off,none⟩) m c:=by
      simp only [h1,op1] at hd
      injection hd with hd
      exact hd.symm
     refine ⟨als,g1,⟨_,c,_,hv,.inr ⟨β,off,rfl,fun j u hu=>?_⟩,g2⟩,g3⟩
     rw [List.getElem?_take] at hu
     split at hu
     ·rename_i hj
      rw [List.getElem?_drop] at hu
      have hj2:off+j<cs.length:=by rw [←zdv h2];exact (List.getElem?_eq_some_iff.1 hu).1
      have hc:=List.getElem?_eq_getElem hj2
      exact h3.cell hc (all_no16 hn16 (by omega) (by omega) hc) hu
     ·cases hu
    ·cases hp
   ·cases hp
  ·cases hp
theorem parseS_den {n:Nat} {r:List Sh} {x:S1} {sas:List SA} {v:Value} (hp:parseS sz h n r x=some sas) (hd:den1 E x=some v):∃ als,zbK E.env sas=some als∧RepV w (.sl n::r) als v∧(∀ p,szAll sz sas=some p→∀ a∈als,a.sz≤p.1*s+p.2):=by
 unfold parseS at hp
 split at hp
 ·exact parseB_den H hp hd
 ·exact parseB_den H hp hd
 ·cases hp
theorem parse1_den {shs:List Sh} {x:S1} {sas:List SA} {v:Value} (hp:parse1 sz h shs x=some sas) (hd:den1 E x=some v):∃ als,zbK E.env sas=some als∧RepV w shs als v∧(∀ p,szAll sz sas=some p→∀ a∈als,a.sz≤p.1*s+p.2):=by
 by_cases hn:noSl shs=true
 ·have e:parse1 sz h shs x=parseO sz shs x:=by
   cases shs with
   | nil=>rfl
   | cons sh r=>cases sh<;>first|rfl|cases hn
  rw [e] at hp
  unfold parseO at hp
  split at hp
  ·rename_i c
   split at hp
   ·rename_i hs
    obtain ⟨als,h1,h2,h3⟩:=parseL_den H hp (zdA hd rfl)
    exact ⟨als,h1,(RepV_of hn).2 ⟨_,h2,by simp [mkV,hs]⟩,h3⟩
   ·cases hp
  ·rename_i l
   split at hp
   ·cases hp
   ·rename_i hs
    obtain ⟨vs,h1,rfl⟩:=zaF hd
    obtain ⟨als,h2,h3,h4⟩:=parseL_den H hp h1
    exact ⟨als,h2,(RepV_of hn).2 ⟨_,h3,by simp [mkV,hs]⟩,h4⟩
 ·obtain ⟨n,r,rfl⟩:∃ n r,shs = .sl n::r:=by
   cases shs with
   | nil=>exact absurd rfl hn
   | cons sh r=>cases sh<;>first|exact ⟨_,_,rfl⟩|exact absurd rfl hn
  exact parseS_den H hp hd
end
theorem evAll_app {e:Ev}:∀ {l m:List SA} {als bs:List At},zbK e l=some als→zbK e m=some bs→zbK e (l++m)=some (als++bs)
 | [],_,_,_,h,h'=>by injection h with h;subst h;simpa using h'
 | c::r,_,_,_,h,h'=>by
  obtain ⟨a,b,h1,h2,rfl⟩:=zat h
  simp [zbK,h1,evAll_app h2 h',op2]
theorem szAll_app {sz:Szs}:∀ {l m:List SA} {p:Nat × Nat},szAll sz (l++m)=some p→∃ p1 p2,szAll sz l=some p1∧szAll sz m=some p2∧p1.1≤p.1∧p1.2≤p.2∧p2.1≤p.1∧p2.2≤p.2
 | [],m,p,h=>⟨(0,0),p,rfl,h,Nat.zero_le _,Nat.zero_le _,Nat.le_refl _,Nat.le_refl _⟩
 | c::r,m,p,h=>by
  obtain ⟨a,b,h1,h2,rfl⟩:=zat h
  obtain ⟨p1,p2,h3,h4,h5,h6,h7,h8⟩:=szAll_app h2
  refine ⟨max2 a p1,p2,by simp [szAll,h1,h3,op2],h4,?_⟩
  simp only [max2]
  omega
def denVs (E:En):List SV→Option (List Value)
 | []=>some []
 | c::r=>op2 List.cons (denV E c) (denVs E r)
theorem zdT {s:Nat} {E:En} {h:List (Option (List SC))} {sz:Szs} {w:World} (H:SatM s E h sz w):∀ {shss:List (List Sh)} {xs:List SV} {sas:List SA} {vs:List Value},zcJ sz h shss xs=some sas→denVs E xs=some vs →
  ∃ als,zbK E.env sas=some als∧zeK w shss als vs∧(∀ p,szAll sz sas=some p→∀ a∈als,a.sz≤p.1*s+p.2)
 | [],[],sas,vs,hp,hd=>by
  injection hp with hp;subst hp;injection hd with hd;subst hd
  exact ⟨[],rfl,⟨rfl,rfl⟩,fun p _ a ha=>by cases ha⟩
 | [],_::_,_,_,hp,_=>by simp [zcJ] at hp
 | _::_,[],_,_,hp,_=>by simp [zcJ] at hp
 | _::_,.t _::_,_,_,hp,_=>by simp [zcJ] at hp
 | shs::r,.v x::q,sas,vs,hp,hd=>by
  simp only [zcJ] at hp
  obtain ⟨l,m,h1,h2,rfl⟩:=zat hp
  obtain ⟨v,us,h3,h4,rfl⟩:=zat hd
  obtain ⟨als,g1,g2,g3⟩:=parse1_den H h1 h3
  obtain ⟨bs,e1,e2,e3⟩:=zdT H h2 h4
  refine ⟨als++bs,evAll_app g1 e1,⟨als,bs,v,us,rfl,rfl,g2,e2⟩,fun p hp a ha=>?_⟩
  obtain ⟨p1,p2,q1,q2,q3,q4,q5,q6⟩:=szAll_app hp
  have m1:p1.1*s≤p.1*s:=Nat.mul_le_mul_right _ q3
  have m2:p2.1*s≤p.1*s:=Nat.mul_le_mul_right _ q5
  rcases List.mem_append.1 ha with ha|ha
  ·have:=g3 p1 q1 a ha;omega
  ·have:=e3 p2 q2 a ha;omega
theorem Reps_obs {w:World}:∀ {shs:List Sh} {als:List At} {cs:List Value},Reps w shs als cs→∃ obs:List (At × List Value),obs.map (·.1)=als∧(∀ q∈obs,q.1.Rep w q.2)∧obs.map (fun q=>q.1.sh)=shs ∧
  (∀ (E':En) (base:Nat),(∀ i q,obs[i]? = some q→E'.ob (base+i)=some q)→zcT E' (zed base shs)=some cs)
 | [],_,_,h=>by
  obtain ⟨rfl,rfl⟩:=h
  exact ⟨[],rfl,fun q hq=>by (cases hq),rfl,fun _ _ _=>rfl⟩
 | sh::shs,_,_,h=>by
  obtain ⟨a,r,c1,c2,rfl,rfl,h1,h2,h3⟩:=h
  obtain ⟨obs,g1,g2,g3,g4⟩:=Reps_obs h3
  refine ⟨(a,c1)::obs,by simp [g1],fun q hq=>?_,by simp [g3,h1],fun E' base hE=>?_⟩
  ·rcases List.mem_cons.1 hq with rfl|hq
   ·exact h2
   ·exact g2 q hq
  ·have h0:E'.ob base=some (a,c1):=hE 0 (a,c1) rfl
   have hr:=g4 E' (base+1) (fun i q hi=>by have:=hE (i+1) q (by simpa using hi);rw [←this];congr 1;omega)
   simp only [zed]
   refine denL_app ?_ hr
   subst h1
   have he:=env_of h0
   cases a with
   | n z=>simp only [At.Rep] at h2;subst h2;simp [At.sh,zec,zcT,zcW,IE.ev,he,evN,op1,op2]
   | b z=>simp only [At.Rep] at h2;subst h2;simp [At.sh,zec,zcT,zcW,BE.ev,he,evB,op1,op2]
   | s z=>simp only [At.Rep] at h2;subst h2;simp [At.sh,zec,zcT,zcW,h0,obC,op2]
   | r neg l m=>obtain ⟨a,c,a',c',rfl,_⟩:=h2;simp [At.sh,zec,zcT,zcW,h0,obC,op2]
   | y neg l=>obtain ⟨a,c,rfl,_⟩:=h2;simp [At.sh,zec,zcT,zcW,h0,obC,op2]
   | u l=>obtain ⟨a,c,rfl,_⟩:=h2;simp [At.sh,zec,zcT,zcW,h0,obC,op2]
   | w z=>obtain ⟨rfl,_⟩:=h2;simp [At.sh,zec,zcT,zcW,h0,obC,op2]
   | k z=>simp only [At.Rep] at h2;subst h2;simp [At.sh,zec,zcT,zcW,op2]
   | kb z=>simp only [At.Rep] at h2;subst h2;simp [At.sh,zec,zcT,zcW,op2]
theorem comp_den {E:En} {base:Nat} {shs:List Sh} {cs:List Value} (h:zcT E (zed base shs)=some cs):den1 E (comp1 base shs)=some (mkV shs cs):=by
 have hl:=zdv h
 unfold comp1 mkV
 generalize zed base shs=l at *
 cases hs:single shs with
 | false=>simp [den1,h,op1]
 | true =>
  match l,cs,hl with
  | [c],[v],_ =>
   obtain ⟨a,b,h1,h2,h3⟩:=zat h
   injection h3 with h3 h4
   subst h3
   exact h1
  | [],[],_=>simp [den1,h,op1]
  | c::d::r,v::u::q,_=>simp [den1,h,op1]
theorem RepVs_obs {w:World}:∀ {shss:List (List Sh)} {als:List At} {vs:List Value},shss.all noSl=true→zeK w shss als vs→∃ obs:List (At × List Value),obs.map (·.1)=als∧(∀ q∈obs,q.1.Rep w q.2)∧obs.map (fun q=>q.1.sh)=shss.flatten ∧
  (∀ (E':En) (base:Nat),(∀ i q,obs[i]? = some q→E'.ob (base+i)=some q)→denT E' (compL base shss)=some vs)
 | [],_,_,_,h=>by
  obtain ⟨rfl,rfl⟩:=h
  exact ⟨[],rfl,fun q hq=>by (cases hq),rfl,fun _ _ _=>rfl⟩
 | shs::r,_,_,hn,h=>by
  simp only [List.all_cons,Bool.and_eq_true] at hn
  obtain ⟨a1,a2,v,q,rfl,rfl,hv,h3⟩:=h
  obtain ⟨cs,h1,rfl⟩:=(RepV_of hn.1).1 hv
  obtain ⟨o1,g1,g2,g3,g4⟩:=Reps_obs h1
  obtain ⟨o2,e1,e2,e3,e4⟩:=RepVs_obs hn.2 h3
  have hlen:o1.length=shs.length:=by rw [←g3];simp
  refine ⟨o1++o2,by simp [g1,e1],fun q hq=>?_,by simp [g3,e3],fun E' base hE=>?_⟩
  ·rcases List.mem_append.1 hq with hq|hq
   ·exact g2 q hq
   ·exact e2 q hq
  ·have k1:=g4 E' base (fun i q hi=>hE i q (by rw [List.getElem?_append_left (List.getElem?_eq_some_iff.1 hi).1];exact hi))
   have k2:=e4 E' (base+shs.length) (fun i q hi=>by
    have:=hE (o1.length+i) q (by rw [List.getElem?_append_right (by omega)];simpa using hi)
    rw [←this,hlen];congr 1;omega)
   simp only [compL,denT,comp_den k1,k2,op2]
theorem callS_ok {P:Program} {Γ:Gam} {s L:Nat} {c:Ct} {f:Nat} {E:En} {S:SS} {w:World} {xs:List SV} {vs:List Value} {R:Ending→World→Prop} (hΓ:GamOk P Γ) (hs:s≤L) (hc:Γ f=some c) (H:SatM s E S.h S.sz w) (hx:denVs E xs=some vs)
  (hsat:(callS L c f xs S).sat Γ (fun p e'=>∀ E' w' rvs,SatM s E' p.2.h p.2.sz w'→E'.env=e'→denT E' p.1=some rvs→Ext w.heap.size E w E' w'→R (.returned (zar rvs)) w') E.env):Calls P (f % 8192) vs.toArray w R:=by
 unfold callS at hsat
 split at hsat
 ·rename_i sas hp
  split at hsat
  ·rename_i p hsz
   split at hsat
   ·rename_i hle
    rw [Bool.and_eq_true] at hle
    obtain ⟨hle,hno⟩:=hle
    obtain ⟨c',als,r,h1,h2,h3,h4⟩:=hsat
    rw [hc] at h1;injection h1 with h1;subst h1
    obtain ⟨as',g1,g2,g3⟩:=zdT H hp hx
    rw [h2] at g1;injection g1 with g1;subst g1
    have hle':=Nat.le_of_ble_eq_true hle
    have hps:p.1*s+p.2≤c.L:=Nat.le_trans (Nat.add_le_add_right (by rw [Nat.mul_comm p.1 s];exact Nat.mul_le_mul_right _ hs) _) hle'
    refine (hΓ f c hc (p.1*s+p.2) w vs als r hps g2 (g3 p hsz) h3).mono ?_
    rintro e w' ⟨rvs,rfl,hr,hz,hE⟩
    obtain ⟨obs,o1,o2,o3,o4⟩:=RepVs_obs hno hr
    let n:=S.sz.length
    let E':En:={ E with ob:=fun k=>match (if Nat.ble n k then obs[k-n]? else none) with
     | some q=>some q
     | none=>E.ob k }
    have hnone:∀ k,n≤k→E.ob k=none:=by
     intro k hk
     cases hq:E.ob k with
     | none=>rfl
     | some q =>
      obtain ⟨p,hp⟩:=H.odom k q hq
      have:=(List.getElem?_eq_some_iff.1 hp).1
      omega
    have hlow:∀ k,k<n→E'.ob k=E.ob k:=by
     intro k hk
     have:Nat.ble n k=false:=by
      cases hb:Nat.ble n k with
      | false=>rfl
      | true=>have:=Nat.le_of_ble_eq_true hb;omega
     simp [E',this]
    have hhigh:∀ i q,obs[i]? = some q→E'.ob (n+i)=some q:=by
     intro i q hi
     have:Nat.ble n (n+i)=true:=Nat.ble_eq_true_of_le (by omega)
     simp [E',this,hi]
    have hdom:∀ k q,E'.ob k=some q→(k<n∧E.ob k=some q)∨∃ i,k=n+i∧obs[i]? = some q:=by
     intro k q hk
     by_cases hlt:k<n
     ·rw [hlow k hlt] at hk;exact .inl ⟨hlt,hk⟩
     ·refine .inr ⟨k-n,by omega,?_⟩
      have:Nat.ble n k=true:=Nat.ble_eq_true_of_le (by omega)
      simp only [E',this,if_true] at hk
      cases ho:obs[k-n]? with
      | none=>simp [ho,hnone k (by omega)] at hk
      | some q'=>simpa [ho] using hk
    have hle2:E.Le E':=⟨fun _ _ h=>h,fun k q hk=>by
     by_cases hlt:k<n
     ·rw [hlow k hlt];exact hk
     ·rw [hnone k (by omega)] at hk;exact (by cases hk),rfl⟩
    have HK:=H.keep hE
    have hol:obs.length=c.res.flatten.length:=by rw [←o3];simp
    refine h4 E' w' rvs ⟨fun b cs hb=>?_,H.inj,HK.dom,H.hdom,fun k q hk=>?_,fun k q hk=>?_⟩ ?_ (o4 E' n hhigh) ⟨hle2,fun b β hb=>.inl hb,hE⟩
    ·obtain ⟨β,t,us,k1,k2,k3⟩:=HK.blocks b cs hb
     exact ⟨β,t,us,k1,zd7 hle2 k2,k3⟩
    ·by_cases hlt:k<n
     ·rw [List.getElem?_append_left hlt] at hk
      obtain ⟨a,cs,k1,k2,k3,k4⟩:=HK.objs k q hk
      exact ⟨a,cs,hle2.ob k _ k1,k2,k3,k4⟩
     ·rw [List.getElem?_append_right (by omega)] at hk
      rw [List.getElem?_map] at hk
      cases hf:c.res.flatten[k-S.sz.length]? with
      | none=>simp [hf] at hk
      | some sh =>
       simp only [hf,Option.map_some,Option.some.injEq] at hk
       subst hk
       rw [←o3,List.getElem?_map] at hf
       cases ho:obs[k-S.sz.length]? with
       | none=>simp [ho] at hf
       | some q =>
        simp only [ho,Option.map_some,Option.some.injEq] at hf
        have hkn:k=n+(k-S.sz.length):=by omega
        have hm:=List.mem_of_getElem? ho
        refine ⟨q.1,q.2,?_,hf,o2 q hm,?_⟩
        ·rw [hkn];exact hhigh _ _ ho
        ·have:=hz q.1 (by rw [←o1];exact List.mem_map_of_mem hm)
         simp only
         have e1:c.A*(p.1*s+p.2)=c.A*p.1*s+c.A*p.2:=by rw [Nat.mul_add,Nat.mul_assoc]
         omega
    ·rcases hdom k q hk with ⟨h1,h2⟩|⟨i,rfl,hi⟩
     ·obtain ⟨p,hp⟩:=H.odom k q h2
      exact ⟨p,by rw [List.getElem?_append_left h1];exact hp⟩
     ·have hil:=(List.getElem?_eq_some_iff.1 hi).1
      rw [List.getElem?_append_right (by omega),List.getElem?_map]
      have:i<c.res.flatten.length:=by omega
      exact ⟨_,by rw [show n+i-S.sz.length=i by omega,List.getElem?_eq_getElem this];rfl⟩
    ·funext k
     unfold En.env extE
     by_cases hlt:k<n
     ·rw [hlow k hlt]
      have:Nat.ble n k=false:=by
       cases hb:Nat.ble n k with
       | false=>rfl
       | true=>have:=Nat.le_of_ble_eq_true hb;omega
      simp [n] at this
      simp [this]
     ·have:Nat.ble n k=true:=Nat.ble_eq_true_of_le (by omega)
      have this':Nat.ble S.sz.length k=true:=this
      simp only [E',this,this',if_true]
      rw [←o1,List.getElem?_map]
      cases ho:obs[k-n]? with
      | none=>simp [n] at ho;simp [ho,n,hnone k (by omega)]
      | some q=>simp [n] at ho;simp [ho,n]
   ·exact hsat.elim
  ·exact hsat.elim
 ·exact hsat.elim
theorem SatM.obj {s:Nat} {E:En} {h:List (Option (List SC))} {sz:Szs} {w:World} (H:SatM s E h sz w) {a:At} {cs:List Value} {sh:Sh} {A B:Nat} (hsh:a.sh=sh) (hr:a.Rep w cs) (hz:a.sz≤A*s+B) :
  ∃ E',SatM s E' h (sz++[some (sh,A,B)]) w∧E'.env=extE E.env sz.length [a]∧E'.ob sz.length=some (a,cs)∧E.Le E'∧E'.bl=E.bl:=by
 have hnone:∀ k,sz.length≤k→E.ob k=none:=by
  intro k hk
  cases hq:E.ob k with
  | none=>rfl
  | some q =>
   obtain ⟨p,hp⟩:=H.odom k q hq
   have:=(List.getElem?_eq_some_iff.1 hp).1
   omega
 let E':En:={ E with ob:=fun k=>if k=sz.length then some (a,cs) else E.ob k }
 have hle:E.Le E':=⟨fun _ _ h=>h,fun k q hk=>by
  show (if k=sz.length then some (a,cs) else E.ob k)=some q
  by_cases e:k=sz.length
  ·rw [hnone k (by omega)] at hk;cases hk
  ·rw [if_neg e];exact hk,rfl⟩
 refine ⟨E',⟨fun b c hb=>?_,H.inj,H.dom,H.hdom,fun k p hk=>?_,fun k q hk=>?_⟩,?_,if_pos rfl,hle,rfl⟩
 ·obtain ⟨β,t,us,k1,k2,k3⟩:=H.blocks b c hb
  exact ⟨β,t,us,k1,zd7 hle k2,k3⟩
 ·by_cases e:k<sz.length
  ·rw [List.getElem?_append_left e] at hk
   obtain ⟨x,c,k1,k2,k3,k4⟩:=H.objs k p hk
   exact ⟨x,c,hle.ob k _ k1,k2,k3,k4⟩
  ·rw [List.getElem?_append_right (by omega)] at hk
   have e2:k-sz.length=0:=by
    have:=(List.getElem?_eq_some_iff.1 hk).1
    simp at this;omega
   rw [e2] at hk
   simp at hk
   subst hk
   exact ⟨a,cs,if_pos (by omega),hsh,hr,hz⟩
 ·by_cases e:k=sz.length
  ·subst e;exact ⟨_,by rw [List.getElem?_append_right (by omega),Nat.sub_self];rfl⟩
  ·have hk':(if k=sz.length then some (a,cs) else E.ob k)=some q:=hk
   rw [if_neg e] at hk'
   obtain ⟨p,hp⟩:=H.odom k q hk'
   exact ⟨p,by rw [List.getElem?_append_left (List.getElem?_eq_some_iff.1 hp).1];exact hp⟩
 ·funext k
  show (if k=sz.length then some (a,cs) else E.ob k).map (·.1)=_
  unfold extE
  by_cases e:k=sz.length
  ·subst e;simp
  ·rw [if_neg e]
   by_cases e2:sz.length≤k
   ·rw [if_pos (Nat.ble_eq_true_of_le e2),List.getElem?_eq_none (by simp;omega)];rfl
   ·rw [if_neg (fun h=>e2 (Nat.le_of_ble_eq_true h))];rfl
theorem SatM.objAt {s:Nat} {E:En} {h:List (Option (List SC))} {sz sz':Szs} {w:World} (H:SatM s E h sz w) {a:At} {cs:List Value} {sh:Sh} {A B n:Nat} (hp:putO sz n (sh,A,B)=some sz') (hsh:a.sh=sh) (hr:a.Rep w cs) (hz:a.sz≤A*s+B) :
  ∃ E',SatM s E' h sz' w∧E'.env=extE E.env n [a]∧E'.ob n=some (a,cs)∧E.Le E'∧E'.bl=E.bl:=by
 unfold putO at hp
 split at hp
 ·rename_i hn
  have hn:=Nat.eq_of_beq_eq_true hn
  subst hn
  injection hp with hp;subst hp
  exact H.obj hsh hr hz
 ·split at hp
  ·rename_i hn0
   injection hp with hp;subst hp
   have hnone:E.ob n=none:=by
    cases hq:E.ob n with
    | none=>rfl
    | some q =>
     obtain ⟨p,hp⟩:=H.odom n q hq
     rw [hn0] at hp;cases hp
   have hlt:=(List.getElem?_eq_some_iff.1 hn0).1
   let E':En:={ E with ob:=fun k=>if k=n then some (a,cs) else E.ob k }
   have hle:E.Le E':=⟨fun _ _ h=>h,fun k q hk=>by
    show (if k=n then some (a,cs) else E.ob k)=some q
    by_cases e:k=n
    ·rw [e,hnone] at hk;cases hk
    ·rw [if_neg e];exact hk,rfl⟩
   refine ⟨E',⟨fun b c hb=>?_,H.inj,H.dom,H.hdom,fun k p hk=>?_,fun k q hk=>?_⟩,?_,if_pos rfl,hle,rfl⟩
   ·obtain ⟨β,t,us,k1,k2,k3⟩:=H.blocks b c hb
    exact ⟨β,t,us,k1,zd7 hle k2,k3⟩
   ·by_cases e:k=n
    ·subst e
     rw [List.getElem?_set_self hlt] at hk
     injection hk with hk;injection hk with hk;subst hk
     exact ⟨a,cs,if_pos rfl,hsh,hr,hz⟩
    ·rw [List.getElem?_set_ne (fun h=>e h.symm)] at hk
     obtain ⟨x,c,k1,k2,k3,k4⟩:=H.objs k p hk
     exact ⟨x,c,hle.ob k _ k1,k2,k3,k4⟩
   ·by_cases e:k=n
    ·subst e;exact ⟨_,List.getElem?_set_self hlt⟩
    ·have hk':(if k=n then some (a,cs) else E.ob k)=some q:=hk
     rw [if_neg e] at hk'
     obtain ⟨p,hp⟩:=H.odom k q hk'
     exact ⟨p,by rw [List.getElem?_set_ne (fun h=>e h.symm)];exact hp⟩
   ·funext k
    show (if k=n then some (a,cs) else E.ob k).map (·.1)=_
    unfold extE
    by_cases e:k=n
    ·subst e;simp
    ·rw [if_neg e]
     by_cases e2:n≤k
     ·rw [if_pos (Nat.ble_eq_true_of_le e2),List.getElem?_eq_none (by simp;omega)];rfl
     ·rw [if_neg (fun h=>e2 (Nat.le_of_ble_eq_true h))];rfl
  ·cases hp
theorem natLits_den {E:En}:∀ {cs:List SC} {l:List Nat} {vs:List Value},natLits cs=some l→zcT E cs=some vs→vs=l.map (fun (x:Nat)=>Value.int .u16 (x:Int))∧∀ x∈l,x<65536
 | [],l,vs,h,hd=>by
  injection h with h;subst h;injection hd with hd;subst hd
  exact ⟨rfl,by simp⟩
 | c::r,l,vs,h,hd=>by
  unfold natLits at h
  split at h
  ·rename_i e;cases e
  ·rename_i n r' e
   injection e with e1 e2
   subst e1;subst e2
   split at h
   ·rename_i hn
    obtain ⟨a,b,h1,h2,rfl⟩:=zat h
    injection h1 with h1;subst h1
    obtain ⟨v,us,h3,h4,rfl⟩:=zat hd
    injection h3 with h3;subst h3
    obtain ⟨h5,h6⟩:=natLits_den h2 h4
    refine ⟨by rw [h5];rfl,fun x hx=>?_⟩
    rcases List.mem_cons.1 hx with rfl|hx
    ·have:x≤65535:=by simpa [Nat.blt] using hn
     omega
    ·exact h6 x hx
   ·cases h
  ·cases h
theorem run_enter {P : Program} {f : FuncId} {fn : Func} {c : Code} (hf : P.funcs[f]? = some fn) (hname : (fn.name == "runtime.NumGoroutine") = false) (hb : fn.body = some c) (args : Array Value) (w : World) :
  (callFunc f args).run P w = .ok (.enter f args) w:=by
 have h1 : fn.name ≠ "runtime.NumGoroutine" := by simpa using hname
 simp [callFunc,hf,h1,hb]
theorem enters_run {P:Program} {f:Nat} (h:enters P f=true) (args:Array Value) (w:World):(callFunc f args).run P w = .ok (.enter f args) w:=by
 unfold enters at h
 split at h
 ·rename_i fn hf
  simp only [Bool.and_eq_true,Bool.not_eq_true'] at h
  obtain ⟨c,hc⟩:=Option.isSome_iff_exists.1 h.2
  exact run_enter hf h.1 hc args w
 ·cases h
def CallOk (P:Program) (Γ:Gam) (s:Nat) (call:Nat→List SV→SS→Tr (List S1 × SS)):Prop :=
 ∀ (f:Nat) (xs:List SV) (S:SS) (E:En) (w:World) (vs:List Value) (R:Ending→World→Prop) (Q:List S1 × SS→Ev→Prop),SatM s E S.h S.sz w→denVs E xs=some vs→(call f xs S).sat Γ Q E.env →
  (∀ p E' w' rvs,Q p E'.env→SatM s E' p.2.h p.2.sz w'→denT E' p.1=some rvs→Ext w.heap.size E w E' w'→R (.returned (zar rvs)) w')→Calls P f vs.toArray w R
theorem contractOk {P:Program} {Γ:Gam} {s L:Nat} {c:Ct} {f:Nat} (hΓ:GamOk P Γ) (hs:s≤L) (hc:Γ f=some c) {xs:List SV} {S:SS} {E:En} {w:World} {vs:List Value} {R:Ending→World→Prop} {Q:List S1 × SS→Ev→Prop} (H:SatM s E S.h S.sz w) (hx:denVs E xs=some vs) (hsat:(callS L c f xs S).sat Γ Q E.env)
  (himp:∀ p E' w' rvs,Q p E'.env→SatM s E' p.2.h p.2.sz w'→denT E' p.1=some rvs→Ext w.heap.size E w E' w'→R (.returned (zar rvs)) w'):Calls P (f % 8192) vs.toArray w R:=by
 refine callS_ok hΓ hs hc H hx (sat_mono ?_ _ _ hsat)
 intro p e' hq E' w' rvs h1 h2 h3 h4
 exact himp p E' w' rvs (by rw [h2];exact hq) h1 h3 h4
theorem pickC_some {Γ:Gam} {sz:Szs} {h:List (Option (List SC))} {als:List SV} {p:Nat × Ct}:∀ {n f:Nat},pickC Γ sz h als n f=some p→Γ p.1=some p.2
 | 0,_,hp=>by cases hp
 | n+1,f,hp=>by
  simp only [pickC] at hp
  split at hp
  ·cases hp
  ·rename_i c hc
   split at hp
   ·injection hp with hp;subst hp;exact hc
   ·exact pickC_some hp
theorem packS_den {E:En} {l:List S1} {vs:List Value} (h:denT E l=some vs):denV E (packS l)=some (zar vs):=by
 match l,vs,h with
 | [],_,h=>injection h with h;subst h;rfl
 | [x],_,h =>
  obtain ⟨a,b,h1,h2,rfl⟩:=zat h
  injection h2 with h2;subst h2
  exact h1
 | x::y::r,_,h =>
  have h':=h
  obtain ⟨a,b,h1,h2,rfl⟩:=zat h
  obtain ⟨a',b',h3,h4,rfl⟩:=zat h2
  show op1 _ (denT E (x::y::r))=_
  rw [h'];rfl
theorem opnds_den {E:En} {l:List SV} {g:G} (H:SatG E l g):∀ {xs:List Operand} {vs:List SV},opnds l xs=some vs→denVs E vs=some (xs.map (evG g))
 | [],_,h=>by injection h with h;subst h;rfl
 | x::r,_,h=>by
  obtain ⟨a,b,h1,h2,rfl⟩:=zat h
  simp [denVs,zdS H h1,opnds_den H h2,op2]
theorem isFree_eq {S:SS} {nb:Nat} (h:isFree S nb=true):S.h[nb]? = some none:=by
 unfold isFree at h
 split at h
 ·assumption
 ·cases h
theorem zero_den {E:En} (z:Array Value):zcT E (z.toList.map .lit)=some z.toList:=denL_lit _
theorem replS_den {E:En} (z:List Value):∀ n,∃ vs,zcT E (replS z n)=some vs∧vs.length=n*z.length∧∀ i,i<n*z.length→vs[i]? = z[i % z.length]?
 | 0=>⟨[],rfl,by simp,fun i h=>by simp at h⟩
 | n+1=>by
  obtain ⟨vs,h1,h2,h3⟩:=replS_den z n
  refine ⟨z++vs,denL_app (denL_lit z) h1,by simp [h2,Nat.succ_mul,Nat.add_comm],fun i hi=>?_⟩
  by_cases hlt:i<z.length
  ·rw [List.getElem?_append_left hlt,Nat.mod_eq_of_lt hlt]
  ·rw [List.getElem?_append_right (by omega),h3 _ (by rw [Nat.succ_mul] at hi;omega)]
   congr 1
   exact (Nat.mod_eq_sub_mod (by omega)).symm
theorem zeros_eq {E:En} {z:Array Value} {size len:Nat} (hz:z.size=size):∃ vs,zcT E (replS z.toList len)=some vs∧(Array.range (len*size)).map ((if len*size=0 then #[] else z)[· % (if len*size=0 then #[] else z).size]!)=vs.toArray:=by
 obtain ⟨vs,h1,h2,h3⟩:=replS_den (E:=E) z.toList len
 refine ⟨vs,h1,?_⟩
 simp only [Array.length_toList,hz] at h2 h3
 apply Array.ext
 ·simp [h2]
 ·intro i hi1 hi2
  simp only [Array.size_map,Array.size_range] at hi1
  have hne:¬len*size=0:=by omega
  have hsz:0<size:=by
   rcases Nat.eq_zero_or_pos size with h|h
   ·rw [h] at hne;simp at hne
   ·exact h
  have h4:=h3 i hi1
  have hm:i % size<z.size:=by rw [hz];exact Nat.mod_lt _ hsz
  simp only [Array.getElem_map,Array.getElem_range,hne,if_false,hz,List.getElem_toArray]
  rw [getElem!_pos z _ hm]
  rw [List.getElem?_eq_getElem (by simpa using hi2),Array.getElem?_toList,Array.getElem?_eq_getElem hm] at h4
  injection h4 with h4
  exact h4.symm
def En.cut (E:En) (n0:Nat):En:={ E with bl:=fun b=>if b<n0 then E.bl b else none }
theorem cut_some {E:En} {n0 b β:Nat} (h:(E.cut n0).bl b=some β):b<n0∧E.bl b=some β:=by
 have k:(if b<n0 then E.bl b else none)=some β:=h
 by_cases hb:b<n0
 ·rw [if_pos hb] at k;exact ⟨hb,k⟩
 ·rw [if_neg hb] at k;cases k
theorem denC_cut {E:En} {n0:Nat} {c:SC} (h:noPtr n0 c=true):zcW (E.cut n0) c=zcW E c:=by
 cases c with
 | ptr b off =>
  have hb:b<n0:=by
   have h':b+1≤n0:=by simpa [noPtr] using h
   omega
  show op1 _ (if b<n0 then E.bl b else none)=op1 _ (E.bl b)
  rw [if_pos hb]
 | sl b off n c =>
  have hb:b<n0:=by
   have h':b+1≤n0:=by simpa [noPtr] using h
   omega
  show op1 _ (if b<n0 then E.bl b else none)=op1 _ (E.bl b)
  rw [if_pos hb]
 | sv b n =>
  have hb:b<n0:=by
   have h':b+1≤n0:=by simpa [noPtr] using h
   omega
  show op1 _ (if b<n0 then E.bl b else none)=op1 _ (E.bl b)
  rw [if_pos hb]
  rfl
 | lit v=>rfl
 | ob k j=>rfl
 | ix e=>rfl
 | bx e=>rfl
theorem denL_cut {E:En} {n0:Nat}:∀ {l:List SC},l.all (noPtr n0)=true→zcT (E.cut n0) l=zcT E l
 | [],_=>rfl
 | c::r,h=>by
  simp only [List.all_cons,Bool.and_eq_true] at h
  simp only [zcT,denC_cut h.1,denL_cut h.2]
theorem denT_cut {E:En} {n0:Nat}:∀ {l:List S1},l.all (noPtr1 n0)=true→denT (E.cut n0) l=denT E l
 | [],_=>rfl
 | c::r,h=>by
  simp only [List.all_cons,Bool.and_eq_true] at h
  have:den1 (E.cut n0) c=den1 E c:=by
   cases c with
   | one c=>exact denC_cut h.1
   | agg l=>simp only [den1,denL_cut (show l.all (noPtr n0)=true from h.1)]
  simp only [denT,this,denT_cut h.2]
theorem gc_sound {s:Nat} {E E':En} {S:SS} {p:List S1 × SS} {w w':World} {rvs:List Value} {B:Nat} (HM:SatM s E S.h S.sz w) (hm:SatM s E' p.2.h p.2.sz w') (hd:denT E' p.1=some rvs) (hx:Ext B E w E' w') :
  ∃ E2,SatM s E2 (gcS S.h.length p).h p.2.sz w'∧(gcS S.h.length p).sz=p.2.sz∧denT E2 p.1=some rvs∧Ext B E w E2 w'∧E2.env=E'.env:=by
 unfold gcS
 split
 ·rename_i h
  simp only [Bool.and_eq_true] at h
  refine ⟨E'.cut S.h.length,⟨fun b cs hb=>?_,fun b b' β hb hb'=>?_,fun b β hb=>?_,fun b β hb=>?_,hm.objs,hm.odom⟩,rfl,by rw [denT_cut h.1];exact hd,⟨⟨fun b β hb=>?_,hx.le.ob,hx.le.cv⟩,fun b β hb=>?_,hx.bel⟩,rfl⟩
  ·have hb':(p.2.h.take S.h.length)[b]? = some (some cs):=hb
   have hlt:=(List.getElem?_eq_some_iff.1 hb').1
   rw [List.length_take] at hlt
   rw [List.getElem?_take_of_lt (by omega)] at hb'
   obtain ⟨β,t,vs,h1,h2,h3⟩:=hm.blocks b cs hb'
   have hall:cs.all (noPtr S.h.length)=true:=(List.all_eq_true.1 h.2) (some cs) (List.mem_of_getElem? hb)
   refine ⟨β,t,vs,?_,by rw [denL_cut hall];exact h2,h3⟩
   show (if b<S.h.length then E'.bl b else none)=some β
   rw [if_pos (by omega)];exact h1
  ·exact hm.inj b b' β (cut_some hb).2 (cut_some hb').2
  ·exact hm.dom b β (cut_some hb).2
  ·obtain ⟨hlt,k1⟩:=cut_some hb
   obtain ⟨cs,hc⟩:=hm.hdom b β k1
   exact ⟨cs,by show (p.2.h.take S.h.length)[b]? = _;rw [List.getElem?_take_of_lt hlt];exact hc⟩
  ·obtain ⟨cs,hc⟩:=HM.hdom b β hb
   have hlt:=(List.getElem?_eq_some_iff.1 hc).1
   show (if b<S.h.length then E'.bl b else none)=some β
   rw [if_pos hlt];exact hx.le.bl b β hb
  ·exact hx.new b β (cut_some hb).2
 ·exact ⟨E',hm,rfl,hd,hx,rfl⟩
section
variable {P:Program} {Γ:Gam} {s L:Nat} {call:Nat→List SV→SS→Tr (List S1 × SS)} (hΓ:GamOk P Γ) (hs:s≤L) (hcall:CallOk P Γ s call)
variable {ops:Array Oper}
theorem hv_buildA {k:Nat} {g:G} {w:World} {nx:G→World→Prop} {o:Oper} {t:TypeId} {a:Nat × TypeId × Nat} {z:Array Value} {parts:Array (Nat × Operand)} (cells:Array Value) (hw:zcg ops g o=true) (ho:o.op = .build t parts) (ha:arE P t=some a) (hz:zdI P t=some z)
  (pl:List (Nat × Value)) (hp:(parts.toList.map fun x=>(x.1,evG g x.2))=pl) (hfill:Instr.fill (fun i=>some (i*a.2.2,a.2.2)) z pl=some cells) (h:nx (zci g o.dst (.agg cells)) w):hvX P ops o k nx g w:=by
 obtain ⟨inf,hu,hi,hs⟩:=arE_some ha
 obtain ⟨v,hv,hc⟩:=zeroC_some hz w
 refine zdL hw (v:=.agg cells) (w':=w) ?_ (fun _=>Below.refl _ _) h
 have e1:(underlying t).run P w = .ok (.array a.1 a.2.1) w:=run_underlying hu w
 have e2:(sizeOf a.2.1).run P w = .ok a.2.2 w:=by simp [sizeOf,typeInfo,hi,hs]
 have e4:(parts.map fun (i,x)=>(i,evG g x)).toList=pl:=by rw [Array.toList_map];exact hp
 unfold execOp
 simp only [ho,Instr.build,Sem.run_bind,e1,Result.andThen_ok,hv,hc,e2,e4,hfill]
 simp
omit hΓ hs hcall in
def SI (E:En) (S:SS) (o:Oper) (w w':World):Prop:=zdJ o.op=true→∃ t x y b off β,o.op = .store t x y∧one? (opnd S.g x)=some (.ptr b off)∧E.bl b=some β∧Sto w w' β
include hΓ hs hcall
theorem zee {lo B nb ob k:Nat} {S:SS} {o:Oper} {E:En} {g:G} {w:World} {Q:SS→Ev→Prop} {nx:G→World→Prop} (HG:SatG E S.g g) (HM:SatM s E S.h S.sz w) (Fr:∀ b β,E.bl b=some β→lo≤b→B≤β) (hB:B≤w.heap.size)
  (hw:zcg ops g o=true) (hk:k=0→zdJ o.op=false) (hsat:(heavyS P Γ L call lo nb ob S o).sat Γ Q E.env)
  (himp:∀ S' E' g' w',Q S' E'.env→SatG E' S'.g g'→SatM s E' S'.h S'.sz w'→Ext (if zdJ o.op=true then B else w.heap.size) E w E' w'→SI E S o w w'→nx g' w'):hvX P ops o k nx g w:=by
 unfold heavyS at hsat
 split at hsat
 ·rename_i t ho
  rw [ho] at himp
  have hsi:∀ w',SI E S o w w':=fun w' h=>by rw [ho] at h;cases h
  split at hsat
  ·rename_i z hz
   split at hsat
   ·rename_i hf
    refine hv_alloc hw ho hz fun w1 b hE hle hBx=>?_
    obtain ⟨E',h1,h2,h3,h4⟩:=HM.new (isFree_eq hf) hE hle (vs:=z.toList) (by simpa using hBx) (zero_den z)
    refine himp _ E' _ w1 (h2▸hsat) ?_ ?_ h4 (hsi _)
    ·exact SatG.put (S:=S.mem nb _) (HG.le h4.le) o.dst (by simp [denV,den1,zcW,h3,op1])
    ·rw [put_h,zdB];exact h1
   ·exact hsat.elim
  ·exact hsat.elim
 ·rename_i t x ho
  rw [ho] at himp
  have hsi:∀ w',SI E S o w w':=fun w' h=>by rw [ho] at h;cases h
  split at hsat
  ·rename_i cs hcs
   split at hsat
   ·rename_i hf
    obtain ⟨vs,h5,h6⟩:=cellsV_den HM HG hcs
    refine zbF vs.toArray hw ho h6 fun w1 b hE hle hBx=>?_
    obtain ⟨E',h1,h2,h3,h4⟩:=HM.new (isFree_eq hf) hE hle hBx h5
    refine himp _ E' _ w1 (h2▸hsat) ?_ ?_ h4 (hsi _)
    ·exact SatG.put (S:=S.mem nb _) (HG.le h4.le) o.dst (by simp [denV,den1,zcW,h3,op1])
    ·rw [put_h,zdB];exact h1
   ·exact hsat.elim
  ·exact hsat.elim
 ·rename_i t parts ho
  rw [ho] at himp
  have hsi:∀ w',SI E S o w w':=fun w' h=>by rw [ho] at h;cases h
  split at hsat
  ·rename_i z l pl hz hpl
   split at hsat
   ·rename_i cs hcs
    obtain ⟨us,h1,h2⟩:=fillS_den (zero_den z) (partsS_den HM HG hpl) hcs
    simp only [Array.toArray_toList] at h2
    refine zal us.toArray hw ho hz _ rfl h2 ?_
    refine himp _ E _ w hsat ?_ ?_ (Ext.refl _ _ _) (hsi _)
    ·exact HG.put o.dst (by simp [denV,den1,h1,op1])
    ·rw [put_h,zdB];exact HM
   ·exact hsat.elim
  ·rename_i pl hz hpl
   split at hsat
   ·rename_i a z ha hzc
    split at hsat
    ·rename_i cs hcs
     obtain ⟨us,h1,h2⟩:=fillS_den (zero_den z) (partsS_den HM HG hpl) hcs
     simp only [Array.toArray_toList] at h2
     refine hv_buildA us.toArray hw ho ha hzc _ rfl h2 ?_
     refine himp _ E _ w hsat ?_ ?_ (Ext.refl _ _ _) (hsi _)
     ·exact HG.put o.dst (by simp [denV,den1,h1,op1])
     ·rw [put_h,zdB];exact HM
    ·exact hsat.elim
   ·exact hsat.elim
  ·exact hsat.elim
 ·rename_i t len parts ho
  rw [ho] at himp
  have hsi:∀ w',SI E S o w w':=fun w' h=>by rw [ho] at h;cases h
  split at hsat
  ·rename_i e size z pl hz hpl
   split at hsat
   ·rename_i hc
    simp only [Bool.and_eq_true,Nat.beq_eq,Nat.ble_eq] at hc
    obtain ⟨⟨hc1,hc2⟩,hf⟩:=hc
    split at hsat
    ·rename_i cs hcs
     obtain ⟨vs,h5,h6⟩:=zeros_eq (E:=E) (len:=len) hc1
     obtain ⟨us,h7,h8⟩:=fillS_den h5 (partsS_den HM HG hpl) hcs
     refine zak us.toArray hw ho hz hc2 _ rfl (by rw [h6];exact h8) fun w1 b hE hle hBx=>?_
     split at hsat
     ·rename_i n l hnl
      split at hsat
      ·rename_i hlen
       have hlen':l.length+1=len:=by simpa using hlen
       split at hsat
       case' h_2=>exact hsat.elim
       rename_i sz' hpo
       obtain ⟨g1,g2⟩:=natLits_den hnl h7
       have hB2:Bx w1 b (lmC (n::l)).toArray e:=by rw [g1] at hBx;exact hBx
       have hrd:RD w1 (some ⟨b,0,none⟩) len (n::l):=RD.of_lm hB2 g2 (by simp;omega)
       obtain ⟨E',k1,k2,k3,k4,k5⟩:=(HM.keep hE).objAt hpo (a:=.u (n::l)) (cs:=[.slice (some ⟨b,0,none⟩) (n::l).length len]) (sh:=.u) (A:=0) (B:=len) rfl ⟨_,_,rfl,hrd⟩ (by simp [At.sz];omega)
       refine himp _ E' _ w1 (by rw [k2];exact hsat) ?_ ?_ ⟨k4,fun x β hx=>.inl (by rw [k5] at hx;exact hx),hE⟩ (hsi _)
       ·refine SatG.put (S:={ S with sz:=sz' }) (HG.le k4) o.dst ?_
        simp only [denV,den1,zcW,k3,obC]
        simp [hlen']
       ·rw [put_h,zdB];exact k1
      ·exact hsat.elim
     ·obtain ⟨E',h1,h2,h3,h4⟩:=HM.new (isFree_eq hf) hE hle hBx h7
      refine himp _ E' _ w1 (h2▸hsat) ?_ ?_ h4 (hsi _)
      ·exact SatG.put (S:=S.mem nb _) (HG.le h4.le) o.dst (by simp [denV,den1,zcW,h3,op1])
      ·rw [put_h,zdB];exact h1
    ·exact hsat.elim
   ·exact hsat.elim
  ·exact hsat.elim
 ·rename_i t x y ho
  rw [ho] at himp
  split at hsat
  ·rename_i b off vs n hx hy hn
   split at hsat
   ·rename_i cs hcs
    split at hsat
    ·rename_i hc
     simp only [Bool.and_eq_true,Nat.beq_eq,Nat.ble_eq] at hc
     obtain ⟨⟨⟨⟨c1,c2⟩,c3⟩,c4⟩,c5⟩:=hc
     obtain ⟨β,h1,h2⟩:=zaF (zbh HG hx)
     obtain ⟨us,h3,h4⟩:=cellsV_den HM HG hy
     obtain ⟨β',tc,ws,h5,h6,h7⟩:=HM.blocks b cs hcs
     rw [h1] at h5;injection h5 with h5;subst h5
     have l1:=zdv h3
     have l2:=zdv h6
     have o1:=(cells_ok HM h3).1 c4
     have o2:=(cells_ok HM h6).2 c5
     replace h7:Bx w β ws.toArray tc:=h7.elim id fun ⟨cs0,vs0,e1,e2,_⟩=>by
      have:=o2 (.int .u16 0) (by rw [e2];simp)
      cases this
     have hk0:k≠0:=fun e=>by have:=hk e;rw [ho] at this;cases this
     refine zbG us hw ho h2.symm h4 (by rw [hn,l1,c2]) h7 (by show off+us.length≤ws.length;omega) o1 hk0 fun w1 hS hB1=>?_
     have hd:=putS_den off h6 h3
     have HM':=HM.write hcs h1 h7 o2 hS (vs':=(zaw ws.toArray off us).toList) (by simpa using hB1) hd
     refine himp _ E _ w1 hsat ?_ ?_ ⟨En.Le.refl E,fun _ _ h=>.inl h,?_⟩ (fun _=>⟨t,x,y,b,off,β,ho,hx,h1,hS⟩)
     ·exact SatG.und (S:=S.mem b _) HG o.dst
     ·rw [put_h,zdB];exact HM'
     ·simp only [zdJ,if_true]
      exact hS.below (Fr b β h1 c1)
    ·exact hsat.elim
   ·exact hsat.elim
  ·exact hsat.elim
 ·rename_i f args ts ho
  rw [ho] at himp
  have hsi:∀ w',SI E S o w w':=fun w' h=>by rw [ho] at h;cases h
  simp only [zdJ,Bool.false_eq_true,if_false] at himp
  split at hsat
  ·rename_i xs hxs
   split at hsat
   ·rename_i hen
    rw [zbe] at hsat
    refine hv_call hw ho (fun a w=>enters_run hen a w) fun R hR=>?_
    have hd:=opnds_den HG hxs
    rw [show args.map (evG g)=(args.toList.map (evG g)).toArray from by apply Array.toList_inj.1;rw [Array.toList_map]]
    have fin:∀ (p:List S1 × SS) (E':En) (w':World) (rvs:List Value),(Tr.leaf ({ gcS S.h.length p with g:=S.g }.put o.dst (packS p.1)):Tr SS).sat Γ Q E'.env→SatM s E' p.2.h p.2.sz w'→denT E' p.1=some rvs→Ext w.heap.size E w E' w' →
      ∃ v,Ending.returned (zar rvs) = .returned v∧(k=0→Below w.heap.size w w')∧R v w':=by
     intro p E' w' rvs hq hm hdt hx
     obtain ⟨E2,hm2,hz2,hdt2,hx2,he2⟩:=gc_sound HM hm hdt hx
     refine ⟨_,rfl,fun _=>hx.bel,hR _ _ ?_⟩
     rw [←he2] at hq
     refine himp _ E2 _ w' hq ?_ ?_ hx2 (hsi _)
     ·exact SatG.put (S:={ gcS S.h.length p with g:=S.g }) (HG.le hx2.le) o.dst (packS_den hdt2)
     ·rw [put_h,zdB];rw [←hz2] at hm2;exact hm2
    split at hsat
    ·rename_i p hp
     split at hsat
     ·rename_i hb
      have hf:=Nat.eq_of_beq_eq_true hb
      subst hf
      exact contractOk hΓ hs (pickC_some hp) HM hd hsat fin
     ·exact hsat.elim
    ·exact hcall f xs S E w _ _ _ HM hd hsat fin
   ·exact hsat.elim
  ·exact hsat.elim
 ·exact hsat.elim
end
end Go.Proofs.YtefhenfofomjhaaGreat
