/- The lexer, first part: the kinds of bytes, runs of letters and digits, the keywords. -/
import Derived.Test.YtefhenfofomjhaaNt9
import Derived.Maps.AppendAt
import Derived.Test.YtefhenfofomjhaaTy
import Derived.WalkLawsBesides
set_option linter.unusedSimpArgs false
set_option linter.unusedVariables false
namespace Go.Proofs.Ytefhenfofomjhaa
open Go.RowKit Go.V
set_option maxRecDepth 20000
def DivPost (w:World) (A B:Nat) (e:Ending) (w':World):Prop :=
 (B=0∧e = .returned (.tuple #[.slice none 0 0,.slice none 0 0,.int .i64 3])∧Below w.heap.size w w') ∨
 (B≠0∧∃ a c a' c',e = .returned (.tuple #[.slice a (lim (A / B)).length c,.slice a' (lim (A % B)).length c',.int .i64 0])∧RD w' a c (lim (A / B))∧RD w' a' c' (lim (A % B))∧Below w.heap.size w w')
theorem byLimb_gen (l:List Nat) (a:Option Addr) (c d rr:Nat) (w:World) (hr:RD w a c l) (hl:l.length≤zcQ) (hd:0<d) (hd2:d<65536) (hR:val l % d=rr) :
  Calls Try.prog 83 #[.slice a l.length c,.int .u16 d] w fun e w'=>∃ a' c',e = .returned (.tuple #[.slice a' (lim (val l / d)).length c',.int .u16 rr])∧RD w' a' c' (lim (val l / d))∧Below w.heap.size w w':=by
 subst hR;exact byLimb_any l a c d w hr hl hd hd2
theorem val_one (m:List Nat) (h:m.length=1):val m=lat m 0:=by
 match m,h with
 | [x],_=>simp [val,lat]
theorem nrm_idem (l:List Nat):nrm (nrm l)=nrm l:=by
 induction l with
 | nil=>rfl
 | cons x l ih =>
  rw [nrm]
  split
  ·rfl
  ·rename_i h
   rw [nrm,ih,if_neg h]
set_option maxHeartbeats 1000000 in
theorem divmod1_any (l m:List Nat) (a b:Option Addr) (c d:Nat) (w:World) (hr:RD w a c l) (hs:RD w b d m) (hl:l.length≤zcQ) (hm:m.length≤zcQ) (h1:(nrm m).length≤1) :
  Calls Try.prog 74 #[.slice a l.length c,.slice b m.length d] w (DivPost w (val l) (val m)):=by
 have hl':l.length≤1000000000000:=hl
 have hm':m.length≤1000000000000:=hm
 have hn1:=zbn l
 have hn2:=zbn m
 refine za8 (args:=[.slice a l.length c,.slice b m.length d]) (rs:=[.tmp 4,.tmp 5,.tmp 6]) (n:=71) Try.func74 rfl rfl rfl (by kernel_rfl) ?_
 first|refine zzr fun K hK=>?_|refine zzt fun K hK=>?_
 simp [go_sem]
 refine hK _ _ ?_;clear hK K
 first|refine zzr fun K hK=>?_|refine zzt fun K hK=>?_
 simp [go_sem]
 refine za5 (by simp [go_sem]) rfl Try.call77 (fun R hR=>?_)
 simp [go_sem]
 refine (zaQ l a c _ hr hl).mono ?_
 rintro e w1 ⟨rfl,rfl⟩
 refine ⟨_,rfl,hR _ _ ?_⟩
 clear hR R
 simp [go_sem]
 refine za5 (by simp [go_sem]) rfl Try.call77 (fun R hR=>?_)
 simp [go_sem]
 refine (zaQ m b d _ hs hm).mono ?_
 rintro e w1 ⟨rfl,rfl⟩
 refine ⟨_,rfl,hR _ _ ?_⟩
 clear hR R
 simp [go_sem]
 refine hK _ _ ?_;clear hK K
 replace hr:=hr.nrm
 replace hs:=hs.nrm
 have hvl:=zbH l
 have hvm:=zbH m
 have hz:=zdt m
 have hll:=nrm_idem l
 rw [←hvm] at hz
 rw [←hvl,←hvm]
 generalize nrm l=L at *
 generalize nrm m=M at *
 refine zad (fun K1 hK1=>?_)
 refine zag ?_
 first|refine zzr fun K hK=>?_|refine zzt fun K hK=>?_
 simp [go_sem]
 refine hK _ _ ?_;clear hK K
 by_cases h0:M.length=0
 ·have e0:M=[]:=List.length_eq_zero_iff.1 h0
  have hv:val M=0:=hz.1 e0
  subst e0
  refine zao (by simp [go_sem];rfl) rfl ?_
  first|refine zzr fun K hK=>?_|refine zzt fun K hK=>?_
  simp [go_sem]
  refine hK _ _ ?_;clear hK K
  refine zal ?_
  repeat (first|refine za4 ?_|refine za3 ?_)
  refine ⟨trivial,.inl ⟨hv,?_,Below.refl _ _⟩⟩
  simp [go_sem,zaw,zav]
 ·have h0':¬(M.length:Int)=0:=by omega
  have h0'':¬M=[]:=by intro e;subst e;exact h0 rfl
  have hv0:val M≠0:=fun e=>h0'' (hz.2 e)
  have hM1:M.length=1:=by omega
  refine zao (by simp [go_sem,h0,h0',h0''];rfl) rfl ?_
  first|refine zzr fun K hK=>?_|refine zzt fun K hK=>?_
  simp [go_sem]
  refine za5 (by simp [go_sem]) rfl Try.call82 (fun R hR=>?_)
  simp [go_sem]
  refine (cmp_any L M a b c d _ hr hs (by omega) (by omega)).mono ?_
  rintro e w2 ⟨rfl,hE2⟩
  refine ⟨_,rfl,hR _ _ ?_⟩
  clear hR R
  replace hr:=hr.ext hE2
  replace hs:=hs.ext hE2
  simp [go_sem]
  refine hK _ _ ?_;clear hK K
  by_cases hlt:val L<val M
  ·have hc:=cmpV_lt hlt
   refine zao (by simp [go_sem,hc];rfl) rfl ?_
   first|refine zzr fun K hK=>?_|refine zzt fun K hK=>?_
   simp [go_sem]
   refine za5 (by simp [go_sem]) rfl Try.call70 (fun R hR=>?_)
   simp [go_sem]
   refine (norm_any L a c _ hr (by omega)).mono ?_
   rintro e w3 ⟨a3,c3,rfl,hr3,hE3⟩
   refine ⟨_,rfl,hR _ _ ?_⟩
   clear hR R
   simp [go_sem]
   refine hK _ _ ?_;clear hK K
   refine zal ?_
   repeat (first|refine za4 ?_|refine za3 ?_)
   refine ⟨trivial,.inr ⟨hv0,none,0,a3,c3,?_,?_,?_,hE2.next hE3⟩⟩
   ·rw [Nat.div_eq_of_lt hlt,Nat.mod_eq_of_lt hlt,zaq,zb9 L hr.ok]
    simp [go_sem,zaw,zav]
   ·rw [Nat.div_eq_of_lt hlt,zaq];exact RD.nil _ _ _
   ·rw [Nat.mod_eq_of_lt hlt,zb9 L hr.ok];exact hr3
  ·have hc:¬cmpV (val L) (val M)<0:=by unfold cmpV;rw [if_neg hlt];split<;>omega
   refine zao (by simp [go_sem,hc];rfl) rfl ?_
   first|refine zzr fun K hK=>?_|refine zzt fun K hK=>?_
   simp [go_sem]
   refine hK _ _ ?_;clear hK K
   have hM1':(M.length:Int)=1:=by omega
   have hval:=val_one M hM1
   obtain ⟨c1,c2⟩:=hs.at (i:=0) (by omega)
   rw [Addr.add_zero'] at c1
   have hx:=zbu hs.ok 0
   rw [hval] at hv0 ⊢
   generalize lat M 0=x at *
   have p1:(0:Int)<M.length:=by omega
   have p2:0<M.length:=by omega
   refine zao (by simp [go_sem,hM1,hM1'];rfl) rfl ?_
   have hmod:=Nat.mod_lt (val L) (show 0<x by omega)
   generalize hRm:val L % x=rr at hmod ⊢
   have hw:IntKind.u64.wrap (rr:Int)=rr:=zcR _ (by omega)
   first|refine zzr fun K hK=>?_|refine zzt fun K hK=>?_
   simp [go_sem,c1,c2,p1,p2]
   refine za5 (by simp [go_sem,c1,c2,p1,p2]) rfl Try.call83 (fun R hR=>?_)
   simp [go_sem,c1,c2,p1,p2]
   refine (byLimb_gen L a c x rr _ hr (by omega) (by omega) hx hRm).mono ?_
   rintro e w3 ⟨a3,c3,rfl,hr3,hE3⟩
   refine ⟨_,rfl,hR _ _ ?_⟩
   clear hR R
   simp [go_sem]
   refine hK _ _ ?_;clear hK K
   first|refine zzr fun K hK=>?_|refine zzt fun K hK=>?_
   simp [go_sem,hw]
   refine za5 (by simp [go_sem,hw]) rfl Try.call81 (fun R hR=>?_)
   simp [go_sem,hw]
   refine (of_any rr _ (by omega)).mono ?_
   rintro e w4 ⟨a4,c4,rfl,hr4,hE4⟩
   refine ⟨_,rfl,hR _ _ ?_⟩
   clear hR R
   simp [go_sem]
   refine hK _ _ ?_;clear hK K
   refine zal ?_
   repeat (first|refine za4 ?_|refine za3 ?_)
   refine ⟨trivial,.inr ⟨hv0,a3,c3,a4,c4,?_,hr3.ext hE4,?_,(hE2.next hE3).next hE4⟩⟩
   ·rw [hRm];simp [go_sem,zaw,zav]
   ·rw [hRm];exact hr4
theorem zaZ (l:List Nat) (i:Nat):val (l.take (i+1))=val (l.take i)+65536 ^ i*lat l i:=by
 by_cases h:i<l.length
 ·exact val_take l i h
 ·rw [List.take_of_length_le (by omega),List.take_of_length_le (by omega),lat_out (by omega)];omega
theorem nrm_full (l:List Nat) (hok:Ok l) (k:Nat) (hk:l.length=k+1) (h:65536 ^ k≤val l):nrm l=l:=by
 have h1:=zbn l
 have h2:=zcP (nrm l) (nrm_ok l hok)
 rw [zbH] at h2
 have h3:(nrm l).length=l.length:=by
  by_cases e:(nrm l).length≤k
  ·have:65536 ^ (nrm l).length≤65536 ^ k:=Nat.pow_le_pow_right (by decide) e
   omega
  ·omega
 rw [nrm_pre,h3,List.take_length]
theorem add_step (ws A B:List Nat) (i cy s:Nat) (hw:ws.length=i) (h:val ws+65536 ^ i*cy=val (A.take i)+val (B.take i)) (hs:s=cy+lat A i+lat B i) :
  val (ws++[s % 65536])+65536 ^ (i+1)*(s / 65536)=val (A.take (i+1))+val (B.take (i+1)):=by
 rw [zdW,hw,zaZ A i,zaZ B i,Nat.pow_succ]
 generalize 65536 ^ i=P at *
 have e1:P*(s % 65536)+P*65536*(s / 65536)=P*s:=by rw [Nat.mul_assoc,←Nat.mul_add,Nat.mod_add_div]
 have e2:P*s=P*cy+P*lat A i+P*lat B i:=by rw [hs,Nat.mul_add,Nat.mul_add]
 simp only [val,Nat.mul_zero,Nat.add_zero]
 omega
theorem set_next (ws:List Nat) (i n x:Nat) (hw:ws.length=i):(ws++List.replicate (n+1) 0).set i x=(ws++[x])++List.replicate n 0:=by
 rw [List.set_append_right _ _ (by omega),hw,Nat.sub_self,List.replicate_succ,List.set_cons_zero,List.append_assoc];rfl
abbrev lenS:Nat:=100000000000
theorem RD.lt {w:World} {a:Option Addr} {c:Nat} {l:List Nat} (h:RD w a c l):∀ ad,a=some ad→l≠[]→ad.block<w.heap.size:=by
 intro ad ha hn
 obtain ⟨b',off,e,hlt⟩:=h.sl.lt (by intro e;exact hn (List.map_eq_nil_iff.1 e))
 rw [ha] at e;injection e with e;subst e
 exact hlt
theorem RD.grown {w w':World} {a:Option Addr} {c:Nat} {l:List Nat} {row:Option Nat} (h:RD w a c l) (hg:w.grownBy w' row) (hne:∀ ad,a=some ad→l≠[]→some ad.block≠row):RD w' a c l:=by
 refine ⟨?_,h.ok,h.cap⟩
 rcases h.sl with h'|⟨b,off,e,h'⟩
 ·exact .inl h'
 ·by_cases hx:l=[]
  ·exact .inl (by subst hx;rfl)
  ·exact .inr ⟨b,off,e,fun j v hv=>hg.cell (h' j v hv) (show some b≠row from hne ⟨b,off,none⟩ e hx)⟩
theorem val_split:∀ (i:Nat) (l:List Nat),val l=val (l.take i)+65536 ^ i*val (l.drop i)
 | 0,l=>by simp [val]
 | i+1,[]=>by simp [val]
 | i+1,x::l=>by
  rw [List.take_succ_cons,List.drop_succ_cons,val,val,val_split i l,Nat.pow_succ,Nat.mul_add,←Nat.mul_assoc,Nat.mul_comm 65536 (65536 ^ i)]
  omega
theorem zdv (l:List Nat) (h:Ok l) (i:Nat):val (l.take i)<65536 ^ i:=by
 have h1:=zcP (l.take i) (h.take i)
 have:65536 ^ (l.take i).length≤65536 ^ i:=Nat.pow_le_pow_right (by decide) (by rw [List.length_take];omega)
 omega
theorem val_take_full (l:List Nat) (h:Ok l) (i:Nat) (hv:val l<65536 ^ i):val (l.take i)=val l:=by
 have h1:=val_split i l
 have h2:val (l.drop i)=0:=by
  rcases hz:val (l.drop i) with _|n
  ·rfl
  ·exfalso
   rw [hz] at h1
   have:65536 ^ i*1≤65536 ^ i*(n+1):=Nat.mul_le_mul_left _ (by omega)
   omega
 rw [h2] at h1;omega
theorem val_set (l:List Nat) (j x:Nat) (h:j<l.length):val (l.set j x)+65536 ^ j*lat l j=val l+65536 ^ j*x:=by
 induction l generalizing j with
 | nil=>simp at h
 | cons y l ih =>
  cases j with
  | zero=>simp [val,lat];omega
  | succ j =>
   have:=ih j (by simpa using h)
   have e:lat (y::l) (j+1)=lat l j:=rfl
   rw [List.set_cons_succ,val,val,e,Nat.pow_succ,Nat.mul_comm (65536 ^ j) 65536,Nat.mul_assoc,Nat.mul_assoc]
   omega
theorem zdl (l:List Nat) (i j x:Nat) (h:i≠j):lat (l.set i x) j=lat l j:=by
 simp [lat,List.getD_eq_getElem?_getD,List.getElem?_set_ne h]
theorem Ok.set {l:List Nat} (h:Ok l) (j x:Nat) (hx:x<65536):Ok (l.set j x):=by
 intro y hy
 rcases List.mem_or_eq_of_mem_set hy with h'|h'
 ·exact h y h'
 ·rw [h'];exact hx
theorem bx_at {w:World} {b:Nat} {t:TypeId} {l:List Nat} (h:Bx w b (lmC l).toArray t) {j:Nat} (hj:j<l.length):w.cell? ⟨b,j,none⟩=some (.int .u16 (lat l j)):=by
 rw [h.cell,List.getElem?_toArray,lmC_get,List.getElem?_eq_getElem hj]
 simp [lat,List.getD_eq_getElem?_getD,List.getElem?_eq_getElem hj]
theorem mul_step (O O0 B:List Nat) (i k cy x s:Nat) (hj:i+k<O.length) (h:val O+65536 ^ (i+k)*cy=val O0+65536 ^ i*(x*val (B.take k))) (hs:s=cy+lat O (i+k)+x*lat B k) :
  val (O.set (i+k) (s % 65536))+65536 ^ (i+(k+1))*(s / 65536)=val O0+65536 ^ i*(x*val (B.take (k+1))):=by
 have h1:=val_set O (i+k) (s % 65536) hj
 rw [zaZ B k,←Nat.add_assoc,Nat.pow_succ,Nat.mul_add,Nat.mul_add]
 have e3:65536 ^ i*(x*(65536 ^ k*lat B k))=65536 ^ (i+k)*(x*lat B k):=by
  rw [Nat.pow_add,Nat.mul_assoc,Nat.mul_left_comm x]
 rw [e3]
 generalize 65536 ^ (i+k)=P at *
 have e1:P*(s % 65536)+P*65536*(s / 65536)=P*s:=by rw [Nat.mul_assoc,←Nat.mul_add,Nat.mod_add_div]
 have e2:P*s=P*cy+P*lat O (i+k)+P*(x*lat B k):=by rw [hs,Nat.mul_add,Nat.mul_add]
 omega
set_option maxHeartbeats 4000000 in
theorem mul_any (l m:List Nat) (a b:Option Addr) (c d:Nat) (w:World) (hr:RD w a c l) (hs:RD w b d m) (hl:l.length≤lenS) (hm:m.length≤lenS) :
  Calls Try.prog 69 #[.slice a l.length c,.slice b m.length d] w (RetN w (lim (val l*val m))):=by
 have hl':l.length≤100000000000:=hl
 have hm':m.length≤100000000000:=hm
 have hn1:=zbn l
 have hn2:=zbn m
 refine za8 (args:=[.slice a l.length c,.slice b m.length d]) (rs:=[.tmp 4]) (n:=79) Try.func69 rfl rfl rfl (by kernel_rfl) ?_
 first|refine zzr fun K hK=>?_|refine zzt fun K hK=>?_
 simp [go_sem]
 refine hK _ _ ?_;clear hK K
 first|refine zzr fun K hK=>?_|refine zzt fun K hK=>?_
 simp [go_sem]
 refine za5 (by simp [go_sem]) rfl Try.call77 (fun R hR=>?_)
 simp [go_sem]
 refine (zaQ l a c _ hr (by unfold zcQ;omega)).mono ?_
 rintro e w1 ⟨rfl,rfl⟩
 refine ⟨_,rfl,hR _ _ ?_⟩
 clear hR R
 simp [go_sem]
 refine za5 (by simp [go_sem]) rfl Try.call77 (fun R hR=>?_)
 simp [go_sem]
 refine (zaQ m b d _ hs (by unfold zcQ;omega)).mono ?_
 rintro e w1 ⟨rfl,rfl⟩
 refine ⟨_,rfl,hR _ _ ?_⟩
 clear hR R
 simp [go_sem]
 refine hK _ _ ?_;clear hK K
 have hvl:=zbH l
 have hvm:=zbH m
 replace hr:=hr.nrm
 replace hs:=hs.nrm
 rw [←hvl,←hvm]
 generalize nrm l=A at *
 generalize nrm m=B at *
 clear hvl hvm
 refine zad (fun K1 hK1=>?_)
 by_cases h0:A=[]∨B=[]
 ·have hv:lim (val A*val B)=[]:=by
   rcases h0 with rfl|rfl
   ·simp [val,zaq]
   ·simp [val,zaq]
  refine W_rtJ (fun g' w'=>w'=w∧g' 22 = .bool true) (by kernel_rfl) ?_ ?_
  ·by_cases hA:A=[]
   ·subst hA
    simp [go_sem]
   ·have hB:B=[]:=by rcases h0 with h|h;exact absurd h hA;exact h
    subst hB
    have hA':¬A.length=0:=fun e=>hA (List.length_eq_zero_iff.1 e)
    have hA'':¬(A.length:Int)=0:=by omega
    simp [go_sem,hA,hA',hA'']
  ·rintro g' w' ⟨rfl,g22⟩
   refine zao g22 rfl ?_
   first|refine zzr fun K hK=>?_|refine zzt fun K hK=>?_
   simp [go_sem]
   refine hK _ _ ?_;clear hK K
   refine zal ?_
   repeat (first|refine za4 ?_|refine za3 ?_)
   rw [hv]
   refine ⟨trivial,none,0,?_,RD.nil _ _ _,Below.refl _ _⟩
   simp [go_sem,zaw,zav]
 ·simp only [not_or] at h0
  obtain ⟨hA,hB⟩:=h0
  have hA':¬A.length=0:=fun e=>hA (List.length_eq_zero_iff.1 e)
  have hA'':¬(A.length:Int)=0:=by omega
  have hB':¬B.length=0:=fun e=>hB (List.length_eq_zero_iff.1 e)
  have hB'':¬(B.length:Int)=0:=by omega
  first|refine zzr fun K hK=>?_|refine zzt fun K hK=>?_
  simp [go_sem,hA,hA',hA'',hB,hB',hB'']
  refine hK _ _ ?_;clear hK K
  refine zao (by simp [go_sem,hA,hA',hA'',hB,hB',hB''];rfl) rfl ?_
  refine zae ?_
  refine hK1 _ _ ?_;clear hK1 K1
  obtain ⟨N,hN⟩:∃ N,N=A.length+B.length:=⟨_,rfl⟩
  have hwN:IntKind.i64.wrap (↑A.length + ↑B.length)=(N:Int):=by rw [IntWalk.i64_in _ (by omega)];omega
  have hbr:=fun b (hb:w.heap.size≤b)=>hr.below hb
  have hbs:=fun b (hb:w.heap.size≤b)=>hs.below hb
  first|refine zzr fun K hK=>?_|refine zzt fun K hK=>?_
  simp [go_sem,hwN]
  refine hv_make (kl:=.i64) (kc:=.i64) N N (by simp [go_sem,hwN]) rfl zc5 zb8 (by simp [go_sem,hwN]) (by simp [go_sem,hwN]) (by omega) (by omega) (by omega) (fun w2 b2 hE2 hle2 hB2=>?_)
  rw [Nat.mul_one,zbm,lm_zeros] at hB2
  replace hr:=hr.ext hE2
  replace hs:=hs.ext hE2
  have hne1:=hbr b2 hle2
  have hne2:=hbs b2 hle2
  clear hbr hbs
  simp [go_sem]
  refine hK _ _ ?_;clear hK K
  refine zad (fun K1 hK1=>?_)
  first|refine zzr fun K hK=>?_|refine zzt fun K hK=>?_
  simp [go_sem]
  refine hK _ _ ?_;clear hK K
  refine zag ?_
  refine zaJ (fun k g w'=>Below w.heap.size w w'∧RD w' a c A∧RD w' b d B∧∃ (i:Nat) (O:List Nat),i≤A.length∧k=A.length-i∧g 1 = .slice b B.length d∧g 5 = .slice (some ⟨b2,0,none⟩) N N ∧
   g 29 = .slice a A.length c∧g 30 = .int .i64 A.length∧g 31 = .int .i64 i∧Bx w' b2 (lmC O).toArray 109∧O.length=N∧Ok O∧(∀ j,i+B.length≤j→lat O j=0)∧val O=val (A.take i)*val B) A.length ?_ ?_
  ·refine ⟨hE2,hr,hs,0,List.replicate N 0,by omega,rfl,by simp [go_sem],by simp [go_sem],by simp [go_sem],by simp [go_sem],by simp [go_sem],hB2,by simp,Ok.zeros N,?_,by simp [val_zeros,val]⟩
   intro j _
   unfold lat;rw [List.getD_eq_getElem?_getD,List.getElem?_replicate]
   split<;>rfl
  ·clear hr hs hE2 hB2
   rintro k g w' ⟨hE,hr,hs,i,O0,hi,rfl,g1,g5,g29,g30,g31,hBx,hOl,hOok,hOz,hval⟩
   first|refine zzr fun K hK=>?_|refine zzt fun K hK=>?_
   simp [go_sem,g30,g31]
   refine hK _ _ ?_;clear hK K
   refine zad (fun K2 hK2=>?_)
   by_cases hlt:i<A.length
   ·have hlt':(i:Int)<A.length:=by omega
    obtain ⟨c1,c2⟩:=hr.at hlt
    have hx:=zbu hr.ok i
    have hw1:IntKind.i64.wrap (↑i+1)=(i:Int)+1:=IntWalk.i64_in _ (by omega)
    have hvA:=val_take A i hlt
    generalize hX:lat A i=x at *
    have ex:IntKind.u32.wrap (x:Int)=x:=zb7 _ (by omega)
    refine zao (by simp [go_sem,hlt,hlt'];rfl) rfl ?_
    refine zae ?_
    refine hK2 _ _ ?_;clear hK2 K2
    refine zad (fun K2 hK2=>?_)
    refine zag ?_
    first|refine zzr fun K hK=>?_|refine zzt fun K hK=>?_
    simp [go_sem,g29,g31,hlt,hlt',c1,c2]
    refine hK _ _ ?_;clear hK K
    first|refine zzr fun K hK=>?_|refine zzt fun K hK=>?_
    simp [go_sem]
    refine hK _ _ ?_;clear hK K
    refine zad (fun K3 hK3=>?_)
    first|refine zzr fun K hK=>?_|refine zzt fun K hK=>?_
    simp [go_sem,g1]
    refine hK _ _ ?_;clear hK K
    refine zag ?_
    refine zaJ (fun t g w'=>Below w.heap.size w w'∧RD w' a c A∧RD w' b d B∧∃ (k cy:Nat) (O:List Nat),k≤B.length∧t=B.length-k∧g 1 = .slice b B.length d∧g 5 = .slice (some ⟨b2,0,none⟩) N N∧g 6 = .int .i64 i∧g 7 = .int .u16 x∧g 8 = .int .u32 cy ∧
     g 29 = .slice a A.length c∧g 30 = .int .i64 A.length∧g 31 = .int .i64 i∧g 36 = .slice b B.length d∧g 37 = .int .i64 B.length∧g 38 = .int .i64 k∧Bx w' b2 (lmC O).toArray 109∧O.length=N∧Ok O∧(∀ j,i+B.length≤j→lat O j=0)∧cy<65536∧val O+65536 ^ (i+k)*cy=val O0+65536 ^ i*(x*val (B.take k))) B.length ?_ ?_
    ·exact ⟨hE,hr,hs,0,0,O0,by omega,rfl,by simp [go_sem,g1],by simp [go_sem,g5],by simp [go_sem],by simp [go_sem],by simp [go_sem],by simp [go_sem,g29],by simp [go_sem,g30],by simp [go_sem,g31],by simp [go_sem],by simp [go_sem],by simp [go_sem],hBx,hOl,hOok,hOz,by omega,by simp [val]⟩
    ·clear hr hs hE hBx hOok hOz hOl g1 g5 g29 g30 g31 c1 c2
     rintro t g w' ⟨hE,hr,hs,k,cy,O,hk,rfl,g1,g5,g6,g7,g8,g29,g30,g31,g36,g37,g38,hBx,hOl,hOok,hOz,hcy,hv⟩
     first|refine zzr fun K hK=>?_|refine zzt fun K hK=>?_
     simp [go_sem,g37,g38]
     refine hK _ _ ?_;clear hK K
     refine zad (fun K4 hK4=>?_)
     by_cases hkl:k<B.length
     ·have hkl':(k:Int)<B.length:=by omega
      obtain ⟨d1,d2⟩:=hs.at hkl
      have hy:=zbu hs.ok k
      obtain ⟨j,hj⟩:∃ j,j=i+k:=⟨_,rfl⟩
      have hjl:j<O.length:=by omega
      have hjN:j<N:=by omega
      have hjN':(j:Int)<N:=by omega
      have d3:=bx_at hBx hjl
      have ho:=zbu hOok j
      obtain ⟨XY,hXY⟩:∃ XY,XY=x*lat B k:=⟨_,rfl⟩
      have hXYb:XY≤65535*65535:=by rw [hXY];exact Nat.mul_le_mul (by omega) (by omega)
      obtain ⟨s,hsm⟩:∃ s,s=cy+lat O j+XY:=⟨_,rfl⟩
      have hstep:=mul_step O O0 B i k cy x s (by omega) hv (by rw [hsm,hXY,hj])
      rw [←hj] at hstep
      have e0:IntKind.i64.wrap (↑i + ↑k)=(j:Int):=by rw [IntWalk.i64_in _ (by omega)];omega
      have e1:IntKind.u32.wrap (lat O j:Int)=lat O j:=zb7 _ (by omega)
      have e2:IntKind.u32.wrap (lat B k:Int)=lat B k:=zb7 _ (by omega)
      have eXY:(x:Int)*(lat B k:Int)=(XY:Int):=by rw [hXY];simp
      have e3:IntKind.u32.wrap (XY:Int)=XY:=zb7 _ (by omega)
      have e4:IntKind.u32.wrap ((lat O j:Int)+XY)=(lat O j:Int)+XY:=zb7 _ (by omega)
      have e5:IntKind.u32.wrap ((cy:Int)+((lat O j:Int)+XY))=(s:Int):=by rw [zb7 _ (by omega)];omega
      have e6:IntKind.u16.wrap (s:Int)=((s % 65536:Nat):Int):=w16 s
      have e7:shrI .u32 (s:Int) 16=((s / 65536:Nat):Int):=shr_nat .u32 s 16 (by decide)
      have hw2:IntKind.i64.wrap (↑k+1)=(k:Int)+1:=IntWalk.i64_in _ (by omega)
      have hQ':s % 65536<65536:=by omega
      have hC':s / 65536<65536:=by omega
      generalize hQ:s % 65536=Q at *
      generalize hC:s / 65536=C at *
      refine zao (by simp [go_sem,hkl,hkl'];rfl) rfl ?_
      refine zae ?_
      refine hK4 _ _ ?_;clear hK4 K4
      refine zad (fun K4 hK4=>?_)
      refine zag ?_
      first|refine zzr fun K hK=>?_|refine zzt fun K hK=>?_
      simp [go_sem,g36,g38,hkl,hkl',d1,d2]
      refine hK _ _ ?_;clear hK K
      first|refine zzr fun K hK=>?_|refine zzt fun K hK=>?_
      simp [go_sem,g5,g6,g7,g8,e0,hjN,hjN',za0,d3,e1,ex,e2,eXY,e3,e4,e5]
      refine hK _ _ ?_;clear hK K
      first|refine zzr fun K hK=>?_|refine zzt fun K hK=>?_
      simp [go_sem,g5,g6,e0,e6,hjN,hjN',za0]
      refine za7 (b:=b2) (off:=j) [.int .u16 Q] (by simp [go_sem]) rfl (by simp [go_sem]) (by simp [go_sem,Value.cells]) zaV hBx (by simp [zaY]<;>omega) (by simp [Value.oneCell']) (by decide) (fun w3 hS3 hB3=>?_)
      rw [putC_lm] at hB3
      replace hr:=hr.sto hS3 hne1
      replace hs:=hs.sto hS3 hne2
      replace hE:=hE.nextS hS3 hle2
      simp [go_sem]
      refine hK _ _ ?_;clear hK K
      refine zzt fun K hK=>?_
      simp [go_sem,e7]
      refine hK _ _ ?_;clear hK K
      refine hK4 _ _ ?_;clear hK4 K4
      refine zzt fun K hK=>?_
      simp [go_sem,g38,hw2]
      refine hK _ _ ⟨B.length-(k+1),by omega,hE,hr,hs,k+1,C,O.set j Q,by omega,rfl,by simp [go_sem,g1],by simp [go_sem,g5],by simp [go_sem,g6],by simp [go_sem,g7],by simp [go_sem],by simp [go_sem,g29],by simp [go_sem,g30],by simp [go_sem,g31],by simp [go_sem,g36],by simp [go_sem,g37],by simp [go_sem],hB3,by simp [hOl],hOok.set j Q hQ',?_,hC',hstep⟩
      intro j' hj'
      rw [zdl O j j' Q (by omega)];exact hOz j' hj'
     ·have hkb:k=B.length:=by omega
      subst hkb
      rw [List.take_length] at hv
      obtain ⟨j,hj⟩:∃ j,j=i+B.length:=⟨_,rfl⟩
      have hjl:j<O.length:=by omega
      have hjN:j<N:=by omega
      have hjN':(j:Int)<N:=by omega
      have e0:IntKind.i64.wrap (↑i + ↑B.length)=(j:Int):=by rw [IntWalk.i64_in _ (by omega)];omega
      have e6:IntKind.u16.wrap (cy:Int)=cy:=w16_in _ (by omega)
      refine zao (by simp [go_sem,hkl];rfl) rfl ?_
      refine zaB ?_
      repeat (first|refine zak ?_|refine za9 rfl ?_|refine zac ?_)
      refine hK3 _ _ ?_;clear hK3 K3 hK4 K4
      refine zzt fun K hK=>?_
      simp [go_sem,g1,g5,g6,g8,e0,e6,hjN,hjN',za0]
      refine za7 (b:=b2) (off:=j) [.int .u16 cy] (by simp [go_sem]) rfl (by simp [go_sem]) (by simp [go_sem,Value.cells]) zaV hBx (by simp [zaY]<;>omega) (by simp [Value.oneCell']) (by decide) (fun w3 hS3 hB3=>?_)
      rw [putC_lm] at hB3
      replace hr:=hr.sto hS3 hne1
      replace hs:=hs.sto hS3 hne2
      replace hE:=hE.nextS hS3 hle2
      have hset:=val_set O j cy hjl
      have hz:=hOz j (by omega)
      simp [go_sem]
      refine hK _ _ ?_;clear hK K
      refine hK2 _ _ ?_;clear hK2 K2
      refine zzt fun K hK=>?_
      simp [go_sem,g31,hw1]
      refine hK _ _ ⟨A.length-(i+1),by omega,hE,hr,hs,i+1,O.set j cy,by omega,rfl,by simp [go_sem,g1],by simp [go_sem,g5],by simp [go_sem,g29],by simp [go_sem,g30],by simp [go_sem],hB3,by simp [hOl],hOok.set j cy hcy,?_,?_⟩
      ·intro j' hj'
       rw [zdl O j j' cy (by omega)];exact hOz j' (by omega)
      ·rw [hz] at hset
       rw [hvA,Nat.add_mul,←hval,Nat.mul_assoc,←hv,←hj];omega
   ·have him:i=A.length:=by omega
    subst him
    rw [List.take_length] at hval
    have hrw:=RD.of_lm hBx hOok (c:=N) (by omega)
    have hres:lim (val A*val B)=nrm O0:=by rw [←hval,zb9 O0 hOok]
    rw [←hOl] at g5 hrw
    refine zao (by simp [go_sem,hlt];rfl) rfl ?_
    refine zaB ?_
    repeat (first|refine zak ?_|refine za9 rfl ?_|refine zac ?_)
    refine hK1 _ _ ?_;clear hK1 K1 hK2 K2
    first|refine zzr fun K hK=>?_|refine zzt fun K hK=>?_
    simp [go_sem,g5]
    refine za5 (by simp [go_sem,g5]) rfl Try.call77 (fun R hR=>?_)
    simp [go_sem,g5]
    refine (zaQ O0 _ _ _ hrw (by unfold zcQ;omega)).mono ?_
    rintro e w4 ⟨rfl,rfl⟩
    refine ⟨_,rfl,hR _ _ ?_⟩
    clear hR R
    simp [go_sem]
    refine hK _ _ ?_;clear hK K
    refine zal ?_
    repeat (first|refine za4 ?_|refine za3 ?_)
    rw [hres]
    refine ⟨trivial,some ⟨b2,0,none⟩,O0.length,?_,hrw.nrm,hE⟩
    simp [go_sem,zaw,zav]
end Go.Proofs.Ytefhenfofomjhaa
namespace Go.Proofs.Ytefhenfofomjhaa
open Go Go.RowKit Go.V
set_option maxRecDepth 20000
def no16c (u:Value):Prop:=∀ x,u≠.int .u16 x
def NB (w:World) (v:Value):Prop:=∀ g,v.ownBlock=some g→∃ cur e f,w.heap[g]? = some (.cells cur e f)∧∀ u∈cur.toList,no16c u
theorem NB.nil (w:World):NB w (.slice none 0 0):=fun g h=>by cases h
theorem NB.keep {w w':World} {v:Value} (h:NB w v) (hE:Below w.heap.size w w'):NB w' v:=fun g hg=>by
 obtain ⟨cur,e,f,h1,h2⟩:=h g hg
 exact ⟨cur,e,f,by rw [hE.block g (Array.getElem?_eq_some_iff.1 h1).1];exact h1,h2⟩
theorem NB.grown {w w':World} {v:Value} {row:Option Nat} (h:NB w v) (hg:w.grownBy w' row) (hne:v.ownBlock=none∨v.ownBlock≠row):NB w' v:=fun g hv=>by
 obtain ⟨cur,e,f,h1,h2⟩:=h g hv
 refine ⟨cur,e,f,?_,h2⟩
 rw [hg.block g (Array.getElem?_eq_some_iff.1 h1).1 (by
                             rw [←hv];rcases hne with h|h;· rw [h] at hv;cases hv
                             ·exact h)]
 exact h1
theorem rd_nb {w:World} {v:Value} {a:Option Addr} {c:Nat} {l:List Nat} (h:RD w a c l) (hn:NB w v):∀ ad,a=some ad→l≠[]→some ad.block≠v.ownBlock:=by
 intro ad ha hl e
 cases l with
 | nil=>exact hl rfl
 | cons x r =>
  rcases h.sl with h0|⟨b,off,e1,h1⟩
  ·simp [lmC] at h0
  ·rw [ha] at e1;injection e1 with e1;subst e1
   have h2:=h1 0 (.int .u16 x) (by simp [lmC])
   obtain ⟨cur,t,f,h3,h4⟩:=hn b e.symm
   have h5:cur[off+0]? = some (.int .u16 x):=by simpa [World.cell?,h3] using h2
   exact h4 _ (Array.mem_toList_iff.2 (Array.mem_of_getElem? h5)) x rfl
theorem RD.app {w w':World} {v:Value} {a:Option Addr} {c:Nat} {l:List Nat} (h:RD w a c l) (hg:w.grownBy w' v.ownBlock) (hn:NB w v):RD w' a c l:=h.grown hg (rd_nb h hn)
section
variable {P:Program} (w:World)
theorem zero_no16 {z:Array Value} (hz:∀ u∈z.toList,no16c u) (hs:0<z.size) (n:Nat):∀ u∈(Builtin.zeroCells z n).toList,no16c u:=by
 intro u hu
 simp only [Builtin.zeroCells,Array.toList_map,List.mem_map] at hu
 obtain ⟨i,_,rfl⟩:=hu
 have hlt:i % z.size<z.size:=Nat.mod_lt _ hs
 rw [getElem!_pos z (i % z.size) hlt]
 exact hz _ (Array.mem_toList_iff.2 (Array.getElem_mem hlt))
theorem run_append16 (base:Nat) (t ty e:TypeId) (i:TypeInfo) (z:Value) (size bytes:Nat) (ht:P.underlying t=some (.slice e)) (hi:P.info? e=some i) (hz:i.zero=some z)
  (hsize:i.size=size) (hby:i.bytes=bytes) (hzs:z.cells.size=size) (hsz:0<size)
  (v:Value) (n:Nat) (xs:List Value) (hown:w.ownsRow base e size v n xs)
  (a:Addr) (m c:Nat) (news:List Value) (hl:news.length=m*size) (hnews:∀ j u,news[j]? = some u→w.cell? (a.add j)=some u) (h1:∀ u∈news,u.oneCell'=true)
  (h63:n+m≤maxLen) (hbytes:(n+m)*bytes≤140737488355328) (hbase:base≤w.heap.size) (hz16:∀ u∈z.cells.toList,no16c u) (hn16:∀ u∈news,no16c u) (hNB:NB w v) :
  ∃ v' w',(Builtin.append_ #[t,t] ty #[v,.slice (some a) m c]).run P w = .ok v' w'∧w'.ownsRow base e size v' (n+m) (xs++news)∧w.grownBy w' v.ownBlock ∧
   (v'.ownBlock=v.ownBlock∨v'.ownBlock=some w.heap.size)∧NB w' v':=by
 obtain ⟨v',w',hr,h2,h3,_,h5⟩:=run_append_own_at (P:=P) w base t ty e i z size bytes ht hi hz hsize hby hzs hsz v n xs hown a m c news hl hnews h1 h63 hbytes hbase
 refine ⟨v',w',hr,h2,h3,h5,?_⟩
 subst hsize
 subst hby
 have hz0:0<z.cells.size:=by rw [hzs];exact hsz
 have h63':n+m≤9223372036854775807:=by unfold maxLen at h63;omega
 rcases hown.2 with ⟨rfl,rfl⟩|⟨g,cap,cur,rfl,hbg,hg,hnc,hcm,hcs,htake⟩
 ·by_cases hm:m=0
  ·intro g hg
   subst hm
   have hn:news=[]:=List.eq_nil_of_length_eq_zero (by simpa using hl)
   subst hn
   have hx:xs=[]:=List.eq_nil_of_length_eq_zero (by simpa using hown.1)
   subst hx
   have e0:(Builtin.append_ #[t,t] ty #[.slice none 0 0,.slice (some a) 0 c]).run P w = .ok (.slice none 0 0) w:=by
    simp [Builtin.append_,run_underlying ht,sizeOf,typeInfo,hi,Builtin.lenOf,Builtin.firstCells,loadCells,loadCellsFrom]
   rw [e0] at hr
   injection hr with hv hw
   subst hv
   cases hg
  ·have e0:=run_append_nil (P:=P) w t ty e i z ht hi hz a m c news hl hnews (by omega) (by omega) (by have hb:=hbytes;simp only [Nat.zero_add] at hb;omega)
   rw [e0] at hr
   injection hr with hv hw
   subst hv;subst hw
   intro g hg
   injection hg with hg
   subst hg
   refine ⟨_,_,_,heap_alloc_new w.drew _,fun u hu=>?_⟩
   rw [Array.toList_append,List.mem_append] at hu
   rcases hu with hu|hu
   ·exact hn16 u (by simpa using hu)
   ·exact zero_no16 hz16 hz0 _ u hu
 ·by_cases hroom:n+m≤cap
  ·have hfit:n*i.size+news.length≤cur.size:=by rw [hl,hcs,←Nat.add_mul];exact Nat.mul_le_mul_right _ hroom
   have e0:=run_append_room (P:=P) w t ty e i ht hi g n cap cur hg a m c news hl hnews h1 hroom hfit
   rw [e0] at hr
   injection hr with hv hw
   subst hv;subst hw
   intro g' hg'
   injection hg' with hg'
   subst hg'
   obtain ⟨cur',e',f',h6,h7⟩:=hNB g rfl
   rw [hg] at h6
   injection h6 with h6
   injection h6 with h6 _ _
   subst h6
   refine ⟨_,_,_,setRow_heap w g cur _ e _ hg,fun u hu=>?_⟩
   simp only [List.mem_append] at hu
   rcases hu with (hu|hu)|hu
   ·exact h7 u (List.mem_of_mem_take hu)
   ·exact hn16 u hu
   ·exact h7 u (List.mem_of_mem_drop hu)
  ·have holds:∀ j u,xs[j]? = some u→w.cell? ((⟨g,0,none⟩:Addr).add j)=some u:=hown.cells (g:=g) rfl
   have e0:=run_append_grow (P:=P) w t ty e i z ht hi hz ⟨g,0,none⟩ n cap xs hown.1 holds a m c news hl hnews (by omega) (by omega) (growslice_fits (by omega) hbytes)
   rw [e0] at hr
   injection hr with hv hw
   subst hv;subst hw
   intro g' hg'
   injection hg' with hg'
   subst hg'
   obtain ⟨cur',e',f',h6,h7⟩:=hNB g rfl
   rw [hg] at h6
   injection h6 with h6
   injection h6 with h6 _ _
   subst h6
   refine ⟨_,_,_,heap_alloc_new w.drew _,fun u hu=>?_⟩
   rw [Array.toList_append,Array.toList_append,List.mem_append,List.mem_append] at hu
   rcases hu with (hu|hu)|hu
   ·rw [←htake] at hu;exact h7 u (List.mem_of_mem_take (by simpa using hu))
   ·exact hn16 u (by simpa using hu)
   ·exact zero_no16 hz16 hz0 _ u hu
end
section
variable {P:Program} {ops:Array Oper} {o:Oper} {k:Nat} {nx:G→World→Prop} {g:G} {w:World}
theorem zc8 {t e size bytes:Nat} {z:Array Value} {s x:Operand} {B:Nat} {v:Value} {m:Nat} {xs:List Value} {b len c:Nat} {news:Array Value} {tb:TypeId} (hbx:Bx w b news tb) (hw:zcc ops g o=true)
  (ho:o.op = .call { callee:=.builtin .append,args:=#[s,x],argTypes:=#[t,t] }) (hz:slZ P t=some (e,size,z)) (hby:(P.info? e).map (·.bytes)=some bytes) (hzs:z.size=size) (hsz:0<size)
  (hs:evG g s=v) (hx:evG g x = .slice (some ⟨b,0,none⟩) len c) (hown:w.ownsRow B e size v m xs) (hl:news.size=len*size) (h1:∀ u∈news.toList,u.oneCell'=true)
  (h63:m+len≤maxLen) (hbytes:(m+len)*bytes≤140737488355328) (hB:B≤w.heap.size) (hk:k≠0) (hz16:∀ u∈z.toList,no16c u) (hn16:∀ u∈news.toList,no16c u) (hNB:NB w v)
  (h:∀ v' w1,w1.ownsRow B e size v' (m+len) (xs++news.toList)→w.grownBy w1 v.ownBlock→(v'.ownBlock=v.ownBlock∨v'.ownBlock=some w.heap.size)→NB w1 v'→nx (zbY g o.dst v') w1):hvX P ops o k nx g w:=by
 obtain ⟨i,hu,hi,hsize,hzc⟩:=slZ_some hz
 have hby':i.bytes=bytes:=by rw [hi] at hby;simpa using hby
 obtain ⟨zv,hzv,hzc'⟩:∃ zv,i.zero=some zv∧zv.cells=z:=by
  unfold zd9 at hzc
  rw [hi] at hzc
  cases hzz:i.zero with
  | none=>simp [hzz] at hzc
  | some zv=>simp [hzz] at hzc;exact ⟨zv,rfl,hzc⟩
 obtain ⟨v',w',hr,h2,h3,h4,h5⟩:=run_append16 (P:=P) w B t o.type e i zv size bytes hu hi hzv hsize hby' (by rw [hzc'];exact hzs) hsz v m xs hown ⟨b,0,none⟩ len c news.toList (by simpa using hl) (fun j u hu=>by rw [za0,hbx.cell];simpa using hu) h1 h63 hbytes hB (by rw [hzc'];exact hz16) hn16 hNB
 refine zdP hw (v:=v') (w':=w') ?_ (fun e=>absurd e hk) (h _ _ h2 h3 h4 h5)
 unfold execOp
 simp only [ho,resolve,invoke,builtin,Sem.run_bind,Sem.run_pure,Result.andThen_ok,List.map_toArray,List.map_cons,List.map_nil,hs,hx,hr]
end
structure Tok where
 k:Nat
 p:Nat
 e:Nat
 t:List UInt8
instance:Inhabited Tok:=⟨⟨0,0,0,[]⟩⟩
def zai (T:List Tok) (i:Nat):Tok:=T.getD i default
def zbk (t:Tok):List Value:=[.int .i64 t.k,.int .i64 t.p,.int .i64 t.e,.string ⟨t.t.toArray⟩]
def zdw (T:List Tok):List Value:=(T.map zbk).flatten
theorem zc1 {α:Type} {n:Nat}:∀ {rows:List (List α)},(∀ R∈rows,R.length=n)→rows.flatten.length=n*rows.length
 | [],_=>by simp
 | R::r,h=>by
  rw [List.flatten_cons,List.length_append,h R (List.mem_cons_self ..),zc1 (fun q hq=>h q (List.mem_cons_of_mem _ hq)),List.length_cons,Nat.mul_succ];omega
theorem zcT {α:Type} {n:Nat}:∀ {rows:List (List α)} {i:Nat} {R:List α},(∀ R∈rows,R.length=n)→rows[i]? = some R→(rows.flatten.drop (i*n)).take n=R
 | [],_,_,_,h=>by simp at h
 | Q::r,0,R,hl,h=>by
  simp at h
  subst h
  rw [Nat.zero_mul,List.drop_zero,List.flatten_cons,List.take_left' (hl Q (List.mem_cons_self ..))]
 | Q::r,i+1,R,hl,h=>by
  have hq:=hl Q (List.mem_cons_self ..)
  rw [List.flatten_cons,Nat.succ_mul,Nat.add_comm,←List.drop_drop,List.drop_left' hq]
  exact zcT (fun q hq=>hl q (List.mem_cons_of_mem _ hq)) (by simpa using h)
theorem toks_all (T:List Tok):∀ R∈T.map zbk,R.length=4:=by
 intro R hR
 obtain ⟨t,_,rfl⟩:=List.mem_map.1 hR
 rfl
theorem toks_row {w:World} {a:Option Addr} {T:List Tok} (h:SL w a (zdw T)) {i:Nat} (hi:i<T.length) :
  za2 w ((a.getD default).add (i*4)) 0 4=zbk (zai T i)∧za1 w ((a.getD default).add (i*4)) 0 4∧a.isSome=true:=by
 have hfl:=zc1 (toks_all T)
 rw [List.length_map] at hfl
 have hle:i*4+4≤(zdw T).length:=by unfold zdw;rw [hfl];omega
 obtain ⟨q1,q2,q3⟩:=h.row (i*4) 4 hle (by decide)
 refine ⟨?_,q2,q3⟩
 rw [q1]
 unfold zdw zai
 refine zcT (toks_all T) ?_
 simp [List.getD_eq_getElem?_getD,hi]
structure PS (w:World) (b:Nat) (tb:TypeId) (la:Option Addr) (cap:Nat) (T:List Tok) (i:Nat) (at' er:Int):Prop where
 bx:Bx w b #[.slice la T.length cap,.int .i64 i,.int .i64 at',.int .i64 er] tb
 sl:SL w la (zdw T)
 ne:∀ ad,la=some ad→ad.block≠b
 lt:i<T.length
theorem PS.ext {w w':World} {b tb cap i:Nat} {la:Option Addr} {T:List Tok} {at' er:Int} (h:PS w b tb la cap T i at' er) (hb:Below w.heap.size w w'):PS w' b tb la cap T i at' er:=⟨h.bx.keep hb,h.sl.ext hb,h.ne,h.lt⟩
theorem PS.keep {w w':World} {b tb cap i:Nat} {la:Option Addr} {T:List Tok} {at' er:Int} (h:PS w b tb la cap T i at' er) (hb:Below w.heap.size w w'):PS w' b tb la cap T i at' er:=h.ext hb
theorem PS.cells {w:World} {b tb cap i:Nat} {la:Option Addr} {T:List Tok} {at' er:Int} (h:PS w b tb la cap T i at' er) :
  w.cell? ⟨b,0,none⟩=some (.slice la T.length cap)∧w.cell? ⟨b,1,none⟩=some (.int .i64 i)∧w.cell? ⟨b,2,none⟩=some (.int .i64 at')∧w.cell? ⟨b,3,none⟩=some (.int .i64 er) :=
 ⟨h.bx.cell 0,h.bx.cell 1,h.bx.cell 2,h.bx.cell 3⟩
set_option maxHeartbeats 1000000 in
theorem zba {w:World} {b tb cap i:Nat} {la:Option Addr} {T:List Tok} {at' er:Int} (h:PS w b tb la cap T i at' er) (hT:T.length≤maxLen) :
  Calls Try.prog 13 #[.pointer (some ⟨b,0,none⟩)] w fun e w'=>e = .returned (.agg (zbk (zai T i)).toArray)∧Below w.heap.size w w':=by
 have hlt:(i:Int)<T.length:=by have:=h.lt;omega
 have hlt':=h.lt
 refine za8 (args:=[.pointer (some ⟨b,0,none⟩)]) (rs:=[.cell 2 59]) (n:=13) Try.func13 rfl rfl rfl (by kernel_rfl) ?_
 have hA0:=Below.refl w.heap.size w
 first|refine zzr fun K hK=>?_|refine zzt fun K hK=>?_
 simp [go_sem,za0,za2,za1]
 refine zar (by simp [go_sem,za0,za2,za1]) rfl ty_zeroC59 (fun w1 b1 hE1 hle1 hB1=>?_)
 have hb1_0:=Nat.le_trans hA0.size hle1
 replace hA0:=hA0.next hE1
 simp [go_sem,za0,za2,za1,hB1.cell]
 refine hK _ _ ?_;clear hK K
 have hD:=h.ext (hA0.next (Below.drew1 _))
 obtain ⟨k0,k1,k2,k3⟩:=hD.cells
 obtain ⟨r1,r2,r3⟩:=toks_row hD.sl h.lt
 have hD2:=Below.drew1 w1
 replace hA0:=hA0.next hD2
 replace hB1:=hB1.keep hD2
 first|refine W_rd [(0,0),(1,0),(2,0),(3,0),(4,0),(5,0),(6,0),(7,0),(8,0),(9,0),(10,2)] (by kernel_rfl) (by kernel_rfl) (fun K hK=>?_)|refine zbC [(0,0),(1,0),(2,0),(3,0),(4,0),(5,0),(6,0),(7,0),(8,0),(9,0),(10,2)] (by kernel_rfl) (by kernel_rfl) (fun K hK=>?_)
 simp [go_sem,za0,hB1.cell, k0,k1,hlt,hlt',r1,r2,r3]
 refine za7 (b:=b1) (off:=0) [.int .i64 (zai T i).k,.int .i64 (zai T i).p,.int .i64 (zai T i).e,.string ⟨(zai T i).t.toArray⟩] (by simp [go_sem,za0,hB1.cell,k0,k1,hlt,hlt',r1,r2,r3,zbk]) rfl (by simp [go_sem,za0,hB1.cell,k0,k1,hlt,hlt',r1,r2,r3,zbk]) (by simp [go_sem,Value.cells,za0,hB1.cell,k0,k1,hlt,hlt',r1,r2,r3,zbk]) zc0 hB1 (by simp) (by simp [Value.oneCell']) (by decide) (fun w3 hS3 hB3=>?_)
 simp [zaD] at hB3
 replace hA0:=hA0.nextS hS3 (by first|exact hb1_0|omega)
 simp [go_sem,za0,hB3.cell,k0,k1,hlt,hlt',r1,r2,r3,zbk]
 refine hK _ _ ?_;clear hK K
 refine zal ?_
 repeat (first|refine za4 ?_|refine za3 ?_)
 refine ⟨?_,?_,hA0⟩
 ·simp [go_sem,zb6,zav,za2,za1,za0,hB3.cell]
 ·simp [go_sem,zaw,zav,za2,za1,za0,hB3.cell,zbk]
set_option maxHeartbeats 1000000 in
theorem zbD {w:World} {b tb cap i:Nat} {la:Option Addr} {T:List Tok} {at' er:Int} (h:PS w b tb la cap T i at' er) :
  Calls Try.prog 12 #[.pointer (some ⟨b,0,none⟩)] w fun e w'=>e = .returned (.bool (decide (er=0)))∧Below w.heap.size w w':=by
 obtain ⟨k0,k1,k2,k3⟩:=h.cells
 refine za8 (args:=[.pointer (some ⟨b,0,none⟩)]) (rs:=[.tmp 2]) (n:=8) Try.func12 rfl rfl rfl (by kernel_rfl) ?_
 have hA0:=Below.refl w.heap.size w
 first|refine zzr fun K hK=>?_|refine zzt fun K hK=>?_
 simp [go_sem,za0,za2,za1]
 refine hK _ _ ?_;clear hK K
 first|refine zzr fun K hK=>?_|refine zzt fun K hK=>?_
 simp [go_sem,za0,za2,za1, k3]
 refine hK _ _ ?_;clear hK K
 refine zal ?_
 repeat (first|refine za4 ?_|refine za3 ?_)
 refine ⟨trivial,?_,hA0⟩
 simp [go_sem,zaw,zav]
theorem PS.next {w w':World} {b tb cap i j:Nat} {la:Option Addr} {T:List Tok} {at' at2 er er2:Int} (h:PS w b tb la cap T i at' er) (hg:w.grownBy w' (some b)) (hb:Bx w' b #[.slice la T.length cap,.int .i64 j,.int .i64 at2,.int .i64 er2] tb) (hj:j<T.length):PS w' b tb la cap T j at2 er2:=by
 refine ⟨hb,?_,h.ne,hj⟩
 rcases h.sl with h0|⟨b',off,e,h1⟩
 ·exact .inl h0
 ·exact .inr ⟨b',off,e,fun j v hv=>hg.cell (h1 j v hv) (show some b'≠some b from fun e2=>h.ne _ e (by injection e2))⟩
theorem za6 {w w':World} {row:Option Nat} (h:Below w.heap.size w w'):w.grownBy w' row:=⟨h.os,h.tape,h.output,h.size,fun k hk _=>h.block k hk⟩
theorem zaC {w w':World} {b:Nat} (h:Sto w w' b):w.grownBy w' (some b):=⟨h.os,h.tape,h.output,by rw [h.size];exact Nat.le_refl _,fun k hk hn=>h.block k (fun e=>hn (by rw [e]))⟩
set_option maxHeartbeats 1000000 in
theorem failG_any {w:World} {b tb cap i:Nat} {la:Option Addr} {T:List Tok} {at':Int} (h:PS w b tb la cap T i at' 0) (hT:T.length≤maxLen) (er:Int) :
  Calls Try.prog 19 #[.pointer (some ⟨b,0,none⟩),.int .i64 er] w fun x w'=>x = .returned (.tuple #[])∧PS w' b tb la cap T i (zai T i).p er∧w.grownBy w' (some b):=by
 obtain ⟨k0,k1,k2,k3⟩:=h.cells
 refine za8 (args:=[.pointer (some ⟨b,0,none⟩),.int .i64 er]) (rs:=[]) (n:=19) Try.func19 rfl rfl rfl (by kernel_rfl) ?_
 first|refine zzr fun K hK=>?_|refine zzt fun K hK=>?_
 simp [go_sem,k3,za0]
 refine hK _ _ ?_;clear hK K
 refine zao (t:=true) (by simp [go_sem]) rfl ?_
 first|refine zzr fun K hK=>?_|refine zzt fun K hK=>?_
 simp [go_sem,za0]
 refine za5 (by simp [go_sem]) rfl Try.call13 (fun R hR=>?_)
 simp [go_sem]
 refine (zba h hT).mono ?_
 rintro x w1 ⟨rfl,hE1⟩
 refine ⟨_,rfl,hR _ _ ?_⟩
 clear hR R
 have h1:=h.keep hE1
 have hbx:=h1.bx
 simp [go_sem,zbk,za0]
 refine za7 (b:=b) (off:=2) [.int .i64 (zai T i).p] (by simp [go_sem,zbk,za0]) rfl (by simp [go_sem,zbk,za0]) (by simp [go_sem,Value.cells,zbk,za0]) zaI hbx (by simp) (by simp [Value.oneCell']) (by decide) (fun w2 hS2 hB2=>?_)
 simp [zaD] at hB2
 simp [go_sem,za0]
 refine za7 (b:=b) (off:=3) [.int .i64 er] (by simp [go_sem,za0]) rfl (by simp [go_sem,za0]) (by simp [go_sem,Value.cells,za0]) ty_size26 hB2 (by simp) (by simp [Value.oneCell']) (by decide) (fun w3 hS3 hB3=>?_)
 simp [zaD] at hB3
 simp [go_sem]
 refine hK _ _ ?_
 refine ⟨trivial,?_,h.next (((za6 hE1).trans (zaC hS2)).trans (zaC hS3)) hB3 h.lt,((za6 hE1).trans (zaC hS2)).trans (zaC hS3)⟩
 simp [go_sem,zaw,zav]
set_option maxHeartbeats 1000000 in
theorem failB_any {w:World} {b tb cap i:Nat} {la:Option Addr} {T:List Tok} {at' er0:Int} (h:PS w b tb la cap T i at' er0) (h0:¬er0=0) (er:Int) :
  Calls Try.prog 19 #[.pointer (some ⟨b,0,none⟩),.int .i64 er] w fun x w'=>x = .returned (.tuple #[])∧Below w.heap.size w w':=by
 obtain ⟨k0,k1,k2,k3⟩:=h.cells
 refine za8 (args:=[.pointer (some ⟨b,0,none⟩),.int .i64 er]) (rs:=[]) (n:=19) Try.func19 rfl rfl rfl (by kernel_rfl) ?_
 first|refine zzr fun K hK=>?_|refine zzt fun K hK=>?_
 simp [go_sem,k3,za0]
 refine hK _ _ ?_;clear hK K
 refine zao (t:=false) (by simp [go_sem,h0]) rfl ?_
 refine zae ?_
 refine ⟨trivial,?_,Below.refl _ _⟩
 simp [go_sem,zaw,zav]
def isT (T:List Tok) (er:Int) (i:Nat) (s:List UInt8):Bool:=decide (er=0) && (!decide ((zai T i).k=0) && decide ((zai T i).t=s))
set_option maxHeartbeats 1000000 in
theorem is_any {w:World} {b tb cap i:Nat} {la:Option Addr} {T:List Tok} {at' er:Int} (h:PS w b tb la cap T i at' er) (hT:T.length≤maxLen) (s:List UInt8) :
  Calls Try.prog 36 #[.pointer (some ⟨b,0,none⟩),.string ⟨s.toArray⟩] w fun x w'=>x = .returned (.bool (isT T er i s))∧Below w.heap.size w w':=by
 refine za8 (args:=[.pointer (some ⟨b,0,none⟩),.string ⟨s.toArray⟩]) (rs:=[.tmp 4]) (n:=20) Try.func36 rfl rfl rfl (by kernel_rfl) ?_
 have hA0:=Below.refl w.heap.size w
 first|refine zzr fun K hK=>?_|refine zzt fun K hK=>?_
 simp [go_sem,za0,za2,za1]
 refine hK _ _ ?_;clear hK K
 first|refine zzr fun K hK=>?_|refine zzt fun K hK=>?_
 simp [go_sem,za0,za2,za1]
 refine za5 (by simp [go_sem,za0,za2,za1]) rfl Try.call12 (fun R hR=>?_)
 simp [go_sem,za0,za2,za1]
 refine (zbD (h.ext hA0)).mono ?_
 rintro e w1 ⟨rfl,hE1⟩
 refine ⟨_,rfl,hR _ _ ?_⟩
 clear hR R
 replace hA0:=hA0.next hE1
 simp [go_sem,za0,za2,za1]
 by_cases h0:er=0
 ·by_cases h1:(zai T i).k=0
  ·simp [go_sem,za0,za2,za1,h0]
   refine za5 (by simp [go_sem,za0,za2,za1,h0,h1,zbk]) rfl Try.call13 (fun R hR=>?_)
   simp [go_sem,za0,za2,za1,h0,h1,zbk]
   refine (zba (h.ext hA0) hT).mono ?_
   rintro e w2 ⟨rfl,hE2⟩
   refine ⟨_,rfl,hR _ _ ?_⟩
   clear hR R
   replace hA0:=hA0.next hE2
   simp [go_sem,za0,za2,za1,h0,h1,zbk]
   refine hK _ _ ?_;clear hK K
   refine zal ?_
   repeat (first|refine za4 ?_|refine za3 ?_)
   refine ⟨trivial,?_,hA0⟩
   simp [go_sem,zaw,zav,isT,h0,h1]
  ·simp [go_sem,za0,za2,za1,h0]
   refine za5 (by simp [go_sem,za0,za2,za1,h0,h1,zbk]) rfl Try.call13 (fun R hR=>?_)
   simp [go_sem,za0,za2,za1,h0,h1,zbk]
   refine (zba (h.ext hA0) hT).mono ?_
   rintro e w3 ⟨rfl,hE3⟩
   refine ⟨_,rfl,hR _ _ ?_⟩
   clear hR R
   replace hA0:=hA0.next hE3
   simp [go_sem,za0,za2,za1,h0,h1,zbk]
   refine za5 (by simp [go_sem,za0,za2,za1,h0,h1,zbk]) rfl Try.call13 (fun R hR=>?_)
   simp [go_sem,za0,za2,za1,h0,h1,zbk]
   refine (zba (h.ext hA0) hT).mono ?_
   rintro e w4 ⟨rfl,hE4⟩
   refine ⟨_,rfl,hR _ _ ?_⟩
   clear hR R
   replace hA0:=hA0.next hE4
   simp [go_sem,za0,za2,za1,h0,h1,zbk]
   refine hK _ _ ?_;clear hK K
   refine zal ?_
   repeat (first|refine za4 ?_|refine za3 ?_)
   refine ⟨trivial,?_,hA0⟩
   simp [go_sem,zaw,zav,isT,h0,h1]
 ·simp [go_sem,za0,za2,za1,h0]
  refine hK _ _ ?_;clear hK K
  refine zal ?_
  repeat (first|refine za4 ?_|refine za3 ?_)
  refine ⟨trivial,?_,hA0⟩
  simp [go_sem,zaw,zav,isT,h0]
set_option maxHeartbeats 1000000 in
theorem takeF_any {w:World} {b tb cap i:Nat} {la:Option Addr} {T:List Tok} {at' er:Int} (h:PS w b tb la cap T i at' er) (hT:T.length≤maxLen) (s:List UInt8) (hs:isT T er i s=false) :
  Calls Try.prog 24 #[.pointer (some ⟨b,0,none⟩),.string ⟨s.toArray⟩] w fun x w'=>x = .returned (.bool false)∧Below w.heap.size w w':=by
 refine za8 (args:=[.pointer (some ⟨b,0,none⟩),.string ⟨s.toArray⟩]) (rs:=[.tmp 4]) (n:=16) Try.func24 rfl rfl rfl (by kernel_rfl) ?_
 have hA0:=Below.refl w.heap.size w
 first|refine zzr fun K hK=>?_|refine zzt fun K hK=>?_
 simp [go_sem,za0,za2,za1]
 refine hK _ _ ?_;clear hK K
 refine zad (fun K1 hK1=>?_)
 first|refine zzr fun K hK=>?_|refine zzt fun K hK=>?_
 simp [go_sem,za0,za2,za1]
 refine za5 (by simp [go_sem,za0,za2,za1]) rfl Try.call36 (fun R hR=>?_)
 simp [go_sem,za0,za2,za1]
 refine (is_any (h.ext hA0) hT s).mono ?_
 rintro e w1 ⟨rfl,hE1⟩
 refine ⟨_,rfl,hR _ _ ?_⟩
 clear hR R
 replace hA0:=hA0.next hE1
 simp [go_sem,za0,za2,za1]
 rw [hs]
 refine hK _ _ ?_;clear hK K
 refine zao (t:=true) (by simp [go_sem,za0,za2,za1]) rfl ?_
 first|refine zzr fun K hK=>?_|refine zzt fun K hK=>?_
 simp [go_sem,za0,za2,za1]
 refine hK _ _ ?_;clear hK K
 refine zal ?_
 repeat (first|refine za4 ?_|refine za3 ?_)
 refine ⟨trivial,?_,hA0⟩
 simp [go_sem,zaw,zav]
theorem isT_ok {T:List Tok} {er:Int} {i:Nat} {s:List UInt8} (h:isT T er i s=true):er=0∧(zai T i).k≠0∧(zai T i).t=s:=by
 unfold isT at h
 simpa using h
set_option maxHeartbeats 1000000 in
theorem takeT_any {w:World} {b tb cap i:Nat} {la:Option Addr} {T:List Tok} {at' er:Int} (h:PS w b tb la cap T i at' er) (hT:T.length≤maxLen) (s:List UInt8) (hs:isT T er i s=true) (hi:i+1<T.length) :
  Calls Try.prog 24 #[.pointer (some ⟨b,0,none⟩),.string ⟨s.toArray⟩] w fun x w'=>x = .returned (.bool true)∧PS w' b tb la cap T (i+1) at' er∧w.grownBy w' (some b):=by
 have hw:IntKind.i64.wrap ((i:Int)+1)=(i:Int)+1:=IntWalk.i64_in _ (by unfold maxLen at hT;omega)
 refine za8 (args:=[.pointer (some ⟨b,0,none⟩),.string ⟨s.toArray⟩]) (rs:=[.tmp 4]) (n:=16) Try.func24 rfl rfl rfl (by kernel_rfl) ?_
 have hA0:=Below.refl w.heap.size w
 first|refine zzr fun K hK=>?_|refine zzt fun K hK=>?_
 simp [go_sem,za0,za2,za1]
 refine hK _ _ ?_;clear hK K
 refine zad (fun K1 hK1=>?_)
 first|refine zzr fun K hK=>?_|refine zzt fun K hK=>?_
 simp [go_sem,za0,za2,za1]
 refine za5 (by simp [go_sem,za0,za2,za1]) rfl Try.call36 (fun R hR=>?_)
 simp [go_sem,za0,za2,za1]
 refine (is_any (h.ext hA0) hT s).mono ?_
 rintro e w1 ⟨rfl,hE1⟩
 refine ⟨_,rfl,hR _ _ ?_⟩
 clear hR R
 replace hA0:=hA0.next hE1
 simp [go_sem,za0,za2,za1]
 rw [hs]
 refine hK _ _ ?_;clear hK K
 refine zao (t:=false) (by simp [go_sem,za0,za2,za1]) rfl ?_
 refine zae ?_
 refine hK1 _ _ ?_
 have h1:=h.keep hA0
 have hbx:=h1.bx
 obtain ⟨k0,k1,k2,k3⟩:=h1.cells
 first|refine zzr fun K hK=>?_|refine zzt fun K hK=>?_
 simp [go_sem,za0,za2,za1, k1,hw]
 refine za7 (b:=b) (off:=1) [.int .i64 ((i:Int)+1)] (by simp [go_sem,k1,hw,za0]) rfl (by simp [go_sem,k1,hw,za0]) (by simp [go_sem,Value.cells,k1,hw,za0]) zaI hbx (by simp) (by simp [Value.oneCell']) (by decide) (fun w9 hS9 hB9=>?_)
 simp [zaD] at hB9
 simp [go_sem]
 refine hK _ _ ?_;clear hK K
 first|refine zzr fun K hK=>?_|refine zzt fun K hK=>?_
 simp [go_sem,za0,za2,za1]
 refine hK _ _ ?_;clear hK K
 refine zal ?_
 repeat (first|refine za4 ?_|refine za3 ?_)
 have hg:=(za6 hA0).trans (zaC hS9)
 refine ⟨trivial,?_,h.next hg (by simpa using hB9) hi,hg⟩
 simp [go_sem,zaw,zav]
set_option maxHeartbeats 1000000 in
theorem mustT_any {w:World} {b tb cap i:Nat} {la:Option Addr} {T:List Tok} {at' er:Int} (h:PS w b tb la cap T i at' er) (hT:T.length≤maxLen) (s:List UInt8) (hs:isT T er i s=true) (hi:i+1<T.length) :
  Calls Try.prog 27 #[.pointer (some ⟨b,0,none⟩),.string ⟨s.toArray⟩] w fun x w'=>x = .returned (.tuple #[])∧PS w' b tb la cap T (i+1) at' er∧w.grownBy w' (some b):=by
 refine za8 (args:=[.pointer (some ⟨b,0,none⟩),.string ⟨s.toArray⟩]) (rs:=[]) (n:=10) Try.func27 rfl rfl rfl (by kernel_rfl) ?_
 first|refine zzr fun K hK=>?_|refine zzt fun K hK=>?_
 simp [go_sem]
 refine za5 (by simp [go_sem]) rfl Try.call24 (fun R hR=>?_)
 simp [go_sem]
 refine (takeT_any h hT s hs hi).mono ?_
 rintro x w1 ⟨rfl,h1,hg1⟩
 refine ⟨_,rfl,hR _ _ ?_⟩
 clear hR R
 simp [go_sem]
 refine hK _ _ ?_;clear hK K
 refine zao (t:=false) (by simp [go_sem]) rfl ?_
 refine zae ?_
 refine ⟨trivial,?_,h1,hg1⟩
 simp [go_sem,zaw,zav]
set_option maxHeartbeats 1000000 in
theorem mustF_any {w:World} {b tb cap i:Nat} {la:Option Addr} {T:List Tok} {at':Int} (h:PS w b tb la cap T i at' 0) (hT:T.length≤maxLen) (s:List UInt8) (hs:isT T 0 i s=false) :
  Calls Try.prog 27 #[.pointer (some ⟨b,0,none⟩),.string ⟨s.toArray⟩] w fun x w'=>x = .returned (.tuple #[])∧PS w' b tb la cap T i (zai T i).p 5∧w.grownBy w' (some b):=by
 refine za8 (args:=[.pointer (some ⟨b,0,none⟩),.string ⟨s.toArray⟩]) (rs:=[]) (n:=10) Try.func27 rfl rfl rfl (by kernel_rfl) ?_
 first|refine zzr fun K hK=>?_|refine zzt fun K hK=>?_
 simp [go_sem]
 refine za5 (by simp [go_sem]) rfl Try.call24 (fun R hR=>?_)
 simp [go_sem]
 refine (takeF_any h hT s hs).mono ?_
 rintro x w1 ⟨rfl,hE1⟩
 refine ⟨_,rfl,hR _ _ ?_⟩
 clear hR R
 simp [go_sem]
 refine hK _ _ ?_;clear hK K
 refine zao (t:=true) (by simp [go_sem]) rfl ?_
 first|refine zzr fun K hK=>?_|refine zzt fun K hK=>?_
 simp [go_sem]
 refine za5 (by simp [go_sem]) rfl Try.call19 (fun R hR=>?_)
 simp [go_sem]
 refine (failG_any (h.keep hE1) hT 5).mono ?_
 rintro x w2 ⟨rfl,h2,hg2⟩
 refine ⟨_,rfl,hR _ _ ?_⟩
 clear hR R
 simp [go_sem]
 refine hK _ _ ?_;clear hK K
 refine ⟨trivial,?_,h2,(za6 hE1).trans hg2⟩
 simp [go_sem,zaw,zav]
set_option maxHeartbeats 1000000 in
theorem mustB_any {w:World} {b tb cap i:Nat} {la:Option Addr} {T:List Tok} {at' er:Int} (h:PS w b tb la cap T i at' er) (hT:T.length≤maxLen) (s:List UInt8) (h0:¬er=0) :
  Calls Try.prog 27 #[.pointer (some ⟨b,0,none⟩),.string ⟨s.toArray⟩] w fun x w'=>x = .returned (.tuple #[])∧Below w.heap.size w w':=by
 refine za8 (args:=[.pointer (some ⟨b,0,none⟩),.string ⟨s.toArray⟩]) (rs:=[]) (n:=10) Try.func27 rfl rfl rfl (by kernel_rfl) ?_
 first|refine zzr fun K hK=>?_|refine zzt fun K hK=>?_
 simp [go_sem]
 refine za5 (by simp [go_sem]) rfl Try.call24 (fun R hR=>?_)
 simp [go_sem]
 refine (takeF_any h hT s (by simp [isT,h0])).mono ?_
 rintro x w1 ⟨rfl,hE1⟩
 refine ⟨_,rfl,hR _ _ ?_⟩
 clear hR R
 simp [go_sem]
 refine hK _ _ ?_;clear hK K
 refine zao (t:=true) (by simp [go_sem]) rfl ?_
 first|refine zzr fun K hK=>?_|refine zzt fun K hK=>?_
 simp [go_sem]
 refine za5 (by simp [go_sem]) rfl Try.call19 (fun R hR=>?_)
 simp [go_sem]
 refine (failB_any (h.keep hE1) h0 5).mono ?_
 rintro x w2 ⟨rfl,hE2⟩
 refine ⟨_,rfl,hR _ _ ?_⟩
 clear hR R
 simp [go_sem]
 refine hK _ _ ?_;clear hK K
 refine ⟨trivial,?_,hE1.next hE2⟩
 simp [go_sem,zaw,zav]
end Go.Proofs.Ytefhenfofomjhaa
namespace Go.Proofs.Ytefhenfofomjhaa
open Go.RowKit Go.V
set_option maxRecDepth 20000
def zcv (c:Int):Int :=
 if c=32∨c=9∨c=13∨c=10 then 1
 else if (97≤c∧c≤122)∨(65≤c∧c≤90) then 2
 else if 48≤c∧c≤57 then 3
 else if c=40∨c=41∨c=44∨c=59∨c=47∨c=45 then 4
 else if c=58 then 5
 else if c=35 then 6
 else 0
def letB (c:Int):Bool:=decide (65≤c∧c≤90∨97≤c∧c≤122)
def digB (c:Int):Bool:=decide (48≤c∧c≤57)
theorem kind_letter (c:Int):decide (zcv c=2)=letB c:=by
 unfold zcv letB
 rw [decide_eq_decide]
 (repeat' split)<;>omega
theorem kind_digit (c:Int):decide (zcv c=3)=digB c:=by
 unfold zcv digB
 rw [decide_eq_decide]
 (repeat' split)<;>omega
theorem ret_int {k:IntKind} {a b:Int} (h:a=b):Ending.returned (.int k a) = .returned (.int k b):=by rw [h]
set_option maxHeartbeats 1000000 in
theorem kind_any (c:Int) (w:World) :
  Calls Try.prog 21 #[.int .u8 c] w fun e w'=>e = .returned (.int .i64 (zcv c))∧w=w':=by
 go_enter Try.func21,Try.ntmps21
 go_wp2
 all_goals go_ret
 all_goals (refine ⟨ret_int ?_,rfl⟩;(try simp only [beq_iff_eq,beq_eq_false_iff_ne,ne_eq] at *);unfold zcv;(repeat' split)<;>omega)
def goOn (L:Bool) (c:UInt8):Bool:=decide (zcv c.toNat=3) || (L && decide (zcv c.toNat=2))
def zdJ (L:Bool):List UInt8→Nat
 | []=>0
 | c::l=>if goOn L c=true then zdJ L l+1 else 0
theorem zcU (s:ByteArray) (k:Nat) (h:k<s.size):(bs s).drop k=zah s k::(bs s).drop (k+1):=by
 have h':k<(bs s).length:=by rw [zaR];exact h
 rw [List.drop_eq_getElem_cons h']
 simp only [zah,List.getD_eq_getElem?_getD,List.getElem?_eq_getElem h',Option.getD_some]
theorem drop_end (s:ByteArray) (k:Nat) (h:¬k<s.size):(bs s).drop k=[]:=by
 apply List.drop_eq_nil_of_le
 rw [zaR];omega
theorem endN_step (L:Bool) (s:ByteArray) (k:Nat):zdJ L ((bs s).drop k)=if (decide (k<s.size) && goOn L (zah s k))=true then zdJ L ((bs s).drop (k+1))+1 else 0:=by
 by_cases h:k<s.size
 ·rw [zcU s k h];simp [zdJ,h]
 ·rw [drop_end s k h];simp [zdJ,h]
theorem endN_le (L:Bool):∀ l:List UInt8,zdJ L l≤l.length
 | []=>by simp [zdJ]
 | c::l=>by have:=endN_le L l;unfold zdJ;split<;>simp<;>omega
theorem endN_all (L:Bool):∀ l:List UInt8,(zdJ L l=l.length)=(l.all (goOn L)=true)
 | []=>by simp [zdJ]
 | c::l=>by
  have ih:=endN_all L l
  have:=endN_le L l
  unfold zdJ
  by_cases h:goOn L c=true
  ·rw [if_pos h];simp [h,←ih]
  ·rw [if_neg h];simp [h]
set_option maxHeartbeats 1000000 in
theorem end_any (s:ByteArray) (n:Nat) (L:Bool) (w:World) (hs:s.size≤maxLen) (hn:n≤s.size) :
  Calls Try.prog 35 #[.string s,.int .i64 n,.bool L] w fun e w'=>e = .returned (.int .i64 ↑(n+zdJ L ((bs s).drop n)))∧w=w':=by
 unfold maxLen at hs
 refine za8 (args:=[.string s,.int .i64 n,.bool L]) (rs:=[.tmp 6]) (n:=31) Try.func35 rfl rfl rfl (by kernel_rfl) ?_
 first|refine zzr fun K hK=>?_|refine zzt fun K hK=>?_
 simp [go_sem]
 refine hK _ _ ?_;clear hK K
 refine zad (fun K1 hK1=>?_)
 refine zag ?_
 refine zaJ (fun m g w'=>w'=w∧∃ k:Nat,n≤k∧k≤s.size∧m=s.size-k∧g 0 = .string s∧g 1 = .int .i64 k∧g 2 = .bool L∧k+zdJ L ((bs s).drop k)=n+zdJ L ((bs s).drop n)) (s.size-n) ?_ ?_
 ·exact ⟨rfl,n,Nat.le_refl _,hn,rfl,rfl,rfl,rfl,rfl⟩
 ·rintro m g w' ⟨rfl,k,h1,h2,rfl,g0,g1,g2,hk⟩
  refine zad (fun K2 hK2=>?_)
  refine W_rtJ (fun g' w1=>w1=w'∧g' 0 = .string s∧g' 1 = .int .i64 k∧g' 2 = .bool L∧g' 27 = .bool (decide (k<s.size) && goOn L (zah s k))) (by kernel_rfl) ?_ ?_
  ·by_cases hlt:k<s.size
   ·simp [go_sem,g0,g1,g2,hlt]
    refine za5 (by simp [go_sem,hlt]) rfl Try.call21 (fun R hR=>?_)
    simp [go_sem,hlt]
    refine (kind_any _ _).mono ?_
    rintro e w1 ⟨rfl,rfl⟩
    refine ⟨_,rfl,hR _ _ ?_⟩
    clear hR R
    unfold goOn
    by_cases h3:zcv ↑(zah s k).toNat=3
    ·simp [go_sem,h3,g0,g1,g2]
    ·cases L with
     | false =>
      simp [go_sem,h3,g0,g1,g2]
     | true =>
      simp [go_sem,h3,g0,g1,g2,hlt]
      refine za5 (by simp [go_sem,h3,g2]) rfl Try.call21 (fun R hR=>?_)
      simp [go_sem,h3,g2]
      refine (kind_any _ _).mono ?_
      rintro e w1 ⟨rfl,rfl⟩
      refine ⟨_,rfl,hR _ _ ?_⟩
      clear hR R
      simp [go_sem,h3,g0,g1,g2,hlt]
   ·simp [go_sem,g0,g1,g2,hlt]
  ·rintro g' w1 ⟨rfl,g0,g1,g2,g27⟩
   refine zao g27 rfl ?_
   rw [endN_step] at hk
   cases hb:(decide (k<s.size) && goOn L (zah s k)) with
   | true =>
    rw [hb,if_pos rfl] at hk
    have hlt:k<s.size:=by simp at hb;exact hb.1
    refine zae (hK2 _ _ ?_);clear hK2 K2
    refine zag ?_
    refine zzt fun K hK=>?_
    simp [go_sem,g0,g1,g2]
    refine hK _ _ ⟨s.size-(k+1),by omega,rfl,k+1,by omega,by omega,rfl,?_,?_,?_,by omega⟩
    all_goals simp (disch:=omega) [go_sem,g0,g1,g2,IntWalk.i64_in]
   | false =>
    rw [hb,if_neg (by simp)] at hk
    refine zaB ?_
    repeat (first|refine zak ?_|refine za9 rfl ?_|refine zac ?_)
    refine hK1 _ _ ?_;clear hK1 K1 hK2 K2
    first|refine zzr fun K hK=>?_|refine zzt fun K hK=>?_
    simp [go_sem,g0,g1,g2]
    refine hK _ _ ?_;clear hK K
    refine zal ⟨trivial,?_,rfl⟩
    simp [go_sem,zaw,zav]
    omega
end Go.Proofs.Ytefhenfofomjhaa
