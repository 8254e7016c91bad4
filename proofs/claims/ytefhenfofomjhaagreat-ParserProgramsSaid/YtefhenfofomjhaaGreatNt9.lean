/- Natural numbers, ninth part: byLimb. -/
import Derived.Test.YtefhenfofomjhaaGreatVE
import Derived.Test.YtefhenfofomjhaaGreatTy
import Derived.Laws.Bits64
import Derived.Laws.BitsAllLaws
set_option linter.unusedSimpArgs false
set_option linter.unusedVariables false
set_option maxHeartbeats 1000000
set_option maxRecDepth 20000
namespace Go.Proofs.YtefhenfofomjhaaGreat
open Go.RowKit Go.V
def val:List Nat→Nat
 | []=>0
 | x::l=>x+65536*val l
def nrm:List Nat→List Nat
 | []=>[]
 | x::l=>if nrm l=[]∧x=0 then [] else x::nrm l
def lim (n:Nat):List Nat:=if h:n=0 then [] else n % 65536::lim (n / 65536)
termination_by n
decreasing_by omega
def Ok (l:List Nat):Prop:=∀ x∈l,x<65536
theorem Ok.nil:Ok []:=by intro x h;cases h
theorem Ok.cons {x:Nat} {l:List Nat} (hx:x<65536) (h:Ok l):Ok (x::l):=by
 intro y hy
 rcases List.mem_cons.1 hy with rfl|h'
 ·exact hx
 ·exact h y h'
theorem Ok.tail {x:Nat} {l:List Nat} (h:Ok (x::l)):Ok l:=fun y hy=>h y (List.mem_cons_of_mem _ hy)
theorem Ok.head {x:Nat} {l:List Nat} (h:Ok (x::l)):x<65536:=h x (List.mem_cons_self ..)
theorem Ok.app {a b:List Nat} (h:Ok a) (h':Ok b):Ok (a++b):=by
 intro x hx
 rcases List.mem_append.1 hx with hx|hx
 ·exact h x hx
 ·exact h' x hx
theorem Ok.take {l:List Nat} (h:Ok l) (n:Nat):Ok (l.take n):=fun x hx=>h x (List.mem_of_mem_take hx)
theorem Ok.drop {l:List Nat} (h:Ok l) (n:Nat):Ok (l.drop n):=fun x hx=>h x (List.mem_of_mem_drop hx)
theorem Ok.get {l:List Nat} (h:Ok l) {i x:Nat} (hx:l[i]? = some x):x<65536:=h x (List.mem_of_getElem? hx)
theorem Ok.getD {l:List Nat} (h:Ok l) (i:Nat):l.getD i 0<65536:=by
 rw [List.getD_eq_getElem?_getD]
 cases hx:l[i]? with
 | none=>simp
 | some x=>exact h.get hx
theorem Ok.zeros (n:Nat):Ok (List.replicate n 0):=by
 intro x hx
 rw [List.eq_of_mem_replicate hx];decide
theorem zap:lim 0=[]:=by rw [lim,dif_pos rfl]
theorem lim_pos (n:Nat) (h:n≠0):lim n=n % 65536::lim (n / 65536):=by rw [lim,dif_neg h]
theorem zdM (n:Nat):Ok (lim n):=by
 induction n using Nat.strongRecOn with
 | _ n ih =>
  by_cases h:n=0
  ·subst h;rw [zap];exact Ok.nil
  ·rw [lim_pos n h];exact Ok.cons (Nat.mod_lt _ (by decide)) (ih _ (by omega))
theorem zao (n:Nat):val (lim n)=n:=by
 induction n using Nat.strongRecOn with
 | _ n ih =>
  by_cases h:n=0
  ·subst h;rw [zap];rfl
  ·rw [lim_pos n h,val,ih _ (by omega)];omega
theorem zc4 (l:List Nat):val (nrm l)=val l:=by
 induction l with
 | nil=>rfl
 | cons x l ih =>
  unfold nrm
  split
  ·rename_i h
   rw [h.1] at ih
   simp only [val] at ih ⊢;omega
  ·simp only [val,ih]
theorem zdl (l:List Nat):nrm l=[]↔val l=0:=by
 induction l with
 | nil=>simp [nrm,val]
 | cons x l ih =>
  unfold nrm
  split
  ·rename_i h
   have:=ih.1 h.1
   simp [val,this,h.2]
  ·rename_i h
   simp only [val]
   constructor
   ·intro e;cases e
   ·intro e;exfalso;apply h;exact ⟨ih.2 (by omega),by omega⟩
theorem zaO (l:List Nat) (h:Ok l):lim (val l)=nrm l:=by
 induction l with
 | nil=>simp [val,zap,nrm]
 | cons x l ih =>
  have hx:=h.head
  have ih':=ih h.tail
  unfold nrm
  by_cases hz:val (x::l)=0
  ·have h1:val l=0:=by simp only [val] at hz;omega
   have h2:x=0:=by simp only [val] at hz;omega
   rw [hz,zap,if_pos ⟨(zdl l).2 h1,h2⟩]
  ·rw [lim_pos _ hz,if_neg]
   ·have e1:val (x::l) % 65536=x:=by simp only [val];omega
    have e2:val (x::l) / 65536=val l:=by simp only [val];omega
    rw [e1,e2,ih']
   ·rintro ⟨h1,h2⟩
    apply hz
    have:=(zdl l).1 h1
    simp only [val];omega
theorem nrm_ok (l:List Nat) (h:Ok l):Ok (nrm l):=by rw [←zaO l h];exact zdM _
theorem nrm_lim (n:Nat):nrm (lim n)=lim n:=by rw [←zaO _ (zdM n),zao]
theorem ze7 (a b:List Nat):val (a++b)=val a+65536 ^ a.length*val b:=by
 induction a with
 | nil=>simp [val]
 | cons x a ih =>
  simp only [List.cons_append,val,ih,List.length_cons,Nat.pow_succ]
  rw [Nat.mul_add,←Nat.mul_assoc,←Nat.add_assoc,Nat.mul_comm 65536 (65536 ^ a.length)]
theorem zck (l:List Nat) (h:Ok l):val l<65536 ^ l.length:=by
 induction l with
 | nil=>simp [val]
 | cons x l ih =>
  have:=ih h.tail
  have hx:=h.head
  simp only [val,List.length_cons,Nat.pow_succ]
  omega
theorem val_zeros (n:Nat):val (List.replicate n 0)=0:=by
 induction n with
 | zero=>rfl
 | succ n ih=>rw [List.replicate_succ,val,ih]
theorem nrm_snoc0 (l:List Nat):nrm (l++[0])=nrm l:=by
 induction l with
 | nil=>rfl
 | cons x l ih=>rw [List.cons_append,nrm,nrm,ih]
theorem nrm_snoc (l:List Nat) (x:Nat) (h:x≠0):nrm (l++[x])=l++[x]:=by
 induction l with
 | nil=>simp [nrm,h]
 | cons y l ih =>
  rw [List.cons_append,nrm,ih,if_neg (by simp)]
theorem nrm_pre (l:List Nat):nrm l=l.take (nrm l).length:=by
 induction l with
 | nil=>rfl
 | cons x l ih =>
  unfold nrm
  split
  ·simp
  ·rw [List.length_cons,List.take_succ_cons,←ih]
theorem zb8 (l:List Nat):(nrm l).length≤l.length:=by
 have:=congrArg List.length (nrm_pre l)
 rw [List.length_take] at this;omega
theorem nrm_top (l:List Nat) (k:Nat) (h:(nrm l).length=k+1):(nrm l).getD k 0≠0:=by
 induction l generalizing k with
 | nil=>simp [nrm] at h
 | cons x l ih =>
  unfold nrm at h ⊢
  by_cases hz:nrm l=[]∧x=0
  ·rw [if_pos hz] at h;simp at h
  ·rw [if_neg hz] at h ⊢
   cases k with
   | zero =>
    simp only [List.length_cons] at h
    have:nrm l=[]:=List.length_eq_zero_iff.1 (by omega)
    simp only [List.getD_cons_zero]
    intro e;exact hz ⟨this,e⟩
   | succ k =>
    rw [List.getD_cons_succ]
    exact ih k (by simpa using h)
theorem val_len (l:List Nat) (h:Ok l) (k:Nat) (hk:(nrm l).length=k+1):65536 ^ k≤val l:=by
 have h1:=nrm_top l k hk
 rw [←zc4 l]
 have e:nrm l=(nrm l).take k++[(nrm l).getD k 0]:=by
  have h2:k<(nrm l).length:=by omega
  conv=>lhs;rw [←List.take_append_drop k (nrm l)]
  congr 1
  rw [List.drop_eq_getElem_cons h2,List.getD_eq_getElem?_getD,List.getElem?_eq_getElem h2,Option.getD_some]
  rw [List.drop_eq_nil_of_le (by omega)]
 rw [e,ze7,List.length_take]
 have:min k (nrm l).length=k:=by omega
 rw [this]
 simp only [val,Nat.mul_zero,Nat.add_zero]
 have:65536 ^ k*1≤65536 ^ k*(nrm l).getD k 0:=Nat.mul_le_mul_left _ (by omega)
 omega
def lmC (l:List Nat):List Value:=l.map (fun (x:Nat)=>.int .u16 x)
theorem zb3 (l:List Nat):(lmC l).length=l.length:=by simp [lmC]
theorem lmC_get (l:List Nat) (i:Nat):(lmC l)[i]? = (l[i]?).map (fun (x:Nat)=>Value.int .u16 x):=by simp [lmC]
theorem lmC_app (a b:List Nat):lmC (a++b)=lmC a++lmC b:=by simp [lmC]
theorem lmC_take (a:List Nat) (n:Nat):lmC (a.take n)=(lmC a).take n:=by simp [lmC,List.map_take]
theorem lmC_drop (a:List Nat) (n:Nat):lmC (a.drop n)=(lmC a).drop n:=by simp [lmC,List.map_drop]
theorem lmC_one (l:List Nat):∀ v∈lmC l,v.oneCell'=true:=by
 intro v hv
 simp only [lmC,List.mem_map] at hv
 obtain ⟨x,_,rfl⟩:=hv
 rfl
structure RD (w:World) (a:Option Addr) (c:Nat) (l:List Nat):Prop where
 sl:SL w a (lmC l)
 ok:Ok l
 cap:l.length≤c
theorem RD.ext {w w':World} {a:Option Addr} {c:Nat} {l:List Nat} (h:RD w a c l) (hb:Below w.heap.size w w'):RD w' a c l:=⟨h.sl.ext hb,h.ok,h.cap⟩
theorem RD.take {w:World} {a:Option Addr} {c:Nat} {l:List Nat} (h:RD w a c l) (n:Nat):RD w a c (l.take n):=⟨by rw [lmC_take];exact h.sl.take n,h.ok.take n,by have:=h.cap;rw [List.length_take];omega⟩
theorem RD.nrm {w:World} {a:Option Addr} {c:Nat} {l:List Nat} (h:RD w a c l):RD w a c (nrm l):=by rw [nrm_pre];exact h.take _
theorem RD.nil (w:World) (a:Option Addr) (c:Nat):RD w a c []:=⟨SL.nil _ _,Ok.nil,Nat.zero_le _⟩
theorem RD.get {w:World} {a:Option Addr} {c:Nat} {l:List Nat} (h:RD w a c l) {i:Nat} (hi:i<l.length):w.cell? ((a.getD default).add i)=some (.int .u16 (l.getD i 0))∧a.isSome=true:=by
 have h1:=h.sl.get (j:=i) (by rw [zb3];exact hi)
 have e:(lmC l)[i]'(by rw [zb3];exact hi) = .int .u16 (l.getD i 0):=by
  simp [lmC,List.getD_eq_getElem?_getD,List.getElem?_eq_getElem hi]
 rw [e] at h1;exact h1
theorem RD.sto {w w':World} {a:Option Addr} {c:Nat} {l:List Nat} {b:Nat} (h:RD w a c l) (hs:Sto w w' b) (hne:∀ ad,a=some ad→l≠[]→ad.block≠b):RD w' a c l :=
 ⟨h.sl.sto hs (fun ad ha hn=>hne ad ha (by intro e;subst e;exact hn rfl)),h.ok,h.cap⟩
theorem RD.below {w:World} {a:Option Addr} {c:Nat} {l:List Nat} (h:RD w a c l) {b:Nat} (hb:w.heap.size≤b):∀ ad,a=some ad→l≠[]→ad.block≠b:=by
 intro ad ha hn
 obtain ⟨b',off,e,hlt⟩:=h.sl.lt (by intro e;exact hn (List.map_eq_nil_iff.1 e))
 rw [ha] at e;injection e with e;subst e
 show b'≠b
 omega
def lat (l:List Nat) (i:Nat):Nat:=l.getD i 0
theorem zb9 {l:List Nat} (h:Ok l) (i:Nat):lat l i<65536:=h.getD i
theorem ze8 {l:List Nat} {i:Nat} (h:l.length≤i):lat l i=0:=by
 unfold lat;rw [List.getD_eq_getElem?_getD,List.getElem?_eq_none h];rfl
theorem RD.at {w:World} {a:Option Addr} {c:Nat} {l:List Nat} (h:RD w a c l) {i:Nat} (hi:i<l.length):w.cell? ((a.getD default).add i)=some (.int .u16 (lat l i))∧a.isSome=true:=h.get hi
theorem take_lat {l:List Nat} {j:Nat} (h:j<l.length):l.take (j+1)=l.take j++[lat l j]:=by
 rw [List.take_succ_eq_append_getElem h]
 simp [lat,List.getD_eq_getElem?_getD,List.getElem?_eq_getElem h]
theorem drop_lat {l:List Nat} {j:Nat} (h:j<l.length):l.drop j=lat l j::l.drop (j+1):=by
 rw [List.drop_eq_getElem_cons h]
 simp [lat,List.getD_eq_getElem?_getD,List.getElem?_eq_getElem h]
theorem add0 (a:Option Addr):a.map (·.add 0)=a:=by
 cases a with
 | none=>rfl
 | some a=>cases a;simp [Addr.add]
abbrev zbZ:Nat:=1000000000000
theorem trim_big (l:List Nat) (a:Option Addr) (c:Nat) (w:World) (hr:RD w a c l) (hl:l.length≤9223372036854775807) :
  Calls Tryz.prog 108 #[.slice a l.length c] w fun e w'=>e = .returned (.slice a (nrm l).length c)∧w=w':=by
 have hcap:=hr.cap
 have hl':l.length≤9223372036854775807:=hl
 refine za5 (rs:=[.tmp 2]) (n:=21) Tryz.func108 rfl rfl rfl (by kernel_rfl) ?_
 refine zzr fun K hK=>?_
 simp [go_sem]
 apply hK;clear hK K
 refine zzr fun K hK=>?_
 simp [go_sem]
 apply hK;clear hK K
 refine zab (fun K1 hK1=>?_)
 refine zac ?_
 refine zaz (fun m g w'=>w'=w∧∃ k:Nat,k≤l.length∧m=k∧g 0 = .slice a l.length c∧g 3 = .int .i64 k∧nrm l=nrm (l.take k)) l.length ?_ ?_
 ·exact ⟨rfl,l.length,Nat.le_refl _,rfl,rfl,rfl,by rw [List.take_length]⟩
 ·rintro m g w' ⟨rfl,k,hk,rfl,g0,g3,hN⟩
  refine zab (fun K2 hK2=>?_)
  rcases m with _|j
  ·refine zzr fun K hK=>?_
   simp [go_sem,g0,g3]
   apply hK;clear hK K
   refine zaf (by simp [go_sem];rfl) rfl ?_
   refine zav ?_
   repeat (first|refine zae ?_|refine za6 rfl ?_|refine za8 ?_)
   apply hK1;clear hK1 K1 hK2 K2
   have e0:nrm l=[]:=by rw [hN];rfl
   refine zzr fun K hK=>?_
   simp [go_sem,g0,g3,add0]
   apply hK;clear hK K
   refine zad ?_
   repeat first|refine za3 ?_|refine za2 ?_
   refine ⟨trivial,?_,rfl⟩
   simp [go_sem,zar,zam,e0]
  ·have hj:j<l.length:=by omega
   obtain ⟨c1,c2⟩:=hr.at hj
   have hw1:IntKind.i64.wrap (((j+1:Nat):Int)-1)=(j:Int):=by rw [IntWalk.i64_in _ (by omega)];omega
   have p1:(0:Int)<((j+1:Nat):Int):=by omega
   have p2:(j:Int)<l.length:=by omega
   rw [take_lat hj] at hN
   generalize hjk:((j+1:Nat):Int)=jk at *
   by_cases h0:lat l j=0
   ·have h0':(lat l j:Int)=0:=by omega
    rw [h0,nrm_snoc0] at hN
    refine zzr fun K hK=>?_
    simp [go_sem,g0,g3,hw1,p1,p2,hj,c1,c2,h0,h0']
    apply hK;clear hK K
    refine zaf (by simp [go_sem,h0,h0'];rfl) rfl ?_
    refine za7 ?_
    apply hK2;clear hK2 K2
    refine zac ?_
    refine zzt fun K hK=>?_
    simp [go_sem,g3,hw1]
    refine hK _ _ ⟨j,by omega,rfl,j,by omega,rfl,by simp [go_sem,g0],by simp [go_sem],hN⟩
   ·have h0':¬(lat l j:Int)=0:=by omega
    rw [nrm_snoc _ _ h0,←take_lat hj] at hN
    have hlen:(nrm l).length=j+1:=by rw [hN,List.length_take];omega
    refine zzr fun K hK=>?_
    simp [go_sem,g0,g3,hw1,p1,p2,hj,c1,c2,h0,h0']
    apply hK;clear hK K
    refine zaf (by simp [go_sem,h0,h0'];rfl) rfl ?_
    refine zav ?_
    repeat (first|refine zae ?_|refine za6 rfl ?_|refine za8 ?_)
    apply hK1;clear hK1 K1 hK2 K2
    have q1:(0:Int)≤jk:=by omega
    have q2:jk≤c:=by omega
    have q3:jk.toNat=j+1:=by omega
    refine zzr fun K hK=>?_
    simp [go_sem,g0,g3,add0,q1,q2,q3]
    apply hK;clear hK K
    refine zad ?_
    repeat first|refine za3 ?_|refine za2 ?_
    refine ⟨trivial,?_,rfl⟩
    simp [go_sem,zar,zam,hlen]
theorem zb6 (l:List Nat) (a:Option Addr) (c:Nat) (w:World) (hr:RD w a c l) (hl:l.length≤zbZ) :
  Calls Tryz.prog 108 #[.slice a l.length c] w fun e w'=>e = .returned (.slice a (nrm l).length c)∧w=w' :=
 trim_big l a c w hr (Nat.le_trans hl (by decide))
theorem own_keep {w w':World} {B e size n:Nat} {v:Value} {xs:List Value} (h:w.ownsRow B e size v n xs) (hb:Below w.heap.size w w'):w'.ownsRow B e size v n xs:=by
 refine ⟨h.1,?_⟩
 rcases h.2 with hn|⟨g,cap,cur,hv,hg,hh,r⟩
 ·exact .inl hn
 ·exact .inr ⟨g,cap,cur,hv,hg,by rw [hb.block g (Array.getElem?_eq_some_iff.1 hh).1];exact hh,r⟩
def RetN (w:World) (l:List Nat) (e:Ending) (w':World):Prop:=∃ a c,e = .returned (.slice a l.length c)∧RD w' a c l∧Below w.heap.size w w'
theorem RD.news {w:World} {a:Addr} {c:Nat} {l:List Nat} (h:RD w (some a) c l):∀ j u,(lmC l)[j]? = some u→w.cell? (a.add j)=some u:=by
 intro j u hu
 have hj:j<l.length:=by
  have:=(List.getElem?_eq_some_iff.1 hu).1
  rwa [zb3] at this
 have h1:=(h.get hj).1
 rw [lmC_get,List.getElem?_eq_getElem hj] at hu
 simp only [Option.map_some,Option.some.injEq] at hu
 subst hu
 simpa [List.getD_eq_getElem?_getD,List.getElem?_eq_getElem hj] using h1
theorem RD.of_bx {w:World} {b:Nat} {t:TypeId} {l:List Nat} {r:List Value} {c:Nat} (h:Bx w b (lmC l++r).toArray t) (hok:Ok l) (hc:l.length≤c):RD w (some ⟨b,0,none⟩) c l:=by
 refine ⟨SL.of_bx h 0 (fun j v hv=>?_),hok,hc⟩
 have hj:=(List.getElem?_eq_some_iff.1 hv).1
 simp only [Nat.zero_add,List.getElem?_toArray]
 rw [List.getElem?_append_left hj];exact hv
theorem RD.of_own {w:World} {B n:Nat} {e:TypeId} {v:Value} {l:List Nat} (h:w.ownsRow B e 1 v n (lmC l)) (hok:Ok l):∃ a c,v = .slice a l.length c∧RD w a c l:=by
 have hn:n=l.length:=by have:=h.1;rw [zb3] at this;omega
 rcases h.2 with ⟨h1,h2⟩|⟨g,cap,cur,hv,hb,hg,hle,_⟩
 ·have e:l=[]:=List.length_eq_zero_iff.1 (by omega)
  subst e
  exact ⟨none,0,h1,RD.nil _ _ _⟩
 ·subst hv
  subst hn
  exact ⟨_,_,rfl,zca h,hok,hle⟩
theorem norm_any (l:List Nat) (a:Option Addr) (c:Nat) (w:World) (hr:RD w a c l) (hl:l.length≤zbZ) :
  Calls Tryz.prog 94 #[.slice a l.length c] w (RetN w (nrm l)):=by
 have hl':l.length≤1000000000000:=hl
 have hn:=zb8 l
 refine za5 (rs:=[.tmp 2]) (n:=16) Tryz.func94 rfl rfl rfl (by kernel_rfl) ?_
 refine zzr fun K hK=>?_
 simp [go_sem]
 apply hK;clear hK K
 refine zzr fun K hK=>?_
 simp [go_sem]
 refine zzc rfl Tryz.call108 (fun R hR=>?_)
 simp [go_sem]
 refine (zb6 l a c _ hr hl).mono ?_
 rintro e w1 ⟨rfl,rfl⟩
 refine ⟨_,rfl,hR _ _ ?_⟩
 clear hR R
 simp [go_sem]
 apply hK;clear hK K
 have hr2:=hr.nrm
 have hok:=nrm_ok l hr.ok
 generalize nrm l=m at *
 refine zab (fun K1 hK1=>?_)
 refine zzr fun K hK=>?_
 simp [go_sem]
 apply hK;clear hK K
 by_cases h0:m.length=0
 ·have h0':(m.length:Int)=0:=by omega
  have e0:m=[]:=List.length_eq_zero_iff.1 h0
  subst e0
  refine zaf (by simp [go_sem];rfl) rfl ?_
  refine zzr fun K hK=>?_
  simp [go_sem]
  apply hK;clear hK K
  refine zad ?_
  repeat first|refine za3 ?_|refine za2 ?_
  refine ⟨trivial,none,0,?_,RD.nil _ _ _,Below.refl _ _⟩
  simp [go_sem,zar,zam]
 ·have h0':¬(m.length:Int)=0:=by omega
  have h0'':¬m=[]:=by intro e;subst e;exact h0 rfl
  refine zaf (by simp [go_sem,h0,h0',h0''];rfl) rfl ?_
  refine za7 ?_
  apply hK1;clear hK1 K1
  refine zzr fun K hK=>?_
  simp [go_sem]
  refine hv_make (kl:=.i64) (kc:=.i64) m.length m.length (by simp [go_sem]) rfl zaT zaK (by simp [go_sem]) (by simp [go_sem]) (Nat.le_refl _) (by omega) (by omega) (fun w2 b2 hE2 hle2 hB2=>?_)
  rw [Nat.mul_one,zbH] at hB2
  simp [go_sem]
  apply hK;clear hK K
  have hr3:=hr2.ext hE2
  obtain ⟨ad,rfl⟩:∃ ad,a=some ad:=by
   have:=(hr3.get (i:=0) (by omega)).2
   exact Option.isSome_iff_exists.1 this
  refine zzr fun K hK=>?_
  simp [go_sem]
  refine hv_copy (b:=b2) (dl:=m.length) (dc:=m.length) (a:=ad) (sl:=m.length) (sc:=c) (lmC m) (by simp [go_sem]) rfl Tryz.underlying22 zbc (by simp [go_sem]) (by simp [go_sem]) hB2 (by rw [zb3];simp) hr3.news (by rw [zb3];simp) (lmC_one _) (by decide) (fun w3 hS3 hB3=>?_)
  simp [go_sem]
  apply hK;clear hK K
  refine zzr fun K hK=>?_
  simp [go_sem]
  apply hK;clear hK K
  refine zad ?_
  repeat first|refine za3 ?_|refine za2 ?_
  refine ⟨trivial,some ⟨b2,0,none⟩,m.length,?_,RD.of_bx hB3 hok (Nat.le_refl _),hE2.nextS hS3 hle2⟩
  simp [go_sem,zar,zam]
theorem zc7 (l:List Nat) (a:Option Addr) (c:Nat) (w:World) (hr:RD w a c l) (hl:l.length≤zbZ) :
  Calls Tryz.prog 121 #[.slice a l.length c] w (RetN w (nrm l)):=by
 have hcap:=hr.cap
 have hl':l.length≤1000000000000:=hl
 have hn:=zb8 l
 have hr2:=hr.nrm
 have hok:=nrm_ok l hr.ok
 refine za5 (rs:=[.tmp 2]) (n:=24) Tryz.func121 rfl rfl rfl (by kernel_rfl) ?_
 refine zzr fun K hK=>?_
 simp [go_sem]
 apply hK;clear hK K
 refine zzr fun K hK=>?_
 simp [go_sem]
 apply hK;clear hK K
 refine zab (fun K1 hK1=>?_)
 have fin:∀ (g:G),g 0 = .slice a l.length c→g 3 = .int .i64 (nrm l).length→K1 g w:=by
  intro g g0 g3
  apply hK1;clear hK1 K1
  have q2:((nrm l).length:Int)≤c:=by omega
  refine zzr fun K hK=>?_
  simp [go_sem]
  apply hK;clear hK K
  refine zzr fun K hK=>?_
  simp [go_sem,g0,g3,q2,add0]
  by_cases h0:(nrm l).length=0
  ·refine hv_append0 (a:=a) (c:=c) (by simp [go_sem]) rfl zaT (by simp [go_sem]) (by simp [go_sem,h0]) ?_
   simp [go_sem]
   apply hK;clear hK K
   refine zad ?_
   repeat first|refine za3 ?_|refine za2 ?_
   have e0:nrm l=[]:=List.length_eq_zero_iff.1 h0
   refine ⟨trivial,none,0,?_,by rw [e0];exact RD.nil _ _ _,Below.refl _ _⟩
   simp [go_sem,zar,zam,e0]
  ·obtain ⟨ad,rfl⟩:∃ ad,a=some ad:=by
    have:=(hr2.get (i:=0) (by omega)).2
    exact Option.isSome_iff_exists.1 this
   refine hv_append (v:=.slice none 0 0) (B:=w.heap.size) (xs:=[]) (m:=0) (a:=ad) (len:=(nrm l).length) (c:=c) (lmC (nrm l)) (by simp [go_sem]) rfl zaT zaK rfl (by decide) (by simp [go_sem]) (by simp [go_sem]) (World.ownsRow_nil _ _ _ _) (by rw [zb3,Nat.mul_one]) hr2.news (lmC_one _) (by unfold maxLen;omega) (by omega) (Nat.le_refl _) (by decide) (fun v' w1 hown hg _=>?_)
   obtain ⟨a',c',rfl,hr3⟩:=RD.of_own (l:=nrm l) hown hok
   simp [go_sem]
   apply hK;clear hK K
   refine zad ?_
   repeat first|refine za3 ?_|refine za2 ?_
   refine ⟨trivial,a',c',?_,hr3,(Below.refl _ _).nextG hg (fun k hk=>by cases hk)⟩
   simp [go_sem,zar,zam]
 refine zac ?_
 refine zaz (fun m g w'=>w'=w∧∃ k:Nat,k≤l.length∧m=k∧g 0 = .slice a l.length c∧g 3 = .int .i64 k∧nrm l=nrm (l.take k)) l.length ?_ ?_
 ·exact ⟨rfl,l.length,Nat.le_refl _,rfl,rfl,rfl,by rw [List.take_length]⟩
 ·rintro m g w' ⟨rfl,k,hk,rfl,g0,g3,hN⟩
  refine zab (fun K2 hK2=>?_)
  rcases m with _|j
  ·refine zzr fun K hK=>?_
   simp [go_sem,g0,g3]
   apply hK;clear hK K
   refine zaf (by simp [go_sem];rfl) rfl ?_
   refine zav ?_
   repeat (first|refine zae ?_|refine za6 rfl ?_|refine za8 ?_)
   have e0:nrm l=[]:=by rw [hN];rfl
   exact fin _ (by simp [go_sem,g0]) (by simp [go_sem,g3,e0])
  ·have hj:j<l.length:=by omega
   obtain ⟨c1,c2⟩:=hr.at hj
   have hw1:IntKind.i64.wrap (((j+1:Nat):Int)-1)=(j:Int):=by rw [IntWalk.i64_in _ (by omega)];omega
   have p1:(0:Int)<((j+1:Nat):Int):=by omega
   have p2:(j:Int)<l.length:=by omega
   rw [take_lat hj] at hN
   generalize hjk:((j+1:Nat):Int)=jk at *
   by_cases h0:lat l j=0
   ·have h0':(lat l j:Int)=0:=by omega
    rw [h0,nrm_snoc0] at hN
    refine zzr fun K hK=>?_
    simp [go_sem,g0,g3,hw1,p1,p2,hj,c1,c2,h0,h0']
    apply hK;clear hK K
    refine zaf (by simp [go_sem,h0,h0'];rfl) rfl ?_
    refine za7 ?_
    apply hK2;clear hK2 K2
    refine zac ?_
    refine zzt fun K hK=>?_
    simp [go_sem,g3,hw1]
    refine hK _ _ ⟨j,by omega,rfl,j,by omega,rfl,by simp [go_sem,g0],by simp [go_sem],hN⟩
   ·have h0':¬(lat l j:Int)=0:=by omega
    rw [nrm_snoc _ _ h0,←take_lat hj] at hN
    have hlen:(nrm l).length=j+1:=by rw [hN,List.length_take];omega
    refine zzr fun K hK=>?_
    simp [go_sem,g0,g3,hw1,p1,p2,hj,c1,c2,h0,h0']
    apply hK;clear hK K
    refine zaf (by simp [go_sem,h0,h0'];rfl) rfl ?_
    refine zav ?_
    repeat (first|refine zae ?_|refine za6 rfl ?_|refine za8 ?_)
    exact fin _ (by simp [go_sem,g0]) (by simp [go_sem,g3,hlen];omega)
theorem w16 (n:Nat):IntKind.u16.wrap (n:Int)=((n % 65536:Nat):Int):=by rw [IntKind.wrap_u16];omega
theorem zeq (n:Int) (h:0≤n∧n<65536):IntKind.u16.wrap n=n:=by rw [IntKind.wrap_u16];omega
theorem w8_in (n:Int) (h:0≤n∧n<256):IntKind.u8.wrap n=n:=by rw [IntKind.wrap_u8];omega
theorem zbJ (n:Int) (h:0≤n∧n<4294967296):IntKind.u32.wrap n=n:=by rw [IntKind.wrap_u32];omega
theorem i32_in (n:Int) (h:-2147483648≤n∧n<2147483648):IntKind.i32.wrap n=n:=by rw [IntKind.wrap_i32];omega
theorem zbd (n:Int) (h:0≤n∧n<18446744073709551616):IntKind.u64.wrap n=n:=by rw [IntKind.wrap_u64];omega
theorem shr_nat (k:IntKind) (a s:Nat) (h:s≤k.bits):shrI k a s=((a / 2 ^ s:Nat):Int):=by
 unfold shrI
 rw [Int.toNat_natCast,Nat.min_eq_left h,Int.fdiv_eq_ediv_of_nonneg _ (by exact Int.le_of_lt (Int.pow_pos (by decide)))]
 simp
theorem shl_nat (k:IntKind) (a s:Nat) (h:s≤k.bits):shlI k a s=k.wrap ((a*2 ^ s:Nat):Int):=by
 unfold shlI
 rw [Int.toNat_natCast,Nat.min_eq_left h]
 congr 1
theorem or_u64 (a b:Nat) (ha:a<18446744073709551616) (hb:b<18446744073709551616):orI .u64 a b=((a ||| b:Nat):Int):=by
 unfold orI
 have e:IntKind.u64.bits=64:=rfl
 have e1:(BitVec.ofInt IntKind.u64.bits (a:Int) ||| BitVec.ofInt IntKind.u64.bits (b:Int)).toNat=a ||| b:=by
  rw [e,BitVec.toNat_or,BitVec.ofInt_natCast,BitVec.ofInt_natCast,BitVec.toNat_ofNat,BitVec.toNat_ofNat,Nat.mod_eq_of_lt (by omega),Nat.mod_eq_of_lt (by omega)]
 rw [e1]
 have:a ||| b<2 ^ 64:=Nat.or_lt_two_pow (by omega) (by omega)
 exact zbd _ ⟨by omega,by omega⟩
theorem or_add (a b s:Nat) (h:a<2 ^ s):a ||| (b*2 ^ s)=a+b*2 ^ s:=by
 rw [Nat.or_comm,←Nat.shiftLeft_eq,←Nat.shiftLeft_add_eq_or_of_lt h];omega
theorem pow_16 (i:Nat):65536 ^ i=2 ^ (16*i):=by rw [Nat.pow_mul]
theorem val_take (l:List Nat) (i:Nat) (h:i<l.length):val (l.take (i+1))=val (l.take i)+65536 ^ i*lat l i:=by
 rw [take_lat h,ze7,List.length_take]
 have:min i l.length=i:=by omega
 rw [this];simp [val]
theorem val_drop (l:List Nat) (i:Nat) (h:i<l.length):val (l.drop i)=lat l i+65536*val (l.drop (i+1)):=by
 rw [drop_lat h,val]
theorem zbx:∀ (k n:Nat),n<65536 ^ k→(lim n).length≤k
 | 0,n,h=>by
  have:n=0:=by simpa using h
  subst this;rw [zap];exact Nat.le_refl _
 | k+1,n,h=>by
  by_cases h0:n=0
  ·subst h0;rw [zap];exact Nat.zero_le _
  ·rw [lim_pos n h0,List.length_cons]
   rw [Nat.pow_succ] at h
   have:=zbx k (n / 65536) (by omega)
   omega
theorem RD.len {w:World} {a:Option Addr} {c:Nat} {l:List Nat} (h:RD w a c l) {i:Nat} (hi:i<l.length):a.isSome=true:=(h.get hi).2
theorem lmC_snoc (l:List Nat) (x:Nat):lmC (l++[x])=lmC l++[.int .u16 x]:=by simp [lmC]
theorem of_any (n:Nat) (w:World) (hn:n<18446744073709551616) :
  Calls Tryz.prog 112 #[.int .u64 n] w (RetN w (lim n)):=by
 have hlim:=zbx 4 n (by simpa using hn)
 refine za5 (rs:=[.tmp 2]) (n:=14) Tryz.func112 rfl rfl rfl (by kernel_rfl) ?_
 refine zzr fun K hK=>?_
 simp [go_sem]
 apply hK;clear hK K
 refine zzr fun K hK=>?_
 simp [go_sem]
 apply hK;clear hK K
 refine zab (fun K1 hK1=>?_)
 refine zac ?_
 refine zaz (fun m g w'=>Below w.heap.size w w'∧∃ (v:Value) (acc:List Nat),m≤n∧g 0 = .int .u64 m∧g 3=v∧w'.ownsRow w.heap.size 123 1 v acc.length (lmC acc)∧Ok acc∧acc++lim m=lim n) n ?_ ?_
 ·exact ⟨Below.refl _ _,.slice none 0 0,[],Nat.le_refl _,rfl,rfl,World.ownsRow_nil _ _ _ _,Ok.nil,rfl⟩
 ·rintro m g w' ⟨hE,v,acc,hm,g0,g3,hown,hok,hacc⟩
  refine zab (fun K2 hK2=>?_)
  have hal:acc.length≤4:=by have:=congrArg List.length hacc;rw [List.length_append] at this;omega
  by_cases h0:m=0
  ·subst h0
   refine zzr fun K hK=>?_
   simp [go_sem,g0]
   apply hK;clear hK K
   refine zaf (by simp [go_sem];rfl) rfl ?_
   refine zav ?_
   repeat (first|refine zae ?_|refine za6 rfl ?_|refine za8 ?_)
   apply hK1;clear hK1 K1 hK2 K2
   rw [zap,List.append_nil] at hacc
   subst hacc
   obtain ⟨a,c,rfl,hr⟩:=RD.of_own hown hok
   refine zzr fun K hK=>?_
   simp [go_sem,g3]
   apply hK;clear hK K
   refine zad ?_
   repeat first|refine za3 ?_|refine za2 ?_
   refine ⟨trivial,a,c,?_,hr,hE⟩
   simp [go_sem,zar,zam]
  ·have h0':(0:Int)<m:=by omega
   have h0'':0<m:=by omega
   have hw:=w16 m
   have hs:shrI .u64 (m:Int) 16=((m / 65536:Nat):Int):=shr_nat .u64 m 16 (by decide)
   refine zzr fun K hK=>?_
   simp [go_sem,g0,h0',h0'']
   apply hK;clear hK K
   refine zaf (by simp [go_sem,h0',h0''];rfl) rfl ?_
   refine za7 ?_
   apply hK2;clear hK2 K2
   refine zab (fun K2 hK2=>?_)
   refine zac ?_
   generalize hx:m % 65536=x at *
   have hx':x<65536:=by omega
   refine zzt fun K hK=>?_
   simp [go_sem,g0,g3,hw]
   refine zak #[.int .u16 x] (by simp [go_sem,hw]) rfl zaT (by decide) [(0,.int .u16 x)] (by simp [go_sem,hw]) (by kernel_rfl) (fun w8 b8 hE8 hle8 hB8=>?_)
   have hown8:w8.ownsRow w.heap.size 123 1 v acc.length (lmC acc):=own_keep hown hE8
   replace hE:=hE.next hE8
   simp [go_sem]
   refine zbv (v:=v) (b:=b8) (len:=1) (c:=1) hB8 (by simp [go_sem]) rfl zaT zaK rfl (by decide) (by simp [go_sem,g3]) (by simp [go_sem]) hown8 rfl (by simp [Value.oneCell']) (by unfold maxLen;omega) (by omega) hE.size (by decide) (fun v' w9 hown9 hg9 _=>?_)
   replace hE:=hE.nextG hg9 (fun b e=>(hown8.lt b e).1)
   simp [go_sem]
   apply hK;clear hK K
   apply hK2;clear hK2 K2
   generalize hy:m / 65536=y at *
   refine zzt fun K hK=>?_
   simp [go_sem,g0,hs]
   refine hK _ _ ⟨y,by omega,hE,v',acc++[x],by omega,by simp [go_sem],by simp [go_sem],?_,hok.app (Ok.cons hx' Ok.nil),?_⟩
   ·rw [lmC_snoc,List.length_append];exact hown9
   ·rw [←hacc,lim_pos m h0,hx,hy];simp
theorem ofR_any (n:Nat) (w:World) (hn:n<18446744073709551616) :
  Calls Tryz.prog 119 #[.int .u64 n] w (RetN w (lim n)):=by
 have hlim:=zbx 4 n (by simpa using hn)
 refine za5 (rs:=[.tmp 2]) (n:=15) Tryz.func119 rfl rfl rfl (by kernel_rfl) ?_
 refine zzr fun K hK=>?_
 simp [go_sem]
 apply hK;clear hK K
 refine zzr fun K hK=>?_
 simp [go_sem]
 apply hK;clear hK K
 refine zab (fun K1 hK1=>?_)
 refine zac ?_
 refine zaz (fun m g w'=>Below w.heap.size w w'∧∃ (v:Value) (acc:List Nat),m≤n∧g 0 = .int .u64 m∧g 3=v∧w'.ownsRow w.heap.size 123 1 v acc.length (lmC acc)∧Ok acc∧acc++lim m=lim n) n ?_ ?_
 ·exact ⟨Below.refl _ _,.slice none 0 0,[],Nat.le_refl _,rfl,rfl,World.ownsRow_nil _ _ _ _,Ok.nil,rfl⟩
 ·rintro m g w' ⟨hE,v,acc,hm,g0,g3,hown,hok,hacc⟩
  refine zab (fun K2 hK2=>?_)
  have hal:acc.length≤4:=by have:=congrArg List.length hacc;rw [List.length_append] at this;omega
  by_cases h0:m=0
  ·subst h0
   refine zzr fun K hK=>?_
   simp [go_sem,g0]
   apply hK;clear hK K
   refine zaf (by simp [go_sem];rfl) rfl ?_
   refine zav ?_
   repeat (first|refine zae ?_|refine za6 rfl ?_|refine za8 ?_)
   apply hK1;clear hK1 K1 hK2 K2
   rw [zap,List.append_nil] at hacc
   subst hacc
   obtain ⟨a,c,rfl,hr⟩:=RD.of_own hown hok
   refine zzr fun K hK=>?_
   simp [go_sem,g3]
   apply hK;clear hK K
   refine zad ?_
   repeat first|refine za3 ?_|refine za2 ?_
   refine ⟨trivial,a,c,?_,hr,hE⟩
   simp [go_sem,zar,zam]
  ·have h0':(0:Int)<m:=by omega
   have h0'':0<m:=by omega
   have hw0:(m:Int).tmod 65536=((m % 65536:Nat):Int):=rfl
   have hw:IntKind.u16.wrap ((m % 65536:Nat):Int)=((m % 65536:Nat):Int):=zeq _ (by omega)
   have hs0:(m:Int).tdiv 65536=((m / 65536:Nat):Int):=rfl
   have hs:IntKind.u64.wrap ((m / 65536:Nat):Int)=((m / 65536:Nat):Int):=zbd _ (by omega)
   refine zzr fun K hK=>?_
   simp [go_sem,g0,h0',h0'']
   apply hK;clear hK K
   refine zaf (by simp [go_sem,h0',h0''];rfl) rfl ?_
   refine za7 ?_
   apply hK2;clear hK2 K2
   refine zac ?_
   generalize hx:m % 65536=x at *
   have hx':x<65536:=by omega
   refine zzr fun K hK=>?_
   simp [go_sem,g0,g3,hw0,hw]
   refine zak #[.int .u16 x] (by simp [go_sem,hw0,hw]) rfl zaT (by decide) [(0,.int .u16 x)] (by simp [go_sem,hw0,hw]) (by kernel_rfl) (fun w8 b8 hE8 hle8 hB8=>?_)
   have hown8:w8.ownsRow w.heap.size 123 1 v acc.length (lmC acc):=own_keep hown hE8
   replace hE:=hE.next hE8
   simp [go_sem]
   refine zbv (v:=v) (b:=b8) (len:=1) (c:=1) hB8 (by simp [go_sem]) rfl zaT zaK rfl (by decide) (by simp [go_sem,g3]) (by simp [go_sem]) hown8 rfl (by simp [Value.oneCell']) (by unfold maxLen;omega) (by omega) hE.size (by decide) (fun v' w9 hown9 hg9 _=>?_)
   replace hE:=hE.nextG hg9 (fun b e=>(hown8.lt b e).1)
   simp [go_sem]
   apply hK;clear hK K
   generalize hy:m / 65536=y at *
   refine zzt fun K hK=>?_
   simp [go_sem,g0,hs0,hs]
   refine hK _ _ ⟨y,by omega,hE,v',acc++[x],by omega,by simp [go_sem],by simp [go_sem],?_,hok.app (Ok.cons hx' Ok.nil),?_⟩
   ·rw [lmC_snoc,List.length_append];exact hown9
   ·rw [←hacc,lim_pos m h0,hx,hy];simp
theorem pow_le4 (k:Nat) (h:k≤4):65536 ^ k≤18446744073709551616:=by
 have:65536 ^ k≤65536 ^ 4:=Nat.pow_le_pow_right (by decide) h
 simpa using this
theorem val_lt4 (l:List Nat) (h:Ok l) (hl:l.length≤4):val l<18446744073709551616:=Nat.lt_of_lt_of_le (zck l h) (pow_le4 _ hl)
theorem short_any (l:List Nat) (a:Option Addr) (c:Nat) (w:World) (hr:RD w a c l) (hl:l.length≤4) :
  Calls Tryz.prog 134 #[.slice a l.length c] w fun e w'=>e = .returned (.int .u64 (val l))∧w=w':=by
 refine za5 (rs:=[.tmp 2]) (n:=21) Tryz.func134 rfl rfl rfl (by kernel_rfl) ?_
 refine zzr fun K hK=>?_
 simp [go_sem]
 apply hK;clear hK K
 refine zzr fun K hK=>?_
 simp [go_sem]
 apply hK;clear hK K
 have hw0:IntKind.i64.wrap (↑l.length-1)=(l.length:Int)-1:=IntWalk.i64_in _ (by omega)
 refine zab (fun K1 hK1=>?_)
 refine zzr fun K hK=>?_
 simp [go_sem,hw0]
 apply hK;clear hK K
 refine zac ?_
 refine zaz (fun m g w'=>w'=w∧m≤l.length∧g 0 = .slice a l.length c∧g 3 = .int .u64 (val (l.drop m))∧g 4 = .int .i64 ((m:Int)-1)) l.length ?_ ?_
 ·exact ⟨rfl,Nat.le_refl _,rfl,by rw [List.drop_length];rfl,rfl⟩
 ·rintro m g w' ⟨rfl,hm,g0,g3,g4⟩
  refine zab (fun K2 hK2=>?_)
  rcases m with _|i
  ·have g4':g 4 = .int .i64 (-1):=g4
   refine zzr fun K hK=>?_
   simp [go_sem,g4']
   apply hK;clear hK K
   refine zaf (by simp [go_sem];rfl) rfl ?_
   refine zav ?_
   repeat (first|refine zae ?_|refine za6 rfl ?_|refine za8 ?_)
   apply hK1;clear hK1 K1 hK2 K2
   rw [List.drop_zero] at g3
   refine zzr fun K hK=>?_
   simp [go_sem,g3]
   apply hK;clear hK K
   refine zad ?_
   repeat first|refine za3 ?_|refine za2 ?_
   refine ⟨trivial,?_,rfl⟩
   simp [go_sem,zar,zam]
  ·have g4':g 4 = .int .i64 (i:Int):=by rw [g4];congr 1;omega
   have hi:i<l.length:=by omega
   have hi':(i:Int)<l.length:=by omega
   have hi0:(0:Int)≤i:=by omega
   obtain ⟨c1,c2⟩:=hr.at hi
   have hx:=zb9 hr.ok i
   have hv:=val_drop l i hi
   have hb:val (l.drop i)<18446744073709551616:=val_lt4 _ (hr.ok.drop i) (by rw [List.length_drop];omega)
   rw [hv] at hb
   have h1:IntKind.u64.wrap (↑(val (l.drop (i+1)))*65536)=((val (l.drop (i+1)):Nat):Int)*65536:=zbd _ (by omega)
   have h2:IntKind.u64.wrap (↑(lat l i))=((lat l i:Nat):Int):=zbd _ (by omega)
   have h3:IntKind.u64.wrap (↑(val (l.drop (i+1)))*65536 + ↑(lat l i))=((val (l.drop (i+1)):Nat):Int)*65536+(lat l i:Nat):=zbd _ (by omega)
   have h4:IntKind.i64.wrap (↑i-1)=(i:Int)-1:=IntWalk.i64_in _ (by omega)
   generalize hV:val (l.drop (i+1))=V at *
   generalize hX:lat l i=x at *
   refine zzr fun K hK=>?_
   simp [go_sem,g4',hi0]
   apply hK;clear hK K
   refine zaf (by simp [go_sem,hi0];rfl) rfl ?_
   refine za7 ?_
   apply hK2;clear hK2 K2
   refine zab (fun K2 hK2=>?_)
   refine zac ?_
   refine zzt fun K hK=>?_
   simp [go_sem,g0,g3,g4',hi,hi',hi0,c1,c2,h1,h2,h3]
   apply hK;clear hK K
   apply hK2;clear hK2 K2
   refine zzt fun K hK=>?_
   simp [go_sem,g4',h4]
   refine hK _ _ ⟨i,by omega,rfl,by omega,by simp [go_sem,g0],?_,by simp [go_sem]⟩
   simp [go_sem,hv];omega
def uintV (l:List Nat):Nat:=if (nrm l).length≤4 then val l else 0
theorem uint_any (l:List Nat) (a:Option Addr) (c:Nat) (w:World) (hr:RD w a c l) (hl:l.length≤zbZ) :
  Calls Tryz.prog 111 #[.slice a l.length c] w fun e w'=>e = .returned (.tuple #[.int .u64 (uintV l),.bool (decide ((nrm l).length≤4))])∧w=w':=by
 refine za5 (rs:=[.tmp 2,.tmp 3]) (n:=28) Tryz.func111 rfl rfl rfl (by kernel_rfl) ?_
 refine zzr fun K hK=>?_
 simp [go_sem]
 apply hK;clear hK K
 refine zzr fun K hK=>?_
 simp [go_sem]
 refine zzc rfl Tryz.call108 (fun R hR=>?_)
 simp [go_sem]
 refine (zb6 l a c _ hr hl).mono ?_
 rintro e w1 ⟨rfl,rfl⟩
 refine ⟨_,rfl,hR _ _ ?_⟩
 clear hR R
 simp [go_sem]
 apply hK;clear hK K
 have hr2:=hr.nrm
 have huv:uintV l=if (nrm l).length≤4 then val (nrm l) else 0:=by unfold uintV;rw [zc4]
 rw [huv]
 generalize nrm l=m at *
 refine zab (fun K1 hK1=>?_)
 refine zzr fun K hK=>?_
 simp [go_sem]
 apply hK;clear hK K
 by_cases h4:m.length≤4
 ·have h4':¬(4:Int)<m.length:=by omega
  refine zaf (by simp [go_sem,h4'];rfl) rfl ?_
  refine za7 ?_
  apply hK1;clear hK1 K1
  refine zzr fun K hK=>?_
  simp [go_sem]
  apply hK;clear hK K
  refine zab (fun K1 hK1=>?_)
  refine zzr fun K hK=>?_
  simp [go_sem]
  apply hK;clear hK K
  refine zac ?_
  refine zaz (fun k g w'=>w'=w∧∃ i:Nat,i≤m.length∧k=m.length-i∧g 4 = .int .u64 (val (m.take i))∧g 12 = .slice a m.length c∧g 13 = .int .i64 m.length∧g 14 = .int .i64 i) m.length ?_ ?_
  ·exact ⟨rfl,0,by omega,rfl,by simp [go_sem,val],by simp [go_sem],by simp [go_sem],by simp [go_sem]⟩
  ·rintro k g w' ⟨rfl,i,hi,rfl,g4,g12,g13,g14⟩
   refine zzr fun K hK=>?_
   simp [go_sem,g13,g14]
   apply hK;clear hK K
   refine zab (fun K2 hK2=>?_)
   by_cases hlt:i<m.length
   ·have hlt':(i:Int)<m.length:=by omega
    obtain ⟨c1,c2⟩:=hr2.at hlt
    have hx:=zb9 hr2.ok i
    have hv:=val_take m i hlt
    have hb:val (m.take (i+1))<18446744073709551616:=val_lt4 _ (hr2.ok.take _) (by rw [List.length_take];omega)
    have hb0:val (m.take i)<2 ^ (16*i):=by
     have:=zck (m.take i) (hr2.ok.take _)
     rw [List.length_take,Nat.min_eq_left (by omega),pow_16] at this
     exact this
    have hY:65536 ^ i*lat m i=lat m i*2 ^ (16*i):=by rw [pow_16,Nat.mul_comm]
    rw [hY] at hv
    have h1:IntKind.u64.wrap (↑(lat m i))=((lat m i:Nat):Int):=zbd _ (by omega)
    have h2:IntKind.i64.wrap (16 * ↑i)=16*(i:Int):=IntWalk.i64_in _ (by omega)
    have h2':(0:Int)≤16*(i:Int):=by omega
    have h3:shlI .u64 (lat m i:Int) (16*(i:Int))=((lat m i*2 ^ (16*i):Nat):Int):=by
     have e:(16*(i:Int))=((16*i:Nat):Int):=by simp
     rw [e,shl_nat .u64 _ _ (by show 16*i≤64;omega)]
     exact zbd _ (by omega)
    have ho:=or_add (val (m.take i)) (lat m i) (16*i) hb0
    rw [←hv] at ho
    generalize lat m i*2 ^ (16*i)=Y at *
    have h4:orI .u64 (val (m.take i):Int) (Y:Int)=((val (m.take (i+1)):Nat):Int):=by
     rw [or_u64 _ _ (by omega) (by omega),ho]
    have hw1:IntKind.i64.wrap (↑i+1)=(i:Int)+1:=IntWalk.i64_in _ (by omega)
    refine zaf (by simp [go_sem,hlt,hlt'];rfl) rfl ?_
    refine za7 ?_
    apply hK2;clear hK2 K2
    refine zab (fun K2 hK2=>?_)
    refine zac ?_
    refine zzr fun K hK=>?_
    simp [go_sem,g12,g14,hlt,hlt',c1,c2]
    apply hK;clear hK K
    refine zzt fun K hK=>?_
    simp [go_sem,g4,h1,h2,h2',h3,h4]
    apply hK;clear hK K
    apply hK2;clear hK2 K2
    refine zzt fun K hK=>?_
    simp [go_sem,g14,hw1]
    refine hK _ _ ⟨m.length-(i+1),by omega,rfl,i+1,by omega,rfl,by simp [go_sem],by simp [go_sem,g12],by simp [go_sem,g13],by simp [go_sem]⟩
   ·have him:i=m.length:=by omega
    refine zaf (by simp [go_sem,hlt];rfl) rfl ?_
    refine zav ?_
    repeat (first|refine zae ?_|refine za6 rfl ?_|refine za8 ?_)
    apply hK1;clear hK1 K1 hK2 K2
    rw [him,List.take_length] at g4
    refine zzr fun K hK=>?_
    simp [go_sem,g4]
    apply hK;clear hK K
    refine zad ?_
    repeat first|refine za3 ?_|refine za2 ?_
    refine ⟨trivial,?_,rfl⟩
    simp [go_sem,zar,zam,h4]
 ·have h4':(4:Int)<m.length:=by omega
  refine zaf (by simp [go_sem,h4'];rfl) rfl ?_
  refine zzr fun K hK=>?_
  simp [go_sem]
  apply hK;clear hK K
  refine zad ?_
  repeat first|refine za3 ?_|refine za2 ?_
  refine ⟨trivial,?_,rfl⟩
  simp [go_sem,zar,zam,h4]
theorem zcl:∀ (i:Nat) (l:List Nat),Ok l→val (l.drop i)=val l / 65536 ^ i
 | 0,l,_=>by simp
 | i+1,[],_=>by simp [val]
 | i+1,x::l,h=>by
  have hx:=h.head
  rw [List.drop_succ_cons,zcl i l h.tail,Nat.pow_succ,Nat.mul_comm,←Nat.div_div_eq_div_mul]
  congr 1
  simp only [val];omega
theorem zcm (l:List Nat) (i:Nat):val (l.drop i)=lat l i+65536*val (l.drop (i+1)):=by
 by_cases h:i<l.length
 ·exact val_drop l i h
 ·rw [List.drop_eq_nil_of_le (by omega),List.drop_eq_nil_of_le (by omega),ze8 (by omega)];rfl
theorem lt_of_drop (l m:List Nat) (hl:Ok l) (hm:Ok m) (i:Nat) (h:val (l.drop i)<val (m.drop i)):val l<val m:=by
 rw [zcl i l hl,zcl i m hm] at h
 exact Nat.lt_of_div_lt_div h
theorem cmp_step (l m:List Nat) (hl:Ok l) (hm:Ok m) (i:Nat) (h:val (l.drop (i+1))=val (m.drop (i+1))) (hlt:lat l i<lat m i):val l<val m:=by
 refine lt_of_drop l m hl hm i ?_
 rw [zcm l i,zcm m i,h];omega
def cmpV (a b:Nat):Int:=if a<b then -1 else if b<a then 1 else 0
theorem cmpV_lt {a b:Nat} (h:a<b):cmpV a b = -1:=by unfold cmpV;rw [if_pos h]
theorem cmpV_gt {a b:Nat} (h:b<a):cmpV a b=1:=by unfold cmpV;rw [if_neg (by omega),if_pos h]
theorem cmpV_eq {a b:Nat} (h:a=b):cmpV a b=0:=by unfold cmpV;rw [if_neg (by omega),if_neg (by omega)]
theorem zds (l:List Nat) (a:Option Addr) (c i:Nat) (w:World) (hr:RD w a c l) :
  Calls Tryz.prog 137 #[.slice a l.length c,.int .i64 i] w fun e w'=>e = .returned (.int .i64 (lat l i))∧w=w':=by
 refine za5 (rs:=[.tmp 4]) (n:=14) Tryz.func137 rfl rfl rfl (by kernel_rfl) ?_
 refine zzr fun K hK=>?_
 simp [go_sem]
 apply hK;clear hK K
 refine zab (fun K1 hK1=>?_)
 refine zzr fun K hK=>?_
 simp [go_sem]
 apply hK;clear hK K
 by_cases hi:i<l.length
 ·have hi':(i:Int)<l.length:=by omega
  obtain ⟨c1,c2⟩:=hr.at hi
  have hx:=zb9 hr.ok i
  have h1:IntKind.i64.wrap (↑(lat l i))=((lat l i:Nat):Int):=IntWalk.i64_in _ (by omega)
  refine zaf (by simp [go_sem,hi,hi'];rfl) rfl ?_
  refine zzr fun K hK=>?_
  simp [go_sem,hi,hi',c1,c2,h1]
  apply hK;clear hK K
  refine zad ?_
  repeat first|refine za3 ?_|refine za2 ?_
  refine ⟨trivial,?_,rfl⟩
  simp [go_sem,zar,zam]
 ·have hi':¬(i:Int)<l.length:=by omega
  refine zaf (by simp [go_sem,hi,hi'];rfl) rfl ?_
  refine za7 ?_
  apply hK1;clear hK1 K1
  refine zzr fun K hK=>?_
  simp [go_sem]
  apply hK;clear hK K
  refine zad ?_
  repeat first|refine za3 ?_|refine za2 ?_
  refine ⟨trivial,?_,rfl⟩
  simp [go_sem,zar,zam,ze8 (Nat.le_of_not_lt hi)]
theorem cmpR_any (l m:List Nat) (a b:Option Addr) (c d:Nat) (w:World) (hr:RD w a c l) (hs:RD w b d m) (hl:l.length≤zbZ) (hm:m.length≤zbZ) :
  Calls Tryz.prog 139 #[.slice a l.length c,.slice b m.length d] w fun e w'=>e = .returned (.int .i64 (cmpV (val l) (val m)))∧w=w':=by
 have hl':l.length≤1000000000000:=hl
 have hm':m.length≤1000000000000:=hm
 refine za5 (rs:=[.tmp 4]) (n:=30) Tryz.func139 rfl rfl rfl (by kernel_rfl) ?_
 refine zzr fun K hK=>?_
 simp [go_sem]
 apply hK;clear hK K
 obtain ⟨M,hM⟩:∃ M:Nat,(if (l.length:Int)<m.length then (m.length:Int) else l.length)=M∧l.length≤M∧m.length≤M∧M≤1000000000000:=by
  by_cases h:l.length<m.length
  ·exact ⟨m.length,by rw [if_pos (by omega)],by omega,by omega,hm'⟩
  ·exact ⟨l.length,by rw [if_neg (by omega)],by omega,by omega,hl'⟩
 obtain ⟨hM,hM1,hM2,hM3⟩:=hM
 have hM':(if l.length<m.length then (m.length:Int) else l.length)=M:=by
  rw [←hM]
  by_cases h:l.length<m.length
  ·rw [if_pos h,if_pos (by omega)]
  ·rw [if_neg h,if_neg (by omega)]
 have hw0:IntKind.i64.wrap (↑M-1)=(M:Int)-1:=IntWalk.i64_in _ (by omega)
 refine zab (fun K1 hK1=>?_)
 refine zzr fun K hK=>?_
 simp [go_sem,outV_none,outOk_none,hM,hM',hw0]
 apply hK;clear hK K
 refine zac ?_
 refine zaz (fun k g w'=>w'=w∧k≤M∧g 0 = .slice a l.length c∧g 1 = .slice b m.length d∧g 5 = .int .i64 ((k:Int)-1)∧val (l.drop k)=val (m.drop k)) M ?_ ?_
 ·exact ⟨rfl,Nat.le_refl _,rfl,rfl,rfl,by rw [List.drop_eq_nil_of_le hM1,List.drop_eq_nil_of_le hM2]⟩
 ·rintro k g w' ⟨rfl,hk,g0,g1,g5,hD⟩
  refine zab (fun K2 hK2=>?_)
  rcases k with _|i
  ·have g5':g 5 = .int .i64 (-1):=g5
   refine zzr fun K hK=>?_
   simp [go_sem,g5']
   apply hK;clear hK K
   refine zaf (by simp [go_sem];rfl) rfl ?_
   refine zav ?_
   repeat (first|refine zae ?_|refine za6 rfl ?_|refine za8 ?_)
   apply hK1;clear hK1 K1 hK2 K2
   rw [List.drop_zero,List.drop_zero] at hD
   refine zzr fun K hK=>?_
   simp [go_sem]
   apply hK;clear hK K
   refine zad ?_
   repeat first|refine za3 ?_|refine za2 ?_
   refine ⟨trivial,?_,rfl⟩
   simp [go_sem,zar,zam,cmpV_eq hD]
  ·have g5':g 5 = .int .i64 (i:Int):=by rw [g5];congr 1;omega
   have hi0:(0:Int)≤i:=by omega
   have h4:IntKind.i64.wrap (↑i-1)=(i:Int)-1:=IntWalk.i64_in _ (by omega)
   refine zzr fun K hK=>?_
   simp [go_sem,g5',hi0]
   apply hK;clear hK K
   refine zaf (by simp [go_sem,hi0];rfl) rfl ?_
   refine za7 ?_
   apply hK2;clear hK2 K2
   refine zab (fun K2 hK2=>?_)
   refine zac ?_
   refine zab (fun K3 hK3=>?_)
   refine zzr fun K hK=>?_
   simp [go_sem,g0,g1,g5']
   refine zzc rfl Tryz.call137 (fun R hR=>?_)
   simp [go_sem,g0,g1,g5']
   refine (zds l a c i _ hr).mono ?_
   rintro e w1 ⟨rfl,rfl⟩
   refine ⟨_,rfl,hR _ _ ?_⟩
   clear hR R
   simp [go_sem,g0,g1,g5']
   refine zzc rfl Tryz.call137 (fun R hR=>?_)
   simp [go_sem,g0,g1,g5']
   refine (zds m b d i _ hs).mono ?_
   rintro e w1 ⟨rfl,rfl⟩
   refine ⟨_,rfl,hR _ _ ?_⟩
   clear hR R
   simp [go_sem]
   apply hK;clear hK K
   by_cases hlt:lat l i<lat m i
   ·have hlt':(lat l i:Int)<lat m i:=by omega
    have:=cmpV_lt (cmp_step l m hr.ok hs.ok i hD hlt)
    refine zaf (by simp [go_sem,hlt,hlt'];rfl) rfl ?_
    refine zzr fun K hK=>?_
    simp [go_sem]
    apply hK;clear hK K
    refine zad ?_
    repeat first|refine za3 ?_|refine za2 ?_
    refine ⟨trivial,?_,rfl⟩
    simp [go_sem,zar,zam,this]
   ·have hlt':¬(lat l i:Int)<lat m i:=by omega
    refine zaf (by simp [go_sem,hlt,hlt'];rfl) rfl ?_
    refine za7 ?_
    apply hK3;clear hK3 K3
    refine zzr fun K hK=>?_
    simp [go_sem,g0,g1,g5']
    refine zzc rfl Tryz.call137 (fun R hR=>?_)
    simp [go_sem,g0,g1,g5']
    refine (zds l a c i _ hr).mono ?_
    rintro e w1 ⟨rfl,rfl⟩
    refine ⟨_,rfl,hR _ _ ?_⟩
    clear hR R
    simp [go_sem,g0,g1,g5']
    refine zzc rfl Tryz.call137 (fun R hR=>?_)
    simp [go_sem,g0,g1,g5']
    refine (zds m b d i _ hs).mono ?_
    rintro e w1 ⟨rfl,rfl⟩
    refine ⟨_,rfl,hR _ _ ?_⟩
    clear hR R
    simp [go_sem]
    apply hK;clear hK K
    by_cases hgt:lat m i<lat l i
    ·have hgt':(lat m i:Int)<lat l i:=by omega
     have:=cmpV_gt (cmp_step m l hs.ok hr.ok i hD.symm hgt)
     refine zaf (by simp [go_sem,hgt,hgt'];rfl) rfl ?_
     refine zzr fun K hK=>?_
     simp [go_sem]
     apply hK;clear hK K
     refine zad ?_
     repeat first|refine za3 ?_|refine za2 ?_
     refine ⟨trivial,?_,rfl⟩
     simp [go_sem,zar,zam,this]
    ·have hgt':¬(lat m i:Int)<lat l i:=by omega
     refine zaf (by simp [go_sem,hgt,hgt'];rfl) rfl ?_
     refine za7 ?_
     apply hK2;clear hK2 K2
     refine zzt fun K hK=>?_
     simp [go_sem,g5',h4]
     refine hK _ _ ⟨i,by omega,rfl,by omega,by simp [go_sem,g0],by simp [go_sem,g1],by simp [go_sem],?_⟩
     rw [zcm l i,zcm m i,hD];omega
theorem len_lt_val (l m:List Nat) (hl:Ok l) (hm:Ok m) (h:(nrm l).length<(nrm m).length):val l<val m:=by
 have h1:=zck (nrm l) (nrm_ok l hl)
 rw [zc4] at h1
 have h2:=val_len m hm ((nrm m).length-1) (by omega)
 have h3:65536 ^ (nrm l).length≤65536 ^ ((nrm m).length-1):=Nat.pow_le_pow_right (by decide) (by omega)
 omega
theorem cmp_any (l m:List Nat) (a b:Option Addr) (c d:Nat) (w:World) (hr:RD w a c l) (hs:RD w b d m) (hl:l.length≤zbZ) (hm:m.length≤zbZ) :
  Calls Tryz.prog 113 #[.slice a l.length c,.slice b m.length d] w fun e w'=>e = .returned (.int .i64 (cmpV (val l) (val m)))∧Below w.heap.size w w':=by
 have hl':l.length≤1000000000000:=hl
 have hm':m.length≤1000000000000:=hm
 have hll:=len_lt_val l m hr.ok hs.ok
 have hlg:=len_lt_val m l hs.ok hr.ok
 have hn1:=zb8 l
 have hn2:=zb8 m
 refine za5 (rs:=[.tmp 4]) (n:=45) Tryz.func113 rfl rfl rfl (by kernel_rfl) ?_
 refine zzr fun K hK=>?_
 simp [go_sem]
 apply hK;clear hK K
 refine zzr fun K hK=>?_
 simp [go_sem]
 refine zzc rfl Tryz.call108 (fun R hR=>?_)
 simp [go_sem]
 refine (zb6 l a c _ hr hl).mono ?_
 rintro e w1 ⟨rfl,rfl⟩
 refine ⟨_,rfl,hR _ _ ?_⟩
 clear hR R
 simp [go_sem]
 refine zzc rfl Tryz.call108 (fun R hR=>?_)
 simp [go_sem]
 refine (zb6 m b d _ hs hm).mono ?_
 rintro e w1 ⟨rfl,rfl⟩
 refine ⟨_,rfl,hR _ _ ?_⟩
 clear hR R
 simp [go_sem]
 apply hK;clear hK K
 replace hr:=hr.nrm
 replace hs:=hs.nrm
 have hvl:=zc4 l
 have hvm:=zc4 m
 rw [←hvl,←hvm] at hll hlg
 rw [←hvl,←hvm]
 generalize nrm l=L at *
 generalize nrm m=M at *
 refine zab (fun K1 hK1=>?_)
 refine zzr fun K hK=>?_
 simp [go_sem]
 apply hK;clear hK K
 by_cases hne:L.length=M.length
 ·have hne':(L.length:Int)=M.length:=by omega
  refine zaf (by simp [go_sem,hne,hne'];rfl) rfl ?_
  refine za7 ?_
  apply hK1;clear hK1 K1
  have hw0:IntKind.i64.wrap (↑L.length-1)=(L.length:Int)-1:=IntWalk.i64_in _ (by omega)
  have hw0':IntKind.i64.wrap (↑M.length-1)=(L.length:Int)-1:=by rw [←hne'];exact hw0
  refine zab (fun K1 hK1=>?_)
  refine zzr fun K hK=>?_
  simp [go_sem,hw0,hne,hw0']
  apply hK;clear hK K
  refine zac ?_
  refine zaz (fun k g w'=>Below w.heap.size w w'∧RD w' a c L∧RD w' b d M∧k≤L.length∧g 0 = .slice a L.length c∧g 1 = .slice b M.length d∧g 5 = .int .i64 ((k:Int)-1)∧val (L.drop k)=val (M.drop k)) L.length ?_ ?_
  ·exact ⟨Below.refl _ _,hr,hs,Nat.le_refl _,by simp [go_sem,hne],by simp [go_sem,hne],by simp [go_sem,hne],by rw [List.drop_length,hne,List.drop_length]⟩
  ·clear hr hs
   rintro k g w' ⟨hE,hr,hs,hk,g0,g1,g5,hD⟩
   refine zab (fun K2 hK2=>?_)
   rcases k with _|i
   ·have g5':g 5 = .int .i64 (-1):=g5
    refine zzr fun K hK=>?_
    simp [go_sem,g5']
    apply hK;clear hK K
    refine zaf (by simp [go_sem];rfl) rfl ?_
    refine zav ?_
    repeat (first|refine zae ?_|refine za6 rfl ?_|refine za8 ?_)
    apply hK1;clear hK1 K1 hK2 K2
    rw [List.drop_zero,List.drop_zero] at hD
    refine zzr fun K hK=>?_
    simp [go_sem]
    apply hK;clear hK K
    refine zad ?_
    repeat first|refine za3 ?_|refine za2 ?_
    refine ⟨trivial,?_,hE⟩
    simp [go_sem,zar,zam,cmpV_eq hD]
   ·have g5':g 5 = .int .i64 (i:Int):=by rw [g5];congr 1;omega
    have hi0:(0:Int)≤i:=by omega
    have h4:IntKind.i64.wrap (↑i-1)=(i:Int)-1:=IntWalk.i64_in _ (by omega)
    have hi1:i<L.length:=by omega
    have hi2:i<M.length:=by omega
    have hi1':(i:Int)<L.length:=by omega
    have hi2':(i:Int)<M.length:=by omega
    refine zzr fun K hK=>?_
    simp [go_sem,g5',hi0]
    apply hK;clear hK K
    refine zaf (by simp [go_sem,hi0];rfl) rfl ?_
    refine za7 ?_
    apply hK2;clear hK2 K2
    refine zab (fun K2 hK2=>?_)
    refine zac ?_
    have hDr:Below w'.heap.size w' w'.drew:=Below.drew1 _
    replace hE:=hE.next hDr
    replace hr:=hr.ext hDr
    replace hs:=hs.ext hDr
    clear hDr
    obtain ⟨c1,c2⟩:=hr.at hi1
    obtain ⟨c3,c4⟩:=hs.at hi2
    refine zab (fun K3 hK3=>?_)
    refine W_rd [(0,0),(1,0),(2,0),(3,0),(4,0),(5,0),(6,0),(7,0),(8,0)] (by kernel_rfl) (by kernel_rfl) (fun K hK=>?_)
    simp [go_sem,g0,g1,g5',hi1,hi2,hi1',hi2',c1,c2,c3,c4]
    apply hK;clear hK K
    by_cases hlt:lat L i<lat M i
    ·have hlt':(lat L i:Int)<lat M i:=by omega
     have:=cmpV_lt (cmp_step L M hr.ok hs.ok i hD hlt)
     refine zaf (by simp [go_sem,hlt,hlt'];rfl) rfl ?_
     refine zzr fun K hK=>?_
     simp [go_sem]
     apply hK;clear hK K
     refine zad ?_
     repeat first|refine za3 ?_|refine za2 ?_
     refine ⟨trivial,?_,hE⟩
     simp [go_sem,zar,zam,this]
    ·have hlt':¬(lat L i:Int)<lat M i:=by omega
     refine zaf (by simp [go_sem,hlt,hlt'];rfl) rfl ?_
     refine za7 ?_
     apply hK3;clear hK3 K3
     have hDr:Below w'.drew.heap.size w'.drew w'.drew.drew:=Below.drew1 _
     replace hE:=hE.next hDr
     replace hr:=hr.ext hDr
     replace hs:=hs.ext hDr
     clear hDr c1 c2 c3 c4
     obtain ⟨c1,c2⟩:=hr.at hi1
     obtain ⟨c3,c4⟩:=hs.at hi2
     refine W_rd [(0,0),(1,0),(2,0),(3,0),(4,0),(5,0),(6,0),(7,0),(8,0)] (by kernel_rfl) (by kernel_rfl) (fun K hK=>?_)
     simp [go_sem,g0,g1,g5',hi1,hi2,hi1',hi2',c1,c2,c3,c4]
     apply hK;clear hK K
     by_cases hgt:lat M i<lat L i
     ·have hgt':(lat M i:Int)<lat L i:=by omega
      have:=cmpV_gt (cmp_step M L hs.ok hr.ok i hD.symm hgt)
      refine zaf (by simp [go_sem,hgt,hgt'];rfl) rfl ?_
      refine zzr fun K hK=>?_
      simp [go_sem]
      apply hK;clear hK K
      refine zad ?_
      repeat first|refine za3 ?_|refine za2 ?_
      refine ⟨trivial,?_,hE⟩
      simp [go_sem,zar,zam,this]
     ·have hgt':¬(lat M i:Int)<lat L i:=by omega
      refine zaf (by simp [go_sem,hgt,hgt'];rfl) rfl ?_
      refine za7 ?_
      apply hK2;clear hK2 K2
      refine zzt fun K hK=>?_
      simp [go_sem,g5',h4]
      refine hK _ _ ⟨i,by omega,hE,hr,hs,by omega,by simp [go_sem,g0],by simp [go_sem,g1],by simp [go_sem],?_⟩
      rw [zcm L i,zcm M i,hD];omega
 ·have hne':¬(L.length:Int)=M.length:=by omega
  refine zaf (by simp [go_sem,hne,hne'];rfl) rfl ?_
  refine zab (fun K2 hK2=>?_)
  refine zzr fun K hK=>?_
  simp [go_sem]
  apply hK;clear hK K
  by_cases hlt:L.length<M.length
  ·have hlt':(L.length:Int)<M.length:=by omega
   have:=cmpV_lt (hll hlt)
   refine zaf (by simp [go_sem,hlt,hlt'];rfl) rfl ?_
   refine zzr fun K hK=>?_
   simp [go_sem]
   apply hK;clear hK K
   refine zad ?_
   repeat first|refine za3 ?_|refine za2 ?_
   refine ⟨trivial,?_,Below.refl _ _⟩
   simp [go_sem,zar,zam,this]
  ·have hlt':¬(L.length:Int)<M.length:=by omega
   have:=cmpV_gt (hlg (by omega))
   refine zaf (by simp [go_sem,hlt,hlt'];rfl) rfl ?_
   refine za7 ?_
   apply hK2;clear hK2 K2
   refine zzr fun K hK=>?_
   simp [go_sem]
   apply hK;clear hK K
   refine zad ?_
   repeat first|refine za3 ?_|refine za2 ?_
   refine ⟨trivial,?_,Below.refl _ _⟩
   simp [go_sem,zar,zam,this]
def ze9 (n:Nat):Nat:=if h:n=0 then 0 else ze9 (n / 2)+1
termination_by n
decreasing_by omega
theorem blen_0:ze9 0=0:=by rw [ze9,dif_pos rfl]
theorem zer (n:Nat) (h:n≠0):ze9 n=ze9 (n / 2)+1:=by rw [ze9,dif_neg h]
def bl:Nat→Nat→Nat
 | 0,_=>0
 | f+1,n=>if n=0 then 0 else bl f (n / 2)+1
theorem bl_eq:∀ f n,n<2 ^ f→bl f n=ze9 n
 | 0,n,h=>by
  have:n=0:=by simpa using h
  subst this;rw [blen_0];rfl
 | f+1,n,h=>by
  unfold bl
  by_cases h0:n=0
  ·subst h0;rw [blen_0];rfl
  ·rw [if_neg h0,zer n h0,bl_eq f (n / 2) (by rw [Nat.pow_succ] at h;omega)]
theorem tbl_bl:∀ n,n<256→(za9 (⟨(List.append (List.append [0,1,2,2,3,3,3,3,4,4,4,4,4,4,4,4,5,5,5,5,5,5,5,5,5,5,5,5,5,5,5,5,6,6,6,6,6,6,6,6,6,6,6,6,6,6,6,6,6,6,6,6,6,6,6,6,6,6,6,6,6,6,6,6] [7,7,7,7,7,7,7,7,7,7,7,7,7,7,7,7,7,7,7,7,7,7,7,7,7,7,7,7,7,7,7,7,7,7,7,7,7,7,7,7,7,7,7,7,7,7,7,7,7,7,7,7,7,7,7,7,7,7,7,7,7,7,7,7]) (List.append [8,8,8,8,8,8,8,8,8,8,8,8,8,8,8,8,8,8,8,8,8,8,8,8,8,8,8,8,8,8,8,8,8,8,8,8,8,8,8,8,8,8,8,8,8,8,8,8,8,8,8,8,8,8,8,8,8,8,8,8,8,8,8,8] [8,8,8,8,8,8,8,8,8,8,8,8,8,8,8,8,8,8,8,8,8,8,8,8,8,8,8,8,8,8,8,8,8,8,8,8,8,8,8,8,8,8,8,8,8,8,8,8,8,8,8,8,8,8,8,8,8,8,8,8,8,8,8,8])).toArray⟩:ByteArray) n).toNat=bl 8 n:=by decide +kernel
theorem tbl_ok:∀ n,n<256→(za9 (⟨(List.append (List.append [0,1,2,2,3,3,3,3,4,4,4,4,4,4,4,4,5,5,5,5,5,5,5,5,5,5,5,5,5,5,5,5,6,6,6,6,6,6,6,6,6,6,6,6,6,6,6,6,6,6,6,6,6,6,6,6,6,6,6,6,6,6,6,6] [7,7,7,7,7,7,7,7,7,7,7,7,7,7,7,7,7,7,7,7,7,7,7,7,7,7,7,7,7,7,7,7,7,7,7,7,7,7,7,7,7,7,7,7,7,7,7,7,7,7,7,7,7,7,7,7,7,7,7,7,7,7,7,7]) (List.append [8,8,8,8,8,8,8,8,8,8,8,8,8,8,8,8,8,8,8,8,8,8,8,8,8,8,8,8,8,8,8,8,8,8,8,8,8,8,8,8,8,8,8,8,8,8,8,8,8,8,8,8,8,8,8,8,8,8,8,8,8,8,8,8] [8,8,8,8,8,8,8,8,8,8,8,8,8,8,8,8,8,8,8,8,8,8,8,8,8,8,8,8,8,8,8,8,8,8,8,8,8,8,8,8,8,8,8,8,8,8,8,8,8,8,8,8,8,8,8,8,8,8,8,8,8,8,8,8])).toArray⟩:ByteArray) n).toNat=ze9 n:=by
 intro n hn
 rw [tbl_bl n hn,bl_eq 8 n (by omega)]
theorem blen_256 (n:Nat) (h:256≤n):ze9 n=ze9 (n / 256)+8:=by
 rw [zer n (by omega),zer (n / 2) (by omega),zer (n / 2 / 2) (by omega),zer (n / 2 / 2 / 2) (by omega),zer (n / 2 / 2 / 2 / 2) (by omega),zer (n / 2 / 2 / 2 / 2 / 2) (by omega),zer (n / 2 / 2 / 2 / 2 / 2 / 2) (by omega),zer (n / 2 / 2 / 2 / 2 / 2 / 2 / 2) (by omega)]
 have:n / 2 / 2 / 2 / 2 / 2 / 2 / 2 / 2=n / 256:=by omega
 rw [this]
theorem blen_le (k n:Nat) (h:n<2 ^ k):ze9 n≤k:=by
 induction k generalizing n with
 | zero =>
      have:n=0:=by simpa using h
      subst this;rw [blen_0];exact Nat.le_refl _
 | succ k ih =>
  by_cases h0:n=0
  ·subst h0;rw [blen_0];omega
  ·rw [zer n h0]
   have:=ih (n / 2) (by rw [Nat.pow_succ] at h;omega)
   omega
theorem len16_any (n:Nat) (w:World) (hn:n<65536) :
  Calls Tryz.prog 109 #[.int .u16 n] w fun e w'=>e = .returned (.int .i64 (ze9 n))∧w=w':=by
 have ht:=tbl_ok
 have hsz:((⟨(List.append (List.append [0,1,2,2,3,3,3,3,4,4,4,4,4,4,4,4,5,5,5,5,5,5,5,5,5,5,5,5,5,5,5,5,6,6,6,6,6,6,6,6,6,6,6,6,6,6,6,6,6,6,6,6,6,6,6,6,6,6,6,6,6,6,6,6] [7,7,7,7,7,7,7,7,7,7,7,7,7,7,7,7,7,7,7,7,7,7,7,7,7,7,7,7,7,7,7,7,7,7,7,7,7,7,7,7,7,7,7,7,7,7,7,7,7,7,7,7,7,7,7,7,7,7,7,7,7,7,7,7]) (List.append [8,8,8,8,8,8,8,8,8,8,8,8,8,8,8,8,8,8,8,8,8,8,8,8,8,8,8,8,8,8,8,8,8,8,8,8,8,8,8,8,8,8,8,8,8,8,8,8,8,8,8,8,8,8,8,8,8,8,8,8,8,8,8,8] [8,8,8,8,8,8,8,8,8,8,8,8,8,8,8,8,8,8,8,8,8,8,8,8,8,8,8,8,8,8,8,8,8,8,8,8,8,8,8,8,8,8,8,8,8,8,8,8,8,8,8,8,8,8,8,8,8,8,8,8,8,8,8,8])).toArray⟩):ByteArray).size=256:=by kernel_rfl
 refine za5 (rs:=[.tmp 2]) (n:=13) Tryz.func109 rfl rfl rfl (by kernel_rfl) ?_
 generalize (⟨(List.append (List.append [0,1,2,2,3,3,3,3,4,4,4,4,4,4,4,4,5,5,5,5,5,5,5,5,5,5,5,5,5,5,5,5,6,6,6,6,6,6,6,6,6,6,6,6,6,6,6,6,6,6,6,6,6,6,6,6,6,6,6,6,6,6,6,6] [7,7,7,7,7,7,7,7,7,7,7,7,7,7,7,7,7,7,7,7,7,7,7,7,7,7,7,7,7,7,7,7,7,7,7,7,7,7,7,7,7,7,7,7,7,7,7,7,7,7,7,7,7,7,7,7,7,7,7,7,7,7,7,7]) (List.append [8,8,8,8,8,8,8,8,8,8,8,8,8,8,8,8,8,8,8,8,8,8,8,8,8,8,8,8,8,8,8,8,8,8,8,8,8,8,8,8,8,8,8,8,8,8,8,8,8,8,8,8,8,8,8,8,8,8,8,8,8,8,8,8] [8,8,8,8,8,8,8,8,8,8,8,8,8,8,8,8,8,8,8,8,8,8,8,8,8,8,8,8,8,8,8,8,8,8,8,8,8,8,8,8,8,8,8,8,8,8,8,8,8,8,8,8,8,8,8,8,8,8,8,8,8,8,8,8])).toArray⟩:ByteArray)=T at *
 refine zzr fun K hK=>?_
 simp [go_sem]
 apply hK;clear hK K
 refine zab (fun K1 hK1=>?_)
 refine zzr fun K hK=>?_
 simp [go_sem]
 apply hK;clear hK K
 by_cases h:256≤n
 ·have h':(256:Int)≤n:=by omega
  have hs:shrI .u16 (n:Int) 8=((n / 256:Nat):Int):=shr_nat .u16 n 8 (by decide)
  have hb:=blen_256 n h
  have hl:=blen_le 8 (n / 256) (by omega)
  generalize hq:n / 256=q at *
  have hq':q<256:=by omega
  have h8:IntKind.u8.wrap (q:Int)=q:=w8_in _ (by omega)
  have hz1:(0:Int)≤q:=by omega
  have hz2:(q:Int)<T.size:=by omega
  have ht1:=ht q hq'
  have hz3:q<T.size:=by omega
  have h9:IntKind.i64.wrap (ze9 q:Int)=(ze9 q:Int):=IntWalk.i64_in _ (by omega)
  have h10:IntKind.i64.wrap (8+(ze9 q:Int))=8+(ze9 q:Int):=IntWalk.i64_in _ (by omega)
  refine zaf (by simp [go_sem,h,h'];rfl) rfl ?_
  refine zzr fun K hK=>?_
  simp [go_sem,hs]
  apply hK;clear hK K
  refine zzt fun K hK=>?_
  simp [go_sem]
  apply hK;clear hK K
  apply hK1;clear hK1 K1
  refine zzr fun K hK=>?_
  simp [go_sem,h8,hz1,hz2,hz3,ht1,h9,h10]
  apply hK;clear hK K
  refine zad ?_
  repeat first|refine za3 ?_|refine za2 ?_
  refine ⟨trivial,?_,rfl⟩
  simp [go_sem,zar,zam,hb]
  omega
 ·have h':¬(256:Int)≤n:=by omega
  have h8:IntKind.u8.wrap (n:Int)=n:=w8_in _ (by omega)
  have hl:=blen_le 8 n (by omega)
  have hz1:(0:Int)≤n:=by omega
  have hz2:(n:Int)<T.size:=by omega
  have ht1:=ht n (by omega)
  have hz3:n<T.size:=by omega
  have h9:IntKind.i64.wrap (ze9 n:Int)=(ze9 n:Int):=IntWalk.i64_in _ (by omega)
  have h10:IntKind.i64.wrap (0+(ze9 n:Int))=(ze9 n:Int):=by rw [IntWalk.i64_in _ (by omega)];omega
  refine zaf (by simp [go_sem,h,h'];rfl) rfl ?_
  refine za7 ?_
  apply hK1;clear hK1 K1
  refine zzr fun K hK=>?_
  simp [go_sem,h8,hz1,hz2,hz3,ht1,h9,h10]
  apply hK;clear hK K
  refine zad ?_
  repeat first|refine za3 ?_|refine za2 ?_
  refine ⟨trivial,?_,rfl⟩
  simp [go_sem,zar,zam]
theorem blen_big (x v:Nat) (hx:x<65536) (hv:v≠0):ze9 (x+65536*v)=ze9 v+16:=by
 rw [blen_256 _ (by omega),blen_256 ((x+65536*v) / 256) (by omega)]
 have:(x+65536*v) / 256 / 256=v:=by omega
 rw [this]
theorem val_pos_top (l:List Nat) (k:Nat) (h:l.length=k+1) (ht:lat l k≠0):val l≠0:=by
 intro e
 have h1:=val_take l k (by omega)
 rw [List.take_of_length_le (by omega),e] at h1
 have:65536 ^ k*1≤65536 ^ k*lat l k:=Nat.mul_le_mul_left _ (by omega)
 have:0<65536 ^ k:=Nat.pow_pos (by decide)
 omega
theorem blen_val:∀ (k:Nat) (l:List Nat),Ok l→l.length=k+1→lat l k≠0→ze9 (val l)=16*k+ze9 (lat l k)
 | _,[],_,h,_=>by simp at h
 | 0,[x],_,_,_=>by simp [val,lat]
 | 0,x::y::l,_,h,_=>by simp at h
 | k+1,x::l,hok,h,ht=>by
  have h':l.length=k+1:=by simpa using h
  have ht':lat l k≠0:=ht
  rw [val,blen_big x (val l) hok.head (val_pos_top l k h' ht'),blen_val k l hok.tail h' ht']
  show _=16*(k+1)+ze9 (lat l k)
  omega
theorem blen_nrm (l:List Nat) (hok:Ok l) (k:Nat) (h:(nrm l).length=k+1):ze9 (val l)=16*k+ze9 (lat (nrm l) k):=by
 rw [←zc4 l]
 exact blen_val k (nrm l) (nrm_ok l hok) h (nrm_top l k h)
theorem bits_any (l:List Nat) (a:Option Addr) (c:Nat) (w:World) (hr:RD w a c l) (hl:l.length≤zbZ) :
  Calls Tryz.prog 91 #[.slice a l.length c] w fun e w'=>e = .returned (.int .i64 (ze9 (val l)))∧w=w':=by
 have hl':l.length≤1000000000000:=hl
 have hn:=zb8 l
 have hb:=blen_nrm l hr.ok
 have hz:=zdl l
 refine za5 (rs:=[.tmp 2]) (n:=20) Tryz.func91 rfl rfl rfl (by kernel_rfl) ?_
 refine zzr fun K hK=>?_
 simp [go_sem]
 apply hK;clear hK K
 refine zzr fun K hK=>?_
 simp [go_sem]
 refine zzc rfl Tryz.call108 (fun R hR=>?_)
 simp [go_sem]
 refine (zb6 l a c _ hr hl).mono ?_
 rintro e w1 ⟨rfl,rfl⟩
 refine ⟨_,rfl,hR _ _ ?_⟩
 clear hR R
 simp [go_sem]
 apply hK;clear hK K
 replace hr:=hr.nrm
 generalize nrm l=m at *
 refine zab (fun K1 hK1=>?_)
 refine zzr fun K hK=>?_
 simp [go_sem]
 apply hK;clear hK K
 by_cases h0:m.length=0
 ·have e0:m=[]:=List.length_eq_zero_iff.1 h0
  have hv:val l=0:=hz.1 e0
  subst e0
  refine zaf (by simp [go_sem];rfl) rfl ?_
  refine zzr fun K hK=>?_
  simp [go_sem]
  apply hK;clear hK K
  refine zad ?_
  repeat first|refine za3 ?_|refine za2 ?_
  refine ⟨trivial,?_,rfl⟩
  simp [go_sem,zar,zam,hv,blen_0]
 ·obtain ⟨k,hk⟩:∃ k,m.length=k+1:=⟨m.length-1,by omega⟩
  have h0':¬(m.length:Int)=0:=by omega
  have h0'':¬m=[]:=by intro e;subst e;exact h0 rfl
  have hw1:IntKind.i64.wrap (↑m.length-1)=(k:Int):=by rw [IntWalk.i64_in _ (by omega)];omega
  have hw2:IntKind.i64.wrap (16 * ↑k)=16*(k:Int):=IntWalk.i64_in _ (by omega)
  have hkl:k<m.length:=by omega
  have hkl':(k:Int)<m.length:=by omega
  have hk0:(0:Int)≤k:=by omega
  obtain ⟨c1,c2⟩:=hr.at hkl
  have hx:=zb9 hr.ok k
  have hb2:=hb k hk
  have hbl:=blen_le 16 (lat m k) (by omega)
  have hw3:IntKind.i64.wrap (16 * ↑k + ↑(ze9 (lat m k)))=16*(k:Int)+(ze9 (lat m k):Nat):=IntWalk.i64_in _ (by omega)
  refine zaf (by simp [go_sem,h0,h0',h0''];rfl) rfl ?_
  refine za7 ?_
  apply hK1;clear hK1 K1
  refine zzr fun K hK=>?_
  simp [go_sem,hw1,hw2,hkl,hkl',hk0,c1,c2]
  refine zzc rfl Tryz.call109 (fun R hR=>?_)
  simp [go_sem,hw1,hw2,hkl,hkl',hk0,c1,c2]
  refine (len16_any (lat m k) _ hx).mono ?_
  rintro e w1 ⟨rfl,rfl⟩
  refine ⟨_,rfl,hR _ _ ?_⟩
  clear hR R
  simp [go_sem,hw3]
  apply hK;clear hK K
  refine zad ?_
  repeat first|refine za3 ?_|refine za2 ?_
  refine ⟨trivial,?_,rfl⟩
  simp [go_sem,zar,zam,hb2]
theorem or_u32 (a b:Nat) (ha:a<4294967296) (hb:b<4294967296):orI .u32 a b=((a ||| b:Nat):Int):=by
 unfold orI
 have e:IntKind.u32.bits=32:=rfl
 have e1:(BitVec.ofInt IntKind.u32.bits (a:Int) ||| BitVec.ofInt IntKind.u32.bits (b:Int)).toNat=a ||| b:=by
  rw [e,BitVec.toNat_or,BitVec.ofInt_natCast,BitVec.ofInt_natCast,BitVec.toNat_ofNat,BitVec.toNat_ofNat,Nat.mod_eq_of_lt (by omega),Nat.mod_eq_of_lt (by omega)]
 rw [e1]
 have:a ||| b<2 ^ 32:=Nat.or_lt_two_pow (by omega) (by omega)
 exact zbJ _ ⟨by omega,by omega⟩
theorem div_step (x V d:Nat) (hd:0<d):(x+65536*V) / d=(V % d*65536+x) / d+65536*(V / d)∧(x+65536*V) % d=(V % d*65536+x) % d:=by
 have e:x+65536*V=(V % d*65536+x)+d*(65536*(V / d)):=by
  have h1:=Nat.div_add_mod V d
  have h2:65536*V=65536*(d*(V / d)+V % d):=by rw [h1]
  rw [Nat.mul_add,Nat.mul_left_comm] at h2
  omega
 rw [e,Nat.add_mul_div_left _ _ hd,Nat.add_mul_mod_self_left]
 exact ⟨rfl,rfl⟩
theorem putC_lm (l:List Nat) (i x:Nat):zaw (lmC l).toArray i [.int .u16 x]=(lmC (l.set i x)).toArray:=by
 simp [zaw,lmC,List.map_set]
theorem RD.of_lm {w:World} {b:Nat} {t:TypeId} {l:List Nat} {c:Nat} (h:Bx w b (lmC l).toArray t) (hok:Ok l) (hc:l.length≤c):RD w (some ⟨b,0,none⟩) c l :=
 RD.of_bx (r:=[]) (by rw [List.append_nil];exact h) hok hc
theorem lm_zeros (n:Nat):(List.replicate n (Value.int .u16 0)).toArray=(lmC (List.replicate n 0)).toArray:=by
 simp [lmC]
theorem byLimb_fresh (l:List Nat) (a:Option Addr) (c d:Nat) (w:World) (hr:RD w a c l) (hl:l.length≤zbZ) (hd:0<d) (hd2:d<65536) :
  Calls Tryz.prog 114 #[.slice a l.length c,.int .u16 d] w fun e w'=>∃ a' c',e = .returned (.tuple #[.slice a' (lim (val l / d)).length c',.int .u16 (val l % d:Nat)])∧RD w' a' c' (lim (val l / d))∧Below w.heap.size w w'∧(∀ ad,a'=some ad→w.heap.size≤ad.block):=by
 have hl':l.length≤1000000000000:=hl
 have hd':¬(d:Int)=0:=by omega
 have hd'':¬d=0:=by omega
 have hwd:IntKind.u32.wrap (d:Int)=d:=zbJ _ (by omega)
 have hw0:IntKind.i64.wrap (↑l.length-1)=(l.length:Int)-1:=IntWalk.i64_in _ (by omega)
 have hbel:=fun b (hb:w.heap.size≤b)=>hr.below hb
 refine za5 (rs:=[.tmp 4,.tmp 5]) (n:=43) Tryz.func114 rfl rfl rfl (by kernel_rfl) ?_
 refine zzr fun K hK=>?_
 simp [go_sem]
 apply hK;clear hK K
 refine zzr fun K hK=>?_
 simp [go_sem]
 refine hv_make (kl:=.i64) (kc:=.i64) l.length l.length (by simp [go_sem]) rfl zaT zaK (by simp [go_sem]) (by simp [go_sem]) (Nat.le_refl _) (by omega) (by omega) (fun w2 b2 hE2 hle2 hB2=>?_)
 rw [Nat.mul_one,zbH,lm_zeros] at hB2
 replace hr:=hr.ext hE2
 have hne:=hbel b2 hle2
 clear hbel
 simp [go_sem]
 apply hK;clear hK K
 refine zzr fun K hK=>?_
 simp [go_sem]
 apply hK;clear hK K
 refine zab (fun K1 hK1=>?_)
 refine zzr fun K hK=>?_
 simp [go_sem,hw0]
 apply hK;clear hK K
 refine zac ?_
 refine zaz (fun k g w'=>Below w.heap.size w w'∧RD w' a c l∧k≤l.length∧g 0 = .slice a l.length c∧g 1 = .int .u16 d∧g 6 = .slice (some ⟨b2,0,none⟩) l.length l.length∧g 7 = .int .u32 (val (l.drop k) % d:Nat)∧g 8 = .int .i64 ((k:Int)-1) ∧
  ∃ qs:List Nat,Bx w' b2 (lmC (List.replicate k 0++qs)).toArray 123∧k+qs.length=l.length∧Ok qs∧val qs=val (l.drop k) / d) l.length ?_ ?_
 ·refine ⟨hE2,hr,Nat.le_refl _,by simp [go_sem],by simp [go_sem],by simp [go_sem],by simp [go_sem,val],by simp [go_sem],[],by rw [List.append_nil];exact hB2,rfl,Ok.nil,?_⟩
  rw [List.drop_length];simp [val]
 ·clear hr hE2 hB2
  rintro k g w' ⟨hE,hr,hk,g0,g1,g6,g7,g8,qs,hB,hql,hqok,hqv⟩
  refine zab (fun K2 hK2=>?_)
  rcases k with _|i
  ·have g8':g 8 = .int .i64 (-1):=g8
   refine zzr fun K hK=>?_
   simp [go_sem,g8']
   apply hK;clear hK K
   refine zaf (by simp [go_sem];rfl) rfl ?_
   refine zav ?_
   repeat (first|refine zae ?_|refine za6 rfl ?_|refine za8 ?_)
   apply hK1;clear hK1 K1 hK2 K2
   rw [List.drop_zero] at hqv g7
   rw [List.replicate_zero,List.nil_append] at hB
   have hrq:RD w' (some ⟨b2,0,none⟩) l.length qs:=RD.of_lm hB hqok (by omega)
   have hlen:l.length=qs.length:=by omega
   have hmod:IntKind.u16.wrap ((val l % d:Nat):Int)=((val l % d:Nat):Int):=zeq _ (by have:=Nat.mod_lt (val l) hd;omega)
   rw [←hqv,zaO qs hqok]
   generalize val l % d=r at *
   rw [hlen] at g6 hrq
   refine zzr fun K hK=>?_
   simp [go_sem,g6]
   refine zzc rfl Tryz.call108 (fun R hR=>?_)
   simp [go_sem,g6]
   refine (zb6 qs _ qs.length _ hrq (by omega)).mono ?_
   rintro e w3 ⟨rfl,rfl⟩
   refine ⟨_,rfl,hR _ _ ?_⟩
   clear hR R
   simp [go_sem,g7,hmod]
   apply hK;clear hK K
   refine zad ?_
   repeat first|refine za3 ?_|refine za2 ?_
   refine ⟨trivial,some ⟨b2,0,none⟩,qs.length,?_,hrq.nrm,hE,fun ad ha=>by injection ha with ha;subst ha;exact hle2⟩
   simp [go_sem,zar,zam]
  ·have g8':g 8 = .int .i64 (i:Int):=by rw [g8];congr 1;omega
   have hi0:(0:Int)≤i:=by omega
   have hi:i<l.length:=by omega
   have hi':(i:Int)<l.length:=by omega
   have h4:IntKind.i64.wrap (↑i-1)=(i:Int)-1:=IntWalk.i64_in _ (by omega)
   obtain ⟨c1,c2⟩:=hr.at hi
   have hx:=zb9 hr.ok i
   have hv:=val_drop l i hi
   obtain ⟨s1,s2⟩:=div_step (lat l i) (val (l.drop (i+1))) d hd
   rw [←hv] at s1 s2
   have hrd:=Nat.mod_lt (val (l.drop (i+1))) hd
   rw [←hqv] at s1
   generalize val (l.drop (i+1)) % d=r at *
   generalize lat l i=x at *
   have e1:shlI .u32 (r:Int) 16=((r*65536:Nat):Int):=by
    have:=shl_nat .u32 r 16 (by decide)
    rw [show ((16:Nat):Int)=16 from rfl] at this
    rw [this];exact zbJ _ (by omega)
   have e2:IntKind.u32.wrap (x:Int)=x:=zbJ _ (by omega)
   have e3:orI .u32 ((r*65536:Nat):Int) (x:Int)=((r*65536+x:Nat):Int):=by
    rw [or_u32 _ _ (by omega) (by omega),Nat.or_comm,or_add x r 16 (by omega)]
    congr 1;omega
   have hq:(r*65536+x) / d<65536:=by
    rw [Nat.div_lt_iff_lt_mul hd]
    have:(r+1)*65536≤d*65536:=Nat.mul_le_mul_right _ hrd
    omega
   generalize hN:r*65536+x=N at *
   generalize hM:r*65536=M at *
   have hN32:N<4294967296:=by omega
   have hND:N / d≤N:=Nat.div_le_self _ _
   have e4:(N:Int).tdiv (d:Int)=((N / d:Nat):Int):=rfl
   have e7:(N:Int).tmod (d:Int)=((N % d:Nat):Int):=rfl
   generalize hQ:N / d=Q at *
   generalize hR:N % d=R at *
   have e5:IntKind.u32.wrap (Q:Int)=(Q:Int):=zbJ _ (by omega)
   have e6:IntKind.u16.wrap (Q:Int)=(Q:Int):=zeq _ (by omega)
   refine zzr fun K hK=>?_
   simp [go_sem,g8',hi0]
   apply hK;clear hK K
   refine zaf (by simp [go_sem,hi0];rfl) rfl ?_
   refine za7 ?_
   apply hK2;clear hK2 K2
   refine zab (fun K2 hK2=>?_)
   refine zac ?_
   refine zzr fun K hK=>?_
   simp [go_sem,g0,g7,g8',hi,hi',hi0,c1,c2,e1,e2,e3]
   apply hK;clear hK K
   refine zzr fun K hK=>?_
   simp [go_sem,g1,g6,g8',hi,hi',hi0,hwd,e4,e5,e6,hd',hd'',za0]
   refine zbG (b:=b2) (off:=i) [.int .u16 Q] (by simp [go_sem]) rfl (by simp [go_sem]) (by simp [go_sem,Value.cells]) zbc hB (by simp [zb3]<;>omega) (by simp [Value.oneCell']) (by decide) (fun w3 hS3 hB3=>?_)
   rw [putC_lm] at hB3
   have hset:(List.replicate (i+1) 0++qs).set i Q=List.replicate i 0++(Q::qs):=by
    rw [List.replicate_succ',List.append_assoc,List.set_append_right _ _ (by simp)]
    simp
   rw [hset] at hB3
   replace hr:=hr.sto hS3 hne
   replace hE:=hE.nextS hS3 hle2
   clear hB hS3
   simp [go_sem]
   apply hK;clear hK K
   refine zzt fun K hK=>?_
   simp [go_sem,g1,hwd,e7,hd',hd'']
   apply hK;clear hK K
   apply hK2;clear hK2 K2
   refine zzt fun K hK=>?_
   simp [go_sem,g8',h4]
   refine hK _ _ ⟨i,by omega,hE,hr,by omega,by simp [go_sem,g0],by simp [go_sem,g1],by simp [go_sem,g6],by simp [go_sem,s2],by simp [go_sem],Q::qs,hB3,by simp;omega,Ok.cons (by omega) hqok,?_⟩
   rw [val,s1]
theorem byLimb_any (l:List Nat) (a:Option Addr) (c d:Nat) (w:World) (hr:RD w a c l) (hl:l.length≤zbZ) (hd:0<d) (hd2:d<65536) :
  Calls Tryz.prog 114 #[.slice a l.length c,.int .u16 d] w fun e w'=>∃ a' c',e = .returned (.tuple #[.slice a' (lim (val l / d)).length c',.int .u16 (val l % d:Nat)])∧RD w' a' c' (lim (val l / d))∧Below w.heap.size w w' :=
 (byLimb_fresh l a c d w hr hl hd hd2).mono (fun _ _ ⟨a',c',h1,h2,h3,_⟩=>⟨a',c',h1,h2,h3⟩)
end Go.Proofs.YtefhenfofomjhaaGreat
