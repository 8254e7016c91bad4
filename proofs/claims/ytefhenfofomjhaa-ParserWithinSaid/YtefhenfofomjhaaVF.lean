/- The machinery of the walks, fifteenth part: a region that draws its order, in which a call may change what was there, while cells that it leaves as they are may be read before or after. -/
import Derived.Test.YtefhenfofomjhaaPtS
import Derived.Test.YtefhenfofomjhaaInH
import Derived.Test.YtefhenfofomjhaaTk1
import Derived.Test.YtefhenfofomjhaaVE
set_option linter.unusedSimpArgs false
set_option linter.unusedVariables false
namespace Go.Proofs.Ytefhenfofomjhaa
open Go Go.RowKit Go.V
set_option maxRecDepth 20000
theorem ct_ss {P:Program} {f s:Nat} {c:Ct} {w:World} {vs:List Value} {als:List At} {x y:List UInt8} (h:c.ok P f) (hres:c.res=[[.s],[.s]]) (hs:s≤c.L) (hr:RepVs w c.args als vs) (hz:∀ a∈als,a.sz≤s) (hF:c.F als=some [.s x,.s y]) :
  Calls P f vs.toArray w fun e w'=>e = .returned (.tuple #[.string ⟨x.toArray⟩,.string ⟨y.toArray⟩])∧Below w.heap.size w w':=by
 refine (h s w vs als _ hs hr hz hF).mono ?_
 rintro e w' ⟨rvs,he,hrv,hsz,hE⟩
 rw [hres] at hrv
 obtain ⟨a1,r,a2,r',e1,rfl,h1,h2⟩:=hrv
 obtain ⟨v2,rfl,h3⟩:=vs1 h2
 obtain ⟨l,rfl,rfl⟩:=repV_s.1 h1
 simp only [List.cons_append,List.nil_append,List.cons.injEq,At.s.injEq] at e1
 obtain ⟨e2,e3⟩:=e1
 subst e2;subst e3
 obtain ⟨m,e4,rfl⟩:=repV_s.1 h3
 simp only [List.cons.injEq,At.s.injEq,and_true] at e4
 subst e4
 exact ⟨he,hE⟩
theorem ashape_any (k:Int) (h1:10≤k) (h2:k≤68) (w:World):Calls Try.prog 42 #[.int .i64 k] w fun e w'=>e = .returned (.tuple #[.string ⟨(zdY k).toArray⟩,.string ⟨(letK k).toArray⟩])∧Below w.heap.size w w' :=
 ct_ss ev_ashape rfl (Nat.zero_le _) (ints1 k) (zs1 k 0) (ashape_den h1 h2)
theorem indexByteC_any (s:ByteArray) (c:UInt8) (w:World):Calls Try.prog 62 #[.string s,.int .u8 c.toNat] w fun e w'=>e = .returned (.int .i64 (Lib.indexByte (bs s) c))∧w'=w:=by
 refine za8 (args:=[.string s,.int .u8 c.toNat]) (rs:=[.tmp 4]) (n:=8) Try.func62 rfl rfl rfl (by kernel_rfl) ?_
 first|refine zzr fun K hK=>?_|refine zzt fun K hK=>?_
 simp [go_sem]
 refine hK _ _ ?_;clear hK K
 first|refine zzr fun K hK=>?_|refine zzt fun K hK=>?_
 simp [go_sem]
 refine hv_ext (by simp [go_sem]) rfl Try.func75 (by kernel_rfl) (by kernel_rfl) (by kernel_rfl) (e:=Extern.BytealgIndexByte.indexByte) (by kernel_rfl) (by simp [go_sem];exact Lib.run_indexByteString _ _ _) ?_
 simp [go_sem]
 refine hK _ _ ?_;clear hK K
 refine zal ?_
 repeat (first|refine za4 ?_|refine za3 ?_)
 exact ⟨trivial,by simp [go_sem,zaw,zav];rfl,rfl⟩
theorem indexByteS_any (s:ByteArray) (c:UInt8) (w:World):Calls Try.prog 51 #[.string s,.int .u8 c.toNat] w fun e w'=>e = .returned (.int .i64 (Lib.indexByte (bs s) c))∧w'=w:=by
 refine za8 (args:=[.string s,.int .u8 c.toNat]) (rs:=[.tmp 4]) (n:=8) Try.func51 rfl rfl rfl (by kernel_rfl) ?_
 first|refine zzr fun K hK=>?_|refine zzt fun K hK=>?_
 simp [go_sem]
 refine hK _ _ ?_;clear hK K
 first|refine zzr fun K hK=>?_|refine zzt fun K hK=>?_
 simp [go_sem]
 refine za5 (by simp [go_sem]) rfl Try.call62 (fun R hR=>?_)
 simp [go_sem]
 refine (indexByteC_any s c _).mono ?_
 rintro e w2 ⟨rfl,rfl⟩
 refine ⟨_,rfl,hR _ _ ?_⟩
 clear hR R
 simp [go_sem]
 refine hK _ _ ?_;clear hK K
 refine zal ?_
 repeat (first|refine za4 ?_|refine za3 ?_)
 exact ⟨trivial,by simp [go_sem,zaw,zav],rfl⟩
theorem letP_pos:∀ p∈[(0:Int),1,2,3],Lib.indexByte [42,80,76,67] (letP p)=p:=by decide +kernel
theorem letP_cases (p:Int):letP p=42∨letP p=80∨letP p=76∨letP p=67:=by unfold letP;(repeat' split)<;>simp
set_option maxHeartbeats 1000000 in
theorem indexRune_any (p:Int) (hp:0≤p∧p≤3) (w:World):Calls Try.prog 43 #[.string ⟨#[42,80,76,67]⟩,.int .i32 (letP p).toNat] w fun e w'=>e = .returned (.int .i64 p)∧w'=w:=by
 have hpos:=letP_pos p (by
               have:p=0∨p=1∨p=2∨p=3:=by omega
               rcases this with rfl|rfl|rfl|rfl<;>simp)
 obtain ⟨c,hc⟩:∃ c:UInt8,c=letP p:=⟨_,rfl⟩
 have c2:c.toNat<128:=by
  rw [hc]
  rcases letP_cases p with h|h|h|h<;>rw [h]<;>decide
 rw [←hc] at hpos ⊢
 have c3:(c.toNat:Int)<128:=by omega
 have c4:(0:Int)≤c.toNat:=by omega
 have hw1:IntKind.u8.wrap (c.toNat:Int)=c.toNat:=IntWalk.u8_in _ (by omega)
 refine za8 (args:=[.string ⟨#[42,80,76,67]⟩,.int .i32 c.toNat]) (rs:=[.tmp 4]) (n:=187) Try.func43 rfl rfl rfl (by kernel_rfl) ?_
 first|refine zzr fun K hK=>?_|refine zzt fun K hK=>?_
 simp [go_sem]
 refine hK _ _ ?_;clear hK K
 refine zag ?_
 first|refine zzr fun K hK=>?_|refine zzt fun K hK=>?_
 simp [go_sem,c3,c4]
 refine hK _ _ ?_;clear hK K
 refine zao (t:=true) (by simp [go_sem,c3,c4]) rfl ?_
 first|refine zzr fun K hK=>?_|refine zzt fun K hK=>?_
 simp [go_sem,hw1]
 refine za5 (by simp [go_sem,hw1]) rfl Try.call51 (fun R hR=>?_)
 simp [go_sem,hw1]
 refine (indexByteS_any ⟨#[42,80,76,67]⟩ c _).mono ?_
 rintro e w2 ⟨rfl,rfl⟩
 refine ⟨_,rfl,hR _ _ ?_⟩
 clear hR R
 rw [show bs ⟨#[42,80,76,67]⟩=[42,80,76,67] from rfl,hpos]
 simp [go_sem]
 refine hK _ _ ?_;clear hK K
 refine zal ?_
 repeat (first|refine za4 ?_|refine za3 ?_)
 refine ⟨trivial,?_,rfl⟩
 simp [go_sem,zaw,zav]
theorem dec_asciiC (s:ByteArray) (pos:Nat) (hp:pos<s.size) (h:(zah s pos).toNat<128):decC s pos=((zah s pos).toNat:Int):=by
 have e:(s.get! (pos+0)).toNat=(zah s pos).toNat:=by
  have:s.get! pos=zah s pos:=by
   have h':pos<s.data.size:=hp
   simp only [ByteArray.get!,zah,bs]
   rw [List.getD_eq_getElem?_getD,Array.getElem?_toList,Array.getElem?_eq_getElem h',Option.getD_some,getElem!_pos s.data pos h']
  rw [Nat.add_zero,this]
 unfold decC Utf8.decode
 simp only [e]
 rw [if_pos (by omega)]
theorem _root_.Go.V.It.grown {w w':World} {b pos:Nat} {s:ByteArray} {r:Option Nat} (h:It w b s pos) (hg:w.grownBy w' r) (hne:some b≠r):It w' b s pos:=⟨by rw [hg.block b h.lt hne];exact h.heap⟩
set_option maxHeartbeats 2000000 in
theorem params_any (k:Int) (h1:10≤k) (h2:k≤68) (w:World):Calls Try.prog 31 #[.int .i64 k] w fun e w'=>∃ a c,e = .returned (.slice a (zbq k).length c)∧SL w' a (intC (zbq k))∧(∀ ad,a=some ad→w.heap.size≤ad.block)∧Below w.heap.size w w':=by
 obtain ⟨L,hL⟩:∃ L:ByteArray,L=⟨(letK k).toArray⟩:=⟨_,rfl⟩
 have hLs:L.size=(zbq k).length:=by rw [hL];simp [ByteArray.size,letK]
 have hn:(zbq k).length≤6:=by
  by_cases h0:zdY k=[]
  ·have h3:=pars_none (k-10).toNat (by omega)
   rw [show (10:Int)+((k-10).toNat:Nat)=k by omega] at h3
   rw [h3 h0];decide
  ·have h3:=pars_ok (k-10).toNat (by omega)
   rw [show (10:Int)+((k-10).toNat:Nat)=k by omega] at h3
   exact (h3 h0).2.2
 have hr:∀ p∈zbq k,0≤p∧p≤3:=by
  by_cases h0:zdY k=[]
  ·have h3:=pars_none (k-10).toNat (by omega)
   rw [show (10:Int)+((k-10).toNat:Nat)=k by omega] at h3
   rw [h3 h0];intro p hp;cases hp
  ·have h3:=pars_ok (k-10).toNat (by omega)
   rw [show (10:Int)+((k-10).toNat:Nat)=k by omega] at h3
   exact (h3 h0).2.1
 have hLb:∀ i,i<(zbq k).length→zah L i=letP ((zbq k).getD i 0):=by
  intro i hi
  rw [hL]
  simp [zah,bs,letK,List.getD_eq_getElem?_getD,hi]
 generalize zbq k=ps at *
 refine za8 (args:=[.int .i64 k]) (rs:=[.tmp 2]) (n:=24) Try.func31 rfl rfl rfl (by kernel_rfl) ?_
 have hA0:=Below.refl w.heap.size w
 first|refine zzr fun K hK=>?_|refine zzt fun K hK=>?_
 simp [go_sem,za0,za2,za1]
 refine hK _ _ ?_;clear hK K
 first|refine zzr fun K hK=>?_|refine zzt fun K hK=>?_
 simp [go_sem,za0,za2,za1]
 refine za5 (by simp [go_sem,za0,za2,za1]) rfl Try.call42 (fun R hR=>?_)
 simp [go_sem,za0,za2,za1]
 refine (ashape_any k h1 h2 _).mono ?_
 rintro e w1 ⟨rfl,hE1⟩
 refine ⟨_,rfl,hR _ _ ?_⟩
 clear hR R
 replace hA0:=hA0.next hE1
 simp [go_sem,za0,za2,za1]
 rw [←hL]
 refine hK _ _ ?_;clear hK K
 first|refine zzr fun K hK=>?_|refine zzt fun K hK=>?_
 simp [go_sem,za0,za2,za1]
 refine hK _ _ ?_;clear hK K
 refine zad (fun K1 hK1=>?_)
 first|refine zzr fun K hK=>?_|refine zzt fun K hK=>?_
 simp [go_sem,za0,za2,za1]
 refine hv_range (s:=L) (by simp [go_sem]) rfl ty_isStr9 (by simp [go_sem]) (fun w2 ib hE hib hit=>?_)
 have hA2:=hA0.next hE
 have hB2:w.heap.size≤ib:=Nat.le_trans hA0.size hib
 have hB3:w.heap.size≤w2.heap.size:=hA2.size
 have hib2:ib<w2.heap.size:=hit.lt
 simp [go_sem]
 refine hK _ _ ?_;clear hK K
 refine zag ?_
 refine zaJ (fun m g w'=>Below w.heap.size w w'∧w2.heap.size≤w'.heap.size∧∃ (i:Nat) (v:Value),i≤ps.length∧m=ps.length-i∧It w' ib L i∧w'.ownsRow w2.heap.size 3 1 v i (intC (ps.take i))∧g 5=v∧g 14 = .pointer (some ⟨ib,0,none⟩)) ps.length ?_ ?_
 ·exact ⟨hA2,Nat.le_refl _,0,.slice none 0 0,Nat.zero_le _,rfl,hit,World.ownsRow_nil _ _ _ _,by simp [go_sem],by simp [go_sem]⟩
 clear hA0 hA2 hE hit
 rintro m g w' ⟨hA0,hsz,i,v,hi,rfl,hit,hown,g5,g14⟩
 by_cases hlt:i<ps.length
 ·have hlt':i<L.size:=by rw [hLs];exact hlt
  have hbi:=hLb i hlt
  have hba:(zah L i).toNat<128:=by
   rw [hbi]
   rcases letP_cases (ps.getD i 0) with h|h|h|h<;>rw [h]<;>decide
  have hdw:=dec_ascii L i hlt' hba
  have hdc:=dec_asciiC L i hlt' hba
  rw [hbi] at hdc
  have hpi:0≤ps.getD i 0∧ps.getD i 0≤3:=hr _ (by rw [List.getD_eq_getElem?_getD,List.getElem?_eq_getElem hlt];exact List.getElem_mem hlt)
  have htk:ps.take (i+1)=ps.take i++[ps.getD i 0]:=by rw [List.take_succ_eq_append_getElem hlt,List.getD_eq_getElem?_getD,List.getElem?_eq_getElem hlt];rfl
  generalize ps.getD i 0=p at *
  first|refine zzr fun K hK=>?_|refine zzt fun K hK=>?_
  simp [go_sem,za0,za2,za1]
  refine hv_next (by simp [go_sem]) rfl (by simp [go_sem,g14]) hit hlt' (by decide) (fun w3 hS hit3=>?_)
  rw [hdc,hdw] at *
  have hA3:Below w.heap.size w w3:=hA0.nextS hS hB2
  have hown3:w3.ownsRow w2.heap.size 3 1 v i (intC (ps.take i)):=ownL_sto hown hS (fun e=>by have:=(hown.lt ib e).1;omega)
  have hsz3:w2.heap.size≤w3.heap.size:=by rw [hS.size];exact hsz
  clear hA0 hown hit hsz
  simp [go_sem]
  refine hK _ _ ?_;clear hK K
  refine zad (fun K3 hK3=>?_)
  refine zao (t:=true) (by simp [go_sem]) rfl ?_
  refine zae ?_
  refine hK3 _ _ ?_
  refine zag ?_
  first|refine zzr fun K hK=>?_|refine zzt fun K hK=>?_
  simp [go_sem]
  refine hK _ _ ?_;clear hK K
  first|refine zzr fun K hK=>?_|refine zzt fun K hK=>?_
  simp [go_sem,g5]
  refine za5 (by simp [go_sem,g5]) rfl Try.call43 (fun R hR=>?_)
  simp [go_sem,g5]
  refine (indexRune_any p hpi _).mono ?_
  rintro e w4 ⟨rfl,rfl⟩
  refine ⟨_,rfl,hR _ _ ?_⟩
  clear hR R
  simp [go_sem]
  refine zam #[.int .i64 p] (by simp [go_sem]) rfl zdb (by decide) [(0,.int .i64 p)] (by simp [go_sem]) (by kernel_rfl) (fun w8 b8 hE8 hle8 hB8=>?_)
  have hown8:w8.ownsRow w2.heap.size 3 1 v i (intC (ps.take i)):=zax hown3 hE8
  replace hit3:=hit3.ext hE8 hit3.lt
  have hA8:=hA3.next hE8
  have hsz8:w2.heap.size≤w8.heap.size:=Nat.le_trans hsz3 hE8.size
  simp [go_sem]
  refine zcB (v:=v) (b:=b8) (len:=1) (c:=1) hB8 (by simp [go_sem]) rfl zdb ty_bytes3 rfl (by decide) (by simp [go_sem,g5]) (by simp [go_sem]) hown8 rfl (by simp [Value.oneCell']) (by unfold maxLen;omega) (by omega) hsz8 (by decide) (fun v' w9 hown9 hg9 _=>?_)
  replace hit3:=hit3.grown hg9 (fun e=>by have:=(hown8.lt ib e.symm).1;omega)
  have hA9:=hA8.nextG hg9 (fun b e=>by have:=(hown8.lt b e).1;omega)
  have hsz9:w2.heap.size≤w9.heap.size:=Nat.le_trans hsz8 hg9.size
  simp [go_sem]
  refine hK _ _ ?_;clear hK K
  refine ⟨ps.length-(i+1),by omega,hA9,hsz9,i+1,v',by omega,rfl,hit3,?_,by simp [go_sem],by simp [go_sem,g14]⟩
  rw [htk]
  simpa [intC] using hown9
 ·have hie:i=ps.length:=by omega
  subst hie
  rw [List.take_length] at hown
  first|refine zzr fun K hK=>?_|refine zzt fun K hK=>?_
  simp [go_sem]
  refine hv_next_end (by simp [go_sem]) rfl (by simp [go_sem,g14]) hit (by omega) ?_
  simp [go_sem]
  refine hK _ _ ?_;clear hK K
  refine zad (fun K3 hK3=>?_)
  refine zao (t:=false) (by simp [go_sem]) rfl ?_
  refine zaB ?_
  repeat (first|refine zak ?_|refine za9 rfl ?_|refine zac ?_)
  refine hK1 _ _ ?_
  first|refine zzr fun K hK=>?_|refine zzt fun K hK=>?_
  simp [go_sem,g5]
  refine hK _ _ ?_;clear hK K
  obtain ⟨a,c,rfl⟩:=zbz hown
  refine zal ?_
  repeat (first|refine za4 ?_|refine za3 ?_)
  refine ⟨trivial,a,c,?_,zca hown,fun ad ha=>?_,hA0⟩
  ·simp [go_sem,zaw,zav]
  ·subst ha;exact Nat.le_trans hB3 (hown.lt ad.block rfl).1
end Go.Proofs.Ytefhenfofomjhaa
namespace Go.V
open Go Go.RowKit
def Keep (L:List Addr) (w0 w:World):Prop:=∀ a∈L,w.cell? a=w0.cell? a
@[go_sem] theorem zd1 (L:List Addr) (w:World):Keep L w w:=fun _ _=>rfl
theorem Keep.trans {L:List Addr} {w0 w1 w2:World} (h:Keep L w0 w1) (h':Keep L w1 w2):Keep L w0 w2:=fun a ha=>(h' a ha).trans (h a ha)
theorem Keep.below {L:List Addr} {w0 w:World} (hL:∀ a∈L,a.block<w0.heap.size) (h:Below w0.heap.size w0 w):Keep L w0 w:=fun a ha=>World.cell?_of_block (w:=w0) (a:=a) (h.block _ (hL a ha))
theorem Keep.grown {L:List Addr} {w0 w:World} {r:Option Nat} (hL:∀ a∈L,a.block<w0.heap.size∧some a.block≠r) (h:w0.grownBy w r):Keep L w0 w:=fun a ha=>World.cell?_of_block (w:=w0) (a:=a) (h.block _ (hL a ha).1 (hL a ha).2)
def ldK (L:List Addr):Option Nat→Value→Prop
 | none,.pointer (some a)=>a∈L
 | _,_=>False
@[go_sem] theorem ldK_one (L:List Addr) (a:Addr):ldK L none (.pointer (some a))=(a∈L):=rfl
def ldOk (P:Program) (L:List Addr) (ev:Operand→Value):Op→Prop
 | .load t x=>ldK L (aggT P t) (ev x)
 | _=>True
def outS:Option (Value × Prop)→Prop
 | some p=>p.2
 | none=>False
@[go_sem] theorem outS_some (v:Value) (p:Prop):outS (some (v,p))=p:=rfl
def lokS (P:Program) (L:List Addr) (w0:World) (ev:Operand→Value) (op:Op):Prop:=outS (lc P w0 ev op)∧ldOk P L ev op
section
variable {P:Program} {L:List Addr} {w0 w:World} {ev:Operand→Value} {ty:TypeId}
theorem lc_world (op:Op) (h:∀ t x,op≠.load t x):lc P w ev op=lc P w0 ev op:=by
 cases op<;>first
  | rfl
  | exact absurd rfl (h _ _)
  | (
    rename_i c
    obtain ⟨cal,args,ts⟩:=c
    cases cal<;>first
     | rfl
     | (rename_i bi;cases bi<;>rfl))
theorem lokS_sound {op:Op} (h:lokS P L w0 ev op) (hk:Keep L w0 w):zc7 P w ev ty op=some (.value (lvO P w0 ev ty op)):=by
 obtain ⟨h1,h2⟩:=h
 cases hp:lc P w0 ev op with
 | none=>rw [hp] at h1;exact h1.elim
 | some p =>
  rw [hp] at h1
  have hv:lvO P w0 ev ty op=p.1:=by unfold lvO;rw [hp]
  rw [hv]
  by_cases hl:∃ t x,op = .load t x
  ·obtain ⟨t,x,rfl⟩:=hl
   simp only [ldOk] at h2
   rw [lc_load] at hp
   cases ha:aggT P t with
   | some n=>rw [ha] at h2;exact h2.elim
   | none =>
    rw [ha] at h2 hp
    cases hx:ev x with
    | pointer o =>
     cases o with
     | none=>rw [hx] at h2;exact h2.elim
     | some a =>
      rw [hx] at h2 hp
      rw [ldC_one] at hp
      injection hp with hp
      subst hp
      have h3:w.cell? a=w0.cell? a:=hk a h2
      have h4:(w0.cell? a).isSome=true:=h1
      have h5:=sound_load1 (P:=P) (ty:=ty) hx ha (w:=w) (by rw [h3];exact h4)
      rw [h5]
      simp only [cellV,h3]
    | _=>rw [hx] at h2;exact h2.elim
  ·rw [←lc_world (w:=w) op (fun t x e=>hl ⟨t,x,e⟩)] at hp
   exact sound_lc hp h1
end
section
variable {P:Program} {n:Nat} {md:Region.Mode} {ops:Array Oper} {tm:Nat→Bool} {w0:World} {L:List Addr}
def opK (P:Program) (ops:Array Oper) (tm:Nat→Bool) (L:List Addr) (w0:World) (i:Nat) (K:Act→World→Prop) (a:Act) (w:World):Prop :=
 match ops[i]? with
 | none=>K a w
 | some o=>if Region.wanted o (yielded ops a.tmps)=true then hwp P a.eval o w (fun v w'=>(tm i=true→Keep L w0 w')∧K (a.put o.dst v) w') else K (a.put o.dst undef) w
theorem opK_mono {i:Nat} {K K':Act→World→Prop} {a:Act} {w:World} (h:∀ a w,K a w→K' a w) (hh:opK P ops tm L w0 i K a w):opK P ops tm L w0 i K' a w:=by
 unfold opK at *
 split
 ·rename_i ho;simp only [ho] at hh;exact h _ _ hh
 ·rename_i o ho
  simp only [ho] at hh
  split
  ·rename_i hw;rw [if_pos hw] at hh;exact zb4 (fun v w' ⟨h1,h2⟩=>⟨h1,h _ _ h2⟩) hh
  ·rename_i hw;rw [if_neg hw] at hh;exact h _ _ hh
def anyK (P:Program) (md:Region.Mode) (ops:Array Oper) (tm:Nat→Bool) (L:List Addr) (w0:World) (Q:Act→World→Prop):Nat→Array Bool→Act→World→Prop
 | 0,listed,a,w=>Region.ready md ops listed=[]∧Q a w
 | fuel+1,listed,a,w=>(Region.ready md ops listed=[]→Q a w)∧∀ i∈Region.ready md ops listed,opK P ops tm L w0 i (anyK P md ops tm L w0 Q fuel (listed.setIfInBounds i true)) a w
theorem zct {Q:Act→World→Prop} {Q':Exit→Act→World→Prop} (hQ:∀ a w,Q a w→Q' .normal a w):∀ (fuel:Nat) (listed:Array Bool) (a:Act) (w:World),anyK P md ops tm L w0 Q fuel listed a w→wpAny P md ops Q' fuel listed a w
 | 0,_,_,_,h=>⟨h.1,hQ _ _ h.2⟩
 | fuel+1,listed,a,w,h=>by
  refine ⟨fun h0=>hQ _ _ (h.1 h0),fun i hi=>?_⟩
  have hi':=h.2 i hi
  unfold opK at hi'
  unfold wpOp
  split
  ·rename_i ho;simp only [ho] at hi';exact zct hQ fuel _ _ _ hi'
  ·rename_i o ho
   simp only [ho] at hi'
   split
   ·rename_i hw
    rw [if_pos hw] at hi'
    exact .inl (zdr (zb4 (fun v w' ⟨_,h2⟩=>zct hQ fuel _ _ _ h2) hi'))
   ·rename_i hw;rw [if_neg hw] at hi';exact zct hQ fuel _ _ _ hi'
def YieldsK (P:Program) (ops:Array Oper) (L:List Addr) (w0:World) (o:Oper) (v:Value) (a:Act):Prop :=
 (Region.wanted o (yielded ops a.tmps)=true∧∀ w,Keep L w0 w→zaM P (execOp a.eval o) w=some (.value v))∨(Region.wanted o (yielded ops a.tmps)=false∧v=undef)
theorem YieldsK.opK {i:Nat} {o:Oper} {v:Value} {a:Act} {w:World} (hi:ops[i]? = some o) (hy:YieldsK P ops L w0 o v a) (hb:Keep L w0 w) {K:Act→World→Prop} (h:K (a.put o.dst v) w):opK P ops tm L w0 i K a w:=by
 unfold Go.V.opK
 simp only [hi]
 rcases hy with ⟨hw,hv⟩|⟨hw,rfl⟩
 ·rw [if_pos hw]
  unfold hwp
  rw [tame_run _ _ _ _ (hv w hb)]
  exact ⟨fun _=>hb,h⟩
 ·rw [if_neg (by simp [hw])];exact h
theorem YieldsK.put {oi oj:Oper} {v u:Value} {a:Act} (hy:YieldsK P ops L w0 oi v a) (hs:∀ cs b,oi.op≠.select cs b) (h3:∀ d,oj.dst=some d→d∉oi.looksAt ops) :
  YieldsK P ops L w0 oi v (a.put oj.dst u):=by
 unfold YieldsK at *
 rw [wanted_put oi a oj.dst u h3,execOp_put oi hs a oj.dst u h3]
 exact hy
theorem opK_put {j:Nat} {oi oj:Oper} {v:Value} (hj:ops[j]? = some oj) (hap:oi.apart ops oj=true) (hsi:∀ cs b,oi.op≠.select cs b) (hsj:∀ cs b,oj.op≠.select cs b) (htm:tm j=true)
  {K:Act→World→Prop} {a:Act} {w:World} (hb:Keep L w0 w) (hy:YieldsK P ops L w0 oi v a) (h:opK P ops tm L w0 j K (a.put oi.dst v) w) :
  opK P ops tm L w0 j (fun a' w'=>(YieldsK P ops L w0 oi v a'∧Keep L w0 w')∧K (a'.put oi.dst v) w') a w:=by
 obtain ⟨h1,h2,h3⟩:=Oper.apart_spec hap
 unfold opK at *
 simp only [hj] at *
 rw [wanted_put oj a oi.dst v h1] at h
 split
 ·rename_i hw
  rw [if_pos hw] at h
  unfold hwp at h ⊢
  rw [execOp_put oj hsj a oi.dst v h1] at h
  revert h
  generalize (execOp a.eval oj).run P w=r
  intro h
  cases r with
  | ok n w' =>
   cases n<;>first
    | exact h.elim
    | (exact ⟨h.1,⟨hy.put hsi h3,h.1 htm⟩,by rw [←Act.put_comm a _ _ h2];exact h.2⟩)
    | (exact Calls.mono h (fun e w'' ⟨u,he,hk⟩=>⟨u,he,hk.1,⟨hy.put hsi h3,hk.1 htm⟩,by rw [←Act.put_comm a _ _ h2];exact hk.2⟩))
  | halt x w'=>exact h.elim
 ·rename_i hw
  rw [if_neg hw] at h
  exact ⟨⟨hy.put hsi h3,hb⟩,by rw [←Act.put_comm a _ _ h2];exact h⟩
theorem anyK_first {Q:Act→World→Prop} {i:Nat} {oi:Oper} {v:Value} (hi:ops[i]? = some oi) (hsel:∀ (j:Nat) (o:Oper) cs b,ops[j]? = some o→o.op≠.select cs b) (M:List Nat) :
  ∀ (fuel:Nat) (listed:Array Bool) (a:Act) (w:World),
   (∀ j oj,ops[j]? = some oj→j≠i→listed.getD j true=false→j∉M→oi.apart ops oj=true∧tm j=true) →
   (∀ j∈M,listed.getD j false=false∧∃ oj e,ops[j]? = some oj∧e∈oj.after∧Region.binds md e=true∧(e.on=i∨e.on∈M)) →
   i∈Region.ready md ops listed→YieldsK P ops L w0 oi v a→Keep L w0 w →
   anyK P md ops tm L w0 Q fuel (listed.setIfInBounds i true) (a.put oi.dst v) w→anyK P md ops tm L w0 Q (fuel+1) listed a w:=by
 intro fuel
 induction fuel with
 | zero =>
  intro listed a w _ _ hr hy hb H
  refine ⟨fun h=>(by rw [h] at hr;cases hr),fun j hj=>?_⟩
  by_cases hji:j=i
  ·subst hji;exact hy.opK hi hb H
  ·have:=ready_mono hj hji
   rw [H.1] at this
   cases this
 | succ fuel ih =>
  intro listed a w hfree hM hr hy hbw H
  refine ⟨fun h=>(by rw [h] at hr;cases hr),fun j hj=>?_⟩
  by_cases hji:j=i
  ·subst hji;exact hy.opK hi hbw H
  ·have h1:=H.2 j (ready_mono hj hji)
   obtain ⟨hjun,oj,hoj,hall⟩:=mem_ready.1 hj
   have hiun:listed.getD i false=false:=by
    have h0:=(mem_ready.1 hr).1
    rcases Nat.lt_or_ge i listed.size with h'|h'
    ·simp [h'] at h0 ⊢;exact h0
    ·simp [Array.getElem?_eq_none h'] at h0
   have hjM:j∉M:=fun hm=>by
    obtain ⟨_,oj',e,ho',he,hb,hon⟩:=hM j hm
    rw [hoj] at ho'
    injection ho' with ho'
    subst ho'
    have hl:=hall e he hb
    rcases hon with hon|hon
    ·rw [hon,hiun] at hl;cases hl
    ·rw [(hM _ hon).1] at hl;cases hl
   obtain ⟨hap,htm⟩:=hfree j oj hoj hji hjun hjM
   have h2:=opK_put hoj hap (fun cs b=>hsel i oi cs b hi) (fun cs b=>hsel j oj cs b hoj) htm hbw hy h1
   refine opK_mono (fun a' w' h3=>ih (listed.setIfInBounds j true) a' w' ?_ ?_ (ready_mono hr (Ne.symm hji)) h3.1.1 h3.1.2 ?_) h2
   ·intro k ok hk hki hun hkM
    refine hfree k ok hk hki ?_ hkM
    by_cases hjk:j=k
    ·subst hjk;exact hjun
    ·rw [getD_set_ne true hjk] at hun;exact hun
   ·intro k hk
    obtain ⟨hk1,hk2⟩:=hM k hk
    refine ⟨?_,hk2⟩
    have hne:j≠k:=fun e=>hjM (e▸hk)
    rw [getD_set_ne false hne];exact hk1
   ·rw [Array.setIfInBounds_comm _ _ hji]
    exact h3.2
def zdH (P:Program) (ops:Array Oper) (L:List Addr) (w0:World):List (Nat × Nat)→G→World→(G→World→Prop)→Prop
 | [],g,w,K=>K g w
 | (i,0)::rest,g,w,K=>match ops[i]? with
  | none=>False
  | some o=>Keep L w0 w∧(Region.wanted o (yG ops g)=true→lokS P L w0 (evG g) o.op) ∧
    zdH P ops L w0 rest (zbY g o.dst (if Region.wanted o (yG ops g)=true then lvO P w0 (evG g) o.type o.op else undef)) w K
 | (i,k+1)::rest,g,w,K=>hvI P ops ops[i]? 1 (fun g' w'=>(k=0→Keep L w0 w')∧zdH P ops L w0 rest g' w' K) g w
theorem zde (hok:zdL n ops=true) {K:G→World→Prop} {Q:Act→World→Prop} (hQ:∀ g a w,Rel n g a→K g w→Q a w) :
  ∀ (plan:List (Nat × Nat)) (listed:Array Bool) (g:G) (a:Act) (w:World),(∀ p∈plan,2≤p.2→tm p.1=false)→canB md ops tm plan listed=true→Rel n g a→zdH P ops L w0 plan g w K→anyK P md ops tm L w0 Q plan.length listed a w
 | [],listed,g,a,w,_,hB,hr,h=>⟨by simpa [canB] using hB,hQ _ _ _ hr h⟩
 | (i,0)::rest,listed,g,a,w,hp,hB,hr,h=>by
  simp only [canB,Bool.and_eq_true] at hB
  obtain ⟨⟨hrd,hf⟩,hB'⟩:=hB
  simp only [zdH] at h
  cases ho:ops[i]? with
  | none=>simp [ho] at h
  | some o =>
   simp only [ho] at h
   obtain ⟨hk,h1,h2⟩:=h
   have hd:=(zaP hok ho).2.1
   obtain ⟨f1,f2⟩:=zdh ho hf
   refine anyK_first (v:=if Region.wanted o (yG ops g)=true then lvO P w0 (evG g) o.type o.op else undef) ho (fun j o cs b hj=>(zaP hok hj).2.2 cs b) _ rest.length listed a w f1 f2 (by simpa using hrd) ?_ hk ?_
   ·unfold YieldsK
    rw [zbK hr hok o,zbL hr hok ho]
    cases hw:Region.wanted o (yG ops g)
    ·exact .inr ⟨rfl,by simp⟩
    ·exact .inl ⟨rfl,fun w' hk'=>by rw [if_pos rfl];exact lokS_sound (ty:=o.type) (h1 hw) hk'⟩
   ·exact zde hok hQ rest _ _ _ w (fun p hm=>hp p (List.mem_cons_of_mem _ hm)) hB' (hr.put o.dst hd _) h2
 | (i,k+1)::rest,listed,g,a,w,hp,hB,hr,h=>by
  simp only [canB,Bool.and_eq_true,beq_iff_eq] at hB
  obtain ⟨hrd,hB'⟩:=hB
  have hk:tm i=true→k=0:=fun ht=>by
   rcases Nat.eq_zero_or_pos k with h|h
   ·exact h
   ·have:=hp (i,k+1) List.mem_cons_self (by show 2≤k+1;omega)
    rw [this] at ht;cases ht
  refine ⟨fun h0=>(by rw [hrd] at h0;cases h0),fun j hj=>?_⟩
  rw [hrd] at hj
  have hji:j=i:=by simpa using hj
  subst hji
  simp only [zdH] at h
  unfold opK
  cases ho:ops[j]? with
  | none=>simp [ho,hvI] at h
  | some o =>
   simp only [ho,zd8,hvX] at h
   simp only []
   have hd:=(zaP hok ho).2.1
   have step:∀ g' a' w',Rel n g' a'→((k=0→Keep L w0 w')∧zdH P ops L w0 rest g' w' K)→(tm j=true→Keep L w0 w')∧anyK P md ops tm L w0 Q rest.length (listed.setIfInBounds j true) a' w':=by
    rintro g' a' w' hr' ⟨q1,q2⟩
    refine ⟨fun ht=>q1 (hk ht),?_⟩
    exact zde hok hQ rest _ _ _ w' (fun p hm=>hp p (List.mem_cons_of_mem _ hm)) hB' hr' q2
   rw [zbK hr hok o]
   split
   ·rename_i hw
    rw [if_pos hw] at h
    unfold hwp at h ⊢
    rw [zbL hr hok ho]
    exact zb4 (K:=fun v w'=>(1=0→Below w.heap.size w w')∧(k=0→Keep L w0 w')∧zdH P ops L w0 rest (zbY g o.dst v) w' K) (fun v w' ⟨_,h1⟩=>step _ _ _ (hr.put o.dst hd v) h1) h
   ·rename_i hw
    rw [if_neg hw] at h
    exact (step _ _ _ (hr.put o.dst hd _) h).2
theorem W_drawS (L:List Addr) (plan:List (Nat × Nat)) {id:Nat} {ops:Array Oper} {Q:Exit→G→World→Prop} {g:G} {w:World} (hm:P.follows .mixedOrders=true) (hB:drawOk n ops plan=true)
  (h:∀ K:G→World→Prop,(∀ g w,Q .normal g w→K g w)→zdH P ops L w.drew plan g w.drew K):W P n (.region id ops true) Q g w:=by
 simp only [drawOk,Bool.and_eq_true,beq_iff_eq] at hB
 obtain ⟨⟨hok,hl⟩,hB⟩:=hB
 intro a hr
 refine wp_region_any hm ?_
 have hw:=h _ (fun _ _ h=>h)
 have hany:=zde hok (tm:=fun i=>!wildOf plan i) (Q:=fun a w=>∃ g',Rel n g' a∧Q .normal g' w) (fun g a w hr hk=>⟨g,hr,hk⟩) plan _ g a _ (wildOf_spec plan) hB hr hw
 rw [hl] at hany
 exact zct (fun a w h=>h) _ _ _ _ hany
theorem W_rdS (L:List Addr) (plan:List (Nat × Nat)) {id:Nat} {ops:Array Oper} {y:Code} {Q:Exit→G→World→Prop} {g:G} {w:World} (hm:P.follows .mixedOrders=true) (hB:drawOk n ops plan=true)
  (h:∀ K:G→World→Prop,(∀ g w,W P n y Q g w→K g w)→zdH P ops L w.drew plan g w.drew K):W P n (.seq (.region id ops true) y) Q g w :=
 zad (fun K1 h1=>W_drawS L plan hm hB (fun K2 h2=>h K2 (fun g w hy=>h2 g w (h1 g w hy))))
section
variable {g:G} {w:World} {K:G→World→Prop} {rest:List (Nat × Nat)} {i:Nat}
def nxS (P:Program) (ops:Array Oper) (L:List Addr) (w0:World) (k:Nat) (rest:List (Nat × Nat)) (K:G→World→Prop):G→World→Prop:=fun g' w'=>(k=0→Keep L w0 w')∧zdH P ops L w0 rest g' w' K
theorem zb3 {k:Nat} {g':G} {w':World} (h1:Keep L w0 w') (h2:zdH P ops L w0 rest g' w' K):nxS P ops L w0 k rest K g' w':=⟨fun _=>h1,h2⟩
theorem zcu {g':G} {w':World} (h2:zdH P ops L w0 rest g' w' K):nxS P ops L w0 1 rest K g' w':=⟨fun h=>absurd h (by decide),h2⟩
@[go_sem] theorem walkS_nil:zdH P ops L w0 [] g w K=K g w:=rfl
def lightS (P:Program) (ops:Array Oper) (L:List Addr) (w0:World) (o:Option Oper) (rest:List (Nat × Nat)) (g:G) (w:World) (K:G→World→Prop):Prop:=match o with
 | none=>False
 | some ⟨d,op,ty,_,_,none⟩=>Keep L w0 w∧lokS P L w0 (evG g) op∧zdH P ops L w0 rest (zbY g d (lvO P w0 (evG g) ty op)) w K
 | some ⟨d,op,ty,_,_,some (j,b)⟩=>Keep L w0 w∧(gw (zcO ops[j]?) g b=true→lokS P L w0 (evG g) op) ∧
   zdH P ops L w0 rest (zbY g d (if gw (zcO ops[j]?) g b=true then lvO P w0 (evG g) ty op else undef)) w K
theorem walkS_light' (o:Option Oper) (h:ops[i]? = o):zdH P ops L w0 ((i,0)::rest) g w K=lightS P ops L w0 o rest g w K:=by
 subst h
 simp only [zdH]
 cases ops[i]? with
 | none=>rfl
 | some o =>
  obtain ⟨d,op,ty,pos,af,gd⟩:=o
  cases gd with
  | none=>simp [lightS,Region.wanted]
  | some jb =>
   obtain ⟨j,b⟩:=jb
   have e:Region.wanted ⟨d,op,ty,pos,af,some (j,b)⟩ (yG ops g)=gw (zcO ops[j]?) g b:=want_eq j b
   simp only [e,lightS]
@[go_sem] theorem walkS_light:zdH P ops L w0 ((i,0)::rest) g w K=lightS P ops L w0 (ops[i]?) rest g w K:=walkS_light' _ rfl
@[go_sem] theorem walkS_heavy1:zdH P ops L w0 ((i,1)::rest) g w K=hvI P ops (ops[i]?) 1 (nxS P ops L w0 0 rest K) g w:=rfl
@[go_sem] theorem walkS_heavy2:zdH P ops L w0 ((i,2)::rest) g w K=hvI P ops (ops[i]?) 1 (nxS P ops L w0 1 rest K) g w:=rfl
@[go_sem] theorem lightS_plain (d:Option Nat) (op:Op) (ty:TypeId) (pos:String) (af:Array Edge) :
  lightS P ops L w0 (some ⟨d,op,ty,pos,af,none⟩) rest g w K=(Keep L w0 w∧lokS P L w0 (evG g) op∧zdH P ops L w0 rest (zbY g d (lvO P w0 (evG g) ty op)) w K):=rfl
@[go_sem] theorem lightS_guard (d:Option Nat) (op:Op) (ty:TypeId) (pos:String) (af:Array Edge) (j:Nat) (b:Bool) :
  lightS P ops L w0 (some ⟨d,op,ty,pos,af,some (j,b)⟩) rest g w K=(Keep L w0 w∧(gw (zcO ops[j]?) g b=true→lokS P L w0 (evG g) op) ∧
   zdH P ops L w0 rest (zbY g d (if gw (zcO ops[j]?) g b=true then lvO P w0 (evG g) ty op else undef)) w K):=rfl
section
variable (x y z:Operand) (t u:TypeId) (o:BinOp) (q:UnOp) (f:Nat) (ev:Operand→Value)
@[go_sem] theorem lokS_load:lokS P L w0 ev (.load t x)=(outS (lc P w0 ev (.load t x))∧ldK L (aggT P t) (ev x)):=rfl
@[go_sem] theorem lokS_move:lokS P L w0 ev (.move x)=True:=by simp [lokS,ldOk,lc,outS]
@[go_sem] theorem lokS_assign:lokS P L w0 ev (.assign x)=True:=by simp [lokS,ldOk,lc,outS]
@[go_sem] theorem lokS_bin:lokS P L w0 ev (.binOp o t x y u)=outS (binC P o t (ev x) (ev y)):=by simp [lokS,ldOk,lc]
@[go_sem] theorem lokS_nil:lokS P L w0 ev (.nilCheck x)=outS (nilC (ev x)):=by
 have:lc P w0 ev (.nilCheck x)=nilC (ev x):=rfl
 simp [lokS,ldOk,this]
@[go_sem] theorem lokS_fa:lokS P L w0 ev (.fieldAddr t x f)=outS (faC (zdV P t f) (ev x)):=by
 have:lc P w0 ev (.fieldAddr t x f)=faC (zdV P t f) (ev x):=rfl
 simp [lokS,ldOk,this]
@[go_sem] theorem lokS_ia:lokS P L w0 ev (.indexAddr t x y)=outS (iaC (slE P t) (ev x) (ev y)):=by
 have:lc P w0 ev (.indexAddr t x y)=iaC (slE P t) (ev x) (ev y):=rfl
 simp [lokS,ldOk,this]
@[go_sem] theorem lokS_ex:lokS P L w0 ev (.extract x f)=outS (exC f (ev x)):=by
 have:lc P w0 ev (.extract x f)=exC f (ev x):=by rw [lc_extract]
 simp [lokS,ldOk,this]
end
end
end
end Go.V
