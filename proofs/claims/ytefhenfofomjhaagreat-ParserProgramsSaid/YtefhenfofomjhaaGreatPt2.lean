/- The parser: names. -/
import Derived.Test.YtefhenfofomjhaaGreatAp1
import Derived.Test.YtefhenfofomjhaaGreatTy
import Derived.WalkLawsBesides
set_option linter.unusedSimpArgs false
set_option linter.unusedVariables false
set_option maxHeartbeats 1000000
set_option maxRecDepth 20000
namespace Go.Proofs.YtefhenfofomjhaaGreat
open Go Go.RowKit Go.V
structure Tok where
 k:Nat
 p:Nat
 e:Nat
 t:List UInt8
instance:Inhabited Tok:=⟨⟨0,0,0,[]⟩⟩
def zai (T:List Tok) (i:Nat):Tok:=T.getD i default
def zcV (t:Tok):List Value:=[.int .i64 t.k,.int .i64 t.p,.int .i64 t.e,.string ⟨t.t.toArray⟩]
def zc2 (T:List Tok):List Value:=(T.map zcV).flatten
theorem zd4 {α:Type} {n:Nat}:∀ {rows:List (List α)},(∀ R∈rows,R.length=n)→rows.flatten.length=n*rows.length
 | [],_=>by simp
 | R::r,h=>by
  rw [List.flatten_cons,List.length_append,h R (List.mem_cons_self ..),zd4 (fun q hq=>h q (List.mem_cons_of_mem _ hq)),List.length_cons,Nat.mul_succ];omega
theorem zdz {α:Type} {n:Nat}:∀ {rows:List (List α)} {i:Nat} {R:List α},(∀ R∈rows,R.length=n)→rows[i]? = some R→(rows.flatten.drop (i*n)).take n=R
 | [],_,_,_,h=>by simp at h
 | Q::r,0,R,hl,h=>by
  simp at h
  subst h
  rw [Nat.zero_mul,List.drop_zero,List.flatten_cons,List.take_left' (hl Q (List.mem_cons_self ..))]
 | Q::r,i+1,R,hl,h=>by
  have hq:=hl Q (List.mem_cons_self ..)
  rw [List.flatten_cons,Nat.succ_mul,Nat.add_comm,←List.drop_drop,List.drop_left' hq]
  exact zdz (fun q hq=>hl q (List.mem_cons_of_mem _ hq)) (by simpa using h)
theorem zes (T:List Tok):∀ R∈T.map zcV,R.length=4:=by
 intro R hR
 obtain ⟨t,_,rfl⟩:=List.mem_map.1 hR
 rfl
theorem zdt {w:World} {a:Option Addr} {T:List Tok} (h:SL w a (zc2 T)) {i:Nat} (hi:i<T.length) :
  za4 w ((a.getD default).add (i*4)) 0 4=zcV (zai T i)∧za1 w ((a.getD default).add (i*4)) 0 4∧a.isSome=true:=by
 have hfl:=zd4 (zes T)
 rw [List.length_map] at hfl
 have hle:i*4+4≤(zc2 T).length:=by unfold zc2;rw [hfl];omega
 obtain ⟨q1,q2,q3⟩:=h.row (i*4) 4 hle (by decide)
 refine ⟨?_,q2,q3⟩
 rw [q1]
 unfold zc2 zai
 refine zdz (zes T) ?_
 simp [List.getD_eq_getElem?_getD,hi]
structure PS (w:World) (b:Nat) (tb:TypeId) (la:Option Addr) (cap:Nat) (T:List Tok) (i:Nat) (at' er:Int):Prop where
 bx:Bx w b #[.slice la T.length cap,.int .i64 i,.int .i64 at',.int .i64 er] tb
 sl:SL w la (zc2 T)
 ne:∀ ad,la=some ad→ad.block≠b
 lt:i<T.length
theorem PS.ext {w w':World} {b tb cap i:Nat} {la:Option Addr} {T:List Tok} {at' er:Int} (h:PS w b tb la cap T i at' er) (hb:Below w.heap.size w w'):PS w' b tb la cap T i at' er:=⟨h.bx.keep hb,h.sl.ext hb,h.ne,h.lt⟩
theorem PS.keep {w w':World} {b tb cap i:Nat} {la:Option Addr} {T:List Tok} {at' er:Int} (h:PS w b tb la cap T i at' er) (hb:Below w.heap.size w w'):PS w' b tb la cap T i at' er:=h.ext hb
theorem PS.cells {w:World} {b tb cap i:Nat} {la:Option Addr} {T:List Tok} {at' er:Int} (h:PS w b tb la cap T i at' er) :
  w.cell? ⟨b,0,none⟩=some (.slice la T.length cap)∧w.cell? ⟨b,1,none⟩=some (.int .i64 i)∧w.cell? ⟨b,2,none⟩=some (.int .i64 at')∧w.cell? ⟨b,3,none⟩=some (.int .i64 er) :=
 ⟨h.bx.cell 0,h.bx.cell 1,h.bx.cell 2,h.bx.cell 3⟩
theorem zcd {w:World} {b tb cap i:Nat} {la:Option Addr} {T:List Tok} {at' er:Int} (h:PS w b tb la cap T i at' er) (hT:T.length≤maxLen) :
  Calls Tryz.prog 13 #[.pointer (some ⟨b,0,none⟩)] w fun e w'=>e = .returned (.agg (zcV (zai T i)).toArray)∧Below w.heap.size w w':=by
 have hlt:(i:Int)<T.length:=by have:=h.lt;omega
 have hlt':=h.lt
 refine za5 (rs:=[.cell 2 52]) (n:=13) Tryz.func13 rfl rfl rfl (by kernel_rfl) ?_
 have hA0:=Below.refl w.heap.size w
 refine zzr fun K hK=>?_
 simp [go_sem,za0,za4,za1]
 refine zza rfl zcb (fun w1 b1 hE1 hle1 hB1=>?_)
 have hb1_0:=Nat.le_trans hA0.size hle1
 replace hA0:=hA0.next hE1
 simp [go_sem,za0,za4,za1,hB1.cell]
 apply hK;clear hK K
 have hD:=h.ext (hA0.next (Below.drew1 _))
 obtain ⟨k0,k1,k2,k3⟩:=hD.cells
 obtain ⟨r1,r2,r3⟩:=zdt hD.sl h.lt
 have hD2:=Below.drew1 w1
 replace hA0:=hA0.next hD2
 replace hB1:=hB1.keep hD2
 refine W_rd [(0,0),(1,0),(2,0),(3,0),(4,0),(5,0),(6,0),(7,0),(8,0),(9,0),(10,2)] (by kernel_rfl) (by kernel_rfl) (fun K hK=>?_)
 simp [go_sem,za0,hB1.cell, k0,k1,hlt,hlt',r1,r2,r3]
 refine zzs (b:=b1) (off:=0) [.int .i64 (zai T i).k,.int .i64 (zai T i).p,.int .i64 (zai T i).e,.string ⟨(zai T i).t.toArray⟩] rfl zaR hB1 (fun w3 hS3 hB3=>?_) (by simp [go_sem,Value.cells,k0,k1,hlt,hlt',r1,r2,r3,zcV])
 simp [zaw] at hB3
 replace hA0:=hA0.nextS hS3 (by first|exact hb1_0|omega)
 simp [go_sem,za0,hB3.cell,k0,k1,hlt,hlt',r1,r2,r3,zcV]
 apply hK;clear hK K
 refine zad ?_
 repeat first|refine za3 ?_|refine za2 ?_
 refine ⟨?_,?_,hA0⟩
 ·simp [go_sem,zaD,zam,za4,za1,za0,hB3.cell]
 ·simp [go_sem,zar,zam,za4,za1,za0,hB3.cell,zcV]
theorem zd5 {w:World} {b tb cap i:Nat} {la:Option Addr} {T:List Tok} {at' er:Int} (h:PS w b tb la cap T i at' er) :
  Calls Tryz.prog 15 #[.pointer (some ⟨b,0,none⟩)] w fun e w'=>e = .returned (.bool (decide (er=0)))∧Below w.heap.size w w':=by
 obtain ⟨k0,k1,k2,k3⟩:=h.cells
 refine za5 (rs:=[.tmp 2]) (n:=8) Tryz.func15 rfl rfl rfl (by kernel_rfl) ?_
 have hA0:=Below.refl w.heap.size w
 refine zzr fun K hK=>?_
 simp [go_sem,za0,za4,za1]
 apply hK;clear hK K
 refine zzr fun K hK=>?_
 simp [go_sem,za0,za4,za1, k3]
 apply hK;clear hK K
 refine zad ?_
 repeat first|refine za3 ?_|refine za2 ?_
 refine ⟨trivial,?_,hA0⟩
 simp [go_sem,zar,zam]
theorem PS.next {w w':World} {b tb cap i j:Nat} {la:Option Addr} {T:List Tok} {at' at2 er er2:Int} (h:PS w b tb la cap T i at' er) (hg:w.grownBy w' (some b)) (hb:Bx w' b #[.slice la T.length cap,.int .i64 j,.int .i64 at2,.int .i64 er2] tb) (hj:j<T.length):PS w' b tb la cap T j at2 er2:=by
 refine ⟨hb,?_,h.ne,hj⟩
 rcases h.sl with h0|⟨b',off,e,h1⟩
 ·exact .inl h0
 ·exact .inr ⟨b',off,e,fun j v hv=>hg.cell (h1 j v hv) (show some b'≠some b from fun e2=>h.ne _ e (by injection e2))⟩
theorem zaa {w w':World} {row:Option Nat} (h:Below w.heap.size w w'):w.grownBy w' row:=⟨h.os,h.tape,h.output,h.size,fun k hk _=>h.block k hk⟩
theorem zaS {w w':World} {b:Nat} (h:Sto w w' b):w.grownBy w' (some b):=⟨h.os,h.tape,h.output,by rw [h.size];exact Nat.le_refl _,fun k hk hn=>h.block k (fun e=>hn (by rw [e]))⟩
theorem failG_any {w:World} {b tb cap i:Nat} {la:Option Addr} {T:List Tok} {at':Int} (h:PS w b tb la cap T i at' 0) (hT:T.length≤maxLen) (er:Int) :
  Calls Tryz.prog 16 #[.pointer (some ⟨b,0,none⟩),.int .i64 er] w fun x w'=>x = .returned (.tuple #[])∧PS w' b tb la cap T i (zai T i).p er∧w.grownBy w' (some b):=by
 obtain ⟨k0,k1,k2,k3⟩:=h.cells
 refine za5 (rs:=[]) (n:=19) Tryz.func16 rfl rfl rfl (by kernel_rfl) ?_
 refine zzr fun K hK=>?_
 simp [go_sem,k3,za0]
 apply hK;clear hK K
 refine zaf (t:=true) (by simp [go_sem]) rfl ?_
 refine zzt fun K hK=>?_
 simp [go_sem,za0]
 refine zzc rfl Tryz.call13 (fun R hR=>?_)
 simp [go_sem]
 refine (zcd h hT).mono ?_
 rintro x w1 ⟨rfl,hE1⟩
 refine ⟨_,rfl,hR _ _ ?_⟩
 clear hR R
 have h1:=h.keep hE1
 have hbx:=h1.bx
 simp [go_sem,zcV,za0]
 refine zzs (b:=b) (off:=2) [.int .i64 (zai T i).p] rfl zaQ hbx (fun w2 hS2 hB2=>?_) (by simp [go_sem,Value.cells,zcV])
 simp [zaw] at hB2
 simp [go_sem,za0]
 refine zzs (b:=b) (off:=3) [.int .i64 er] rfl ty_size31 hB2 (fun w3 hS3 hB3=>?_) (by simp [go_sem,Value.cells])
 simp [zaw] at hB3
 simp [go_sem]
 apply hK
 refine ⟨trivial,?_,h.next (((zaa hE1).trans (zaS hS2)).trans (zaS hS3)) hB3 h.lt,((zaa hE1).trans (zaS hS2)).trans (zaS hS3)⟩
 simp [go_sem,zar,zam]
theorem failB_any {w:World} {b tb cap i:Nat} {la:Option Addr} {T:List Tok} {at' er0:Int} (h:PS w b tb la cap T i at' er0) (h0:¬er0=0) (er:Int) :
  Calls Tryz.prog 16 #[.pointer (some ⟨b,0,none⟩),.int .i64 er] w fun x w'=>x = .returned (.tuple #[])∧Below w.heap.size w w':=by
 obtain ⟨k0,k1,k2,k3⟩:=h.cells
 refine za5 (rs:=[]) (n:=19) Tryz.func16 rfl rfl rfl (by kernel_rfl) ?_
 refine zzr fun K hK=>?_
 simp [go_sem,k3,za0]
 apply hK;clear hK K
 refine zaf (t:=false) (by simp [go_sem,h0]) rfl ?_
 refine za7 ?_
 refine ⟨trivial,?_,Below.refl _ _⟩
 simp [go_sem,zar,zam]
def isT (T:List Tok) (er:Int) (i:Nat) (s:List UInt8):Bool:=decide (er=0) && (!decide ((zai T i).k=0) && decide ((zai T i).t=s))
theorem is_any {w:World} {b tb cap i:Nat} {la:Option Addr} {T:List Tok} {at' er:Int} (h:PS w b tb la cap T i at' er) (hT:T.length≤maxLen) (s:List UInt8) :
  Calls Tryz.prog 67 #[.pointer (some ⟨b,0,none⟩),.string ⟨s.toArray⟩] w fun x w'=>x = .returned (.bool (isT T er i s))∧Below w.heap.size w w':=by
 refine za5 (rs:=[.tmp 4]) (n:=20) Tryz.func67 rfl rfl rfl (by kernel_rfl) ?_
 have hA0:=Below.refl w.heap.size w
 refine zzr fun K hK=>?_
 simp [go_sem,za0,za4,za1]
 apply hK;clear hK K
 refine zzr fun K hK=>?_
 simp [go_sem,za0,za4,za1]
 refine zzc rfl Tryz.call15 (fun R hR=>?_)
 simp [go_sem,za0,za4,za1]
 refine (zd5 (h.ext hA0)).mono ?_
 rintro e w1 ⟨rfl,hE1⟩
 refine ⟨_,rfl,hR _ _ ?_⟩
 clear hR R
 replace hA0:=hA0.next hE1
 simp [go_sem,za0,za4,za1]
 by_cases h0:er=0
 ·by_cases h1:(zai T i).k=0
  ·simp [go_sem,za0,za4,za1,h0]
   refine zzc rfl Tryz.call13 (fun R hR=>?_)
   simp [go_sem,za0,za4,za1,h0,h1,zcV]
   refine (zcd (h.ext hA0) hT).mono ?_
   rintro e w2 ⟨rfl,hE2⟩
   refine ⟨_,rfl,hR _ _ ?_⟩
   clear hR R
   replace hA0:=hA0.next hE2
   simp [go_sem,za0,za4,za1,h0,h1,zcV]
   apply hK;clear hK K
   refine zad ?_
   repeat first|refine za3 ?_|refine za2 ?_
   refine ⟨trivial,?_,hA0⟩
   simp [go_sem,zar,zam,isT,h0,h1]
  ·simp [go_sem,za0,za4,za1,h0]
   refine zzc rfl Tryz.call13 (fun R hR=>?_)
   simp [go_sem,za0,za4,za1,h0,h1,zcV]
   refine (zcd (h.ext hA0) hT).mono ?_
   rintro e w3 ⟨rfl,hE3⟩
   refine ⟨_,rfl,hR _ _ ?_⟩
   clear hR R
   replace hA0:=hA0.next hE3
   simp [go_sem,za0,za4,za1,h0,h1,zcV]
   refine zzc rfl Tryz.call13 (fun R hR=>?_)
   simp [go_sem,za0,za4,za1,h0,h1,zcV]
   refine (zcd (h.ext hA0) hT).mono ?_
   rintro e w4 ⟨rfl,hE4⟩
   refine ⟨_,rfl,hR _ _ ?_⟩
   clear hR R
   replace hA0:=hA0.next hE4
   simp [go_sem,za0,za4,za1,h0,h1,zcV]
   apply hK;clear hK K
   refine zad ?_
   repeat first|refine za3 ?_|refine za2 ?_
   refine ⟨trivial,?_,hA0⟩
   simp [go_sem,zar,zam,isT,h0,h1]
 ·simp [go_sem,za0,za4,za1,h0]
  apply hK;clear hK K
  refine zad ?_
  repeat first|refine za3 ?_|refine za2 ?_
  refine ⟨trivial,?_,hA0⟩
  simp [go_sem,zar,zam,isT,h0]
theorem takeF_any {w:World} {b tb cap i:Nat} {la:Option Addr} {T:List Tok} {at' er:Int} (h:PS w b tb la cap T i at' er) (hT:T.length≤maxLen) (s:List UInt8) (hs:isT T er i s=false) :
  Calls Tryz.prog 42 #[.pointer (some ⟨b,0,none⟩),.string ⟨s.toArray⟩] w fun x w'=>x = .returned (.bool false)∧Below w.heap.size w w':=by
 refine za5 (rs:=[.tmp 4]) (n:=16) Tryz.func42 rfl rfl rfl (by kernel_rfl) ?_
 have hA0:=Below.refl w.heap.size w
 refine zzr fun K hK=>?_
 simp [go_sem,za0,za4,za1]
 apply hK;clear hK K
 refine zab (fun K1 hK1=>?_)
 refine zzr fun K hK=>?_
 simp [go_sem,za0,za4,za1]
 refine zzc rfl Tryz.call67 (fun R hR=>?_)
 simp [go_sem,za0,za4,za1]
 refine (is_any (h.ext hA0) hT s).mono ?_
 rintro e w1 ⟨rfl,hE1⟩
 refine ⟨_,rfl,hR _ _ ?_⟩
 clear hR R
 replace hA0:=hA0.next hE1
 simp [go_sem,za0,za4,za1]
 rw [hs]
 apply hK;clear hK K
 refine zaf (t:=true) (by simp [go_sem]) rfl ?_
 refine zzr fun K hK=>?_
 simp [go_sem,za0,za4,za1]
 apply hK;clear hK K
 refine zad ?_
 repeat first|refine za3 ?_|refine za2 ?_
 refine ⟨trivial,?_,hA0⟩
 simp [go_sem,zar,zam]
theorem isT_ok {T:List Tok} {er:Int} {i:Nat} {s:List UInt8} (h:isT T er i s=true):er=0∧(zai T i).k≠0∧(zai T i).t=s:=by
 unfold isT at h
 simpa using h
theorem takeT_any {w:World} {b tb cap i:Nat} {la:Option Addr} {T:List Tok} {at' er:Int} (h:PS w b tb la cap T i at' er) (hT:T.length≤maxLen) (s:List UInt8) (hs:isT T er i s=true) (hi:i+1<T.length) :
  Calls Tryz.prog 42 #[.pointer (some ⟨b,0,none⟩),.string ⟨s.toArray⟩] w fun x w'=>x = .returned (.bool true)∧PS w' b tb la cap T (i+1) at' er∧w.grownBy w' (some b):=by
 have hw:IntKind.i64.wrap ((i:Int)+1)=(i:Int)+1:=IntWalk.i64_in _ (by unfold maxLen at hT;omega)
 refine za5 (rs:=[.tmp 4]) (n:=16) Tryz.func42 rfl rfl rfl (by kernel_rfl) ?_
 have hA0:=Below.refl w.heap.size w
 refine zzr fun K hK=>?_
 simp [go_sem,za0,za4,za1]
 apply hK;clear hK K
 refine zab (fun K1 hK1=>?_)
 refine zzr fun K hK=>?_
 simp [go_sem,za0,za4,za1]
 refine zzc rfl Tryz.call67 (fun R hR=>?_)
 simp [go_sem,za0,za4,za1]
 refine (is_any (h.ext hA0) hT s).mono ?_
 rintro e w1 ⟨rfl,hE1⟩
 refine ⟨_,rfl,hR _ _ ?_⟩
 clear hR R
 replace hA0:=hA0.next hE1
 simp [go_sem,za0,za4,za1]
 rw [hs]
 apply hK;clear hK K
 refine zaf (t:=false) (by simp [go_sem]) rfl ?_
 refine za7 ?_
 apply hK1
 have h1:=h.keep hA0
 have hbx:=h1.bx
 obtain ⟨k0,k1,k2,k3⟩:=h1.cells
 refine zzr fun K hK=>?_
 simp [go_sem,za0,za4,za1, k1,hw]
 refine zzs (b:=b) (off:=1) [.int .i64 ((i:Int)+1)] rfl zaQ hbx (fun w9 hS9 hB9=>?_) (by simp [go_sem,Value.cells,k1,hw])
 simp [zaw] at hB9
 simp [go_sem]
 apply hK;clear hK K
 refine zzr fun K hK=>?_
 simp [go_sem,za0,za4,za1]
 apply hK;clear hK K
 refine zad ?_
 repeat first|refine za3 ?_|refine za2 ?_
 have hg:=(zaa hA0).trans (zaS hS9)
 refine ⟨trivial,?_,h.next hg (by simpa using hB9) hi,hg⟩
 simp [go_sem,zar,zam]
theorem mustT_any {w:World} {b tb cap i:Nat} {la:Option Addr} {T:List Tok} {at' er:Int} (h:PS w b tb la cap T i at' er) (hT:T.length≤maxLen) (s:List UInt8) (hs:isT T er i s=true) (hi:i+1<T.length) :
  Calls Tryz.prog 29 #[.pointer (some ⟨b,0,none⟩),.string ⟨s.toArray⟩] w fun x w'=>x = .returned (.tuple #[])∧PS w' b tb la cap T (i+1) at' er∧w.grownBy w' (some b):=by
 refine za5 (rs:=[]) (n:=10) Tryz.func29 rfl rfl rfl (by kernel_rfl) ?_
 refine zzr fun K hK=>?_
 simp [go_sem]
 refine zzc rfl Tryz.call42 (fun R hR=>?_)
 simp [go_sem]
 refine (takeT_any h hT s hs hi).mono ?_
 rintro x w1 ⟨rfl,h1,hg1⟩
 refine ⟨_,rfl,hR _ _ ?_⟩
 clear hR R
 simp [go_sem]
 apply hK;clear hK K
 refine zaf (t:=false) (by simp [go_sem]) rfl ?_
 refine za7 ?_
 refine ⟨trivial,?_,h1,hg1⟩
 simp [go_sem,zar,zam]
theorem mustF_any {w:World} {b tb cap i:Nat} {la:Option Addr} {T:List Tok} {at':Int} (h:PS w b tb la cap T i at' 0) (hT:T.length≤maxLen) (s:List UInt8) (hs:isT T 0 i s=false) :
  Calls Tryz.prog 29 #[.pointer (some ⟨b,0,none⟩),.string ⟨s.toArray⟩] w fun x w'=>x = .returned (.tuple #[])∧PS w' b tb la cap T i (zai T i).p 5∧w.grownBy w' (some b):=by
 refine za5 (rs:=[]) (n:=10) Tryz.func29 rfl rfl rfl (by kernel_rfl) ?_
 refine zzr fun K hK=>?_
 simp [go_sem]
 refine zzc rfl Tryz.call42 (fun R hR=>?_)
 simp [go_sem]
 refine (takeF_any h hT s hs).mono ?_
 rintro x w1 ⟨rfl,hE1⟩
 refine ⟨_,rfl,hR _ _ ?_⟩
 clear hR R
 simp [go_sem]
 apply hK;clear hK K
 refine zaf (t:=true) (by simp [go_sem]) rfl ?_
 refine zzt fun K hK=>?_
 simp [go_sem]
 refine zzc rfl Tryz.call16 (fun R hR=>?_)
 simp [go_sem]
 refine (failG_any (h.keep hE1) hT 5).mono ?_
 rintro x w2 ⟨rfl,h2,hg2⟩
 refine ⟨_,rfl,hR _ _ ?_⟩
 clear hR R
 simp [go_sem]
 apply hK;clear hK K
 refine ⟨trivial,?_,h2,(zaa hE1).trans hg2⟩
 simp [go_sem,zar,zam]
theorem mustB_any {w:World} {b tb cap i:Nat} {la:Option Addr} {T:List Tok} {at' er:Int} (h:PS w b tb la cap T i at' er) (hT:T.length≤maxLen) (s:List UInt8) (h0:¬er=0) :
  Calls Tryz.prog 29 #[.pointer (some ⟨b,0,none⟩),.string ⟨s.toArray⟩] w fun x w'=>x = .returned (.tuple #[])∧Below w.heap.size w w':=by
 refine za5 (rs:=[]) (n:=10) Tryz.func29 rfl rfl rfl (by kernel_rfl) ?_
 refine zzr fun K hK=>?_
 simp [go_sem]
 refine zzc rfl Tryz.call42 (fun R hR=>?_)
 simp [go_sem]
 refine (takeF_any h hT s (by simp [isT,h0])).mono ?_
 rintro x w1 ⟨rfl,hE1⟩
 refine ⟨_,rfl,hR _ _ ?_⟩
 clear hR R
 simp [go_sem]
 apply hK;clear hK K
 refine zaf (t:=true) (by simp [go_sem]) rfl ?_
 refine zzt fun K hK=>?_
 simp [go_sem]
 refine zzc rfl Tryz.call16 (fun R hR=>?_)
 simp [go_sem]
 refine (failB_any (h.keep hE1) h0 5).mono ?_
 rintro x w2 ⟨rfl,hE2⟩
 refine ⟨_,rfl,hR _ _ ?_⟩
 clear hR R
 simp [go_sem]
 apply hK;clear hK K
 refine ⟨trivial,?_,hE1.next hE2⟩
 simp [go_sem,zar,zam]
end Go.Proofs.YtefhenfofomjhaaGreat
namespace Go.Proofs.YtefhenfofomjhaaGreat
open Go.RowKit Go.V
def zdg (c:Int):Int :=
 if c=32∨c=9∨c=13∨c=10 then 1
 else if (97≤c∧c≤122)∨(65≤c∧c≤90) then 2
 else if 48≤c∧c≤57 then 3
 else if c=40∨c=41∨c=44∨c=59∨c=47∨c=45 then 4
 else if c=58 then 5
 else if c=35 then 6
 else 0
def letB (c:Int):Bool:=decide (65≤c∧c≤90∨97≤c∧c≤122)
def digB (c:Int):Bool:=decide (48≤c∧c≤57)
theorem zeb (c:Int):decide (zdg c=2)=letB c:=by
 unfold zdg letB
 rw [decide_eq_decide]
 (repeat' split)<;>omega
theorem ze1 (c:Int):decide (zdg c=3)=digB c:=by
 unfold zdg digB
 rw [decide_eq_decide]
 (repeat' split)<;>omega
theorem ret_int {k:IntKind} {a b:Int} (h:a=b):Ending.returned (.int k a) = .returned (.int k b):=by rw [h]
theorem ret_bool {a b:Bool} (h:a=b):Ending.returned (.bool a) = .returned (.bool b):=by rw [h]
theorem kind_any (c:Int) (w:World) :
  Calls Tryz.prog 24 #[.int .u8 c] w fun e w'=>e = .returned (.int .i64 (zdg c))∧w=w':=by
 go_enter Tryz.func24,Tryz.ntmps24
 go_wp2
 all_goals go_ret
 all_goals (refine ⟨ret_int ?_,rfl⟩;(try simp only [beq_iff_eq,beq_eq_false_iff_ne,ne_eq] at *);unfold zdg;(repeat' split)<;>omega)
theorem letter_any (c:Int) (w:World) :
  Calls Tryz.prog 35 #[.int .u8 c] w fun e w'=>e = .returned (.bool (letB c))∧w=w':=by
 go_enter Tryz.func35,Tryz.ntmps35
 go_wp2
 all_goals go_ret
 all_goals (refine ⟨ret_bool ?_,rfl⟩;unfold letB;simp [*];try omega)
theorem digit_any (c:Int) (w:World) :
  Calls Tryz.prog 36 #[.int .u8 c] w fun e w'=>e = .returned (.bool (digB c))∧w=w':=by
 go_enter Tryz.func36,Tryz.ntmps36
 go_wp2
 all_goals go_ret
 all_goals (refine ⟨ret_bool ?_,rfl⟩;unfold digB;simp [*];try omega)
def goOn (L:Bool) (c:UInt8):Bool:=decide (zdg c.toNat=3) || (L && decide (zdg c.toNat=2))
def endN (L:Bool):List UInt8→Nat
 | []=>0
 | c::l=>if goOn L c=true then endN L l+1 else 0
theorem zco (s:ByteArray) (k:Nat) (h:k<s.size):(bs s).drop k=za9 s k::(bs s).drop (k+1):=by
 have h':k<(bs s).length:=by rw [zb7];exact h
 rw [List.drop_eq_getElem_cons h']
 simp only [za9,List.getD_eq_getElem?_getD,List.getElem?_eq_getElem h',Option.getD_some]
theorem drop_end (s:ByteArray) (k:Nat) (h:¬k<s.size):(bs s).drop k=[]:=by
 apply List.drop_eq_nil_of_le
 rw [zb7];omega
theorem endN_step (L:Bool) (s:ByteArray) (k:Nat):endN L ((bs s).drop k)=if (decide (k<s.size) && goOn L (za9 s k))=true then endN L ((bs s).drop (k+1))+1 else 0:=by
 by_cases h:k<s.size
 ·rw [zco s k h];simp [endN,h]
 ·rw [drop_end s k h];simp [endN,h]
theorem endN_le (L:Bool):∀ l:List UInt8,endN L l≤l.length
 | []=>by simp [endN]
 | c::l=>by have:=endN_le L l;unfold endN;split<;>simp<;>omega
theorem endN_all (L:Bool):∀ l:List UInt8,(endN L l=l.length)=(l.all (goOn L)=true)
 | []=>by simp [endN]
 | c::l=>by
  have ih:=endN_all L l
  have:=endN_le L l
  unfold endN
  by_cases h:goOn L c=true
  ·rw [if_pos h];simp [h,←ih]
  ·rw [if_neg h];simp [h]
theorem end_any (s:ByteArray) (n:Nat) (L:Bool) (w:World) (hs:s.size≤maxLen) (hn:n≤s.size) :
  Calls Tryz.prog 48 #[.string s,.int .i64 n,.bool L] w fun e w'=>e = .returned (.int .i64 ↑(n+endN L ((bs s).drop n)))∧w=w':=by
 unfold maxLen at hs
 refine za5 (rs:=[.tmp 6]) (n:=31) Tryz.func48 rfl rfl rfl (by kernel_rfl) ?_
 refine zzr fun K hK=>?_
 simp [go_sem]
 apply hK;clear hK K
 refine zab (fun K1 hK1=>?_)
 refine zac ?_
 refine zaz (fun m g w'=>w'=w∧∃ k:Nat,n≤k∧k≤s.size∧m=s.size-k∧g 0 = .string s∧g 1 = .int .i64 k∧g 2 = .bool L∧k+endN L ((bs s).drop k)=n+endN L ((bs s).drop n)) (s.size-n) ?_ ?_
 ·exact ⟨rfl,n,Nat.le_refl _,hn,rfl,rfl,rfl,rfl,rfl⟩
 ·rintro m g w' ⟨rfl,k,h1,h2,rfl,g0,g1,g2,hk⟩
  refine zab (fun K2 hK2=>?_)
  refine zeH (fun g' w1=>w1=w'∧g' 0 = .string s∧g' 1 = .int .i64 k∧g' 2 = .bool L∧g' 27 = .bool (decide (k<s.size) && goOn L (za9 s k))) (by kernel_rfl) ?_ ?_
  ·by_cases hlt:k<s.size
   ·simp [go_sem,g0,g1,g2,hlt]
    refine zzc rfl Tryz.call24 (fun R hR=>?_)
    simp [go_sem,hlt]
    refine (kind_any _ _).mono ?_
    rintro e w1 ⟨rfl,rfl⟩
    refine ⟨_,rfl,hR _ _ ?_⟩
    clear hR R
    unfold goOn
    by_cases h3:zdg ↑(za9 s k).toNat=3
    ·simp [go_sem,h3,g0,g1,g2]
    ·cases L with
     | false =>
      simp [go_sem,h3,g0,g1,g2]
     | true =>
      simp [go_sem,h3,g0,g1,g2,hlt]
      refine zzc rfl Tryz.call24 (fun R hR=>?_)
      simp [go_sem,h3,g2]
      refine (kind_any _ _).mono ?_
      rintro e w1 ⟨rfl,rfl⟩
      refine ⟨_,rfl,hR _ _ ?_⟩
      clear hR R
      simp [go_sem,h3,g0,g1,g2,hlt]
   ·simp [go_sem,g0,g1,g2,hlt]
  ·rintro g' w1 ⟨rfl,g0,g1,g2,g27⟩
   refine zaf g27 rfl ?_
   rw [endN_step] at hk
   cases hb:(decide (k<s.size) && goOn L (za9 s k)) with
   | true =>
    rw [hb,if_pos rfl] at hk
    have hlt:k<s.size:=by simp at hb;exact hb.1
    refine za7 (hK2 _ _ ?_);clear hK2 K2
    refine zac ?_
    refine zzt fun K hK=>?_
    simp [go_sem,g0,g1,g2]
    refine hK _ _ ⟨s.size-(k+1),by omega,rfl,k+1,by omega,by omega,rfl,?_,?_,?_,by omega⟩
    all_goals simp (disch:=omega) [go_sem,g0,g1,g2,IntWalk.i64_in]
   | false =>
    rw [hb,if_neg (by simp)] at hk
    refine zav ?_
    repeat (first|refine zae ?_|refine za6 rfl ?_|refine za8 ?_)
    apply hK1;clear hK1 K1 hK2 K2
    refine zzr fun K hK=>?_
    simp [go_sem,g0,g1,g2]
    apply hK;clear hK K
    refine zad ⟨trivial,?_,rfl⟩
    simp [go_sem,zar,zam]
    omega
def KW:List (List UInt8):=[[97,110,103,108,101],
 [97,112,101,120],
 [98,105,115,101,99,116,111,114],
 [99,101,110,116,101,114],
 [99,105,114,99,108,101],
 [99,105,114,99,117,109],
 [99,111,108,108,105,110,101,97,114],
 [99,111,109,109,111,110],
 [99,111,110,99,121,99,108,105,99],
 [99,111,110,103,114,117,101,110,116],
 [99,114,111,115,115],
 [99,117,116],
 [100,105,118,105,100,101],
 [102,111,111,116],
 [108,105,110,101],
 [109,101,101,116],
 [109,105,100,112,111,105,110,116],
 [109,105,114,114,111,114],
 [111,110],
 [111,116,104,101,114],
 [112,97,114,97,108,108,101,108],
 [112,101,114,112,101,110,100,105,99,117,108,97,114],
 [112,111,105,110,116,115],
 [112,114,111,118,101],
 [114,97,116,105,111],
 [114,101,102,108,101,99,116],
 [115,97,109,101],
 [115,104,105,102,116],
 [116,117,114,110]]
def strV (l:List UInt8):Value:=.string ⟨l.toArray⟩
def KWC:Array Value:=(KW.map strV).toArray
def kwAt (k:Nat):List UInt8:=KW.getD k []
def isKw (l:List UInt8):Bool:=KW.contains l
theorem kw_any (w:World):Calls Tryz.prog 49 #[] w fun e w'=>∃ b,e = .returned (.slice (some ⟨b,0,none⟩) 29 29)∧Below w.heap.size w w'∧w.heap.size≤b∧Bx w' b KWC 9:=by
 refine za5 (rs:=[.tmp 0]) (n:=2) Tryz.func49 rfl rfl rfl (by kernel_rfl) ?_
 refine zzr fun K hK=>?_
 simp [go_sem]
 apply hK;clear hK K
 refine zzr fun K hK=>?_
 simp [go_sem]
 refine zak KWC (by simp [go_sem]) rfl zcO (by decide) _ rfl (by kernel_rfl) (fun w1 b hb hle hbx=>?_)
 simp [go_sem]
 apply hK;clear hK K
 refine zad ⟨trivial,b,?_,hb,hle,hbx⟩
 simp [go_sem,zar,zam]
theorem kwr_any (w:World):Calls Tryz.prog 62 #[] w fun e w'=>∃ b,e = .returned (.slice (some ⟨b,0,none⟩) 29 29)∧Below w.heap.size w w'∧w.heap.size≤b∧Bx w' b KWC 9:=by
 refine za5 (rs:=[.tmp 0]) (n:=2) Tryz.func62 rfl rfl rfl (by kernel_rfl) ?_
 refine zzr fun K hK=>?_
 simp [go_sem]
 apply hK;clear hK K
 refine zzr fun K hK=>?_
 simp [go_sem]
 refine zak KWC (by simp [go_sem]) rfl zcO (by decide) _ rfl (by kernel_rfl) (fun w1 b hb hle hbx=>?_)
 simp [go_sem]
 apply hK;clear hK K
 refine zad ⟨trivial,b,?_,hb,hle,hbx⟩
 simp [go_sem,zar,zam]
def preB (l:List UInt8):Bool:=!l.isEmpty && decide (l.length≤20) && decide (zdg (l.getD 0 0).toNat=2) && l.all (goOn true)
def nameB (l:List UInt8):Bool:=preB l && !(isKw l)
theorem preB_s (s:ByteArray):preB (bs s)=(decide (0<s.size) && decide (s.size≤20) && decide (zdg (za9 s 0).toNat=2) && (bs s).all (goOn true)):=by
 unfold preB za9
 rw [zb7]
 congr 3
 rw [←zb7]
 cases bs s<;>simp
theorem KWC_get (k:Nat) (hk:k<29):KWC[k]? = some (strV (kwAt k)):=by
 have h:k<KW.length:=hk
 simp [kwAt,KWC,List.getD_eq_getElem?_getD,List.getElem?_eq_getElem h]
theorem KW_mem (l:List UInt8) (h:∀ i,i<29→kwAt i≠l):isKw l=false:=by
 cases hc:isKw l with
 | false=>rfl
 | true =>
  unfold isKw at hc
  rw [List.contains_iff_mem] at hc
  obtain ⟨i,hi,he⟩:=List.getElem_of_mem hc
  refine absurd ?_ (h i hi)
  rw [kwAt,List.getD_eq_getElem?_getD,List.getElem?_eq_getElem hi,Option.getD_some,he]
theorem KW_hit (l:List UInt8) (i:Nat) (hi:i<29) (h:kwAt i=l):isKw l=true:=by
 have hi':i<KW.length:=hi
 unfold isKw
 rw [List.contains_iff_mem,←h,kwAt,List.getD_eq_getElem?_getD,List.getElem?_eq_getElem hi',Option.getD_some]
 exact List.getElem_mem hi'
theorem endN_lt (s:ByteArray):decide (((endN true (bs s):Nat):Int)<((s.size:Nat):Int)) = !((bs s).all (goOn true)):=by
 have h1:=endN_le true (bs s)
 have h2:=endN_all true (bs s)
 rw [zb7] at h1 h2
 cases hb:(bs s).all (goOn true) with
 | true =>
  have:endN true (bs s)=s.size:=by rw [h2,hb]
  simp [this]
 | false =>
  have:endN true (bs s)≠s.size:=by rw [Ne,h2,hb];simp
  simp;omega
theorem isName_any (s:ByteArray) (w:World) (hs:s.size≤maxLen) :
  Calls Tryz.prog 27 #[.string s] w fun e w'=>e = .returned (.bool (nameB (bs s)))∧Below w.heap.size w w':=by
 have hl:=zb7 s
 have hpre:=preB_s s
 refine za5 (rs:=[.tmp 2]) (n:=35) Tryz.func27 rfl rfl rfl (by kernel_rfl) ?_
 refine zzr fun K hK=>?_
 simp [go_sem]
 apply hK;clear hK K
 refine zab (fun K1 hK1=>?_)
 refine zeH (fun g w1=>w1=w∧g 0 = .string s∧g 24 = .bool (!preB (bs s))) (by kernel_rfl) ?_ ?_
 ·by_cases h0:s.size=0
  ·have e:bs s=[]:=List.length_eq_zero_iff.1 (by rw [zb7];exact h0)
   have hp:preB (bs s)=false:=by rw [e];rfl
   have e2:bs ⟨#[]⟩=[]:=rfl
   have e3:preB []=false:=rfl
   simp [go_sem,e,e3,e2]
  ·have hpos:0<s.size:=by omega
   have e:¬bs s=[]:=fun h=>h0 (by rw [←zb7,h];rfl)
   have e2:bs ⟨#[]⟩=[]:=rfl
   by_cases h20:s.size≤20
   ·have h20':¬(20:Int)<s.size:=by omega
    simp [go_sem,e,e2,h20',hpos]
    refine zzc rfl Tryz.call24 (fun R hR=>?_)
    simp [go_sem,h20']
    refine (kind_any _ _).mono ?_
    rintro e w1 ⟨rfl,rfl⟩
    refine ⟨_,rfl,hR _ _ ?_⟩
    clear hR R
    by_cases h2:zdg ↑(za9 s 0).toNat=2
    ·simp [go_sem,h2,h20']
     refine zzc rfl Tryz.call48 (fun R hR=>?_)
     simp [go_sem,h2,h20']
     refine (end_any s 0 true _ hs (by omega)).mono ?_
     rintro e w1 ⟨rfl,rfl⟩
     refine ⟨_,rfl,hR _ _ ?_⟩
     clear hR R
     have e3:=endN_lt s
     simp [go_sem,h2,h20',hpre,hpos,h20] at e3 ⊢
     exact e3
    ·simp [go_sem,h2,h20',hpre]
   ·have h20':(20:Int)<s.size:=by omega
    simp [go_sem,e,e2,h20',hpos,hpre,h20]
 ·rintro g w1 ⟨rfl,g0,g24⟩
  refine zaf g24 rfl ?_
  cases hb:preB (bs s) with
  | false =>
   refine zzr fun K hK=>?_
   simp [go_sem]
   apply hK;clear hK K
   refine zad ?_
   repeat first|refine za3 ?_|refine za2 ?_
   refine ⟨trivial,?_,Below.refl _ _⟩
   simp [go_sem,zar,zam,nameB,hb]
  | true =>
   refine za7 (hK1 _ _ ?_);clear hK1 K1
   refine zab (fun K1 hK1=>?_)
   refine zzr fun K hK=>?_
   simp [go_sem]
   refine zzc rfl Tryz.call49 (fun R hR=>?_)
   simp [go_sem]
   refine (kw_any _).mono ?_
   rintro e w2 ⟨b,rfl,hE,hle,hbx⟩
   refine ⟨_,rfl,hR _ _ ?_⟩
   clear hR R
   simp [go_sem]
   apply hK;clear hK K
   refine zac ?_
   refine zaz (fun m g w'=>w'=w2∧∃ k:Nat,k≤29∧m=29-k∧g 0 = .string s∧g 25 = .slice (some ⟨b,0,none⟩) 29 29∧g 26 = .int .i64 29∧g 27 = .int .i64 k∧∀ i,i<k→kwAt i≠bs s) 29 ?_ ?_
   ·exact ⟨rfl,0,by omega,rfl,by simp [go_sem,g0],rfl,rfl,rfl,fun i hi=>by omega⟩
   ·rintro m g w' ⟨rfl,k,h1,rfl,g0,g25,g26,g27,hk⟩
    by_cases hlt:k<29
    ·have hlt':(k:Int)<29:=by omega
     refine zzr fun K hK=>?_
     simp [go_sem,g26,g27,hlt']
     apply hK;clear hK K
     refine zab (fun K2 hK2=>?_)
     refine zaf (by simp [go_sem];rfl) rfl ?_
     refine za7 (hK2 _ _ ?_);clear hK2 K2
     refine zab (fun K2 hK2=>?_)
     refine zac ?_
     have hc:=hbx.cell k
     rw [KWC_get k hlt] at hc
     refine zzr fun K hK=>?_
     simp [go_sem,g25,g27,hc,hlt']
     apply hK;clear hK K
     have ek:bs ⟨(kwAt k).toArray⟩=kwAt k:=bs_mk _
     refine zzr fun K hK=>?_
     simp [go_sem,g0,strV]
     by_cases heq:kwAt k=bs s
     ·apply hK;clear hK K
      refine zaf (by simp [go_sem,ek,heq];rfl) rfl ?_
      refine zzr fun K hK=>?_
      simp [go_sem]
      apply hK;clear hK K
      refine zad ?_
      repeat first|refine za3 ?_|refine za2 ?_
      refine ⟨trivial,?_,hE⟩
      simp [go_sem,zar,zam,nameB,hb,KW_hit _ k hlt heq]
     ·apply hK;clear hK K
      refine zaf (by simp [go_sem,ek,heq];rfl) rfl ?_
      refine za7 ?_
      apply hK2;clear hK2 K2
      refine zzt fun K hK=>?_
      simp [go_sem,g27]
      refine hK _ _ ⟨29-(k+1),by omega,rfl,k+1,by omega,rfl,?_,?_,?_,?_,?_⟩
      ·simp [go_sem,g0]
      ·simp [go_sem,g25]
      ·simp [go_sem,g26]
      ·simp (disch:=omega) [go_sem,IntWalk.i64_in]
      ·intro i hi
       by_cases h:i=k
       ·rw [h];exact heq
       ·exact hk i (by omega)
    ·have hlt':¬(k:Int)<29:=by omega
     refine zzr fun K hK=>?_
     simp [go_sem,g26,g27,hlt']
     apply hK;clear hK K
     refine zab (fun K2 hK2=>?_)
     refine zaf (by simp [go_sem];rfl) rfl ?_
     refine zav ?_
     repeat (first|refine zae ?_|refine za6 rfl ?_|refine za8 ?_)
     apply hK1
     refine zzr fun K hK=>?_
     simp [go_sem]
     apply hK;clear hK K
     refine zad ⟨trivial,?_,hE⟩
     have:=KW_mem (bs s) (fun i hi=>hk i (by omega))
     simp [go_sem,zar,zam,nameB,hb,this]
end Go.Proofs.YtefhenfofomjhaaGreat
namespace Go.Proofs.YtefhenfofomjhaaGreat
open Go Go.RowKit Go.V
theorem toks_text {w:World} {lb lo:Nat} {T:List Tok} (h:SL w (some ⟨lb,lo,none⟩) (zc2 T)) {i:Nat} (hi:i<T.length):w.cell? ⟨lb,lo+i*4+3,none⟩=some (.string ⟨(zai T i).t.toArray⟩):=by
 have hrow:((zc2 T).drop (i*4)).take 4=zcV (zai T i):=by
  unfold zc2 zai
  refine zdz (zes T) ?_
  simp [List.getD_eq_getElem?_getD,hi]
 have h3:(zc2 T)[i*4+3]? = some (.string ⟨(zai T i).t.toArray⟩):=by
  have h4:(((zc2 T).drop (i*4)).take 4)[3]? = some (.string ⟨(zai T i).t.toArray⟩):=by rw [hrow];rfl
  rw [List.getElem?_take_of_lt (by decide),List.getElem?_drop] at h4
  exact h4
 rcases h with h0|⟨b,off,e,h1⟩
 ·rw [h0] at h3;simp at h3
 ·injection e with e
  injection e with e1 e2
  subst e1;subst e2
  have:=h1 _ _ h3
  rwa [←Nat.add_assoc] at this
def nmT (T:List Tok) (er:Int) (i:Nat):Bool:=decide (er=0) && (decide ((zai T i).k=1) && nameB (zai T i).t)
theorem named_any {w:World} {b tb cap i:Nat} {la:Option Addr} {T:List Tok} {at' er:Int} (h:PS w b tb la cap T i at' er) (hT:T.length≤maxLen) (hl:(zai T i).t.length≤maxLen) :
  Calls Tryz.prog 12 #[.pointer (some ⟨b,0,none⟩)] w fun x w'=>x = .returned (.bool (nmT T er i))∧Below w.heap.size w w':=by
 refine za5 (rs:=[.tmp 2]) (n:=17) Tryz.func12 rfl rfl rfl (by kernel_rfl) ?_
 have hA0:=Below.refl w.heap.size w
 refine zzr fun K hK=>?_
 simp [go_sem,za0,za4,za1]
 apply hK;clear hK K
 refine zzr fun K hK=>?_
 simp [go_sem,za0,za4,za1]
 refine zzc rfl Tryz.call15 (fun R hR=>?_)
 simp [go_sem,za0,za4,za1]
 refine (zd5 (h.ext hA0)).mono ?_
 rintro e w1 ⟨rfl,hE1⟩
 refine ⟨_,rfl,hR _ _ ?_⟩
 clear hR R
 replace hA0:=hA0.next hE1
 simp [go_sem,za0,za4,za1]
 by_cases h0:er=0
 ·by_cases h1:(zai T i).k=1
  ·have h1':((zai T i).k:Int)=1:=by omega
   simp [go_sem,za0,za4,za1,h0]
   refine zzc rfl Tryz.call13 (fun R hR=>?_)
   simp [go_sem,za0,za4,za1,h0,h1,h1',zcV]
   refine (zcd (h.ext hA0) hT).mono ?_
   rintro e w2 ⟨rfl,hE2⟩
   refine ⟨_,rfl,hR _ _ ?_⟩
   clear hR R
   replace hA0:=hA0.next hE2
   simp [go_sem,za0,za4,za1,h0,h1,h1',zcV]
   refine zzc rfl Tryz.call13 (fun R hR=>?_)
   simp [go_sem,za0,za4,za1,h0,h1,h1',zcV]
   refine (zcd (h.ext hA0) hT).mono ?_
   rintro e w3 ⟨rfl,hE3⟩
   refine ⟨_,rfl,hR _ _ ?_⟩
   clear hR R
   replace hA0:=hA0.next hE3
   simp [go_sem,za0,za4,za1,h0,h1,h1',zcV]
   refine zzc rfl Tryz.call27 (fun R hR=>?_)
   simp [go_sem,za0,za4,za1,h0,h1,h1',zcV]
   refine (isName_any ⟨(zai T i).t.toArray⟩ _ (by simpa [ByteArray.size] using hl)).mono ?_
   rintro e w4 ⟨rfl,hE4⟩
   refine ⟨_,rfl,hR _ _ ?_⟩
   clear hR R
   replace hA0:=hA0.next hE4
   simp [go_sem,za0,za4,za1,h0,h1,h1',zcV]
   apply hK;clear hK K
   refine zad ?_
   repeat first|refine za3 ?_|refine za2 ?_
   refine ⟨trivial,?_,hA0⟩
   simp [go_sem,zar,zam,nmT,h0,h1,bs]
  ·have h1':¬((zai T i).k:Int)=1:=by omega
   simp [go_sem,za0,za4,za1,h0]
   refine zzc rfl Tryz.call13 (fun R hR=>?_)
   simp [go_sem,za0,za4,za1,h0,h1,h1',zcV]
   refine (zcd (h.ext hA0) hT).mono ?_
   rintro e w5 ⟨rfl,hE5⟩
   refine ⟨_,rfl,hR _ _ ?_⟩
   clear hR R
   replace hA0:=hA0.next hE5
   simp [go_sem,za0,za4,za1,h0,h1,h1',zcV]
   apply hK;clear hK K
   refine zad ?_
   repeat first|refine za3 ?_|refine za2 ?_
   refine ⟨trivial,?_,hA0⟩
   simp [go_sem,zar,zam,nmT,h0,h1,h1']
 ·simp [go_sem,za0,za4,za1,h0]
  apply hK;clear hK K
  refine zad ?_
  repeat first|refine za3 ?_|refine za2 ?_
  refine ⟨trivial,?_,hA0⟩
  simp [go_sem,zar,zam,nmT,h0]
theorem nameT_any {w:World} {b tb cap i:Nat} {la:Option Addr} {T:List Tok} {at' er:Int} (h:PS w b tb la cap T i at' er) (hT:T.length≤maxLen) (hl:(zai T i).t.length≤maxLen) (hs:nmT T er i=true) (hi:i+1<T.length) :
  Calls Tryz.prog 54 #[.pointer (some ⟨b,0,none⟩)] w fun x w'=>x = .returned (.string ⟨(zai T i).t.toArray⟩)∧PS w' b tb la cap T (i+1) at' er∧w.grownBy w' (some b):=by
 have hw:IntKind.i64.wrap ((i:Int)+1)=(i:Int)+1:=IntWalk.i64_in _ (by unfold maxLen at hT;omega)
 have hw2:IntKind.i64.wrap ((i:Int)+1-1)=(i:Int):=by rw [IntWalk.i64_in _ (by unfold maxLen at hT;omega)];omega
 have hw3:IntKind.i64.wrap (i:Int)=(i:Int):=IntWalk.i64_in _ (by unfold maxLen at hT;omega)
 refine za5 (rs:=[.tmp 2]) (n:=27) Tryz.func54 rfl rfl rfl (by kernel_rfl) ?_
 have hA0:=Below.refl w.heap.size w
 refine zzr fun K hK=>?_
 simp [go_sem,za0,za4,za1]
 apply hK;clear hK K
 refine zab (fun K1 hK1=>?_)
 refine zzr fun K hK=>?_
 simp [go_sem,za0,za4,za1]
 refine zzc rfl Tryz.call12 (fun R hR=>?_)
 simp [go_sem,za0,za4,za1]
 refine (named_any (h.ext hA0) hT hl).mono ?_
 rintro e w1 ⟨rfl,hE1⟩
 refine ⟨_,rfl,hR _ _ ?_⟩
 clear hR R
 replace hA0:=hA0.next hE1
 simp [go_sem,za0,za4,za1]
 rw [hs]
 apply hK;clear hK K
 refine zaf (t:=false) (by simp [go_sem]) rfl ?_
 refine za7 ?_
 apply hK1
 have h1:=h.keep hA0
 have hbx:=h1.bx
 obtain ⟨k0,k1,k2,k3⟩:=h1.cells
 refine zzr fun K hK=>?_
 simp [go_sem,za0,za4,za1, k1,hw]
 refine zzs (b:=b) (off:=1) [.int .i64 ((i:Int)+1)] rfl zaQ hbx (fun w9 hS9 hB9=>?_) (by simp [go_sem,Value.cells,k1,hw])
 simp [zaw] at hB9
 simp [go_sem]
 apply hK;clear hK K
 have hg:=(zaa hA0).trans (zaS hS9)
 have h2:PS _ b tb la cap T (i+1) at' er:=h.next hg (by simpa using hB9) hi
 have hD:=Below.drew1 w9
 have h3:=h2.keep hD
 obtain ⟨k0,k1,k2,k3⟩:=h3.cells
 have hlt:(i:Int)<T.length:=by have:=h.lt;omega
 obtain ⟨lb,lo,rfl,_⟩:=h3.sl.lt (by intro e;have h4:=zd4 (zes T);rw [show (T.map zcV).flatten=zc2 T from rfl,e,List.length_map] at h4;have:=h.lt;simp at h4;omega)
 have r1:=toks_text h3.sl h.lt
 have hlt':=h.lt
 refine W_rd [(0,0),(1,0),(2,0),(3,0),(4,0),(5,0),(6,0),(7,0),(8,0),(9,0),(10,0),(11,0),(12,0)] (by kernel_rfl) (by kernel_rfl) (fun K hK=>?_)
 simp [go_sem,k0,k1,hw2,hw3,hlt,hlt',r1,za0]
 apply hK;clear hK K
 refine zad ?_
 repeat first|refine za3 ?_|refine za2 ?_
 refine ⟨trivial,?_,h3,hg.trans (zaa hD)⟩
 simp [go_sem,zar,zam,r1]
theorem nameF_any {w:World} {b tb cap i:Nat} {la:Option Addr} {T:List Tok} {at':Int} (h:PS w b tb la cap T i at' 0) (hT:T.length≤maxLen) (hl:(zai T i).t.length≤maxLen) (hs:nmT T 0 i=false) :
  Calls Tryz.prog 54 #[.pointer (some ⟨b,0,none⟩)] w fun x w'=>x = .returned (.string ⟨#[]⟩)∧PS w' b tb la cap T i (zai T i).p 5∧w.grownBy w' (some b):=by
 refine za5 (rs:=[.tmp 2]) (n:=27) Tryz.func54 rfl rfl rfl (by kernel_rfl) ?_
 refine zzr fun K hK=>?_
 simp [go_sem]
 apply hK;clear hK K
 refine zab (fun K1 hK1=>?_)
 refine zzr fun K hK=>?_
 simp [go_sem]
 refine zzc rfl Tryz.call12 (fun R hR=>?_)
 simp [go_sem]
 refine (named_any h hT hl).mono ?_
 rintro x w1 ⟨rfl,hE1⟩
 refine ⟨_,rfl,hR _ _ ?_⟩
 clear hR R
 rw [hs]
 simp [go_sem]
 apply hK;clear hK K
 refine zaf (t:=true) (by simp [go_sem]) rfl ?_
 refine zzr fun K hK=>?_
 simp [go_sem]
 refine zzc rfl Tryz.call16 (fun R hR=>?_)
 simp [go_sem]
 refine (failG_any (h.keep hE1) hT 5).mono ?_
 rintro x w2 ⟨rfl,h2,hg2⟩
 refine ⟨_,rfl,hR _ _ ?_⟩
 clear hR R
 simp [go_sem]
 apply hK;clear hK K
 refine zzr fun K hK=>?_
 simp [go_sem]
 apply hK;clear hK K
 refine zad ?_
 repeat first|refine za3 ?_|refine za2 ?_
 refine ⟨trivial,?_,h2,(zaa hE1).trans hg2⟩
 simp [go_sem,zar,zam]
theorem nameB_any {w:World} {b tb cap i:Nat} {la:Option Addr} {T:List Tok} {at' er:Int} (h:PS w b tb la cap T i at' er) (hT:T.length≤maxLen) (hl:(zai T i).t.length≤maxLen) (h0:¬er=0) :
  Calls Tryz.prog 54 #[.pointer (some ⟨b,0,none⟩)] w fun x w'=>x = .returned (.string ⟨#[]⟩)∧Below w.heap.size w w':=by
 have hs:nmT T er i=false:=by simp [nmT,h0]
 refine za5 (rs:=[.tmp 2]) (n:=27) Tryz.func54 rfl rfl rfl (by kernel_rfl) ?_
 refine zzr fun K hK=>?_
 simp [go_sem]
 apply hK;clear hK K
 refine zab (fun K1 hK1=>?_)
 refine zzr fun K hK=>?_
 simp [go_sem]
 refine zzc rfl Tryz.call12 (fun R hR=>?_)
 simp [go_sem]
 refine (named_any h hT hl).mono ?_
 rintro x w1 ⟨rfl,hE1⟩
 refine ⟨_,rfl,hR _ _ ?_⟩
 clear hR R
 rw [hs]
 simp [go_sem]
 apply hK;clear hK K
 refine zaf (t:=true) (by simp [go_sem]) rfl ?_
 refine zzr fun K hK=>?_
 simp [go_sem]
 refine zzc rfl Tryz.call16 (fun R hR=>?_)
 simp [go_sem]
 refine (failB_any (h.keep hE1) h0 5).mono ?_
 rintro x w2 ⟨rfl,hE2⟩
 refine ⟨_,rfl,hR _ _ ?_⟩
 clear hR R
 simp [go_sem]
 apply hK;clear hK K
 refine zzr fun K hK=>?_
 simp [go_sem]
 apply hK;clear hK K
 refine zad ?_
 repeat first|refine za3 ?_|refine za2 ?_
 refine ⟨trivial,?_,hE1.next hE2⟩
 simp [go_sem,zar,zam]
end Go.Proofs.YtefhenfofomjhaaGreat
