/- The lexer, second part: the keywords, and whether a string is a name. -/
import Derived.Test.YtefhenfofomjhaaGreatNtH
import Derived.Maps.AppendAt
import Derived.Test.YtefhenfofomjhaaGreatTy
import Derived.WalkLawsBesides
set_option linter.unusedSimpArgs false
set_option linter.unusedVariables false
namespace Go.Proofs.YtefhenfofomjhaaGreat
open Go Go.RowKit Go.V
set_option maxRecDepth 20000
def no16c (u:Value):Prop:=∀ x,u≠.int .u16 x
def NB (w:World) (v:Value):Prop:=∀ g,v.ownBlock=some g→∃ cur e f,w.heap[g]? = some (.cells cur e f)∧∀ u∈cur.toList,no16c u
theorem NB.nil (w:World):NB w (.slice none 0 0):=fun g h=>by cases h
theorem NB.keep {w w':World} {v:Value} (h:NB w v) (hE:Below w.heap.size w w'):NB w' v:=fun g hg=>by
 obtain ⟨cur,e,f,h1,h2⟩:=h g hg
 exact ⟨cur,e,f,by rw [hE.block g (Array.getElem?_eq_some_iff.1 h1).1];exact h1,h2⟩
theorem NB.grown {w w':World} {v:Value} {row:Option Nat} (h:NB w v) (hg:w.grownBy w' row) (hne:v.ownBlock=none∨v.ownBlock≠row):NB w' v:=fun g hv=>by
 obtain ⟨cur,e,f,h1,h2⟩:=h g hv
 refine ⟨cur,e,f,?_,h2⟩
 rw [hg.block g (Array.getElem?_eq_some_iff.1 h1).1 (by
                             rw [←hv];rcases hne with h|h;· rw [h] at hv;cases hv
                             ·exact h)]
 exact h1
theorem rd_nb {w:World} {v:Value} {a:Option Addr} {c:Nat} {l:List Nat} (h:RD w a c l) (hn:NB w v):∀ ad,a=some ad→l≠[]→some ad.block≠v.ownBlock:=by
 intro ad ha hl e
 cases l with
 | nil=>exact hl rfl
 | cons x r =>
  rcases h.sl with h0|⟨b,off,e1,h1⟩
  ·simp [lmC] at h0
  ·rw [ha] at e1;injection e1 with e1;subst e1
   have h2:=h1 0 (.int .u16 x) (by simp [lmC])
   obtain ⟨cur,t,f,h3,h4⟩:=hn b e.symm
   have h5:cur[off+0]? = some (.int .u16 x):=by simpa [World.cell?,h3] using h2
   exact h4 _ (Array.mem_toList_iff.2 (Array.mem_of_getElem? h5)) x rfl
theorem RD.app {w w':World} {v:Value} {a:Option Addr} {c:Nat} {l:List Nat} (h:RD w a c l) (hg:w.grownBy w' v.ownBlock) (hn:NB w v):RD w' a c l:=h.grown hg (rd_nb h hn)
section
variable {P:Program} (w:World)
theorem zero_no16 {z:Array Value} (hz:∀ u∈z.toList,no16c u) (hs:0<z.size) (n:Nat):∀ u∈(Builtin.zeroCells z n).toList,no16c u:=by
 intro u hu
 simp only [Builtin.zeroCells,Array.toList_map,List.mem_map] at hu
 obtain ⟨i,_,rfl⟩:=hu
 have hlt:i % z.size<z.size:=Nat.mod_lt _ hs
 rw [getElem!_pos z (i % z.size) hlt]
 exact hz _ (Array.mem_toList_iff.2 (Array.getElem_mem hlt))
theorem run_append16 (base:Nat) (t ty e:TypeId) (i:TypeInfo) (z:Value) (size bytes:Nat) (ht:P.underlying t=some (.slice e)) (hi:P.info? e=some i) (hz:i.zero=some z)
  (hsize:i.size=size) (hby:i.bytes=bytes) (hzs:z.cells.size=size) (hsz:0<size)
  (v:Value) (n:Nat) (xs:List Value) (hown:w.ownsRow base e size v n xs)
  (a:Addr) (m c:Nat) (news:List Value) (hl:news.length=m*size) (hnews:∀ j u,news[j]? = some u→w.cell? (a.add j)=some u) (h1:∀ u∈news,u.oneCell'=true)
  (h63:n+m≤maxLen) (hbytes:(n+m)*bytes≤140737488355328) (hbase:base≤w.heap.size) (hz16:∀ u∈z.cells.toList,no16c u) (hn16:∀ u∈news,no16c u) (hNB:NB w v) :
  ∃ v' w',(Builtin.append_ #[t,t] ty #[v,.slice (some a) m c]).run P w = .ok v' w'∧w'.ownsRow base e size v' (n+m) (xs++news)∧w.grownBy w' v.ownBlock ∧
   (v'.ownBlock=v.ownBlock∨v'.ownBlock=some w.heap.size)∧NB w' v':=by
 obtain ⟨v',w',hr,h2,h3,_,h5⟩:=run_append_own_at (P:=P) w base t ty e i z size bytes ht hi hz hsize hby hzs hsz v n xs hown a m c news hl hnews h1 h63 hbytes hbase
 refine ⟨v',w',hr,h2,h3,h5,?_⟩
 subst hsize
 subst hby
 have hz0:0<z.cells.size:=by rw [hzs];exact hsz
 have h63':n+m≤9223372036854775807:=by unfold maxLen at h63;omega
 rcases hown.2 with ⟨rfl,rfl⟩|⟨g,cap,cur,rfl,hbg,hg,hnc,hcm,hcs,htake⟩
 ·by_cases hm:m=0
  ·intro g hg
   subst hm
   have hn:news=[]:=List.eq_nil_of_length_eq_zero (by simpa using hl)
   subst hn
   have hx:xs=[]:=List.eq_nil_of_length_eq_zero (by simpa using hown.1)
   subst hx
   have e0:(Builtin.append_ #[t,t] ty #[.slice none 0 0,.slice (some a) 0 c]).run P w = .ok (.slice none 0 0) w:=by
    simp [Builtin.append_,run_underlying ht,sizeOf,typeInfo,hi,Builtin.lenOf,Builtin.firstCells,loadCells,loadCellsFrom]
   rw [e0] at hr
   injection hr with hv hw
   subst hv
   cases hg
  ·have e0:=run_append_nil (P:=P) w t ty e i z ht hi hz a m c news hl hnews (by omega) (by omega) (by have hb:=hbytes;simp only [Nat.zero_add] at hb;omega)
   rw [e0] at hr
   injection hr with hv hw
   subst hv;subst hw
   intro g hg
   injection hg with hg
   subst hg
   refine ⟨_,_,_,heap_alloc_new w.drew _,fun u hu=>?_⟩
   rw [Array.toList_append,List.mem_append] at hu
   rcases hu with hu|hu
   ·exact hn16 u (by simpa using hu)
   ·exact zero_no16 hz16 hz0 _ u hu
 ·by_cases hroom:n+m≤cap
  ·have hfit:n*i.size+news.length≤cur.size:=by rw [hl,hcs,←Nat.add_mul];exact Nat.mul_le_mul_right _ hroom
   have e0:=run_append_room (P:=P) w t ty e i ht hi g n cap cur hg a m c news hl hnews h1 hroom hfit
   rw [e0] at hr
   injection hr with hv hw
   subst hv;subst hw
   intro g' hg'
   injection hg' with hg'
   subst hg'
   obtain ⟨cur',e',f',h6,h7⟩:=hNB g rfl
   rw [hg] at h6
   injection h6 with h6
   injection h6 with h6 _ _
   subst h6
   refine ⟨_,_,_,setRow_heap w g cur _ e _ hg,fun u hu=>?_⟩
   simp only [List.mem_append] at hu
   rcases hu with (hu|hu)|hu
   ·exact h7 u (List.mem_of_mem_take hu)
   ·exact hn16 u hu
   ·exact h7 u (List.mem_of_mem_drop hu)
  ·have holds:∀ j u,xs[j]? = some u→w.cell? ((⟨g,0,none⟩:Addr).add j)=some u:=hown.cells (g:=g) rfl
   have e0:=run_append_grow (P:=P) w t ty e i z ht hi hz ⟨g,0,none⟩ n cap xs hown.1 holds a m c news hl hnews (by omega) (by omega) (growslice_fits (by omega) hbytes)
   rw [e0] at hr
   injection hr with hv hw
   subst hv;subst hw
   intro g' hg'
   injection hg' with hg'
   subst hg'
   obtain ⟨cur',e',f',h6,h7⟩:=hNB g rfl
   rw [hg] at h6
   injection h6 with h6
   injection h6 with h6 _ _
   subst h6
   refine ⟨_,_,_,heap_alloc_new w.drew _,fun u hu=>?_⟩
   rw [Array.toList_append,Array.toList_append,List.mem_append,List.mem_append] at hu
   rcases hu with (hu|hu)|hu
   ·rw [←htake] at hu;exact h7 u (List.mem_of_mem_take (by simpa using hu))
   ·exact hn16 u (by simpa using hu)
   ·exact zero_no16 hz16 hz0 _ u hu
end
section
variable {P:Program} {ops:Array Oper} {o:Oper} {k:Nat} {nx:G→World→Prop} {g:G} {w:World}
theorem hv_append16 {t e size bytes:Nat} {z:Array Value} {s x:Operand} {B:Nat} {v:Value} {m:Nat} {xs:List Value} {b len c:Nat} {news:Array Value} {tb:TypeId} (hbx:Bx w b news tb) (hw:zcm ops g o=true)
  (ho:o.op = .call { callee:=.builtin .append,args:=#[s,x],argTypes:=#[t,t] }) (hz:slZ P t=some (e,size,z)) (hby:(P.info? e).map (·.bytes)=some bytes) (hzs:z.size=size) (hsz:0<size)
  (hs:evG g s=v) (hx:evG g x = .slice (some ⟨b,0,none⟩) len c) (hown:w.ownsRow B e size v m xs) (hl:news.size=len*size) (h1:∀ u∈news.toList,u.oneCell'=true)
  (h63:m+len≤maxLen) (hbytes:(m+len)*bytes≤140737488355328) (hB:B≤w.heap.size) (hk:k≠0) (hz16:∀ u∈z.toList,no16c u) (hn16:∀ u∈news.toList,no16c u) (hNB:NB w v)
  (h:∀ v' w1,w1.ownsRow B e size v' (m+len) (xs++news.toList)→w.grownBy w1 v.ownBlock→(v'.ownBlock=v.ownBlock∨v'.ownBlock=some w.heap.size)→NB w1 v'→nx (zcd g o.dst v') w1):hvX P ops o k nx g w:=by
 obtain ⟨i,hu,hi,hsize,hzc⟩:=slZ_some hz
 have hby':i.bytes=bytes:=by rw [hi] at hby;simpa using hby
 obtain ⟨zv,hzv,hzc'⟩:∃ zv,i.zero=some zv∧zv.cells=z:=by
  unfold zdY at hzc
  rw [hi] at hzc
  cases hzz:i.zero with
  | none=>simp [hzz] at hzc
  | some zv=>simp [hzz] at hzc;exact ⟨zv,rfl,hzc⟩
 obtain ⟨v',w',hr,h2,h3,h4,h5⟩:=run_append16 (P:=P) w B t o.type e i zv size bytes hu hi hzv hsize hby' (by rw [hzc'];exact hzs) hsz v m xs hown ⟨b,0,none⟩ len c news.toList (by simpa using hl) (fun j u hu=>by rw [za0,hbx.cell];simpa using hu) h1 h63 hbytes hB (by rw [hzc'];exact hz16) hn16 hNB
 refine zdl hw (v:=v') (w':=w') ?_ (fun e=>absurd e hk) (h _ _ h2 h3 h4 h5)
 unfold execOp
 simp only [ho,resolve,invoke,builtin,Sem.run_bind,Sem.run_pure,Result.andThen_ok,List.map_toArray,List.map_cons,List.map_nil,hs,hx,hr]
end
structure Tok where
 k:Nat
 p:Nat
 e:Nat
 t:List UInt8
instance:Inhabited Tok:=⟨⟨0,0,0,[]⟩⟩
def zan (T:List Tok) (i:Nat):Tok:=T.getD i default
def zbH (t:Tok):List Value:=[.int .i64 t.k,.int .i64 t.p,.int .i64 t.e,.string ⟨t.t.toArray⟩]
def zc9 (T:List Tok):List Value:=(T.map zbH).flatten
theorem zdL {α:Type} {n:Nat}:∀ {rows:List (List α)},(∀ R∈rows,R.length=n)→rows.flatten.length=n*rows.length
 | [],_=>by simp
 | R::r,h=>by
  rw [List.flatten_cons,List.length_append,h R (List.mem_cons_self ..),zdL (fun q hq=>h q (List.mem_cons_of_mem _ hq)),List.length_cons,Nat.mul_succ];omega
theorem flatN_row {α:Type} {n:Nat}:∀ {rows:List (List α)} {i:Nat} {R:List α},(∀ R∈rows,R.length=n)→rows[i]? = some R→(rows.flatten.drop (i*n)).take n=R
 | [],_,_,_,h=>by simp at h
 | Q::r,0,R,hl,h=>by
  simp at h
  subst h
  rw [Nat.zero_mul,List.drop_zero,List.flatten_cons,List.take_left' (hl Q (List.mem_cons_self ..))]
 | Q::r,i+1,R,hl,h=>by
  have hq:=hl Q (List.mem_cons_self ..)
  rw [List.flatten_cons,Nat.succ_mul,Nat.add_comm,←List.drop_drop,List.drop_left' hq]
  exact flatN_row (fun q hq=>hl q (List.mem_cons_of_mem _ hq)) (by simpa using h)
theorem ze4 (T:List Tok):∀ R∈T.map zbH,R.length=4:=by
 intro R hR
 obtain ⟨t,_,rfl⟩:=List.mem_map.1 hR
 rfl
theorem zdq {w:World} {a:Option Addr} {T:List Tok} (h:SL w a (zc9 T)) {i:Nat} (hi:i<T.length) :
  za4 w ((a.getD default).add (i*4)) 0 4=zbH (zan T i)∧za1 w ((a.getD default).add (i*4)) 0 4∧a.isSome=true:=by
 have hfl:=zdL (ze4 T)
 rw [List.length_map] at hfl
 have hle:i*4+4≤(zc9 T).length:=by unfold zc9;rw [hfl];omega
 obtain ⟨q1,q2,q3⟩:=h.row (i*4) 4 hle (by decide)
 refine ⟨?_,q2,q3⟩
 rw [q1]
 unfold zc9 zan
 refine flatN_row (ze4 T) ?_
 simp [List.getD_eq_getElem?_getD,hi]
structure PS (w:World) (b:Nat) (tb:TypeId) (la:Option Addr) (cap:Nat) (T:List Tok) (i:Nat) (at' er:Int):Prop where
 bx:Bx w b #[.slice la T.length cap,.int .i64 i,.int .i64 at',.int .i64 er] tb
 sl:SL w la (zc9 T)
 ne:∀ ad,la=some ad→ad.block≠b
 lt:i<T.length
theorem PS.ext {w w':World} {b tb cap i:Nat} {la:Option Addr} {T:List Tok} {at' er:Int} (h:PS w b tb la cap T i at' er) (hb:Below w.heap.size w w'):PS w' b tb la cap T i at' er:=⟨h.bx.keep hb,h.sl.ext hb,h.ne,h.lt⟩
theorem PS.keep {w w':World} {b tb cap i:Nat} {la:Option Addr} {T:List Tok} {at' er:Int} (h:PS w b tb la cap T i at' er) (hb:Below w.heap.size w w'):PS w' b tb la cap T i at' er:=h.ext hb
theorem PS.cells {w:World} {b tb cap i:Nat} {la:Option Addr} {T:List Tok} {at' er:Int} (h:PS w b tb la cap T i at' er) :
  w.cell? ⟨b,0,none⟩=some (.slice la T.length cap)∧w.cell? ⟨b,1,none⟩=some (.int .i64 i)∧w.cell? ⟨b,2,none⟩=some (.int .i64 at')∧w.cell? ⟨b,3,none⟩=some (.int .i64 er) :=
 ⟨h.bx.cell 0,h.bx.cell 1,h.bx.cell 2,h.bx.cell 3⟩
set_option maxHeartbeats 1000000 in
theorem zbV {w:World} {b tb cap i:Nat} {la:Option Addr} {T:List Tok} {at' er:Int} (h:PS w b tb la cap T i at' er) (hT:T.length≤maxLen) :
  Calls Tryz.prog 13 #[.pointer (some ⟨b,0,none⟩)] w fun e w'=>e = .returned (.agg (zbH (zan T i)).toArray)∧Below w.heap.size w w':=by
 have hlt:(i:Int)<T.length:=by have:=h.lt;omega
 have hlt':=h.lt
 refine za7 (args:=[.pointer (some ⟨b,0,none⟩)]) (rs:=[.cell 2 52]) (n:=13) Tryz.func13 rfl rfl rfl (by kernel_rfl) ?_
 have hA0:=Below.refl w.heap.size w
 first|refine zzr fun K hK=>?_|refine zzt fun K hK=>?_
 simp [go_sem,za0,za4,za1]
 refine zam (by simp [go_sem,za0,za4,za1]) rfl zc0 (fun w1 b1 hE1 hle1 hB1=>?_)
 have hb1_0:=Nat.le_trans hA0.size hle1
 replace hA0:=hA0.next hE1
 simp [go_sem,za0,za4,za1,hB1.cell]
 refine hK _ _ ?_;clear hK K
 have hD:=h.ext (hA0.next (Below.drew1 _))
 obtain ⟨k0,k1,k2,k3⟩:=hD.cells
 obtain ⟨r1,r2,r3⟩:=zdq hD.sl h.lt
 have hD2:=Below.drew1 w1
 replace hA0:=hA0.next hD2
 replace hB1:=hB1.keep hD2
 first|refine W_rd [(0,0),(1,0),(2,0),(3,0),(4,0),(5,0),(6,0),(7,0),(8,0),(9,0),(10,2)] (by kernel_rfl) (by kernel_rfl) (fun K hK=>?_)|refine zbG [(0,0),(1,0),(2,0),(3,0),(4,0),(5,0),(6,0),(7,0),(8,0),(9,0),(10,2)] (by kernel_rfl) (by kernel_rfl) (fun K hK=>?_)
 simp [go_sem,za0,hB1.cell, k0,k1,hlt,hlt',r1,r2,r3]
 refine za6 (b:=b1) (off:=0) [.int .i64 (zan T i).k,.int .i64 (zan T i).p,.int .i64 (zan T i).e,.string ⟨(zan T i).t.toArray⟩] (by simp [go_sem,za0,hB1.cell,k0,k1,hlt,hlt',r1,r2,r3,zbH]) rfl (by simp [go_sem,za0,hB1.cell,k0,k1,hlt,hlt',r1,r2,r3,zbH]) (by simp [go_sem,Value.cells,za0,hB1.cell,k0,k1,hlt,hlt',r1,r2,r3,zbH]) zaT hB1 (by simp) (by simp [Value.oneCell']) (by decide) (fun w3 hS3 hB3=>?_)
 simp [zaD] at hB3
 replace hA0:=hA0.nextS hS3 (by first|exact hb1_0|omega)
 simp [go_sem,za0,hB3.cell,k0,k1,hlt,hlt',r1,r2,r3,zbH]
 refine hK _ _ ?_;clear hK K
 refine zaf ?_
 repeat (first|refine za3 ?_|refine za2 ?_)
 refine ⟨?_,?_,hA0⟩
 ·simp [go_sem,zaO,zas,za4,za1,za0,hB3.cell]
 ·simp [go_sem,zat,zas,za4,za1,za0,hB3.cell,zbH]
set_option maxHeartbeats 1000000 in
theorem zcw {w:World} {b tb cap i:Nat} {la:Option Addr} {T:List Tok} {at' er:Int} (h:PS w b tb la cap T i at' er) :
  Calls Tryz.prog 15 #[.pointer (some ⟨b,0,none⟩)] w fun e w'=>e = .returned (.bool (decide (er=0)))∧Below w.heap.size w w':=by
 obtain ⟨k0,k1,k2,k3⟩:=h.cells
 refine za7 (args:=[.pointer (some ⟨b,0,none⟩)]) (rs:=[.tmp 2]) (n:=8) Tryz.func15 rfl rfl rfl (by kernel_rfl) ?_
 have hA0:=Below.refl w.heap.size w
 first|refine zzr fun K hK=>?_|refine zzt fun K hK=>?_
 simp [go_sem,za0,za4,za1]
 refine hK _ _ ?_;clear hK K
 first|refine zzr fun K hK=>?_|refine zzt fun K hK=>?_
 simp [go_sem,za0,za4,za1, k3]
 refine hK _ _ ?_;clear hK K
 refine zaf ?_
 repeat (first|refine za3 ?_|refine za2 ?_)
 refine ⟨trivial,?_,hA0⟩
 simp [go_sem,zat,zas]
theorem PS.next {w w':World} {b tb cap i j:Nat} {la:Option Addr} {T:List Tok} {at' at2 er er2:Int} (h:PS w b tb la cap T i at' er) (hg:w.grownBy w' (some b)) (hb:Bx w' b #[.slice la T.length cap,.int .i64 j,.int .i64 at2,.int .i64 er2] tb) (hj:j<T.length):PS w' b tb la cap T j at2 er2:=by
 refine ⟨hb,?_,h.ne,hj⟩
 rcases h.sl with h0|⟨b',off,e,h1⟩
 ·exact .inl h0
 ·exact .inr ⟨b',off,e,fun j v hv=>hg.cell (h1 j v hv) (show some b'≠some b from fun e2=>h.ne _ e (by injection e2))⟩
theorem zad {w w':World} {row:Option Nat} (h:Below w.heap.size w w'):w.grownBy w' row:=⟨h.os,h.tape,h.output,h.size,fun k hk _=>h.block k hk⟩
theorem zaR {w w':World} {b:Nat} (h:Sto w w' b):w.grownBy w' (some b):=⟨h.os,h.tape,h.output,by rw [h.size];exact Nat.le_refl _,fun k hk hn=>h.block k (fun e=>hn (by rw [e]))⟩
set_option maxHeartbeats 1000000 in
theorem failG_any {w:World} {b tb cap i:Nat} {la:Option Addr} {T:List Tok} {at':Int} (h:PS w b tb la cap T i at' 0) (hT:T.length≤maxLen) (er:Int) :
  Calls Tryz.prog 16 #[.pointer (some ⟨b,0,none⟩),.int .i64 er] w fun x w'=>x = .returned (.tuple #[])∧PS w' b tb la cap T i (zan T i).p er∧w.grownBy w' (some b):=by
 obtain ⟨k0,k1,k2,k3⟩:=h.cells
 refine za7 (args:=[.pointer (some ⟨b,0,none⟩),.int .i64 er]) (rs:=[]) (n:=19) Tryz.func16 rfl rfl rfl (by kernel_rfl) ?_
 first|refine zzr fun K hK=>?_|refine zzt fun K hK=>?_
 simp [go_sem,k3,za0]
 refine hK _ _ ?_;clear hK K
 refine zai (t:=true) (by simp [go_sem]) rfl ?_
 first|refine zzr fun K hK=>?_|refine zzt fun K hK=>?_
 simp [go_sem,za0]
 refine za5 (by simp [go_sem]) rfl Tryz.call13 (fun R hR=>?_)
 simp [go_sem]
 refine (zbV h hT).mono ?_
 rintro x w1 ⟨rfl,hE1⟩
 refine ⟨_,rfl,hR _ _ ?_⟩
 clear hR R
 have h1:=h.keep hE1
 have hbx:=h1.bx
 simp [go_sem,zbH,za0]
 refine za6 (b:=b) (off:=2) [.int .i64 (zan T i).p] (by simp [go_sem,zbH,za0]) rfl (by simp [go_sem,zbH,za0]) (by simp [go_sem,Value.cells,zbH,za0]) zb2 hbx (by simp) (by simp [Value.oneCell']) (by decide) (fun w2 hS2 hB2=>?_)
 simp [zaD] at hB2
 simp [go_sem,za0]
 refine za6 (b:=b) (off:=3) [.int .i64 er] (by simp [go_sem,za0]) rfl (by simp [go_sem,za0]) (by simp [go_sem,Value.cells,za0]) ty_size31 hB2 (by simp) (by simp [Value.oneCell']) (by decide) (fun w3 hS3 hB3=>?_)
 simp [zaD] at hB3
 simp [go_sem]
 refine hK _ _ ?_
 refine ⟨trivial,?_,h.next (((zad hE1).trans (zaR hS2)).trans (zaR hS3)) hB3 h.lt,((zad hE1).trans (zaR hS2)).trans (zaR hS3)⟩
 simp [go_sem,zat,zas]
set_option maxHeartbeats 1000000 in
theorem failB_any {w:World} {b tb cap i:Nat} {la:Option Addr} {T:List Tok} {at' er0:Int} (h:PS w b tb la cap T i at' er0) (h0:¬er0=0) (er:Int) :
  Calls Tryz.prog 16 #[.pointer (some ⟨b,0,none⟩),.int .i64 er] w fun x w'=>x = .returned (.tuple #[])∧Below w.heap.size w w':=by
 obtain ⟨k0,k1,k2,k3⟩:=h.cells
 refine za7 (args:=[.pointer (some ⟨b,0,none⟩),.int .i64 er]) (rs:=[]) (n:=19) Tryz.func16 rfl rfl rfl (by kernel_rfl) ?_
 first|refine zzr fun K hK=>?_|refine zzt fun K hK=>?_
 simp [go_sem,k3,za0]
 refine hK _ _ ?_;clear hK K
 refine zai (t:=false) (by simp [go_sem,h0]) rfl ?_
 refine zaa ?_
 refine ⟨trivial,?_,Below.refl _ _⟩
 simp [go_sem,zat,zas]
def isT (T:List Tok) (er:Int) (i:Nat) (s:List UInt8):Bool:=decide (er=0) && (!decide ((zan T i).k=0) && decide ((zan T i).t=s))
set_option maxHeartbeats 1000000 in
theorem is_any {w:World} {b tb cap i:Nat} {la:Option Addr} {T:List Tok} {at' er:Int} (h:PS w b tb la cap T i at' er) (hT:T.length≤maxLen) (s:List UInt8) :
  Calls Tryz.prog 67 #[.pointer (some ⟨b,0,none⟩),.string ⟨s.toArray⟩] w fun x w'=>x = .returned (.bool (isT T er i s))∧Below w.heap.size w w':=by
 refine za7 (args:=[.pointer (some ⟨b,0,none⟩),.string ⟨s.toArray⟩]) (rs:=[.tmp 4]) (n:=20) Tryz.func67 rfl rfl rfl (by kernel_rfl) ?_
 have hA0:=Below.refl w.heap.size w
 first|refine zzr fun K hK=>?_|refine zzt fun K hK=>?_
 simp [go_sem,za0,za4,za1]
 refine hK _ _ ?_;clear hK K
 first|refine zzr fun K hK=>?_|refine zzt fun K hK=>?_
 simp [go_sem,za0,za4,za1]
 refine za5 (by simp [go_sem,za0,za4,za1]) rfl Tryz.call15 (fun R hR=>?_)
 simp [go_sem,za0,za4,za1]
 refine (zcw (h.ext hA0)).mono ?_
 rintro e w1 ⟨rfl,hE1⟩
 refine ⟨_,rfl,hR _ _ ?_⟩
 clear hR R
 replace hA0:=hA0.next hE1
 simp [go_sem,za0,za4,za1]
 by_cases h0:er=0
 ·by_cases h1:(zan T i).k=0
  ·simp [go_sem,za0,za4,za1,h0]
   refine za5 (by simp [go_sem,za0,za4,za1,h0,h1,zbH]) rfl Tryz.call13 (fun R hR=>?_)
   simp [go_sem,za0,za4,za1,h0,h1,zbH]
   refine (zbV (h.ext hA0) hT).mono ?_
   rintro e w2 ⟨rfl,hE2⟩
   refine ⟨_,rfl,hR _ _ ?_⟩
   clear hR R
   replace hA0:=hA0.next hE2
   simp [go_sem,za0,za4,za1,h0,h1,zbH]
   refine hK _ _ ?_;clear hK K
   refine zaf ?_
   repeat (first|refine za3 ?_|refine za2 ?_)
   refine ⟨trivial,?_,hA0⟩
   simp [go_sem,zat,zas,isT,h0,h1]
  ·simp [go_sem,za0,za4,za1,h0]
   refine za5 (by simp [go_sem,za0,za4,za1,h0,h1,zbH]) rfl Tryz.call13 (fun R hR=>?_)
   simp [go_sem,za0,za4,za1,h0,h1,zbH]
   refine (zbV (h.ext hA0) hT).mono ?_
   rintro e w3 ⟨rfl,hE3⟩
   refine ⟨_,rfl,hR _ _ ?_⟩
   clear hR R
   replace hA0:=hA0.next hE3
   simp [go_sem,za0,za4,za1,h0,h1,zbH]
   refine za5 (by simp [go_sem,za0,za4,za1,h0,h1,zbH]) rfl Tryz.call13 (fun R hR=>?_)
   simp [go_sem,za0,za4,za1,h0,h1,zbH]
   refine (zbV (h.ext hA0) hT).mono ?_
   rintro e w4 ⟨rfl,hE4⟩
   refine ⟨_,rfl,hR _ _ ?_⟩
   clear hR R
   replace hA0:=hA0.next hE4
   simp [go_sem,za0,za4,za1,h0,h1,zbH]
   refine hK _ _ ?_;clear hK K
   refine zaf ?_
   repeat (first|refine za3 ?_|refine za2 ?_)
   refine ⟨trivial,?_,hA0⟩
   simp [go_sem,zat,zas,isT,h0,h1]
 ·simp [go_sem,za0,za4,za1,h0]
  refine hK _ _ ?_;clear hK K
  refine zaf ?_
  repeat (first|refine za3 ?_|refine za2 ?_)
  refine ⟨trivial,?_,hA0⟩
  simp [go_sem,zat,zas,isT,h0]
set_option maxHeartbeats 1000000 in
theorem takeF_any {w:World} {b tb cap i:Nat} {la:Option Addr} {T:List Tok} {at' er:Int} (h:PS w b tb la cap T i at' er) (hT:T.length≤maxLen) (s:List UInt8) (hs:isT T er i s=false) :
  Calls Tryz.prog 42 #[.pointer (some ⟨b,0,none⟩),.string ⟨s.toArray⟩] w fun x w'=>x = .returned (.bool false)∧Below w.heap.size w w':=by
 refine za7 (args:=[.pointer (some ⟨b,0,none⟩),.string ⟨s.toArray⟩]) (rs:=[.tmp 4]) (n:=16) Tryz.func42 rfl rfl rfl (by kernel_rfl) ?_
 have hA0:=Below.refl w.heap.size w
 first|refine zzr fun K hK=>?_|refine zzt fun K hK=>?_
 simp [go_sem,za0,za4,za1]
 refine hK _ _ ?_;clear hK K
 refine zac (fun K1 hK1=>?_)
 first|refine zzr fun K hK=>?_|refine zzt fun K hK=>?_
 simp [go_sem,za0,za4,za1]
 refine za5 (by simp [go_sem,za0,za4,za1]) rfl Tryz.call67 (fun R hR=>?_)
 simp [go_sem,za0,za4,za1]
 refine (is_any (h.ext hA0) hT s).mono ?_
 rintro e w1 ⟨rfl,hE1⟩
 refine ⟨_,rfl,hR _ _ ?_⟩
 clear hR R
 replace hA0:=hA0.next hE1
 simp [go_sem,za0,za4,za1]
 rw [hs]
 refine hK _ _ ?_;clear hK K
 refine zai (t:=true) (by simp [go_sem,za0,za4,za1]) rfl ?_
 first|refine zzr fun K hK=>?_|refine zzt fun K hK=>?_
 simp [go_sem,za0,za4,za1]
 refine hK _ _ ?_;clear hK K
 refine zaf ?_
 repeat (first|refine za3 ?_|refine za2 ?_)
 refine ⟨trivial,?_,hA0⟩
 simp [go_sem,zat,zas]
theorem isT_ok {T:List Tok} {er:Int} {i:Nat} {s:List UInt8} (h:isT T er i s=true):er=0∧(zan T i).k≠0∧(zan T i).t=s:=by
 unfold isT at h
 simpa using h
set_option maxHeartbeats 1000000 in
theorem takeT_any {w:World} {b tb cap i:Nat} {la:Option Addr} {T:List Tok} {at' er:Int} (h:PS w b tb la cap T i at' er) (hT:T.length≤maxLen) (s:List UInt8) (hs:isT T er i s=true) (hi:i+1<T.length) :
  Calls Tryz.prog 42 #[.pointer (some ⟨b,0,none⟩),.string ⟨s.toArray⟩] w fun x w'=>x = .returned (.bool true)∧PS w' b tb la cap T (i+1) at' er∧w.grownBy w' (some b):=by
 have hw:IntKind.i64.wrap ((i:Int)+1)=(i:Int)+1:=IntWalk.i64_in _ (by unfold maxLen at hT;omega)
 refine za7 (args:=[.pointer (some ⟨b,0,none⟩),.string ⟨s.toArray⟩]) (rs:=[.tmp 4]) (n:=16) Tryz.func42 rfl rfl rfl (by kernel_rfl) ?_
 have hA0:=Below.refl w.heap.size w
 first|refine zzr fun K hK=>?_|refine zzt fun K hK=>?_
 simp [go_sem,za0,za4,za1]
 refine hK _ _ ?_;clear hK K
 refine zac (fun K1 hK1=>?_)
 first|refine zzr fun K hK=>?_|refine zzt fun K hK=>?_
 simp [go_sem,za0,za4,za1]
 refine za5 (by simp [go_sem,za0,za4,za1]) rfl Tryz.call67 (fun R hR=>?_)
 simp [go_sem,za0,za4,za1]
 refine (is_any (h.ext hA0) hT s).mono ?_
 rintro e w1 ⟨rfl,hE1⟩
 refine ⟨_,rfl,hR _ _ ?_⟩
 clear hR R
 replace hA0:=hA0.next hE1
 simp [go_sem,za0,za4,za1]
 rw [hs]
 refine hK _ _ ?_;clear hK K
 refine zai (t:=false) (by simp [go_sem,za0,za4,za1]) rfl ?_
 refine zaa ?_
 refine hK1 _ _ ?_
 have h1:=h.keep hA0
 have hbx:=h1.bx
 obtain ⟨k0,k1,k2,k3⟩:=h1.cells
 first|refine zzr fun K hK=>?_|refine zzt fun K hK=>?_
 simp [go_sem,za0,za4,za1, k1,hw]
 refine za6 (b:=b) (off:=1) [.int .i64 ((i:Int)+1)] (by simp [go_sem,k1,hw,za0]) rfl (by simp [go_sem,k1,hw,za0]) (by simp [go_sem,Value.cells,k1,hw,za0]) zb2 hbx (by simp) (by simp [Value.oneCell']) (by decide) (fun w9 hS9 hB9=>?_)
 simp [zaD] at hB9
 simp [go_sem]
 refine hK _ _ ?_;clear hK K
 first|refine zzr fun K hK=>?_|refine zzt fun K hK=>?_
 simp [go_sem,za0,za4,za1]
 refine hK _ _ ?_;clear hK K
 refine zaf ?_
 repeat (first|refine za3 ?_|refine za2 ?_)
 have hg:=(zad hA0).trans (zaR hS9)
 refine ⟨trivial,?_,h.next hg (by simpa using hB9) hi,hg⟩
 simp [go_sem,zat,zas]
set_option maxHeartbeats 1000000 in
theorem mustT_any {w:World} {b tb cap i:Nat} {la:Option Addr} {T:List Tok} {at' er:Int} (h:PS w b tb la cap T i at' er) (hT:T.length≤maxLen) (s:List UInt8) (hs:isT T er i s=true) (hi:i+1<T.length) :
  Calls Tryz.prog 29 #[.pointer (some ⟨b,0,none⟩),.string ⟨s.toArray⟩] w fun x w'=>x = .returned (.tuple #[])∧PS w' b tb la cap T (i+1) at' er∧w.grownBy w' (some b):=by
 refine za7 (args:=[.pointer (some ⟨b,0,none⟩),.string ⟨s.toArray⟩]) (rs:=[]) (n:=10) Tryz.func29 rfl rfl rfl (by kernel_rfl) ?_
 first|refine zzr fun K hK=>?_|refine zzt fun K hK=>?_
 simp [go_sem]
 refine za5 (by simp [go_sem]) rfl Tryz.call42 (fun R hR=>?_)
 simp [go_sem]
 refine (takeT_any h hT s hs hi).mono ?_
 rintro x w1 ⟨rfl,h1,hg1⟩
 refine ⟨_,rfl,hR _ _ ?_⟩
 clear hR R
 simp [go_sem]
 refine hK _ _ ?_;clear hK K
 refine zai (t:=false) (by simp [go_sem]) rfl ?_
 refine zaa ?_
 refine ⟨trivial,?_,h1,hg1⟩
 simp [go_sem,zat,zas]
set_option maxHeartbeats 1000000 in
theorem mustF_any {w:World} {b tb cap i:Nat} {la:Option Addr} {T:List Tok} {at':Int} (h:PS w b tb la cap T i at' 0) (hT:T.length≤maxLen) (s:List UInt8) (hs:isT T 0 i s=false) :
  Calls Tryz.prog 29 #[.pointer (some ⟨b,0,none⟩),.string ⟨s.toArray⟩] w fun x w'=>x = .returned (.tuple #[])∧PS w' b tb la cap T i (zan T i).p 5∧w.grownBy w' (some b):=by
 refine za7 (args:=[.pointer (some ⟨b,0,none⟩),.string ⟨s.toArray⟩]) (rs:=[]) (n:=10) Tryz.func29 rfl rfl rfl (by kernel_rfl) ?_
 first|refine zzr fun K hK=>?_|refine zzt fun K hK=>?_
 simp [go_sem]
 refine za5 (by simp [go_sem]) rfl Tryz.call42 (fun R hR=>?_)
 simp [go_sem]
 refine (takeF_any h hT s hs).mono ?_
 rintro x w1 ⟨rfl,hE1⟩
 refine ⟨_,rfl,hR _ _ ?_⟩
 clear hR R
 simp [go_sem]
 refine hK _ _ ?_;clear hK K
 refine zai (t:=true) (by simp [go_sem]) rfl ?_
 first|refine zzr fun K hK=>?_|refine zzt fun K hK=>?_
 simp [go_sem]
 refine za5 (by simp [go_sem]) rfl Tryz.call16 (fun R hR=>?_)
 simp [go_sem]
 refine (failG_any (h.keep hE1) hT 5).mono ?_
 rintro x w2 ⟨rfl,h2,hg2⟩
 refine ⟨_,rfl,hR _ _ ?_⟩
 clear hR R
 simp [go_sem]
 refine hK _ _ ?_;clear hK K
 refine ⟨trivial,?_,h2,(zad hE1).trans hg2⟩
 simp [go_sem,zat,zas]
set_option maxHeartbeats 1000000 in
theorem mustB_any {w:World} {b tb cap i:Nat} {la:Option Addr} {T:List Tok} {at' er:Int} (h:PS w b tb la cap T i at' er) (hT:T.length≤maxLen) (s:List UInt8) (h0:¬er=0) :
  Calls Tryz.prog 29 #[.pointer (some ⟨b,0,none⟩),.string ⟨s.toArray⟩] w fun x w'=>x = .returned (.tuple #[])∧Below w.heap.size w w':=by
 refine za7 (args:=[.pointer (some ⟨b,0,none⟩),.string ⟨s.toArray⟩]) (rs:=[]) (n:=10) Tryz.func29 rfl rfl rfl (by kernel_rfl) ?_
 first|refine zzr fun K hK=>?_|refine zzt fun K hK=>?_
 simp [go_sem]
 refine za5 (by simp [go_sem]) rfl Tryz.call42 (fun R hR=>?_)
 simp [go_sem]
 refine (takeF_any h hT s (by simp [isT,h0])).mono ?_
 rintro x w1 ⟨rfl,hE1⟩
 refine ⟨_,rfl,hR _ _ ?_⟩
 clear hR R
 simp [go_sem]
 refine hK _ _ ?_;clear hK K
 refine zai (t:=true) (by simp [go_sem]) rfl ?_
 first|refine zzr fun K hK=>?_|refine zzt fun K hK=>?_
 simp [go_sem]
 refine za5 (by simp [go_sem]) rfl Tryz.call16 (fun R hR=>?_)
 simp [go_sem]
 refine (failB_any (h.keep hE1) h0 5).mono ?_
 rintro x w2 ⟨rfl,hE2⟩
 refine ⟨_,rfl,hR _ _ ?_⟩
 clear hR R
 simp [go_sem]
 refine hK _ _ ?_;clear hK K
 refine ⟨trivial,?_,hE1.next hE2⟩
 simp [go_sem,zat,zas]
end Go.Proofs.YtefhenfofomjhaaGreat
namespace Go.Proofs.YtefhenfofomjhaaGreat
open Go.RowKit Go.V
set_option maxRecDepth 20000
def zcW (c:Int):Int :=
 if c=32∨c=9∨c=13∨c=10 then 1
 else if (97≤c∧c≤122)∨(65≤c∧c≤90) then 2
 else if 48≤c∧c≤57 then 3
 else if c=40∨c=41∨c=44∨c=59∨c=47∨c=45 then 4
 else if c=58 then 5
 else if c=35 then 6
 else 0
def letB (c:Int):Bool:=decide (65≤c∧c≤90∨97≤c∧c≤122)
def digB (c:Int):Bool:=decide (48≤c∧c≤57)
theorem zdM (c:Int):decide (zcW c=2)=letB c:=by
 unfold zcW letB
 rw [decide_eq_decide]
 (repeat' split)<;>omega
theorem zdB (c:Int):decide (zcW c=3)=digB c:=by
 unfold zcW digB
 rw [decide_eq_decide]
 (repeat' split)<;>omega
theorem ret_int {k:IntKind} {a b:Int} (h:a=b):Ending.returned (.int k a) = .returned (.int k b):=by rw [h]
theorem ret_bool {a b:Bool} (h:a=b):Ending.returned (.bool a) = .returned (.bool b):=by rw [h]
set_option maxHeartbeats 1000000 in
theorem kind_any (c:Int) (w:World) :
  Calls Tryz.prog 24 #[.int .u8 c] w fun e w'=>e = .returned (.int .i64 (zcW c))∧w=w':=by
 go_enter Tryz.func24,Tryz.ntmps24
 go_wp2
 all_goals go_ret
 all_goals (refine ⟨ret_int ?_,rfl⟩;(try simp only [beq_iff_eq,beq_eq_false_iff_ne,ne_eq] at *);unfold zcW;(repeat' split)<;>omega)
set_option maxHeartbeats 1000000 in
theorem letter_any (c:Int) (w:World) :
  Calls Tryz.prog 35 #[.int .u8 c] w fun e w'=>e = .returned (.bool (letB c))∧w=w':=by
 go_enter Tryz.func35,Tryz.ntmps35
 go_wp2
 all_goals go_ret
 all_goals (refine ⟨ret_bool ?_,rfl⟩;unfold letB;simp [*];try omega)
set_option maxHeartbeats 1000000 in
theorem digit_any (c:Int) (w:World) :
  Calls Tryz.prog 36 #[.int .u8 c] w fun e w'=>e = .returned (.bool (digB c))∧w=w':=by
 go_enter Tryz.func36,Tryz.ntmps36
 go_wp2
 all_goals go_ret
 all_goals (refine ⟨ret_bool ?_,rfl⟩;unfold digB;simp [*];try omega)
def goOn (L:Bool) (c:UInt8):Bool:=decide (zcW c.toNat=3) || (L && decide (zcW c.toNat=2))
def endN (L:Bool):List UInt8→Nat
 | []=>0
 | c::l=>if goOn L c=true then endN L l+1 else 0
theorem zca (s:ByteArray) (k:Nat) (h:k<s.size):(bs s).drop k=za9 s k::(bs s).drop (k+1):=by
 have h':k<(bs s).length:=by rw [zb9];exact h
 rw [List.drop_eq_getElem_cons h']
 simp only [za9,List.getD_eq_getElem?_getD,List.getElem?_eq_getElem h',Option.getD_some]
theorem drop_end (s:ByteArray) (k:Nat) (h:¬k<s.size):(bs s).drop k=[]:=by
 apply List.drop_eq_nil_of_le
 rw [zb9];omega
theorem endN_step (L:Bool) (s:ByteArray) (k:Nat):endN L ((bs s).drop k)=if (decide (k<s.size) && goOn L (za9 s k))=true then endN L ((bs s).drop (k+1))+1 else 0:=by
 by_cases h:k<s.size
 ·rw [zca s k h];simp [endN,h]
 ·rw [drop_end s k h];simp [endN,h]
theorem endN_le (L:Bool):∀ l:List UInt8,endN L l≤l.length
 | []=>by simp [endN]
 | c::l=>by have:=endN_le L l;unfold endN;split<;>simp<;>omega
theorem endN_all (L:Bool):∀ l:List UInt8,(endN L l=l.length)=(l.all (goOn L)=true)
 | []=>by simp [endN]
 | c::l=>by
  have ih:=endN_all L l
  have:=endN_le L l
  unfold endN
  by_cases h:goOn L c=true
  ·rw [if_pos h];simp [h,←ih]
  ·rw [if_neg h];simp [h]
set_option maxHeartbeats 1000000 in
theorem end_any (s:ByteArray) (n:Nat) (L:Bool) (w:World) (hs:s.size≤maxLen) (hn:n≤s.size) :
  Calls Tryz.prog 48 #[.string s,.int .i64 n,.bool L] w fun e w'=>e = .returned (.int .i64 ↑(n+endN L ((bs s).drop n)))∧w=w':=by
 unfold maxLen at hs
 refine za7 (args:=[.string s,.int .i64 n,.bool L]) (rs:=[.tmp 6]) (n:=31) Tryz.func48 rfl rfl rfl (by kernel_rfl) ?_
 first|refine zzr fun K hK=>?_|refine zzt fun K hK=>?_
 simp [go_sem]
 refine hK _ _ ?_;clear hK K
 refine zac (fun K1 hK1=>?_)
 refine zae ?_
 refine zaE (fun m g w'=>w'=w∧∃ k:Nat,n≤k∧k≤s.size∧m=s.size-k∧g 0 = .string s∧g 1 = .int .i64 k∧g 2 = .bool L∧k+endN L ((bs s).drop k)=n+endN L ((bs s).drop n)) (s.size-n) ?_ ?_
 ·exact ⟨rfl,n,Nat.le_refl _,hn,rfl,rfl,rfl,rfl,rfl⟩
 ·rintro m g w' ⟨rfl,k,h1,h2,rfl,g0,g1,g2,hk⟩
  refine zac (fun K2 hK2=>?_)
  refine zei (fun g' w1=>w1=w'∧g' 0 = .string s∧g' 1 = .int .i64 k∧g' 2 = .bool L∧g' 27 = .bool (decide (k<s.size) && goOn L (za9 s k))) (by kernel_rfl) ?_ ?_
  ·by_cases hlt:k<s.size
   ·simp [go_sem,g0,g1,g2,hlt]
    refine za5 (by simp [go_sem,hlt]) rfl Tryz.call24 (fun R hR=>?_)
    simp [go_sem,hlt]
    refine (kind_any _ _).mono ?_
    rintro e w1 ⟨rfl,rfl⟩
    refine ⟨_,rfl,hR _ _ ?_⟩
    clear hR R
    unfold goOn
    by_cases h3:zcW ↑(za9 s k).toNat=3
    ·simp [go_sem,h3,g0,g1,g2]
    ·cases L with
     | false =>
      simp [go_sem,h3,g0,g1,g2]
     | true =>
      simp [go_sem,h3,g0,g1,g2,hlt]
      refine za5 (by simp [go_sem,h3,g2]) rfl Tryz.call24 (fun R hR=>?_)
      simp [go_sem,h3,g2]
      refine (kind_any _ _).mono ?_
      rintro e w1 ⟨rfl,rfl⟩
      refine ⟨_,rfl,hR _ _ ?_⟩
      clear hR R
      simp [go_sem,h3,g0,g1,g2,hlt]
   ·simp [go_sem,g0,g1,g2,hlt]
  ·rintro g' w1 ⟨rfl,g0,g1,g2,g27⟩
   refine zai g27 rfl ?_
   rw [endN_step] at hk
   cases hb:(decide (k<s.size) && goOn L (za9 s k)) with
   | true =>
    rw [hb,if_pos rfl] at hk
    have hlt:k<s.size:=by simp at hb;exact hb.1
    refine zaa (hK2 _ _ ?_);clear hK2 K2
    refine zae ?_
    refine zzt fun K hK=>?_
    simp [go_sem,g0,g1,g2]
    refine hK _ _ ⟨s.size-(k+1),by omega,rfl,k+1,by omega,by omega,rfl,?_,?_,?_,by omega⟩
    all_goals simp (disch:=omega) [go_sem,g0,g1,g2,IntWalk.i64_in]
   | false =>
    rw [hb,if_neg (by simp)] at hk
    refine zaz ?_
    repeat (first|refine zag ?_|refine za8 rfl ?_|refine zab ?_)
    refine hK1 _ _ ?_;clear hK1 K1 hK2 K2
    first|refine zzr fun K hK=>?_|refine zzt fun K hK=>?_
    simp [go_sem,g0,g1,g2]
    refine hK _ _ ?_;clear hK K
    refine zaf ⟨trivial,?_,rfl⟩
    simp [go_sem,zat,zas]
    omega
def KW:List (List UInt8):=[[97,110,103,108,101],
 [97,112,101,120],
 [98,105,115,101,99,116,111,114],
 [99,101,110,116,101,114],
 [99,105,114,99,108,101],
 [99,105,114,99,117,109],
 [99,111,108,108,105,110,101,97,114],
 [99,111,109,109,111,110],
 [99,111,110,99,121,99,108,105,99],
 [99,111,110,103,114,117,101,110,116],
 [99,114,111,115,115],
 [99,117,116],
 [100,105,118,105,100,101],
 [102,111,111,116],
 [108,105,110,101],
 [109,101,101,116],
 [109,105,100,112,111,105,110,116],
 [109,105,114,114,111,114],
 [111,110],
 [111,116,104,101,114],
 [112,97,114,97,108,108,101,108],
 [112,101,114,112,101,110,100,105,99,117,108,97,114],
 [112,111,105,110,116,115],
 [112,114,111,118,101],
 [114,97,116,105,111],
 [114,101,102,108,101,99,116],
 [115,97,109,101],
 [115,104,105,102,116],
 [116,117,114,110]]
def strV (l:List UInt8):Value:=.string ⟨l.toArray⟩
def KWC:Array Value:=(KW.map strV).toArray
def kwAt (k:Nat):List UInt8:=KW.getD k []
def isKw (l:List UInt8):Bool:=KW.contains l
theorem kw_any (w:World):Calls Tryz.prog 49 #[] w fun e w'=>∃ b,e = .returned (.slice (some ⟨b,0,none⟩) 29 29)∧Below w.heap.size w w'∧w.heap.size≤b∧Bx w' b KWC 9:=by
 refine za7 (args:=[]) (rs:=[.tmp 0]) (n:=2) Tryz.func49 rfl rfl rfl (by kernel_rfl) ?_
 first|refine zzr fun K hK=>?_|refine zzt fun K hK=>?_
 simp [go_sem]
 refine hK _ _ ?_;clear hK K
 first|refine zzr fun K hK=>?_|refine zzt fun K hK=>?_
 simp [go_sem]
 refine zaq KWC (by simp [go_sem]) rfl ty_slZ62 (by decide) _ rfl (by kernel_rfl) (fun w1 b hb hle hbx=>?_)
 simp [go_sem]
 refine hK _ _ ?_;clear hK K
 refine zaf ⟨trivial,b,?_,hb,hle,hbx⟩
 simp [go_sem,zat,zas]
theorem kwr_any (w:World):Calls Tryz.prog 62 #[] w fun e w'=>∃ b,e = .returned (.slice (some ⟨b,0,none⟩) 29 29)∧Below w.heap.size w w'∧w.heap.size≤b∧Bx w' b KWC 9:=by
 refine za7 (args:=[]) (rs:=[.tmp 0]) (n:=2) Tryz.func62 rfl rfl rfl (by kernel_rfl) ?_
 first|refine zzr fun K hK=>?_|refine zzt fun K hK=>?_
 simp [go_sem]
 refine hK _ _ ?_;clear hK K
 first|refine zzr fun K hK=>?_|refine zzt fun K hK=>?_
 simp [go_sem]
 refine zaq KWC (by simp [go_sem]) rfl ty_slZ62 (by decide) _ rfl (by kernel_rfl) (fun w1 b hb hle hbx=>?_)
 simp [go_sem]
 refine hK _ _ ?_;clear hK K
 refine zaf ⟨trivial,b,?_,hb,hle,hbx⟩
 simp [go_sem,zat,zas]
def preB (l:List UInt8):Bool:=!l.isEmpty && decide (l.length≤20) && decide (zcW (l.getD 0 0).toNat=2) && l.all (goOn true)
def nameB (l:List UInt8):Bool:=preB l && !(isKw l)
theorem preB_s (s:ByteArray):preB (bs s)=(decide (0<s.size) && decide (s.size≤20) && decide (zcW (za9 s 0).toNat=2) && (bs s).all (goOn true)):=by
 unfold preB za9
 rw [zb9]
 congr 3
 rw [←zb9]
 cases bs s<;>simp
theorem KWC_get (k:Nat) (hk:k<29):KWC[k]? = some (strV (kwAt k)):=by
 have h:k<KW.length:=hk
 simp [kwAt,KWC,List.getD_eq_getElem?_getD,List.getElem?_eq_getElem h]
theorem KW_mem (l:List UInt8) (h:∀ i,i<29→kwAt i≠l):isKw l=false:=by
 cases hc:isKw l with
 | false=>rfl
 | true =>
  unfold isKw at hc
  rw [List.contains_iff_mem] at hc
  obtain ⟨i,hi,he⟩:=List.getElem_of_mem hc
  refine absurd ?_ (h i hi)
  rw [kwAt,List.getD_eq_getElem?_getD,List.getElem?_eq_getElem hi,Option.getD_some,he]
theorem KW_hit (l:List UInt8) (i:Nat) (hi:i<29) (h:kwAt i=l):isKw l=true:=by
 have hi':i<KW.length:=hi
 unfold isKw
 rw [List.contains_iff_mem,←h,kwAt,List.getD_eq_getElem?_getD,List.getElem?_eq_getElem hi',Option.getD_some]
 exact List.getElem_mem hi'
theorem endN_lt (s:ByteArray):decide (((endN true (bs s):Nat):Int)<((s.size:Nat):Int)) = !((bs s).all (goOn true)):=by
 have h1:=endN_le true (bs s)
 have h2:=endN_all true (bs s)
 rw [zb9] at h1 h2
 cases hb:(bs s).all (goOn true) with
 | true =>
  have:endN true (bs s)=s.size:=by rw [h2,hb]
  simp [this]
 | false =>
  have:endN true (bs s)≠s.size:=by rw [Ne,h2,hb];simp
  simp;omega
set_option maxHeartbeats 1000000 in
theorem isName_any (s:ByteArray) (w:World) (hs:s.size≤maxLen) :
  Calls Tryz.prog 27 #[.string s] w fun e w'=>e = .returned (.bool (nameB (bs s)))∧Below w.heap.size w w':=by
 have hl:=zb9 s
 have hpre:=preB_s s
 refine za7 (args:=[.string s]) (rs:=[.tmp 2]) (n:=35) Tryz.func27 rfl rfl rfl (by kernel_rfl) ?_
 first|refine zzr fun K hK=>?_|refine zzt fun K hK=>?_
 simp [go_sem]
 refine hK _ _ ?_;clear hK K
 refine zac (fun K1 hK1=>?_)
 refine zei (fun g w1=>w1=w∧g 0 = .string s∧g 24 = .bool (!preB (bs s))) (by kernel_rfl) ?_ ?_
 ·by_cases h0:s.size=0
  ·have e:bs s=[]:=List.length_eq_zero_iff.1 (by rw [zb9];exact h0)
   have hp:preB (bs s)=false:=by rw [e];rfl
   have e2:bs ⟨#[]⟩=[]:=rfl
   have e3:preB []=false:=rfl
   simp [go_sem,e,e3,e2]
  ·have hpos:0<s.size:=by omega
   have e:¬bs s=[]:=fun h=>h0 (by rw [←zb9,h];rfl)
   have e2:bs ⟨#[]⟩=[]:=rfl
   by_cases h20:s.size≤20
   ·have h20':¬(20:Int)<s.size:=by omega
    simp [go_sem,e,e2,h20',hpos]
    refine za5 (by simp [go_sem,h20']) rfl Tryz.call24 (fun R hR=>?_)
    simp [go_sem,h20']
    refine (kind_any _ _).mono ?_
    rintro e w1 ⟨rfl,rfl⟩
    refine ⟨_,rfl,hR _ _ ?_⟩
    clear hR R
    by_cases h2:zcW ↑(za9 s 0).toNat=2
    ·simp [go_sem,h2,h20']
     refine za5 (by simp [go_sem,h2,h20']) rfl Tryz.call48 (fun R hR=>?_)
     simp [go_sem,h2,h20']
     refine (end_any s 0 true _ hs (by omega)).mono ?_
     rintro e w1 ⟨rfl,rfl⟩
     refine ⟨_,rfl,hR _ _ ?_⟩
     clear hR R
     have e3:=endN_lt s
     simp [go_sem,h2,h20',hpre,hpos,h20] at e3 ⊢
     exact e3
    ·simp [go_sem,h2,h20',hpre]
   ·have h20':(20:Int)<s.size:=by omega
    simp [go_sem,e,e2,h20',hpos,hpre,h20]
 ·rintro g w1 ⟨rfl,g0,g24⟩
  refine zai g24 rfl ?_
  cases hb:preB (bs s) with
  | false =>
   first|refine zzr fun K hK=>?_|refine zzt fun K hK=>?_
   simp [go_sem]
   refine hK _ _ ?_;clear hK K
   refine zaf ?_
   repeat (first|refine za3 ?_|refine za2 ?_)
   refine ⟨trivial,?_,Below.refl _ _⟩
   simp [go_sem,zat,zas,nameB,hb]
  | true =>
   refine zaa (hK1 _ _ ?_);clear hK1 K1
   refine zac (fun K1 hK1=>?_)
   first|refine zzr fun K hK=>?_|refine zzt fun K hK=>?_
   simp [go_sem]
   refine za5 (by simp [go_sem]) rfl Tryz.call49 (fun R hR=>?_)
   simp [go_sem]
   refine (kw_any _).mono ?_
   rintro e w2 ⟨b,rfl,hE,hle,hbx⟩
   refine ⟨_,rfl,hR _ _ ?_⟩
   clear hR R
   simp [go_sem]
   refine hK _ _ ?_;clear hK K
   refine zae ?_
   refine zaE (fun m g w'=>w'=w2∧∃ k:Nat,k≤29∧m=29-k∧g 0 = .string s∧g 25 = .slice (some ⟨b,0,none⟩) 29 29∧g 26 = .int .i64 29∧g 27 = .int .i64 k∧∀ i,i<k→kwAt i≠bs s) 29 ?_ ?_
   ·exact ⟨rfl,0,by omega,rfl,by simp [go_sem,g0],rfl,rfl,rfl,fun i hi=>by omega⟩
   ·rintro m g w' ⟨rfl,k,h1,rfl,g0,g25,g26,g27,hk⟩
    by_cases hlt:k<29
    ·have hlt':(k:Int)<29:=by omega
     first|refine zzr fun K hK=>?_|refine zzt fun K hK=>?_
     simp [go_sem,g26,g27,hlt']
     refine hK _ _ ?_;clear hK K
     refine zac (fun K2 hK2=>?_)
     refine zai (by simp [go_sem];rfl) rfl ?_
     refine zaa (hK2 _ _ ?_);clear hK2 K2
     refine zac (fun K2 hK2=>?_)
     refine zae ?_
     have hc:=hbx.cell k
     rw [KWC_get k hlt] at hc
     first|refine zzr fun K hK=>?_|refine zzt fun K hK=>?_
     simp [go_sem,g25,g27,hc,hlt']
     refine hK _ _ ?_;clear hK K
     have ek:bs ⟨(kwAt k).toArray⟩=kwAt k:=bs_mk _
     first|refine zzr fun K hK=>?_|refine zzt fun K hK=>?_
     simp [go_sem,g0,strV]
     by_cases heq:kwAt k=bs s
     ·refine hK _ _ ?_;clear hK K
      refine zai (by simp [go_sem,ek,heq];rfl) rfl ?_
      first|refine zzr fun K hK=>?_|refine zzt fun K hK=>?_
      simp [go_sem]
      refine hK _ _ ?_;clear hK K
      refine zaf ?_
      repeat (first|refine za3 ?_|refine za2 ?_)
      refine ⟨trivial,?_,hE⟩
      simp [go_sem,zat,zas,nameB,hb,KW_hit _ k hlt heq]
     ·refine hK _ _ ?_;clear hK K
      refine zai (by simp [go_sem,ek,heq];rfl) rfl ?_
      refine zaa ?_
      refine hK2 _ _ ?_;clear hK2 K2
      refine zzt fun K hK=>?_
      simp [go_sem,g27]
      refine hK _ _ ⟨29-(k+1),by omega,rfl,k+1,by omega,rfl,?_,?_,?_,?_,?_⟩
      ·simp [go_sem,g0]
      ·simp [go_sem,g25]
      ·simp [go_sem,g26]
      ·simp (disch:=omega) [go_sem,IntWalk.i64_in]
      ·intro i hi
       by_cases h:i=k
       ·rw [h];exact heq
       ·exact hk i (by omega)
    ·have hlt':¬(k:Int)<29:=by omega
     first|refine zzr fun K hK=>?_|refine zzt fun K hK=>?_
     simp [go_sem,g26,g27,hlt']
     refine hK _ _ ?_;clear hK K
     refine zac (fun K2 hK2=>?_)
     refine zai (by simp [go_sem];rfl) rfl ?_
     refine zaz ?_
     repeat (first|refine zag ?_|refine za8 rfl ?_|refine zab ?_)
     refine hK1 _ _ ?_
     first|refine zzr fun K hK=>?_|refine zzt fun K hK=>?_
     simp [go_sem]
     refine hK _ _ ?_;clear hK K
     refine zaf ⟨trivial,?_,hE⟩
     have:=KW_mem (bs s) (fun i hi=>hk i (by omega))
     simp [go_sem,zat,zas,nameB,hb,this]
end Go.Proofs.YtefhenfofomjhaaGreat
