/- The same program, with positions. -/
import Derived.Test.YtefhenfofomjhaaSm1
import Derived.Test.YtefhenfofomjhaaSx4
import Derived.Test.YtefhenfofomjhaaPt8
set_option linter.unusedSimpArgs false
set_option linter.unusedVariables false
namespace Go.Proofs.Ytefhenfofomjhaa
open Go Go.RowKit Go.V
set_option maxRecDepth 20000
inductive Nar:Tre→Prop where
 | mk {k:Int} {n:List UInt8} {b:Bool} {l m:List Nat} {args:List Tre} {p:Int} (h:args.length≤6) (ha:∀ x∈args,Nar x):Nar (.mk k n b l m args p)
theorem Nar.len {x:Tre} (h:Nar x):x.args.length≤6:=by cases h;assumption
theorem Nar.arg {x y:Tre} (h:Nar x) (hy:y∈x.args):Nar y:=by
 cases h with
 | mk h ha=>exact ha y hy
theorem nar_0:Nar ex0:=.mk (Nat.zero_le _) (fun x h=>by cases h)
section
variable {T:List Tok}
theorem args_nar {arg:Int→Nat→Res Tre} (h:∀ p i x j,arg p i = .ok x j→Nar x):∀ (ps:List Int) (first:Bool) (i:Nat) (xs:List Tre) (j:Nat),zc9 T arg first ps i = .ok xs j→xs.length=ps.length∧∀ x∈xs,Nar x
 | [],first,i,xs,j,e=>by
  unfold zc9 at e
  injection e with e _
  subst e
  exact ⟨rfl,fun x h=>by cases h⟩
 | p::r,first,i,xs,j,e=>by
  unfold zc9 at e
  cases he:expS T (if first=true then sLP else sCM) i with
  | er j e2=>rw [he] at e;cases e
  | ok u j1 =>
   rw [he] at e
   simp only at e
   cases ha:arg p j1 with
   | er j e2=>rw [ha] at e;cases e
   | ok x j2 =>
    rw [ha] at e
    simp only at e
    cases hz:zc9 T arg false r j2 with
    | er j e2=>rw [hz] at e;cases e
    | ok ys j3 =>
     rw [hz] at e
     obtain ⟨h1,h2⟩:=args_nar h r false j2 ys j3 hz
     injection e with e _
     subst e
     refine ⟨by simp [h1],fun y hy=>?_⟩
     rcases List.mem_cons.1 hy with rfl|hy
     ·exact h _ _ _ _ ha
     ·exact h2 y hy
theorem pars_len (k:Int):(zc1 k).length≤6:=by
 have h:∀ i,i<31→(ktAt i).2.2.2.length≤6:=by decide +kernel
 unfold zc1
 have hk:kIx k<31:=by
  unfold kIx
  (repeat' split)<;>omega
 exact h _ hk
theorem con_nar {arg:Int→Nat→Res Tre} (h:∀ p i x j,arg p i = .ok x j→Nar x) {sort:Int} {i j:Nat} {x:Tre} (e:conS T arg sort i = .ok x j):Nar x:=by
 unfold conS at e
 split at e
 ·cases e
 ·cases ha:zc9 T arg true (zc1 (kofS T i sort)) (i+1) with
  | er j e2=>rw [ha] at e;cases e
  | ok xs j1 =>
   rw [ha] at e
   obtain ⟨h1,h2⟩:=args_nar h _ _ _ _ _ ha
   simp only at e
   cases he:endS T (kofS T i sort) j1 with
   | er j e2=>rw [he] at e;cases e
   | ok q j2 =>
    rw [he] at e
    injection e with e _
    subst e
    exact .mk (by rw [h1];exact pars_len _) h2
theorem arg_nar:∀ (f:Nat) (sort:Int) (i:Nat) (x:Tre) (j:Nat),argS T f sort i = .ok x j→Nar x
 | 0,sort,i,x,j,h=>by
  unfold argS at h
  split at h<;>cases h
 | f+1,sort,i,x,j,h=>by
  unfold argS at h
  split at h
  ·cases h
  ·simp only at h
   split at h
   ·injection h with h _
    subst h
    exact .mk (Nat.zero_le _) (fun x h=>by cases h)
   ·exact con_nar (arg_nar f) h
theorem def_nar {kind:Int} {i j:Nat} {s:Stm} (h:defS T kind i = .ok s j):Nar s.expr:=by
 unfold defS at h
 split at h
 ·split at h
  ·cases h
  ·cases he:expS T sAS (i+1) with
   | er j e=>rw [he] at h;cases h
   | ok u j1 =>
    rw [he] at h
    simp only at h
    cases hc:conS T (argS T 19) (srtS kind) j1 with
    | er j e=>rw [hc] at h;cases h
    | ok x j2 =>
     rw [hc] at h
     injection h with h _
     subst h
     exact con_nar (arg_nar 19) hc
 ·cases hc:conS T (argS T 19) (srtS kind) i with
  | er j e=>rw [hc] at h;cases h
  | ok x j2 =>
   rw [hc] at h
   injection h with h _
   subst h
   exact con_nar (arg_nar 19) hc
theorem stm_nar {i j:Nat} {s:Stm} (h:stmS T i = .ok s j):Nar s.expr:=by
 unfold stmS at h
 cases h1:stmS1 T i with
 | er j e=>rw [h1] at h;cases h
 | ok s1 j1 =>
  rw [h1] at h
  simp only at h
  have hn:Nar s1.expr:=by
   unfold stmS1 at h1
   split at h1
   ·cases hn:zcp T T.length (i+1) [] with
    | er j e=>rw [hn] at h1;cases h1
    | ok l j1 =>
     rw [hn] at h1
     injection h1 with h1 _
     subst h1
     exact nar_0
   ·(repeat' split at h1)<;>exact def_nar h1
  cases he:expS T sSC j1 with
  | er j e=>rw [he] at h;cases h
  | ok u j2 =>
   rw [he] at h
   injection h with h _
   subst h
   exact hn
theorem Chain.nar {i j:Nat} {l:List Stm} (h:Chain T i l j):∀ s∈l,Nar s.expr:=by
 induction h with
 | nil i=>intro s h;cases h
 | cons hk h hl ih =>
  intro s hs
  rcases List.mem_cons.1 hs with rfl|hs
  ·exact stm_nar h
  ·exact ih s hs
end
theorem progV_ok {s:ByteArray} (h:(zdL s).2.2=0):(allR s).2.2=0∧zdL s=progS (tokT s)∧Wf (tokT s):=by
 unfold zdL at h ⊢
 by_cases he:(allR s).2.2=0
 ·rw [if_pos he]
  exact ⟨he,prog_eq (wf_tok he),wf_tok he⟩
 ·rw [if_neg he] at h
  exact absurd (by simpa using h) he
theorem bs_append (a b:ByteArray):bs (a++b)=bs a++bs b:=by simp [bs]
theorem progV_join {a b u:ByteArray} (ha:a.size≤4000) (hb:b.size≤4000) (hu:bs u=bs a++10::bs b) (h1:(zdL a).2.2=0) (h2:(zdL b).2.2=0) :
  zdL u=((zdL a).1++(zdL b).1.map (mvS (mvW (a.size+1:Nat)) (mvP (a.size+1:Nat))),0,0)∧(zdL a).2.1=0∧(zdL b).2.1=0∧∀ s∈(zdL b).1,Nar s.expr:=by
 obtain ⟨a1,a2,a3⟩:=progV_ok h1
 obtain ⟨b1,b2,b3⟩:=progV_ok h2
 have la:=lexL_allR a1
 have lb:=lexL_allR b1
 obtain ⟨TI,t1,t2⟩:=lexL_join la
 have lb2:=lexL_shift (a.size+1) lb
 have hlen:(bs a).length=a.size:=zaM a
 rw [Nat.zero_add,hlen] at t1 t2
 rw [Nat.zero_add] at lb2
 have lu:=t2 _ _ lb2
 rw [←hu] at lu
 have hus:u.size≤20000:=by
  have:=congrArg List.length hu
  rw [zaM] at this
  simp at this
  rw [zaM,zaM] at this
  omega
 obtain ⟨u1,u2⟩:=allR_lexL lu hus
 have hwu:=wf_tok u1
 rw [a2] at h1 ⊢
 rw [b2] at h2 ⊢
 obtain ⟨lA,p1,_⟩:=progS_ok a3 h1
 obtain ⟨lB,p2,p3⟩:=progS_ok b3 h2
 have hpu:zdL u=progS (tokT u):=by unfold zdL;rw [if_pos u1,prog_eq hwu]
 rw [t1] at a3 h1
 have:=prog_join (n:=a.size) (c:=a.size+1) a3 b3 (by omega) h1 h2
 rw [←t1] at this
 refine ⟨by rw [hpu,u2];exact this,by rw [p1],by rw [p2],by rw [p2];exact p3.nar⟩
theorem lmC_at {l:List Nat} {i:Nat} (h:i<l.length):(lmC l).getD i undef = .int .u16 (l.getD i 0):=by
 unfold lmC
 simp [List.getD_eq_getElem?_getD,h]
set_option maxHeartbeats 1000000 in
theorem sameNat_any {w:World} {a b:Option Addr} {c d:Nat} {l:List Nat} (h1:RD w a c l) (h2:RD w b d l) (hl:l.length≤maxLen):Calls Try.prog 48 #[.slice a l.length c,.slice b l.length d] w fun e w'=>e = .returned (.bool true)∧Below w.heap.size w w':=by
 unfold maxLen at hl
 refine za8 (args:=[.slice a l.length c,.slice b l.length d]) (rs:=[.tmp 4]) (n:=26) Try.func48 rfl rfl rfl (by kernel_rfl) ?_
 have hA0:=Below.refl w.heap.size w
 first|refine zzr fun K hK=>?_|refine zzt fun K hK=>?_
 simp [go_sem,za0,za2,za1]
 refine hK _ _ ?_;clear hK K
 refine zad (fun K1 hK1=>?_)
 first|refine zzr fun K hK=>?_|refine zzt fun K hK=>?_
 simp [go_sem,za0,za2,za1]
 refine hK _ _ ?_;clear hK K
 refine zam (t:=false) (by simp [go_sem,za0,za2,za1]) rfl ?_
 refine zae ?_
 refine hK1 _ _ ?_
 refine zad (fun K2 hK2=>?_)
 first|refine zzr fun K hK=>?_|refine zzt fun K hK=>?_
 simp [go_sem,za0,za2,za1]
 refine hK _ _ ?_;clear hK K
 refine zaf ?_
 refine zaG (fun m' g w'=>Below w.heap.size w w'∧∃ j:Nat,j≤l.length∧m'=l.length-j∧g 0 = .slice a l.length c∧g 1 = .slice b l.length d∧g 12 = .int .i64 l.length∧g 13 = .int .i64 j) l.length ?_ ?_
 ·exact ⟨hA0,0,by omega,rfl,by simp [go_sem],by simp [go_sem],by simp [go_sem],by simp [go_sem]⟩
 clear hA0
 rintro m' g w' ⟨hA0,j,hj,rfl,g0,g1,g12,g13⟩
 by_cases hlt:j<l.length
 ·have c1:(j:Int)<l.length:=by omega
  have hw1:IntKind.i64.wrap ((j:Int)+1)=(j+1:Nat):=by rw [IntWalk.i64_in _ (by omega)];omega
  have k1:=h1.sl.ext (hA0.next (Below.drew1 _))
  have k2:=h2.sl.ext (hA0.next (Below.drew1 _))
  obtain ⟨q1,q2⟩:=k1.getD (j:=j) (by simp [lmC];omega)
  obtain ⟨p1,p2⟩:=k2.getD (j:=j) (by simp [lmC];omega)
  rw [lmC_at hlt] at q1 p1
  generalize l.getD j 0=v at q1 p1
  first|refine zzr fun K hK=>?_|refine zzt fun K hK=>?_
  simp [go_sem,za0,za2,za1,g0,g1,g12,g13, c1,hlt]
  refine hK _ _ ?_;clear hK K
  refine zad (fun K3 hK3=>?_)
  refine zam (t:=true) (by simp [go_sem,za0,za2,za1,g0,g1,g12,g13,c1,hlt]) rfl ?_
  refine zae ?_
  refine hK3 _ _ ?_
  refine zad (fun K4 hK4=>?_)
  refine zaf ?_
  first|refine zzr fun K hK=>?_|refine zzt fun K hK=>?_
  simp [go_sem,za0,za2,za1,g0,g1,g12,g13]
  refine hK _ _ ?_;clear hK K
  have hD1:=Below.drew1 w'
  replace hA0:=hA0.next hD1
  first|refine W_rd [(0,0),(1,0),(2,0),(3,0),(4,0),(5,0),(6,0),(7,0),(8,0)] (by kernel_rfl) (by kernel_rfl) (fun K hK=>?_)|refine zbD [(0,0),(1,0),(2,0),(3,0),(4,0),(5,0),(6,0),(7,0),(8,0)] (by kernel_rfl) (by kernel_rfl) (fun K hK=>?_)
  simp [go_sem,za0,za2,za1,g0,g1,g12,g13, c1,hlt,q1,q2,p1,p2]
  refine hK _ _ ?_;clear hK K
  refine zam (t:=false) (by simp [go_sem,za0,za2,za1,g0,g1,g12,g13]) rfl ?_
  refine zae ?_
  refine hK4 _ _ ?_
  refine zzt fun K hK=>?_
  simp [go_sem,g13,hw1]
  refine hK _ _ ⟨l.length-(j+1),by omega,hA0,j+1,by omega,rfl,by simp [go_sem,g0],by simp [go_sem,g1],by simp [go_sem,g12],by simp [go_sem]⟩
 ·have c1:¬(j:Int)<l.length:=by omega
  first|refine zzr fun K hK=>?_|refine zzt fun K hK=>?_
  simp [go_sem,za0,za2,za1,g0,g1,g12,g13, c1,hlt]
  refine hK _ _ ?_;clear hK K
  refine zad (fun K3 hK3=>?_)
  refine zam (t:=false) (by simp [go_sem,za0,za2,za1,g0,g1,g12,g13,c1,hlt]) rfl ?_
  refine zaA ?_
  repeat (first|refine zah ?_|refine za9 rfl ?_|refine zac ?_)
  refine hK2 _ _ ?_
  first|refine zzr fun K hK=>?_|refine zzt fun K hK=>?_
  simp [go_sem,za0,za2,za1,g0,g1,g12,g13]
  refine hK _ _ ?_;clear hK K
  refine zaj ?_
  repeat (first|refine za4 ?_|refine za3 ?_)
  refine ⟨trivial,?_,hA0⟩
  simp [go_sem,zax,zav]
set_option maxHeartbeats 1000000 in
theorem sameRat_any {w:World} {n:Bool} {ya yb za zb:Option Addr} {yc yd zc zd:Nat} {l m:List Nat} (h1:RD w ya yc l) (h2:RD w yb yd m) (h3:RD w za zc l) (h4:RD w zb zd m) (hl:l.length≤maxLen) (hm:m.length≤maxLen) :
  Calls Try.prog 38 #[.agg #[.bool n,.slice ya l.length yc,.slice yb m.length yd],.agg #[.bool n,.slice za l.length zc,.slice zb m.length zd]] w fun e w'=>e = .returned (.bool true)∧Below w.heap.size w w':=by
 refine za8 (args:=[.agg #[.bool n,.slice ya l.length yc,.slice yb m.length yd],.agg #[.bool n,.slice za l.length zc,.slice zb m.length zd]]) (rs:=[.tmp 4]) (n:=28) Try.func38 rfl rfl rfl (by kernel_rfl) ?_
 have hA0:=Below.refl w.heap.size w
 first|refine zzr fun K hK=>?_|refine zzt fun K hK=>?_
 simp [go_sem,za0,za2,za1]
 refine zbU #[.bool n,.slice ya l.length yc,.slice yb m.length yd] (by simp [go_sem,za0,za2,za1]) rfl (by simp [go_sem,Value.cells,za0,za2,za1]) (fun w1 b1 hE1 hle1 hB1=>?_)
 have hb1_0:=Nat.le_trans hA0.size hle1
 replace hA0:=hA0.next hE1
 simp [go_sem,za0,za2,za1,hB1.cell]
 refine zbU #[.bool n,.slice za l.length zc,.slice zb m.length zd] (by simp [go_sem,za0,za2,za1,hB1.cell]) rfl (by simp [go_sem,Value.cells,za0,za2,za1,hB1.cell]) (fun w2 b2 hE2 hle2 hB2=>?_)
 have hb2_0:=Nat.le_trans hA0.size hle2
 have hd1_2:b1≠b2:=Nat.ne_of_lt (Nat.lt_of_lt_of_le hB1.lt hle2)
 replace hA0:=hA0.next hE2
 replace hB1:=hB1.keep hE2
 simp [go_sem,za0,za2,za1,hB1.cell,hB2.cell]
 refine hK _ _ ?_;clear hK K
 first|refine zzr fun K hK=>?_|refine zzt fun K hK=>?_
 simp [go_sem,za0,za2,za1,hB1.cell,hB2.cell]
 refine za5 (by simp [go_sem,za0,za2,za1,hB1.cell,hB2.cell]) rfl Try.call48 (fun R hR=>?_)
 simp [go_sem,za0,za2,za1,hB1.cell,hB2.cell]
 refine (sameNat_any (h1.ext hA0) (h3.ext hA0) hl).mono ?_
 rintro e w3 ⟨rfl,hE3⟩
 refine ⟨_,rfl,hR _ _ ?_⟩
 clear hR R
 replace hA0:=hA0.next hE3
 replace hB1:=hB1.keep hE3
 replace hB2:=hB2.keep hE3
 simp [go_sem,za0,za2,za1,hB1.cell,hB2.cell]
 refine za5 (by simp [go_sem,za0,za2,za1,hB1.cell,hB2.cell]) rfl Try.call48 (fun R hR=>?_)
 simp [go_sem,za0,za2,za1,hB1.cell,hB2.cell]
 refine (sameNat_any (h2.ext hA0) (h4.ext hA0) hm).mono ?_
 rintro e w4 ⟨rfl,hE4⟩
 refine ⟨_,rfl,hR _ _ ?_⟩
 clear hR R
 replace hA0:=hA0.next hE4
 replace hB1:=hB1.keep hE4
 replace hB2:=hB2.keep hE4
 simp [go_sem,za0,za2,za1,hB1.cell,hB2.cell]
 refine hK _ _ ?_;clear hK K
 refine zaj ?_
 repeat (first|refine za4 ?_|refine za3 ?_)
 refine ⟨trivial,?_,hA0⟩
 simp [go_sem,zax,zav]
set_option maxHeartbeats 2000000 in
theorem zdc (x:Tre) (w:World) (F1 F2:Nat→Prop) (R1 R2:List Value) (h1:EX w F1 R1 x) (h2:EX w F2 R2 x):Calls Try.prog 28 #[.agg R1.toArray,.agg R2.toArray] w fun e w'=>e = .returned (.bool true)∧Below w.heap.size w w':=by
 obtain ⟨ya,yc,yb,yd,ye,yp,yrows,rfl,y1,y2,y3,y4,y5,y6⟩:=h1.open
 obtain ⟨za,zc,zb,zd,ze,zp,zrows,rfl,z1,z2,z3,z4,z5,z6⟩:=h2.open
 have hal:=y3.max
 unfold maxLen at hal
 refine za8 (args:=[.agg #[.int .i64 x.kind,.string ⟨x.name.toArray⟩,.bool x.neg,.slice ya x.num.length yc,.slice yb x.den.length yd,.slice ye x.args.length yp,.int .i64 x.pos],.agg #[.int .i64 x.kind,.string ⟨x.name.toArray⟩,.bool x.neg,.slice za x.num.length zc,.slice zb x.den.length zd,.slice ze x.args.length zp,.int .i64 x.pos]]) (rs:=[.tmp 4]) (n:=54) Try.func28 rfl rfl rfl (by kernel_rfl) ?_
 have hA0:=Below.refl w.heap.size w
 first|refine zzr fun K hK=>?_|refine zzt fun K hK=>?_
 simp [go_sem,za0,za2,za1]
 refine zbU #[.int .i64 x.kind,.string ⟨x.name.toArray⟩,.bool x.neg,.slice ya x.num.length yc,.slice yb x.den.length yd,.slice ye x.args.length yp,.int .i64 x.pos] (by simp [go_sem,za0,za2,za1]) rfl (by simp [go_sem,Value.cells,za0,za2,za1]) (fun w1 b1 hE1 hle1 hB1=>?_)
 have hb1_0:=Nat.le_trans hA0.size hle1
 replace hA0:=hA0.next hE1
 simp [go_sem,za0,za2,za1,hB1.cell]
 refine zbU #[.int .i64 x.kind,.string ⟨x.name.toArray⟩,.bool x.neg,.slice za x.num.length zc,.slice zb x.den.length zd,.slice ze x.args.length zp,.int .i64 x.pos] (by simp [go_sem,za0,za2,za1,hB1.cell]) rfl (by simp [go_sem,Value.cells,za0,za2,za1,hB1.cell]) (fun w2 b2 hE2 hle2 hB2=>?_)
 have hb2_0:=Nat.le_trans hA0.size hle2
 have hd1_2:b1≠b2:=Nat.ne_of_lt (Nat.lt_of_lt_of_le hB1.lt hle2)
 replace hA0:=hA0.next hE2
 replace hB1:=hB1.keep hE2
 simp [go_sem,za0,za2,za1,hB1.cell,hB2.cell]
 refine hK _ _ ?_;clear hK K
 refine zad (fun K1 hK1=>?_)
 first|refine zzr fun K hK=>?_|refine zzt fun K hK=>?_
 simp [go_sem,za0,za2,za1,hB1.cell,hB2.cell]
 refine za5 (by simp [go_sem,za0,za2,za1,hB1.cell,hB2.cell]) rfl Try.call38 (fun R hR=>?_)
 simp [go_sem,za0,za2,za1,hB1.cell,hB2.cell]
 refine (sameRat_any (y1.ext hA0) (y2.ext hA0) (z1.ext hA0) (z2.ext hA0) y5 y6).mono ?_
 rintro e w3 ⟨rfl,hE3⟩
 refine ⟨_,rfl,hR _ _ ?_⟩
 clear hR R
 replace hA0:=hA0.next hE3
 replace hB1:=hB1.keep hE3
 replace hB2:=hB2.keep hE3
 simp [go_sem,za0,za2,za1,hB1.cell,hB2.cell]
 refine hK _ _ ?_;clear hK K
 refine zam (t:=false) (by simp [go_sem,za0,za2,za1,hB1.cell,hB2.cell]) rfl ?_
 refine zae ?_
 refine hK1 _ _ ?_
 refine zad (fun K2 hK2=>?_)
 first|refine zzr fun K hK=>?_|refine zzt fun K hK=>?_
 simp [go_sem,za0,za2,za1,hB1.cell,hB2.cell]
 refine hK _ _ ?_;clear hK K
 refine zaf ?_
 refine zaG (fun m' g w'=>Below w.heap.size w w'∧Bx w' b1 #[.int .i64 x.kind,.string ⟨x.name.toArray⟩,.bool x.neg,.slice ya x.num.length yc,.slice yb x.den.length yd,.slice ye x.args.length yp,.int .i64 x.pos] 38∧Bx w' b2 #[.int .i64 x.kind,.string ⟨x.name.toArray⟩,.bool x.neg,.slice za x.num.length zc,.slice zb x.den.length zd,.slice ze x.args.length zp,.int .i64 x.pos] 38∧∃ j:Nat,j≤x.args.length∧m'=x.args.length-j∧g 2 = .pointer (some ⟨b1,0,none⟩)∧g 3 = .pointer (some ⟨b2,0,none⟩)∧g 37 = .int .i64 x.args.length∧g 38 = .int .i64 j) x.args.length ?_ ?_
 ·exact ⟨hA0,hB1,hB2,0,by omega,rfl,by simp [go_sem],by simp [go_sem],by simp [go_sem],by simp [go_sem]⟩
 clear hA0 hB1 hB2
 rintro m' g w' ⟨hA0,hB1,hB2,j,hj,rfl,g2,g3,gn,gi⟩
 by_cases hlt:j<x.args.length
 ·have c1:(j:Int)<x.args.length:=by omega
  have hw1:IntKind.i64.wrap ((j:Int)+1)=(j+1:Nat):=by rw [IntWalk.i64_in _ (by omega)];omega
  have hAd:=hA0.next (Below.drew1 w')
  obtain ⟨Ra,_,q1,q2,q3,q4⟩:=(y3.ext hAd).row (List.getElem?_eq_getElem hlt)
  obtain ⟨Rb,_,p1,p2,p3,p4⟩:=(z3.ext hAd).row (List.getElem?_eq_getElem hlt)
  have hrec:=zdc (x.args[j]'hlt) w'.drew _ _ Ra Rb q4 p4
  first|refine zzr fun K hK=>?_|refine zzt fun K hK=>?_
  simp [go_sem,za0,za2,za1,hB1.cell,hB2.cell,g2,g3,gn,gi, c1,hlt]
  refine hK _ _ ?_;clear hK K
  refine zad (fun K3 hK3=>?_)
  refine zam (t:=true) (by simp [go_sem,za0,za2,za1,hB1.cell,hB2.cell,g2,g3,gn,gi,c1,hlt]) rfl ?_
  refine zae ?_
  refine hK3 _ _ ?_
  refine zad (fun K4 hK4=>?_)
  refine zaf ?_
  first|refine zzr fun K hK=>?_|refine zzt fun K hK=>?_
  simp [go_sem,za0,za2,za1,hB1.cell,hB2.cell,g2,g3,gn,gi]
  refine hK _ _ ?_;clear hK K
  have hD4:=Below.drew1 w'
  replace hA0:=hA0.next hD4
  replace hB1:=hB1.keep hD4
  replace hB2:=hB2.keep hD4
  first|refine W_rd [(0,0),(1,0),(2,0),(3,0),(4,0),(5,0),(6,0),(7,0),(8,0),(9,0),(10,1),(11,0)] (by kernel_rfl) (by kernel_rfl) (fun K hK=>?_)|refine zbD [(0,0),(1,0),(2,0),(3,0),(4,0),(5,0),(6,0),(7,0),(8,0),(9,0),(10,1),(11,0)] (by kernel_rfl) (by kernel_rfl) (fun K hK=>?_)
  simp [go_sem,za0,hB1.cell,hB2.cell,g2,g3,gn,gi, c1,hlt,q1,q2,q3,p1,p2,p3]
  refine za5 (by simp [go_sem,za0,hB1.cell,hB2.cell,g2,g3,gn,gi,za2,za1,c1,hlt]) rfl Try.call28 (fun R hR=>?_)
  simp [go_sem,za0,hB1.cell,hB2.cell,g2,g3,gn,gi,za2,za1,c1,hlt]
  refine (hrec).mono ?_
  rintro e w5 ⟨rfl,hE5⟩
  refine ⟨_,rfl,(by assumption),hR _ _ ?_⟩
  clear hR R
  replace hA0:=hA0.next hE5
  replace hB1:=hB1.keep hE5
  replace hB2:=hB2.keep hE5
  simp [go_sem,za0,hB1.cell,hB2.cell,g2,g3,gn,gi,za2,za1,c1,hlt]
  refine hK _ _ ?_;clear hK K
  refine zam (t:=false) (by simp [go_sem,za0,hB1.cell,hB2.cell,g2,g3,gn,gi,za2,za1]) rfl ?_
  refine zae ?_
  refine hK4 _ _ ?_
  refine zzt fun K hK=>?_
  simp [go_sem,gi,hw1]
  refine hK _ _ ⟨x.args.length-(j+1),by omega,hA0,hB1,hB2,j+1,by omega,rfl,by simp [go_sem,g2],by simp [go_sem,g3],by simp [go_sem,gn],by simp [go_sem]⟩
 ·have c1:¬(j:Int)<x.args.length:=by omega
  first|refine zzr fun K hK=>?_|refine zzt fun K hK=>?_
  simp [go_sem,za0,za2,za1,hB1.cell,hB2.cell,g2,g3,gn,gi, c1,hlt]
  refine hK _ _ ?_;clear hK K
  refine zad (fun K3 hK3=>?_)
  refine zam (t:=false) (by simp [go_sem,za0,za2,za1,hB1.cell,hB2.cell,g2,g3,gn,gi,c1,hlt]) rfl ?_
  refine zaA ?_
  repeat (first|refine zah ?_|refine za9 rfl ?_|refine zac ?_)
  refine hK2 _ _ ?_
  first|refine zzr fun K hK=>?_|refine zzt fun K hK=>?_
  simp [go_sem,za0,za2,za1,hB1.cell,hB2.cell,g2,g3,gn,gi]
  refine hK _ _ ?_;clear hK K
  refine zaj ?_
  repeat (first|refine za4 ?_|refine za3 ?_)
  refine ⟨trivial,?_,hA0⟩
  simp [go_sem,zax,zav]
termination_by SizeOf.sizeOf x
decreasing_by
 exact Tre.lt_args (List.getElem_mem _)
set_option maxHeartbeats 2000000 in
theorem sameExpr_any (x:Tre) (w:World) (F1 F2:Nat→Prop) (R1 R2:List Value) (h1:EX w F1 R1 x) (h2:EX w F2 R2 x):Calls Try.prog 16 #[.agg R1.toArray,.agg R2.toArray] w fun e w'=>e = .returned (.bool true)∧Below w.heap.size w w':=by
 obtain ⟨ya,yc,yb,yd,ye,yp,yrows,rfl,y1,y2,y3,y4,y5,y6⟩:=h1.open
 obtain ⟨za,zc,zb,zd,ze,zp,zrows,rfl,z1,z2,z3,z4,z5,z6⟩:=h2.open
 have hal:=y3.max
 unfold maxLen at hal
 refine za8 (args:=[.agg #[.int .i64 x.kind,.string ⟨x.name.toArray⟩,.bool x.neg,.slice ya x.num.length yc,.slice yb x.den.length yd,.slice ye x.args.length yp,.int .i64 x.pos],.agg #[.int .i64 x.kind,.string ⟨x.name.toArray⟩,.bool x.neg,.slice za x.num.length zc,.slice zb x.den.length zd,.slice ze x.args.length zp,.int .i64 x.pos]]) (rs:=[.tmp 4]) (n:=36) Try.func16 rfl rfl rfl (by kernel_rfl) ?_
 have hA0:=Below.refl w.heap.size w
 first|refine zzr fun K hK=>?_|refine zzt fun K hK=>?_
 simp [go_sem,za0,za2,za1]
 refine zbU #[.int .i64 x.kind,.string ⟨x.name.toArray⟩,.bool x.neg,.slice ya x.num.length yc,.slice yb x.den.length yd,.slice ye x.args.length yp,.int .i64 x.pos] (by simp [go_sem,za0,za2,za1]) rfl (by simp [go_sem,Value.cells,za0,za2,za1]) (fun w1 b1 hE1 hle1 hB1=>?_)
 have hb1_0:=Nat.le_trans hA0.size hle1
 replace hA0:=hA0.next hE1
 simp [go_sem,za0,za2,za1,hB1.cell]
 refine zbU #[.int .i64 x.kind,.string ⟨x.name.toArray⟩,.bool x.neg,.slice za x.num.length zc,.slice zb x.den.length zd,.slice ze x.args.length zp,.int .i64 x.pos] (by simp [go_sem,za0,za2,za1,hB1.cell]) rfl (by simp [go_sem,Value.cells,za0,za2,za1,hB1.cell]) (fun w2 b2 hE2 hle2 hB2=>?_)
 have hb2_0:=Nat.le_trans hA0.size hle2
 have hd1_2:b1≠b2:=Nat.ne_of_lt (Nat.lt_of_lt_of_le hB1.lt hle2)
 replace hA0:=hA0.next hE2
 replace hB1:=hB1.keep hE2
 simp [go_sem,za0,za2,za1,hB1.cell,hB2.cell]
 refine hK _ _ ?_;clear hK K
 refine zad (fun K1 hK1=>?_)
 first|refine zzr fun K hK=>?_|refine zzt fun K hK=>?_
 simp [go_sem,za0,za2,za1,hB1.cell,hB2.cell]
 refine za5 (by simp [go_sem,za0,za2,za1,hB1.cell,hB2.cell]) rfl Try.call28 (fun R hR=>?_)
 simp [go_sem,za0,za2,za1,hB1.cell,hB2.cell]
 refine (zdc x _ _ _ _ _ (h1.ext hA0) (h2.ext hA0)).mono ?_
 rintro e w3 ⟨rfl,hE3⟩
 refine ⟨_,rfl,hR _ _ ?_⟩
 clear hR R
 replace hA0:=hA0.next hE3
 replace hB1:=hB1.keep hE3
 replace hB2:=hB2.keep hE3
 simp [go_sem,za0,za2,za1,hB1.cell,hB2.cell]
 refine hK _ _ ?_;clear hK K
 refine zam (t:=false) (by simp [go_sem,za0,za2,za1,hB1.cell,hB2.cell]) rfl ?_
 refine zae ?_
 refine hK1 _ _ ?_
 refine zad (fun K2 hK2=>?_)
 first|refine zzr fun K hK=>?_|refine zzt fun K hK=>?_
 simp [go_sem,za0,za2,za1,hB1.cell,hB2.cell]
 refine hK _ _ ?_;clear hK K
 refine zaf ?_
 refine zaG (fun m' g w'=>Below w.heap.size w w'∧Bx w' b1 #[.int .i64 x.kind,.string ⟨x.name.toArray⟩,.bool x.neg,.slice ya x.num.length yc,.slice yb x.den.length yd,.slice ye x.args.length yp,.int .i64 x.pos] 38∧Bx w' b2 #[.int .i64 x.kind,.string ⟨x.name.toArray⟩,.bool x.neg,.slice za x.num.length zc,.slice zb x.den.length zd,.slice ze x.args.length zp,.int .i64 x.pos] 38∧∃ j:Nat,j≤x.args.length∧m'=x.args.length-j∧g 2 = .pointer (some ⟨b1,0,none⟩)∧g 3 = .pointer (some ⟨b2,0,none⟩)∧g 19 = .int .i64 x.args.length∧g 20 = .int .i64 j) x.args.length ?_ ?_
 ·exact ⟨hA0,hB1,hB2,0,by omega,rfl,by simp [go_sem],by simp [go_sem],by simp [go_sem],by simp [go_sem]⟩
 clear hA0 hB1 hB2
 rintro m' g w' ⟨hA0,hB1,hB2,j,hj,rfl,g2,g3,gn,gi⟩
 by_cases hlt:j<x.args.length
 ·have c1:(j:Int)<x.args.length:=by omega
  have hw1:IntKind.i64.wrap ((j:Int)+1)=(j+1:Nat):=by rw [IntWalk.i64_in _ (by omega)];omega
  have hAd:=hA0.next (Below.drew1 w')
  obtain ⟨Ra,_,q1,q2,q3,q4⟩:=(y3.ext hAd).row (List.getElem?_eq_getElem hlt)
  obtain ⟨Rb,_,p1,p2,p3,p4⟩:=(z3.ext hAd).row (List.getElem?_eq_getElem hlt)
  have hrec:=sameExpr_any (x.args[j]'hlt) w'.drew _ _ Ra Rb q4 p4
  first|refine zzr fun K hK=>?_|refine zzt fun K hK=>?_
  simp [go_sem,za0,za2,za1,hB1.cell,hB2.cell,g2,g3,gn,gi, c1,hlt]
  refine hK _ _ ?_;clear hK K
  refine zad (fun K3 hK3=>?_)
  refine zam (t:=true) (by simp [go_sem,za0,za2,za1,hB1.cell,hB2.cell,g2,g3,gn,gi,c1,hlt]) rfl ?_
  refine zae ?_
  refine hK3 _ _ ?_
  refine zad (fun K4 hK4=>?_)
  refine zaf ?_
  first|refine zzr fun K hK=>?_|refine zzt fun K hK=>?_
  simp [go_sem,za0,za2,za1,hB1.cell,hB2.cell,g2,g3,gn,gi]
  refine hK _ _ ?_;clear hK K
  have hD4:=Below.drew1 w'
  replace hA0:=hA0.next hD4
  replace hB1:=hB1.keep hD4
  replace hB2:=hB2.keep hD4
  first|refine W_rd [(0,0),(1,0),(2,0),(3,0),(4,0),(5,0),(6,0),(7,0),(8,0),(9,0),(10,1),(11,0)] (by kernel_rfl) (by kernel_rfl) (fun K hK=>?_)|refine zbD [(0,0),(1,0),(2,0),(3,0),(4,0),(5,0),(6,0),(7,0),(8,0),(9,0),(10,1),(11,0)] (by kernel_rfl) (by kernel_rfl) (fun K hK=>?_)
  simp [go_sem,za0,hB1.cell,hB2.cell,g2,g3,gn,gi, c1,hlt,q1,q2,q3,p1,p2,p3]
  refine za5 (by simp [go_sem,za0,hB1.cell,hB2.cell,g2,g3,gn,gi,za2,za1,c1,hlt]) rfl Try.call16 (fun R hR=>?_)
  simp [go_sem,za0,hB1.cell,hB2.cell,g2,g3,gn,gi,za2,za1,c1,hlt]
  refine (hrec).mono ?_
  rintro e w5 ⟨rfl,hE5⟩
  refine ⟨_,rfl,(by assumption),hR _ _ ?_⟩
  clear hR R
  replace hA0:=hA0.next hE5
  replace hB1:=hB1.keep hE5
  replace hB2:=hB2.keep hE5
  simp [go_sem,za0,hB1.cell,hB2.cell,g2,g3,gn,gi,za2,za1,c1,hlt]
  refine hK _ _ ?_;clear hK K
  refine zam (t:=false) (by simp [go_sem,za0,hB1.cell,hB2.cell,g2,g3,gn,gi,za2,za1]) rfl ?_
  refine zae ?_
  refine hK4 _ _ ?_
  refine zzt fun K hK=>?_
  simp [go_sem,gi,hw1]
  refine hK _ _ ⟨x.args.length-(j+1),by omega,hA0,hB1,hB2,j+1,by omega,rfl,by simp [go_sem,g2],by simp [go_sem,g3],by simp [go_sem,gn],by simp [go_sem]⟩
 ·have c1:¬(j:Int)<x.args.length:=by omega
  first|refine zzr fun K hK=>?_|refine zzt fun K hK=>?_
  simp [go_sem,za0,za2,za1,hB1.cell,hB2.cell,g2,g3,gn,gi, c1,hlt]
  refine hK _ _ ?_;clear hK K
  refine zad (fun K3 hK3=>?_)
  refine zam (t:=false) (by simp [go_sem,za0,za2,za1,hB1.cell,hB2.cell,g2,g3,gn,gi,c1,hlt]) rfl ?_
  refine zaA ?_
  repeat (first|refine zah ?_|refine za9 rfl ?_|refine zac ?_)
  refine hK2 _ _ ?_
  first|refine zzr fun K hK=>?_|refine zzt fun K hK=>?_
  simp [go_sem,za0,za2,za1,hB1.cell,hB2.cell,g2,g3,gn,gi]
  refine hK _ _ ?_;clear hK K
  refine zaj ?_
  repeat (first|refine za4 ?_|refine za3 ?_)
  refine ⟨trivial,?_,hA0⟩
  simp [go_sem,zax,zav]
termination_by SizeOf.sizeOf x
decreasing_by
 exact Tre.lt_args (List.getElem_mem _)
structure SXS (w:World) (F:Nat→Prop) (ad:Option Addr) (xs:List Stm) (rows:List (List Value)):Prop where
 sl:SL w ad rows.flatten
 max:xs.length≤maxLen
 rs:RSs w F rows xs
theorem SXS.ext {w w':World} {F:Nat→Prop} {ad:Option Addr} {xs:List Stm} {rows:List (List Value)} (h:SXS w F ad xs rows) (hb:Below w.heap.size w w'):SXS w' F ad xs rows:=⟨h.sl.ext hb,h.max,h.rs.ext hb⟩
theorem RSs.all {w:World} {F:Nat→Prop} {xs:List Stm} {rows:List (List Value)} (h:RSs w F rows xs):∀ R∈rows,R.length=10:=by
 intro R hR
 obtain ⟨i,hi,rfl⟩:=List.getElem_of_mem hR
 exact (h.he i _ _ (List.getElem?_eq_getElem hi) (List.getElem?_eq_getElem (by have:=h.len;omega))).len
theorem SXS.row {w:World} {F:Nat→Prop} {ad:Option Addr} {xs:List Stm} {rows:List (List Value)} (h:SXS w F ad xs rows) {i:Nat} {x:Stm} (hx:xs[i]? = some x) :
  ∃ R:List Value,rows[i]? = some R∧za2 w ((ad.getD default).add (i*10)) 0 10=R∧za1 w ((ad.getD default).add (i*10)) 0 10∧ad.isSome=true∧SX w F R x:=by
 have hi:i<rows.length:=by rw [h.rs.len];exact (List.getElem?_eq_some_iff.1 hx).1
 obtain ⟨R,hR⟩:∃ R,rows[i]? = some R:=⟨_,List.getElem?_eq_getElem hi⟩
 have hall:=h.rs.all
 have hfl:=zch hall
 have hle:i*10+10≤rows.flatten.length:=by rw [hfl];omega
 obtain ⟨q1,q2,q3⟩:=h.sl.row (i*10) 10 hle (by decide)
 exact ⟨R,hR,by rw [q1,zdv hall hR],q2,q3,h.rs.he i R x hR hx⟩
theorem NmS.at {w:World} {F:Nat→Prop} {a:Option Addr} {l:List (List UInt8)} (h:NmS w F a l) {i:Nat} (hi:i<l.length):w.cell? ((a.getD default).add i)=some (.string ⟨(l.getD i []).toArray⟩)∧a.isSome=true:=by
 obtain ⟨q1,q2⟩:=h.sl.getD (j:=i) (by simpa using hi)
 rw [strL_at hi] at q1
 exact ⟨q1,q2⟩
set_option maxHeartbeats 4000000 in
theorem equalProg_any (l:List Stm) (w:World) (F1 F2:Nat→Prop) (a1 a2:Option Addr) (c1 c2:Nat) (rows1 rows2:List (List Value)) (h1:SXS w F1 a1 l rows1) (h2:SXS w F2 a2 l rows2) :
  Calls Try.prog 15 #[.agg #[.slice a1 l.length c1],.agg #[.slice a2 l.length c2]] w fun e w'=>e = .returned (.bool true)∧Below w.heap.size w w':=by
 have hal:=h1.max
 unfold maxLen at hal
 refine za8 (args:=[.agg #[.slice a1 l.length c1],.agg #[.slice a2 l.length c2]]) (rs:=[.tmp 4]) (n:=70) Try.func15 rfl rfl rfl (by kernel_rfl) ?_
 have hA0:=Below.refl w.heap.size w
 first|refine zzr fun K hK=>?_|refine zzt fun K hK=>?_
 simp [go_sem,za0,za2,za1]
 refine zbU #[.slice a1 l.length c1] (by simp [go_sem,za0,za2,za1]) rfl (by simp [go_sem,Value.cells,za0,za2,za1]) (fun w1 b1 hE1 hle1 hB1=>?_)
 have hb1_0:=Nat.le_trans hA0.size hle1
 replace hA0:=hA0.next hE1
 simp [go_sem,za0,za2,za1,hB1.cell]
 refine zbU #[.slice a2 l.length c2] (by simp [go_sem,za0,za2,za1,hB1.cell]) rfl (by simp [go_sem,Value.cells,za0,za2,za1,hB1.cell]) (fun w2 b2 hE2 hle2 hB2=>?_)
 have hb2_0:=Nat.le_trans hA0.size hle2
 have hd1_2:b1≠b2:=Nat.ne_of_lt (Nat.lt_of_lt_of_le hB1.lt hle2)
 replace hA0:=hA0.next hE2
 replace hB1:=hB1.keep hE2
 simp [go_sem,za0,za2,za1,hB1.cell,hB2.cell]
 refine hK _ _ ?_;clear hK K
 refine zad (fun K1 hK1=>?_)
 first|refine zzr fun K hK=>?_|refine zzt fun K hK=>?_
 simp [go_sem,za0,za2,za1,hB1.cell,hB2.cell]
 refine hK _ _ ?_;clear hK K
 refine zam (t:=false) (by simp [go_sem,za0,za2,za1,hB1.cell,hB2.cell]) rfl ?_
 refine zae ?_
 refine hK1 _ _ ?_
 refine zad (fun K2 hK2=>?_)
 first|refine zzr fun K hK=>?_|refine zzt fun K hK=>?_
 simp [go_sem,za0,za2,za1,hB1.cell,hB2.cell]
 refine hK _ _ ?_;clear hK K
 refine zaf ?_
 refine zaG (fun m' g w'=>Below w.heap.size w w'∧Bx w' b1 #[.slice a1 l.length c1] 25∧Bx w' b2 #[.slice a2 l.length c2] 25∧∃ j:Nat,j≤l.length∧m'=l.length-j∧g 2 = .pointer (some ⟨b1,0,none⟩)∧g 3 = .pointer (some ⟨b2,0,none⟩)∧g 17 = .slice a1 l.length c1∧g 18 = .int .i64 l.length∧g 19 = .int .i64 j) l.length ?_ ?_
 ·exact ⟨hA0,hB1,hB2,0,by omega,rfl,by simp [go_sem],by simp [go_sem],by simp [go_sem],by simp [go_sem],by simp [go_sem]⟩
 clear hA0 hB1 hB2
 rintro m' g w' ⟨hA0,hB1,hB2,j,hj,rfl,g2,g3,g17,g18,g19⟩
 by_cases hlt:j<l.length
 ·have k1:(j:Int)<l.length:=by omega
  have hw1:IntKind.i64.wrap ((j:Int)+1)=(j+1:Nat):=by rw [IntWalk.i64_in _ (by omega)];omega
  obtain ⟨x,hx⟩:∃ x,l[j]? = some x:=⟨_,List.getElem?_eq_getElem hlt⟩
  obtain ⟨Ra,_,q1,q2,q3,q4⟩:=(h1.ext hA0).row hx
  obtain ⟨a,c,ya,yc,yb,yd,ye,yp,hRa,hna,hxa⟩:=q4.open
  rw [hRa] at q1
  replace hna:=hna.blt.mono (F':=fun k=>k<w'.heap.size) (fun k hk=>hk.2)
  replace hxa:=hxa.blt.mono (F':=fun k=>k<w'.heap.size) (fun k hk=>hk.2)
  obtain ⟨Rb,hRb0,_,_,p3,p4⟩:=(h2.ext hA0).row hx
  obtain ⟨b,d,za,zc,zb,zd,ze,zp,hRb,hnb,hxb⟩:=p4.open
  replace hnb:=hnb.blt.mono (F':=fun k=>k<w'.heap.size) (fun k hk=>hk.2)
  replace hxb:=hxb.blt.mono (F':=fun k=>k<w'.heap.size) (fun k hk=>hk.2)
  clear q4 p4
  first|refine zzr fun K hK=>?_|refine zzt fun K hK=>?_
  simp [go_sem,za0,za2,za1,hB1.cell,hB2.cell,g2,g3,g17,g18,g19, k1,hlt]
  refine hK _ _ ?_;clear hK K
  refine zad (fun K3 hK3=>?_)
  refine zam (t:=true) (by simp [go_sem,za0,za2,za1,hB1.cell,hB2.cell,g2,g3,g17,g18,g19,k1,hlt]) rfl ?_
  refine zae ?_
  refine hK3 _ _ ?_
  refine zad (fun K4 hK4=>?_)
  refine zaf ?_
  first|refine zzr fun K hK=>?_|refine zzt fun K hK=>?_
  simp [go_sem,za0,hB1.cell,hB2.cell,g2,g3,g17,g18,g19, k1,hlt,q1,q2,q3]
  refine zan (by simp [go_sem,za0,hB1.cell,hB2.cell,g2,g3,g17,g18,g19]) rfl zb9 (fun w20 b20 hE20 hle20 hB20=>?_)
  have hb20_0:=Nat.le_trans hA0.size hle20
  have hd1_20:b1≠b20:=Nat.ne_of_lt (Nat.lt_of_lt_of_le hB1.lt hle20)
  have hd2_20:b2≠b20:=Nat.ne_of_lt (Nat.lt_of_lt_of_le hB2.lt hle20)
  replace hA0:=hA0.next hE20
  replace hB1:=hB1.keep hE20
  replace hB2:=hB2.keep hE20
  replace hna:=hna.ext hE20
  replace hxa:=hxa.ext hE20
  replace hnb:=hnb.ext hE20
  replace hxb:=hxb.ext hE20
  simp [go_sem,za0,hB1.cell,hB2.cell,g2,g3,g17,g18,g19,hB20.cell]
  refine za7 (b:=b20) (off:=0) [.int .i64 x.kind,.slice a x.names.length c,.int .i64 x.expr.kind,.string ⟨x.expr.name.toArray⟩,.bool x.expr.neg,.slice ya x.expr.num.length yc,.slice yb x.expr.den.length yd,.slice ye x.expr.args.length yp,.int .i64 x.expr.pos,.int .i64 x.pos] (by simp [go_sem,za0,hB1.cell,hB2.cell,g2,g3,g17,g18,g19,hB20.cell,k1,hlt,q1,q2,q3]) rfl (by simp [go_sem,za0,hB1.cell,hB2.cell,g2,g3,g17,g18,g19,hB20.cell,k1,hlt,q1,q2,q3]) (by simp [go_sem,Value.cells,za0,hB1.cell,hB2.cell,g2,g3,g17,g18,g19,hB20.cell,k1,hlt,q1,q2,q3]) zaU hB20 (by simp) (by simp [Value.oneCell']) (by decide) (fun w21 hS21 hB21=>?_)
  simp [zaC] at hB21
  replace hA0:=hA0.nextS hS21 (by first|exact hb20_0|omega)
  replace hna:=hna.ch (Ch.of_sto hS21 (NL.of_bx hB20 (by intro u hu x e;subst e;simp at hu))) (by intro k hk e;subst e;first|exact hk.2 rfl|omega)
  replace hxa:=hxa.ch (Ch.of_sto hS21 (NL.of_bx hB20 (by intro u hu x e;subst e;simp at hu))) (by intro k hk e;subst e;first|exact hk.2 rfl|omega)
  replace hnb:=hnb.ch (Ch.of_sto hS21 (NL.of_bx hB20 (by intro u hu x e;subst e;simp at hu))) (by intro k hk e;subst e;first|exact hk.2 rfl|omega)
  replace hxb:=hxb.ch (Ch.of_sto hS21 (NL.of_bx hB20 (by intro u hu x e;subst e;simp at hu))) (by intro k hk e;subst e;first|exact hk.2 rfl|omega)
  replace hB1:=hB1.sto hS21 (by first|exact hd1_20|exact (hd20_1).symm)
  replace hB2:=hB2.sto hS21 (by first|exact hd2_20|exact (hd20_2).symm)
  simp [go_sem,za0,hB1.cell,hB2.cell,g2,g3,g17,g18,g19,hB21.cell,k1,hlt,q1,q2,q3]
  refine hK _ _ ?_;clear hK K
  obtain ⟨Rb',hRb',p1,p2,_,_⟩:=(h2.ext hA0).row hx
  rw [Option.some.inj (hRb'.symm.trans hRb0),hRb] at p1
  first|refine zzr fun K hK=>?_|refine zzt fun K hK=>?_
  simp [go_sem,za0,hB1.cell,hB2.cell,g2,g3,g17,g18,g19,hB21.cell, k1,hlt,p1,p2,p3]
  refine zan (by simp [go_sem,za0,hB1.cell,hB2.cell,g2,g3,g17,g18,g19,hB21.cell]) rfl zb9 (fun w30 b30 hE30 hle30 hB30=>?_)
  have hb30_0:=Nat.le_trans hA0.size hle30
  have hd1_30:b1≠b30:=Nat.ne_of_lt (Nat.lt_of_lt_of_le hB1.lt hle30)
  have hd2_30:b2≠b30:=Nat.ne_of_lt (Nat.lt_of_lt_of_le hB2.lt hle30)
  have hd20_30:b20≠b30:=Nat.ne_of_lt (Nat.lt_of_lt_of_le hB21.lt hle30)
  replace hA0:=hA0.next hE30
  replace hB1:=hB1.keep hE30
  replace hB2:=hB2.keep hE30
  replace hB21:=hB21.keep hE30
  replace hna:=hna.ext hE30
  replace hxa:=hxa.ext hE30
  replace hnb:=hnb.ext hE30
  replace hxb:=hxb.ext hE30
  simp [go_sem,za0,hB1.cell,hB2.cell,g2,g3,g17,g18,g19,hB21.cell,hB30.cell]
  have h30:w'.heap.size≤b30:=by have:=hE20.size;have:=hS21.size;omega
  refine za7 (b:=b30) (off:=0) [.int .i64 x.kind,.slice b x.names.length d,.int .i64 x.expr.kind,.string ⟨x.expr.name.toArray⟩,.bool x.expr.neg,.slice za x.expr.num.length zc,.slice zb x.expr.den.length zd,.slice ze x.expr.args.length zp,.int .i64 x.expr.pos,.int .i64 x.pos] (by simp [go_sem,za0,hB1.cell,hB2.cell,g2,g3,g17,g18,g19,hB21.cell,hB30.cell,k1,hlt,p1,p2,p3]) rfl (by simp [go_sem,za0,hB1.cell,hB2.cell,g2,g3,g17,g18,g19,hB21.cell,hB30.cell,k1,hlt,p1,p2,p3]) (by simp [go_sem,Value.cells,za0,hB1.cell,hB2.cell,g2,g3,g17,g18,g19,hB21.cell,hB30.cell,k1,hlt,p1,p2,p3]) zaU hB30 (by simp) (by simp [Value.oneCell']) (by decide) (fun w31 hS31 hB31=>?_)
  simp [zaC] at hB31
  replace hA0:=hA0.nextS hS31 (by first|exact hb30_0|omega)
  replace hna:=hna.ch (Ch.of_sto hS31 (NL.of_bx hB30 (by intro u hu x e;subst e;simp at hu))) (by intro k hk e;subst e;first|exact hk.2 rfl|omega)
  replace hxa:=hxa.ch (Ch.of_sto hS31 (NL.of_bx hB30 (by intro u hu x e;subst e;simp at hu))) (by intro k hk e;subst e;first|exact hk.2 rfl|omega)
  replace hnb:=hnb.ch (Ch.of_sto hS31 (NL.of_bx hB30 (by intro u hu x e;subst e;simp at hu))) (by intro k hk e;subst e;first|exact hk.2 rfl|omega)
  replace hxb:=hxb.ch (Ch.of_sto hS31 (NL.of_bx hB30 (by intro u hu x e;subst e;simp at hu))) (by intro k hk e;subst e;first|exact hk.2 rfl|omega)
  replace hB1:=hB1.sto hS31 (by first|exact hd1_30|exact (hd30_1).symm)
  replace hB2:=hB2.sto hS31 (by first|exact hd2_30|exact (hd30_2).symm)
  replace hB21:=hB21.sto hS31 (by first|exact hd20_30|exact (hd30_20).symm)
  simp [go_sem,za0,hB1.cell,hB2.cell,g2,g3,g17,g18,g19,hB21.cell,hB31.cell,k1,hlt,p1,p2,p3]
  refine hK _ _ ?_;clear hK K
  refine zad (fun K5 hK5=>?_)
  first|refine zzr fun K hK=>?_|refine zzt fun K hK=>?_
  simp [go_sem,za0,hB1.cell,hB2.cell,g2,g3,g17,g18,g19,hB21.cell,hB31.cell,za2,za1]
  refine za5 (by simp [go_sem,za0,hB1.cell,hB2.cell,g2,g3,g17,g18,g19,hB21.cell,hB31.cell,za2,za1]) rfl Try.call28 (fun R hR=>?_)
  simp [go_sem,za0,hB1.cell,hB2.cell,g2,g3,g17,g18,g19,hB21.cell,hB31.cell,za2,za1]
  refine (zdc x.expr _ _ _ _ _ hxa hxb).mono ?_
  rintro e w40 ⟨rfl,hE40⟩
  refine ⟨_,rfl,hR _ _ ?_⟩
  clear hR R
  replace hA0:=hA0.next hE40
  replace hB1:=hB1.keep hE40
  replace hB2:=hB2.keep hE40
  replace hB21:=hB21.keep hE40
  replace hB31:=hB31.keep hE40
  replace hna:=hna.ext hE40
  replace hxa:=hxa.ext hE40
  replace hnb:=hnb.ext hE40
  replace hxb:=hxb.ext hE40
  simp [go_sem,za0,hB1.cell,hB2.cell,g2,g3,g17,g18,g19,hB21.cell,hB31.cell,za2,za1]
  refine hK _ _ ?_;clear hK K
  refine zam (t:=false) (by simp [go_sem,za0,hB1.cell,hB2.cell,g2,g3,g17,g18,g19,hB21.cell,hB31.cell,za2,za1]) rfl ?_
  refine zae ?_
  refine hK5 _ _ ?_
  first|refine zzr fun K hK=>?_|refine zzt fun K hK=>?_
  simp [go_sem,za0,hB1.cell,hB2.cell,g2,g3,g17,g18,g19,hB21.cell,hB31.cell,za2,za1]
  refine hK _ _ ?_;clear hK K
  refine zaf ?_
  refine zaG (fun m' g w''=>Below w.heap.size w w''∧Bx w'' b1 #[.slice a1 l.length c1] 25∧Bx w'' b2 #[.slice a2 l.length c2] 25∧Bx w'' b20 #[.int .i64 x.kind,.slice a x.names.length c,.int .i64 x.expr.kind,.string ⟨x.expr.name.toArray⟩,.bool x.expr.neg,.slice ya x.expr.num.length yc,.slice yb x.expr.den.length yd,.slice ye x.expr.args.length yp,.int .i64 x.expr.pos,.int .i64 x.pos] 40∧Bx w'' b30 #[.int .i64 x.kind,.slice b x.names.length d,.int .i64 x.expr.kind,.string ⟨x.expr.name.toArray⟩,.bool x.expr.neg,.slice za x.expr.num.length zc,.slice zb x.expr.den.length zd,.slice ze x.expr.args.length zp,.int .i64 x.expr.pos,.int .i64 x.pos] 40∧NmS w'' (fun k=>k<w'.heap.size) a x.names∧NmS w'' (fun k=>k<w'.heap.size) b x.names∧∃ q:Nat,q≤x.names.length∧m'=x.names.length-q∧g 2 = .pointer (some ⟨b1,0,none⟩)∧g 3 = .pointer (some ⟨b2,0,none⟩)∧g 6 = .pointer (some ⟨b20,0,none⟩)∧g 7 = .pointer (some ⟨b30,0,none⟩)∧g 17 = .slice a1 l.length c1∧g 18 = .int .i64 l.length∧g 19 = .int .i64 j∧g 53 = .int .i64 x.names.length∧g 54 = .int .i64 q) x.names.length ?_ ?_
  ·exact ⟨hA0,hB1,hB2,hB21,hB31,hna,hnb,0,by omega,rfl,by simp [go_sem,g2],by simp [go_sem,g3],by simp [go_sem],by simp [go_sem],by simp [go_sem,g17],by simp [go_sem,g18],by simp [go_sem,g19],by simp [go_sem],by simp [go_sem]⟩
  have hml:=hna.max
  unfold maxLen at hml
  clear hA0 hB1 hB2 hB21 hB31 hna hnb hxa hxb p1 p2 p3 q1 q2 q3 g2 g3 g17 g18 g19
  rintro m' g w'' ⟨hA0,hB1,hB2,hB20,hB30,hna,hnb,q,hq,rfl,g2,g3,g6,g7,g17,g18,g19,g53,g54⟩
  by_cases hlq:q<x.names.length
  ·have k2:(q:Int)<x.names.length:=by omega
   have hw2:IntKind.i64.wrap ((q:Int)+1)=(q+1:Nat):=by rw [IntWalk.i64_in _ (by omega)];omega
   obtain ⟨u1,u2⟩:=(hna.ext (Below.drew1 _)).at hlq
   obtain ⟨v1,v2⟩:=(hnb.ext (Below.drew1 _)).at hlq
   generalize x.names.getD q []=z at u1 v1
   first|refine zzr fun K hK=>?_|refine zzt fun K hK=>?_
   simp [go_sem,za0,g2,g3,g17,g18,g19,za2,za1,hB1.cell,hB2.cell,hB20.cell,hB30.cell,g6,g7,g53,g54, k2,hlq]
   refine hK _ _ ?_;clear hK K
   refine zad (fun K6 hK6=>?_)
   refine zam (t:=true) (by simp [go_sem,za0,g2,g3,g17,g18,g19,za2,za1,hB1.cell,hB2.cell,hB20.cell,hB30.cell,g6,g7,g53,g54,k2,hlq]) rfl ?_
   refine zae ?_
   refine hK6 _ _ ?_
   refine zad (fun K7 hK7=>?_)
   refine zaf ?_
   first|refine zzr fun K hK=>?_|refine zzt fun K hK=>?_
   simp [go_sem,za0,g2,g3,g17,g18,g19,za2,za1,hB1.cell,hB2.cell,hB20.cell,hB30.cell,g6,g7,g53,g54]
   refine hK _ _ ?_;clear hK K
   have hD41:=Below.drew1 w''
   replace hA0:=hA0.next hD41
   replace hB1:=hB1.keep hD41
   replace hB2:=hB2.keep hD41
   replace hB20:=hB20.keep hD41
   replace hB30:=hB30.keep hD41
   replace hna:=hna.ext hD41
   replace hnb:=hnb.ext hD41
   first|refine W_rd [(0,0),(1,0),(2,0),(3,0),(4,0),(5,0),(6,0),(7,0),(8,0),(9,0),(10,0)] (by kernel_rfl) (by kernel_rfl) (fun K hK=>?_)|refine zbD [(0,0),(1,0),(2,0),(3,0),(4,0),(5,0),(6,0),(7,0),(8,0),(9,0),(10,0)] (by kernel_rfl) (by kernel_rfl) (fun K hK=>?_)
   simp [go_sem,za0,g2,g3,g17,g18,g19,za2,za1,hB1.cell,hB2.cell,hB20.cell,hB30.cell,g6,g7,g53,g54, k2,hlq,u1,u2,v1,v2]
   refine hK _ _ ?_;clear hK K
   refine zam (t:=false) (by simp [go_sem,za0,g2,g3,g17,g18,g19,za2,za1,hB1.cell,hB2.cell,hB20.cell,hB30.cell,g6,g7,g53,g54]) rfl ?_
   refine zae ?_
   refine hK7 _ _ ?_
   refine zzt fun K hK=>?_
   simp [go_sem,g54,hw2]
   refine hK _ _ ⟨x.names.length-(q+1),by omega,hA0,hB1,hB2,hB20,hB30,hna,hnb,q+1,by omega,rfl,by simp [go_sem,g2],by simp [go_sem,g3],by simp [go_sem,g6],by simp [go_sem,g7],by simp [go_sem,g17],by simp [go_sem,g18],by simp [go_sem,g19],by simp [go_sem,g53],by simp [go_sem]⟩
  ·have k2:¬(q:Int)<x.names.length:=by omega
   first|refine zzr fun K hK=>?_|refine zzt fun K hK=>?_
   simp [go_sem,za0,g2,g3,g17,g18,g19,za2,za1,hB1.cell,hB2.cell,hB20.cell,hB30.cell,g6,g7,g53,g54, k2,hlq]
   refine hK _ _ ?_;clear hK K
   refine zad (fun K6 hK6=>?_)
   refine zam (t:=false) (by simp [go_sem,za0,g2,g3,g17,g18,g19,za2,za1,hB1.cell,hB2.cell,hB20.cell,hB30.cell,g6,g7,g53,g54,k2,hlq]) rfl ?_
   refine zaA ?_
   repeat (first|refine zah ?_|refine za9 rfl ?_|refine zac ?_)
   refine hK4 _ _ ?_
   refine zzt fun K hK=>?_
   simp [go_sem,g19,hw1]
   refine hK _ _ ⟨l.length-(j+1),by omega,hA0,hB1,hB2,j+1,by omega,rfl,by simp [go_sem,g2],by simp [go_sem,g3],by simp [go_sem,g17],by simp [go_sem,g18],by simp [go_sem]⟩
 ·have k1:¬(j:Int)<l.length:=by omega
  first|refine zzr fun K hK=>?_|refine zzt fun K hK=>?_
  simp [go_sem,za0,za2,za1,hB1.cell,hB2.cell,g2,g3,g17,g18,g19, k1,hlt]
  refine hK _ _ ?_;clear hK K
  refine zad (fun K3 hK3=>?_)
  refine zam (t:=false) (by simp [go_sem,za0,za2,za1,hB1.cell,hB2.cell,g2,g3,g17,g18,g19,k1,hlt]) rfl ?_
  refine zaA ?_
  repeat (first|refine zah ?_|refine za9 rfl ?_|refine zac ?_)
  refine hK2 _ _ ?_
  first|refine zzr fun K hK=>?_|refine zzt fun K hK=>?_
  simp [go_sem,za0,za2,za1,hB1.cell,hB2.cell,g2,g3,g17,g18,g19]
  refine hK _ _ ?_;clear hK K
  refine zaj ?_
  repeat (first|refine za4 ?_|refine za3 ?_)
  refine ⟨trivial,?_,hA0⟩
  simp [go_sem,zax,zav]
theorem SXS.at {w:World} {F:Nat→Prop} {ad:Option Addr} {xs:List Stm} {rows:List (List Value)} (h:SXS w F ad xs rows) {i:Nat} {x:Stm} (hx:xs[i]? = some x) :
  ∃ (lb lo:Nat) (E:List Value),ad=some ⟨lb,lo,none⟩∧w.cell? ⟨lb,lo+i*10+9,none⟩=some (.int .i64 x.pos)∧za2 w ⟨lb,lo+i*10+2,none⟩ 0 7=E∧za1 w ⟨lb,lo+i*10+2,none⟩ 0 7∧EX w F E x.expr:=by
 have hi:i<rows.length:=by rw [h.rs.len];exact (List.getElem?_eq_some_iff.1 hx).1
 obtain ⟨R,hR⟩:∃ R,rows[i]? = some R:=⟨_,List.getElem?_eq_getElem hi⟩
 have hall:=h.rs.all
 have hfl:=zch hall
 have hrow:=zdv hall hR
 have hle:i*10+2+7≤rows.flatten.length:=by rw [hfl];omega
 obtain ⟨q1,q2,q3⟩:=h.sl.row (i*10+2) 7 hle (by decide)
 obtain ⟨a,c,E,hRE,hn,hE⟩:=h.rs.he i R x hR hx
 have hEl:=hE.len
 have h2:(rows.flatten.drop (i*10+2)).take 7=E:=by
  have e1:(rows.flatten.drop (i*10+2)).take 7=((((rows.flatten.drop (i*10)).take 10).drop 2).take 7):=by
   rw [List.drop_take,List.drop_drop,List.take_take];rfl
  rw [e1,hrow,hRE]
  simp [List.take_append_of_le_length,hEl]
 have h9:rows.flatten[i*10+9]? = some (.int .i64 x.pos):=by
  have h4:((rows.flatten.drop (i*10)).take 10)[9]? = some (.int .i64 x.pos):=by
   rw [hrow,hRE,List.getElem?_cons_succ,List.getElem?_cons_succ,List.getElem?_append_right (by omega),hEl];rfl
  rwa [List.getElem?_take_of_lt (by decide),List.getElem?_drop] at h4
 rcases h.sl with h0|⟨lb,lo,e,hc⟩
 ·rw [h0] at hle;simp at hle
 ·subst e
  simp only [Option.getD_some,za0] at q1 q2
  refine ⟨lb,lo,E,rfl,?_,?_,?_,hE⟩
  ·have:=hc _ _ h9
   rwa [←Nat.add_assoc] at this
  ·rw [←h2,←q1,←Nat.add_assoc]
  ·rw [←Nat.add_assoc] at q2;exact q2
set_option maxHeartbeats 4000000 in
theorem sameProg_any (l:List Stm) (w:World) (F1 F2:Nat→Prop) (a1 a2:Option Addr) (c1 c2:Nat) (rows1 rows2:List (List Value)) (h1:SXS w F1 a1 l rows1) (h2:SXS w F2 a2 l rows2) :
  Calls Try.prog 8 #[.agg #[.slice a1 l.length c1],.agg #[.slice a2 l.length c2]] w fun e w'=>e = .returned (.bool true)∧Below w.heap.size w w':=by
 have hal:=h1.max
 unfold maxLen at hal
 refine za8 (args:=[.agg #[.slice a1 l.length c1],.agg #[.slice a2 l.length c2]]) (rs:=[.tmp 4]) (n:=46) Try.func8 rfl rfl rfl (by kernel_rfl) ?_
 have hA0:=Below.refl w.heap.size w
 first|refine zzr fun K hK=>?_|refine zzt fun K hK=>?_
 simp [go_sem,za0,za2,za1]
 refine zbU #[.slice a1 l.length c1] (by simp [go_sem,za0,za2,za1]) rfl (by simp [go_sem,Value.cells,za0,za2,za1]) (fun w1 b1 hE1 hle1 hB1=>?_)
 have hb1_0:=Nat.le_trans hA0.size hle1
 replace hA0:=hA0.next hE1
 simp [go_sem,za0,za2,za1,hB1.cell]
 refine zbU #[.slice a2 l.length c2] (by simp [go_sem,za0,za2,za1,hB1.cell]) rfl (by simp [go_sem,Value.cells,za0,za2,za1,hB1.cell]) (fun w2 b2 hE2 hle2 hB2=>?_)
 have hb2_0:=Nat.le_trans hA0.size hle2
 have hd1_2:b1≠b2:=Nat.ne_of_lt (Nat.lt_of_lt_of_le hB1.lt hle2)
 replace hA0:=hA0.next hE2
 replace hB1:=hB1.keep hE2
 simp [go_sem,za0,za2,za1,hB1.cell,hB2.cell]
 refine hK _ _ ?_;clear hK K
 refine zad (fun K1 hK1=>?_)
 first|refine zzr fun K hK=>?_|refine zzt fun K hK=>?_
 simp [go_sem,za0,za2,za1,hB1.cell,hB2.cell]
 refine za5 (by simp [go_sem,za0,za2,za1,hB1.cell,hB2.cell]) rfl Try.call15 (fun R hR=>?_)
 simp [go_sem,za0,za2,za1,hB1.cell,hB2.cell]
 refine (equalProg_any l _ _ _ _ _ _ _ _ _ (h1.ext hA0) (h2.ext hA0)).mono ?_
 rintro e w3 ⟨rfl,hE3⟩
 refine ⟨_,rfl,hR _ _ ?_⟩
 clear hR R
 replace hA0:=hA0.next hE3
 replace hB1:=hB1.keep hE3
 replace hB2:=hB2.keep hE3
 simp [go_sem,za0,za2,za1,hB1.cell,hB2.cell]
 refine hK _ _ ?_;clear hK K
 refine zam (t:=false) (by simp [go_sem,za0,za2,za1,hB1.cell,hB2.cell]) rfl ?_
 refine zae ?_
 refine hK1 _ _ ?_
 refine zad (fun K2 hK2=>?_)
 first|refine zzr fun K hK=>?_|refine zzt fun K hK=>?_
 simp [go_sem,za0,za2,za1,hB1.cell,hB2.cell]
 refine hK _ _ ?_;clear hK K
 refine zaf ?_
 refine zaG (fun m' g w'=>Below w.heap.size w w'∧Bx w' b1 #[.slice a1 l.length c1] 25∧Bx w' b2 #[.slice a2 l.length c2] 25∧∃ j:Nat,j≤l.length∧m'=l.length-j∧g 2 = .pointer (some ⟨b1,0,none⟩)∧g 3 = .pointer (some ⟨b2,0,none⟩)∧g 12 = .int .i64 l.length∧g 13 = .int .i64 j) l.length ?_ ?_
 ·exact ⟨hA0,hB1,hB2,0,by omega,rfl,by simp [go_sem],by simp [go_sem],by simp [go_sem],by simp [go_sem]⟩
 clear hA0 hB1 hB2
 rintro m' g w' ⟨hA0,hB1,hB2,j,hj,rfl,g2,g3,g12,g13⟩
 by_cases hlt:j<l.length
 ·have k1:(j:Int)<l.length:=by omega
  have hw1:IntKind.i64.wrap ((j:Int)+1)=(j+1:Nat):=by rw [IntWalk.i64_in _ (by omega)];omega
  obtain ⟨x,hx⟩:∃ x,l[j]? = some x:=⟨_,List.getElem?_eq_getElem hlt⟩
  have hAd:=hA0.next (Below.drew1 w')
  obtain ⟨lb,lo,Ea,e1,q1,q2,q3,q4⟩:=(h1.ext hAd).at hx
  obtain ⟨mb,mo,Eb,e2,p1,p2,p3,p4⟩:=(h2.ext hAd).at hx
  subst e1;subst e2
  have hrec:=sameExpr_any x.expr w'.drew _ _ Ea Eb q4 p4
  first|refine zzr fun K hK=>?_|refine zzt fun K hK=>?_
  simp [go_sem,za0,za2,za1,hB1.cell,hB2.cell,g2,g3,g12,g13, k1,hlt]
  refine hK _ _ ?_;clear hK K
  refine zad (fun K3 hK3=>?_)
  refine zam (t:=true) (by simp [go_sem,za0,za2,za1,hB1.cell,hB2.cell,g2,g3,g12,g13,k1,hlt]) rfl ?_
  refine zae ?_
  refine hK3 _ _ ?_
  refine zad (fun K4 hK4=>?_)
  refine zaf ?_
  first|refine zzr fun K hK=>?_|refine zzt fun K hK=>?_
  simp [go_sem,za0,za2,za1,hB1.cell,hB2.cell,g2,g3,g12,g13]
  refine hK _ _ ?_;clear hK K
  have hD4:=Below.drew1 w'
  replace hA0:=hA0.next hD4
  replace hB1:=hB1.keep hD4
  replace hB2:=hB2.keep hD4
  first|refine W_rd [(0,0),(1,0),(2,0),(3,0),(4,0),(5,0),(6,0),(7,0),(8,0),(9,0),(10,0),(11,0),(12,0),(13,0),(14,0),(15,0),(16,0),(17,0),(18,0),(19,0),(20,0),(21,0),(22,0),(23,0),(24,0),(25,0),(26,1),(27,0),(28,0)] (by kernel_rfl) (by kernel_rfl) (fun K hK=>?_)|refine zbD [(0,0),(1,0),(2,0),(3,0),(4,0),(5,0),(6,0),(7,0),(8,0),(9,0),(10,0),(11,0),(12,0),(13,0),(14,0),(15,0),(16,0),(17,0),(18,0),(19,0),(20,0),(21,0),(22,0),(23,0),(24,0),(25,0),(26,1),(27,0),(28,0)] (by kernel_rfl) (by kernel_rfl) (fun K hK=>?_)
  simp [go_sem,za0,hB1.cell,hB2.cell,g2,g3,g12,g13, k1,hlt,q1,q2,q3,p1,p2,p3]
  refine za5 (by simp [go_sem,za0,hB1.cell,hB2.cell,g2,g3,g12,g13,za2,za1,k1,hlt]) rfl Try.call16 (fun R hR=>?_)
  simp [go_sem,za0,hB1.cell,hB2.cell,g2,g3,g12,g13,za2,za1,k1,hlt]
  refine (hrec).mono ?_
  rintro e w5 ⟨rfl,hE5⟩
  refine ⟨_,rfl,(by assumption),hR _ _ ?_⟩
  clear hR R
  replace hA0:=hA0.next hE5
  replace hB1:=hB1.keep hE5
  replace hB2:=hB2.keep hE5
  simp [go_sem,za0,hB1.cell,hB2.cell,g2,g3,g12,g13,za2,za1,k1,hlt]
  refine hK _ _ ?_;clear hK K
  refine zam (t:=false) (by simp [go_sem,za0,hB1.cell,hB2.cell,g2,g3,g12,g13,za2,za1]) rfl ?_
  refine zae ?_
  refine hK4 _ _ ?_
  refine zzt fun K hK=>?_
  simp [go_sem,g13,hw1]
  refine hK _ _ ⟨l.length-(j+1),by omega,hA0,hB1,hB2,j+1,by omega,rfl,by simp [go_sem,g2],by simp [go_sem,g3],by simp [go_sem,g12],by simp [go_sem]⟩
 ·have k1:¬(j:Int)<l.length:=by omega
  first|refine zzr fun K hK=>?_|refine zzt fun K hK=>?_
  simp [go_sem,za0,za2,za1,hB1.cell,hB2.cell,g2,g3,g12,g13, k1,hlt]
  refine hK _ _ ?_;clear hK K
  refine zad (fun K3 hK3=>?_)
  refine zam (t:=false) (by simp [go_sem,za0,za2,za1,hB1.cell,hB2.cell,g2,g3,g12,g13,k1,hlt]) rfl ?_
  refine zaA ?_
  repeat (first|refine zah ?_|refine za9 rfl ?_|refine zac ?_)
  refine hK2 _ _ ?_
  first|refine zzr fun K hK=>?_|refine zzt fun K hK=>?_
  simp [go_sem,za0,za2,za1,hB1.cell,hB2.cell,g2,g3,g12,g13]
  refine hK _ _ ?_;clear hK K
  refine zaj ?_
  repeat (first|refine za4 ?_|refine za3 ?_)
  refine ⟨trivial,?_,hA0⟩
  simp [go_sem,zax,zav]
end Go.Proofs.Ytefhenfofomjhaa
