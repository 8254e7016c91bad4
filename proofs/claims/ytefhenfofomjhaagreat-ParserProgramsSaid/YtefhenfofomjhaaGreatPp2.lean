/- The program's parser of expressions is the specification's. -/
import Derived.Test.YtefhenfofomjhaaGreatRa6
import Derived.Test.YtefhenfofomjhaaGreatIc2
import Derived.Test.YtefhenfofomjhaaGreatAp1
import Derived.Test.YtefhenfofomjhaaGreatPt2
set_option linter.unusedSimpArgs false
set_option linter.unusedVariables false
set_option maxRecDepth 20000
namespace Go.Proofs.YtefhenfofomjhaaGreat
open Go Go.RowKit Go.V
def isCan (a:Bool) (l m:List Nat):Prop:=a=decide ((qv a l m).num<0)∧l=lim (qv a l m).num.natAbs∧m=lim (qv a l m).den
instance (a:Bool) (l m:List Nat):Decidable (isCan a l m):=inferInstanceAs (Decidable (_∧_∧_))
theorem isCan_eq {a:Bool} {l m:List Nat} (h:isCan a l m):At.r a l m=qa (qv a l m):=by
 obtain ⟨h1,h2,h3⟩:=h
 unfold qa
 rw [←h1,←h2,←h3]
theorem isCan_qa (x:Rat):isCan (decide (x.num<0)) (lim x.num.natAbs) (lim x.den):=by
 unfold isCan
 rw [qv_qa]
 exact ⟨rfl,rfl,rfl⟩
theorem not_can_nil:¬isCan false [] []:=by
 rintro ⟨_,_,h⟩
 have h1:0<(lim (qv false [] []).den).length:=lim_ne (by have:=(qv false [] []).den_pos;omega)
 rw [←h] at h1
 exact absurd h1 (by decide)
inductive QA where
 | q (x:Rat)
 | z
 | b (x:Bool)
 | n (x:Int)
 | y (x:Int)
 | u (x:Nat)
 | s (x:List UInt8)
 | k (x:Int)
 | kb (x:Bool)
def QA.at:QA→At
 | .q x=>qa x
 | .z=>.r false [] []
 | .b x=>.b x
 | .n x=>.n x
 | .y x=>za x
 | .u x=>na x
 | .s x=>.s x
 | .k x=>.k x
 | .kb x=>.kb x
def toQ:At→Option QA
 | .r a l m=>if isCan a l m then some (.q (qv a l m)) else if a=false∧l=[]∧m=[] then some .z else none
 | .b x=>some (.b x)
 | .n x=>some (.n x)
 | .y a l=>if a=decide (vz a l<0)∧l=lim (vz a l).natAbs then some (.y (vz a l)) else none
 | .u l=>if l=lim (val l) then some (.u (val l)) else none
 | .s l=>some (.s l)
 | .w _=>none
 | .k x=>some (.k x)
 | .kb x=>some (.kb x)
theorem toQ_at (x:QA):toQ x.at=some x:=by
 cases x with
 | q x=>simp only [QA.at,qa,toQ,isCan_qa,if_true,qv_qa]
 | z=>simp only [QA.at,toQ,not_can_nil,if_false,and_self,if_true]
 | b x=>rfl
 | n x=>rfl
 | y x=>simp only [QA.at,za,toQ,zby,and_self,if_true]
 | u x=>simp only [QA.at,na,toQ,zao,if_true]
 | s x=>rfl
 | k x=>rfl
 | kb x=>rfl
theorem toQ_some {a:At} {x:QA} (h:toQ a=some x):a=x.at:=by
 cases a with
 | r a l m =>
  simp only [toQ] at h
  split at h
  ·rename_i hc
   injection h with h;subst h
   exact isCan_eq hc
  ·split at h
   ·rename_i hc
    injection h with h;subst h
    obtain ⟨rfl,rfl,rfl⟩:=hc
    rfl
   ·cases h
 | b x=>injection h with h;subst h;rfl
 | n x=>injection h with h;subst h;rfl
 | y a l =>
  simp only [toQ] at h
  split at h
  ·rename_i hc
   injection h with h;subst h
   simp only [QA.at,za]
   rw [←hc.1,←hc.2]
  ·cases h
 | u l =>
  simp only [toQ] at h
  split at h
  ·rename_i hc
   injection h with h;subst h
   simp only [QA.at,na]
   rw [←hc]
  ·cases h
 | s l=>injection h with h;subst h;rfl
 | w z=>cases h
 | k x=>injection h with h;subst h;rfl
 | kb x=>injection h with h;subst h;rfl
def toQs:List At→Option (List QA)
 | []=>some []
 | a::r=>match toQ a,toQs r with
  | some x,some l=>some (x::l)
  | _,_=>none
theorem toQs_map:∀ l:List QA,toQs (l.map QA.at)=some l
 | []=>rfl
 | x::l=>by simp only [List.map_cons,toQs,toQ_at,toQs_map l]
theorem toQs_some:∀ {als:List At} {l:List QA},toQs als=some l→als=l.map QA.at
 | [],l,h=>by injection h with h;subst h;rfl
 | a::r,l,h=>by
  simp only [toQs] at h
  split at h
  ·rename_i x l' h1 h2
   injection h with h;subst h
   rw [toQ_some h1,toQs_some h2];rfl
  ·cases h
def outQ:Option (List QA)→Option (List At)
 | some r=>some (r.map QA.at)
 | none=>none
def cq (g:List QA→Option (List QA)) (als:List At):Option (List At):=match toQs als with
 | some l=>outQ (g l)
 | none=>none
theorem cq_map (g:List QA→Option (List QA)) (l:List QA):cq g (l.map QA.at)=outQ (g l):=by
 unfold cq;rw [toQs_map]
theorem of_cq {g:List QA→Option (List QA)} {F:List At→Option (List At)} (h:∀ l r,g l=some r→F (l.map QA.at)=some (r.map QA.at)) (als r:List At) (hc:cq g als=some r):F als=some r:=by
 unfold cq at hc
 split at hc
 ·rename_i l hl
  rw [toQs_some hl]
  unfold outQ at hc
  split at hc
  ·rename_i r' hr
   injection hc with hc
   rw [←hc]
   exact h _ _ hr
  ·cases hc
 ·cases hc
section
variable (g:List QA→Option (List QA)) (a b c d e f h i j k m o:QA)
theorem cq1:cq g [a.at]=outQ (g [a]):=cq_map g [a]
theorem cq2:cq g [a.at,b.at]=outQ (g [a,b]):=cq_map g [a,b]
end
def kQ1:Sh→QA→Option QA
 | .k z,.n z'=>if z=z' then some (.k z) else none
 | .kb x,.b x'=>if x=x' then some (.kb x) else none
 | .k _,_=>none
 | .kb _,_=>none
 | .sl _,_=>none
 | _,a=>some a
def kQ:List Sh→List QA→Option (List QA)
 | [],[]=>some []
 | sh::s,a::l=>op2 List.cons (kQ1 sh a) (kQ s l)
 | _,_=>none
def g_add:List QA→Option (List QA)
 | [.q x,.q y]=>some [.q (x+y)]
 | _=>none
def g_neg:List QA→Option (List QA)
 | [.q x]=>some [.q (-x)]
 | _=>none
def g_div:List QA→Option (List QA)
 | [.q x,.q y]=>some (if y=0 then [.z,.n 3] else [.q (x / y),.n 0])
 | _=>none
def qsg (x:Rat):Int:=sg x.num
def g_sign:List QA→Option (List QA)
 | [.q x]=>some [.n (qsg x)]
 | _=>none
theorem qsg_0 (x:Rat):(qsg x=0)=(x=0):=sg_num x
def ct_dneg:Ct:={ args:=[[.r]],res:=[[.r]],F:=cq g_neg,L:=100000000,A:=1,B:=4 }
theorem ok_dneg:ct_dneg.ok Tryz.prog 58:=Ct.ok.weaken ok_qneg (of_cq (g:=g_neg) fun l r h=>by
 unfold g_neg at h
 split at h<;>first|(injection h with h;subst h;simp only [ctF_qneg,List.map,QA.at,qa,za,na,f_qneg,qv_qa,zby,zao];done)|cases h|skip)
def ct_drneg:Ct:={ args:=[[.r]],res:=[[.r]],F:=cq g_neg,L:=100000000,A:=1,B:=4 }
theorem ok_drneg:ct_drneg.ok Tryz.prog 84:=Ct.ok.weaken ok_rqneg (of_cq (g:=g_neg) fun l r h=>by
 unfold g_neg at h
 split at h<;>first|(injection h with h;subst h;simp only [ctF_rqneg,List.map,QA.at,qa,za,na,f_qneg,qv_qa,zby,zao];done)|cases h|skip)
def ct_dsign:Ct:={ args:=[[.r]],res:=[[.n]],F:=cq g_sign,L:=100000000,A:=0,B:=0 }
theorem ok_dsign:ct_dsign.ok Tryz.prog 56:=Ct.ok.weaken ok_qsign (of_cq (g:=g_sign) fun l r h=>by
 unfold g_sign at h
 split at h<;>first|(injection h with h;subst h;simp only [ctF_qsign,List.map,QA.at,qa,za,na,f_qsign,qsg,qv_qa,zby,zao];done)|cases h|skip)
theorem qdiv_Q (l r:List QA) (h:g_div l=some r):f_qdiv (l.map QA.at)=some (r.map QA.at):=by
 unfold g_div at h
 split at h
 ·injection h with h;subst h
  simp only [List.map,QA.at,qa,f_qdiv,qv_qa]
  split<;>rfl
 ·cases h
def ct_ddiv:Ct:={ args:=[[.r],[.r]],res:=[[.r],[.n]],F:=cq g_div,L:=100000000,A:=2,B:=4 }
theorem ok_ddiv:ct_ddiv.ok Tryz.prog 57:=Ct.ok.weaken ok_qdiv (of_cq qdiv_Q)
def ct_drdiv:Ct:={ args:=[[.r],[.r]],res:=[[.r],[.n]],F:=cq g_div,L:=100000000,A:=2,B:=20 }
theorem ok_drdiv:ct_drdiv.ok Tryz.prog 85:=Ct.ok.weaken ok_rqdiv (of_cq qdiv_Q)
end Go.Proofs.YtefhenfofomjhaaGreat
namespace Go.Proofs.YtefhenfofomjhaaGreat
end Go.Proofs.YtefhenfofomjhaaGreat
namespace Go.Proofs.YtefhenfofomjhaaGreat
open Go Go.RowKit Go.V
theorem ct_n {P:Program} {f s:Nat} {c:Ct} {w:World} {vs:List Value} {als:List At} {z:Int} (h:c.ok P f) (hres:c.res=[[.n]]) (hs:s≤c.L) (hr:zeK w c.args als vs) (hz:∀ a∈als,a.sz≤s) (hF:c.F als=some [.n z]) :
  Calls P f vs.toArray w fun e w'=>e = .returned (.int .i64 z)∧Below w.heap.size w w':=by
 refine (h s w vs als _ hs hr hz hF).mono ?_
 rintro e w' ⟨rvs,he,hrv,_,hE⟩
 rw [hres] at hrv
 obtain ⟨v,rfl,h1⟩:=vs1 hrv
 obtain ⟨z',e1,rfl⟩:=repV_n.1 h1
 simp only [List.cons.injEq,At.n.injEq,and_true] at e1
 subst e1
 exact ⟨he,hE⟩
theorem ct_s {P:Program} {f s:Nat} {c:Ct} {w:World} {vs:List Value} {als:List At} {z:List UInt8} (h:c.ok P f) (hres:c.res=[[.s]]) (hs:s≤c.L) (hr:zeK w c.args als vs) (hz:∀ a∈als,a.sz≤s) (hF:c.F als=some [.s z]) :
  Calls P f vs.toArray w fun e w'=>e = .returned (.string ⟨z.toArray⟩)∧Below w.heap.size w w':=by
 refine (h s w vs als _ hs hr hz hF).mono ?_
 rintro e w' ⟨rvs,he,hrv,_,hE⟩
 rw [hres] at hrv
 obtain ⟨v,rfl,h1⟩:=vs1 hrv
 obtain ⟨z',e1,rfl⟩:=repV_s.1 h1
 simp only [List.cons.injEq,At.s.injEq,and_true] at e1
 subst e1
 exact ⟨he,hE⟩
theorem ints1 {w:World} (k:Int):zeK w [[.n]] [.n k] [.int .i64 k]:=⟨[_],[],_,_,rfl,rfl,repV_n.2 ⟨k,rfl,rfl⟩,rfl,rfl⟩
theorem zs1 (k:Int) (s:Nat):∀ a∈[At.n k],a.sz≤s:=fun a ha=>by rw [List.mem_singleton.1 ha];exact Nat.zero_le _
def intC (l:List Int):List Value:=l.map fun z=>.int .i64 z
theorem intC_at {l:List Int} {i:Nat} (h:i<l.length):(intC l).getD i undef = .int .i64 (l.getD i 0):=by
 unfold intC
 simp [List.getD_eq_getElem?_getD,h]
abbrev R3:=Bool × List Nat × List Nat
def r30:R3:=(false,[],[])
def qR3 (x:Rat):R3:=(decide (x.num<0),lim x.num.natAbs,lim x.den)
def RV (w:World) (q:R3) (v:Value):Prop:=∃ a c b d,v = .agg #[.bool q.1,.slice a q.2.1.length c,.slice b q.2.2.length d]∧RD w a c q.2.1∧RD w b d q.2.2
def qS (q:R3) (s:Nat):Prop:=q.2.1.length≤s∧q.2.2.length≤s
theorem rv_rep {w:World} {q:R3} {v:Value}:RV w q v↔RepV w [.r] [.r q.1 q.2.1 q.2.2] v:=by
 constructor
 ·rintro ⟨a,c,b,d,rfl,h1,h2⟩
  exact repV_r.2 ⟨_,_,_,_,_,_,_,rfl,rfl,h1,h2⟩
 ·intro h
  obtain ⟨neg,l,m,a,c1,a',c2,e2,rfl,r1,r2⟩:=repV_r.1 h
  simp only [List.cons.injEq,At.r.injEq,and_true] at e2
  obtain ⟨e1,e2,e3⟩:=e2
  subst e1;subst e2;subst e3
  exact ⟨_,_,_,_,rfl,r1,r2⟩
theorem rv_qa {w:World} {x:Rat} {v:Value} (h:RV w (qR3 x) v):RepV w [.r] [QA.at (.q x)] v:=rv_rep.1 h
theorem RV.ext {w w':World} {q:R3} {v:Value} (h:RV w q v) (hb:Below w.heap.size w w'):RV w' q v:=by
 obtain ⟨a,c,b,d,rfl,h1,h2⟩:=h
 exact ⟨a,c,b,d,rfl,h1.ext hb,h2.ext hb⟩
theorem RV.keep {w w':World} {q:R3} {v:Value} (h:RV w q v) (hb:Below w.heap.size w w'):RV w' q v:=h.ext hb
theorem sz_qa {x:Rat} {s:Nat} (h:qS (qR3 x) s):(QA.at (.q x)).sz≤s:=Nat.max_le.2 h
theorem qS_of {x:Rat} {s:Nat} (h:(QA.at (.q x)).sz≤s):qS (qR3 x) s:=Nat.max_le.1 h
def RetQ3 (w:World) (q:R3) (s:Nat) (e:Ending) (w':World):Prop:=∃ v,e = .returned v∧RV w' q v∧qS q s∧Below w.heap.size w w'
def RetQE (w:World) (q:R3) (z:Int) (s:Nat) (e:Ending) (w':World):Prop:=∃ v,e = .returned (.tuple #[v,.int .i64 z])∧RV w' q v∧qS q s∧Below w.heap.size w w'
theorem ct_q3 {P:Program} {f s S:Nat} {c:Ct} {w:World} {vs:List Value} {als:List At} {x:Rat} (h:c.ok P f) (hres:c.res=[[.r]]) (hs:s≤c.L) (hr:zeK w c.args als vs) (hz:∀ a∈als,a.sz≤s) (hF:c.F als=some [QA.at (.q x)]) (hS:c.A*s+c.B≤S) :
  Calls P f vs.toArray w (RetQ3 w (qR3 x) S):=by
 refine (h s w vs als _ hs hr hz hF).mono ?_
 rintro e w' ⟨rvs,he,hrv,hsz,hE⟩
 rw [hres] at hrv
 obtain ⟨v,rfl,h1⟩:=vs1 hrv
 have hz0:=hsz _ (List.mem_singleton.2 rfl)
 exact ⟨v,he,rv_rep.2 h1,qS_of (Nat.le_trans hz0 hS),hE⟩
theorem ct_qe {P:Program} {f s S:Nat} {c:Ct} {w:World} {vs:List Value} {als:List At} {q:R3} {z:Int} (h:c.ok P f) (hres:c.res=[[.r],[.n]]) (hs:s≤c.L) (hr:zeK w c.args als vs) (hz:∀ a∈als,a.sz≤s) (hF:c.F als=some [.r q.1 q.2.1 q.2.2,.n z]) (hS:c.A*s+c.B≤S) :
  Calls P f vs.toArray w (RetQE w q z S):=by
 refine (h s w vs als _ hs hr hz hF).mono ?_
 rintro e w' ⟨rvs,he,hrv,hsz,hE⟩
 rw [hres] at hrv
 obtain ⟨x,r,y,r',e1,rfl,h1,h2⟩:=hrv
 obtain ⟨v2,rfl,h3⟩:=vs1 h2
 obtain ⟨neg,l,m,a,c1,a',c2,e2,rfl,r1,r2⟩:=repV_r.1 h1
 subst e2
 simp only [List.cons_append,List.nil_append,List.cons.injEq,At.r.injEq] at e1
 obtain ⟨⟨e2,e3,e4⟩,e5⟩:=e1
 subst e5
 subst e2;subst e3;subst e4
 obtain ⟨z',e6,rfl⟩:=repV_n.1 h3
 simp only [List.cons.injEq,At.n.injEq,and_true] at e6
 subst e6
 have hz0:=hsz _ (List.mem_cons_self ..)
 simp only [At.sz] at hz0
 exact ⟨_,he,⟨_,_,_,_,rfl,r1,r2⟩,⟨by omega,by omega⟩,hE⟩
theorem reps1 {w:World} {v:Value} {x:Rat} (h:RV w (qR3 x) v):zeK w [[.r]] [QA.at (.q x)] [v]:=⟨_,[],_,[],(List.append_nil _).symm,rfl,rv_qa h,rfl,rfl⟩
theorem repsQ {w:World} {v u:Value} {x y:Rat} (h:RV w (qR3 x) v) (h':RV w (qR3 y) u):zeK w [[.r],[.r]] [QA.at (.q x),QA.at (.q y)] [v,u] :=
 ⟨_,_,_,_,rfl,rfl,rv_qa h,_,[],_,[],(List.append_nil _).symm,rfl,rv_qa h',rfl,rfl⟩
theorem sz1 {x:Rat} {s:Nat} (h:qS (qR3 x) s):∀ a∈[QA.at (.q x)],a.sz≤s:=fun a ha=>by rw [List.mem_singleton.1 ha];exact sz_qa h
theorem szQ {x y:Rat} {s:Nat} (h:qS (qR3 x) s) (h':qS (qR3 y) s):∀ a∈[QA.at (.q x),QA.at (.q y)],a.sz≤s:=by
 intro a ha
 simp only [List.mem_cons,List.not_mem_nil,or_false] at ha
 rcases ha with rfl|rfl
 ·exact sz_qa h
 ·exact sz_qa h'
theorem sgnQ_any {w:World} {v:Value} {x:Rat} (h:RV w (qR3 x) v) (hz:qS (qR3 x) 100000):Calls Tryz.prog 56 #[v] w fun e w'=>e = .returned (.int .i64 (qsg x))∧Below w.heap.size w w' :=
 ct_n ok_dsign rfl (s:=100000) (by decide) (reps1 h) (sz1 hz) (by show cq g_sign [QA.at (.q x)]=_;exact (cq1 _ _).trans rfl)
theorem negQ_any {w:World} {v:Value} {x:Rat} (h:RV w (qR3 x) v) (hz:qS (qR3 x) 100000):Calls Tryz.prog 58 #[v] w (RetQ3 w (qR3 (-x)) 200000) :=
 ct_q3 ok_dneg rfl (s:=100000) (by decide) (reps1 h) (sz1 hz) (by show cq g_neg [QA.at (.q x)]=_;exact (cq1 _ _).trans rfl) (by decide)
theorem negR_any {w:World} {v:Value} {x:Rat} (h:RV w (qR3 x) v) (hz:qS (qR3 x) 100000):Calls Tryz.prog 84 #[v] w (RetQ3 w (qR3 (-x)) 200000) :=
 ct_q3 ok_drneg rfl (s:=100000) (by decide) (reps1 h) (sz1 hz) (by show cq g_neg [QA.at (.q x)]=_;exact (cq1 _ _).trans rfl) (by decide)
theorem divQ_any {w:World} {v u:Value} {x y:Rat} (h:RV w (qR3 x) v) (h':RV w (qR3 y) u) (hz:qS (qR3 x) 10000) (hz':qS (qR3 y) 10000) (h0:¬y=0):Calls Tryz.prog 57 #[v,u] w (RetQE w (qR3 (x / y)) 0 100000) :=
 ct_qe ok_ddiv rfl (s:=10000) (by decide) (repsQ h h') (szQ hz hz') (by show cq g_div [QA.at (.q x),QA.at (.q y)]=_;refine (cq2 _ _ _).trans ?_;simp only [g_div,h0,if_false];rfl) (by decide)
theorem divR_any {w:World} {v u:Value} {x y:Rat} (h:RV w (qR3 x) v) (h':RV w (qR3 y) u) (hz:qS (qR3 x) 10000) (hz':qS (qR3 y) 10000):Calls Tryz.prog 85 #[v,u] w (RetQE w (if y=0 then r30 else qR3 (x / y)) (if y=0 then 3 else 0) 100000) :=
 ct_qe ok_drdiv rfl (s:=10000) (by decide) (repsQ h h') (szQ hz hz') (by
  show cq g_div [QA.at (.q x),QA.at (.q y)]=_
  refine (cq2 _ _ _).trans ?_
  by_cases h0:y=0
  ·simp only [g_div,h0,if_true];rfl
  ·simp only [g_div,h0,if_false];rfl) (by decide)
theorem readQ_any (l:List UInt8) (w:World) (hl:l.length≤20000) (h0:qrE l=0):Calls Tryz.prog 75 #[.string ⟨l.toArray⟩] w (RetQE w (qR3 (qrV l)) 0 1005) :=
 ct_qe ok_qread rfl (s:=0) (by decide) ⟨_,[],_,[],(List.append_nil _).symm,rfl,repV_s.2 ⟨l,rfl,rfl⟩,rfl,rfl⟩ (fun a ha=>by rw [List.mem_singleton.1 ha];exact Nat.zero_le _) (by
  show f_qread [.s l]=_
  unfold f_qread
  simp only
  rw [if_pos (by omega),qrR,if_pos h0,h0]
  rfl) (by decide)
theorem readRq_any (l:List UInt8) (w:World) (hl:l.length≤20000) (h0:qrE l=0):Calls Tryz.prog 99 #[.string ⟨l.toArray⟩] w (RetQE w (qR3 (qrV l)) 0 1005):=by
 refine (qReadR_any ⟨l.toArray⟩ w (by simp [ByteArray.size];omega)).mono ?_
 rintro e w' ⟨n,x,y,a,c,b,d,rfl,h1,h2,h3,h4,h5,hE⟩
 rw [show bs ⟨l.toArray⟩=l from rfl,qrR,if_pos h0] at h3
 simp only [qa,At.r.injEq] at h3
 obtain ⟨e1,e2,e3⟩:=h3
 subst e1;subst e2;subst e3
 rw [show bs ⟨l.toArray⟩=l from rfl,h0]
 exact ⟨_,rfl,⟨_,_,_,_,rfl,h1,h2⟩,⟨h4,h5⟩,hE⟩
inductive Tre where
 | mk (kind:Int) (name:List UInt8) (neg:Bool) (num den:List Nat) (args:List Tre) (pos:Int)
def Tre.kind:Tre→Int | .mk k _ _ _ _ _ _=>k
def Tre.name:Tre→List UInt8 | .mk _ n _ _ _ _ _=>n
def Tre.neg:Tre→Bool | .mk _ _ b _ _ _ _=>b
def Tre.num:Tre→List Nat | .mk _ _ _ l _ _ _=>l
def Tre.den:Tre→List Nat | .mk _ _ _ _ l _ _=>l
def Tre.args:Tre→List Tre | .mk _ _ _ _ _ l _=>l
def Tre.pos:Tre→Int | .mk _ _ _ _ _ _ p=>p
def ex0:Tre:=.mk 0 [] false [] [] [] 0
theorem Tre.lt_args {e x:Tre} (h:x∈e.args):SizeOf.sizeOf x<SizeOf.sizeOf e:=by
 cases e with
 | mk k n b l m args p =>
  have:=List.sizeOf_lt_of_mem h
  simp only [Tre.args] at this
  simp only [Tre.mk.sizeOf_spec]
  omega
structure Ch (w w':World) (S:Nat→Prop):Prop where
 size:w.heap.size≤w'.heap.size
 block:∀ k,k<w.heap.size→¬S k→w'.heap[k]? = w.heap[k]?
 limb:∀ b off x,w.cell? ⟨b,off,none⟩=some (.int .u16 x)→w'.cell? ⟨b,off,none⟩=some (.int .u16 x)
def NL (w:World) (b:Nat):Prop:=∃ cur e f,w.heap[b]? = some (.cells cur e f)∧∀ u∈cur.toList,no16c u
theorem NL.of_bx {w:World} {b t:Nat} {c:Array Value} (h:Bx w b c t) (hc:∀ u∈c.toList,no16c u):NL w b:=⟨c,t,_,h.heap,hc⟩
theorem NL.of_nb {w:World} {v:Value} (h:NB w v):∀ k,v.ownBlock=some k→NL w k:=fun k hk=>h k hk
theorem nl_limb {w:World} {b off:Nat} {x:Int} (h:NL w b):w.cell? ⟨b,off,none⟩≠some (.int .u16 x):=by
 intro e
 obtain ⟨cur,t,f,h1,h2⟩:=h
 have h5:cur[off]? = some (.int .u16 x):=by simpa [World.cell?,h1] using e
 exact h2 _ (Array.mem_toList_iff.2 (Array.mem_of_getElem? h5)) x rfl
theorem Ch.of_below {w w':World} {S:Nat→Prop} (h:Below w.heap.size w w'):Ch w w' S:=⟨h.size,fun k hk _=>h.block k hk,fun b off x hx=>zc9 h hx⟩
theorem Ch.of_grown {w w':World} {r:Option Nat} (h:w.grownBy w' r) (hn:∀ k,r=some k→NL w k):Ch w w' (fun k=>r=some k):=by
 refine ⟨h.size,fun k hk hn=>h.block k hk (fun e=>hn e.symm),fun b off x hx=>?_⟩
 have hb:=World.block_lt_of_cell? w _ hx
 by_cases hr:r=some b
 ·exact absurd hx (nl_limb (hn b hr))
 ·exact (World.cell?_of_block (w:=w) (a:=⟨b,off,none⟩) (h.block b hb (fun e=>hr e.symm))).trans hx
theorem Ch.of_sto {w w':World} {b:Nat} (h:Sto w w' b) (hn:NL w b):Ch w w' (fun k=>k=b):=by
 refine ⟨by rw [h.size];exact Nat.le_refl _,fun k _ hn=>h.block k hn,fun b' off x hx=>?_⟩
 by_cases hr:b'=b
 ·subst hr;exact absurd hx (nl_limb hn)
 ·exact (World.cell?_of_block (w:=w) (a:=⟨b',off,none⟩) (h.block b' hr)).trans hx
theorem Ch.mono {w w':World} {S T:Nat→Prop} (h:Ch w w' S) (hST:∀ k,S k→T k):Ch w w' T:=⟨h.size,fun k hk hn=>h.block k hk (fun hs=>hn (hST k hs)),h.limb⟩
theorem Ch.trans {w w1 w2:World} {S:Nat→Prop} (h:Ch w w1 S) (h':Ch w1 w2 S):Ch w w2 S:=⟨Nat.le_trans h.size h'.size,fun k hk hn=>(h'.block k (Nat.lt_of_lt_of_le hk h.size) hn).trans (h.block k hk hn),fun b off x hx=>h'.limb b off x (h.limb b off x hx)⟩
def Bl (F:Nat→Prop) (a:Option Addr) (n:Nat):Prop:=∀ ad,a=some ad→n≠0→F ad.block
theorem Bl.mono {F F':Nat→Prop} {a:Option Addr} {n:Nat} (h:Bl F a n) (hF:∀ k,F k→F' k):Bl F' a n:=fun ad ha hn=>hF _ (h ad ha hn)
theorem _root_.Go.V.SL.ch {w w':World} {a:Option Addr} {xs:List Value} {F S:Nat→Prop} (h:SL w a xs) (hf:Bl F a xs.length) (hc:Ch w w' S) (hd:∀ k,F k→¬S k):SL w' a xs:=by
 rcases h with e|⟨b',off,e,hx⟩
 ·exact .inl e
 ·by_cases hl:xs=[]
  ·exact .inl hl
  ·refine .inr ⟨b',off,e,fun j v hv=>?_⟩
   have h1:=hx j v hv
   have h2:=World.block_lt_of_cell? w _ h1
   have h3:F b':=hf _ e (fun h0=>hl (List.eq_nil_of_length_eq_zero h0))
   exact (World.cell?_of_block (w:=w) (a:=⟨b',off+j,none⟩) (hc.block b' h2 (hd _ h3))).trans h1
theorem _root_.Go.V.SL.blt {w:World} {a:Option Addr} {xs:List Value} (h:SL w a xs):Bl (fun k=>k<w.heap.size) a xs.length:=by
 intro ad ha hn
 obtain ⟨b,off,e,hlt⟩:=h.lt (fun h0=>hn (by rw [h0];rfl))
 rw [ha] at e;injection e with e;subst e;exact hlt
theorem RD.ch {w w':World} {a:Option Addr} {c:Nat} {l:List Nat} {S:Nat→Prop} (h:RD w a c l) (hc:Ch w w' S):RD w' a c l:=by
 refine ⟨?_,h.ok,h.cap⟩
 rcases h.sl with e|⟨b',off,e,hx⟩
 ·exact .inl e
 ·refine .inr ⟨b',off,e,fun j v hv=>?_⟩
  have h1:=hx j v hv
  have hm:v∈lmC l:=List.mem_of_getElem? hv
  simp only [lmC,List.mem_map] at hm
  obtain ⟨x,_,rfl⟩:=hm
  exact hc.limb _ _ _ h1
theorem RV.ch {w w':World} {q:R3} {v:Value} {S:Nat→Prop} (h:RV w q v) (hc:Ch w w' S):RV w' q v:=by
 obtain ⟨a,c,b,d,rfl,h1,h2⟩:=h
 exact ⟨a,c,b,d,rfl,h1.ch hc,h2.ch hc⟩
theorem Bl.and {F F':Nat→Prop} {a:Option Addr} {n:Nat} (h:Bl F a n) (h':Bl F' a n):Bl (fun k=>F k∧F' k) a n:=fun ad ha hn=>⟨h ad ha hn,h' ad ha hn⟩
theorem flat_len7 {α:Type}:∀ {rows:List (List α)},(∀ R∈rows,R.length=7)→rows.flatten.length=7*rows.length
 | [],_=>by simp
 | R::r,h=>by
  rw [List.flatten_cons,List.length_append,h R (List.mem_cons_self ..),flat_len7 (fun q hq=>h q (List.mem_cons_of_mem _ hq)),List.length_cons,Nat.mul_succ];omega
theorem flat_row7 {α:Type}:∀ {rows:List (List α)} {i:Nat} {R:List α},(∀ R∈rows,R.length=7)→rows[i]? = some R→(rows.flatten.drop (i*7)).take 7=R
 | [],_,_,_,h=>by simp at h
 | Q::r,0,R,hl,h=>by
  simp at h
  subst h
  rw [Nat.zero_mul,List.drop_zero,List.flatten_cons,List.take_left' (hl Q (List.mem_cons_self ..))]
 | Q::r,i+1,R,hl,h=>by
  have hq:=hl Q (List.mem_cons_self ..)
  rw [List.flatten_cons,Nat.succ_mul,Nat.add_comm,←List.drop_drop,List.drop_left' hq]
  exact flat_row7 (fun q hq=>hl q (List.mem_cons_of_mem _ hq)) (by simpa using h)
inductive EX (w:World) (F:Nat→Prop):List Value→Tre→Prop where
 | mk {kind pos:Int} {name:List UInt8} {neg:Bool} {num den:List Nat} {args:List Tre} {a b ad:Option Addr} {c d cap:Nat} {rows:List (List Value)}
   (hr:RD w a c num) (hs:RD w b d den) (hz:num.length≤maxLen∧den.length≤maxLen) (hsl:SL w ad rows.flatten) (fs:Bl F ad args.length) (hlen:rows.length=args.length)
   (hnm:name.length≤maxLen) (hm:args.length≤maxLen)
   (he:∀ (i:Nat) (R:List Value) (x:Tre),rows[i]? = some R→args[i]? = some x→EX w F R x) :
   EX w F [.int .i64 kind,.string ⟨name.toArray⟩,.bool neg,.slice a num.length c,.slice b den.length d,.slice ad args.length cap,.int .i64 pos] (.mk kind name neg num den args pos)
theorem EX.len {w:World} {F:Nat→Prop} {cs:List Value} {e:Tre} (h:EX w F cs e):cs.length=7:=by cases h;rfl
theorem EX.one {w:World} {F:Nat→Prop} {cs:List Value} {e:Tre} (h:EX w F cs e):∀ v∈cs,v.oneCell'=true:=by
 cases h
 intro v hv
 simp only [List.mem_cons,List.not_mem_nil,or_false] at hv
 rcases hv with rfl|rfl|rfl|rfl|rfl|rfl|rfl<;>rfl
theorem EX.mono {w:World} {F F':Nat→Prop} {cs:List Value} {e:Tre} (h:EX w F cs e) (hF:∀ k,F k→F' k):EX w F' cs e:=by
 induction h with
 | mk hr hs hz hsl fs hlen hnm hm he ih=>exact .mk hr hs hz hsl (fs.mono hF) hlen hnm hm ih
theorem EX.ch {w w':World} {F S:Nat→Prop} {cs:List Value} {e:Tre} (h:EX w F cs e) (hc:Ch w w' S) (hd:∀ k,F k→¬S k):EX w' F cs e:=by
 induction h with
 | @mk kind pos name neg num den args a b ad c d cap rows hr hs hz hsl fs hlen hnm hm he ih =>
  refine .mk (hr.ch hc) (hs.ch hc) hz (hsl.ch (F:=F) ?_ hc hd) fs hlen hnm hm ih
  intro x hx hn
  refine fs x hx (fun h0=>hn ?_)
  have:rows=[]:=List.eq_nil_of_length_eq_zero (by omega)
  rw [this];rfl
theorem EX.flat {w:World} {F:Nat→Prop} {rows:List (List Value)} {args:List Tre} (hlen:rows.length=args.length) (he:∀ (i:Nat) (R:List Value) (x:Tre),rows[i]? = some R→args[i]? = some x→EX w F R x):∀ R∈rows,R.length=7:=by
 intro R hR
 obtain ⟨i,hi,rfl⟩:=List.getElem_of_mem hR
 exact (he i _ _ (List.getElem?_eq_getElem hi) (List.getElem?_eq_getElem (by omega))).len
theorem EX.blt {w:World} {F:Nat→Prop} {cs:List Value} {e:Tre} (h:EX w F cs e):EX w (fun k=>F k∧k<w.heap.size) cs e:=by
 induction h with
 | @mk kind pos name neg num den args a b ad c d cap rows hr hs hz hsl fs hlen hnm hm he ih =>
  refine .mk hr hs hz hsl ?_ hlen hnm hm ih
  intro x hx hn
  refine ⟨fs x hx hn,hsl.blt x hx (fun h0=>hn ?_)⟩
  cases rows with
  | nil=>exact hlen.symm
  | cons R r =>
   have h7:=EX.flat hlen he R (List.mem_cons_self ..)
   simp only [List.flatten_cons,List.length_append] at h0
   omega
theorem EX.keep {w w':World} {F:Nat→Prop} {cs:List Value} {e:Tre} (h:EX w F cs e) (hb:Below w.heap.size w w'):EX w' F cs e:=h.ch (S:=fun _=>False) (Ch.of_below hb) (fun _ _ h=>h)
theorem EX.ext {w w':World} {F:Nat→Prop} {cs:List Value} {e:Tre} (h:EX w F cs e) (hb:Below w.heap.size w w'):EX w' F cs e:=h.keep hb
theorem EX.ex0 (w:World) (F:Nat→Prop) (cs:List Value) (h:cs=[.int .i64 0,.string ⟨#[]⟩,.bool false,.slice none 0 0,.slice none 0 0,.slice none 0 0,.int .i64 0]):EX w F cs ex0:=by
 subst h
 exact .mk (rows:=[]) (ad:=none) (kind:=0) (pos:=0) (name:=[]) (neg:=false) (num:=[]) (den:=[]) (args:=[]) (RD.nil _ _ _) (RD.nil _ _ _) ⟨Nat.zero_le _,Nat.zero_le _⟩ (SL.nil _ _) (fun _ h=>by cases h) rfl (Nat.zero_le _) (Nat.zero_le _) (fun i R x h=>by simp at h)
structure EXS (w:World) (F:Nat→Prop) (ad:Option Addr) (xs:List Tre) (rows:List (List Value)):Prop where
 sl:SL w ad rows.flatten
 fs:Bl F ad xs.length
 len:rows.length=xs.length
 max:xs.length≤maxLen
 he:∀ (i:Nat) (R:List Value) (x:Tre),rows[i]? = some R→xs[i]? = some x→EX w F R x
theorem EX.open {w:World} {F:Nat→Prop} {cs:List Value} {e:Tre} (h:EX w F cs e):∃ a c b d ad cap rows,cs=[.int .i64 e.kind,.string ⟨e.name.toArray⟩,.bool e.neg,.slice a e.num.length c,.slice b e.den.length d,.slice ad e.args.length cap,.int .i64 e.pos] ∧
  RD w a c e.num∧RD w b d e.den∧EXS w F ad e.args rows∧e.name.length≤maxLen∧e.num.length≤maxLen∧e.den.length≤maxLen:=by
 cases h with
 | mk hr hs hz hsl fs hlen hnm hm he=>exact ⟨_,_,_,_,_,_,_,rfl,hr,hs,⟨hsl,fs,hlen,hm,he⟩,hnm,hz⟩
theorem EXS.row {w:World} {F:Nat→Prop} {ad:Option Addr} {xs:List Tre} {rows:List (List Value)} (h:EXS w F ad xs rows) {i:Nat} {x:Tre} (hx:xs[i]? = some x) :
  ∃ R:List Value,rows[i]? = some R∧za4 w ((ad.getD default).add (i*7)) 0 7=R∧za1 w ((ad.getD default).add (i*7)) 0 7∧ad.isSome=true∧EX w F R x:=by
 have hi:i<rows.length:=by rw [h.len];exact (List.getElem?_eq_some_iff.1 hx).1
 obtain ⟨R,hR⟩:∃ R,rows[i]? = some R:=⟨_,List.getElem?_eq_getElem hi⟩
 have hall:=EX.flat h.len h.he
 have hfl:=flat_len7 hall
 have hle:i*7+7≤rows.flatten.length:=by rw [hfl];omega
 obtain ⟨q1,q2,q3⟩:=h.sl.row (i*7) 7 hle (by decide)
 exact ⟨R,hR,by rw [q1,flat_row7 hall hR],q2,q3,h.he i R x hR hx⟩
theorem EXS.ch {w w':World} {F S:Nat→Prop} {ad:Option Addr} {xs:List Tre} {rows:List (List Value)} (h:EXS w F ad xs rows) (hc:Ch w w' S) (hd:∀ k,F k→¬S k):EXS w' F ad xs rows:=by
 refine ⟨h.sl.ch (F:=F) ?_ hc hd,h.fs,h.len,h.max,fun i R x hR hx=>(h.he i R x hR hx).ch hc hd⟩
 intro x hx hn
 refine h.fs x hx (fun h0=>hn ?_)
 have:rows=[]:=List.eq_nil_of_length_eq_zero (by rw [h.len,h0])
 rw [this];rfl
theorem EXS.ext {w w':World} {F:Nat→Prop} {ad:Option Addr} {xs:List Tre} {rows:List (List Value)} (h:EXS w F ad xs rows) (hb:Below w.heap.size w w'):EXS w' F ad xs rows:=h.ch (S:=fun _=>False) (Ch.of_below hb) (fun _ _ h=>h)
structure Wf (T:List Tok):Prop where
 pos:0<T.length
 mid:∀ i,i+1<T.length→(zai T i).k≠0
 last:(zai T (T.length-1)).k=0
 text:∀ i,(zai T i).k=0→(zai T i).t=[]
 full:∀ i,(zai T i).k≠0→(zai T i).t≠[]
 name:∀ i,(zai T i).k=1→nameB (zai T i).t = !isKw (zai T i).t
 num:∀ i,(zai T i).k=2→qrE (zai T i).t=0
 len:∀ i,(zai T i).t.length≤20000
 size:T.length≤20001
 at':∀ i,(zai T i).p≤20000
theorem Wf.next {T:List Tok} (h:Wf T) {i:Nat} (hi:i<T.length) (hk:(zai T i).k≠0):i+1<T.length:=by
 rcases Nat.lt_or_ge (i+1) T.length with h1|h1
 ·exact h1
 ·have:i=T.length-1:=by omega
  rw [this] at hk
  exact absurd h.last hk
def sLP:List UInt8:=[40]
def sRP:List UInt8:=[41]
def sCM:List UInt8:=[44]
def sSC:List UInt8:=[59]
def sSL:List UInt8:=[47]
def sMI:List UInt8:=[45]
def sAS:List UInt8:=[58,61]
def zcr:List UInt8:=[112,111,105,110,116,115]
def wLine:List UInt8:=[108,105,110,101]
def zcQ:List UInt8:=[99,105,114,99,108,101]
def zda:List UInt8:=[112,114,111,118,101]
def zeL (t:List UInt8) (sorts:List Int):Int→Nat→Int
 | _,0=>0
 | k,n+1=>if zeI k=t∧sortK k∈sorts then k else zeL t sorts (k+1) n
def sortL (s:Int):List Int:=if s=0 then [2,3] else [s]
structure PSt where
 i:Nat
 at':Int
 er:Int
section
variable (T:List Tok)
def zbN (e:Int) (s:PSt):PSt:=if s.er=0 then ⟨s.i,(zai T s.i).p,e⟩ else s
def isP (t:List UInt8) (s:PSt):Bool:=isT T s.er s.i t
def zb4 (t:List UInt8) (s:PSt):PSt:=if isT T s.er s.i t=true then ⟨s.i+1,s.at',s.er⟩ else s
def zc8 (t:List UInt8) (s:PSt):PSt:=if isT T s.er s.i t=true then ⟨s.i+1,s.at',s.er⟩ else zbN T 5 s
def zbM (s:PSt):PSt × List UInt8:=if nmT T s.er s.i=true then (⟨s.i+1,s.at',s.er⟩,(zai T s.i).t) else (zbN T 5 s,[])
def numP (s:PSt):PSt × Rat:=if s.er=0∧(zai T s.i).k=2 then (⟨s.i+1,s.at',s.er⟩,qrV (zai T s.i).t) else (zbN T 5 s,0)
def ratP2 (p:PSt × Rat):PSt × Rat :=
 if isP T sSL p.1=true then
  let r:=numP T (zb4 T sSL p.1)
  if r.1.er=0 then (if r.2=0 then (zbN T 3 ⟨r.1.i-1,r.1.at',r.1.er⟩,p.2) else (r.1,p.2 / r.2)) else (r.1,p.2)
 else p
def ratP (s:PSt):PSt × Rat :=
 let q:=ratP2 T (numP T (zb4 T sMI s))
 (q.1,if isP T sMI s=true∧q.1.er=0 then -q.2 else q.2)
def zdU (sorts:List Int) (s:PSt):Int:=if s.er=0∧(zai T s.i).k=1 then zeL (zai T s.i).t sorts 10 59 else 0
def argsP (arg:Int→PSt→PSt × Tre):Bool→List Int→PSt→PSt × List Tre
 | _,[],s=>(s,[])
 | first,p::r,s =>
  let q:=arg p (if first=true then s else zc8 T sCM s)
  let z:=argsP arg false r q.1
  (z.1,q.2::z.2)
def endP (k:Int) (s:PSt):PSt × R3 :=
 if hasR k=true then
  let q:=ratP T (zc8 T sCM s)
  (zc8 T sRP q.1,qR3 q.2)
 else (zc8 T sRP s,r30)
def conP (arg:Int→PSt→PSt × Tre) (sorts:List Int) (s:PSt):PSt × Tre :=
 if zdU T sorts s=0 then (zbN T 5 s,ex0) else
  let k:=zdU T sorts s
  let z:=argsP T arg true (zc6 k) (zc8 T sLP ⟨s.i+1,s.at',s.er⟩)
  let q:=endP T k z.1
  (q.1,.mk k [] q.2.1 q.2.2.1 q.2.2.2 z.2 (zai T s.i).p)
def argP:Nat→Int→PSt→PSt × Tre
 | f,sort,s =>
  if nmT T s.er s.i=false∧zdU T (sortL sort) s=0 then (zbN T 5 s,ex0) else
  match f with
  | 0=>(zbN T 4 s,ex0)
  | f+1=>if nmT T s.er s.i=true then (⟨s.i+1,s.at',s.er⟩,.mk 1 (zai T s.i).t false [] [] [] (zai T s.i).p) else conP T (argP f) (sortL sort) s
end
inductive Res (α:Type) where
 | ok (a:α) (i:Nat)
 | er (i:Nat) (e:Int)
section
variable (T:List Tok)
def nmS (i:Nat):Bool:=decide ((zai T i).k=1) && !isKw (zai T i).t
def zeE (t:List UInt8) (i:Nat):Res Unit:=if (zai T i).k=0∨(zai T i).t≠t then .er i 5 else .ok () (i+1)
def wsS (t:List UInt8) (sort:Int):Int:=match KT.find? (fun r=>decide (r.2.2.1=t) && decide (r.2.1=sort)) with
 | some r=>r.1
 | none=>0
def kofS (i:Nat) (sort:Int):Int:=if (zai T i).k≠1 then 0 else if sort=0 then max (wsS (zai T i).t 2) (wsS (zai T i).t 3) else wsS (zai T i).t sort
def ratS2 (a:Rat) (i:Nat):Res Rat :=
 if (zai T i).t≠sSL then .ok a i else if (zai T (i+1)).k≠2 then .er (i+1) 5 else if qrV (zai T (i+1)).t=0 then .er (i+1) 3 else .ok (a / qrV (zai T (i+1)).t) (i+2)
def ratS1 (neg:Bool) (i:Nat):Res Rat :=
 if (zai T i).k≠2 then .er i 5 else ratS2 T (if neg=true then -(qrV (zai T i).t) else qrV (zai T i).t) (i+1)
def ratS (i:Nat):Res Rat:=match zeE T sCM i with
 | .er j e=>.er j e
 | .ok _ j=>if (zai T j).t=sMI then ratS1 T true (j+1) else ratS1 T false j
def zdi (arg:Int→Nat→Res Tre):Bool→List Int→Nat→Res (List Tre)
 | _,[],i=>.ok [] i
 | first,p::r,i=>match zeE T (if first=true then sLP else sCM) i with
  | .er j e=>.er j e
  | .ok _ j=>match arg p j with
   | .er j e=>.er j e
   | .ok x j=>match zdi arg false r j with
    | .er j e=>.er j e
    | .ok xs j=>.ok (x::xs) j
def endS (k:Int) (i:Nat):Res R3 :=
 match (if hasR k=true then (match ratS T i with | .er j e=>Res.er j e | .ok x j=>.ok (qR3 x) j) else .ok r30 i) with
 | .er j e=>.er j e
 | .ok q j=>match zeE T sRP j with
  | .er j e=>.er j e
  | .ok _ j=>.ok q j
def conS (arg:Int→Nat→Res Tre) (sort:Int) (i:Nat):Res Tre :=
 if kofS T i sort=0 then .er i 5 else match zdi T arg true (zc6 (kofS T i sort)) (i+1) with
  | .er j e=>.er j e
  | .ok xs j=>match endS T (kofS T i sort) j with
   | .er j e=>.er j e
   | .ok q j=>.ok (.mk (kofS T i sort) [] q.1 q.2.1 q.2.2 xs (zai T i).p) j
def argS:Nat→Int→Nat→Res Tre
 | f,sort,i =>
  if nmS T i=false∧kofS T i sort=0 then .er i 5 else
  match f with
  | 0=>.er i 4
  | f+1=>if nmS T i=true then .ok (.mk 1 (zai T i).t false [] [] [] (zai T i).p) (i+1) else conS T (argS f) sort i
end
def words:List (List UInt8):=KT.map fun r=>r.2.2.1
theorem kindF_none {t:List UInt8} (h:∀ k,10≤k→k≤68→zeI k≠t) (sorts:List Int):∀ (n:Nat) (k:Int),10≤k→k+n≤69→zeL t sorts k n=0
 | 0,k,_,_=>rfl
 | n+1,k,h1,h2=>by
  unfold zeL
  rw [if_neg (fun hh=>h k h1 (by omega) hh.1)]
  exact kindF_none h sorts n (k+1) (by omega) (by omega)
theorem wsS_none {t:List UInt8} (h:t∉words) (sort:Int):wsS t sort=0:=by
 unfold wsS
 rw [List.find?_eq_none.2]
 intro r hr
 have:r.2.2.1≠t:=fun e=>h (e▸List.mem_map_of_mem hr)
 simp [this]
theorem word_in:∀ n:Nat,n<59→zeI (10+n)∈words∨zeI (10+n)=[]:=by decide +kernel
theorem word_notin {t:List UInt8} (h:t∉words) (h0:t≠[]):∀ k,10≤k→k≤68→zeI k≠t:=by
 intro k h1 h2 e
 have:=word_in (k-10).toNat (by omega)
 rw [show (10:Int)+((k-10).toNat:Nat)=k by omega,e] at this
 rcases this with h3|h3
 ·exact h h3
 ·exact h0 h3
theorem kind_tab:∀ t∈words,∀ s∈[(0:Int),1,2,3,4],zeL t (sortL s) 10 59=(if s=0 then max (wsS t 2) (wsS t 3) else wsS t s):=by decide +kernel
theorem kind_eq {t:List UInt8} (h0:t≠[]) {s:Int} (hs:0≤s∧s≤4):zeL t (sortL s) 10 59=(if s=0 then max (wsS t 2) (wsS t 3) else wsS t s):=by
 by_cases h:t∈words
 ·refine kind_tab t h s ?_
  have:s=0∨s=1∨s=2∨s=3∨s=4:=by omega
  rcases this with rfl|rfl|rfl|rfl|rfl<;>simp
 ·rw [kindF_none (word_notin h h0) _ 59 10 (by omega) (by omega),wsS_none h,wsS_none h,wsS_none h]
  split<;>rfl
theorem kindF_range {t:List UInt8} {sorts:List Int}:∀ (n:Nat) (k:Int),zeL t sorts k n=0∨(k≤zeL t sorts k n∧zeL t sorts k n<k+n∧zeI (zeL t sorts k n)=t∧sortK (zeL t sorts k n)∈sorts)
 | 0,k=>.inl rfl
 | n+1,k=>by
  unfold zeL
  split
  ·rename_i h;exact .inr ⟨by omega,by omega,h.1,h.2⟩
  ·rcases kindF_range (t:=t) (sorts:=sorts) n (k+1) with h|⟨h1,h2,h3⟩
   ·exact .inl h
   ·exact .inr ⟨by omega,by omega,h3⟩
theorem pars_ok:∀ n:Nat,n<59→zeI (10+n)≠[]→(zc6 (10+n)≠[]∧(∀ p∈zc6 (10+n),0≤p∧p≤3)∧(zc6 (10+n)).length≤6):=by decide +kernel
theorem pars_none:∀ n:Nat,n<59→zeI (10+n)=[]→zc6 (10+n)=[]:=by decide +kernel
def Agr {α:Type} (T:List Tok) (a0:Int) (r:Res α) (p:PSt × α):Prop:=match r with
 | .ok x j=>p=(⟨j,a0,0⟩,x)
 | .er j e=>e≠0∧p.1.er=e∧p.1.at'=(zai T j).p
section
variable {T:List Tok}
theorem isT_zero {i:Nat} {t:List UInt8}:isT T 0 i t=(!decide ((zai T i).k=0) && decide ((zai T i).t=t)):=by simp [isT]
theorem isT_bad {i:Nat} {t:List UInt8} {er:Int} (h:er≠0):isT T er i t=false:=by simp [isT,h]
theorem nmT_bad {i:Nat} {er:Int} (h:er≠0):nmT T er i=false:=by simp [nmT,h]
theorem zdF {e:Int} {s:PSt} (h:s.er≠0):zbN T e s=s:=by unfold zbN;rw [if_neg h]
theorem failP_good {e:Int} {s:PSt} (h:s.er=0):zbN T e s=⟨s.i,(zai T s.i).p,e⟩:=by unfold zbN;rw [if_pos h]
theorem takeP_bad {t:List UInt8} {s:PSt} (h:s.er≠0):zb4 T t s=s:=by unfold zb4;rw [isT_bad h,if_neg (by decide)]
theorem zcs {t:List UInt8} {s:PSt} (h:s.er≠0):zc8 T t s=s:=by unfold zc8;rw [isT_bad h,if_neg (by decide),zdF h]
theorem numP_bad {s:PSt} (h:s.er≠0):numP T s=(s,0):=by unfold numP;rw [if_neg (fun hh=>h hh.1),zdF h]
theorem ratP2_bad {p:PSt × Rat} (h:p.1.er≠0):ratP2 T p=p:=by unfold ratP2 isP;rw [isT_bad h,if_neg (by decide)]
theorem ratP_bad {s:PSt} (h:s.er≠0):(ratP T s).1=s:=by
 unfold ratP
 simp only [takeP_bad h,numP_bad h,ratP2_bad (T:=T) (p:=(s,0)) h]
theorem kindP_bad {sorts:List Int} {s:PSt} (h:s.er≠0):zdU T sorts s=0:=by unfold zdU;rw [if_neg (fun hh=>h hh.1)]
theorem conP_bad {arg:Int→PSt→PSt × Tre} {sorts:List Int} {s:PSt} (h:s.er≠0):conP T arg sorts s=(s,ex0):=by unfold conP;rw [if_pos (kindP_bad h),zdF h]
theorem argP_bad {f:Nat} {sort:Int} {s:PSt} (h:s.er≠0):argP T f sort s=(s,ex0):=by
 unfold argP
 rw [if_pos ⟨nmT_bad h,kindP_bad h⟩,zdF h]
theorem argsP_bad {arg:Int→PSt→PSt × Tre} (harg:∀ p s,s.er≠0→(arg p s).1=s):∀ (ps:List Int) (first:Bool) {s:PSt},s.er≠0→(argsP T arg first ps s).1=s
 | [],_,s,h=>rfl
 | p::r,first,s,h=>by
  unfold argsP
  simp only [zcs h,ite_self,harg p s h]
  exact argsP_bad harg r false h
theorem endP_bad {k:Int} {s:PSt} (h:s.er≠0):(endP T k s).1=s:=by
 unfold endP
 split
 ·simp only [zcs h,ratP_bad h]
 ·simp only [zcs h]
theorem zct (t:List UInt8) (i:Nat) (a0:Int):(zeE T t i = .ok () (i+1)∧zc8 T t ⟨i,a0,0⟩=⟨i+1,a0,0⟩)∨(zeE T t i = .er i 5∧zc8 T t ⟨i,a0,0⟩=⟨i,(zai T i).p,5⟩):=by
 unfold zeE zc8
 simp only [isT_zero]
 by_cases h1:(zai T i).k=0
 ·right;simp [h1,zbN]
 ·by_cases h2:(zai T i).t=t
  ·left;simp [h1,h2]
  ·right;simp [h1,h2,zbN]
theorem zc0 {t:List UInt8} {i:Nat} {a0:Int} (hW:Wf T) (ht:t≠[]):isT T 0 i t=decide ((zai T i).t=t):=by
 rw [isT_zero]
 by_cases h:(zai T i).k=0
 ·have:=hW.text i h
  simp [h,this]
  exact ht
 ·simp [h]
theorem rat2_agr (hW:Wf T) {a:Rat} {i:Nat} {a0:Int}:Agr T a0 (ratS2 T a i) (ratP2 T (⟨i,a0,0⟩,a)):=by
 unfold ratS2 ratP2 isP
 simp only [zc0 (a0:=a0) hW (show sSL≠[] by decide),ne_eq]
 by_cases h1:(zai T i).t=sSL
 ·have hk:zb4 T sSL ⟨i,a0,0⟩=⟨i+1,a0,0⟩:=by
   unfold zb4;simp only [zc0 (a0:=a0) hW (show sSL≠[] by decide),h1,decide_true,if_pos]
  simp only [h1,not_true_eq_false,if_false,decide_true,if_true,hk]
  by_cases h2:(zai T (i+1)).k=2
  ·have hn:numP T ⟨i+1,a0,0⟩=(⟨i+2,a0,0⟩,qrV (zai T (i+1)).t):=by unfold numP;rw [if_pos ⟨rfl,h2⟩]
   simp only [h2,not_true_eq_false,if_false,hn,if_true]
   by_cases h3:qrV (zai T (i+1)).t=0
   ·rw [if_pos h3,if_pos h3]
    refine ⟨by decide,?_,?_⟩<;>simp [zbN]
   ·rw [if_neg h3,if_neg h3];rfl
  ·have hn:numP T ⟨i+1,a0,0⟩=(⟨i+1,(zai T (i+1)).p,5⟩,0):=by unfold numP;rw [if_neg (fun h=>h2 h.2)];simp [zbN]
   simp only [h2,not_false_eq_true,if_true,hn]
   refine ⟨by decide,?_,?_⟩<;>simp
 ·simp only [h1,not_false_eq_true,if_true,decide_false]
  rfl
theorem ratA (hW:Wf T) (neg:Bool) {i:Nat} {a0:Int}:Agr T a0 (ratS1 T neg i) ((ratP2 T (numP T ⟨i,a0,0⟩)).1,if neg=true∧(ratP2 T (numP T ⟨i,a0,0⟩)).1.er=0 then -(ratP2 T (numP T ⟨i,a0,0⟩)).2 else (ratP2 T (numP T ⟨i,a0,0⟩)).2):=by
 unfold ratS1
 by_cases h2:(zai T i).k=2
 ·have hn:numP T ⟨i,a0,0⟩=(⟨i+1,a0,0⟩,qrV (zai T i).t):=by unfold numP;rw [if_pos ⟨rfl,h2⟩]
  rw [if_neg (fun h=>h h2),hn]
  cases neg with
  | false =>
   have:=rat2_agr hW (a:=qrV (zai T i).t) (i:=i+1) (a0:=a0)
   simpa using this
  | true =>
   have h1:=rat2_agr hW (a:=qrV (zai T i).t) (i:=i+1) (a0:=a0)
   simp only [if_true,true_and]
   unfold ratS2 at h1 ⊢
   by_cases c1:(zai T (i+1)).t≠sSL
   ·rw [if_pos c1] at h1 ⊢
    simp only [Agr] at h1 ⊢
    rw [h1];simp
   ·rw [if_neg c1] at h1 ⊢
    by_cases c2:(zai T (i+1+1)).k≠2
    ·rw [if_pos c2] at h1 ⊢;exact h1
    ·rw [if_neg c2] at h1 ⊢
     by_cases c3:qrV (zai T (i+1+1)).t=0
     ·rw [if_pos c3] at h1 ⊢;exact h1
     ·rw [if_neg c3] at h1 ⊢
      simp only [Agr] at h1 ⊢
      rw [h1]
      simp only [if_true,Prod.mk.injEq,true_and]
      rw [Rat.div_def,Rat.div_def,Rat.neg_mul]
 ·have hn:numP T ⟨i,a0,0⟩=(⟨i,(zai T i).p,5⟩,0):=by unfold numP;rw [if_neg (fun h=>h2 h.2)];simp [zbN]
  rw [if_pos h2,hn]
  have hb:=ratP2_bad (T:=T) (p:=(⟨i,(zai T i).p,5⟩,0)) (show (5:Int)≠0 by decide)
  rw [hb]
  exact ⟨by decide,rfl,rfl⟩
theorem rat_agr (hW:Wf T) {i:Nat} {a0:Int}:Agr T a0 (ratS T i) (ratP T (zc8 T sCM ⟨i,a0,0⟩)):=by
 unfold ratS
 rcases zct (T:=T) sCM i a0 with ⟨h1,h2⟩|⟨h1,h2⟩
 ·rw [h1,h2]
  simp only
  unfold ratP isP
  simp only [zc0 (a0:=a0) hW (show sMI≠[] by decide)]
  by_cases h3:(zai T (i+1)).t=sMI
  ·have hk:zb4 T sMI ⟨i+1,a0,0⟩=⟨i+1+1,a0,0⟩:=by
    unfold zb4;simp only [zc0 (a0:=a0) hW (show sMI≠[] by decide),h3,decide_true,if_pos]
   rw [if_pos h3,hk]
   have:=ratA hW true (i:=i+1+1) (a0:=a0)
   simpa [h3] using this
  ·have hk:zb4 T sMI ⟨i+1,a0,0⟩=⟨i+1,a0,0⟩:=by
    unfold zb4;simp only [zc0 (a0:=a0) hW (show sMI≠[] by decide),h3,decide_false];rfl
   rw [if_neg h3,hk]
   have:=ratA hW false (i:=i+1) (a0:=a0)
   simpa [h3] using this
 ·rw [h1,h2]
  simp only
  have hb:=ratP_bad (T:=T) (s:=⟨i,(zai T i).p,5⟩) (show (5:Int)≠0 by decide)
  exact ⟨by decide,by rw [hb],by rw [hb]⟩
theorem end_agr (hW:Wf T) (k:Int) {i:Nat} {a0:Int}:Agr T a0 (endS T k i) (endP T k ⟨i,a0,0⟩):=by
 unfold endS endP
 by_cases hk:hasR k=true
 ·simp only [hk,if_true]
  have h1:=rat_agr hW (i:=i) (a0:=a0)
  cases hr:ratS T i with
  | er j e =>
   rw [hr] at h1
   obtain ⟨h2,h3,h4⟩:=h1
   simp only
   have:(ratP T (zc8 T sCM ⟨i,a0,0⟩)).1.er≠0:=by rw [h3];exact h2
   refine ⟨h2,?_,?_⟩<;>simp only [zcs this]<;>assumption
  | ok x j =>
   rw [hr] at h1
   have h2:ratP T (zc8 T sCM ⟨i,a0,0⟩)=(⟨j,a0,0⟩,x):=h1
   simp only [h2]
   rcases zct (T:=T) sRP j a0 with ⟨h3,h4⟩|⟨h3,h4⟩
   ·rw [h3,h4];rfl
   ·rw [h3,h4];exact ⟨by decide,rfl,rfl⟩
 ·simp only [hk,if_false,Bool.false_eq_true]
  rcases zct (T:=T) sRP i a0 with ⟨h3,h4⟩|⟨h3,h4⟩
  ·rw [h3];simp only [h4];rfl
  ·rw [h3];simp only [h4];exact ⟨by decide,rfl,rfl⟩
theorem args_agr {argp:Int→PSt→PSt × Tre} {args:Int→Nat→Res Tre} {a0:Int} (hbad:∀ p s,s.er≠0→(argp p s).1=s) (h:∀ p i,0≤p∧p≤4→Agr T a0 (args p i) (argp p ⟨i,a0,0⟩)) :
  ∀ (ps:List Int) (i:Nat),(∀ p∈ps,0≤p∧p≤4)→Agr T a0 (zdi T args false ps i) (argsP T argp false ps ⟨i,a0,0⟩)
 | [],i,_=>rfl
 | p::r,i,hp=>by
  unfold zdi argsP
  simp only [Bool.false_eq_true,if_false]
  rcases zct (T:=T) sCM i a0 with ⟨h3,h4⟩|⟨h3,h4⟩
  ·rw [h3,h4]
   simp only
   have h1:=h p (i+1) (hp p (List.mem_cons_self ..))
   cases hr:args p (i+1) with
   | er j e =>
    rw [hr] at h1
    obtain ⟨q1,q2,q3⟩:=h1
    simp only
    have hb:(argp p ⟨i+1,a0,0⟩).1.er≠0:=by rw [q2];exact q1
    have hs:=argsP_bad hbad r false hb (T:=T)
    exact ⟨q1,by rw [hs];exact q2,by rw [hs];exact q3⟩
   | ok x j =>
    rw [hr] at h1
    have h2:argp p ⟨i+1,a0,0⟩=(⟨j,a0,0⟩,x):=h1
    simp only [h2]
    have ih:=args_agr hbad h r j (fun q hq=>hp q (List.mem_cons_of_mem _ hq))
    cases hz:zdi T args false r j with
    | er j' e =>
     rw [hz] at ih
     exact ih
    | ok xs j' =>
     rw [hz] at ih
     have h5:argsP T argp false r ⟨j,a0,0⟩=(⟨j',a0,0⟩,xs):=ih
     simp only [h5];rfl
  ·rw [h3,h4]
   simp only
   have hb:(argp p ⟨i,(zai T i).p,5⟩).1=⟨i,(zai T i).p,5⟩:=hbad p _ (show (5:Int)≠0 by decide)
   have hs:=argsP_bad hbad r false (T:=T) (s:=(argp p ⟨i,(zai T i).p,5⟩).1) (by rw [hb];exact (show (5:Int)≠0 by decide))
   rw [hb] at hs
   exact ⟨by decide,by rw [hb,hs],by rw [hb,hs]⟩
theorem argsT_agr {argp:Int→PSt→PSt × Tre} {args:Int→Nat→Res Tre} {a0:Int} (hbad:∀ p s,s.er≠0→(argp p s).1=s) (h:∀ p i,0≤p∧p≤4→Agr T a0 (args p i) (argp p ⟨i,a0,0⟩))
  (ps:List Int) (hne:ps≠[]) (i:Nat) (hp:∀ p∈ps,0≤p∧p≤4):Agr T a0 (zdi T args true ps i) (argsP T argp true ps (zc8 T sLP ⟨i,a0,0⟩)):=by
 cases ps with
 | nil=>exact absurd rfl hne
 | cons p r =>
  unfold zdi argsP
  simp only [if_true]
  rcases zct (T:=T) sLP i a0 with ⟨h3,h4⟩|⟨h3,h4⟩
  ·rw [h3,h4]
   simp only
   have h1:=h p (i+1) (hp p (List.mem_cons_self ..))
   cases hr:args p (i+1) with
   | er j e =>
    rw [hr] at h1
    obtain ⟨q1,q2,q3⟩:=h1
    simp only
    have hb:(argp p ⟨i+1,a0,0⟩).1.er≠0:=by rw [q2];exact q1
    have hs:=argsP_bad hbad r false hb (T:=T)
    exact ⟨q1,by rw [hs];exact q2,by rw [hs];exact q3⟩
   | ok x j =>
    rw [hr] at h1
    have h2:argp p ⟨i+1,a0,0⟩=(⟨j,a0,0⟩,x):=h1
    simp only [h2]
    have ih:=args_agr hbad h r j (fun q hq=>hp q (List.mem_cons_of_mem _ hq))
    cases hz:zdi T args false r j with
    | er j' e =>
     rw [hz] at ih
     exact ih
    | ok xs j' =>
     rw [hz] at ih
     have h5:argsP T argp false r ⟨j,a0,0⟩=(⟨j',a0,0⟩,xs):=ih
     simp only [h5];rfl
  ·rw [h3,h4]
   simp only
   have hb:(argp p ⟨i,(zai T i).p,5⟩).1=⟨i,(zai T i).p,5⟩:=hbad p _ (show (5:Int)≠0 by decide)
   have hs:=argsP_bad hbad r false (T:=T) (s:=(argp p ⟨i,(zai T i).p,5⟩).1) (by rw [hb];exact (show (5:Int)≠0 by decide))
   rw [hb] at hs
   exact ⟨by decide,by rw [hb,hs],by rw [hb,hs]⟩
theorem zeF (hW:Wf T) {sort:Int} (hs:0≤sort∧sort≤4) {i:Nat} {a0:Int}:zdU T (sortL sort) ⟨i,a0,0⟩=kofS T i sort:=by
 unfold zdU kofS
 by_cases h:(zai T i).k=1
 ·rw [if_pos ⟨rfl,h⟩,if_neg (fun hh=>hh h)]
  exact kind_eq (hW.full i (by rw [h];decide)) hs
 ·rw [if_neg (fun hh=>h hh.2),if_pos h]
theorem kindP_pars (hW:Wf T) {sorts:List Int} {s:PSt} (h:zdU T sorts s≠0):zc6 (zdU T sorts s)≠[]∧(∀ p∈zc6 (zdU T sorts s),0≤p∧p≤3)∧(zc6 (zdU T sorts s)).length≤6∧10≤zdU T sorts s∧zdU T sorts s≤68∧s.er=0∧(zai T s.i).k=1:=by
 unfold zdU at h ⊢
 split at h
 ·rename_i hc
  rw [if_pos hc]
  rcases kindF_range (t:=(zai T s.i).t) (sorts:=sorts) 59 10 with h1|⟨h1,h2,h3,_⟩
  ·exact absurd h1 h
  ·have hne:=hW.full s.i (by rw [hc.2];decide)
   have:=pars_ok (zeL (zai T s.i).t sorts 10 59-10).toNat (by omega)
   rw [show (10:Int)+((zeL (zai T s.i).t sorts 10 59-10).toNat:Nat)=zeL (zai T s.i).t sorts 10 59 by omega,h3] at this
   obtain ⟨q1,q2,q3⟩:=this hne
   exact ⟨q1,q2,q3,h1,by omega,hc⟩
 ·exact absurd rfl h
theorem con_agr (hW:Wf T) {argp:Int→PSt→PSt × Tre} {args:Int→Nat→Res Tre} {a0:Int} (hbad:∀ p s,s.er≠0→(argp p s).1=s) (h:∀ p i,0≤p∧p≤4→Agr T a0 (args p i) (argp p ⟨i,a0,0⟩))
  {sort:Int} {sorts:List Int} {i:Nat} (hk:zdU T sorts ⟨i,a0,0⟩=kofS T i sort):Agr T a0 (conS T args sort i) (conP T argp sorts ⟨i,a0,0⟩):=by
 unfold conS conP
 rw [hk]
 by_cases h0:kofS T i sort=0
 ·rw [if_pos h0,if_pos h0]
  exact ⟨by decide,by simp [zbN],by simp [zbN]⟩
 ·rw [if_neg h0,if_neg h0]
  have hp:=kindP_pars hW (sorts:=sorts) (s:=⟨i,a0,0⟩) (by rw [hk];exact h0)
  rw [hk] at hp
  obtain ⟨p1,p2,_,_,_,_⟩:=hp
  have h1:=argsT_agr hbad h _ p1 (i+1) (fun p hp=>⟨(p2 p hp).1,by have:=(p2 p hp).2;omega⟩)
  cases hz:zdi T args true (zc6 (kofS T i sort)) (i+1) with
  | er j e =>
   rw [hz] at h1
   obtain ⟨q1,q2,q3⟩:=h1
   have hb:=endP_bad (T:=T) (k:=kofS T i sort) (s:=(argsP T argp true (zc6 (kofS T i sort)) (zc8 T sLP ⟨i+1,a0,0⟩)).1) (by rw [q2];exact q1)
   exact ⟨q1,by simp only [hb];exact q2,by simp only [hb];exact q3⟩
  | ok xs j =>
   rw [hz] at h1
   have h2:argsP T argp true (zc6 (kofS T i sort)) (zc8 T sLP ⟨i+1,a0,0⟩)=(⟨j,a0,0⟩,xs):=h1
   simp only [h2]
   have h3:=end_agr hW (kofS T i sort) (i:=j) (a0:=a0)
   cases he:endS T (kofS T i sort) j with
   | er j' e=>rw [he] at h3;exact h3
   | ok q j' =>
    rw [he] at h3
    have h4:endP T (kofS T i sort) ⟨j,a0,0⟩=(⟨j',a0,0⟩,q):=h3
    simp only [h4];rfl
theorem nm_agr (hW:Wf T) {i:Nat}:nmT T 0 i=nmS T i:=by
 unfold nmT nmS
 by_cases h:(zai T i).k=1
 ·simp [h,hW.name i h]
 ·simp [h]
theorem arg_agr (hW:Wf T) {a0:Int}:∀ (f:Nat) (sort:Int) (i:Nat),0≤sort∧sort≤4→Agr T a0 (argS T f sort i) (argP T f sort ⟨i,a0,0⟩)
 | 0,sort,i,hs=>by
  unfold argS argP
  rw [nm_agr hW,zeF hW hs]
  split
  ·exact ⟨by decide,by simp [zbN],by simp [zbN]⟩
  ·exact ⟨by decide,by simp [zbN],by simp [zbN]⟩
 | f+1,sort,i,hs=>by
  unfold argS argP
  simp only
  rw [nm_agr hW,zeF hW hs]
  split
  ·exact ⟨by decide,by simp [zbN],by simp [zbN]⟩
  ·by_cases hn:nmS T i=true
   ·rw [if_pos hn,if_pos hn];rfl
   ·rw [if_neg hn,if_neg hn]
    exact con_agr hW (fun p s h=>by rw [argP_bad h]) (fun p i hp=>arg_agr hW f p i hp) (zeF hW hs)
end
end Go.Proofs.YtefhenfofomjhaaGreat
