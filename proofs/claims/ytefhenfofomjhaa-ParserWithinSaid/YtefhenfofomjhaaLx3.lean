/- The lexer, third part: the reference's IsName. -/
import Derived.Test.YtefhenfofomjhaaPp2
import Derived.Test.YtefhenfofomjhaaIc2
import Derived.Test.YtefhenfofomjhaaPt2
set_option linter.unusedSimpArgs false
set_option linter.unusedVariables false
namespace Go.Proofs.Ytefhenfofomjhaa
open Go Go.RowKit Go.V
structure Stm where
 kind:Int
 names:List (List UInt8)
 expr:Tre
 pos:Int
section
variable (T:List Tok)
def namesP:Nat→PSt→List (List UInt8)→PSt × List (List UInt8)
 | 0,s,acc=>(s,acc)
 | n+1,s,acc=>if isT T s.er s.i sCM=true then namesP n (zbb T (zaO T sCM s)).1 (acc++[(zbb T (zaO T sCM s)).2]) else (s,acc)
def zdB (s:PSt):PSt × List (List UInt8):=namesP T T.length (zbb T s).1 [(zbb T s).2]
def defP (kind sort pos:Int) (s:PSt):PSt × Stm :=
 let q:=zbb T s
 let r:=conP T (argP T 19) [sort] (zbw T sAS q.1)
 (r.1,⟨kind,[q.2],r.2,pos⟩)
def stmP (s:PSt):PSt × Stm :=
 let pos:Int:=(zai T s.i).p
 let q:PSt × Stm :=
  if isT T s.er s.i zbW=true then let r:=zdB T (zaO T zbW s);(r.1,⟨1,r.2,ex0,pos⟩)
  else if isT T s.er s.i wLine=true then defP T 3 2 pos (zaO T wLine s)
  else if isT T s.er s.i zcr=true then defP T 4 3 pos (zaO T zcr s)
  else if isT T s.er s.i zcA=true then let r:=conP T (argP T 19) [4] (zaO T zcA s);(r.1,⟨5,[],r.2,pos⟩)
  else if nmT T s.er s.i=true then defP T 2 1 pos s
  else (zaU T 5 s,⟨0,[],ex0,pos⟩)
 (zbw T sSC q.1,q.2)
def stmsP:Nat→PSt→List Stm→PSt × List Stm
 | 0,s,acc=>(s,acc)
 | n+1,s,acc=>if s.er=0∧¬(zai T s.i).k=0 then stmsP n (stmP T s).1 (acc++[(stmP T s).2]) else (s,acc)
def progP:List Stm × Int × Int :=
 let r:=stmsP T T.length ⟨0,0,0⟩ []
 if r.1.er=0 then (r.2,0,0) else ([],r.1.at',r.1.er)
def zdU:Nat→Nat→List (List UInt8)→Res (List (List UInt8))
 | 0,i,acc=>.er i 5
 | n+1,i,acc=>if nmS T i=false then .er i 5 else if (zai T (i+1)).t≠sCM then .ok (acc++[(zai T i).t]) (i+1) else zdU n (i+2) (acc++[(zai T i).t])
def srtS (kind:Int):Int:=if kind=2 then 1 else if kind=3 then 2 else if kind=4 then 3 else if kind=5 then 4 else 0
def defS (kind:Int) (i:Nat):Res Stm :=
 if kind≠5 then
  (if nmS T i=false then .er i 5 else match expS T sAS (i+1) with
   | .er j e=>.er j e
   | .ok _ j=>match conS T (argS T 19) (srtS kind) j with
    | .er j e=>.er j e
    | .ok x j=>.ok ⟨kind,[(zai T i).t],x,0⟩ j)
 else match conS T (argS T 19) (srtS kind) i with
  | .er j e=>.er j e
  | .ok x j=>.ok ⟨kind,[],x,0⟩ j
def stmS1 (i:Nat):Res Stm :=
 if (zai T i).t=zbW then (match zdU T T.length (i+1) [] with
  | .er j e=>.er j e
  | .ok l j=>.ok ⟨1,l,ex0,0⟩ j)
 else if (zai T i).t=wLine then defS T 3 (i+1)
 else if (zai T i).t=zcr then defS T 4 (i+1)
 else if (zai T i).t=zcA then defS T 5 (i+1)
 else defS T 2 i
def stmS (i:Nat):Res Stm:=match stmS1 T i with
 | .er j e=>.er j e
 | .ok s j=>match expS T sSC j with
  | .er j e=>.er j e
  | .ok _ j=>.ok ⟨s.kind,s.names,s.expr,(zai T i).p⟩ j
def stmsS:Nat→Nat→List Stm→Res (List Stm)
 | 0,i,acc=>.ok acc i
 | n+1,i,acc=>if (zai T i).k=0 then .ok acc i else match stmS T i with
  | .er j e=>.er j e
  | .ok s j=>stmsS n j (acc++[s])
def progS:List Stm × Int × Int:=match stmsS T T.length 0 [] with
 | .er j e=>([],(zai T j).p,e)
 | .ok l j=>(l,0,0)
end
section
variable {T:List Tok}
theorem zdC {t:List UInt8} {i j:Nat} (h:expS T t i = .ok () j):j=i+1:=by
 unfold expS at h
 split at h
 ·cases h
 ·injection h with _ h;exact h.symm
theorem nmS_k {i:Nat} (h:nmS T i=true):(zai T i).k=1:=by
 unfold nmS at h
 simp at h;exact h.1
theorem nameP_T {i:Nat} {a0:Int} (hW:Wf T) (h:nmS T i=true):zbb T ⟨i,a0,0⟩=(⟨i+1,a0,0⟩,(zai T i).t):=by
 unfold zbb;simp only [nm_agr hW,h,if_true]
theorem nameP_F {i:Nat} {a0:Int} (hW:Wf T) (h:nmS T i=false):zbb T ⟨i,a0,0⟩=(⟨i,(zai T i).p,5⟩,[]):=by
 unfold zbb;simp only [nm_agr hW,h];simp [zaU]
theorem namesP_bad:∀ (n:Nat) {s:PSt} (acc:List (List UInt8)),s.er≠0→namesP T n s acc=(s,acc)
 | 0,s,acc,_=>rfl
 | n+1,s,acc,h=>by unfold namesP;rw [isT_bad h];rfl
theorem names_agr (hW:Wf T) {a0:Int}:∀ (n m i:Nat) (acc:List (List UInt8)),T.length≤n+i→T.length≤m+i→Agr T a0 (zdU T (n+1) i acc) (namesP T m (zbb T ⟨i,a0,0⟩).1 (acc++[(zbb T ⟨i,a0,0⟩).2]))
 | n,m,i,acc,hn,hm=>by
  unfold zdU
  cases h:nmS T i with
  | false =>
   rw [nameP_F hW h,if_pos rfl,namesP_bad _ _ (show (5:Int)≠0 by decide)]
   exact ⟨by decide,rfl,rfl⟩
  | true =>
   have hk:=nmS_k h
   have hi:i<T.length:=by
    rcases Nat.lt_or_ge i T.length with h1|h1
    ·exact h1
    ·have:zai T i=default:=by unfold zai;rw [List.getD_eq_getElem?_getD,List.getElem?_eq_none h1];rfl
     rw [this] at hk;cases hk
   rw [nameP_T hW h,if_neg (by decide)]
   simp only
   cases m with
   | zero=>omega
   | succ m =>
    unfold namesP
    simp only [zbi (a0:=a0) hW (show sCM≠[] by decide)]
    by_cases hc:(zai T (i+1)).t=sCM
    ·rw [if_neg (fun hh=>hh hc),if_pos (by simp [hc])]
     have htk:zaO T sCM ⟨i+1,a0,0⟩=⟨i+2,a0,0⟩:=by unfold zaO;simp only [zbi (a0:=a0) hW (show sCM≠[] by decide),hc,decide_true,if_pos]
     rw [htk]
     cases n with
     | zero=>omega
     | succ n=>exact names_agr hW n m (i+2) _ (by omega) (by omega)
    ·rw [if_pos hc,if_neg (by simp [hc])]
     rfl
theorem def_agr (hW:Wf T) {a0 pos:Int} {kind sort:Int} (hk:kind≠5) (hs:srtS kind=sort) (hs2:1≤sort∧sort≤4) (i:Nat):Agr T a0 (match defS T kind i with | .er j e=>.er j e | .ok s j=>.ok ⟨s.kind,s.names,s.expr,pos⟩ j) (defP T kind sort pos ⟨i,a0,0⟩):=by
 unfold defS defP
 rw [if_pos hk]
 cases h:nmS T i with
 | false =>
  rw [nameP_F hW h,if_pos rfl]
  simp only [zbJ (T:=T) (t:=sAS) (s:=⟨i,(zai T i).p,5⟩) (show (5:Int)≠0 by decide),conP_bad (T:=T) (s:=⟨i,(zai T i).p,5⟩) (show (5:Int)≠0 by decide)]
  exact ⟨by decide,rfl,rfl⟩
 | true =>
  rw [nameP_T hW h,if_neg (by decide)]
  simp only
  rcases zcZ (T:=T) sAS (i+1) a0 with ⟨h3,h4⟩|⟨h3,h4⟩
  ·rw [h3,h4]
   simp only
   rw [hs]
   have hk2:zcX T [sort] ⟨i+1+1,a0,0⟩=zdZ T (i+1+1) sort:=by
    have:=kind_agr hW (sort:=sort) (by omega) (i:=i+1+1) (a0:=a0)
    unfold sortL at this
    rwa [if_neg (by omega)] at this
   have h1:=con_agr hW (fun p s h=>by rw [argP_bad h]) (fun p i hp=>arg_agr hW (a0:=a0) 19 p i hp) hk2
   cases hr:conS T (argS T 19) sort (i+1+1) with
   | er j e=>rw [hr] at h1;exact h1
   | ok x j =>
    rw [hr] at h1
    have h2:conP T (argP T 19) [sort] ⟨i+1+1,a0,0⟩=(⟨j,a0,0⟩,x):=h1
    simp only [h2];rfl
  ·rw [h3,h4]
   simp only [conP_bad (T:=T) (s:=⟨i+1,(zai T (i+1)).p,5⟩) (show (5:Int)≠0 by decide)]
   exact ⟨by decide,rfl,rfl⟩
theorem take_eq {t:List UInt8} {i:Nat} {a0:Int} (hW:Wf T) (ht:t≠[]) (h:(zai T i).t=t):zaO T t ⟨i,a0,0⟩=⟨i+1,a0,0⟩:=by
 unfold zaO;simp only [zbi (a0:=a0) hW ht,h,decide_true,if_pos]
theorem stm_agr (hW:Wf T) {a0:Int} (i:Nat):Agr T a0 (stmS T i) (stmP T ⟨i,a0,0⟩):=by
 obtain ⟨q,hq⟩:∃ q:PSt × Stm,q=(if isT T 0 i zbW=true then ((zdB T (zaO T zbW ⟨i,a0,0⟩)).1,⟨1,(zdB T (zaO T zbW ⟨i,a0,0⟩)).2,ex0,(zai T i).p⟩)
  else if isT T 0 i wLine=true then defP T 3 2 (zai T i).p (zaO T wLine ⟨i,a0,0⟩)
  else if isT T 0 i zcr=true then defP T 4 3 (zai T i).p (zaO T zcr ⟨i,a0,0⟩)
  else if isT T 0 i zcA=true then ((conP T (argP T 19) [4] (zaO T zcA ⟨i,a0,0⟩)).1,⟨5,[],(conP T (argP T 19) [4] (zaO T zcA ⟨i,a0,0⟩)).2,(zai T i).p⟩)
  else if nmT T 0 i=true then defP T 2 1 (zai T i).p ⟨i,a0,0⟩
  else (zaU T 5 ⟨i,a0,0⟩,⟨0,[],ex0,(zai T i).p⟩)):=⟨_,rfl⟩
 have key:Agr T a0 (match stmS1 T i with | .er j e=>.er j e | .ok s j=>.ok ⟨s.kind,s.names,s.expr,(zai T i).p⟩ j) q:=by
  subst hq
  unfold stmS1
  simp only [zbi (a0:=a0) hW (show zbW≠[] by decide),zbi (a0:=a0) hW (show wLine≠[] by decide),zbi (a0:=a0) hW (show zcr≠[] by decide),zbi (a0:=a0) hW (show zcA≠[] by decide),decide_eq_true_eq]
  by_cases c1:(zai T i).t=zbW
  ·rw [if_pos c1,if_pos c1,take_eq hW (by decide) c1]
   unfold zdB
   have hl:T.length=T.length-1+1:=by have:=hW.pos;omega
   have h1:=names_agr hW (a0:=a0) (T.length-1) T.length (i+1) [] (by omega) (by omega)
   rw [←hl] at h1
   cases hr:zdU T T.length (i+1) [] with
   | er j e=>rw [hr] at h1;exact h1
   | ok l j =>
    rw [hr] at h1
    have h2:namesP T T.length (zbb T ⟨i+1,a0,0⟩).1 ([]++[(zbb T ⟨i+1,a0,0⟩).2])=(⟨j,a0,0⟩,l):=h1
    rw [List.nil_append] at h2
    simp only [h2];rfl
  rw [if_neg c1,if_neg c1]
  by_cases c2:(zai T i).t=wLine
  ·rw [if_pos c2,if_pos c2,take_eq hW (by decide) c2]
   exact def_agr hW (by decide) rfl (by decide) (i+1)
  rw [if_neg c2,if_neg c2]
  by_cases c3:(zai T i).t=zcr
  ·rw [if_pos c3,if_pos c3,take_eq hW (by decide) c3]
   exact def_agr hW (by decide) rfl (by decide) (i+1)
  rw [if_neg c3,if_neg c3]
  by_cases c4:(zai T i).t=zcA
  ·rw [if_pos c4,if_pos c4,take_eq hW (by decide) c4]
   have hk2:zcX T [4] ⟨i+1,a0,0⟩=zdZ T (i+1) 4:=kind_agr hW (sort:=4) (by omega)
   have h1:=con_agr hW (fun p s h=>by rw [argP_bad h]) (fun p i hp=>arg_agr hW (a0:=a0) 19 p i hp) hk2
   unfold defS
   rw [if_neg (by decide)]
   have e4:srtS 5=4:=rfl
   rw [e4]
   cases hr:conS T (argS T 19) 4 (i+1) with
   | er j e=>rw [hr] at h1;exact h1
   | ok x j =>
    rw [hr] at h1
    have h2:conP T (argP T 19) [4] ⟨i+1,a0,0⟩=(⟨j,a0,0⟩,x):=h1
    simp only [h2];rfl
  rw [if_neg c4,if_neg c4,nm_agr hW]
  cases hn:nmS T i with
  | true =>
   rw [if_pos rfl]
   exact def_agr hW (by decide) rfl (by decide) i
  | false =>
   rw [if_neg (by decide)]
   have:defS T 2 i = .er i 5:=by unfold defS;rw [if_pos (by decide),hn,if_pos rfl]
   rw [this]
   exact ⟨by decide,by simp [zaU],by simp [zaU]⟩
 have e:stmP T ⟨i,a0,0⟩=(zbw T sSC q.1,q.2):=by subst hq;rfl
 rw [e]
 unfold stmS
 cases hr:stmS1 T i with
 | er j e =>
  rw [hr] at key
  obtain ⟨q1,q2,q3⟩:=key
  have hb:=zbJ (T:=T) (t:=sSC) (s:=q.1) (by rw [q2];exact q1)
  exact ⟨q1,by simp only [hb];exact q2,by simp only [hb];exact q3⟩
 | ok s j =>
  rw [hr] at key
  have h2:q=(⟨j,a0,0⟩,⟨s.kind,s.names,s.expr,(zai T i).p⟩):=key
  rw [h2]
  simp only
  rcases zcZ (T:=T) sSC j a0 with ⟨h3,h4⟩|⟨h3,h4⟩
  ·rw [h3,h4];rfl
  ·rw [h3,h4];exact ⟨by decide,rfl,rfl⟩
theorem stmsP_bad:∀ (n:Nat) {s:PSt} (acc:List Stm),s.er≠0→stmsP T n s acc=(s,acc)
 | 0,s,acc,_=>rfl
 | n+1,s,acc,h=>by unfold stmsP;rw [if_neg (fun hh=>h hh.1)]
theorem stms_agr (hW:Wf T):∀ (n i:Nat) (acc:List Stm),Agr T 0 (stmsS T n i acc) (stmsP T n ⟨i,0,0⟩ acc)
 | 0,i,acc=>rfl
 | n+1,i,acc=>by
  unfold stmsS stmsP
  by_cases h0:(zai T i).k=0
  ·rw [if_pos h0,if_neg (fun hh=>hh.2 h0)];rfl
  ·rw [if_neg h0,if_pos ⟨rfl,h0⟩]
   have h1:=stm_agr hW (a0:=0) i
   cases hr:stmS T i with
   | er j e =>
    rw [hr] at h1
    obtain ⟨q1,q2,q3⟩:=h1
    simp only
    rw [stmsP_bad _ _ (by rw [q2];exact q1)]
    exact ⟨q1,q2,q3⟩
   | ok s j =>
    rw [hr] at h1
    have h2:stmP T ⟨i,0,0⟩=(⟨j,0,0⟩,s):=h1
    simp only [h2]
    exact stms_agr hW n j _
theorem prog_eq (hW:Wf T):progP T=progS T:=by
 unfold progP progS
 have h:=stms_agr hW T.length 0 []
 cases hr:stmsS T T.length 0 [] with
 | er j e =>
  rw [hr] at h
  obtain ⟨q1,q2,q3⟩:=h
  simp only [q2,q3]
  rw [if_neg q1]
 | ok l j =>
  rw [hr] at h
  have h2:stmsP T T.length ⟨0,0,0⟩ []=(⟨j,0,0⟩,l):=h
  simp only [h2,if_true]
end
end Go.Proofs.Ytefhenfofomjhaa
namespace Go.Proofs.Ytefhenfofomjhaa
open Go Go.RowKit Go.V
set_option maxRecDepth 20000
inductive RW where
 | un
 | int (n:Int)
 | str (s:ByteArray)
 | sl (j n:Nat)
 | row (k s:Int) (w:ByteArray) (j n:Nat)
 deriving DecidableEq
def RW.den (bl:Nat→Nat):RW→Value
 | .un=>undef
 | .int n=>.int .i64 n
 | .str s=>.string s
 | .sl j n=>.slice (some ⟨bl j,0,none⟩) n n
 | .row k s w j n=>.agg #[.int .i64 k,.int .i64 s,.string w,.slice (some ⟨bl j,0,none⟩) n n]
def rwE (env:Nat→RW):Operand→RW
 | .tmp a=>env a
 | .const (.int .i64 n)=>.int n
 | .const (.string s)=>.str s
 | _=>.un
def rwInts (env:Nat→RW):Nat→List (Nat × Operand)→Option (List Int)
 | _,[]=>some []
 | i,(j,x)::r=>if i=j then (match rwE env x,rwInts env (i+1) r with
  | .int n,some l=>some (n::l)
  | _,_=>none) else none
def rwSet (env:Nat→RW) (d:Nat) (v:RW):Nat→RW:=fun s=>if s=d then v else env s
def zdD:Nat→List Oper→(Nat→RW)→List (List Int)→Option ((Nat→RW) × List (List Int) × List Oper)
 | 0,l,env,bs=>some (env,bs,l)
 | n+1,⟨some d,op,ty,pos,af,none⟩::r,env,bs=>match op with
  | .move x=>zdD n r (rwSet env d (rwE env x)) bs
  | .buildSlice t m parts=>if t=66∧m=parts.size∧m≤6∧0<m then (match rwInts env 0 parts.toList with
   | some l=>zdD n r (rwSet env d (.sl bs.length m)) (bs++[l])
   | none=>none) else none
  | .build t parts=>if t=68 then (match parts.toList with
   | [(0,a),(1,b),(2,c),(3,e)]=>(match rwE env a,rwE env b,rwE env c,rwE env e with
    | .int k,.int s,.str w,.sl j m=>zdD n r (rwSet env d (.row k s w j m)) bs
    | _,_,_,_=>none)
   | _=>none) else none
  | _=>none
 | _+1,_,_,_=>none
theorem rwE_den {bl:Nat→Nat} {env:Nat→RW} {g:G} (hg:∀ s,env s≠.un→g s=(env s).den bl) (x:Operand) (h:rwE env x≠.un):evG g x=(rwE env x).den bl:=by
 unfold rwE at h ⊢
 split at h
 ·exact hg _ h
 ·rfl
 ·rfl
 ·exact absurd rfl h
theorem rwInts_den {bl:Nat→Nat} {env:Nat→RW} {g:G} (hg:∀ s,env s≠.un→g s=(env s).den bl):∀ (l:List (Nat × Operand)) (i:Nat) (r:List Int),rwInts env i l=some r →
  r.length=l.length∧(l.map fun x=>(x.1,evG g x.2))=(List.range' i l.length).zip (intC r)
 | [],i,r,h=>by
  simp only [rwInts,Option.some.injEq] at h;subst h;exact ⟨rfl,rfl⟩
 | (j,x)::l,i,r,h=>by
  simp only [rwInts] at h
  split at h
  ·rename_i hij
   subst hij
   split at h
   ·rename_i n r' hx hr
    injection h with h;subst h
    obtain ⟨h1,h2⟩:=rwInts_den hg l (i+1) r' hr
    refine ⟨by simp [h1],?_⟩
    rw [List.map_cons,h2,List.length_cons,List.range'_succ]
    have:evG g x = .int .i64 n:=by rw [rwE_den hg x (by rw [hx];simp),hx];rfl
    simp [intC,this]
   ·cases h
  ·cases h
theorem fill_ints:∀ (r:List Int),0<r.length→r.length≤6→Instr.fill (fun i=>some (i*1,1)) ((Array.range (r.length*1)).map ((if r.length*1=0 then #[] else #[.int .i64 0])[· % (if r.length*1=0 then #[] else (#[.int .i64 0]:Array Value)).size]!)) ((List.range' 0 r.length).zip (intC r))=some (intC r).toArray
 | [],h,_=>by cases h
 | [a],_,_=>by kernel_rfl
 | [a,b],_,_=>by kernel_rfl
 | [a,b,c],_,_=>by kernel_rfl
 | [a,b,c,d],_,_=>by kernel_rfl
 | [a,b,c,d,e],_,_=>by kernel_rfl
 | [a,b,c,d,e,f],_,_=>by kernel_rfl
 | _::_::_::_::_::_::_::_,_,h=>by simp at h
def RW.ok (n:Nat):RW→Prop
 | .sl j _=>j<n
 | .row _ _ _ j _=>j<n
 | _=>True
theorem RW.ok_mono {n m:Nat} {v:RW} (h:v.ok n) (hm:n≤m):v.ok m:=by
 cases v<;>first|trivial|exact Nat.lt_of_lt_of_le h hm
theorem RW.den_ext {n:Nat} {v:RW} {bl bl':Nat→Nat} (h:v.ok n) (hb:∀ j,j<n→bl' j=bl j):v.den bl'=v.den bl:=by
 cases v<;>first
  | rfl
  | (simp only [RW.den];rw [hb _ h])
theorem rwE_ok {n:Nat} {env:Nat→RW} (h:∀ s,(env s).ok n) (x:Operand):(rwE env x).ok n:=by
 unfold rwE
 split<;>first|exact h _|trivial
theorem rwSet_ok {n:Nat} {env:Nat→RW} (h:∀ s,(env s).ok n) (d:Nat) {v:RW} (hv:v.ok n):∀ s,(rwSet env d v s).ok n:=by
 intro s;unfold rwSet;split
 ·exact hv
 ·exact h s
section
variable {ops:Array Oper} {W0:Nat}
theorem rwSet_den {env:Nat→RW} {g:G} {d:Nat} {v:RW} {x:Value} {bl:Nat→Nat} (hv:v≠.un→x=v.den bl) (hg:∀ s,env s≠.un→g s=(env s).den bl):∀ s,rwSet env d v s≠.un→upd g d x s=(rwSet env d v s).den bl:=by
 intro s hs
 unfold rwSet at hs ⊢
 rw [upd_apply]
 by_cases e:s=d
 ·rw [if_pos e] at hs ⊢;rw [if_pos e];exact hv hs
 ·rw [if_neg e] at hs ⊢;rw [if_neg e];exact hg s hs
theorem rw_sound:∀ (n:Nat) (l:List Oper) (env:Nat→RW) (bs:List (List Int)) (env':Nat→RW) (bs':List (List Int)) (rest:List Oper),zdD n l env bs=some (env',bs',rest)→∀ (g:G) (w:World) (bl:Nat→Nat) (K:G→World→Prop),
  (∀ s,env s≠.un→g s=(env s).den bl)→(∀ j p,bs[j]? = some p→Bx w (bl j) (intC p).toArray 3∧W0≤bl j)→W0≤w.heap.size→(∀ s,(env s).ok bs.length) →
  (∀ (g':G) (w':World) (bl':Nat→Nat),(∀ s,env' s≠.un→g' s=(env' s).den bl')→(∀ j p,bs'[j]? = some p→Bx w' (bl' j) (intC p).toArray 3∧W0≤bl' j)→Below w.heap.size w w'→zbZ Try.prog ops rest g' w' K)→zbZ Try.prog ops l g w K
 | 0,l,env,bs,env',bs',rest,h,g,w,bl,K,hg,hb,hW,hj,hk=>by
  simp only [zdD,Option.some.injEq,Prod.mk.injEq] at h
  obtain ⟨rfl,rfl,rfl⟩:=h
  exact hk g w bl hg hb (Below.refl _ _)
 | n+1,[],env,bs,env',bs',rest,h,g,w,bl,K,hg,hb,hW,hj,hk=>by simp [zdD] at h
 | n+1,⟨none,op,ty,pos,af,gd⟩::r,env,bs,env',bs',rest,h,g,w,bl,K,hg,hb,hW,hj,hk=>by simp [zdD] at h
 | n+1,⟨some d,op,ty,pos,af,some gd⟩::r,env,bs,env',bs',rest,h,g,w,bl,K,hg,hb,hW,hj,hk=>by simp [zdD] at h
 | n+1,⟨some d,op,ty,pos,af,none⟩::r,env,bs,env',bs',rest,h,g,w,bl,K,hg,hb,hW,hj,hk=>by
  cases op with
  | move x =>
   simp only [zdD] at h
   simp only [walkL_cons,hy_move,stepL_plain]
   refine ⟨by simp [go_sem],?_⟩
   have e1:lvO Try.prog w (evG g) ty (.move x)=evG g x:=rfl
   rw [e1]
   exact rw_sound n r _ bs env' bs' rest h _ w bl K (rwSet_den (fun hx=>rwE_den hg x hx) hg) hb hW (rwSet_ok hj d (rwE_ok hj x)) hk
  | buildSlice t m parts =>
   simp only [zdD] at h
   split at h
   ·rename_i hc
    obtain ⟨rfl,rfl,h6,h0⟩:=hc
    split at h
    ·rename_i l hl
     obtain ⟨q1,q2⟩:=rwInts_den hg _ _ _ hl
     simp only [walkL_cons,hy_buildSlice,stepL_heavy]
     have hsz:parts.size=l.length:=by rw [q1];simp
     refine zam (intC l).toArray rfl rfl zdb (by omega) _ q2 ?_ (fun w1 b hE hle hB=>?_)
     ·rw [hsz,show parts.toList.length=l.length from q1.symm]
      exact fill_ints l (by omega) (by omega)
     ·simp only [nxL_eq,updO_some]
      have hbl:∀ j,j<bs.length→(fun j=>if j=bs.length then b else bl j) j=bl j:=fun j hj'=>if_neg (by omega)
      refine rw_sound n r _ (bs++[l]) env' bs' rest h _ w1 (fun j=>if j=bs.length then b else bl j) K (rwSet_den (fun _=>?_) (fun s hs=>?_)) ?_ (Nat.le_trans hW hE.size) ?_ ?_
      ·unfold RW.den;simp [hsz]
      ·rw [RW.den_ext (hj s) hbl];exact hg s hs
      ·intro j p hp
       by_cases e:j=bs.length
       ·subst e
        rw [List.getElem?_append_right (Nat.le_refl _),Nat.sub_self] at hp
        simp at hp;subst hp
        simp only [if_true]
        exact ⟨hB,Nat.le_trans hW hle⟩
       ·have hlt:j<bs.length:=by
         rcases Nat.lt_or_ge j bs.length with h1|h1
         ·exact h1
         ·rw [List.getElem?_eq_none (by simp;omega)] at hp;cases hp
        rw [List.getElem?_append_left hlt] at hp
        simp only [if_neg e]
        exact ⟨(hb j p hp).1.keep hE,(hb j p hp).2⟩
      ·rw [List.length_append]
       exact rwSet_ok (fun s=>RW.ok_mono (hj s) (Nat.le_add_right _ _)) d (show bs.length<bs.length+1 by omega)
      ·intro g' w' bl' h1 h2 h3
       exact hk g' w' bl' h1 h2 (hE.next h3)
    ·cases h
   ·cases h
  | build t parts =>
   simp only [zdD] at h
   split at h
   ·rename_i hc
    subst hc
    split at h
    ·rename_i a b c e hp
     split at h
     ·rename_i k s wd j m ha hb' hc' he
      simp only [walkL_cons,hy_build,stepL_heavy]
      have ea:=rwE_den hg a (by rw [ha];simp)
      have eb:=rwE_den hg b (by rw [hb'];simp)
      have ec:=rwE_den hg c (by rw [hc'];simp)
      have ee:=rwE_den hg e (by rw [he];simp)
      rw [ha] at ea;rw [hb'] at eb;rw [hc'] at ec;rw [he] at ee
      have hok:=rwE_ok hj e
      rw [he] at hok
      refine zap #[.int .i64 k,.int .i64 s,.string wd,.slice (some ⟨bl j,0,none⟩) m m] rfl rfl ty_stZ68 [(0,.int .i64 k),(1,.int .i64 s),(2,.string wd),(3,.slice (some ⟨bl j,0,none⟩) m m)] ?_ (by kernel_rfl) ?_
      ·rw [hp]
       simp only [List.map_cons,List.map_nil,ea,eb,ec,ee]
       rfl
      ·simp only [nxL_eq,updO_some]
       exact rw_sound n r _ bs env' bs' rest h _ w bl K (rwSet_den (fun _=>rfl) hg) hb hW (rwSet_ok hj d hok) hk
     ·cases h
    ·cases h
   ·cases h
  | _=>simp [zdD] at h
end
def rwSlots:List Nat:=[8,13,18,23,28,33,36,42,48,54,60,65,70,75,80,85,90,95,100,105,111,116,120,124,130,135,141,149,153,159]
def rwRow (j:Nat):RW:=.row (zaf j).1 (zaf j).2.1 ⟨(zaf j).2.2.1.toArray⟩ j (zaf j).2.2.2.length
def rwEnv0:Nat→RW:=rwSet (rwSet (rwSet (fun _=>.un) 1 (.int 1)) 2 (.int 2)) 3 (.int 3)
def rwT (L:List Oper):Bool:=match zdD 156 L rwEnv0 [] with
 | some (env',bs',_)=>decide (rwSlots.map env'=(List.range 30).map rwRow) && decide (bs'=KT.map fun r=>r.2.2.2)
 | none=>false
theorem rwRun_rest:∀ (n:Nat) (l:List Oper) (env:Nat→RW) (bs:List (List Int)) (env':Nat→RW) (bs':List (List Int)) (rest:List Oper),zdD n l env bs=some (env',bs',rest)→rest=l.drop n
 | 0,l,env,bs,env',bs',rest,h=>by
  simp only [zdD,Option.some.injEq,Prod.mk.injEq] at h
  exact h.2.2.symm
 | n+1,[],env,bs,env',bs',rest,h=>by simp [zdD] at h
 | n+1,⟨none,op,ty,pos,af,gd⟩::r,env,bs,env',bs',rest,h=>by simp [zdD] at h
 | n+1,⟨some d,op,ty,pos,af,some gd⟩::r,env,bs,env',bs',rest,h=>by simp [zdD] at h
 | n+1,⟨some d,op,ty,pos,af,none⟩::r,env,bs,env',bs',rest,h=>by
  rw [List.drop_succ_cons]
  cases op with
  | move x=>simp only [zdD] at h;exact rwRun_rest n r _ _ env' bs' rest h
  | buildSlice t m parts =>
   simp only [zdD] at h
   split at h
   ·split at h
    ·exact rwRun_rest n r _ _ env' bs' rest h
    ·cases h
   ·cases h
  | build t parts =>
   simp only [zdD] at h
   split at h
   ·split at h
    ·split at h
     ·exact rwRun_rest n r _ _ env' bs' rest h
     ·cases h
    ·cases h
   ·cases h
  | _=>simp [zdD] at h
def rowC (bl:Nat→Nat) (j:Nat):List Value:=[.int .i64 (zaf j).1,.int .i64 (zaf j).2.1,.string ⟨(zaf j).2.2.1.toArray⟩,.slice (some ⟨bl j,0,none⟩) (zaf j).2.2.2.length (zaf j).2.2.2.length]
def rowsC (bl:Nat→Nat):List Value:=((List.range 30).map (rowC bl)).flatten
theorem rows_run {ops:Array Oper} {L:List Oper} (hT:rwT L=true) {g:G} {w:World} {K:G→World→Prop} (g1:g 1 = .int .i64 1) (g2:g 2 = .int .i64 2) (g3:g 3 = .int .i64 3)
  (hk:∀ (g':G) (w':World) (bl:Nat→Nat),(∀ j,j<30→g' (rwSlots.getD j 0) = .agg (rowC bl j).toArray)→(∀ j,j<30→Bx w' (bl j) (intC (zaf j).2.2.2).toArray 3∧w.heap.size≤bl j)→Below w.heap.size w w'→zbZ Try.prog ops (L.drop 156) g' w' K):zbZ Try.prog ops L g w K:=by
 unfold rwT at hT
 split at hT
 ·rename_i env' bs' rest hr
  simp only [Bool.and_eq_true,decide_eq_true_eq] at hT
  obtain ⟨h1,h2⟩:=hT
  have h3:=rwRun_rest _ _ _ _ _ _ _ hr
  subst h3
  refine rw_sound (W0:=w.heap.size) 156 L _ [] env' bs' _ hr g w (fun _=>0) K ?_ (fun j p h=>by simp at h) (Nat.le_refl _) ?_ (fun g' w' bl q1 q2 q3=>hk g' w' bl ?_ ?_ q3)
  ·intro s hs
   unfold rwEnv0 rwSet at hs ⊢
   by_cases e3:s=3
   ·subst e3;exact g3
   ·rw [if_neg e3] at hs ⊢
    by_cases e2:s=2
    ·subst e2;exact g2
    ·rw [if_neg e2] at hs ⊢
     by_cases e1:s=1
     ·subst e1;exact g1
     ·rw [if_neg e1] at hs;exact absurd rfl hs
  ·intro s
   unfold rwEnv0 rwSet
   (repeat' split)<;>trivial
  ·intro j hj
   have h4:env' (rwSlots.getD j 0)=rwRow j:=by
    have h5:=congrArg (fun l=>l[j]?) h1
    simp only [List.getElem?_map] at h5
    have hj2:j<rwSlots.length:=hj
    rw [List.getElem?_eq_getElem hj2,List.getElem?_range hj] at h5
    simp only [Option.map_some,Option.some.injEq] at h5
    rw [List.getD_eq_getElem?_getD,List.getElem?_eq_getElem hj2]
    exact h5
   rw [q1 _ (by rw [h4];simp [rwRow]),h4]
   rfl
  ·intro j hj
   refine q2 j _ ?_
   rw [h2,List.getElem?_map]
   unfold zaf
   have hj2:j<KT.length:=hj
   rw [List.getD_eq_getElem?_getD,List.getElem?_eq_getElem hj2]
   rfl
 ·cases hT
set_option maxHeartbeats 4000000 in
theorem rows_any (w:World):Calls Try.prog 34 #[] w fun e w'=>∃ (ad:Nat) (bl:Nat→Nat),e = .returned (.slice (some ⟨ad,0,none⟩) 30 30)∧Bx w' ad (rowsC bl).toArray 68∧(∀ j,j<30→Bx w' (bl j) (intC (zaf j).2.2.2).toArray 3∧w.heap.size≤bl j)∧w.heap.size≤ad∧Below w.heap.size w w':=by
 refine za8 (args:=[]) (rs:=[.tmp 0]) (n:=161) Try.func34 rfl rfl rfl (by kernel_rfl) ?_
 first|refine zzr fun K hK=>?_|refine zzt fun K hK=>?_
 simp [go_sem]
 refine hK _ _ ?_;clear hK K
 first|refine zzr fun K hK=>?_|refine zzt fun K hK=>?_
 simp [go_sem]
 refine hK _ _ ?_;clear hK K
 refine W_rt (by kernel_rfl) (fun K hK=>?_)
 refine rows_run (by kernel_rfl) (by simp [go_sem]) (by simp [go_sem]) (by simp [go_sem]) (fun g' w' bl hg hb hE=>?_)
 have q0:g' 8 = .agg #[.int .i64 (zaf 0).1,.int .i64 (zaf 0).2.1,.string ⟨(zaf 0).2.2.1.toArray⟩,.slice (some ⟨bl 0,0,none⟩) (zaf 0).2.2.2.length (zaf 0).2.2.2.length]:=hg 0 (by decide)
 have q1:g' 13 = .agg #[.int .i64 (zaf 1).1,.int .i64 (zaf 1).2.1,.string ⟨(zaf 1).2.2.1.toArray⟩,.slice (some ⟨bl 1,0,none⟩) (zaf 1).2.2.2.length (zaf 1).2.2.2.length]:=hg 1 (by decide)
 have q2:g' 18 = .agg #[.int .i64 (zaf 2).1,.int .i64 (zaf 2).2.1,.string ⟨(zaf 2).2.2.1.toArray⟩,.slice (some ⟨bl 2,0,none⟩) (zaf 2).2.2.2.length (zaf 2).2.2.2.length]:=hg 2 (by decide)
 have q3:g' 23 = .agg #[.int .i64 (zaf 3).1,.int .i64 (zaf 3).2.1,.string ⟨(zaf 3).2.2.1.toArray⟩,.slice (some ⟨bl 3,0,none⟩) (zaf 3).2.2.2.length (zaf 3).2.2.2.length]:=hg 3 (by decide)
 have q4:g' 28 = .agg #[.int .i64 (zaf 4).1,.int .i64 (zaf 4).2.1,.string ⟨(zaf 4).2.2.1.toArray⟩,.slice (some ⟨bl 4,0,none⟩) (zaf 4).2.2.2.length (zaf 4).2.2.2.length]:=hg 4 (by decide)
 have q5:g' 33 = .agg #[.int .i64 (zaf 5).1,.int .i64 (zaf 5).2.1,.string ⟨(zaf 5).2.2.1.toArray⟩,.slice (some ⟨bl 5,0,none⟩) (zaf 5).2.2.2.length (zaf 5).2.2.2.length]:=hg 5 (by decide)
 have q6:g' 36 = .agg #[.int .i64 (zaf 6).1,.int .i64 (zaf 6).2.1,.string ⟨(zaf 6).2.2.1.toArray⟩,.slice (some ⟨bl 6,0,none⟩) (zaf 6).2.2.2.length (zaf 6).2.2.2.length]:=hg 6 (by decide)
 have q7:g' 42 = .agg #[.int .i64 (zaf 7).1,.int .i64 (zaf 7).2.1,.string ⟨(zaf 7).2.2.1.toArray⟩,.slice (some ⟨bl 7,0,none⟩) (zaf 7).2.2.2.length (zaf 7).2.2.2.length]:=hg 7 (by decide)
 have q8:g' 48 = .agg #[.int .i64 (zaf 8).1,.int .i64 (zaf 8).2.1,.string ⟨(zaf 8).2.2.1.toArray⟩,.slice (some ⟨bl 8,0,none⟩) (zaf 8).2.2.2.length (zaf 8).2.2.2.length]:=hg 8 (by decide)
 have q9:g' 54 = .agg #[.int .i64 (zaf 9).1,.int .i64 (zaf 9).2.1,.string ⟨(zaf 9).2.2.1.toArray⟩,.slice (some ⟨bl 9,0,none⟩) (zaf 9).2.2.2.length (zaf 9).2.2.2.length]:=hg 9 (by decide)
 have q10:g' 60 = .agg #[.int .i64 (zaf 10).1,.int .i64 (zaf 10).2.1,.string ⟨(zaf 10).2.2.1.toArray⟩,.slice (some ⟨bl 10,0,none⟩) (zaf 10).2.2.2.length (zaf 10).2.2.2.length]:=hg 10 (by decide)
 have q11:g' 65 = .agg #[.int .i64 (zaf 11).1,.int .i64 (zaf 11).2.1,.string ⟨(zaf 11).2.2.1.toArray⟩,.slice (some ⟨bl 11,0,none⟩) (zaf 11).2.2.2.length (zaf 11).2.2.2.length]:=hg 11 (by decide)
 have q12:g' 70 = .agg #[.int .i64 (zaf 12).1,.int .i64 (zaf 12).2.1,.string ⟨(zaf 12).2.2.1.toArray⟩,.slice (some ⟨bl 12,0,none⟩) (zaf 12).2.2.2.length (zaf 12).2.2.2.length]:=hg 12 (by decide)
 have q13:g' 75 = .agg #[.int .i64 (zaf 13).1,.int .i64 (zaf 13).2.1,.string ⟨(zaf 13).2.2.1.toArray⟩,.slice (some ⟨bl 13,0,none⟩) (zaf 13).2.2.2.length (zaf 13).2.2.2.length]:=hg 13 (by decide)
 have q14:g' 80 = .agg #[.int .i64 (zaf 14).1,.int .i64 (zaf 14).2.1,.string ⟨(zaf 14).2.2.1.toArray⟩,.slice (some ⟨bl 14,0,none⟩) (zaf 14).2.2.2.length (zaf 14).2.2.2.length]:=hg 14 (by decide)
 have q15:g' 85 = .agg #[.int .i64 (zaf 15).1,.int .i64 (zaf 15).2.1,.string ⟨(zaf 15).2.2.1.toArray⟩,.slice (some ⟨bl 15,0,none⟩) (zaf 15).2.2.2.length (zaf 15).2.2.2.length]:=hg 15 (by decide)
 have q16:g' 90 = .agg #[.int .i64 (zaf 16).1,.int .i64 (zaf 16).2.1,.string ⟨(zaf 16).2.2.1.toArray⟩,.slice (some ⟨bl 16,0,none⟩) (zaf 16).2.2.2.length (zaf 16).2.2.2.length]:=hg 16 (by decide)
 have q17:g' 95 = .agg #[.int .i64 (zaf 17).1,.int .i64 (zaf 17).2.1,.string ⟨(zaf 17).2.2.1.toArray⟩,.slice (some ⟨bl 17,0,none⟩) (zaf 17).2.2.2.length (zaf 17).2.2.2.length]:=hg 17 (by decide)
 have q18:g' 100 = .agg #[.int .i64 (zaf 18).1,.int .i64 (zaf 18).2.1,.string ⟨(zaf 18).2.2.1.toArray⟩,.slice (some ⟨bl 18,0,none⟩) (zaf 18).2.2.2.length (zaf 18).2.2.2.length]:=hg 18 (by decide)
 have q19:g' 105 = .agg #[.int .i64 (zaf 19).1,.int .i64 (zaf 19).2.1,.string ⟨(zaf 19).2.2.1.toArray⟩,.slice (some ⟨bl 19,0,none⟩) (zaf 19).2.2.2.length (zaf 19).2.2.2.length]:=hg 19 (by decide)
 have q20:g' 111 = .agg #[.int .i64 (zaf 20).1,.int .i64 (zaf 20).2.1,.string ⟨(zaf 20).2.2.1.toArray⟩,.slice (some ⟨bl 20,0,none⟩) (zaf 20).2.2.2.length (zaf 20).2.2.2.length]:=hg 20 (by decide)
 have q21:g' 116 = .agg #[.int .i64 (zaf 21).1,.int .i64 (zaf 21).2.1,.string ⟨(zaf 21).2.2.1.toArray⟩,.slice (some ⟨bl 21,0,none⟩) (zaf 21).2.2.2.length (zaf 21).2.2.2.length]:=hg 21 (by decide)
 have q22:g' 120 = .agg #[.int .i64 (zaf 22).1,.int .i64 (zaf 22).2.1,.string ⟨(zaf 22).2.2.1.toArray⟩,.slice (some ⟨bl 22,0,none⟩) (zaf 22).2.2.2.length (zaf 22).2.2.2.length]:=hg 22 (by decide)
 have q23:g' 124 = .agg #[.int .i64 (zaf 23).1,.int .i64 (zaf 23).2.1,.string ⟨(zaf 23).2.2.1.toArray⟩,.slice (some ⟨bl 23,0,none⟩) (zaf 23).2.2.2.length (zaf 23).2.2.2.length]:=hg 23 (by decide)
 have q24:g' 130 = .agg #[.int .i64 (zaf 24).1,.int .i64 (zaf 24).2.1,.string ⟨(zaf 24).2.2.1.toArray⟩,.slice (some ⟨bl 24,0,none⟩) (zaf 24).2.2.2.length (zaf 24).2.2.2.length]:=hg 24 (by decide)
 have q25:g' 135 = .agg #[.int .i64 (zaf 25).1,.int .i64 (zaf 25).2.1,.string ⟨(zaf 25).2.2.1.toArray⟩,.slice (some ⟨bl 25,0,none⟩) (zaf 25).2.2.2.length (zaf 25).2.2.2.length]:=hg 25 (by decide)
 have q26:g' 141 = .agg #[.int .i64 (zaf 26).1,.int .i64 (zaf 26).2.1,.string ⟨(zaf 26).2.2.1.toArray⟩,.slice (some ⟨bl 26,0,none⟩) (zaf 26).2.2.2.length (zaf 26).2.2.2.length]:=hg 26 (by decide)
 have q27:g' 149 = .agg #[.int .i64 (zaf 27).1,.int .i64 (zaf 27).2.1,.string ⟨(zaf 27).2.2.1.toArray⟩,.slice (some ⟨bl 27,0,none⟩) (zaf 27).2.2.2.length (zaf 27).2.2.2.length]:=hg 27 (by decide)
 have q28:g' 153 = .agg #[.int .i64 (zaf 28).1,.int .i64 (zaf 28).2.1,.string ⟨(zaf 28).2.2.1.toArray⟩,.slice (some ⟨bl 28,0,none⟩) (zaf 28).2.2.2.length (zaf 28).2.2.2.length]:=hg 28 (by decide)
 have q29:g' 159 = .agg #[.int .i64 (zaf 29).1,.int .i64 (zaf 29).2.1,.string ⟨(zaf 29).2.2.1.toArray⟩,.slice (some ⟨bl 29,0,none⟩) (zaf 29).2.2.2.length (zaf 29).2.2.2.length]:=hg 29 (by decide)
 simp only [List.append_eq,List.cons_append,List.nil_append,List.drop_succ_cons,List.drop_zero]
 simp [go_sem]
 refine zam (rowsC bl).toArray (by simp [go_sem]) rfl ty_slZ82 (by decide) [(0,.agg #[.int .i64 (zaf 0).1,.int .i64 (zaf 0).2.1,.string ⟨(zaf 0).2.2.1.toArray⟩,.slice (some ⟨bl 0,0,none⟩) (zaf 0).2.2.2.length (zaf 0).2.2.2.length]),(1,.agg #[.int .i64 (zaf 1).1,.int .i64 (zaf 1).2.1,.string ⟨(zaf 1).2.2.1.toArray⟩,.slice (some ⟨bl 1,0,none⟩) (zaf 1).2.2.2.length (zaf 1).2.2.2.length]),(2,.agg #[.int .i64 (zaf 2).1,.int .i64 (zaf 2).2.1,.string ⟨(zaf 2).2.2.1.toArray⟩,.slice (some ⟨bl 2,0,none⟩) (zaf 2).2.2.2.length (zaf 2).2.2.2.length]),(3,.agg #[.int .i64 (zaf 3).1,.int .i64 (zaf 3).2.1,.string ⟨(zaf 3).2.2.1.toArray⟩,.slice (some ⟨bl 3,0,none⟩) (zaf 3).2.2.2.length (zaf 3).2.2.2.length]),(4,.agg #[.int .i64 (zaf 4).1,.int .i64 (zaf 4).2.1,.string ⟨(zaf 4).2.2.1.toArray⟩,.slice (some ⟨bl 4,0,none⟩) (zaf 4).2.2.2.length (zaf 4).2.2.2.length]),(5,.agg #[.int .i64 (zaf 5).1,.int .i64 (zaf 5).2.1,.string ⟨(zaf 5).2.2.1.toArray⟩,.slice (some ⟨bl 5,0,none⟩) (zaf 5).2.2.2.length (zaf 5).2.2.2.length]),(6,.agg #[.int .i64 (zaf 6).1,.int .i64 (zaf 6).2.1,.string ⟨(zaf 6).2.2.1.toArray⟩,.slice (some ⟨bl 6,0,none⟩) (zaf 6).2.2.2.length (zaf 6).2.2.2.length]),(7,.agg #[.int .i64 (zaf 7).1,.int .i64 (zaf 7).2.1,.string ⟨(zaf 7).2.2.1.toArray⟩,.slice (some ⟨bl 7,0,none⟩) (zaf 7).2.2.2.length (zaf 7).2.2.2.length]),(8,.agg #[.int .i64 (zaf 8).1,.int .i64 (zaf 8).2.1,.string ⟨(zaf 8).2.2.1.toArray⟩,.slice (some ⟨bl 8,0,none⟩) (zaf 8).2.2.2.length (zaf 8).2.2.2.length]),(9,.agg #[.int .i64 (zaf 9).1,.int .i64 (zaf 9).2.1,.string ⟨(zaf 9).2.2.1.toArray⟩,.slice (some ⟨bl 9,0,none⟩) (zaf 9).2.2.2.length (zaf 9).2.2.2.length]),(10,.agg #[.int .i64 (zaf 10).1,.int .i64 (zaf 10).2.1,.string ⟨(zaf 10).2.2.1.toArray⟩,.slice (some ⟨bl 10,0,none⟩) (zaf 10).2.2.2.length (zaf 10).2.2.2.length]),(11,.agg #[.int .i64 (zaf 11).1,.int .i64 (zaf 11).2.1,.string ⟨(zaf 11).2.2.1.toArray⟩,.slice (some ⟨bl 11,0,none⟩) (zaf 11).2.2.2.length (zaf 11).2.2.2.length]),(12,.agg #[.int .i64 (zaf 12).1,.int .i64 (zaf 12).2.1,.string ⟨(zaf 12).2.2.1.toArray⟩,.slice (some ⟨bl 12,0,none⟩) (zaf 12).2.2.2.length (zaf 12).2.2.2.length]),(13,.agg #[.int .i64 (zaf 13).1,.int .i64 (zaf 13).2.1,.string ⟨(zaf 13).2.2.1.toArray⟩,.slice (some ⟨bl 13,0,none⟩) (zaf 13).2.2.2.length (zaf 13).2.2.2.length]),(14,.agg #[.int .i64 (zaf 14).1,.int .i64 (zaf 14).2.1,.string ⟨(zaf 14).2.2.1.toArray⟩,.slice (some ⟨bl 14,0,none⟩) (zaf 14).2.2.2.length (zaf 14).2.2.2.length]),(15,.agg #[.int .i64 (zaf 15).1,.int .i64 (zaf 15).2.1,.string ⟨(zaf 15).2.2.1.toArray⟩,.slice (some ⟨bl 15,0,none⟩) (zaf 15).2.2.2.length (zaf 15).2.2.2.length]),(16,.agg #[.int .i64 (zaf 16).1,.int .i64 (zaf 16).2.1,.string ⟨(zaf 16).2.2.1.toArray⟩,.slice (some ⟨bl 16,0,none⟩) (zaf 16).2.2.2.length (zaf 16).2.2.2.length]),(17,.agg #[.int .i64 (zaf 17).1,.int .i64 (zaf 17).2.1,.string ⟨(zaf 17).2.2.1.toArray⟩,.slice (some ⟨bl 17,0,none⟩) (zaf 17).2.2.2.length (zaf 17).2.2.2.length]),(18,.agg #[.int .i64 (zaf 18).1,.int .i64 (zaf 18).2.1,.string ⟨(zaf 18).2.2.1.toArray⟩,.slice (some ⟨bl 18,0,none⟩) (zaf 18).2.2.2.length (zaf 18).2.2.2.length]),(19,.agg #[.int .i64 (zaf 19).1,.int .i64 (zaf 19).2.1,.string ⟨(zaf 19).2.2.1.toArray⟩,.slice (some ⟨bl 19,0,none⟩) (zaf 19).2.2.2.length (zaf 19).2.2.2.length]),(20,.agg #[.int .i64 (zaf 20).1,.int .i64 (zaf 20).2.1,.string ⟨(zaf 20).2.2.1.toArray⟩,.slice (some ⟨bl 20,0,none⟩) (zaf 20).2.2.2.length (zaf 20).2.2.2.length]),(21,.agg #[.int .i64 (zaf 21).1,.int .i64 (zaf 21).2.1,.string ⟨(zaf 21).2.2.1.toArray⟩,.slice (some ⟨bl 21,0,none⟩) (zaf 21).2.2.2.length (zaf 21).2.2.2.length]),(22,.agg #[.int .i64 (zaf 22).1,.int .i64 (zaf 22).2.1,.string ⟨(zaf 22).2.2.1.toArray⟩,.slice (some ⟨bl 22,0,none⟩) (zaf 22).2.2.2.length (zaf 22).2.2.2.length]),(23,.agg #[.int .i64 (zaf 23).1,.int .i64 (zaf 23).2.1,.string ⟨(zaf 23).2.2.1.toArray⟩,.slice (some ⟨bl 23,0,none⟩) (zaf 23).2.2.2.length (zaf 23).2.2.2.length]),(24,.agg #[.int .i64 (zaf 24).1,.int .i64 (zaf 24).2.1,.string ⟨(zaf 24).2.2.1.toArray⟩,.slice (some ⟨bl 24,0,none⟩) (zaf 24).2.2.2.length (zaf 24).2.2.2.length]),(25,.agg #[.int .i64 (zaf 25).1,.int .i64 (zaf 25).2.1,.string ⟨(zaf 25).2.2.1.toArray⟩,.slice (some ⟨bl 25,0,none⟩) (zaf 25).2.2.2.length (zaf 25).2.2.2.length]),(26,.agg #[.int .i64 (zaf 26).1,.int .i64 (zaf 26).2.1,.string ⟨(zaf 26).2.2.1.toArray⟩,.slice (some ⟨bl 26,0,none⟩) (zaf 26).2.2.2.length (zaf 26).2.2.2.length]),(27,.agg #[.int .i64 (zaf 27).1,.int .i64 (zaf 27).2.1,.string ⟨(zaf 27).2.2.1.toArray⟩,.slice (some ⟨bl 27,0,none⟩) (zaf 27).2.2.2.length (zaf 27).2.2.2.length]),(28,.agg #[.int .i64 (zaf 28).1,.int .i64 (zaf 28).2.1,.string ⟨(zaf 28).2.2.1.toArray⟩,.slice (some ⟨bl 28,0,none⟩) (zaf 28).2.2.2.length (zaf 28).2.2.2.length]),(29,.agg #[.int .i64 (zaf 29).1,.int .i64 (zaf 29).2.1,.string ⟨(zaf 29).2.2.1.toArray⟩,.slice (some ⟨bl 29,0,none⟩) (zaf 29).2.2.2.length (zaf 29).2.2.2.length])] (by simp [go_sem,q0,q1,q2,q3,q4,q5,q6,q7,q8,q9,q10,q11,q12,q13,q14,q15,q16,q17,q18,q19,q20,q21,q22,q23,q24,q25,q26,q27,q28,q29]) (by kernel_rfl) (fun w9 b9 hE9 hle9 hB9=>?_)
 simp [go_sem]
 refine hK _ _ ?_;clear hK K
 refine zal ?_
 repeat (first|refine za4 ?_|refine za3 ?_)
 refine ⟨trivial,b9,bl,?_,hB9,fun j hj=>⟨(hb j hj).1.keep hE9,(hb j hj).2⟩,Nat.le_trans hE.size hle9,hE.next hE9⟩
 simp [go_sem,zaw,zav]
end Go.Proofs.Ytefhenfofomjhaa
namespace Go.Proofs.Ytefhenfofomjhaa
open Go.RowKit Go.V
set_option maxRecDepth 20000
theorem goOn_true (c:UInt8):goOn true c=(letB c.toNat || digB c.toNat):=by
 unfold goOn
 rw [kind_letter,kind_digit]
 simp [Bool.or_comm]
end Go.Proofs.Ytefhenfofomjhaa
