/- The machinery of the walks, fifteenth part: a region that draws its order, in which a call may change what was there, while cells that it leaves as they are may be read before or after. -/
import Derived.Test.YtefhenfofomjhaaGreatPp2
import Derived.Test.YtefhenfofomjhaaGreatVE
set_option linter.unusedSimpArgs false
set_option linter.unusedVariables false
namespace Go.Proofs.YtefhenfofomjhaaGreat
open Go Go.RowKit Go.V
structure Stm where
 kind:Int
 names:List (List UInt8)
 expr:Tre
 pos:Int
def stm0:Stm:=⟨0,[],ex0,0⟩
section
variable (T:List Tok)
def namesP:Nat→PSt→List (List UInt8)→PSt × List (List UInt8)
 | 0,s,acc=>(s,acc)
 | n+1,s,acc=>if isT T s.er s.i sCM=true then namesP n (zbM T (zb4 T sCM s)).1 (acc++[(zbM T (zb4 T sCM s)).2]) else (s,acc)
def zei (s:PSt):PSt × List (List UInt8):=namesP T T.length (zbM T s).1 [(zbM T s).2]
def defP (kind sort pos:Int) (s:PSt):PSt × Stm :=
 let q:=zbM T s
 let r:=conP T (argP T 19) [sort] (zc8 T sAS q.1)
 (r.1,⟨kind,[q.2],r.2,pos⟩)
def stmP (s:PSt):PSt × Stm :=
 let pos:Int:=(zai T s.i).p
 let q:PSt × Stm :=
  if isT T s.er s.i zcr=true then let r:=zei T (zb4 T zcr s);(r.1,⟨1,r.2,ex0,pos⟩)
  else if isT T s.er s.i wLine=true then defP T 3 2 pos (zb4 T wLine s)
  else if isT T s.er s.i zcQ=true then defP T 4 3 pos (zb4 T zcQ s)
  else if isT T s.er s.i zda=true then let r:=conP T (argP T 19) [4] (zb4 T zda s);(r.1,⟨5,[],r.2,pos⟩)
  else if nmT T s.er s.i=true then defP T 2 1 pos s
  else (zbN T 5 s,⟨0,[],ex0,pos⟩)
 (zc8 T sSC q.1,q.2)
def stmsP:Nat→PSt→List Stm→PSt × List Stm
 | 0,s,acc=>(s,acc)
 | n+1,s,acc=>if s.er=0∧¬(zai T s.i).k=0 then stmsP n (stmP T s).1 (acc++[(stmP T s).2]) else (s,acc)
def progP:List Stm × Int × Int :=
 let r:=stmsP T T.length ⟨0,0,0⟩ []
 if r.1.er=0 then (r.2,0,0) else ([],r.1.at',r.1.er)
def zcC:Nat→Nat→List (List UInt8)→Res (List (List UInt8))
 | 0,i,acc=>.er i 5
 | n+1,i,acc=>if nmS T i=false then .er i 5 else if (zai T (i+1)).t≠sCM then .ok (acc++[(zai T i).t]) (i+1) else zcC n (i+2) (acc++[(zai T i).t])
def srtS (kind:Int):Int:=if kind=2 then 1 else if kind=3 then 2 else if kind=4 then 3 else if kind=5 then 4 else 0
def defS (kind:Int) (i:Nat):Res Stm :=
 if kind≠5 then
  (if nmS T i=false then .er i 5 else match zeE T sAS (i+1) with
   | .er j e=>.er j e
   | .ok _ j=>match conS T (argS T 19) (srtS kind) j with
    | .er j e=>.er j e
    | .ok x j=>.ok ⟨kind,[(zai T i).t],x,0⟩ j)
 else match conS T (argS T 19) (srtS kind) i with
  | .er j e=>.er j e
  | .ok x j=>.ok ⟨kind,[],x,0⟩ j
def stmS1 (i:Nat):Res Stm :=
 if (zai T i).t=zcr then (match zcC T T.length (i+1) [] with
  | .er j e=>.er j e
  | .ok l j=>.ok ⟨1,l,ex0,0⟩ j)
 else if (zai T i).t=wLine then defS T 3 (i+1)
 else if (zai T i).t=zcQ then defS T 4 (i+1)
 else if (zai T i).t=zda then defS T 5 (i+1)
 else defS T 2 i
def stmS (i:Nat):Res Stm:=match stmS1 T i with
 | .er j e=>.er j e
 | .ok s j=>match zeE T sSC j with
  | .er j e=>.er j e
  | .ok _ j=>.ok ⟨s.kind,s.names,s.expr,(zai T i).p⟩ j
def stmsS:Nat→Nat→List Stm→Res (List Stm)
 | 0,i,acc=>.ok acc i
 | n+1,i,acc=>if (zai T i).k=0 then .ok acc i else match stmS T i with
  | .er j e=>.er j e
  | .ok s j=>stmsS n j (acc++[s])
def progS:List Stm × Int × Int:=match stmsS T T.length 0 [] with
 | .er j e=>([],(zai T j).p,e)
 | .ok l j=>(l,0,0)
end
section
variable {T:List Tok}
theorem zej {t:List UInt8} {i j:Nat} (h:zeE T t i = .ok () j):j=i+1:=by
 unfold zeE at h
 split at h
 ·cases h
 ·injection h with _ h;exact h.symm
theorem nmS_k {i:Nat} (h:nmS T i=true):(zai T i).k=1:=by
 unfold nmS at h
 simp at h;exact h.1
theorem nameP_T {i:Nat} {a0:Int} (hW:Wf T) (h:nmS T i=true):zbM T ⟨i,a0,0⟩=(⟨i+1,a0,0⟩,(zai T i).t):=by
 unfold zbM;simp only [nm_agr hW,h,if_true]
theorem nameP_F {i:Nat} {a0:Int} (hW:Wf T) (h:nmS T i=false):zbM T ⟨i,a0,0⟩=(⟨i,(zai T i).p,5⟩,[]):=by
 unfold zbM;simp only [nm_agr hW,h];simp [zbN]
theorem namesP_bad:∀ (n:Nat) {s:PSt} (acc:List (List UInt8)),s.er≠0→namesP T n s acc=(s,acc)
 | 0,s,acc,_=>rfl
 | n+1,s,acc,h=>by unfold namesP;rw [isT_bad h];rfl
theorem names_agr (hW:Wf T) {a0:Int}:∀ (n m i:Nat) (acc:List (List UInt8)),T.length≤n+i→T.length≤m+i→Agr T a0 (zcC T (n+1) i acc) (namesP T m (zbM T ⟨i,a0,0⟩).1 (acc++[(zbM T ⟨i,a0,0⟩).2]))
 | n,m,i,acc,hn,hm=>by
  unfold zcC
  cases h:nmS T i with
  | false =>
   rw [nameP_F hW h,if_pos rfl,namesP_bad _ _ (show (5:Int)≠0 by decide)]
   exact ⟨by decide,rfl,rfl⟩
  | true =>
   have hk:=nmS_k h
   have hi:i<T.length:=by
    rcases Nat.lt_or_ge i T.length with h1|h1
    ·exact h1
    ·have:zai T i=default:=by unfold zai;rw [List.getD_eq_getElem?_getD,List.getElem?_eq_none h1];rfl
     rw [this] at hk;cases hk
   rw [nameP_T hW h,if_neg (by decide)]
   simp only
   cases m with
   | zero=>omega
   | succ m =>
    unfold namesP
    simp only [zc0 (a0:=a0) hW (show sCM≠[] by decide)]
    by_cases hc:(zai T (i+1)).t=sCM
    ·rw [if_neg (fun hh=>hh hc),if_pos (by simp [hc])]
     have htk:zb4 T sCM ⟨i+1,a0,0⟩=⟨i+2,a0,0⟩:=by unfold zb4;simp only [zc0 (a0:=a0) hW (show sCM≠[] by decide),hc,decide_true,if_pos]
     rw [htk]
     cases n with
     | zero=>omega
     | succ n=>exact names_agr hW n m (i+2) _ (by omega) (by omega)
    ·rw [if_pos hc,if_neg (by simp [hc])]
     rfl
theorem def_agr (hW:Wf T) {a0 pos:Int} {kind sort:Int} (hk:kind≠5) (hs:srtS kind=sort) (hs2:1≤sort∧sort≤4) (i:Nat):Agr T a0 (match defS T kind i with | .er j e=>.er j e | .ok s j=>.ok ⟨s.kind,s.names,s.expr,pos⟩ j) (defP T kind sort pos ⟨i,a0,0⟩):=by
 unfold defS defP
 rw [if_pos hk]
 cases h:nmS T i with
 | false =>
  rw [nameP_F hW h,if_pos rfl]
  simp only [zcs (T:=T) (t:=sAS) (s:=⟨i,(zai T i).p,5⟩) (show (5:Int)≠0 by decide),conP_bad (T:=T) (s:=⟨i,(zai T i).p,5⟩) (show (5:Int)≠0 by decide)]
  exact ⟨by decide,rfl,rfl⟩
 | true =>
  rw [nameP_T hW h,if_neg (by decide)]
  simp only
  rcases zct (T:=T) sAS (i+1) a0 with ⟨h3,h4⟩|⟨h3,h4⟩
  ·rw [h3,h4]
   simp only
   rw [hs]
   have hk2:zdU T [sort] ⟨i+1+1,a0,0⟩=kofS T (i+1+1) sort:=by
    have:=zeF hW (sort:=sort) (by omega) (i:=i+1+1) (a0:=a0)
    unfold sortL at this
    rwa [if_neg (by omega)] at this
   have h1:=con_agr hW (fun p s h=>by rw [argP_bad h]) (fun p i hp=>arg_agr hW (a0:=a0) 19 p i hp) hk2
   cases hr:conS T (argS T 19) sort (i+1+1) with
   | er j e=>rw [hr] at h1;exact h1
   | ok x j =>
    rw [hr] at h1
    have h2:conP T (argP T 19) [sort] ⟨i+1+1,a0,0⟩=(⟨j,a0,0⟩,x):=h1
    simp only [h2];rfl
  ·rw [h3,h4]
   simp only [conP_bad (T:=T) (s:=⟨i+1,(zai T (i+1)).p,5⟩) (show (5:Int)≠0 by decide)]
   exact ⟨by decide,rfl,rfl⟩
theorem take_eq {t:List UInt8} {i:Nat} {a0:Int} (hW:Wf T) (ht:t≠[]) (h:(zai T i).t=t):zb4 T t ⟨i,a0,0⟩=⟨i+1,a0,0⟩:=by
 unfold zb4;simp only [zc0 (a0:=a0) hW ht,h,decide_true,if_pos]
theorem stm_agr (hW:Wf T) {a0:Int} (i:Nat):Agr T a0 (stmS T i) (stmP T ⟨i,a0,0⟩):=by
 obtain ⟨q,hq⟩:∃ q:PSt × Stm,q=(if isT T 0 i zcr=true then ((zei T (zb4 T zcr ⟨i,a0,0⟩)).1,⟨1,(zei T (zb4 T zcr ⟨i,a0,0⟩)).2,ex0,(zai T i).p⟩)
  else if isT T 0 i wLine=true then defP T 3 2 (zai T i).p (zb4 T wLine ⟨i,a0,0⟩)
  else if isT T 0 i zcQ=true then defP T 4 3 (zai T i).p (zb4 T zcQ ⟨i,a0,0⟩)
  else if isT T 0 i zda=true then ((conP T (argP T 19) [4] (zb4 T zda ⟨i,a0,0⟩)).1,⟨5,[],(conP T (argP T 19) [4] (zb4 T zda ⟨i,a0,0⟩)).2,(zai T i).p⟩)
  else if nmT T 0 i=true then defP T 2 1 (zai T i).p ⟨i,a0,0⟩
  else (zbN T 5 ⟨i,a0,0⟩,⟨0,[],ex0,(zai T i).p⟩)):=⟨_,rfl⟩
 have key:Agr T a0 (match stmS1 T i with | .er j e=>.er j e | .ok s j=>.ok ⟨s.kind,s.names,s.expr,(zai T i).p⟩ j) q:=by
  subst hq
  unfold stmS1
  simp only [zc0 (a0:=a0) hW (show zcr≠[] by decide),zc0 (a0:=a0) hW (show wLine≠[] by decide),zc0 (a0:=a0) hW (show zcQ≠[] by decide),zc0 (a0:=a0) hW (show zda≠[] by decide),decide_eq_true_eq]
  by_cases c1:(zai T i).t=zcr
  ·rw [if_pos c1,if_pos c1,take_eq hW (by decide) c1]
   unfold zei
   have hl:T.length=T.length-1+1:=by have:=hW.pos;omega
   have h1:=names_agr hW (a0:=a0) (T.length-1) T.length (i+1) [] (by omega) (by omega)
   rw [←hl] at h1
   cases hr:zcC T T.length (i+1) [] with
   | er j e=>rw [hr] at h1;exact h1
   | ok l j =>
    rw [hr] at h1
    have h2:namesP T T.length (zbM T ⟨i+1,a0,0⟩).1 ([]++[(zbM T ⟨i+1,a0,0⟩).2])=(⟨j,a0,0⟩,l):=h1
    rw [List.nil_append] at h2
    simp only [h2];rfl
  rw [if_neg c1,if_neg c1]
  by_cases c2:(zai T i).t=wLine
  ·rw [if_pos c2,if_pos c2,take_eq hW (by decide) c2]
   exact def_agr hW (by decide) rfl (by decide) (i+1)
  rw [if_neg c2,if_neg c2]
  by_cases c3:(zai T i).t=zcQ
  ·rw [if_pos c3,if_pos c3,take_eq hW (by decide) c3]
   exact def_agr hW (by decide) rfl (by decide) (i+1)
  rw [if_neg c3,if_neg c3]
  by_cases c4:(zai T i).t=zda
  ·rw [if_pos c4,if_pos c4,take_eq hW (by decide) c4]
   have hk2:zdU T [4] ⟨i+1,a0,0⟩=kofS T (i+1) 4:=zeF hW (sort:=4) (by omega)
   have h1:=con_agr hW (fun p s h=>by rw [argP_bad h]) (fun p i hp=>arg_agr hW (a0:=a0) 19 p i hp) hk2
   unfold defS
   rw [if_neg (by decide)]
   have e4:srtS 5=4:=rfl
   rw [e4]
   cases hr:conS T (argS T 19) 4 (i+1) with
   | er j e=>rw [hr] at h1;exact h1
   | ok x j =>
    rw [hr] at h1
    have h2:conP T (argP T 19) [4] ⟨i+1,a0,0⟩=(⟨j,a0,0⟩,x):=h1
    simp only [h2];rfl
  rw [if_neg c4,if_neg c4,nm_agr hW]
  cases hn:nmS T i with
  | true =>
   rw [if_pos rfl]
   exact def_agr hW (by decide) rfl (by decide) i
  | false =>
   rw [if_neg (by decide)]
   have:defS T 2 i = .er i 5:=by unfold defS;rw [if_pos (by decide),hn,if_pos rfl]
   rw [this]
   exact ⟨by decide,by simp [zbN],by simp [zbN]⟩
 have e:stmP T ⟨i,a0,0⟩=(zc8 T sSC q.1,q.2):=by subst hq;rfl
 rw [e]
 unfold stmS
 cases hr:stmS1 T i with
 | er j e =>
  rw [hr] at key
  obtain ⟨q1,q2,q3⟩:=key
  have hb:=zcs (T:=T) (t:=sSC) (s:=q.1) (by rw [q2];exact q1)
  exact ⟨q1,by simp only [hb];exact q2,by simp only [hb];exact q3⟩
 | ok s j =>
  rw [hr] at key
  have h2:q=(⟨j,a0,0⟩,⟨s.kind,s.names,s.expr,(zai T i).p⟩):=key
  rw [h2]
  simp only
  rcases zct (T:=T) sSC j a0 with ⟨h3,h4⟩|⟨h3,h4⟩
  ·rw [h3,h4];rfl
  ·rw [h3,h4];exact ⟨by decide,rfl,rfl⟩
theorem stmsP_bad:∀ (n:Nat) {s:PSt} (acc:List Stm),s.er≠0→stmsP T n s acc=(s,acc)
 | 0,s,acc,_=>rfl
 | n+1,s,acc,h=>by unfold stmsP;rw [if_neg (fun hh=>h hh.1)]
theorem stms_agr (hW:Wf T):∀ (n i:Nat) (acc:List Stm),Agr T 0 (stmsS T n i acc) (stmsP T n ⟨i,0,0⟩ acc)
 | 0,i,acc=>rfl
 | n+1,i,acc=>by
  unfold stmsS stmsP
  by_cases h0:(zai T i).k=0
  ·rw [if_pos h0,if_neg (fun hh=>hh.2 h0)];rfl
  ·rw [if_neg h0,if_pos ⟨rfl,h0⟩]
   have h1:=stm_agr hW (a0:=0) i
   cases hr:stmS T i with
   | er j e =>
    rw [hr] at h1
    obtain ⟨q1,q2,q3⟩:=h1
    simp only
    rw [stmsP_bad _ _ (by rw [q2];exact q1)]
    exact ⟨q1,q2,q3⟩
   | ok s j =>
    rw [hr] at h1
    have h2:stmP T ⟨i,0,0⟩=(⟨j,0,0⟩,s):=h1
    simp only [h2]
    exact stms_agr hW n j _
theorem prog_eq (hW:Wf T):progP T=progS T:=by
 unfold progP progS
 have h:=stms_agr hW T.length 0 []
 cases hr:stmsS T T.length 0 [] with
 | er j e =>
  rw [hr] at h
  obtain ⟨q1,q2,q3⟩:=h
  simp only [q2,q3]
  rw [if_neg q1]
 | ok l j =>
  rw [hr] at h
  have h2:stmsP T T.length ⟨0,0,0⟩ []=(⟨j,0,0⟩,l):=h
  simp only [h2,if_true]
end
end Go.Proofs.YtefhenfofomjhaaGreat
namespace Go.V
open Go Go.RowKit
def Keep (L:List Addr) (w0 w:World):Prop:=∀ a∈L,w.cell? a=w0.cell? a
@[go_sem] theorem zdc (L:List Addr) (w:World):Keep L w w:=fun _ _=>rfl
theorem Keep.trans {L:List Addr} {w0 w1 w2:World} (h:Keep L w0 w1) (h':Keep L w1 w2):Keep L w0 w2:=fun a ha=>(h' a ha).trans (h a ha)
theorem Keep.below {L:List Addr} {w0 w:World} (hL:∀ a∈L,a.block<w0.heap.size) (h:Below w0.heap.size w0 w):Keep L w0 w:=fun a ha=>World.cell?_of_block (w:=w0) (a:=a) (h.block _ (hL a ha))
theorem Keep.grown {L:List Addr} {w0 w:World} {r:Option Nat} (hL:∀ a∈L,a.block<w0.heap.size∧some a.block≠r) (h:w0.grownBy w r):Keep L w0 w:=fun a ha=>World.cell?_of_block (w:=w0) (a:=a) (h.block _ (hL a ha).1 (hL a ha).2)
def ldK (L:List Addr):Option Nat→Value→Prop
 | none,.pointer (some a)=>a∈L
 | _,_=>False
@[go_sem] theorem ldK_one (L:List Addr) (a:Addr):ldK L none (.pointer (some a))=(a∈L):=rfl
def ldOk (P:Program) (L:List Addr) (ev:Operand→Value):Op→Prop
 | .load t x=>ldK L (aggT P t) (ev x)
 | _=>True
def outS:Option (Value × Prop)→Prop
 | some p=>p.2
 | none=>False
@[go_sem] theorem outS_some (v:Value) (p:Prop):outS (some (v,p))=p:=rfl
def lokS (P:Program) (L:List Addr) (w0:World) (ev:Operand→Value) (op:Op):Prop:=outS (lc P w0 ev op)∧ldOk P L ev op
section
variable {P:Program} {L:List Addr} {w0 w:World} {ev:Operand→Value} {ty:TypeId}
theorem lc_world (op:Op) (h:∀ t x,op≠.load t x):lc P w ev op=lc P w0 ev op:=by
 cases op<;>first
  | rfl
  | exact absurd rfl (h _ _)
  | (
    rename_i c
    obtain ⟨cal,args,ts⟩:=c
    cases cal<;>first
     | rfl
     | (rename_i bi;cases bi<;>rfl))
theorem lokS_sound {op:Op} (h:lokS P L w0 ev op) (hk:Keep L w0 w):zcP P w ev ty op=some (.value (lvO P w0 ev ty op)):=by
 obtain ⟨h1,h2⟩:=h
 cases hp:lc P w0 ev op with
 | none=>rw [hp] at h1;exact h1.elim
 | some p =>
  rw [hp] at h1
  have hv:lvO P w0 ev ty op=p.1:=by unfold lvO;rw [hp]
  rw [hv]
  by_cases hl:∃ t x,op = .load t x
  ·obtain ⟨t,x,rfl⟩:=hl
   simp only [ldOk] at h2
   rw [lc_load] at hp
   cases ha:aggT P t with
   | some n=>rw [ha] at h2;exact h2.elim
   | none =>
    rw [ha] at h2 hp
    cases hx:ev x with
    | pointer o =>
     cases o with
     | none=>rw [hx] at h2;exact h2.elim
     | some a =>
      rw [hx] at h2 hp
      rw [ldC_one] at hp
      injection hp with hp
      subst hp
      have h3:w.cell? a=w0.cell? a:=hk a h2
      have h4:(w0.cell? a).isSome=true:=h1
      have h5:=sound_load1 (P:=P) (ty:=ty) hx ha (w:=w) (by rw [h3];exact h4)
      rw [h5]
      simp only [cellV,h3]
    | _=>rw [hx] at h2;exact h2.elim
  ·rw [←lc_world (w:=w) op (fun t x e=>hl ⟨t,x,e⟩)] at hp
   exact sound_lc hp h1
end
section
variable {P:Program} {n:Nat} {md:Region.Mode} {ops:Array Oper} {tm:Nat→Bool} {w0:World} {L:List Addr}
def opK (P:Program) (ops:Array Oper) (tm:Nat→Bool) (L:List Addr) (w0:World) (i:Nat) (K:Act→World→Prop) (a:Act) (w:World):Prop :=
 match ops[i]? with
 | none=>K a w
 | some o=>if Region.wanted o (yielded ops a.tmps)=true then hwp P a.eval o w (fun v w'=>(tm i=true→Keep L w0 w')∧K (a.put o.dst v) w') else K (a.put o.dst undef) w
theorem opK_mono {i:Nat} {K K':Act→World→Prop} {a:Act} {w:World} (h:∀ a w,K a w→K' a w) (hh:opK P ops tm L w0 i K a w):opK P ops tm L w0 i K' a w:=by
 unfold opK at *
 split
 ·rename_i ho;simp only [ho] at hh;exact h _ _ hh
 ·rename_i o ho
  simp only [ho] at hh
  split
  ·rename_i hw;rw [if_pos hw] at hh;exact zbA (fun v w' ⟨h1,h2⟩=>⟨h1,h _ _ h2⟩) hh
  ·rename_i hw;rw [if_neg hw] at hh;exact h _ _ hh
def anyK (P:Program) (md:Region.Mode) (ops:Array Oper) (tm:Nat→Bool) (L:List Addr) (w0:World) (Q:Act→World→Prop):Nat→Array Bool→Act→World→Prop
 | 0,listed,a,w=>Region.ready md ops listed=[]∧Q a w
 | fuel+1,listed,a,w=>(Region.ready md ops listed=[]→Q a w)∧∀ i∈Region.ready md ops listed,opK P ops tm L w0 i (anyK P md ops tm L w0 Q fuel (listed.setIfInBounds i true)) a w
theorem zdd {Q:Act→World→Prop} {Q':Exit→Act→World→Prop} (hQ:∀ a w,Q a w→Q' .normal a w):∀ (fuel:Nat) (listed:Array Bool) (a:Act) (w:World),anyK P md ops tm L w0 Q fuel listed a w→wpAny P md ops Q' fuel listed a w
 | 0,_,_,_,h=>⟨h.1,hQ _ _ h.2⟩
 | fuel+1,listed,a,w,h=>by
  refine ⟨fun h0=>hQ _ _ (h.1 h0),fun i hi=>?_⟩
  have hi':=h.2 i hi
  unfold opK at hi'
  unfold wpOp
  split
  ·rename_i ho;simp only [ho] at hi';exact zdd hQ fuel _ _ _ hi'
  ·rename_i o ho
   simp only [ho] at hi'
   split
   ·rename_i hw
    rw [if_pos hw] at hi'
    exact .inl (ze5 (zbA (fun v w' ⟨_,h2⟩=>zdd hQ fuel _ _ _ h2) hi'))
   ·rename_i hw;rw [if_neg hw] at hi';exact zdd hQ fuel _ _ _ hi'
def YieldsK (P:Program) (ops:Array Oper) (L:List Addr) (w0:World) (o:Oper) (v:Value) (a:Act):Prop :=
 (Region.wanted o (yielded ops a.tmps)=true∧∀ w,Keep L w0 w→zb1 P (execOp a.eval o) w=some (.value v))∨(Region.wanted o (yielded ops a.tmps)=false∧v=undef)
theorem YieldsK.opK {i:Nat} {o:Oper} {v:Value} {a:Act} {w:World} (hi:ops[i]? = some o) (hy:YieldsK P ops L w0 o v a) (hb:Keep L w0 w) {K:Act→World→Prop} (h:K (a.put o.dst v) w):opK P ops tm L w0 i K a w:=by
 unfold Go.V.opK
 simp only [hi]
 rcases hy with ⟨hw,hv⟩|⟨hw,rfl⟩
 ·rw [if_pos hw]
  unfold hwp
  rw [tame_run _ _ _ _ (hv w hb)]
  exact ⟨fun _=>hb,h⟩
 ·rw [if_neg (by simp [hw])];exact h
theorem YieldsK.put {oi oj:Oper} {v u:Value} {a:Act} (hy:YieldsK P ops L w0 oi v a) (hs:∀ cs b,oi.op≠.select cs b) (h3:∀ d,oj.dst=some d→d∉oi.looksAt ops) :
  YieldsK P ops L w0 oi v (a.put oj.dst u):=by
 unfold YieldsK at *
 rw [wanted_put oi a oj.dst u h3,execOp_put oi hs a oj.dst u h3]
 exact hy
theorem opK_put {j:Nat} {oi oj:Oper} {v:Value} (hj:ops[j]? = some oj) (hap:oi.apart ops oj=true) (hsi:∀ cs b,oi.op≠.select cs b) (hsj:∀ cs b,oj.op≠.select cs b) (htm:tm j=true)
  {K:Act→World→Prop} {a:Act} {w:World} (hb:Keep L w0 w) (hy:YieldsK P ops L w0 oi v a) (h:opK P ops tm L w0 j K (a.put oi.dst v) w) :
  opK P ops tm L w0 j (fun a' w'=>(YieldsK P ops L w0 oi v a'∧Keep L w0 w')∧K (a'.put oi.dst v) w') a w:=by
 obtain ⟨h1,h2,h3⟩:=Oper.apart_spec hap
 unfold opK at *
 simp only [hj] at *
 rw [wanted_put oj a oi.dst v h1] at h
 split
 ·rename_i hw
  rw [if_pos hw] at h
  unfold hwp at h ⊢
  rw [execOp_put oj hsj a oi.dst v h1] at h
  revert h
  generalize (execOp a.eval oj).run P w=r
  intro h
  cases r with
  | ok n w' =>
   cases n<;>first
    | exact h.elim
    | (exact ⟨h.1,⟨hy.put hsi h3,h.1 htm⟩,by rw [←Act.put_comm a _ _ h2];exact h.2⟩)
    | (exact Calls.mono h (fun e w'' ⟨u,he,hk⟩=>⟨u,he,hk.1,⟨hy.put hsi h3,hk.1 htm⟩,by rw [←Act.put_comm a _ _ h2];exact hk.2⟩))
  | halt x w'=>exact h.elim
 ·rename_i hw
  rw [if_neg hw] at h
  exact ⟨⟨hy.put hsi h3,hb⟩,by rw [←Act.put_comm a _ _ h2];exact h⟩
theorem anyK_first {Q:Act→World→Prop} {i:Nat} {oi:Oper} {v:Value} (hi:ops[i]? = some oi) (hsel:∀ (j:Nat) (o:Oper) cs b,ops[j]? = some o→o.op≠.select cs b) (M:List Nat) :
  ∀ (fuel:Nat) (listed:Array Bool) (a:Act) (w:World),
   (∀ j oj,ops[j]? = some oj→j≠i→listed.getD j true=false→j∉M→oi.apart ops oj=true∧tm j=true) →
   (∀ j∈M,listed.getD j false=false∧∃ oj e,ops[j]? = some oj∧e∈oj.after∧Region.binds md e=true∧(e.on=i∨e.on∈M)) →
   i∈Region.ready md ops listed→YieldsK P ops L w0 oi v a→Keep L w0 w →
   anyK P md ops tm L w0 Q fuel (listed.setIfInBounds i true) (a.put oi.dst v) w→anyK P md ops tm L w0 Q (fuel+1) listed a w:=by
 intro fuel
 induction fuel with
 | zero =>
  intro listed a w _ _ hr hy hb H
  refine ⟨fun h=>(by rw [h] at hr;cases hr),fun j hj=>?_⟩
  by_cases hji:j=i
  ·subst hji;exact hy.opK hi hb H
  ·have:=ready_mono hj hji
   rw [H.1] at this
   cases this
 | succ fuel ih =>
  intro listed a w hfree hM hr hy hbw H
  refine ⟨fun h=>(by rw [h] at hr;cases hr),fun j hj=>?_⟩
  by_cases hji:j=i
  ·subst hji;exact hy.opK hi hbw H
  ·have h1:=H.2 j (ready_mono hj hji)
   obtain ⟨hjun,oj,hoj,hall⟩:=mem_ready.1 hj
   have hiun:listed.getD i false=false:=by
    have h0:=(mem_ready.1 hr).1
    rcases Nat.lt_or_ge i listed.size with h'|h'
    ·simp [h'] at h0 ⊢;exact h0
    ·simp [Array.getElem?_eq_none h'] at h0
   have hjM:j∉M:=fun hm=>by
    obtain ⟨_,oj',e,ho',he,hb,hon⟩:=hM j hm
    rw [hoj] at ho'
    injection ho' with ho'
    subst ho'
    have hl:=hall e he hb
    rcases hon with hon|hon
    ·rw [hon,hiun] at hl;cases hl
    ·rw [(hM _ hon).1] at hl;cases hl
   obtain ⟨hap,htm⟩:=hfree j oj hoj hji hjun hjM
   have h2:=opK_put hoj hap (fun cs b=>hsel i oi cs b hi) (fun cs b=>hsel j oj cs b hoj) htm hbw hy h1
   refine opK_mono (fun a' w' h3=>ih (listed.setIfInBounds j true) a' w' ?_ ?_ (ready_mono hr (Ne.symm hji)) h3.1.1 h3.1.2 ?_) h2
   ·intro k ok hk hki hun hkM
    refine hfree k ok hk hki ?_ hkM
    by_cases hjk:j=k
    ·subst hjk;exact hjun
    ·rw [getD_set_ne true hjk] at hun;exact hun
   ·intro k hk
    obtain ⟨hk1,hk2⟩:=hM k hk
    refine ⟨?_,hk2⟩
    have hne:j≠k:=fun e=>hjM (e▸hk)
    rw [getD_set_ne false hne];exact hk1
   ·rw [Array.setIfInBounds_comm _ _ hji]
    exact h3.2
def zek (P:Program) (ops:Array Oper) (L:List Addr) (w0:World):List (Nat × Nat)→G→World→(G→World→Prop)→Prop
 | [],g,w,K=>K g w
 | (i,0)::rest,g,w,K=>match ops[i]? with
  | none=>False
  | some o=>Keep L w0 w∧(Region.wanted o (yG ops g)=true→lokS P L w0 (evG g) o.op) ∧
    zek P ops L w0 rest (zci g o.dst (if Region.wanted o (yG ops g)=true then lvO P w0 (evG g) o.type o.op else undef)) w K
 | (i,k+1)::rest,g,w,K=>hvI P ops ops[i]? 1 (fun g' w'=>(k=0→Keep L w0 w')∧zek P ops L w0 rest g' w' K) g w
theorem zdW (hok:zem n ops=true) {K:G→World→Prop} {Q:Act→World→Prop} (hQ:∀ g a w,Rel n g a→K g w→Q a w) :
  ∀ (plan:List (Nat × Nat)) (listed:Array Bool) (g:G) (a:Act) (w:World),(∀ p∈plan,2≤p.2→tm p.1=false)→canB md ops tm plan listed=true→Rel n g a→zek P ops L w0 plan g w K→anyK P md ops tm L w0 Q plan.length listed a w
 | [],listed,g,a,w,_,hB,hr,h=>⟨by simpa [canB] using hB,hQ _ _ _ hr h⟩
 | (i,0)::rest,listed,g,a,w,hp,hB,hr,h=>by
  simp only [canB,Bool.and_eq_true] at hB
  obtain ⟨⟨hrd,hf⟩,hB'⟩:=hB
  simp only [zek] at h
  cases ho:ops[i]? with
  | none=>simp [ho] at h
  | some o =>
   simp only [ho] at h
   obtain ⟨hk,h1,h2⟩:=h
   have hd:=(zb5 hok ho).2.1
   obtain ⟨f1,f2⟩:=zdZ ho hf
   refine anyK_first (v:=if Region.wanted o (yG ops g)=true then lvO P w0 (evG g) o.type o.op else undef) ho (fun j o cs b hj=>(zb5 hok hj).2.2 cs b) _ rest.length listed a w f1 f2 (by simpa using hrd) ?_ hk ?_
   ·unfold YieldsK
    rw [zcv hr hok o,zcw hr hok ho]
    cases hw:Region.wanted o (yG ops g)
    ·exact .inr ⟨rfl,by simp⟩
    ·exact .inl ⟨rfl,fun w' hk'=>by rw [if_pos rfl];exact lokS_sound (ty:=o.type) (h1 hw) hk'⟩
   ·exact zdW hok hQ rest _ _ _ w (fun p hm=>hp p (List.mem_cons_of_mem _ hm)) hB' (hr.put o.dst hd _) h2
 | (i,k+1)::rest,listed,g,a,w,hp,hB,hr,h=>by
  simp only [canB,Bool.and_eq_true,beq_iff_eq] at hB
  obtain ⟨hrd,hB'⟩:=hB
  have hk:tm i=true→k=0:=fun ht=>by
   rcases Nat.eq_zero_or_pos k with h|h
   ·exact h
   ·have:=hp (i,k+1) List.mem_cons_self (by show 2≤k+1;omega)
    rw [this] at ht;cases ht
  refine ⟨fun h0=>(by rw [hrd] at h0;cases h0),fun j hj=>?_⟩
  rw [hrd] at hj
  have hji:j=i:=by simpa using hj
  subst hji
  simp only [zek] at h
  unfold opK
  cases ho:ops[j]? with
  | none=>simp [ho,hvI] at h
  | some o =>
   simp only [ho,zdP,hvX] at h
   simp only []
   have hd:=(zb5 hok ho).2.1
   have step:∀ g' a' w',Rel n g' a'→((k=0→Keep L w0 w')∧zek P ops L w0 rest g' w' K)→(tm j=true→Keep L w0 w')∧anyK P md ops tm L w0 Q rest.length (listed.setIfInBounds j true) a' w':=by
    rintro g' a' w' hr' ⟨q1,q2⟩
    refine ⟨fun ht=>q1 (hk ht),?_⟩
    exact zdW hok hQ rest _ _ _ w' (fun p hm=>hp p (List.mem_cons_of_mem _ hm)) hB' hr' q2
   rw [zcv hr hok o]
   split
   ·rename_i hw
    rw [if_pos hw] at h
    unfold hwp at h ⊢
    rw [zcw hr hok ho]
    exact zbA (K:=fun v w'=>(1=0→Below w.heap.size w w')∧(k=0→Keep L w0 w')∧zek P ops L w0 rest (zci g o.dst v) w' K) (fun v w' ⟨_,h1⟩=>step _ _ _ (hr.put o.dst hd v) h1) h
   ·rename_i hw
    rw [if_neg hw] at h
    exact (step _ _ _ (hr.put o.dst hd _) h).2
theorem zeJ (L:List Addr) (plan:List (Nat × Nat)) {id:Nat} {ops:Array Oper} {Q:Exit→G→World→Prop} {g:G} {w:World} (hm:P.follows .mixedOrders=true) (hB:drawOk n ops plan=true)
  (h:∀ K:G→World→Prop,(∀ g w,Q .normal g w→K g w)→zek P ops L w.drew plan g w.drew K):W P n (.region id ops true) Q g w:=by
 simp only [drawOk,Bool.and_eq_true,beq_iff_eq] at hB
 obtain ⟨⟨hok,hl⟩,hB⟩:=hB
 intro a hr
 refine wp_region_any hm ?_
 have hw:=h _ (fun _ _ h=>h)
 have hany:=zdW hok (tm:=fun i=>!wildOf plan i) (Q:=fun a w=>∃ g',Rel n g' a∧Q .normal g' w) (fun g a w hr hk=>⟨g,hr,hk⟩) plan _ g a _ (wildOf_spec plan) hB hr hw
 rw [hl] at hany
 exact zdd (fun a w h=>h) _ _ _ _ hany
theorem W_rdS (L:List Addr) (plan:List (Nat × Nat)) {id:Nat} {ops:Array Oper} {y:Code} {Q:Exit→G→World→Prop} {g:G} {w:World} (hm:P.follows .mixedOrders=true) (hB:drawOk n ops plan=true)
  (h:∀ K:G→World→Prop,(∀ g w,W P n y Q g w→K g w)→zek P ops L w.drew plan g w.drew K):W P n (.seq (.region id ops true) y) Q g w :=
 zab (fun K1 h1=>zeJ L plan hm hB (fun K2 h2=>h K2 (fun g w hy=>h2 g w (h1 g w hy))))
section
variable {g:G} {w:World} {K:G→World→Prop} {rest:List (Nat × Nat)} {i:Nat}
def nxS (P:Program) (ops:Array Oper) (L:List Addr) (w0:World) (k:Nat) (rest:List (Nat × Nat)) (K:G→World→Prop):G→World→Prop:=fun g' w'=>(k=0→Keep L w0 w')∧zek P ops L w0 rest g' w' K
theorem zbb {k:Nat} {g':G} {w':World} (h1:Keep L w0 w') (h2:zek P ops L w0 rest g' w' K):nxS P ops L w0 k rest K g' w':=⟨fun _=>h1,h2⟩
theorem zde {g':G} {w':World} (h2:zek P ops L w0 rest g' w' K):nxS P ops L w0 1 rest K g' w':=⟨fun h=>absurd h (by decide),h2⟩
@[go_sem] theorem walkS_nil:zek P ops L w0 [] g w K=K g w:=rfl
def lightS (P:Program) (ops:Array Oper) (L:List Addr) (w0:World) (o:Option Oper) (rest:List (Nat × Nat)) (g:G) (w:World) (K:G→World→Prop):Prop:=match o with
 | none=>False
 | some ⟨d,op,ty,_,_,none⟩=>Keep L w0 w∧lokS P L w0 (evG g) op∧zek P ops L w0 rest (zci g d (lvO P w0 (evG g) ty op)) w K
 | some ⟨d,op,ty,_,_,some (j,b)⟩=>Keep L w0 w∧(gw (zdy ops[j]?) g b=true→lokS P L w0 (evG g) op) ∧
   zek P ops L w0 rest (zci g d (if gw (zdy ops[j]?) g b=true then lvO P w0 (evG g) ty op else undef)) w K
theorem walkS_light' (o:Option Oper) (h:ops[i]? = o):zek P ops L w0 ((i,0)::rest) g w K=lightS P ops L w0 o rest g w K:=by
 subst h
 simp only [zek]
 cases ops[i]? with
 | none=>rfl
 | some o =>
  obtain ⟨d,op,ty,pos,af,gd⟩:=o
  cases gd with
  | none=>simp [lightS,Region.wanted]
  | some jb =>
   obtain ⟨j,b⟩:=jb
   have e:Region.wanted ⟨d,op,ty,pos,af,some (j,b)⟩ (yG ops g)=gw (zdy ops[j]?) g b:=want_eq j b
   simp only [e,lightS]
@[go_sem] theorem walkS_light:zek P ops L w0 ((i,0)::rest) g w K=lightS P ops L w0 (ops[i]?) rest g w K:=walkS_light' _ rfl
@[go_sem] theorem walkS_heavy1:zek P ops L w0 ((i,1)::rest) g w K=hvI P ops (ops[i]?) 1 (nxS P ops L w0 0 rest K) g w:=rfl
@[go_sem] theorem walkS_heavy2:zek P ops L w0 ((i,2)::rest) g w K=hvI P ops (ops[i]?) 1 (nxS P ops L w0 1 rest K) g w:=rfl
@[go_sem] theorem lightS_plain (d:Option Nat) (op:Op) (ty:TypeId) (pos:String) (af:Array Edge) :
  lightS P ops L w0 (some ⟨d,op,ty,pos,af,none⟩) rest g w K=(Keep L w0 w∧lokS P L w0 (evG g) op∧zek P ops L w0 rest (zci g d (lvO P w0 (evG g) ty op)) w K):=rfl
@[go_sem] theorem lightS_guard (d:Option Nat) (op:Op) (ty:TypeId) (pos:String) (af:Array Edge) (j:Nat) (b:Bool) :
  lightS P ops L w0 (some ⟨d,op,ty,pos,af,some (j,b)⟩) rest g w K=(Keep L w0 w∧(gw (zdy ops[j]?) g b=true→lokS P L w0 (evG g) op) ∧
   zek P ops L w0 rest (zci g d (if gw (zdy ops[j]?) g b=true then lvO P w0 (evG g) ty op else undef)) w K):=rfl
section
variable (x y z:Operand) (t u:TypeId) (o:BinOp) (q:UnOp) (f:Nat) (ev:Operand→Value)
@[go_sem] theorem lokS_load:lokS P L w0 ev (.load t x)=(outS (lc P w0 ev (.load t x))∧ldK L (aggT P t) (ev x)):=rfl
@[go_sem] theorem lokS_move:lokS P L w0 ev (.move x)=True:=by simp [lokS,ldOk,lc,outS]
@[go_sem] theorem lokS_assign:lokS P L w0 ev (.assign x)=True:=by simp [lokS,ldOk,lc,outS]
@[go_sem] theorem lokS_bin:lokS P L w0 ev (.binOp o t x y u)=outS (binC P o t (ev x) (ev y)):=by simp [lokS,ldOk,lc]
@[go_sem] theorem lokS_nil:lokS P L w0 ev (.nilCheck x)=outS (nilC (ev x)):=by
 have:lc P w0 ev (.nilCheck x)=nilC (ev x):=rfl
 simp [lokS,ldOk,this]
@[go_sem] theorem lokS_fa:lokS P L w0 ev (.fieldAddr t x f)=outS (faC (zen P t f) (ev x)):=by
 have:lc P w0 ev (.fieldAddr t x f)=faC (zen P t f) (ev x):=rfl
 simp [lokS,ldOk,this]
@[go_sem] theorem lokS_ia:lokS P L w0 ev (.indexAddr t x y)=outS (iaC (slE P t) (ev x) (ev y)):=by
 have:lc P w0 ev (.indexAddr t x y)=iaC (slE P t) (ev x) (ev y):=rfl
 simp [lokS,ldOk,this]
@[go_sem] theorem lokS_ex:lokS P L w0 ev (.extract x f)=outS (exC f (ev x)):=by
 have:lc P w0 ev (.extract x f)=exC f (ev x):=by rw [lc_extract]
 simp [lokS,ldOk,this]
end
end
end
end Go.V
