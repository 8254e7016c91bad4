/- The lexer, seventh part: what the statements' own functions compute; LexerPrefixes. -/
import Derived.Test.YtefhenfofomjhaaPp2
import Derived.Test.YtefhenfofomjhaaIc2
import Derived.Test.YtefhenfofomjhaaPt2
import Derived.Test.YtefhenfofomjhaaIn9
set_option linter.unusedSimpArgs false
set_option linter.unusedVariables false
namespace Go.Proofs.Ytefhenfofomjhaa
open Go Go.RowKit Go.V
structure Stm where
 kind:Int
 names:List (List UInt8)
 expr:Tre
 pos:Int
section
variable (T:List Tok)
def namesP:Nat→PSt→List (List UInt8)→PSt × List (List UInt8)
 | 0,s,acc=>(s,acc)
 | n+1,s,acc=>if isT T s.er s.i sCM=true then namesP n (zb7 T (zaL T sCM s)).1 (acc++[(zb7 T (zaL T sCM s)).2]) else (s,acc)
def zdA (s:PSt):PSt × List (List UInt8):=namesP T T.length (zb7 T s).1 [(zb7 T s).2]
def defP (kind sort pos:Int) (s:PSt):PSt × Stm :=
 let q:=zb7 T s
 let r:=conP T (argP T 19) [sort] (zbv T sAS q.1)
 (r.1,⟨kind,[q.2],r.2,pos⟩)
def stmP (s:PSt):PSt × Stm :=
 let pos:Int:=(zal T s.i).p
 let q:PSt × Stm :=
  if isT T s.er s.i zbV=true then let r:=zdA T (zaL T zbV s);(r.1,⟨1,r.2,ex0,pos⟩)
  else if isT T s.er s.i wLine=true then defP T 3 2 pos (zaL T wLine s)
  else if isT T s.er s.i zco=true then defP T 4 3 pos (zaL T zco s)
  else if isT T s.er s.i zcz=true then let r:=conP T (argP T 19) [4] (zaL T zcz s);(r.1,⟨5,[],r.2,pos⟩)
  else if nmT T s.er s.i=true then defP T 2 1 pos s
  else (zb8 T 5 s,⟨0,[],ex0,pos⟩)
 (zbv T sSC q.1,q.2)
def stmsP:Nat→PSt→List Stm→PSt × List Stm
 | 0,s,acc=>(s,acc)
 | n+1,s,acc=>if s.er=0∧¬(zal T s.i).k=0 then stmsP n (stmP T s).1 (acc++[(stmP T s).2]) else (s,acc)
def progP:List Stm × Int × Int :=
 let r:=stmsP T T.length ⟨0,0,0⟩ []
 if r.1.er=0 then (r.2,0,0) else ([],r.1.at',r.1.er)
def zcp:Nat→Nat→List (List UInt8)→Res (List (List UInt8))
 | 0,i,acc=>.er i 5
 | n+1,i,acc=>if nmS T i=false then .er i 5 else if (zal T (i+1)).t≠sCM then .ok (acc++[(zal T i).t]) (i+1) else zcp n (i+2) (acc++[(zal T i).t])
def srtS (kind:Int):Int:=if kind=2 then 1 else if kind=3 then 2 else if kind=4 then 3 else if kind=5 then 4 else 0
def defS (kind:Int) (i:Nat):Res Stm :=
 if kind≠5 then
  (if nmS T i=false then .er i 5 else match expS T sAS (i+1) with
   | .er j e=>.er j e
   | .ok _ j=>match conS T (argS T 19) (srtS kind) j with
    | .er j e=>.er j e
    | .ok x j=>.ok ⟨kind,[(zal T i).t],x,0⟩ j)
 else match conS T (argS T 19) (srtS kind) i with
  | .er j e=>.er j e
  | .ok x j=>.ok ⟨kind,[],x,0⟩ j
def stmS1 (i:Nat):Res Stm :=
 if (zal T i).t=zbV then (match zcp T T.length (i+1) [] with
  | .er j e=>.er j e
  | .ok l j=>.ok ⟨1,l,ex0,0⟩ j)
 else if (zal T i).t=wLine then defS T 3 (i+1)
 else if (zal T i).t=zco then defS T 4 (i+1)
 else if (zal T i).t=zcz then defS T 5 (i+1)
 else defS T 2 i
def stmS (i:Nat):Res Stm:=match stmS1 T i with
 | .er j e=>.er j e
 | .ok s j=>match expS T sSC j with
  | .er j e=>.er j e
  | .ok _ j=>.ok ⟨s.kind,s.names,s.expr,(zal T i).p⟩ j
def stmsS:Nat→Nat→List Stm→Res (List Stm)
 | 0,i,acc=>.ok acc i
 | n+1,i,acc=>if (zal T i).k=0 then .ok acc i else match stmS T i with
  | .er j e=>.er j e
  | .ok s j=>stmsS n j (acc++[s])
def progS:List Stm × Int × Int:=match stmsS T T.length 0 [] with
 | .er j e=>([],(zal T j).p,e)
 | .ok l j=>(l,0,0)
end
section
variable {T:List Tok}
theorem zd3 {t:List UInt8} {i j:Nat} (h:expS T t i = .ok () j):j=i+1:=by
 unfold expS at h
 split at h
 ·cases h
 ·injection h with _ h;exact h.symm
theorem nmS_k {i:Nat} (h:nmS T i=true):(zal T i).k=1:=by
 unfold nmS at h
 simp at h;exact h.1
theorem nameP_T {i:Nat} {a0:Int} (hW:Wf T) (h:nmS T i=true):zb7 T ⟨i,a0,0⟩=(⟨i+1,a0,0⟩,(zal T i).t):=by
 unfold zb7;simp only [nm_agr hW,h,if_true]
theorem nameP_F {i:Nat} {a0:Int} (hW:Wf T) (h:nmS T i=false):zb7 T ⟨i,a0,0⟩=(⟨i,(zal T i).p,5⟩,[]):=by
 unfold zb7;simp only [nm_agr hW,h];simp [zb8]
theorem namesP_bad:∀ (n:Nat) {s:PSt} (acc:List (List UInt8)),s.er≠0→namesP T n s acc=(s,acc)
 | 0,s,acc,_=>rfl
 | n+1,s,acc,h=>by unfold namesP;rw [isT_bad h];rfl
theorem names_agr (hW:Wf T) {a0:Int}:∀ (n m i:Nat) (acc:List (List UInt8)),T.length≤n+i→T.length≤m+i→Agr T a0 (zcp T (n+1) i acc) (namesP T m (zb7 T ⟨i,a0,0⟩).1 (acc++[(zb7 T ⟨i,a0,0⟩).2]))
 | n,m,i,acc,hn,hm=>by
  unfold zcp
  cases h:nmS T i with
  | false =>
   rw [nameP_F hW h,if_pos rfl,namesP_bad _ _ (show (5:Int)≠0 by decide)]
   exact ⟨by decide,rfl,rfl⟩
  | true =>
   have hk:=nmS_k h
   have hi:i<T.length:=by
    rcases Nat.lt_or_ge i T.length with h1|h1
    ·exact h1
    ·have:zal T i=default:=by unfold zal;rw [List.getD_eq_getElem?_getD,List.getElem?_eq_none h1];rfl
     rw [this] at hk;cases hk
   rw [nameP_T hW h,if_neg (by decide)]
   simp only
   cases m with
   | zero=>omega
   | succ m =>
    unfold namesP
    simp only [zbg (a0:=a0) hW (show sCM≠[] by decide)]
    by_cases hc:(zal T (i+1)).t=sCM
    ·rw [if_neg (fun hh=>hh hc),if_pos (by simp [hc])]
     have htk:zaL T sCM ⟨i+1,a0,0⟩=⟨i+2,a0,0⟩:=by unfold zaL;simp only [zbg (a0:=a0) hW (show sCM≠[] by decide),hc,decide_true,if_pos]
     rw [htk]
     cases n with
     | zero=>omega
     | succ n=>exact names_agr hW n m (i+2) _ (by omega) (by omega)
    ·rw [if_pos hc,if_neg (by simp [hc])]
     rfl
theorem def_agr (hW:Wf T) {a0 pos:Int} {kind sort:Int} (hk:kind≠5) (hs:srtS kind=sort) (hs2:1≤sort∧sort≤4) (i:Nat):Agr T a0 (match defS T kind i with | .er j e=>.er j e | .ok s j=>.ok ⟨s.kind,s.names,s.expr,pos⟩ j) (defP T kind sort pos ⟨i,a0,0⟩):=by
 unfold defS defP
 rw [if_pos hk]
 cases h:nmS T i with
 | false =>
  rw [nameP_F hW h,if_pos rfl]
  simp only [zbI (T:=T) (t:=sAS) (s:=⟨i,(zal T i).p,5⟩) (show (5:Int)≠0 by decide),conP_bad (T:=T) (s:=⟨i,(zal T i).p,5⟩) (show (5:Int)≠0 by decide)]
  exact ⟨by decide,rfl,rfl⟩
 | true =>
  rw [nameP_T hW h,if_neg (by decide)]
  simp only
  rcases zcW (T:=T) sAS (i+1) a0 with ⟨h3,h4⟩|⟨h3,h4⟩
  ·rw [h3,h4]
   simp only
   rw [hs]
   have hk2:zda T [sort] ⟨i+1+1,a0,0⟩=kofS T (i+1+1) sort:=by
    have:=kind_agr hW (sort:=sort) (by omega) (i:=i+1+1) (a0:=a0)
    unfold sortL at this
    rwa [if_neg (by omega)] at this
   have h1:=con_agr hW (fun p s h=>by rw [argP_bad h]) (fun p i hp=>arg_agr hW (a0:=a0) 19 p i hp) hk2
   cases hr:conS T (argS T 19) sort (i+1+1) with
   | er j e=>rw [hr] at h1;exact h1
   | ok x j =>
    rw [hr] at h1
    have h2:conP T (argP T 19) [sort] ⟨i+1+1,a0,0⟩=(⟨j,a0,0⟩,x):=h1
    simp only [h2];rfl
  ·rw [h3,h4]
   simp only [conP_bad (T:=T) (s:=⟨i+1,(zal T (i+1)).p,5⟩) (show (5:Int)≠0 by decide)]
   exact ⟨by decide,rfl,rfl⟩
theorem take_eq {t:List UInt8} {i:Nat} {a0:Int} (hW:Wf T) (ht:t≠[]) (h:(zal T i).t=t):zaL T t ⟨i,a0,0⟩=⟨i+1,a0,0⟩:=by
 unfold zaL;simp only [zbg (a0:=a0) hW ht,h,decide_true,if_pos]
theorem stm_agr (hW:Wf T) {a0:Int} (i:Nat):Agr T a0 (stmS T i) (stmP T ⟨i,a0,0⟩):=by
 obtain ⟨q,hq⟩:∃ q:PSt × Stm,q=(if isT T 0 i zbV=true then ((zdA T (zaL T zbV ⟨i,a0,0⟩)).1,⟨1,(zdA T (zaL T zbV ⟨i,a0,0⟩)).2,ex0,(zal T i).p⟩)
  else if isT T 0 i wLine=true then defP T 3 2 (zal T i).p (zaL T wLine ⟨i,a0,0⟩)
  else if isT T 0 i zco=true then defP T 4 3 (zal T i).p (zaL T zco ⟨i,a0,0⟩)
  else if isT T 0 i zcz=true then ((conP T (argP T 19) [4] (zaL T zcz ⟨i,a0,0⟩)).1,⟨5,[],(conP T (argP T 19) [4] (zaL T zcz ⟨i,a0,0⟩)).2,(zal T i).p⟩)
  else if nmT T 0 i=true then defP T 2 1 (zal T i).p ⟨i,a0,0⟩
  else (zb8 T 5 ⟨i,a0,0⟩,⟨0,[],ex0,(zal T i).p⟩)):=⟨_,rfl⟩
 have key:Agr T a0 (match stmS1 T i with | .er j e=>.er j e | .ok s j=>.ok ⟨s.kind,s.names,s.expr,(zal T i).p⟩ j) q:=by
  subst hq
  unfold stmS1
  simp only [zbg (a0:=a0) hW (show zbV≠[] by decide),zbg (a0:=a0) hW (show wLine≠[] by decide),zbg (a0:=a0) hW (show zco≠[] by decide),zbg (a0:=a0) hW (show zcz≠[] by decide),decide_eq_true_eq]
  by_cases c1:(zal T i).t=zbV
  ·rw [if_pos c1,if_pos c1,take_eq hW (by decide) c1]
   unfold zdA
   have hl:T.length=T.length-1+1:=by have:=hW.pos;omega
   have h1:=names_agr hW (a0:=a0) (T.length-1) T.length (i+1) [] (by omega) (by omega)
   rw [←hl] at h1
   cases hr:zcp T T.length (i+1) [] with
   | er j e=>rw [hr] at h1;exact h1
   | ok l j =>
    rw [hr] at h1
    have h2:namesP T T.length (zb7 T ⟨i+1,a0,0⟩).1 ([]++[(zb7 T ⟨i+1,a0,0⟩).2])=(⟨j,a0,0⟩,l):=h1
    rw [List.nil_append] at h2
    simp only [h2];rfl
  rw [if_neg c1,if_neg c1]
  by_cases c2:(zal T i).t=wLine
  ·rw [if_pos c2,if_pos c2,take_eq hW (by decide) c2]
   exact def_agr hW (by decide) rfl (by decide) (i+1)
  rw [if_neg c2,if_neg c2]
  by_cases c3:(zal T i).t=zco
  ·rw [if_pos c3,if_pos c3,take_eq hW (by decide) c3]
   exact def_agr hW (by decide) rfl (by decide) (i+1)
  rw [if_neg c3,if_neg c3]
  by_cases c4:(zal T i).t=zcz
  ·rw [if_pos c4,if_pos c4,take_eq hW (by decide) c4]
   have hk2:zda T [4] ⟨i+1,a0,0⟩=kofS T (i+1) 4:=kind_agr hW (sort:=4) (by omega)
   have h1:=con_agr hW (fun p s h=>by rw [argP_bad h]) (fun p i hp=>arg_agr hW (a0:=a0) 19 p i hp) hk2
   unfold defS
   rw [if_neg (by decide)]
   have e4:srtS 5=4:=rfl
   rw [e4]
   cases hr:conS T (argS T 19) 4 (i+1) with
   | er j e=>rw [hr] at h1;exact h1
   | ok x j =>
    rw [hr] at h1
    have h2:conP T (argP T 19) [4] ⟨i+1,a0,0⟩=(⟨j,a0,0⟩,x):=h1
    simp only [h2];rfl
  rw [if_neg c4,if_neg c4,nm_agr hW]
  cases hn:nmS T i with
  | true =>
   rw [if_pos rfl]
   exact def_agr hW (by decide) rfl (by decide) i
  | false =>
   rw [if_neg (by decide)]
   have:defS T 2 i = .er i 5:=by unfold defS;rw [if_pos (by decide),hn,if_pos rfl]
   rw [this]
   exact ⟨by decide,by simp [zb8],by simp [zb8]⟩
 have e:stmP T ⟨i,a0,0⟩=(zbv T sSC q.1,q.2):=by subst hq;rfl
 rw [e]
 unfold stmS
 cases hr:stmS1 T i with
 | er j e =>
  rw [hr] at key
  obtain ⟨q1,q2,q3⟩:=key
  have hb:=zbI (T:=T) (t:=sSC) (s:=q.1) (by rw [q2];exact q1)
  exact ⟨q1,by simp only [hb];exact q2,by simp only [hb];exact q3⟩
 | ok s j =>
  rw [hr] at key
  have h2:q=(⟨j,a0,0⟩,⟨s.kind,s.names,s.expr,(zal T i).p⟩):=key
  rw [h2]
  simp only
  rcases zcW (T:=T) sSC j a0 with ⟨h3,h4⟩|⟨h3,h4⟩
  ·rw [h3,h4];rfl
  ·rw [h3,h4];exact ⟨by decide,rfl,rfl⟩
theorem stmsP_bad:∀ (n:Nat) {s:PSt} (acc:List Stm),s.er≠0→stmsP T n s acc=(s,acc)
 | 0,s,acc,_=>rfl
 | n+1,s,acc,h=>by unfold stmsP;rw [if_neg (fun hh=>h hh.1)]
theorem stms_agr (hW:Wf T):∀ (n i:Nat) (acc:List Stm),Agr T 0 (stmsS T n i acc) (stmsP T n ⟨i,0,0⟩ acc)
 | 0,i,acc=>rfl
 | n+1,i,acc=>by
  unfold stmsS stmsP
  by_cases h0:(zal T i).k=0
  ·rw [if_pos h0,if_neg (fun hh=>hh.2 h0)];rfl
  ·rw [if_neg h0,if_pos ⟨rfl,h0⟩]
   have h1:=stm_agr hW (a0:=0) i
   cases hr:stmS T i with
   | er j e =>
    rw [hr] at h1
    obtain ⟨q1,q2,q3⟩:=h1
    simp only
    rw [stmsP_bad _ _ (by rw [q2];exact q1)]
    exact ⟨q1,q2,q3⟩
   | ok s j =>
    rw [hr] at h1
    have h2:stmP T ⟨i,0,0⟩=(⟨j,0,0⟩,s):=h1
    simp only [h2]
    exact stms_agr hW n j _
theorem prog_eq (hW:Wf T):progP T=progS T:=by
 unfold progP progS
 have h:=stms_agr hW T.length 0 []
 cases hr:stmsS T T.length 0 [] with
 | er j e =>
  rw [hr] at h
  obtain ⟨q1,q2,q3⟩:=h
  simp only [q2,q3]
  rw [if_neg q1]
 | ok l j =>
  rw [hr] at h
  have h2:stmsP T T.length ⟨0,0,0⟩ []=(⟨j,0,0⟩,l):=h
  simp only [h2,if_true]
end
end Go.Proofs.Ytefhenfofomjhaa
namespace Go.Proofs.Ytefhenfofomjhaa
open Go Go.RowKit Go.V
set_option maxRecDepth 20000
inductive RW where
 | un
 | int (n:Int)
 | str (s:ByteArray)
 | sl (j n:Nat)
 | row (k s:Int) (w:ByteArray) (j n:Nat)
 deriving DecidableEq
def RW.den (bl:Nat→Nat):RW→Value
 | .un=>undef
 | .int n=>.int .i64 n
 | .str s=>.string s
 | .sl j n=>.slice (some ⟨bl j,0,none⟩) n n
 | .row k s w j n=>.agg #[.int .i64 k,.int .i64 s,.string w,.slice (some ⟨bl j,0,none⟩) n n]
def RW.ok (n:Nat):RW→Prop
 | .sl j _=>j<n
 | .row _ _ _ j _=>j<n
 | _=>True
section
variable {ops:Array Oper} {W0:Nat}
end
end Go.Proofs.Ytefhenfofomjhaa
namespace Go.Proofs.Ytefhenfofomjhaa
open Go.RowKit Go.V
set_option maxRecDepth 20000
theorem goOn_true (c:UInt8):goOn true c=(letB c.toNat || digB c.toNat):=by
 unfold goOn
 rw [kind_letter,kind_digit]
 simp [Bool.or_comm]
def comN:List UInt8→Nat
 | []=>0
 | c::l=>if c=10 then 0 else comN l+1
def blkB (c:Int):Bool:=decide (c=32∨c=9∨c=13∨c=10)
def zb2:Bool→List UInt8→Nat
 | _,[]=>0
 | true,c::l=>if c=10 then zb2 false l+1 else zb2 true l+1
 | false,c::l=>if blkB c.toNat=true then zb2 false l+1 else if c=35 then zb2 true l+1 else 0
def sgnB (c:Int):Bool:=decide (c=40∨c=41∨c=44∨c=59∨c=47∨c=45)
theorem kind_blank (c:Int):decide (zcu c=1)=blkB c:=by
 unfold zcu blkB
 rw [decide_eq_decide]
 (repeat' split)<;>omega
theorem kind_sign (c:Int):decide (zcu c=4)=sgnB c:=by
 unfold zcu sgnB
 rw [decide_eq_decide]
 (repeat' split)<;>omega
theorem kind_colon (c:Int):decide (zcu c=5)=decide (c=58):=by
 unfold zcu
 rw [decide_eq_decide]
 (repeat' split)<;>omega
theorem kind_hash (c:Int):decide (zcu c=6)=decide (c=35):=by
 unfold zcu
 rw [decide_eq_decide]
 (repeat' split)<;>omega
theorem byte_eq (c:UInt8) (n:Nat) (h:n<256):decide (c=UInt8.ofNat n)=decide ((c.toNat:Int)=n):=by
 rw [decide_eq_decide]
 constructor
 ·intro e;subst e;simp;omega
 ·intro e
  apply UInt8.toNat_inj.1
  simp;omega
def zaZ (L:Bool) (s:ByteArray) (at':Nat):Nat:=at'+zdJ L ((bs s).drop at')
def zdK (s:ByteArray) (at':Nat):Nat :=
 if letB (zag s at').toNat=true then (if 20<zaZ true s at' - at' then 4 else 0)
 else if digB (zag s at').toNat=true then (if 1<zaZ false s at' - at'∧(zag s at').toNat=48 then 5 else if 1000<zaZ false s at' - at' then 4 else 0)
 else if sgnB (zag s at').toNat=true then 0
 else if (zag s at').toNat=58 then (if at'+1<s.size∧(zag s (at'+1)).toNat=61 then 0 else 5)
 else 5
def tokK (s:ByteArray) (at':Nat):Nat :=
 if letB (zag s at').toNat=true then 1 else if digB (zag s at').toNat=true then 2 else 3
def zb1 (s:ByteArray) (at':Nat):Nat :=
 if letB (zag s at').toNat=true then zaZ true s at'
 else if digB (zag s at').toNat=true then zaZ false s at'
 else if (zag s at').toNat=58 then at'+2 else at'+1
def tokC (s:ByteArray) (t:Nat × Nat × Nat):List Value:=[.int .i64 t.1,.int .i64 t.2.1,.int .i64 t.2.2,.string (s.extract t.2.1 t.2.2)]
theorem com_step (s:ByteArray) (k:Nat):comN ((bs s).drop k)=if (decide (k<s.size) && !decide (zag s k=10))=true then comN ((bs s).drop (k+1))+1 else 0:=by
 by_cases h:k<s.size
 ·rw [zcS s k h]
  by_cases h2:zag s k=10<;>simp [comN,h,h2]
 ·rw [drop_end s k h];simp [comN,h]
set_option maxHeartbeats 1000000 in
theorem comment_any (s:ByteArray) (n:Nat) (w:World) (hs:s.size≤maxLen) (hn:n≤s.size) :
  Calls Try.prog 22 #[.string s,.int .i64 n] w fun e w'=>e = .returned (.int .i64 ↑(n+comN ((bs s).drop n)))∧w=w':=by
 unfold maxLen at hs
 refine za8 (args:=[.string s,.int .i64 n]) (rs:=[.tmp 4]) (n:=18) Try.func22 rfl rfl rfl (by kernel_rfl) ?_
 first|refine zzr fun K hK=>?_|refine zzt fun K hK=>?_
 simp [go_sem]
 refine hK _ _ ?_;clear hK K
 refine zad (fun K1 hK1=>?_)
 refine zaf ?_
 refine zaG (fun m g w'=>w'=w∧∃ k:Nat,n≤k∧k≤s.size∧m=s.size-k∧g 0 = .string s∧g 1 = .int .i64 k∧k+comN ((bs s).drop k)=n+comN ((bs s).drop n)) (s.size-n) ?_ ?_
 ·exact ⟨rfl,n,Nat.le_refl _,hn,rfl,rfl,rfl,rfl⟩
 ·rintro m g w' ⟨rfl,k,h1,h2,rfl,g0,g1,hk⟩
  have hb10:=byte_eq (zag s k) 10 (by omega)
  refine zad (fun K2 hK2=>?_)
  refine W_rtJ (fun g' w1=>w1=w'∧g' 0 = .string s∧g' 1 = .int .i64 k∧g' 14 = .bool (decide (k<s.size) && !decide (zag s k=10))) (by kernel_rfl) ?_ ?_
  ·by_cases hlt:k<s.size
   ·by_cases h10:((zag s k).toNat:Int)=10
    ·have e:zag s k=10:=by simpa [h10] using hb10
     simp [go_sem,g0,g1,hlt,h10,e]
    ·have e:¬zag s k=10:=by simpa [h10] using hb10
     simp [go_sem,g0,g1,hlt,h10,e]
   ·simp [go_sem,g0,g1,hlt]
  ·rintro g' w1 ⟨rfl,g0,g1,g27⟩
   refine zam g27 rfl ?_
   rw [com_step] at hk
   cases hb:(decide (k<s.size) && !decide (zag s k=10)) with
   | true =>
    rw [hb,if_pos rfl] at hk
    have hlt:k<s.size:=by simp at hb;exact hb.1
    refine zae (hK2 _ _ ?_);clear hK2 K2
    refine zaf ?_
    refine zzt fun K hK=>?_
    simp [go_sem,g0,g1]
    refine hK _ _ ⟨s.size-(k+1),by omega,rfl,k+1,by omega,by omega,rfl,?_,?_,by omega⟩
    all_goals simp (disch:=omega) [go_sem,g0,g1,IntWalk.i64_in]
   | false =>
    rw [hb,if_neg (by simp)] at hk
    refine zaA ?_
    repeat (first|refine zah ?_|refine za9 rfl ?_|refine zac ?_)
    refine hK1 _ _ ?_;clear hK1 K1 hK2 K2
    first|refine zzr fun K hK=>?_|refine zzt fun K hK=>?_
    simp [go_sem,g0,g1]
    refine hK _ _ ?_;clear hK K
    refine zaj ⟨trivial,?_,rfl⟩
    simp [go_sem,zax,zav]
    omega
def tok0:List Value:=[.int .i64 0,.int .i64 0,.int .i64 0,.string ⟨#[]⟩]
def tokR (s:ByteArray) (at':Nat):List Value:=if zdK s at'=0 then tokC s (tokK s at',at',zb1 s at') else tok0
theorem run_bound (L:Bool) (s:ByteArray) (k:Nat) (h:k≤s.size):zaZ L s k≤s.size∧k≤zaZ L s k:=by
 have:=endN_le L ((bs s).drop k)
 rw [List.length_drop,zaM] at this
 unfold zaZ;omega
theorem endR_any (s:ByteArray) (n:Nat) (L:Bool) (w:World) (hs:s.size≤maxLen) (hn:n≤s.size) :
  Calls Try.prog 35 #[.string s,.int .i64 n,.bool L] w fun e w'=>e = .returned (.int .i64 ↑(zaZ L s n))∧w=w':=end_any s n L w hs hn
set_option maxHeartbeats 1000000 in
theorem token_any (s:ByteArray) (n:Nat) (w:World) (hs:s.size≤20000) (hn:n<s.size) :
  Calls Try.prog 23 #[.string s,.int .i64 n] w fun e w'=>e = .returned (.tuple #[.agg (tokR s n).toArray,.int .i64 (zdK s n)])∧Below w.heap.size w w':=by
 have hs':s.size≤maxLen:=by unfold maxLen;omega
 refine za8 (args:=[.string s,.int .i64 n]) (rs:=[.cell 4 59,.tmp 5]) (n:=83) Try.func23 rfl rfl rfl (by kernel_rfl) ?_
 first|refine zzr fun K hK=>?_|refine zzt fun K hK=>?_
 simp [go_sem]
 refine zan (by simp [go_sem]) rfl ty_zeroC59 (fun w1 b1 hE1 hle1 hB1=>?_)
 simp [go_sem]
 refine hK _ _ ?_;clear hK K
 have hX1:=hE1
 first|refine zzr fun K hK=>?_|refine zzt fun K hK=>?_
 simp [go_sem]
 refine zat #[.int .i64 0,.int .i64 n,.int .i64 (IntKind.i64.wrap (↑n+1)),.string ⟨#[]⟩] (by simp [go_sem]) rfl zdP [(1,.int .i64 n),(2,.int .i64 (IntKind.i64.wrap (↑n+1)))] (by simp [go_sem]) rfl ?_
 simp [go_sem]
 refine zan (by simp [go_sem]) rfl ty_zeroC59 (fun w2 b2 hE2 hle2 hB2=>?_)
 simp [go_sem]
 have hw1:IntKind.i64.wrap (↑n+1)=(n:Int)+1:=IntWalk.i64_in _ (by omega)
 rw [hw1]
 refine za7 (b:=b2) (off:=0) [.int .i64 0,.int .i64 n,.int .i64 (↑n+1),.string ⟨#[]⟩] (by simp [go_sem,hw1]) rfl (by simp [go_sem,hw1]) (by simp [go_sem,Value.cells,hw1]) zbY hB2 (by simp) (by simp [Value.oneCell']) (by decide) (fun w3 hS3 hB3=>?_)
 simp [zaC] at hB3
 have hne:b1≠b2:=by have:=hB1.lt;omega
 have hb1:w.heap.size≤b1:=hle1
 have hX:Below w.heap.size w w3:=(hE1.next hE2).nextS hS3 (by have:=hE1.size;omega)
 have hA:Bx w3 b1 #[.int .i64 0,.int .i64 0,.int .i64 0,.string ⟨#[]⟩] 59:=(hB1.keep hE2).sto hS3 hne
 have hb2:w.heap.size≤b2:=by have:=hE1.size;omega
 clear hX1 hE1 hE2 hB1 hB2 hS3
 simp [go_sem]
 refine hK _ _ ?_;clear hK K
 have hlt':(n:Int)<s.size:=by omega
 refine zad (fun K1 hK1=>?_)
 first|refine zzr fun K hK=>?_|refine zzt fun K hK=>?_
 simp [go_sem,hlt']
 refine za5 (by simp [go_sem]) rfl Try.call21 (fun R hR=>?_)
 simp [go_sem]
 refine (kind_any _ _).mono ?_
 rintro e w4 ⟨rfl,rfl⟩
 refine ⟨_,rfl,hR _ _ ?_⟩
 clear hR R
 simp [go_sem]
 refine hK _ _ ?_;clear hK K
 have tail:∀ (g:G) (w5:World),Below w.heap.size w w5→Bx w5 b1 #[.int .i64 0,.int .i64 0,.int .i64 0,.string ⟨#[]⟩] 59→g 0 = .string s→g 1 = .int .i64 n→g 4 = .pointer (some ⟨b1,0,none⟩)→g 6 = .pointer (some ⟨b2,0,none⟩) →
   Bx w5 b2 #[.int .i64 (tokK s n),.int .i64 n,.int .i64 (zb1 s n),.string ⟨#[]⟩] 59→zdK s n=0→n≤zb1 s n→zb1 s n≤s.size→K1 g w5:=by
  intro g w5 hX hA g0 g1 g4 g6 hB he hz1 hz2
  refine hK1 _ _ ?_
  have hz1':(n:Int)≤zb1 s n:=by omega
  have hz2':(zb1 s n:Int)≤s.size:=by omega
  have hb:=hB.cell
  first|refine zzr fun K hK=>?_|refine zzt fun K hK=>?_
  simp [go_sem,g0,g1,g4,g6,hb,hz1',hz2']
  refine za7 (b:=b2) (off:=3) [.string (s.extract n (zb1 s n))] (by simp [go_sem,g0,g1,g4,g6,hb]) rfl (by simp [go_sem,g0,g1,g4,g6,hb]) (by simp [go_sem,Value.cells,g0,g1,g4,g6,hb]) ty_size9 hB (by simp) (by simp [Value.oneCell']) (by decide) (fun w6 hS6 hB6=>?_)
  simp [zaC] at hB6
  replace hA:=hA.sto hS6 hne
  replace hX:=hX.nextS hS6 hb2
  have hb:=hB6.cell
  simp [go_sem]
  refine hK _ _ ?_;clear hK K
  first|refine zzr fun K hK=>?_|refine zzt fun K hK=>?_
  simp [go_sem,g6,hb,za2,za1]
  refine za7 (b:=b1) (off:=0) [.int .i64 (tokK s n),.int .i64 n,.int .i64 (zb1 s n),.string (s.extract n (zb1 s n))] (by simp [go_sem,g4]) rfl (by simp [go_sem,g4]) (by simp [go_sem,Value.cells,g4]) zbY hA (by simp) (by simp [Value.oneCell']) (by decide) (fun w7 hS7 hB7=>?_)
  simp [zaC] at hB7
  have ha:=hB7.cell
  simp [go_sem]
  refine hK _ _ ?_;clear hK K
  refine zaj ?_
  repeat (first|refine za4 ?_|refine za3 ?_)
  refine ⟨by simp [zbl,go_sem,za1,ha,g4],?_,hX.nextS hS7 hb1⟩
  simp [go_sem,zax,zav,za2,ha,g4,tokR,tokC,he]
 have bad:∀ (g:G) (w5:World) (c:Int),Below w.heap.size w w5→Bx w5 b1 #[.int .i64 0,.int .i64 0,.int .i64 0,.string ⟨#[]⟩] 59→g 4 = .pointer (some ⟨b1,0,none⟩)→g 5 = .int .i64 c→(zdK s n:Int)=c→zdK s n≠0 →
   fnQ Try.prog [.cell 4 59,.tmp 5] (fun e w'=>e = .returned (.tuple #[.agg (tokR s n).toArray,.int .i64 (zdK s n)])∧Below w.heap.size w w') .ret g w5:=by
  intro g w5 c hX hA g4 g5 he hne0
  have ha:=hA.cell
  refine ⟨by simp [zbl,go_sem,za1,ha,g4,tok0],?_,hX⟩
  simp [go_sem,zax,zav,za2,ha,g4,g5,tokR,tok0,he,hne0]
 refine zaf ?_
 first|refine zzr fun K hK=>?_|refine zzt fun K hK=>?_
 simp [go_sem]
 refine hK _ _ ?_;clear hK K
 have hkl:=kind_letter (zag s n).toNat
 have hkd:=kind_digit (zag s n).toNat
 have hks:=kind_sign (zag s n).toNat
 have hkc:=kind_colon (zag s n).toNat
 by_cases k2:zcu ↑(zag s n).toNat=2
 ·have hlet:letB (zag s n).toNat=true:=by rw [←hkl];simp [k2]
  obtain ⟨hr1,hr2⟩:=run_bound true s n (by omega)
  have hwz:IntKind.i64.wrap (↑(zaZ true s n) - ↑n)=(zaZ true s n:Int)-n:=IntWalk.i64_in _ (by omega)
  refine zam (by simp [go_sem,k2];rfl) rfl ?_
  first|refine zzr fun K hK=>?_|refine zzt fun K hK=>?_
  simp [go_sem]
  refine za5 (by simp [go_sem]) rfl Try.call35 (fun R hR=>?_)
  simp [go_sem]
  refine (endR_any s n true _ hs' (by omega)).mono ?_
  rintro e w5 ⟨rfl,rfl⟩
  refine ⟨_,rfl,hR _ _ ?_⟩
  clear hR R
  simp [go_sem]
  refine za7 (b:=b2) (off:=0) [.int .i64 1] (by simp [go_sem]) rfl (by simp [go_sem]) (by simp [go_sem,Value.cells]) zaO hB3 (by simp) (by simp [Value.oneCell']) (by decide) (fun w5 hS5 hB5=>?_)
  simp [zaC] at hB5
  replace hA:=hA.sto hS5 hne
  replace hX:=hX.nextS hS5 hb2
  simp [go_sem]
  refine za7 (b:=b2) (off:=2) [.int .i64 (zaZ true s n)] (by simp [go_sem]) rfl (by simp [go_sem]) (by simp [go_sem,Value.cells]) zaO hB5 (by simp) (by simp [Value.oneCell']) (by decide) (fun w6 hS6 hB6=>?_)
  simp [zaC] at hB6
  replace hA:=hA.sto hS6 hne
  replace hX:=hX.nextS hS6 hb2
  have hb:=hB6.cell
  simp [go_sem]
  refine hK _ _ ?_;clear hK K
  first|refine zzr fun K hK=>?_|refine zzt fun K hK=>?_
  simp [go_sem,hb]
  refine hK _ _ ?_;clear hK K
  by_cases hbig:20<zaZ true s n-n
  ·have hbig':(20:Int) < ↑(zaZ true s n) - ↑n:=by omega
   refine zam (by simp [go_sem,hwz,hbig'];rfl) rfl ?_
   first|refine zzr fun K hK=>?_|refine zzt fun K hK=>?_
   simp [go_sem]
   refine zat #[.int .i64 0,.int .i64 0,.int .i64 0,.string ⟨#[]⟩] (by simp [go_sem]) rfl zdP [] (by simp [go_sem]) rfl ?_
   simp [go_sem]
   refine za7 (b:=b1) (off:=0) [.int .i64 0,.int .i64 0,.int .i64 0,.string ⟨#[]⟩] (by simp [go_sem]) rfl (by simp [go_sem]) (by simp [go_sem,Value.cells]) zbY hA (by simp) (by simp [Value.oneCell']) (by decide) (fun w7 hS7 hB7=>?_)
   simp [zaC] at hB7
   simp [go_sem]
   refine hK _ _ ?_;clear hK K
   refine zaj ?_
   repeat (first|refine za4 ?_|refine za3 ?_)
   exact bad _ _ 4 (hX.nextS hS7 hb1) hB7 (by simp [go_sem]) (by simp [go_sem]) (by simp [zdK,hlet,hbig]) (by simp [zdK,hlet,hbig])
  ·have hbig':¬(20:Int) < ↑(zaZ true s n) - ↑n:=by omega
   refine zam (by simp [go_sem,hwz,hbig'];rfl) rfl ?_
   refine zae ?_
   refine tail _ _ hX hA (by simp [go_sem]) (by simp [go_sem]) (by simp [go_sem]) (by simp [go_sem]) ?_ (by simp [zdK,hlet,hbig]) (by simp [zb1,hlet];omega) (by simp [zb1,hlet];omega)
   simpa [tokK,zb1,hlet] using hB6
 ·have hlet:letB (zag s n).toNat=false:=by rw [←hkl];simp [k2]
  refine zam (by simp [go_sem,k2];rfl) rfl ?_
  first|refine zzr fun K hK=>?_|refine zzt fun K hK=>?_
  simp [go_sem]
  refine hK _ _ ?_;clear hK K
  by_cases k3:zcu ↑(zag s n).toNat=3
  ·have hdig:digB (zag s n).toNat=true:=by rw [←hkd];simp [k3]
   obtain ⟨hr1,hr2⟩:=run_bound false s n (by omega)
   have hwz:IntKind.i64.wrap (↑(zaZ false s n) - ↑n)=(zaZ false s n:Int)-n:=IntWalk.i64_in _ (by omega)
   refine zam (by simp [go_sem,k3];rfl) rfl ?_
   first|refine zzr fun K hK=>?_|refine zzt fun K hK=>?_
   simp [go_sem]
   refine za5 (by simp [go_sem]) rfl Try.call35 (fun R hR=>?_)
   simp [go_sem]
   refine (endR_any s n false _ hs' (by omega)).mono ?_
   rintro e w5 ⟨rfl,rfl⟩
   refine ⟨_,rfl,hR _ _ ?_⟩
   clear hR R
   simp [go_sem]
   refine za7 (b:=b2) (off:=0) [.int .i64 2] (by simp [go_sem]) rfl (by simp [go_sem]) (by simp [go_sem,Value.cells]) zaO hB3 (by simp) (by simp [Value.oneCell']) (by decide) (fun w5 hS5 hB5=>?_)
   simp [zaC] at hB5
   replace hA:=hA.sto hS5 hne
   replace hX:=hX.nextS hS5 hb2
   simp [go_sem]
   refine za7 (b:=b2) (off:=2) [.int .i64 (zaZ false s n)] (by simp [go_sem]) rfl (by simp [go_sem]) (by simp [go_sem,Value.cells]) zaO hB5 (by simp) (by simp [Value.oneCell']) (by decide) (fun w6 hS6 hB6=>?_)
   simp [zaC] at hB6
   replace hA:=hA.sto hS6 hne
   replace hX:=hX.nextS hS6 hb2
   have hb:=hB6.cell
   simp [go_sem]
   refine hK _ _ ?_;clear hK K
   have h48:decide (zag s n=48)=decide ((zag s n).toNat=48):=by
    rw [decide_eq_decide]
    constructor
    ·intro e;rw [e];rfl
    ·intro e;exact UInt8.toNat_inj.1 e
   refine zad (fun K2 hK2=>?_)
   refine W_rtJ (fun g w6'=>w6'=w6∧g 0 = .string s∧g 1 = .int .i64 n∧g 4 = .pointer (some ⟨b1,0,none⟩)∧g 6 = .pointer (some ⟨b2,0,none⟩)∧g 46 = .bool (decide (1<zaZ false s n-n) && decide ((zag s n).toNat=48))) (by kernel_rfl) ?_ ?_
   ·by_cases h1:1<zaZ false s n-n
    ·have h1':(1:Int) < ↑(zaZ false s n) - ↑n:=by omega
     simp [go_sem,hb,hwz,h1',h1,hlt']
     omega
    ·have h1':¬(1:Int) < ↑(zaZ false s n) - ↑n:=by omega
     simp [go_sem,hb,hwz,h1',h1]
   ·rintro g w6' ⟨rfl,g0,g1,g4,g6,g46⟩
    refine zam g46 rfl ?_
    cases hz:(decide (1<zaZ false s n-n) && decide ((zag s n).toNat=48)) with
    | true =>
     have he:zdK s n=5:=by simp [zdK,hlet,hdig];simp at hz;simp [hz]
     first|refine zzr fun K hK=>?_|refine zzt fun K hK=>?_
     simp [go_sem]
     refine zat #[.int .i64 0,.int .i64 0,.int .i64 0,.string ⟨#[]⟩] (by simp [go_sem]) rfl zdP [] (by simp [go_sem]) rfl ?_
     simp [go_sem]
     refine za7 (b:=b1) (off:=0) [.int .i64 0,.int .i64 0,.int .i64 0,.string ⟨#[]⟩] (by simp [go_sem,g4]) rfl (by simp [go_sem,g4]) (by simp [go_sem,Value.cells,g4]) zbY hA (by simp) (by simp [Value.oneCell']) (by decide) (fun w7 hS7 hB7=>?_)
     simp [zaC] at hB7
     simp [go_sem]
     refine hK _ _ ?_;clear hK K
     refine zaj ?_
     repeat (first|refine za4 ?_|refine za3 ?_)
     exact bad _ _ 5 (hX.nextS hS7 hb1) hB7 (by simp [go_sem,g4]) (by simp [go_sem]) (by rw [he];rfl) (by rw [he];decide)
    | false =>
     refine zae (hK2 _ _ ?_)
     first|refine zzr fun K hK=>?_|refine zzt fun K hK=>?_
     simp [go_sem,g1,g6,hb]
     refine hK _ _ ?_;clear hK K
     have hz':¬(1<zaZ false s n-n∧(zag s n).toNat=48):=by simp at hz;intro ⟨a,b⟩;exact hz a b
     by_cases hbig:1000<zaZ false s n-n
     ·have he:zdK s n=4:=by simp [zdK,hlet,hdig,hz',hbig]
      have hbig':(1000:Int) < ↑(zaZ false s n) - ↑n:=by omega
      refine zam (by simp [go_sem,hwz,hbig'];rfl) rfl ?_
      first|refine zzr fun K hK=>?_|refine zzt fun K hK=>?_
      simp [go_sem]
      refine zat #[.int .i64 0,.int .i64 0,.int .i64 0,.string ⟨#[]⟩] (by simp [go_sem]) rfl zdP [] (by simp [go_sem]) rfl ?_
      simp [go_sem]
      refine za7 (b:=b1) (off:=0) [.int .i64 0,.int .i64 0,.int .i64 0,.string ⟨#[]⟩] (by simp [go_sem,g4]) rfl (by simp [go_sem,g4]) (by simp [go_sem,Value.cells,g4]) zbY hA (by simp) (by simp [Value.oneCell']) (by decide) (fun w7 hS7 hB7=>?_)
      simp [zaC] at hB7
      simp [go_sem]
      refine hK _ _ ?_;clear hK K
      refine zaj ?_
      repeat (first|refine za4 ?_|refine za3 ?_)
      exact bad _ _ 4 (hX.nextS hS7 hb1) hB7 (by simp [go_sem,g4]) (by simp [go_sem]) (by rw [he];rfl) (by rw [he];decide)
     ·have he:zdK s n=0:=by simp [zdK,hlet,hdig,hz',hbig]
      have hbig':¬(1000:Int) < ↑(zaZ false s n) - ↑n:=by omega
      refine zam (by simp [go_sem,hwz,hbig'];rfl) rfl ?_
      refine zae ?_
      refine tail _ _ hX hA (by simp [go_sem,g0]) (by simp [go_sem,g1]) (by simp [go_sem,g4]) (by simp [go_sem,g6]) ?_ he (by simp [zb1,hlet,hdig];omega) (by simp [zb1,hlet,hdig];omega)
      simpa [tokK,zb1,hlet,hdig] using hB6
  ·have hdig:digB (zag s n).toNat=false:=by rw [←hkd];simp [k3]
   refine zam (by simp [go_sem,k3];rfl) rfl ?_
   first|refine zzr fun K hK=>?_|refine zzt fun K hK=>?_
   simp [go_sem]
   refine hK _ _ ?_;clear hK K
   by_cases k4:zcu ↑(zag s n).toNat=4
   ·have hsg:sgnB (zag s n).toNat=true:=by rw [←hks];simp [k4]
    have h58:(zag s n).toNat≠58:=by
     intro e
     rw [e] at k4
     exact absurd k4 (by decide)
    refine zam (by simp [go_sem,k4];rfl) rfl ?_
    refine zzt fun K hK=>?_
    simp [go_sem]
    refine za7 (b:=b2) (off:=0) [.int .i64 3] (by simp [go_sem]) rfl (by simp [go_sem]) (by simp [go_sem,Value.cells]) zaO hB3 (by simp) (by simp [Value.oneCell']) (by decide) (fun w5 hS5 hB5=>?_)
    simp [zaC] at hB5
    replace hA:=hA.sto hS5 hne
    replace hX:=hX.nextS hS5 hb2
    simp [go_sem]
    refine hK _ _ ?_;clear hK K
    refine tail _ _ hX hA (by simp [go_sem]) (by simp [go_sem]) (by simp [go_sem]) (by simp [go_sem]) ?_ (by simp [zdK,hlet,hdig,hsg]) (by simp [zb1,hlet,hdig,h58]) (by simp [zb1,hlet,hdig,h58];omega)
    simpa [tokK,zb1,hlet,hdig,h58] using hB5
   ·have hsg:sgnB (zag s n).toNat=false:=by rw [←hks];simp [k4]
    refine zam (by simp [go_sem,k4];rfl) rfl ?_
    first|refine zzr fun K hK=>?_|refine zzt fun K hK=>?_
    simp [go_sem]
    refine hK _ _ ?_;clear hK K
    by_cases k5:zcu ↑(zag s n).toNat=5
    ·have h58:(zag s n).toNat=58:=by
      have:decide (((zag s n).toNat:Int)=58)=true:=by rw [←hkc];simp [k5]
      simp at this;omega
     have hw2:IntKind.i64.wrap (↑n+2)=(n:Int)+2:=IntWalk.i64_in _ (by omega)
     have hn2:((n:Int)+1).toNat=n+1:=by omega
     refine zam (by simp [go_sem,k5];rfl) rfl ?_
     first|refine zzr fun K hK=>?_|refine zzt fun K hK=>?_
     simp [go_sem,hw2]
     refine za7 (b:=b2) (off:=0) [.int .i64 3] (by simp [go_sem]) rfl (by simp [go_sem]) (by simp [go_sem,Value.cells]) zaO hB3 (by simp) (by simp [Value.oneCell']) (by decide) (fun w5 hS5 hB5=>?_)
     simp [zaC] at hB5
     replace hA:=hA.sto hS5 hne
     replace hX:=hX.nextS hS5 hb2
     simp [go_sem]
     refine za7 (b:=b2) (off:=2) [.int .i64 (↑n+2)] (by simp [go_sem]) rfl (by simp [go_sem]) (by simp [go_sem,Value.cells]) zaO hB5 (by simp) (by simp [Value.oneCell']) (by decide) (fun w6 hS6 hB6=>?_)
     simp [zaC] at hB6
     replace hA:=hA.sto hS6 hne
     replace hX:=hX.nextS hS6 hb2
     simp [go_sem]
     refine hK _ _ ?_;clear hK K
     have h61:decide (zag s (n+1)=61)=decide ((zag s (n+1)).toNat=61):=by
      rw [decide_eq_decide]
      constructor
      ·intro e;rw [e];rfl
      ·intro e;exact UInt8.toNat_inj.1 e
     refine W_rtJ (fun g w6'=>w6'=w6∧g 0 = .string s∧g 1 = .int .i64 n∧g 4 = .pointer (some ⟨b1,0,none⟩)∧g 6 = .pointer (some ⟨b2,0,none⟩)∧g 74 = .bool (!(decide (n+1<s.size) && decide ((zag s (n+1)).toNat=61)))) (by kernel_rfl) ?_ ?_
     ·by_cases h1:n+1<s.size
      ·have h1':¬(s.size:Int)≤↑n+1:=by omega
       have h1'':(n:Int)+1<s.size:=by omega
       have h0':(0:Int)≤n+1:=by omega
       simp [go_sem,hw1,h1',h1,h1'',hn2,h0']
       omega
      ·have h1':(s.size:Int)≤↑n+1:=by omega
       simp [go_sem,hw1,h1',h1]
     ·rintro g w6' ⟨rfl,g0,g1,g4,g6,g74⟩
      refine zam g74 rfl ?_
      cases hz:(decide (n+1<s.size) && decide ((zag s (n+1)).toNat=61)) with
      | false =>
       have hz':¬(n+1<s.size∧(zag s (n+1)).toNat=61):=by simp at hz;intro ⟨a,b⟩;exact hz a b
       have he:zdK s n=5:=by simp only [zdK,hlet,hdig,hsg,Bool.false_eq_true,if_false];rw [if_pos h58];simp [hz']
       first|refine zzr fun K hK=>?_|refine zzt fun K hK=>?_
       simp [go_sem]
       refine zat #[.int .i64 0,.int .i64 0,.int .i64 0,.string ⟨#[]⟩] (by simp [go_sem]) rfl zdP [] (by simp [go_sem]) rfl ?_
       simp [go_sem]
       refine za7 (b:=b1) (off:=0) [.int .i64 0,.int .i64 0,.int .i64 0,.string ⟨#[]⟩] (by simp [go_sem,g4]) rfl (by simp [go_sem,g4]) (by simp [go_sem,Value.cells,g4]) zbY hA (by simp) (by simp [Value.oneCell']) (by decide) (fun w7 hS7 hB7=>?_)
       simp [zaC] at hB7
       simp [go_sem]
       refine hK _ _ ?_;clear hK K
       refine zaj ?_
       repeat (first|refine za4 ?_|refine za3 ?_)
       exact bad _ _ 5 (hX.nextS hS7 hb1) hB7 (by simp [go_sem,g4]) (by simp [go_sem]) (by rw [he];rfl) (by rw [he];decide)
      | true =>
       have hz':n+1<s.size∧(zag s (n+1)).toNat=61:=by simpa using hz
       have he:zdK s n=0:=by simp only [zdK,hlet,hdig,hsg,Bool.false_eq_true,if_false];rw [if_pos h58];simp [hz']
       have hzz:zb1 s n=n+2:=by simp only [zb1,hlet,hdig,Bool.false_eq_true,if_false];rw [if_pos h58]
       have hkk:tokK s n=3:=by simp only [tokK,hlet,hdig,Bool.false_eq_true,if_false]
       refine zae ?_
       refine tail _ _ hX hA g0 g1 g4 g6 ?_ he (by rw [hzz];omega) (by rw [hzz];omega)
       rw [hzz,hkk];simpa using hB6
    ·have h58:¬(zag s n).toNat=58:=by
      intro e
      rw [e] at k5
      exact absurd rfl k5
     have he:zdK s n=5:=by simp [zdK,hlet,hdig,hsg,h58]
     refine zam (by simp [go_sem,k5];rfl) rfl ?_
     first|refine zzr fun K hK=>?_|refine zzt fun K hK=>?_
     simp [go_sem]
     refine zat #[.int .i64 0,.int .i64 0,.int .i64 0,.string ⟨#[]⟩] (by simp [go_sem]) rfl zdP [] (by simp [go_sem]) rfl ?_
     simp [go_sem]
     refine za7 (b:=b1) (off:=0) [.int .i64 0,.int .i64 0,.int .i64 0,.string ⟨#[]⟩] (by simp [go_sem]) rfl (by simp [go_sem]) (by simp [go_sem,Value.cells]) zbY hA (by simp) (by simp [Value.oneCell']) (by decide) (fun w7 hS7 hB7=>?_)
     simp [zaC] at hB7
     simp [go_sem]
     refine hK _ _ ?_;clear hK K
     refine zaj ?_
     repeat (first|refine za4 ?_|refine za3 ?_)
     exact bad _ _ 5 (hX.nextS hS7 hb1) hB7 (by simp [go_sem]) (by simp [go_sem]) (by rw [he];rfl) (by rw [he];decide)
abbrev Tk:=Nat × Nat × Nat
def nxt (s:ByteArray) (k:Nat):Nat:=k+zb2 false ((bs s).drop k)
def allF (s:ByteArray):Nat→Nat→List Tk→List Tk × Nat × Nat
 | 0,_,acc=>(acc,0,0)
 | f+1,k,acc =>
  if nxt s k<s.size then (if zdK s (nxt s k)=0 then allF s f (zb1 s (nxt s k)) (acc++[(tokK s (nxt s k),nxt s k,zb1 s (nxt s k))]) else ([],nxt s k,zdK s (nxt s k)))
  else (acc++[(0,s.size,s.size)],0,0)
def allAt (s:ByteArray) (k:Nat) (acc:List Tk):List Tk × Nat × Nat:=allF s (s.size+1-k) k acc
def allR (s:ByteArray):List Tk × Nat × Nat:=if s.size≤20000 then allAt s 0 [] else ([],0,4)
theorem endN_pos (L:Bool) (s:ByteArray) (k:Nat) (h:k<s.size) (hg:goOn L (zag s k)=true):k<zaZ L s k:=by
 unfold zaZ
 rw [endN_step]
 simp [h,hg]
theorem goOn_let (L:Bool) (c:UInt8) (h:letB c.toNat=true):goOn true c=true:=by rw [goOn_true,h];rfl
theorem goOn_dig (L:Bool) (c:UInt8) (h:digB c.toNat=true):goOn L c=true:=by
 unfold goOn
 rw [kind_digit,h];rfl
theorem zc3 (s:ByteArray) (k:Nat) (h:k<s.size) (he:zdK s k=0):k<zb1 s k∧zb1 s k≤s.size:=by
 unfold zdK at he
 unfold zb1
 by_cases h1:letB (zag s k).toNat=true
 ·rw [if_pos h1]
  exact ⟨endN_pos true s k h (goOn_let true _ h1),(run_bound true s k (by omega)).1⟩
 ·rw [if_neg h1] at he ⊢
  by_cases h2:digB (zag s k).toNat=true
  ·rw [if_pos h2]
   exact ⟨endN_pos false s k h (goOn_dig false _ h2),(run_bound false s k (by omega)).1⟩
  ·rw [if_neg h2] at he ⊢
   by_cases h58:(zag s k).toNat=58
   ·have hs:¬sgnB (zag s k).toNat=true:=by rw [h58];decide
    rw [if_neg hs,if_pos h58] at he
    rw [if_pos h58]
    by_cases h3:k+1<s.size∧(zag s (k+1)).toNat=61
    ·omega
    ·rw [if_neg h3] at he;cases he
   ·rw [if_neg h58];omega
theorem skip_le:∀ (b:Bool) (l:List UInt8),zb2 b l≤l.length
 | _,[]=>by simp [zb2]
 | true,c::l=>by
  have h1:=skip_le true l
  have h2:=skip_le false l
  unfold zb2
  split<;>simp<;>omega
 | false,c::l=>by
  have h1:=skip_le true l
  have h2:=skip_le false l
  unfold zb2
  repeat' split
  all_goals simp
  all_goals omega
theorem zdB (s:ByteArray) (k:Nat) (h:k≤s.size):k≤nxt s k∧nxt s k≤s.size:=by
 have:=skip_le false ((bs s).drop k)
 rw [List.length_drop,zaM] at this
 unfold nxt;omega
theorem allF_fuel (s:ByteArray):∀ (f f' k:Nat) (acc:List Tk),k≤s.size→s.size<k+f→s.size<k+f'→allF s f k acc=allF s f' k acc
 | 0,_,k,acc,h,h1,_=>by omega
 | f+1,0,k,acc,h,_,h2=>by omega
 | f+1,f'+1,k,acc,h,h1,h2=>by
  obtain ⟨n1,n2⟩:=zdB s k h
  unfold allF
  split
  ·rename_i hp
   split
   ·rename_i he
    obtain ⟨t1,t2⟩:=zc3 s _ hp he
    exact allF_fuel s f f' _ _ t2 (by omega) (by omega)
   ·rfl
  ·rfl
theorem allAt_eq (s:ByteArray) (k:Nat) (acc:List Tk) (h:k≤s.size):allAt s k acc =
  if nxt s k<s.size then (if zdK s (nxt s k)=0 then allAt s (zb1 s (nxt s k)) (acc++[(tokK s (nxt s k),nxt s k,zb1 s (nxt s k))]) else ([],nxt s k,zdK s (nxt s k)))
  else (acc++[(0,s.size,s.size)],0,0):=by
 obtain ⟨n1,n2⟩:=zdB s k h
 unfold allAt
 have e:s.size+1-k=(s.size-k)+1:=by omega
 rw [e]
 conv=>lhs;unfold allF
 split
 ·rename_i hp
  split
  ·rename_i he
   obtain ⟨t1,t2⟩:=zc3 s _ hp he
   exact allF_fuel s _ _ _ _ t2 (by omega) (by omega)
  ·rfl
 ·rfl
theorem allAt_skip (s:ByteArray) (k k':Nat) (acc:List Tk) (h:k≤s.size) (h':k'≤s.size) (hn:nxt s k=nxt s k'):allAt s k acc=allAt s k' acc:=by
 rw [allAt_eq s k acc h,allAt_eq s k' acc h',hn]
theorem nxt_blank (s:ByteArray) (k:Nat) (h:k<s.size) (hb:blkB (zag s k).toNat=true):nxt s k=nxt s (k+1):=by
 unfold nxt
 rw [zcS s k h,zb2,if_pos hb];omega
theorem skip_com (l:List UInt8):zb2 true l=comN l+zb2 false (l.drop (comN l)):=by
 induction l with
 | nil=>rfl
 | cons c l ih =>
  unfold comN
  by_cases h:c=10
  ·subst h
   rw [if_pos rfl]
   simp [zb2,blkB]
  ·rw [if_neg h,zb2,if_neg h,List.drop_succ_cons,ih];omega
theorem nxt_hash (s:ByteArray) (k:Nat) (h:k<s.size) (hb:zag s k=35):nxt s k=nxt s (k+comN ((bs s).drop k))∧k<k+comN ((bs s).drop k)∧k+comN ((bs s).drop k)≤s.size:=by
 have hc:comN ((bs s).drop k)=comN ((bs s).drop (k+1))+1:=by rw [com_step];simp [h,hb]
 have hcl:∀ l:List UInt8,comN l≤l.length:=by
  intro l
  induction l with
  | nil=>simp [comN]
  | cons c l ih=>unfold comN;split<;>simp<;>omega
 have hl:=hcl ((bs s).drop k)
 rw [List.length_drop,zaM] at hl
 refine ⟨?_,by omega,by omega⟩
 unfold nxt
 rw [hc]
 have e1:zb2 false ((bs s).drop k)=zb2 true ((bs s).drop (k+1))+1:=by
  rw [zcS s k h,hb]
  rfl
 rw [e1,skip_com,List.drop_drop]
 have e2:k+1+comN ((bs s).drop (k+1))=k+(comN ((bs s).drop (k+1))+1):=by omega
 rw [e2];omega
theorem nxt_here (s:ByteArray) (k:Nat) (h:k<s.size) (hb:blkB (zag s k).toNat=false) (hh:zag s k≠35):nxt s k=k:=by
 unfold nxt
 rw [zcS s k h,zb2,if_neg (by rw [hb];decide),if_neg hh];omega
theorem nxt_end (s:ByteArray) (k:Nat) (h:¬k<s.size):nxt s k=k:=by
 unfold nxt
 rw [drop_end s k h];rfl
theorem zdl (s:ByteArray) (a b:Nat):bs (s.extract a b)=((bs s).drop a).take (b-a):=by
 unfold bs
 rw [ByteArray.data_extract]
 simp [List.extract_eq_take_drop]
theorem zdC (s:ByteArray) (a:Nat):s.extract a a=⟨#[]⟩:=by
 apply bs_inj
 rw [zdl]
 simp [bs]
def tksC (s:ByteArray) (l:List Tk):List Value:=l.flatMap (tokC s)
theorem tksC_app (s:ByteArray) (l:List Tk) (t:Tk):tksC s (l++[t])=tksC s l++tokC s t:=by simp [tksC]
theorem zas {w w':World} {B e size n:Nat} {v:Value} {xs:List Value} (h:w.ownsRow B e size v n xs) (hb:Below w.heap.size w w'):w'.ownsRow B e size v n xs:=by
 refine ⟨h.1,?_⟩
 rcases h.2 with hn|⟨g,cap,cur,hv,hg,hh,r⟩
 ·exact .inl hn
 ·exact .inr ⟨g,cap,cur,hv,hg,by rw [hb.block g (Array.getElem?_eq_some_iff.1 hh).1];exact hh,r⟩
theorem zcK {w w':World} {B e size n b:Nat} {v:Value} {xs:List Value} (h:w.ownsRow B e size v n xs) (hs:Sto w w' b) (hne:v.ownBlock≠some b):w'.ownsRow B e size v n xs:=by
 refine ⟨h.1,?_⟩
 rcases h.2 with hn|⟨g,cap,cur,hv,hg,hh,r⟩
 ·exact .inl hn
 ·refine .inr ⟨g,cap,cur,hv,hg,?_,r⟩
  have:g≠b:=fun e=>hne (by rw [hv,e];rfl)
  rw [hs.block g this];exact hh
theorem zbh {w:World} {B e size n:Nat} {v:Value} {xs:List Value} (h:w.ownsRow B e size v n xs):∃ a c,v = .slice a n c:=by
 rcases h.2 with ⟨h1,h2⟩|⟨g,cap,cur,hv,_⟩
 ·subst h2;exact ⟨none,0,h1⟩
 ·exact ⟨_,_,hv⟩
theorem tokR_len (s:ByteArray) (k:Nat):(tokR s k).length=4:=by unfold tokR;split<;>rfl
theorem tokR_one (s:ByteArray) (k:Nat):∀ v∈tokR s k,v.oneCell'=true:=by
 intro v hv
 unfold tokR at hv
 split at hv
 ·simp [tokC] at hv;rcases hv with rfl|rfl|rfl|rfl<;>rfl
 ·simp [tok0] at hv;rcases hv with rfl|rfl<;>rfl
theorem putC_all (c:Array Value) (vs:List Value) (h:c.size=vs.length):zaC c 0 vs=vs.toArray:=by
 rw [←putC_toList vs c 0 (by omega)]
 have:c.toList.drop vs.length=[]:=List.drop_eq_nil_of_le (by simp;omega)
 simp [this]
def AllPost (s:ByteArray) (w:World) (e:Ending) (w':World):Prop :=
 ∃ a c,e = .returned (.tuple #[.slice a (allR s).1.length c,.int .i64 (allR s).2.1,.int .i64 (allR s).2.2])∧SL w' a (tksC s (allR s).1)∧Below w.heap.size w w'
set_option maxHeartbeats 1000000 in
theorem all_any (s:ByteArray) (w:World) (hs:s.size≤maxLen) :
  Calls Try.prog 11 #[.string s] w (AllPost s w):=by
 refine za8 (args:=[.string s]) (rs:=[.tmp 2,.tmp 3,.tmp 4]) (n:=51) Try.func11 rfl rfl rfl (by kernel_rfl) ?_
 first|refine zzr fun K hK=>?_|refine zzt fun K hK=>?_
 simp [go_sem]
 refine hK _ _ ?_;clear hK K
 refine zad (fun K1 hK1=>?_)
 first|refine zzr fun K hK=>?_|refine zzt fun K hK=>?_
 simp [go_sem]
 refine hK _ _ ?_;clear hK K
 by_cases hbig:s.size≤20000
 ·have hbig':¬(20000:Int)<s.size:=by omega
  have hR:allR s=allAt s 0 []:=by unfold allR;rw [if_pos hbig]
  refine zam (by simp [go_sem,hbig'];rfl) rfl ?_
  refine zae ?_
  refine hK1 _ _ ?_;clear hK1 K1
  refine zad (fun K1 hK1=>?_)
  refine zaf ?_
  refine zaG (fun m g w'=>Below w.heap.size w w'∧∃ (k:Nat) (v:Value) (acc:List Tk),k≤s.size∧m=s.size-k∧g 0 = .string s∧g 2=v∧g 3 = .int .i64 k∧w'.ownsRow w.heap.size 59 4 v acc.length (tksC s acc)∧acc.length≤k∧allAt s k acc=allAt s 0 []) s.size ?_ ?_
  ·exact ⟨Below.refl _ _,0,.slice none 0 0,[],Nat.zero_le _,rfl,rfl,rfl,rfl,World.ownsRow_nil _ _ _ _,Nat.le_refl _,rfl⟩
  ·rintro m g w' ⟨hE,k,v,acc,hk,rfl,g0,g2,g3,hown,hacc,hall⟩
   refine zad (fun K2 hK2=>?_)
   first|refine zzr fun K hK=>?_|refine zzt fun K hK=>?_
   simp [go_sem,g0,g3]
   refine hK _ _ ?_;clear hK K
   by_cases hlt:k<s.size
   ·have hlt':(k:Int)<s.size:=by omega
    have hw1:IntKind.i64.wrap (↑k+1)=(k:Int)+1:=IntWalk.i64_in _ (by omega)
    refine zam (by simp [go_sem,hlt,hlt'];rfl) rfl ?_
    refine zae ?_
    refine hK2 _ _ ?_;clear hK2 K2
    refine zaf ?_
    refine zad (fun K3 hK3=>?_)
    first|refine zzr fun K hK=>?_|refine zzt fun K hK=>?_
    simp [go_sem,g0,g3,hlt',hw1]
    refine za5 (by simp [go_sem]) rfl Try.call21 (fun R hR=>?_)
    simp [go_sem]
    refine (kind_any _ _).mono ?_
    rintro e w4 ⟨rfl,rfl⟩
    refine ⟨_,rfl,hR _ _ ?_⟩
    clear hR R
    simp [go_sem]
    refine hK _ _ ?_;clear hK K
    refine zaf ?_
    first|refine zzr fun K hK=>?_|refine zzt fun K hK=>?_
    simp [go_sem]
    refine hK _ _ ?_;clear hK K
    have hkb:=kind_blank (zag s k).toNat
    have hkh:=kind_hash (zag s k).toNat
    by_cases k1:zcu ↑(zag s k).toNat=1
    ·have hblk:blkB (zag s k).toNat=true:=by rw [←hkb];simp [k1]
     refine zam (by simp [go_sem,k1];rfl) rfl ?_
     first|refine zzr fun K hK=>?_|refine zzt fun K hK=>?_
     simp [go_sem,g3,hw1]
     refine hK _ _ ?_;clear hK K
     refine zaA ?_
     repeat (first|refine zah ?_|refine za9 rfl ?_|refine zac ?_)
     refine ⟨s.size-(k+1),by omega,hE,k+1,v,acc,by omega,rfl,by simp [go_sem,g0],by simp [go_sem,g2],by simp [go_sem],hown,by omega,?_⟩
     rw [←hall]
     exact (allAt_skip s k (k+1) acc hk (by omega) (nxt_blank s k hlt hblk)).symm
    ·have hblk:blkB (zag s k).toNat=false:=by rw [←hkb];simp [k1]
     refine zam (by simp [go_sem,k1];rfl) rfl ?_
     first|refine zzr fun K hK=>?_|refine zzt fun K hK=>?_
     simp [go_sem]
     refine hK _ _ ?_;clear hK K
     by_cases k6:zcu ↑(zag s k).toNat=6
     ·have h35:zag s k=35:=by
       have:decide (((zag s k).toNat:Int)=35)=true:=by rw [←hkh];simp [k6]
       apply UInt8.toNat_inj.1
       simp at this;simp;omega
      obtain ⟨hn1,hn2,hn3⟩:=nxt_hash s k hlt h35
      refine zam (by simp [go_sem,k6];rfl) rfl ?_
      first|refine zzr fun K hK=>?_|refine zzt fun K hK=>?_
      simp [go_sem,g0,g3]
      refine za5 (by simp [go_sem]) rfl Try.call22 (fun R hR=>?_)
      simp [go_sem]
      refine (comment_any s k _ hs hk).mono ?_
      rintro e w5 ⟨rfl,rfl⟩
      refine ⟨_,rfl,hR _ _ ?_⟩
      clear hR R
      simp [go_sem]
      refine hK _ _ ?_;clear hK K
      refine zaA ?_
      repeat (first|refine zah ?_|refine za9 rfl ?_|refine zac ?_)
      refine ⟨s.size-(k+comN ((bs s).drop k)),by omega,hE,k+comN ((bs s).drop k),v,acc,by omega,rfl,by simp [go_sem,g0],by simp [go_sem,g2],by simp [go_sem],hown,by omega,?_⟩
      rw [←hall]
      exact (allAt_skip s k _ acc hk hn3 hn1).symm
     ·have h35:zag s k≠35:=by
       intro e
       rw [e] at k6
       exact absurd rfl k6
      have hnx:=nxt_here s k hlt hblk h35
      have hae:=allAt_eq s k acc hk
      rw [hnx,if_pos hlt,hall] at hae
      refine zam (by simp [go_sem,k6];rfl) rfl ?_
      refine zae ?_
      refine hK3 _ _ ?_;clear hK3 K3
      first|refine zzr fun K hK=>?_|refine zzt fun K hK=>?_
      simp [go_sem,g0,g3]
      refine za5 (by simp [go_sem]) rfl Try.call23 (fun R hR=>?_)
      simp [go_sem]
      refine (token_any s k _ hbig hlt).mono ?_
      rintro e w5 ⟨rfl,hE5⟩
      refine ⟨_,rfl,hR _ _ ?_⟩
      clear hR R
      have hown5:w5.ownsRow w.heap.size 59 4 v acc.length (tksC s acc):=zas hown hE5
      replace hE:=hE.next hE5
      simp [go_sem]
      refine zan (by simp [go_sem]) rfl ty_zeroC59 (fun w6 b6 hE6 hle6 hB6=>?_)
      simp [go_sem]
      refine za7 (b:=b6) (off:=0) (tokR s k) (by simp [go_sem]) rfl (by simp [go_sem]) (by simp [go_sem,Value.cells]) (by rw [tokR_len];exact zbY) hB6 (by rw [tokR_len];simp) (tokR_one s k) (by decide) (fun w7 hS7 hB7=>?_)
      rw [putC_all _ _ (by simp [tokR_len])] at hB7
      have hb6:w.heap.size≤b6:=by have:=hE.size;omega
      have hne:v.ownBlock≠some b6:=fun e=>by have:=(hown5.lt b6 e).2;omega
      have hown7:w7.ownsRow w.heap.size 59 4 v acc.length (tksC s acc):=zcK (zas hown5 hE6) hS7 hne
      replace hE:=(hE.next hE6).nextS hS7 hb6
      clear hown hown5 hE5 hE6 hS7 hB6
      simp [go_sem]
      refine hK _ _ ?_;clear hK K
      refine zad (fun K2 hK2=>?_)
      first|refine zzr fun K hK=>?_|refine zzt fun K hK=>?_
      simp [go_sem]
      refine hK _ _ ?_;clear hK K
      by_cases he:zdK s k=0
      ·have he':(zdK s k:Int)=0:=by omega
       rw [if_pos he] at hae
       obtain ⟨ht1,ht2⟩:=zc3 s k hlt he
       have e1:tokR s k=[.int .i64 (tokK s k),.int .i64 k,.int .i64 (zb1 s k),.string (s.extract k (zb1 s k))]:=by simp [tokR,he,tokC]
       rw [e1] at hB7
       have hb:=hB7.cell
       refine zam (by simp [go_sem,he,he'];rfl) rfl ?_
       refine zae ?_
       refine hK2 _ _ ?_;clear hK2 K2
       first|refine zzr fun K hK=>?_|refine zzt fun K hK=>?_
       simp [go_sem,g2,hb,za2,za1]
       refine zap #[.int .i64 (tokK s k),.int .i64 k,.int .i64 (zb1 s k),.string (s.extract k (zb1 s k))] (by simp [go_sem]) rfl ty_slZ48 (by decide) [(0,.agg #[.int .i64 (tokK s k),.int .i64 k,.int .i64 (zb1 s k),.string (s.extract k (zb1 s k))])] (by simp [go_sem]) (by kernel_rfl) (fun w8 b8 hE8 hle8 hB8=>?_)
       have hown8:w8.ownsRow w.heap.size 59 4 v acc.length (tksC s acc):=zas hown7 hE8
       replace hB7:=hB7.keep hE8
       replace hE:=hE.next hE8
       clear hown7 hE8
       simp [go_sem]
       refine zcA (v:=v) (b:=b8) (len:=1) (c:=1) hB8 (by simp [go_sem]) rfl ty_slZ48 ty_bytes59 rfl (by decide) (by simp [go_sem,g2]) (by simp [go_sem]) hown8 rfl (by simp [Value.oneCell']) (by unfold maxLen;omega) (by omega) hE.size (by decide) (fun v' w9 hown9 hg9 _=>?_)
       replace hB7:=hB7.grown hg9 (fun e=>hne e.symm)
       replace hE:=hE.nextG hg9 (fun b e=>(hown8.lt b e).1)
       have hb:=hB7.cell
       have hown10:w9.ownsRow w.heap.size 59 4 v' (acc++[(tokK s k,k,zb1 s k)]).length (tksC s (acc++[(tokK s k,k,zb1 s k)])):=by
        rw [tksC_app,List.length_append];exact hown9
       simp [go_sem]
       refine hK _ _ ?_;clear hK K
       refine zzt fun K hK=>?_
       simp [go_sem,hb]
       refine hK _ _ ⟨s.size-zb1 s k,by omega,hE,zb1 s k,v',acc++[(tokK s k,k,zb1 s k)],ht2,rfl,by simp [go_sem,g0],by simp [go_sem],by simp [go_sem],hown10,by simp;omega,hae.symm⟩
      ·have he':¬(zdK s k:Int)=0:=by omega
       rw [if_neg he] at hae
       have hR':allR s=([],k,zdK s k):=by rw [hR,hae]
       refine zam (by simp [go_sem,he,he'];rfl) rfl ?_
       first|refine zzr fun K hK=>?_|refine zzt fun K hK=>?_
       simp [go_sem,g3]
       refine hK _ _ ?_;clear hK K
       refine zaj ?_
       repeat (first|refine za4 ?_|refine za3 ?_)
       refine ⟨trivial,none,0,?_,by rw [hR'];exact SL.nil _ _,hE⟩
       simp [go_sem,zax,zav,hR']
   ·have hk':k=s.size:=by omega
    have hae:=allAt_eq s k acc hk
    rw [nxt_end s k hlt,if_neg hlt,hall] at hae
    have hR':allR s=(acc++[(0,s.size,s.size)],0,0):=by rw [hR,hae]
    refine zam (by simp [go_sem,hlt];rfl) rfl ?_
    refine zaA ?_
    repeat (first|refine zah ?_|refine za9 rfl ?_|refine zac ?_)
    refine hK1 _ _ ?_;clear hK1 K1 hK2 K2
    first|refine zzr fun K hK=>?_|refine zzt fun K hK=>?_
    simp [go_sem,g0,g2]
    refine zat #[.int .i64 0,.int .i64 s.size,.int .i64 s.size,.string ⟨#[]⟩] (by simp [go_sem]) rfl zdP [(0,.int .i64 0),(1,.int .i64 s.size),(2,.int .i64 s.size)] (by simp [go_sem]) rfl ?_
    simp [go_sem]
    refine zap #[.int .i64 0,.int .i64 s.size,.int .i64 s.size,.string ⟨#[]⟩] (by simp [go_sem]) rfl ty_slZ48 (by decide) [(0,.agg #[.int .i64 0,.int .i64 s.size,.int .i64 s.size,.string ⟨#[]⟩])] (by simp [go_sem]) (by kernel_rfl) (fun w8 b8 hE8 hle8 hB8=>?_)
    have hown8:w8.ownsRow w.heap.size 59 4 v acc.length (tksC s acc):=zas hown hE8
    replace hE:=hE.next hE8
    simp [go_sem]
    refine zcA (v:=v) (b:=b8) (len:=1) (c:=1) hB8 (by simp [go_sem]) rfl ty_slZ48 ty_bytes59 rfl (by decide) (by simp [go_sem,g2]) (by simp [go_sem]) hown8 rfl (by simp [Value.oneCell']) (by unfold maxLen;omega) (by omega) hE.size (by decide) (fun v' w9 hown9 hg9 _=>?_)
    replace hE:=hE.nextG hg9 (fun b e=>(hown8.lt b e).1)
    simp [go_sem]
    refine hK _ _ ?_;clear hK K
    obtain ⟨a,c,rfl⟩:=zbh hown9
    refine zaj ?_
    repeat (first|refine za4 ?_|refine za3 ?_)
    refine ⟨trivial,a,c,?_,?_,hE⟩
    ·simp [go_sem,zax,zav,hR']
    ·rw [hR']
     show SL _ a (tksC s (acc++[(0,s.size,s.size)]))
     rw [tksC_app]
     have e2:tokC s (0,s.size,s.size)=[.int .i64 0,.int .i64 s.size,.int .i64 s.size,.string ⟨#[]⟩]:=by
      simp only [tokC,zdC]
      first|rfl|skip
     rw [e2]
     exact zbx hown9
 ·have hbig':(20000:Int)<s.size:=by omega
  have hR:allR s=([],0,4):=by unfold allR;rw [if_neg hbig]
  refine zam (by simp [go_sem,hbig'];rfl) rfl ?_
  first|refine zzr fun K hK=>?_|refine zzt fun K hK=>?_
  simp [go_sem]
  refine hK _ _ ?_;clear hK K
  refine zaj ?_
  repeat (first|refine za4 ?_|refine za3 ?_)
  refine ⟨trivial,none,0,?_,by rw [hR];exact SL.nil _ _,Below.refl _ _⟩
  simp [go_sem,zax,zav,hR]
end Go.Proofs.Ytefhenfofomjhaa
