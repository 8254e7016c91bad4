/- The specification's parser on tokens that stand elsewhere: two programs, one behind the other; an expression within a program. -/
import Derived.Test.YtefhenfofomjhaaLx7
import Derived.Test.YtefhenfofomjhaaPp2
set_option linter.unusedSimpArgs false
set_option linter.unusedVariables false
namespace Go.Proofs.Ytefhenfofomjhaa
open Go.RowKit Go.V
set_option maxRecDepth 20000
theorem skip_take:∀ (l:List UInt8) (b:Bool) (n:Nat),zb2 b (l.take n)=min n (zb2 b l)
 | [],b,n=>by simp [zb2]
 | c::l,b,0=>by simp [zb2]
 | c::l,true,n+1=>by
  simp only [List.take_succ_cons,zb2]
  split<;>rw [skip_take l]<;>omega
 | c::l,false,n+1=>by
  simp only [List.take_succ_cons,zb2]
  split
  ·rw [skip_take l];omega
  ·split
   ·rw [skip_take l];omega
   ·simp
theorem endN_take (L:Bool):∀ (l:List UInt8) (n:Nat),zdJ L (l.take n)=min n (zdJ L l)
 | [],n=>by simp [zdJ]
 | c::l,0=>by simp [zdJ]
 | c::l,n+1=>by
  simp only [List.take_succ_cons,zdJ]
  split
  ·rw [endN_take L l];omega
  ·simp
def tokL:List UInt8→Nat × Nat × Nat
 | []=>(5,0,0)
 | c::r =>
  if letB c.toNat=true then (if 20<zdJ true (c::r) then 4 else 0,1,zdJ true (c::r))
  else if digB c.toNat=true then (if 1<zdJ false (c::r)∧c.toNat=48 then 5 else if 1000<zdJ false (c::r) then 4 else 0,2,zdJ false (c::r))
  else if sgnB c.toNat=true then (0,3,1)
  else if c.toNat=58 then (if r.head? = some 61 then 0 else 5,3,2)
  else (5,3,1)
theorem sgn_58 (c:UInt8) (h:sgnB c.toNat=true):¬c.toNat=58:=by
 intro e;rw [e] at h;revert h;decide
theorem tok_list (s:ByteArray) (q:Nat) (h:q<s.size):tokL ((bs s).drop q)=(zdK s q,tokK s q,zb1 s q-q)∧q≤zb1 s q:=by
 have hd:(((bs s).drop (q+1)).head? = some 61)=(q+1<s.size∧(zag s (q+1)).toNat=61):=by
  by_cases h1:q+1<s.size
  ·rw [zcS s (q+1) h1]
   simp only [List.head?_cons,Option.some.injEq,h1,true_and,eq_iff_iff]
   constructor
   ·intro e;rw [e];rfl
   ·intro e;apply UInt8.toNat_inj.1;rw [e];rfl
  ·rw [drop_end s (q+1) h1];simp [h1]
 unfold zdK tokK zb1 zaZ
 rw [zcS s q h]
 unfold tokL
 by_cases h1:letB (zag s q).toNat=true
 ·simp only [h1,if_true,Nat.add_sub_cancel_left];exact ⟨trivial,by omega⟩
 ·by_cases h2:digB (zag s q).toNat=true
  ·simp only [h1,h2,Bool.false_eq_true,if_true,if_false,Nat.add_sub_cancel_left];exact ⟨trivial,by omega⟩
  ·by_cases h3:sgnB (zag s q).toNat=true
   ·have h4:=sgn_58 _ h3
    simp only [h1,h2,h3,Bool.false_eq_true,if_neg h4,if_true,if_false,Nat.add_sub_cancel_left];exact ⟨trivial,by omega⟩
   ·by_cases h4:(zag s q).toNat=58
    ·simp only [h1,h2,h3,Bool.false_eq_true,if_pos h4,if_true,if_false,Nat.add_sub_cancel_left,hd];exact ⟨trivial,by omega⟩
    ·simp only [h1,h2,h3,Bool.false_eq_true,if_neg h4,if_true,if_false,Nat.add_sub_cancel_left];exact ⟨trivial,by omega⟩
theorem tok_app (T r r':List UInt8) (K:Nat) (hT:tokL (T++r)=(0,K,T.length)) (hst:∀ L,zdJ L (T++r)=T.length→zdJ L (T++r')=T.length):tokL (T++r')=(0,K,T.length):=by
 have h1:=hst true
 have h2:=hst false
 cases T with
 | nil =>
  exfalso
  cases r with
  | nil=>simp [tokL] at hT
  | cons c r =>
   simp only [List.nil_append,tokL,List.length_nil] at hT
   by_cases a1:letB c.toNat=true
   ·simp only [a1,if_true] at hT
    injection hT with _ e;injection e with _ e
    have:goOn true c=true:=goOn_let true c a1
    simp [zdJ,this] at e
   ·by_cases a2:digB c.toNat=true
    ·simp only [a1,a2,Bool.false_eq_true,if_false,if_true] at hT
     injection hT with _ e;injection e with _ e
     have:goOn false c=true:=goOn_dig false c a2
     simp [zdJ,this] at e
    ·simp only [a1,a2,Bool.false_eq_true,if_false] at hT
     (repeat' split at hT)<;>simp at hT
 | cons c T =>
  simp only [List.cons_append] at hT h1 h2 ⊢
  unfold tokL at hT ⊢
  by_cases a1:letB c.toNat=true
  ·simp only [a1,if_true] at hT ⊢
   injection hT with e1 e;injection e with e2 e3
   rw [h1 e3];rw [e3] at e1;rw [e1,e2]
  ·by_cases a2:digB c.toNat=true
   ·simp only [a1,a2,Bool.false_eq_true,if_false,if_true] at hT ⊢
    injection hT with e1 e;injection e with e2 e3
    simp only [e3] at e1
    simp only [h2 e3,e1,←e2]
   ·by_cases a3:sgnB c.toNat=true
    ·simp only [a1,a2,a3,Bool.false_eq_true,if_false,if_true] at hT ⊢;exact hT
    ·by_cases a4:c.toNat=58
     ·simp only [a1,a2,a3,Bool.false_eq_true,if_false,if_pos a4,if_true] at hT ⊢
      cases T with
      | nil=>injection hT with e1 e;injection e with e2 e3;simp at e3
      | cons d T=>exact hT
     ·simp only [a1,a2,a3,Bool.false_eq_true,if_false,if_neg a4] at hT ⊢;exact hT
inductive Lexed (s:ByteArray):Nat→List Tk→Prop
 | fin (k:Nat) (h:¬nxt s k<s.size):Lexed s k [(0,s.size,s.size)]
 | tok (k:Nat) (l:List Tk) (h:nxt s k<s.size) (he:zdK s (nxt s k)=0) (hl:Lexed s (zb1 s (nxt s k)) l):Lexed s k ((tokK s (nxt s k),nxt s k,zb1 s (nxt s k))::l)
theorem bs_pre (s:ByteArray) (p:Nat):bs (s.extract 0 p)=(bs s).take p:=by rw [zdl];simp
theorem size_pre (s:ByteArray) (p:Nat) (h:p≤s.size):(s.extract 0 p).size=p:=by rw [←zaM,bs_pre,List.length_take,zaM];omega
theorem nxt_pre (s:ByteArray) (p k:Nat) (h:p≤s.size) (hk:k≤p):nxt (s.extract 0 p) k=min p (nxt s k):=by
 unfold nxt
 rw [bs_pre,List.drop_take,skip_take];omega
theorem tok_pre (s:ByteArray) (p q:Nat) (h:p≤s.size) (hq:q<p) (he:zdK s q=0) (hz:zb1 s q≤p):zdK (s.extract 0 p) q=0∧tokK (s.extract 0 p) q=tokK s q∧zb1 (s.extract 0 p) q=zb1 s q:=by
 obtain ⟨t1,t2⟩:=zc3 s q (by omega) he
 obtain ⟨e1,_⟩:=tok_list s q (by omega)
 obtain ⟨e2,e3⟩:=tok_list (s.extract 0 p) q (by rw [size_pre s p h];exact hq)
 have hl:(((bs s).drop q).take (zb1 s q-q)).length=zb1 s q-q:=by rw [List.length_take,List.length_drop,zaM];omega
 have e4:=tok_app (((bs s).drop q).take (zb1 s q-q)) (((bs s).drop q).drop (zb1 s q-q)) ((((bs s).drop q).drop (zb1 s q-q)).take (p-zb1 s q)) (tokK s q)
  (by rw [List.take_append_drop,e1,he,hl]) (by
   intro L hL
   rw [List.take_append_drop,hl] at hL
   have:((bs s).drop q).take (zb1 s q-q)++(((bs s).drop q).drop (zb1 s q-q)).take (p-zb1 s q)=((bs s).drop q).take (p-q):=by
    have e:p-q=(zb1 s q-q)+(p-zb1 s q):=by omega
    rw [e,List.take_add]
   rw [this,endN_take,hL,hl];omega)
 have:((bs s).drop q).take (zb1 s q-q)++(((bs s).drop q).drop (zb1 s q-q)).take (p-zb1 s q)=(bs (s.extract 0 p)).drop q:=by
  rw [bs_pre,List.drop_take]
  have e:p-q=(zb1 s q-q)+(p-zb1 s q):=by omega
  rw [e,List.take_add]
 rw [this,e2,hl] at e4
 injection e4 with a1 a;injection a with a2 a3
 exact ⟨a1,a2,by omega⟩
theorem allF_lexed (s:ByteArray):∀ (f k:Nat) (acc:List Tk),k≤s.size→s.size<k+f →
  (∃ l,allF s f k acc=(acc++l,0,0)∧Lexed s k l)∨(∃ p,k≤p∧p<s.size∧zdK s p≠0∧allF s f k acc=([],p,zdK s p)∧∃ l,Lexed (s.extract 0 p) k l)
 | 0,k,acc,h,h1=>by omega
 | f+1,k,acc,h,h1=>by
  obtain ⟨n1,n2⟩:=zdB s k h
  unfold allF
  by_cases hp:nxt s k<s.size
  ·rw [if_pos hp]
   by_cases he:zdK s (nxt s k)=0
   ·rw [if_pos he]
    obtain ⟨t1,t2⟩:=zc3 s _ hp he
    rcases allF_lexed s f (zb1 s (nxt s k)) (acc++[(tokK s (nxt s k),nxt s k,zb1 s (nxt s k))]) t2 (by omega) with ⟨l,e,hl⟩|⟨p,g1,g2,g3,e,l,hl⟩
    ·exact .inl ⟨_::l,by rw [e,List.append_assoc];rfl,.tok k l hp he hl⟩
    ·refine .inr ⟨p,by omega,g2,g3,e,(tokK (s.extract 0 p) (nxt (s.extract 0 p) k),nxt (s.extract 0 p) k,zb1 (s.extract 0 p) (nxt (s.extract 0 p) k))::l,?_⟩
     have hn:nxt (s.extract 0 p) k=nxt s k:=by rw [nxt_pre s p k (by omega) (by omega)];omega
     obtain ⟨u1,u2,u3⟩:=tok_pre s p (nxt s k) (by omega) (by omega) he g1
     refine .tok k l (by rw [hn,size_pre s p (by omega)];omega) (by rw [hn];exact u1) ?_
     rw [hn,u3];exact hl
   ·rw [if_neg he]
    refine .inr ⟨nxt s k,n1,hp,he,rfl,[(0,(s.extract 0 (nxt s k)).size,(s.extract 0 (nxt s k)).size)],.fin k ?_⟩
    rw [nxt_pre s _ k (by omega) n1,size_pre s _ n2];omega
  ·rw [if_neg hp]
   exact .inl ⟨_,rfl,.fin k hp⟩
theorem lexed_all (s:ByteArray) (k:Nat) (l:List Tk) (hl:Lexed s k l):∀ acc,k≤s.size→allAt s k acc=(acc++l,0,0):=by
 induction hl with
 | fin k h=>intro acc hk;rw [allAt_eq s k acc hk,if_neg h]
 | tok k l h he hl ih =>
  intro acc hk
  rw [allAt_eq s k acc hk,if_pos h,if_pos he,ih _ (zc3 s _ h he).2]
  simp
theorem allR_cases (s:ByteArray):(∃ l,allR s=(l,0,0)∧Lexed s 0 l)∨allR s=([],0,4) ∨
  (∃ p e,p<s.size∧e≠0∧allR s=([],p,e)∧∃ l,allR (s.extract 0 p)=(l,0,0)):=by
 unfold allR
 by_cases hb:s.size≤20000
 ·simp only [if_pos hb]
  rcases allF_lexed s (s.size+1-0) 0 [] (by omega) (by omega) with ⟨l,e,hl⟩|⟨p,g1,g2,g3,e,l,hl⟩
  ·exact .inl ⟨l,e,hl⟩
  ·refine .inr (.inr ⟨p,_,g2,g3,e,l,?_⟩)
   rw [if_pos (by rw [size_pre s p (by omega)];omega)]
   exact lexed_all _ _ _ hl [] (by omega)
 ·simp only [if_neg hb]
  exact .inr (.inl trivial)
end Go.Proofs.Ytefhenfofomjhaa
namespace Go.Proofs.Ytefhenfofomjhaa
open Go.RowKit Go.V Go.ChangeMaps
set_option maxRecDepth 20000
theorem allR_small (s:ByteArray) (l:List Tk) (h:allR s=(l,0,0)):s.size≤20000:=by
 unfold allR at h
 split at h
 ·assumption
 ·injection h with _ e;injection e with _ e;cases e
theorem tokK_pos (s:ByteArray) (k:Nat):tokK s k≠0:=by unfold tokK;(repeat' split)<;>omega
end Go.Proofs.Ytefhenfofomjhaa
namespace Go.Proofs.Ytefhenfofomjhaa
open Go Go.RowKit Go.V Go.ChangeMaps
set_option maxRecDepth 20000
def tkOf (s:ByteArray) (t:Tk):Tok:=⟨t.1,t.2.1,t.2.2,bs (s.extract t.2.1 t.2.2)⟩
def tokT (s:ByteArray):List Tok:=(allR s).1.map (tkOf s)
theorem toks_tks (s:ByteArray):∀ (l:List Tk),zdW (l.map (tkOf s))=tksC s l
 | []=>rfl
 | t::l=>by
  have e:tksC s (t::l)=tokC s t++tksC s l:=rfl
  rw [e,←toks_tks s l]
  unfold zdW
  rw [List.map_cons,List.map_cons,List.flatten_cons]
  congr 1
theorem lexed_form (s:ByteArray) (k:Nat) (l:List Tk) (h:Lexed s k l):k≤s.size→∃ m:List Tk,l=m++[(0,s.size,s.size)]∧m.length≤s.size-k∧∀ t∈m,∃ q,q<s.size∧zdK s q=0∧t=(tokK s q,q,zb1 s q):=by
 induction h with
 | fin k h=>intro _;exact ⟨[],rfl,Nat.zero_le _,fun t h=>by cases h⟩
 | tok k l h he hl ih =>
  intro hk
  obtain ⟨t1,t2⟩:=zc3 s _ h he
  obtain ⟨n1,n2⟩:=zdB s k hk
  obtain ⟨m,rfl,hm,hall⟩:=ih t2
  refine ⟨_::m,rfl,by simp;omega,fun t ht=>?_⟩
  rcases List.mem_cons.1 ht with rfl|ht
  ·exact ⟨_,h,he,rfl⟩
  ·exact hall t ht
theorem tok_text (s:ByteArray) (q:Nat) (h:q<s.size) (he:zdK s q=0):∃ r,(bs s).drop q=bs (s.extract q (zb1 s q))++r∧(bs (s.extract q (zb1 s q))).length=zb1 s q-q∧tokL (bs (s.extract q (zb1 s q))++r)=(0,tokK s q,(bs (s.extract q (zb1 s q))).length)∧0<(bs (s.extract q (zb1 s q))).length:=by
 obtain ⟨t1,t2⟩:=zc3 s q h he
 obtain ⟨tl,_⟩:=tok_list s q h
 have hT:bs (s.extract q (zb1 s q))=((bs s).drop q).take (zb1 s q-q):=by rw [zdl]
 have hTl:(bs (s.extract q (zb1 s q))).length=zb1 s q-q:=by rw [hT,List.length_take,List.length_drop,zaM];omega
 refine ⟨((bs s).drop q).drop (zb1 s q-q),by rw [hT,List.take_append_drop],hTl,?_,by omega⟩
 rw [hTl,hT,List.take_append_drop,tl,he]
theorem endN_pre (L:Bool) (T r:List UInt8) (h:zdJ L (T++r)=T.length):T.all (goOn L)=true:=by
 induction T with
 | nil=>rfl
 | cons c T ih =>
  rw [List.cons_append,zdJ] at h
  split at h
  ·rename_i hc
   rw [List.all_cons,hc,ih (by simpa using h)];rfl
  ·simp at h
theorem tok_name {T r:List UInt8} (h:tokL (T++r)=(0,1,T.length)) (h0:0<T.length):nameB T = !isKw T:=by
 have hp:preB T=true:=by
  cases T with
  | nil=>simp at h0
  | cons c T =>
   rw [List.cons_append] at h
   unfold tokL at h
   by_cases a1:letB c.toNat=true
   ·simp only [a1,if_true] at h
    injection h with e1 e;injection e with e2 e3
    have hall:=endN_pre true (c::T) r e3
    rw [e3] at e1
    have hk:zcu c.toNat=2:=by
     have:=kind_letter (c.toNat:Int)
     rw [a1] at this;simpa using this
    have hl:(c::T).length≤20:=by
     by_cases h20:20<(c::T).length
     ·rw [if_pos h20] at e1;cases e1
     ·omega
    unfold preB
    rw [hall]
    simp [hk]
    simpa using hl
   ·exfalso
    by_cases a2:digB c.toNat=true
    ·simp only [a1,a2,Bool.false_eq_true,if_false,if_true] at h
     injection h with e1 e;injection e with e2 e3;cases e2
    ·simp only [a1,a2,Bool.false_eq_true,if_false] at h
     (repeat' split at h)<;>(injection h with e1 e;injection e with e2 e3;cases e2)
 unfold nameB
 rw [hp];rfl
theorem slk_none:∀ {l:List UInt8},(∀ x∈l,48≤x.toNat)→slk l=l.length
 | [],_=>rfl
 | c::l,h=>by
  have h1:=h c (List.mem_cons_self ..)
  have h2:¬c=47:=fun e=>by rw [e] at h1;exact absurd h1 (by decide)
  unfold slk
  rw [if_neg h2,slk_none (fun x hx=>h x (List.mem_cons_of_mem _ hx)),List.length_cons]
theorem tok_num {T r:List UInt8} (h:tokL (T++r)=(0,2,T.length)) (h0:0<T.length):qrE T=0:=by
 cases T with
 | nil=>simp at h0
 | cons c T =>
  rw [List.cons_append] at h
  unfold tokL at h
  by_cases a1:letB c.toNat=true
  ·simp only [a1,if_true] at h
   injection h with e1 e;injection e with e2 e3;cases e2
  ·by_cases a2:digB c.toNat=true
   ·simp only [a1,a2,Bool.false_eq_true,if_false,if_true] at h
    injection h with e1 e;injection e with e2 e3
    have hall:=endN_pre false (c::T) r e3
    rw [e3] at e1
    have h48:¬(1<(c::T).length∧c.toNat=48):=by
     intro hc;rw [if_pos hc] at e1;cases e1
    rw [if_neg h48] at e1
    have hl:(c::T).length≤1000:=by
     by_cases h20:1000<(c::T).length
     ·rw [if_pos h20] at e1;cases e1
     ·omega
    have hdig:∀ x∈c::T,48≤x.toNat∧x.toNat≤57:=by
     intro x hx
     have h1:=List.all_eq_true.1 hall x hx
     have h2:=kind_digit (x.toNat:Int)
     unfold goOn at h1
     simp only [Bool.false_and,Bool.or_false] at h1
     rw [h1] at h2
     have h3:=h2.symm
     unfold digB at h3
     simp at h3
     omega
    have hc0:=hdig c (List.mem_cons_self ..)
    have hs:slk (c::T)=(c::T).length:=slk_none (fun x hx=>(hdig x hx).1)
    have hA:slA (c::T)=c::T:=by unfold slA;rw [hs,List.take_length]
    have hH:slH (c::T)=false:=by unfold slH;rw [hs];simp
    have hn:izn (c::T)=false:=by unfold izn;simp [ch];omega
    have hd:izd (c::T)=c::T:=by unfold izd;rw [hn];rfl
    have hb:rdBad (c::T)=false:=by
     unfold rdBad
     rw [Bool.or_eq_false_iff]
     constructor
     ·rw [Bool.and_eq_false_iff]
      by_cases h1:1<(c::T).length
      ·right
       have:¬c.toNat=48:=fun e=>h48 ⟨h1,e⟩
       simp only [List.getD_cons_zero,decide_eq_false_iff_not]
       intro e;rw [e] at this;exact this rfl
      ·left;simpa using h1
     ·rw [List.any_eq_false]
      intro x hx
      have:=hdig x hx
      unfold isD;simp;omega
    have hr:rdE (c::T)=0:=by unfold rdE;rw [if_neg (by simp),if_neg (by omega),hb];rfl
    have hi:izE (c::T)=0:=by unfold izE;rw [hd,hr,hn];simp
    unfold qrE
    rw [hA,hi,hH];rfl
   ·exfalso
    simp only [a1,a2,Bool.false_eq_true,if_false] at h
    (repeat' split at h)<;>(injection h with e1 e;injection e with e2 e3;cases e2)
theorem wf_tok {s:ByteArray} (h:(allR s).2.2=0):Wf (tokT s):=by
 rcases allR_cases s with ⟨l,e,hl⟩|e|⟨p,er,_,hne,e,_⟩
 ·have hsm:=allR_small s l e
  obtain ⟨m,rfl,hm,hall⟩:=lexed_form s 0 l hl (Nat.zero_le _)
  have hT:tokT s=m.map (tkOf s)++[⟨0,s.size,s.size,[]⟩]:=by
   unfold tokT
   rw [e,List.map_append]
   congr 1
   simp [tkOf,zdC]
   rfl
  have hlen:(tokT s).length=m.length+1:=by rw [hT];simp
  have hin:∀ i,i<m.length→∃ q,q<s.size∧zdK s q=0∧zal (tokT s) i=tkOf s (tokK s q,q,zb1 s q):=by
   intro i hi
   obtain ⟨q,q1,q2,q3⟩:=hall _ (List.getElem_mem hi)
   refine ⟨q,q1,q2,?_⟩
   unfold zal
   rw [hT,List.getD_eq_getElem?_getD,List.getElem?_append_left (by simpa using hi)]
   simp [hi,q3]
  have hend:zal (tokT s) m.length=⟨0,s.size,s.size,[]⟩:=by
   unfold zal
   rw [hT,List.getD_eq_getElem?_getD,List.getElem?_append_right (by simp)]
   simp
  have hout:∀ i,m.length<i→zal (tokT s) i=⟨0,0,0,[]⟩:=by
   intro i hi
   unfold zal
   rw [List.getD_eq_getElem?_getD,List.getElem?_eq_none (by omega)]
   rfl
  have hcases:∀ i,(∃ q,q<s.size∧zdK s q=0∧zal (tokT s) i=tkOf s (tokK s q,q,zb1 s q))∨((zal (tokT s) i).k=0∧(zal (tokT s) i).t=[]∧(zal (tokT s) i).p≤s.size):=by
   intro i
   rcases Nat.lt_trichotomy i m.length with hi|hi|hi
   ·exact .inl (hin i hi)
   ·right;rw [hi,hend];exact ⟨rfl,rfl,Nat.le_refl _⟩
   ·right;rw [hout i hi];exact ⟨rfl,rfl,Nat.zero_le _⟩
  refine ⟨by omega,fun i hi=>?_,?_,fun i hk=>?_,fun i hk=>?_,fun i hk=>?_,fun i hk=>?_,fun i=>?_,by omega,fun i=>?_⟩
  ·obtain ⟨q,q1,q2,q3⟩:=hin i (by omega)
   rw [q3];exact tokK_pos s q
  ·rw [hlen,Nat.add_sub_cancel,hend]
  ·rcases hcases i with ⟨q,q1,q2,q3⟩|⟨c1,c2,c3⟩
   ·rw [q3] at hk;exact absurd hk (tokK_pos s q)
   ·exact c2
  ·rcases hcases i with ⟨q,q1,q2,q3⟩|⟨c1,c2,c3⟩
   ·rw [q3]
    obtain ⟨r,_,_,_,r4⟩:=tok_text s q q1 q2
    intro e0
    rw [show (tkOf s (tokK s q,q,zb1 s q)).t=bs (s.extract q (zb1 s q)) from rfl] at e0
    rw [e0] at r4;cases r4
   ·exact absurd c1 hk
  ·rcases hcases i with ⟨q,q1,q2,q3⟩|⟨c1,c2,c3⟩
   ·rw [q3] at hk ⊢
    obtain ⟨r,_,_,r3,r4⟩:=tok_text s q q1 q2
    have hk':tokK s q=1:=hk
    rw [hk'] at r3
    exact tok_name r3 r4
   ·rw [c1] at hk;cases hk
  ·rcases hcases i with ⟨q,q1,q2,q3⟩|⟨c1,c2,c3⟩
   ·rw [q3] at hk ⊢
    obtain ⟨r,_,_,r3,r4⟩:=tok_text s q q1 q2
    have hk':tokK s q=2:=hk
    rw [hk'] at r3
    exact tok_num r3 r4
   ·rw [c1] at hk;cases hk
  ·rcases hcases i with ⟨q,q1,q2,q3⟩|⟨c1,c2,c3⟩
   ·rw [q3]
    show (bs (s.extract q (zb1 s q))).length≤20000
    obtain ⟨r,_,r2,_,_⟩:=tok_text s q q1 q2
    have:=(zc3 s q q1 q2).2
    omega
   ·rw [c2];exact Nat.zero_le _
  ·rcases hcases i with ⟨q,q1,q2,q3⟩|⟨c1,c2,c3⟩
   ·rw [q3]
    show q≤20000
    omega
   ·omega
 ·rw [e] at h;cases h
 ·rw [e] at h;exact absurd h hne
end Go.Proofs.Ytefhenfofomjhaa
namespace Go.Proofs.Ytefhenfofomjhaa
open Go Go.RowKit Go.V
set_option maxRecDepth 20000
theorem strL_at {l:List (List UInt8)} {i:Nat} (h:i<l.length):(l.map strV).getD i undef=strV (l.getD i []):=by
 simp [List.getD_eq_getElem?_getD,h]
def resI {α:Type}:Res α→Nat
 | .ok _ j=>j
 | .er j _=>j
end Go.Proofs.Ytefhenfofomjhaa
namespace Go.Proofs.Ytefhenfofomjhaa
open Go Go.RowKit Go.V
section
variable {T:List Tok}
theorem exp_lt (hW:Wf T) {t:List UInt8} {i:Nat} (hi:i<T.length):resI (expS T t i)<T.length:=by
 unfold expS
 split
 ·exact hi
 ·rename_i h
  exact hW.next hi (fun e=>h (.inl e))
theorem rat2_lt (hW:Wf T) {a:Rat} {i:Nat} (hi:i<T.length):resI (ratS2 T a i)<T.length:=by
 unfold ratS2
 by_cases h1:(zal T i).t=sSL
 ·have hk:(zal T i).k≠0:=fun h=>by have:=hW.text i h;rw [h1] at this;cases this
  have hj:=hW.next hi hk
  rw [if_neg (fun h=>h h1)]
  by_cases h2:(zal T (i+1)).k=2
  ·have hj2:=hW.next hj (by rw [h2];decide)
   rw [if_neg (fun h=>h h2)]
   split
   ·exact hj
   ·exact hj2
  ·rw [if_pos h2];exact hj
 ·rw [if_pos h1];exact hi
theorem rat1_lt (hW:Wf T) {neg:Bool} {i:Nat} (hi:i<T.length):resI (ratS1 T neg i)<T.length:=by
 unfold ratS1
 by_cases h2:(zal T i).k=2
 ·rw [if_neg (fun h=>h h2)]
  exact rat2_lt hW (hW.next hi (by rw [h2];decide))
 ·rw [if_pos h2];exact hi
theorem rat_lt (hW:Wf T) {i:Nat} (hi:i<T.length):resI (ratS T i)<T.length:=by
 unfold ratS
 have h:=exp_lt hW (t:=sCM) hi
 cases he:expS T sCM i with
 | er j e=>rw [he] at h;exact h
 | ok u j =>
  rw [he] at h
  have hj:j<T.length:=h
  simp only
  by_cases hm:(zal T j).t=sMI
  ·have hk:(zal T j).k≠0:=fun h=>by have:=hW.text j h;rw [hm] at this;cases this
   rw [if_pos hm]
   exact rat1_lt hW (hW.next hj hk)
  ·rw [if_neg hm];exact rat1_lt hW hj
theorem args_lt (hW:Wf T) {arg:Int→Nat→Res Tre} (ha:∀ p i,i<T.length→resI (arg p i)<T.length):∀ (ps:List Int) (first:Bool) (i:Nat),i<T.length→resI (zc9 T arg first ps i)<T.length
 | [],first,i,hi=>hi
 | p::r,first,i,hi=>by
  unfold zc9
  have h:=exp_lt hW (t:=if first=true then sLP else sCM) hi
  cases he:expS T (if first=true then sLP else sCM) i with
  | er j e=>rw [he] at h;exact h
  | ok u j =>
   rw [he] at h
   have hj:j<T.length:=h
   simp only
   have h1:=ha p j hj
   cases hr:arg p j with
   | er j e=>rw [hr] at h1;exact h1
   | ok x j2 =>
    rw [hr] at h1
    have hj2:j2<T.length:=h1
    simp only
    have h2:=args_lt hW ha r false j2 hj2
    cases hz:zc9 T arg false r j2 with
    | er j e=>rw [hz] at h2;exact h2
    | ok xs j3=>rw [hz] at h2;exact h2
theorem end_lt (hW:Wf T) {k:Int} {i:Nat} (hi:i<T.length):resI (endS T k i)<T.length:=by
 unfold endS
 have h0:resI (if hasR k=true then (match ratS T i with | .er j e=>Res.er j e | .ok x j=>.ok (qR3 x) j) else .ok r30 i)<T.length:=by
  split
  ·have:=rat_lt hW hi
   cases hr:ratS T i with
   | er j e=>rw [hr] at this;exact this
   | ok x j=>rw [hr] at this;exact this
  ·exact hi
 generalize (if hasR k=true then (match ratS T i with | .er j e=>Res.er j e | .ok x j=>.ok (qR3 x) j) else .ok r30 i)=r at h0
 cases r with
 | er j e=>exact h0
 | ok q j =>
  have hj:j<T.length:=h0
  simp only
  have h:=exp_lt hW (t:=sRP) hj
  cases he:expS T sRP j with
  | er j e=>rw [he] at h;exact h
  | ok u j=>rw [he] at h;exact h
theorem con_lt (hW:Wf T) {arg:Int→Nat→Res Tre} (ha:∀ p i,i<T.length→resI (arg p i)<T.length) {sort:Int} {i:Nat} (hi:i<T.length):resI (conS T arg sort i)<T.length:=by
 unfold conS
 by_cases h0:kofS T i sort=0
 ·rw [if_pos h0];exact hi
 ·rw [if_neg h0]
  have hk:(zal T i).k≠0:=by
   intro h;apply h0;unfold kofS;rw [if_pos (by rw [h];decide)]
  have h1:=args_lt hW ha (zc1 (kofS T i sort)) true (i+1) (hW.next hi hk)
  cases hz:zc9 T arg true (zc1 (kofS T i sort)) (i+1) with
  | er j e=>rw [hz] at h1;exact h1
  | ok xs j =>
   rw [hz] at h1
   have hj:j<T.length:=h1
   have h2:=end_lt hW (k:=kofS T i sort) hj
   simp only
   cases he:endS T (kofS T i sort) j with
   | er j e=>rw [he] at h2;exact h2
   | ok q j2=>rw [he] at h2;exact h2
theorem arg_lt (hW:Wf T):∀ (f:Nat) (sort:Int) (i:Nat),i<T.length→resI (argS T f sort i)<T.length
 | 0,sort,i,hi=>by
  unfold argS
  split<;>exact hi
 | f+1,sort,i,hi=>by
  unfold argS
  split
  ·exact hi
  ·simp only
   by_cases hn:nmS T i=true
   ·rw [if_pos hn]
    exact hW.next hi (by rw [nmS_k hn];decide)
   ·rw [if_neg hn]
    exact con_lt hW (fun p i hi=>arg_lt hW f p i hi) hi
end
end Go.Proofs.Ytefhenfofomjhaa
namespace Go.Proofs.Ytefhenfofomjhaa
open Go Go.RowKit Go.V Go.ChangeMaps
set_option maxRecDepth 20000
inductive LexL:Nat→List UInt8→List Tok→Prop
 | fin (o:Nat) (l:List UInt8) (h:zb2 false l=l.length):LexL o l [⟨0,o+l.length,o+l.length,[]⟩]
 | tok (o:Nat) (l:List UInt8) (n m K:Nat) (T:List Tok) (hn:zb2 false l=n) (hlt:n<l.length) (ht:tokL (l.drop n)=(0,K,m)) (hl:LexL (o+n+m) (l.drop (n+m)) T):LexL o l (⟨K,o+n,o+n+m,(l.drop n).take m⟩::T)
theorem lexL_of (s:ByteArray) (k:Nat) (l:List Tk) (h:Lexed s k l):k≤s.size→LexL k ((bs s).drop k) (l.map (tkOf s)):=by
 induction h with
 | fin k h =>
  intro hk
  obtain ⟨n1,n2⟩:=zdB s k hk
  have e:nxt s k=k+zb2 false ((bs s).drop k):=rfl
  have hlen:((bs s).drop k).length=s.size-k:=by rw [List.length_drop,zaM]
  have hf:=LexL.fin k ((bs s).drop k) (by omega)
  have e2:k+((bs s).drop k).length=s.size:=by omega
  rw [e2] at hf
  have e3:tkOf s (0,s.size,s.size)=⟨0,s.size,s.size,[]⟩:=by unfold tkOf;simp [zdC,bs]
  rw [List.map_cons,List.map_nil,e3]
  exact hf
 | tok k l h he hl ih =>
  intro hk
  obtain ⟨t1,t2⟩:=zc3 s _ h he
  obtain ⟨tl,_⟩:=tok_list s _ h
  obtain ⟨n1,n2⟩:=zdB s k hk
  have e:nxt s k=k+zb2 false ((bs s).drop k):=rfl
  have ih:=ih t2
  generalize hq:nxt s k=q at *
  obtain ⟨n,hn⟩:∃ n,n=zb2 false ((bs s).drop k):=⟨_,rfl⟩
  rw [←hn] at e
  have hlen:((bs s).drop k).length=s.size-k:=by rw [List.length_drop,zaM]
  have hz:zb1 s q=k+n+(zb1 s q-q):=by omega
  have hm:tkOf s (tokK s q,q,zb1 s q)=⟨tokK s q,k+n,k+n+(zb1 s q-q),(((bs s).drop k).drop n).take (zb1 s q-q)⟩:=by
   unfold tkOf
   rw [List.drop_drop,←e,zdl];simp only [Tok.mk.injEq,true_and,and_true];omega
  rw [List.map_cons,hm]
  refine .tok k _ n (zb1 s q-q) _ _ hn.symm (by omega) ?_ ?_
  ·rw [List.drop_drop,←e,tl,he]
  ·rw [List.drop_drop,show k+(n+(zb1 s q-q))=zb1 s q by omega,←hz]
   exact ih
theorem lexL_to (s:ByteArray) (k:Nat) (l:List UInt8) (T:List Tok) (h:LexL k l T):k≤s.size→l=(bs s).drop k→∃ m:List Tk,Lexed s k m∧m.map (tkOf s)=T:=by
 induction h with
 | fin k l h =>
  intro hk hl
  subst hl
  have hlen:((bs s).drop k).length=s.size-k:=by rw [List.length_drop,zaM]
  have e:nxt s k=k+zb2 false ((bs s).drop k):=rfl
  refine ⟨[(0,s.size,s.size)],.fin k (by omega),?_⟩
  have e3:tkOf s (0,s.size,s.size)=⟨0,s.size,s.size,[]⟩:=by unfold tkOf;simp [zdC,bs]
  have e2:k+((bs s).drop k).length=s.size:=by omega
  rw [e2,List.map_cons,List.map_nil,e3]
 | tok k l n m K T hn hlt ht hl ih =>
  intro hk hll
  subst hll
  have hlen:((bs s).drop k).length=s.size-k:=by rw [List.length_drop,zaM]
  have e:nxt s k=k+zb2 false ((bs s).drop k):=rfl
  rw [hn] at e
  have hlt2:nxt s k<s.size:=by omega
  obtain ⟨tl,tz⟩:=tok_list s _ hlt2
  rw [e,←List.drop_drop,ht] at tl
  injection tl with t1 tl
  injection tl with t2 t3
  rw [e] at tz
  obtain ⟨s1,s2⟩:=zc3 s (nxt s k) hlt2 (by rw [e];exact t1.symm)
  rw [e] at s1 s2
  have hz:zb1 s (k+n)=k+n+m:=by omega
  obtain ⟨ml,m1,m2⟩:=ih (by omega) (by rw [List.drop_drop,Nat.add_assoc])
  refine ⟨(tokK s (nxt s k),nxt s k,zb1 s (nxt s k))::ml,.tok k ml hlt2 (by rw [e];exact t1.symm) (by rw [e,hz];exact m1),?_⟩
  rw [List.map_cons,m2,e]
  congr 1
  unfold tkOf
  rw [zdl]
  simp only [hz,←t2]
  rw [←List.drop_drop,Nat.add_sub_cancel_left]
theorem lexL_allR {s:ByteArray} (h:(allR s).2.2=0):LexL 0 (bs s) (tokT s):=by
 rcases allR_cases s with ⟨l,e,hl⟩|e|⟨p,er,_,hne,e,_⟩
 ·have:=lexL_of s 0 l hl (Nat.zero_le _)
  unfold tokT
  rw [e]
  simpa using this
 ·rw [e] at h;cases h
 ·rw [e] at h;exact absurd h hne
theorem allR_lexL {s:ByteArray} {T:List Tok} (h:LexL 0 (bs s) T) (hs:s.size≤20000):(allR s).2.2=0∧tokT s=T:=by
 obtain ⟨m,h1,h2⟩:=lexL_to s 0 _ T h (Nat.zero_le _) (by simp)
 have e:allR s=(m,0,0):=by
  unfold allR
  rw [if_pos hs,lexed_all s 0 m h1 [] (Nat.zero_le _),List.nil_append]
 unfold tokT
 rw [e]
 exact ⟨rfl,h2⟩
def shK (d:Nat) (t:Tok):Tok:=⟨t.k,t.p+d,t.e+d,t.t⟩
theorem lexL_shift (d:Nat) {o:Nat} {l:List UInt8} {T:List Tok} (h:LexL o l T):LexL (o+d) l (T.map (shK d)):=by
 induction h with
 | fin o l h =>
  have:=LexL.fin (o+d) l h
  rw [show o+d+l.length=o+l.length+d by omega] at this
  exact this
 | tok o l n m K T hn hlt ht hl ih =>
  rw [show o+n+m+d=o+d+n+m by omega] at ih
  have:=LexL.tok (o+d) l n m K _ hn hlt ht ih
  rw [List.map_cons]
  unfold shK at this ⊢
  simp only
  rw [show o+n+d=o+d+n by omega,show o+n+m+d=o+d+n+m by omega]
  exact this
theorem lexL_skip {o n:Nat} {l:List UInt8} {T:List Tok} (h:LexL (o+n) (l.drop n) T) (hn:n≤l.length) (hs:zb2 false l=n+zb2 false (l.drop n)):LexL o l T:=by
 have hld:(l.drop n).length=l.length-n:=List.length_drop ..
 generalize hx:l.drop n=x at *
 generalize ho:o+n=q at *
 cases h with
 | fin _ _ h =>
  have:=LexL.fin o l (by omega)
  rw [show o+l.length=q+x.length by omega] at this
  exact this
 | tok _ _ n1 m K T h1 h2 h3 h4 =>
  have hd:l.drop (n+n1)=x.drop n1:=by rw [←hx,List.drop_drop]
  have:=LexL.tok o l (n+n1) m K T (by omega) (by omega) (by rw [hd];exact h3) (by rw [show n+n1+m=n+(n1+m) by omega,←List.drop_drop,hx,show o+(n+n1)+m=q+n1+m by omega];exact h4)
  rw [hd,show o+(n+n1)=q+n1 by omega] at this
  exact this
theorem zdm:∀ (b:Bool) (l r:List UInt8),zb2 b l=l.length→zb2 b (l++10::r)=l.length+1+zb2 false r
 | true,[],r,_=>by simp [zb2];omega
 | false,[],r,_=>by
  have:blkB (10:UInt8).toNat=true:=by decide
  simp only [List.nil_append,zb2,this,if_true,List.length_nil];omega
 | true,c::l,r,h=>by
  simp only [zb2,List.length_cons,List.cons_append] at h ⊢
  split at h
  ·rename_i hc;rw [if_pos hc,zdm false l r (by omega)];omega
  ·rename_i hc;rw [if_neg hc,zdm true l r (by omega)];omega
 | false,c::l,r,h=>by
  simp only [zb2,List.length_cons,List.cons_append] at h ⊢
  split at h
  ·rename_i hc;rw [if_pos hc,zdm false l r (by omega)];omega
  ·rename_i hc
   rw [if_neg hc]
   split at h
   ·rename_i hd;rw [if_pos hd,zdm true l r (by omega)];omega
   ·omega
theorem skip_ltA:∀ (b:Bool) (l r:List UInt8),zb2 b l<l.length→zb2 b (l++r)=zb2 b l
 | b,[],r,h=>by simp at h
 | true,c::l,r,h=>by
  simp only [zb2,List.length_cons,List.cons_append] at h ⊢
  split at h
  ·rename_i hc;rw [if_pos hc,if_pos hc,skip_ltA false l r (by omega)]
  ·rename_i hc;rw [if_neg hc,if_neg hc,skip_ltA true l r (by omega)]
 | false,c::l,r,h=>by
  simp only [zb2,List.length_cons,List.cons_append] at h ⊢
  split at h
  ·rename_i hc;rw [if_pos hc,if_pos hc,skip_ltA false l r (by omega)]
  ·rename_i hc
   rw [if_neg hc,if_neg hc]
   split at h
   ·rename_i hd;rw [if_pos hd,if_pos hd,skip_ltA true l r (by omega)]
   ·rename_i hd;rw [if_neg hd,if_neg hd]
theorem endN_ltA (L:Bool):∀ (l r:List UInt8),zdJ L l<l.length→zdJ L (l++r)=zdJ L l
 | [],r,h=>by simp at h
 | c::l,r,h=>by
  simp only [zdJ,List.length_cons,List.cons_append] at h ⊢
  split at h
  ·rename_i hc;rw [if_pos hc,if_pos hc,endN_ltA L l r (by omega)]
  ·rename_i hc;rw [if_neg hc,if_neg hc]
theorem endN_allA (L:Bool):∀ (T r:List UInt8),zdJ L T=T.length→zdJ L (T++r)=T.length+zdJ L r
 | [],r,_=>by simp
 | c::T,r,h=>by
  have:=endN_le L T
  simp only [zdJ,List.length_cons] at h
  simp only [List.cons_append,zdJ,List.length_cons]
  split at h
  ·rename_i hc
   rw [if_pos hc,endN_allA L T r (by omega)];omega
  ·omega
theorem tokL_len {l:List UInt8} {K m:Nat} (h:tokL l=(0,K,m)):m≤l.length:=by
 cases l with
 | nil=>simp [tokL] at h
 | cons c r =>
  have e1:=endN_le true (c::r)
  have e2:=endN_le false (c::r)
  unfold tokL at h
  by_cases a1:letB c.toNat=true
  ·simp only [a1,if_true,Prod.mk.injEq] at h;omega
  ·by_cases a2:digB c.toNat=true
   ·simp only [a1,a2,Bool.false_eq_true,if_true,if_false,Prod.mk.injEq] at h;omega
   ·by_cases a3:sgnB c.toNat=true
    ·simp only [a1,a2,a3,Bool.false_eq_true,if_true,if_false,Prod.mk.injEq] at h
     simp only [List.length_cons];omega
    ·by_cases a4:c.toNat=58
     ·simp only [a1,a2,a3,Bool.false_eq_true,if_false,if_pos a4,Prod.mk.injEq] at h
      cases r with
      | nil=>simp at h
      | cons d r=>simp only [List.length_cons];omega
     ·simp only [a1,a2,a3,Bool.false_eq_true,if_false,if_neg a4,Prod.mk.injEq] at h;omega
theorem tokL_nl {l:List UInt8} {K m:Nat} (h:tokL l=(0,K,m)) (b:List UInt8):tokL (l++10::b)=(0,K,m):=by
 have hm:=tokL_len h
 have hl:(l.take m).length=m:=by rw [List.length_take];omega
 have e0:tokL (l.take m++l.drop m)=(0,K,(l.take m).length):=by rw [List.take_append_drop,h,hl]
 have:=tok_app (l.take m) (l.drop m) (l.drop m++10::b) K e0 (by
  intro L hL
  by_cases hd:l.drop m=[]
  ·rw [hd,List.append_nil] at hL
   rw [hd,List.nil_append,endN_allA L _ _ hL]
   have:goOn L 10=false:=by cases L<;>decide
   simp [zdJ,this]
  ·have h1:0<(l.drop m).length:=by
    cases hx:l.drop m with
    | nil=>exact absurd hx hd
    | cons c r=>simp
   rw [←List.append_assoc,endN_ltA L _ _ (by rw [hL,List.length_append];omega),hL])
 rw [←List.append_assoc,List.take_append_drop,hl] at this
 exact this
theorem lexL_join {o:Nat} {a:List UInt8} {TA:List Tok} (h:LexL o a TA):∃ TI:List Tok,TA=TI++[⟨0,o+a.length,o+a.length,[]⟩]∧∀ b TB,LexL (o+a.length+1) b TB→LexL o (a++10::b) (TI++TB):=by
 induction h with
 | fin o l h =>
  refine ⟨[],rfl,fun b TB hb=>?_⟩
  have e:=zdm false l b h
  have hd:(l++10::b).drop (l.length+1)=b:=by
   rw [←List.drop_drop,List.drop_left];rfl
  refine lexL_skip (n:=l.length+1) ?_ (by simp) ?_
  ·rw [hd];exact hb
  ·rw [hd];exact e
 | tok o l n m K T hn hlt ht hl ih =>
  obtain ⟨TI,h1,h2⟩:=ih
  have hm:=tokL_len ht
  rw [List.length_drop] at hm
  have hld:(l.drop (n+m)).length=l.length-(n+m):=List.length_drop ..
  have hlen:o+n+m+(l.drop (n+m)).length=o+l.length:=by omega
  refine ⟨⟨K,o+n,o+n+m,(l.drop n).take m⟩::TI,by rw [h1,hlen];rfl,fun b TB hb=>?_⟩
  have hd1:(l++10::b).drop n=l.drop n++10::b:=by rw [List.drop_append_of_le_length (by omega)]
  have hd2:(l++10::b).drop (n+m)=l.drop (n+m)++10::b:=by rw [List.drop_append_of_le_length (by omega)]
  have hnn:=skip_ltA false l (10::b) (by omega)
  have:=LexL.tok o (l++10::b) n m K (TI++TB) (by omega) (by simp;omega) (by rw [hd1];exact tokL_nl ht b) (by rw [hd2];exact h2 b TB (by rw [hlen];exact hb))
  rw [hd1,List.take_append_of_le_length (by rw [List.length_drop];omega)] at this
  exact this
end Go.Proofs.Ytefhenfofomjhaa
namespace Go.Proofs.Ytefhenfofomjhaa
open Go Go.RowKit Go.V
set_option maxRecDepth 20000
mutual
def mvW (c:Int):Tre→Tre
 | .mk k n b l m args p=>.mk k n b l m (mvL c args) (IntKind.i64.wrap (p+c))
def mvL (c:Int):List Tre→List Tre
 | []=>[]
 | x::r=>mvW c x::mvL c r
end
theorem mvL_map (c:Int):∀ l:List Tre,mvL c l=l.map (mvW c)
 | []=>by rw [mvL];rfl
 | x::r=>by rw [mvL,mvL_map c r];rfl
theorem mvW_mk (c k:Int) (n:List UInt8) (b:Bool) (l m:List Nat) (args:List Tre) (p:Int):mvW c (.mk k n b l m args p) = .mk k n b l m (args.map (mvW c)) (IntKind.i64.wrap (p+c)):=by rw [mvW,mvL_map]
def mvS (mv:Tre→Tre) (mp:Int→Int) (s:Stm):Stm:=⟨s.kind,s.names,if s.kind=1 then s.expr else mv s.expr,mp s.pos⟩
theorem mvS_id (s:Stm):mvS id id s=s:=by
 cases s
 unfold mvS
 simp
structure Sim (T T':List Tok) (d N:Nat) (mv:Tre→Tre) (mp:Int→Int):Prop where
 tk:∀ i,i<N→(zal T' (i+d)).k=(zal T i).k∧(zal T' (i+d)).t=(zal T i).t
 mv:∀ i,i<N→∀ k n b l m args,mv (.mk k n b l m args (zal T i).p) = .mk k n b l m (args.map mv) (zal T' (i+d)).p
 mp:∀ i,i<N→mp (zal T i).p=(zal T' (i+d)).p
section
variable {T T':List Tok} {d N:Nat} {mv:Tre→Tre} {mp:Int→Int}
theorem Sim.nm (S:Sim T T' d N mv mp) {i:Nat} (hi:i<N):nmS T' (i+d)=nmS T i:=by
 obtain ⟨h1,h2⟩:=S.tk i hi
 unfold nmS;rw [h1,h2]
theorem Sim.kof (S:Sim T T' d N mv mp) {i:Nat} (hi:i<N) (sort:Int):kofS T' (i+d) sort=kofS T i sort:=by
 obtain ⟨h1,h2⟩:=S.tk i hi
 unfold kofS;rw [h1,h2]
theorem Sim.exp (S:Sim T T' d N mv mp) {t:List UInt8} {i j:Nat} {u:Unit} (h:expS T t i = .ok u j) (hj:j≤N):expS T' t (i+d) = .ok u (j+d):=by
 have e:=zd3 h
 subst e
 obtain ⟨h1,h2⟩:=S.tk i (by omega)
 unfold expS at h ⊢
 rw [h1,h2]
 split at h
 ·cases h
 ·rename_i hc
  rw [if_neg hc,show i+d+1=i+1+d by omega]
theorem rat2_le {a x:Rat} {i j:Nat} (h:ratS2 T a i = .ok x j):i≤j:=by
 unfold ratS2 at h
 (repeat' split at h)<;>first|(injection h with _ h;omega)|(exfalso;cases h;done)
theorem Sim.rat2 (S:Sim T T' d N mv mp) {a x:Rat} {i j:Nat} (h:ratS2 T a i = .ok x j) (hj:j<N):ratS2 T' a (i+d) = .ok x (j+d):=by
 have hle:=rat2_le h
 obtain ⟨h1,h2⟩:=S.tk i (by omega)
 unfold ratS2 at h ⊢
 rw [h2]
 by_cases c1:(zal T i).t≠sSL
 ·rw [if_pos c1] at h ⊢
  injection h with e1 e2;subst e1;subst e2;rfl
 ·rw [if_neg c1] at h ⊢
  by_cases c2:(zal T (i+1)).k≠2
  ·rw [if_pos c2] at h;cases h
  ·rw [if_neg c2] at h
   by_cases c3:qrV (zal T (i+1)).t=0
   ·rw [if_pos c3] at h;cases h
   ·rw [if_neg c3] at h
    injection h with e1 e2
    subst e2
    obtain ⟨g1,g2⟩:=S.tk (i+1) (by omega)
    rw [show i+d+1=i+1+d by omega,g1,g2,if_neg c2,if_neg c3,←e1,show i+d+2=i+2+d by omega]
theorem rat1_le {neg:Bool} {x:Rat} {i j:Nat} (h:ratS1 T neg i = .ok x j):i<j:=by
 unfold ratS1 at h
 split at h
 ·cases h
 ·have:=rat2_le h;omega
theorem Sim.rat1 (S:Sim T T' d N mv mp) {neg:Bool} {x:Rat} {i j:Nat} (h:ratS1 T neg i = .ok x j) (hj:j<N):ratS1 T' neg (i+d) = .ok x (j+d):=by
 have hle:=rat1_le h
 obtain ⟨h1,h2⟩:=S.tk i (by omega)
 unfold ratS1 at h ⊢
 rw [h1,h2]
 split at h
 ·cases h
 ·rename_i hc
  rw [if_neg hc,show i+d+1=i+1+d by omega]
  exact S.rat2 h hj
theorem rat_le {x:Rat} {i j:Nat} (h:ratS T i = .ok x j):i<j:=by
 unfold ratS at h
 cases he:expS T sCM i with
 | er j e=>rw [he] at h;cases h
 | ok u j1 =>
  rw [he] at h
  have e1:=zd3 he
  simp only at h
  split at h
  ·have:=rat1_le h;omega
  ·have:=rat1_le h;omega
theorem Sim.rat (S:Sim T T' d N mv mp) {x:Rat} {i j:Nat} (h:ratS T i = .ok x j) (hj:j<N):ratS T' (i+d) = .ok x (j+d):=by
 unfold ratS at h ⊢
 cases he:expS T sCM i with
 | er j e=>rw [he] at h;cases h
 | ok u j1 =>
  rw [he] at h
  have e1:=zd3 he
  simp only at h
  have hj1:j1<j:=by
   split at h
   ·have:=rat1_le h;omega
   ·exact rat1_le h
  rw [S.exp he (by omega)]
  simp only
  obtain ⟨h1,h2⟩:=S.tk j1 (by omega)
  rw [h2]
  split at h
  ·rename_i hc
   rw [if_pos hc,show j1+d+1=j1+1+d by omega]
   exact S.rat1 h hj
  ·rename_i hc
   rw [if_neg hc]
   exact S.rat1 h hj
theorem args_le {arg:Int→Nat→Res Tre} (hle:∀ p i x j,arg p i = .ok x j→i≤j):∀ (ps:List Int) (first:Bool) (i:Nat) (xs:List Tre) (j:Nat),zc9 T arg first ps i = .ok xs j→i≤j
 | [],first,i,xs,j,h=>by unfold zc9 at h;injection h with _ h;omega
 | p::r,first,i,xs,j,h=>by
  unfold zc9 at h
  cases he:expS T (if first=true then sLP else sCM) i with
  | er j e=>rw [he] at h;cases h
  | ok u j1 =>
   rw [he] at h
   have e1:=zd3 he
   simp only at h
   cases ha:arg p j1 with
   | er j e=>rw [ha] at h;cases h
   | ok x j2 =>
    rw [ha] at h
    have e2:=hle _ _ _ _ ha
    simp only at h
    cases hz:zc9 T arg false r j2 with
    | er j e=>rw [hz] at h;cases h
    | ok ys j3 =>
     rw [hz] at h
     have e3:=args_le hle r false j2 ys j3 hz
     injection h with _ h
     omega
theorem Sim.args (S:Sim T T' d N mv mp) {arg arg':Int→Nat→Res Tre} (hle:∀ p i x j,arg p i = .ok x j→i≤j) (hs:∀ p i x j,arg p i = .ok x j→j≤N→arg' p (i+d) = .ok (mv x) (j+d)) :
  ∀ (ps:List Int) (first:Bool) (i:Nat) (xs:List Tre) (j:Nat),zc9 T arg first ps i = .ok xs j→j≤N→zc9 T' arg' first ps (i+d) = .ok (xs.map mv) (j+d)
 | [],first,i,xs,j,h,hj=>by
  unfold zc9 at h ⊢
  injection h with e1 e2;subst e1;subst e2;rfl
 | p::r,first,i,xs,j,h,hj=>by
  unfold zc9 at h ⊢
  cases he:expS T (if first=true then sLP else sCM) i with
  | er j e=>rw [he] at h;cases h
  | ok u j1 =>
   rw [he] at h
   simp only at h
   cases ha:arg p j1 with
   | er j e=>rw [ha] at h;cases h
   | ok x j2 =>
    rw [ha] at h
    have e2:=hle _ _ _ _ ha
    simp only at h
    cases hz:zc9 T arg false r j2 with
    | er j e=>rw [hz] at h;cases h
    | ok ys j3 =>
     rw [hz] at h
     have e3:=args_le hle r false j2 ys j3 hz
     injection h with h1 h2
     subst h2;subst h1
     rw [S.exp he (by omega)]
     simp only
     rw [hs _ _ _ _ ha (by omega)]
     simp only
     rw [S.args hle hs r false j2 ys j3 hz hj]
     rfl
theorem end_le {k:Int} {q:R3} {i j:Nat} (h:endS T k i = .ok q j):i<j:=by
 unfold endS at h
 by_cases hr:hasR k=true
 ·rw [if_pos hr] at h
  cases hq:ratS T i with
  | er j e=>rw [hq] at h;cases h
  | ok x j1 =>
   rw [hq] at h
   simp only at h
   have:=rat_le hq
   cases he:expS T sRP j1 with
   | er j e=>rw [he] at h;cases h
   | ok u j2 =>
    rw [he] at h
    have:=zd3 he
    injection h with _ h
    omega
 ·rw [if_neg hr] at h
  simp only at h
  cases he:expS T sRP i with
  | er j e=>rw [he] at h;cases h
  | ok u j2 =>
   rw [he] at h
   have:=zd3 he
   injection h with _ h
   omega
theorem Sim.fin (S:Sim T T' d N mv mp) {k:Int} {q:R3} {i j:Nat} (h:endS T k i = .ok q j) (hj:j≤N):endS T' k (i+d) = .ok q (j+d):=by
 unfold endS at h ⊢
 by_cases hr:hasR k=true
 ·rw [if_pos hr] at h ⊢
  cases hq:ratS T i with
  | er j e=>rw [hq] at h;cases h
  | ok x j1 =>
   rw [hq] at h
   simp only at h
   cases he:expS T sRP j1 with
   | er j e=>rw [he] at h;cases h
   | ok u j2 =>
    rw [he] at h
    have:=zd3 he
    injection h with h1 h2
    subst h2;subst h1
    rw [S.rat hq (by omega)]
    simp only
    rw [S.exp he (by omega)]
 ·rw [if_neg hr] at h ⊢
  simp only at h ⊢
  cases he:expS T sRP i with
  | er j e=>rw [he] at h;cases h
  | ok u j2 =>
   rw [he] at h
   have:=zd3 he
   injection h with h1 h2
   subst h2;subst h1
   rw [S.exp he (by omega)]
theorem con_le {arg:Int→Nat→Res Tre} (hle:∀ p i x j,arg p i = .ok x j→i≤j) {sort:Int} {i j:Nat} {x:Tre} (h:conS T arg sort i = .ok x j):i<j:=by
 unfold conS at h
 split at h
 ·cases h
 ·cases ha:zc9 T arg true (zc1 (kofS T i sort)) (i+1) with
  | er j e=>rw [ha] at h;cases h
  | ok xs j1 =>
   rw [ha] at h
   have e1:=args_le hle _ _ _ _ _ ha
   simp only at h
   cases he:endS T (kofS T i sort) j1 with
   | er j e=>rw [he] at h;cases h
   | ok q j2 =>
    rw [he] at h
    have e2:=end_le he
    injection h with _ h
    omega
theorem Sim.con (S:Sim T T' d N mv mp) {arg arg':Int→Nat→Res Tre} (hle:∀ p i x j,arg p i = .ok x j→i≤j) (hs:∀ p i x j,arg p i = .ok x j→j≤N→arg' p (i+d) = .ok (mv x) (j+d)) {sort:Int} {i j:Nat} {x:Tre} (h:conS T arg sort i = .ok x j) (hj:j≤N) :
  conS T' arg' sort (i+d) = .ok (mv x) (j+d):=by
 have hlt:=con_le hle h
 unfold conS at h ⊢
 rw [S.kof (by omega)]
 split at h
 ·cases h
 ·rename_i hc
  rw [if_neg hc]
  cases ha:zc9 T arg true (zc1 (kofS T i sort)) (i+1) with
  | er j e=>rw [ha] at h;cases h
  | ok xs j1 =>
   rw [ha] at h
   simp only at h
   cases he:endS T (kofS T i sort) j1 with
   | er j e=>rw [he] at h;cases h
   | ok q j2 =>
    rw [he] at h
    have e2:=end_le he
    injection h with h1 h2
    subst h2;subst h1
    rw [show i+d+1=i+1+d by omega,S.args hle hs _ _ _ _ _ ha (by omega)]
    simp only
    rw [S.fin he hj]
    simp only
    rw [S.mv i (by omega)]
theorem arg_le:∀ (f:Nat) (sort:Int) (i:Nat) (x:Tre) (j:Nat),argS T f sort i = .ok x j→i≤j
 | 0,sort,i,x,j,h=>by
  unfold argS at h
  split at h<;>cases h
 | f+1,sort,i,x,j,h=>by
  unfold argS at h
  split at h
  ·cases h
  ·simp only at h
   split at h
   ·injection h with _ h;omega
   ·exact Nat.le_of_lt (con_le (arg_le f) h)
theorem arg_lt':∀ (f:Nat) (sort:Int) (i:Nat) (x:Tre) (j:Nat),argS T f sort i = .ok x j→i<j
 | 0,sort,i,x,j,h=>by
  unfold argS at h
  split at h<;>cases h
 | f+1,sort,i,x,j,h=>by
  unfold argS at h
  split at h
  ·cases h
  ·simp only at h
   split at h
   ·injection h with _ h;omega
   ·exact con_le (arg_le f) h
theorem Sim.arg (S:Sim T T' d N mv mp):∀ (f:Nat) (sort:Int) (i:Nat) (x:Tre) (j:Nat),argS T f sort i = .ok x j→j≤N→argS T' f sort (i+d) = .ok (mv x) (j+d)
 | 0,sort,i,x,j,h,hj=>by
  unfold argS at h
  split at h<;>cases h
 | f+1,sort,i,x,j,h,hj=>by
  have hlt:=arg_lt' _ _ _ _ _ h
  have hk:=S.kof (i:=i) (by omega) sort
  have hn:=S.nm (i:=i) (by omega)
  unfold argS at h ⊢
  rw [hk,hn]
  split at h
  ·cases h
  ·rename_i hc
   rw [if_neg hc]
   simp only at h ⊢
   split at h
   ·rename_i h1
    rw [if_pos h1]
    injection h with e1 e2
    subst e2;subst e1
    rw [S.mv i (by omega),show i+d+1=i+1+d by omega,(S.tk i (by omega)).2]
    rfl
   ·rename_i h1
    rw [if_neg h1]
    exact S.con (arg_le f) (S.arg f) h hj
theorem names_le:∀ (n i:Nat) (acc l:List (List UInt8)) (j:Nat),zcp T n i acc = .ok l j→i<j
 | 0,i,acc,l,j,h=>by unfold zcp at h;cases h
 | n+1,i,acc,l,j,h=>by
  unfold zcp at h
  split at h
  ·cases h
  ·split at h
   ·injection h with _ h;omega
   ·have:=names_le n _ _ _ _ h;omega
theorem Sim.names (S:Sim T T' d N mv mp):∀ (n n' i:Nat) (acc l:List (List UInt8)) (j:Nat),zcp T n i acc = .ok l j→j<N→n≤n'→zcp T' n' (i+d) acc = .ok l (j+d)
 | 0,n',i,acc,l,j,h,hj,hn=>by unfold zcp at h;cases h
 | n+1,0,i,acc,l,j,h,hj,hn=>by omega
 | n+1,n'+1,i,acc,l,j,h,hj,hn=>by
  have hle:=names_le _ _ _ _ _ h
  obtain ⟨h1,h2⟩:=S.tk i (by omega)
  obtain ⟨g1,g2⟩:=S.tk (i+1) (by omega)
  have hnm:=S.nm (i:=i) (by omega)
  unfold zcp at h ⊢
  rw [hnm,h2,show i+d+1=i+1+d by omega,g2]
  split at h
  ·cases h
  ·rename_i c1
   rw [if_neg c1]
   split at h
   ·rename_i c2
    rw [if_pos c2]
    injection h with e1 e2
    subst e2;subst e1;rfl
   ·rename_i c2
    rw [if_neg c2,show i+d+2=i+2+d by omega]
    exact S.names n n' _ _ _ _ h hj (by omega)
theorem def_le {kind:Int} {i j:Nat} {s:Stm} (h:defS T kind i = .ok s j):i<j:=by
 unfold defS at h
 split at h
 ·split at h
  ·cases h
  ·cases he:expS T sAS (i+1) with
   | er j e=>rw [he] at h;cases h
   | ok u j1 =>
    rw [he] at h
    have e1:=zd3 he
    simp only at h
    cases hc:conS T (argS T 19) (srtS kind) j1 with
    | er j e=>rw [hc] at h;cases h
    | ok x j2 =>
     rw [hc] at h
     have e2:=con_le (arg_le 19) hc
     injection h with _ h
     omega
 ·cases hc:conS T (argS T 19) (srtS kind) i with
  | er j e=>rw [hc] at h;cases h
  | ok x j2 =>
   rw [hc] at h
   have e2:=con_le (arg_le 19) hc
   injection h with _ h
   omega
theorem Sim.dfn (S:Sim T T' d N mv mp) {kind:Int} (hk1:kind≠1) {i j:Nat} {s:Stm} (h:defS T kind i = .ok s j) (hj:j≤N):defS T' kind (i+d) = .ok ⟨s.kind,s.names,if s.kind=1 then s.expr else mv s.expr,0⟩ (j+d):=by
 have hlt:=def_le h
 unfold defS at h ⊢
 split at h
 ·rename_i hk
  rw [if_pos hk]
  rw [S.nm (i:=i) (by omega)]
  split at h
  ·cases h
  ·rename_i hn
   rw [if_neg hn]
   cases he:expS T sAS (i+1) with
   | er j e=>rw [he] at h;cases h
   | ok u j1 =>
    rw [he] at h
    simp only at h
    cases hc:conS T (argS T 19) (srtS kind) j1 with
    | er j e=>rw [hc] at h;cases h
    | ok x j2 =>
     rw [hc] at h
     have e2:=con_le (arg_le 19) hc
     injection h with h1 h2
     subst h2;subst h1
     rw [show i+d+1=i+1+d by omega,S.exp he (by omega)]
     simp only
     rw [S.con (arg_le 19) (S.arg 19) hc hj,(S.tk i (by omega)).2]
     simp only
     rw [if_neg hk1]
 ·rename_i hk
  rw [if_neg hk]
  cases hc:conS T (argS T 19) (srtS kind) i with
  | er j e=>rw [hc] at h;cases h
  | ok x j2 =>
   rw [hc] at h
   injection h with h1 h2
   subst h2;subst h1
   rw [S.con (arg_le 19) (S.arg 19) hc hj]
   simp only
   rw [if_neg hk1]
theorem stm1_le {i j:Nat} {s:Stm} (h:stmS1 T i = .ok s j):i<j:=by
 unfold stmS1 at h
 split at h
 ·cases hn:zcp T T.length (i+1) [] with
  | er j e=>rw [hn] at h;cases h
  | ok l j1 =>
   rw [hn] at h
   have:=names_le _ _ _ _ _ hn
   injection h with _ h
   omega
 ·split at h
  ·have:=def_le h;omega
  ·split at h
   ·have:=def_le h;omega
   ·split at h
    ·have:=def_le h;omega
    ·exact def_le h
theorem Sim.stm1 (S:Sim T T' d N mv mp) (hl:T.length≤T'.length) {i j:Nat} {s:Stm} (h:stmS1 T i = .ok s j) (hj:j<N):stmS1 T' (i+d) = .ok ⟨s.kind,s.names,if s.kind=1 then s.expr else mv s.expr,0⟩ (j+d):=by
 have hlt:=stm1_le h
 unfold stmS1 at h ⊢
 rw [(S.tk i (by omega)).2,show i+d+1=i+1+d by omega]
 split at h
 ·rename_i hc
  rw [if_pos hc]
  cases hn:zcp T T.length (i+1) [] with
  | er j e=>rw [hn] at h;cases h
  | ok l j1 =>
   rw [hn] at h
   injection h with h1 h2
   subst h2;subst h1
   rw [S.names _ _ _ _ _ _ hn hj hl]
   simp
 ·rename_i hc
  rw [if_neg hc]
  split at h
  ·rename_i hc
   rw [if_pos hc]
   exact S.dfn (by decide) h (by omega)
  ·rename_i hc
   rw [if_neg hc]
   split at h
   ·rename_i hc
    rw [if_pos hc]
    exact S.dfn (by decide) h (by omega)
   ·rename_i hc
    rw [if_neg hc]
    split at h
    ·rename_i hc
     rw [if_pos hc]
     exact S.dfn (by decide) h (by omega)
    ·rename_i hc
     rw [if_neg hc]
     exact S.dfn (by decide) h (by omega)
theorem stm_le {i j:Nat} {s:Stm} (h:stmS T i = .ok s j):i+1<j:=by
 unfold stmS at h
 cases h1:stmS1 T i with
 | er j e=>rw [h1] at h;cases h
 | ok s1 j1 =>
  rw [h1] at h
  have:=stm1_le h1
  simp only at h
  cases he:expS T sSC j1 with
  | er j e=>rw [he] at h;cases h
  | ok u j2 =>
   rw [he] at h
   have:=zd3 he
   injection h with _ h
   omega
theorem Sim.stm (S:Sim T T' d N mv mp) (hl:T.length≤T'.length) {i j:Nat} {s:Stm} (h:stmS T i = .ok s j) (hj:j≤N):stmS T' (i+d) = .ok (mvS mv mp s) (j+d):=by
 have hlt:=stm_le h
 unfold stmS at h ⊢
 cases h1:stmS1 T i with
 | er j e=>rw [h1] at h;cases h
 | ok s1 j1 =>
  rw [h1] at h
  simp only at h
  cases he:expS T sSC j1 with
  | er j e=>rw [he] at h;cases h
  | ok u j2 =>
   rw [he] at h
   have e2:=zd3 he
   injection h with h3 h4
   subst h4;subst h3
   rw [S.stm1 hl h1 (by omega)]
   simp only
   rw [S.exp he hj]
   simp only
   unfold mvS
   rw [S.mp i (by omega)]
inductive Chain (T:List Tok):Nat→List Stm→Nat→Prop
 | nil (i:Nat):Chain T i [] i
 | cons {i j k:Nat} {s:Stm} {l:List Stm} (hk:(zal T i).k≠0) (h:stmS T i = .ok s j) (hl:Chain T j l k):Chain T i (s::l) k
theorem Chain.le {i j:Nat} {l:List Stm} (h:Chain T i l j):i≤j:=by
 induction h with
 | nil i=>exact Nat.le_refl _
 | cons hk h hl ih=>have:=stm_le h;omega
theorem Chain.app {i j k:Nat} {l l':List Stm} (h:Chain T i l j) (h':Chain T j l' k):Chain T i (l++l') k:=by
 induction h with
 | nil i=>exact h'
 | cons hk h hl ih=>exact .cons hk h (ih h')
theorem Sim.chain (S:Sim T T' d N mv mp) (hl:T.length≤T'.length) {i j:Nat} {l:List Stm} (h:Chain T i l j):j≤N→Chain T' (i+d) (l.map (mvS mv mp)) (j+d):=by
 induction h with
 | nil i=>intro _;exact .nil _
 | cons hk h hl2 ih =>
  intro hj
  have e1:=stm_le h
  have e2:=hl2.le
  exact .cons (by rw [(S.tk _ (by omega)).1];exact hk) (S.stm hl h (by omega)) (ih hj)
theorem def_lt (hW:Wf T) {kind:Int} {i:Nat} (hi:i<T.length):resI (defS T kind i)<T.length:=by
 unfold defS
 split
 ·split
  ·exact hi
  ·rename_i hn
   have hk:(zal T i).k≠0:=by
    cases hb:nmS T i with
    | false=>exact absurd hb hn
    | true=>rw [nmS_k hb];decide
   have h1:=exp_lt hW (t:=sAS) (hW.next hi hk)
   cases he:expS T sAS (i+1) with
   | er j e=>rw [he] at h1;exact h1
   | ok u j =>
    rw [he] at h1
    have h2:=con_lt hW (arg_lt hW 19) (sort:=srtS kind) (i:=j) h1
    simp only
    cases hc:conS T (argS T 19) (srtS kind) j with
    | er j e=>rw [hc] at h2;exact h2
    | ok x j=>rw [hc] at h2;exact h2
 ·have h2:=con_lt hW (arg_lt hW 19) (sort:=srtS kind) hi
  cases hc:conS T (argS T 19) (srtS kind) i with
  | er j e=>rw [hc] at h2;exact h2
  | ok x j=>rw [hc] at h2;exact h2
theorem names_lt (hW:Wf T):∀ (n i:Nat) (acc:List (List UInt8)),i<T.length→resI (zcp T n i acc)<T.length
 | 0,i,acc,hi=>hi
 | n+1,i,acc,hi=>by
  unfold zcp
  split
  ·exact hi
  ·rename_i hn
   have hk:(zal T i).k≠0:=by
    cases hb:nmS T i with
    | false=>exact absurd hb hn
    | true=>rw [nmS_k hb];decide
   have h1:=hW.next hi hk
   split
   ·exact h1
   ·rename_i hc
    have hk2:(zal T (i+1)).k≠0:=fun h=>hc (by rw [hW.text _ h];decide)
    exact names_lt hW n (i+2) _ (hW.next h1 hk2)
theorem stm1_lt (hW:Wf T) {i:Nat} (hi:i<T.length):resI (stmS1 T i)<T.length:=by
 unfold stmS1
 have ht:∀ t:List UInt8,t≠[]→(zal T i).t=t→i+1<T.length:=fun t h0 h=>hW.next hi (fun hk=>h0 (by rw [←h,hW.text i hk]))
 split
 ·rename_i hc
  have h1:=names_lt hW T.length (i+1) [] (ht _ (by decide) hc)
  cases hn:zcp T T.length (i+1) [] with
  | er j e=>rw [hn] at h1;exact h1
  | ok l j=>rw [hn] at h1;exact h1
 ·split
  ·rename_i hc;exact def_lt hW (ht _ (by decide) hc)
  ·split
   ·rename_i hc;exact def_lt hW (ht _ (by decide) hc)
   ·split
    ·rename_i hc;exact def_lt hW (ht _ (by decide) hc)
    ·exact def_lt hW hi
theorem stm_lt (hW:Wf T) {i:Nat} (hi:i<T.length):resI (stmS T i)<T.length:=by
 unfold stmS
 have h1:=stm1_lt hW hi
 cases hs:stmS1 T i with
 | er j e=>rw [hs] at h1;exact h1
 | ok s j =>
  rw [hs] at h1
  have h2:=exp_lt hW (t:=sSC) (i:=j) h1
  simp only
  cases he:expS T sSC j with
  | er j e=>rw [he] at h2;exact h2
  | ok u j=>rw [he] at h2;exact h2
theorem stms_chain (hW:Wf T):∀ (n i:Nat) (acc l:List Stm) (j:Nat),stmsS T n i acc = .ok l j→T.length≤n+i→i<T.length→∃ l1,l=acc++l1∧Chain T i l1 j∧(zal T j).k=0∧j<T.length
 | 0,i,acc,l,j,h,hn,hi=>by omega
 | n+1,i,acc,l,j,h,hn,hi=>by
  unfold stmsS at h
  split at h
  ·rename_i hk
   injection h with e1 e2
   subst e1;subst e2
   exact ⟨[],by simp,.nil _,hk,hi⟩
  ·rename_i hk
   have h1:=stm_lt hW hi
   cases hs:stmS T i with
   | er j e=>rw [hs] at h;cases h
   | ok s j1 =>
    rw [hs] at h h1
    have e1:=stm_le hs
    obtain ⟨l1,q1,q2,q3,q4⟩:=stms_chain hW n j1 _ _ _ h (by omega) h1
    exact ⟨s::l1,by rw [q1];simp,.cons hk hs q2,q3,q4⟩
theorem tkAt_end {i:Nat} (h:T.length≤i):(zal T i).k=0:=by
 unfold zal
 rw [List.getD_eq_getElem?_getD,List.getElem?_eq_none h];rfl
theorem chain_stms {i j:Nat} {l:List Stm} (h:Chain T i l j) (hj:(zal T j).k=0):∀ (n:Nat) (acc:List Stm),T.length≤n+i→stmsS T n i acc = .ok (acc++l) j:=by
 induction h with
 | nil i =>
  intro n acc hn
  rw [List.append_nil]
  cases n with
  | zero=>rfl
  | succ n=>unfold stmsS;rw [if_pos hj]
 | cons hk h hl ih =>
  intro n acc hn
  have e1:=stm_le h
  cases n with
  | zero=>exact absurd (tkAt_end (by omega)) hk
  | succ n =>
   unfold stmsS
   rw [if_neg hk,h]
   simp only
   rw [ih hj n _ (by omega)]
   simp
theorem last_at (hW:Wf T) {j:Nat} (h:(zal T j).k=0) (hj:j<T.length):j+1=T.length:=by
 rcases Nat.lt_or_ge (j+1) T.length with h1|h1
 ·exact absurd h (hW.mid j h1)
 ·omega
end
theorem progS_ok {T:List Tok} (hW:Wf T) (h:(progS T).2.2=0):∃ l,progS T=(l,0,0)∧Chain T 0 l (T.length-1):=by
 have ha:=stms_agr hW T.length 0 []
 unfold progS at h ⊢
 cases hr:stmsS T T.length 0 [] with
 | er j e =>
  rw [hr] at h ha
  exact absurd h ha.1
 | ok l j =>
  obtain ⟨l1,q1,q2,q3,q4⟩:=stms_chain hW _ _ _ _ _ hr (by omega) hW.pos
  have:=last_at hW q3 q4
  rw [List.nil_append] at q1
  subst q1
  exact ⟨l,rfl,by rw [show T.length-1=j by omega];exact q2⟩
theorem progS_of {T:List Tok} {l:List Stm} {j:Nat} (h:Chain T 0 l j) (hj:(zal T j).k=0):progS T=(l,0,0):=by
 unfold progS
 rw [chain_stms h hj T.length [] (by omega)]
 rfl
theorem tkAt_left {A B:List Tok} {i:Nat} (h:i<A.length):zal (A++B) i=zal A i:=by
 unfold zal
 rw [List.getD_eq_getElem?_getD,List.getD_eq_getElem?_getD,List.getElem?_append_left h]
theorem tkAt_right {A B:List Tok} {i:Nat}:zal (A++B) (i+A.length)=zal B i:=by
 unfold zal
 rw [List.getD_eq_getElem?_getD,List.getD_eq_getElem?_getD,List.getElem?_append_right (by omega),Nat.add_sub_cancel]
theorem tkAt_map {B:List Tok} {f:Tok→Tok} {i:Nat} (h:i<B.length):zal (B.map f) i=f (zal B i):=by
 unfold zal
 rw [List.getD_eq_getElem?_getD,List.getD_eq_getElem?_getD,List.getElem?_map,List.getElem?_eq_getElem h];rfl
def mvP (c:Int) (p:Int):Int:=IntKind.i64.wrap (p+c)
theorem mvP_small {c p:Nat} (hc:c≤20000) (hp:p≤20000):mvP c p=((p+c:Nat):Int):=by
 unfold mvP
 rw [IntWalk.i64_in _ (by omega)];omega
theorem sim_shift {T T':List Tok} {d c N:Nat} (hW:Wf T) (hc:c≤20000) (h:∀ i,i<N→zal T' (i+d)=shK c (zal T i)):Sim T T' d N (mvW c) (mvP c):=by
 refine ⟨fun i hi=>by rw [h i hi];exact ⟨rfl,rfl⟩,fun i hi k n b l m args=>?_,fun i hi=>?_⟩
 ·rw [mvW_mk,h i hi]
  have:=mvP_small hc (hW.at' i)
  unfold mvP at this
  rw [this];rfl
 ·rw [mvP_small hc (hW.at' i),h i hi];rfl
theorem prog_join {TI TB:List Tok} {n c:Nat} (hA:Wf (TI++[⟨0,n,n,[]⟩])) (hB:Wf TB) (hc:c≤20000) (h1:(progS (TI++[⟨0,n,n,[]⟩])).2.2=0) (h2:(progS TB).2.2=0) :
  progS (TI++TB.map (shK c))=((progS (TI++[⟨0,n,n,[]⟩])).1++(progS TB).1.map (mvS (mvW c) (mvP c)),0,0):=by
 obtain ⟨la,a1,a2⟩:=progS_ok hA h1
 obtain ⟨lb,b1,b2⟩:=progS_ok hB h2
 have hBp:=hB.pos
 rw [a1,b1]
 have hlen:(TI++[(⟨0,n,n,[]⟩:Tok)]).length-1=TI.length:=by simp
 rw [hlen] at a2
 have S1:Sim (TI++[⟨0,n,n,[]⟩]) (TI++TB.map (shK c)) 0 TI.length id id:=by
  have h:∀ i,i<TI.length→zal (TI++TB.map (shK c)) (i+0)=zal (TI++[⟨0,n,n,[]⟩]) i:=fun i hi=>by rw [Nat.add_zero,tkAt_left hi,tkAt_left hi]
  exact ⟨fun i hi=>by rw [h i hi];exact ⟨rfl,rfl⟩,fun i hi k n b l m args=>by rw [h i hi];simp,fun i hi=>by rw [h i hi];rfl⟩
 have S2:Sim TB (TI++TB.map (shK c)) TI.length TB.length (mvW c) (mvP c):=sim_shift hB hc fun i hi=>by rw [tkAt_right,tkAt_map hi]
 have c1:=S1.chain (by simp;omega) a2 (Nat.le_refl _)
 have c2:=S2.chain (by simp) b2 (by omega)
 rw [show (mvS id id)=id from funext mvS_id,List.map_id,Nat.add_zero] at c1
 rw [Nat.zero_add] at c2
 refine progS_of (c1.app c2) ?_
 rw [(S2.tk _ (by omega)).1]
 exact hB.last
end Go.Proofs.Ytefhenfofomjhaa
