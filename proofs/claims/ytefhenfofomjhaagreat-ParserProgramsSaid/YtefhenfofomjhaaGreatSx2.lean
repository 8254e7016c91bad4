/- The parser: definitions. -/
import Derived.Test.YtefhenfofomjhaaGreatPt7
import Derived.Test.YtefhenfofomjhaaGreatLx7
import Derived.Test.YtefhenfofomjhaaGreatPp2
set_option linter.unusedSimpArgs false
set_option linter.unusedVariables false
set_option maxHeartbeats 4000000
set_option maxRecDepth 20000
namespace Go.Proofs.YtefhenfofomjhaaGreat
open Go.RowKit Go.V
theorem skip_take:∀ (l:List UInt8) (b:Bool) (n:Nat),zcN b (l.take n)=min n (zcN b l)
 | [],b,n=>by simp [zcN]
 | c::l,b,0=>by simp [zcN]
 | c::l,true,n+1=>by
  simp only [List.take_succ_cons,zcN]
  split<;>rw [skip_take l]<;>omega
 | c::l,false,n+1=>by
  simp only [List.take_succ_cons,zcN]
  split
  ·rw [skip_take l];omega
  ·split
   ·rw [skip_take l];omega
   ·simp
theorem endN_take (L:Bool):∀ (l:List UInt8) (n:Nat),endN L (l.take n)=min n (endN L l)
 | [],n=>by simp [endN]
 | c::l,0=>by simp [endN]
 | c::l,n+1=>by
  simp only [List.take_succ_cons,endN]
  split
  ·rw [endN_take L l];omega
  ·simp
def tokL:List UInt8→Nat × Nat × Nat
 | []=>(5,0,0)
 | c::r =>
  if letB c.toNat=true then (if 20<endN true (c::r) then 4 else 0,1,endN true (c::r))
  else if digB c.toNat=true then (if 1<endN false (c::r)∧c.toNat=48 then 5 else if 1000<endN false (c::r) then 4 else 0,2,endN false (c::r))
  else if sgnB c.toNat=true then (0,3,1)
  else if c.toNat=58 then (if r.head? = some 61 then 0 else 5,3,2)
  else (5,3,1)
theorem sgn_58 (c:UInt8) (h:sgnB c.toNat=true):¬c.toNat=58:=by
 intro e;rw [e] at h;revert h;decide
theorem tok_list (s:ByteArray) (q:Nat) (h:q<s.size):tokL ((bs s).drop q)=(zdw s q,zeh s q,zbt s q-q)∧q≤zbt s q:=by
 have hd:(((bs s).drop (q+1)).head? = some 61)=(q+1<s.size∧(za9 s (q+1)).toNat=61):=by
  by_cases h1:q+1<s.size
  ·rw [zco s (q+1) h1]
   simp only [List.head?_cons,Option.some.injEq,h1,true_and,eq_iff_iff]
   constructor
   ·intro e;rw [e];rfl
   ·intro e;apply UInt8.toNat_inj.1;rw [e];rfl
  ·rw [drop_end s (q+1) h1];simp [h1]
 unfold zdw zeh zbt zaE
 rw [zco s q h]
 unfold tokL
 by_cases h1:letB (za9 s q).toNat=true
 ·simp only [h1,if_true,Nat.add_sub_cancel_left];exact ⟨trivial,by omega⟩
 ·by_cases h2:digB (za9 s q).toNat=true
  ·simp only [h1,h2,Bool.false_eq_true,if_true,if_false,Nat.add_sub_cancel_left];exact ⟨trivial,by omega⟩
  ·by_cases h3:sgnB (za9 s q).toNat=true
   ·have h4:=sgn_58 _ h3
    simp only [h1,h2,h3,Bool.false_eq_true,if_neg h4,if_true,if_false,Nat.add_sub_cancel_left];exact ⟨trivial,by omega⟩
   ·by_cases h4:(za9 s q).toNat=58
    ·simp only [h1,h2,h3,Bool.false_eq_true,if_pos h4,if_true,if_false,Nat.add_sub_cancel_left,hd];exact ⟨trivial,by omega⟩
    ·simp only [h1,h2,h3,Bool.false_eq_true,if_neg h4,if_true,if_false,Nat.add_sub_cancel_left];exact ⟨trivial,by omega⟩
theorem tok_app (T r r':List UInt8) (K:Nat) (hT:tokL (T++r)=(0,K,T.length)) (hst:∀ L,endN L (T++r)=T.length→endN L (T++r')=T.length):tokL (T++r')=(0,K,T.length):=by
 have h1:=hst true
 have h2:=hst false
 cases T with
 | nil =>
  exfalso
  cases r with
  | nil=>simp [tokL] at hT
  | cons c r =>
   simp only [List.nil_append,tokL,List.length_nil] at hT
   by_cases a1:letB c.toNat=true
   ·simp only [a1,if_true] at hT
    injection hT with _ e;injection e with _ e
    have:goOn true c=true:=goOn_let true c a1
    simp [endN,this] at e
   ·by_cases a2:digB c.toNat=true
    ·simp only [a1,a2,Bool.false_eq_true,if_false,if_true] at hT
     injection hT with _ e;injection e with _ e
     have:goOn false c=true:=goOn_dig false c a2
     simp [endN,this] at e
    ·simp only [a1,a2,Bool.false_eq_true,if_false] at hT
     (repeat' split at hT)<;>simp at hT
 | cons c T =>
  simp only [List.cons_append] at hT h1 h2 ⊢
  unfold tokL at hT ⊢
  by_cases a1:letB c.toNat=true
  ·simp only [a1,if_true] at hT ⊢
   injection hT with e1 e;injection e with e2 e3
   rw [h1 e3];rw [e3] at e1;rw [e1,e2]
  ·by_cases a2:digB c.toNat=true
   ·simp only [a1,a2,Bool.false_eq_true,if_false,if_true] at hT ⊢
    injection hT with e1 e;injection e with e2 e3
    simp only [e3] at e1
    simp only [h2 e3,e1,←e2]
   ·by_cases a3:sgnB c.toNat=true
    ·simp only [a1,a2,a3,Bool.false_eq_true,if_false,if_true] at hT ⊢;exact hT
    ·by_cases a4:c.toNat=58
     ·simp only [a1,a2,a3,Bool.false_eq_true,if_false,if_pos a4,if_true] at hT ⊢
      cases T with
      | nil=>injection hT with e1 e;injection e with e2 e3;simp at e3
      | cons d T=>exact hT
     ·simp only [a1,a2,a3,Bool.false_eq_true,if_false,if_neg a4] at hT ⊢;exact hT
inductive Lexed (s:ByteArray):Nat→List Tk→Prop
 | fin (k:Nat) (h:¬nxt s k<s.size):Lexed s k [(0,s.size,s.size)]
 | tok (k:Nat) (l:List Tk) (h:nxt s k<s.size) (he:zdw s (nxt s k)=0) (hl:Lexed s (zbt s (nxt s k)) l):Lexed s k ((zeh s (nxt s k),nxt s k,zbt s (nxt s k))::l)
theorem bs_pre (s:ByteArray) (p:Nat):bs (s.extract 0 p)=(bs s).take p:=by rw [bs_extract];simp
theorem size_pre (s:ByteArray) (p:Nat) (h:p≤s.size):(s.extract 0 p).size=p:=by rw [←zb7,bs_pre,List.length_take,zb7];omega
theorem nxt_pre (s:ByteArray) (p k:Nat) (h:p≤s.size) (hk:k≤p):nxt (s.extract 0 p) k=min p (nxt s k):=by
 unfold nxt
 rw [bs_pre,List.drop_take,skip_take];omega
theorem tok_pre (s:ByteArray) (p q:Nat) (h:p≤s.size) (hq:q<p) (he:zdw s q=0) (hz:zbt s q≤p):zdw (s.extract 0 p) q=0∧zeh (s.extract 0 p) q=zeh s q∧zbt (s.extract 0 p) q=zbt s q:=by
 obtain ⟨t1,t2⟩:=zdb s q (by omega) he
 obtain ⟨e1,_⟩:=tok_list s q (by omega)
 obtain ⟨e2,e3⟩:=tok_list (s.extract 0 p) q (by rw [size_pre s p h];exact hq)
 have hl:(((bs s).drop q).take (zbt s q-q)).length=zbt s q-q:=by rw [List.length_take,List.length_drop,zb7];omega
 have e4:=tok_app (((bs s).drop q).take (zbt s q-q)) (((bs s).drop q).drop (zbt s q-q)) ((((bs s).drop q).drop (zbt s q-q)).take (p-zbt s q)) (zeh s q)
  (by rw [List.take_append_drop,e1,he,hl]) (by
   intro L hL
   rw [List.take_append_drop,hl] at hL
   have:((bs s).drop q).take (zbt s q-q)++(((bs s).drop q).drop (zbt s q-q)).take (p-zbt s q)=((bs s).drop q).take (p-q):=by
    have e:p-q=(zbt s q-q)+(p-zbt s q):=by omega
    rw [e,List.take_add]
   rw [this,endN_take,hL,hl];omega)
 have:((bs s).drop q).take (zbt s q-q)++(((bs s).drop q).drop (zbt s q-q)).take (p-zbt s q)=(bs (s.extract 0 p)).drop q:=by
  rw [bs_pre,List.drop_take]
  have e:p-q=(zbt s q-q)+(p-zbt s q):=by omega
  rw [e,List.take_add]
 rw [this,e2,hl] at e4
 injection e4 with a1 a;injection a with a2 a3
 exact ⟨a1,a2,by omega⟩
theorem allF_lexed (s:ByteArray):∀ (f k:Nat) (acc:List Tk),k≤s.size→s.size<k+f →
  (∃ l,allF s f k acc=(acc++l,0,0)∧Lexed s k l)∨(∃ p,k≤p∧p<s.size∧zdw s p≠0∧allF s f k acc=([],p,zdw s p)∧∃ l,Lexed (s.extract 0 p) k l)
 | 0,k,acc,h,h1=>by omega
 | f+1,k,acc,h,h1=>by
  obtain ⟨n1,n2⟩:=nxt_bound s k h
  unfold allF
  by_cases hp:nxt s k<s.size
  ·rw [if_pos hp]
   by_cases he:zdw s (nxt s k)=0
   ·rw [if_pos he]
    obtain ⟨t1,t2⟩:=zdb s _ hp he
    rcases allF_lexed s f (zbt s (nxt s k)) (acc++[(zeh s (nxt s k),nxt s k,zbt s (nxt s k))]) t2 (by omega) with ⟨l,e,hl⟩|⟨p,g1,g2,g3,e,l,hl⟩
    ·exact .inl ⟨_::l,by rw [e,List.append_assoc];rfl,.tok k l hp he hl⟩
    ·refine .inr ⟨p,by omega,g2,g3,e,(zeh (s.extract 0 p) (nxt (s.extract 0 p) k),nxt (s.extract 0 p) k,zbt (s.extract 0 p) (nxt (s.extract 0 p) k))::l,?_⟩
     have hn:nxt (s.extract 0 p) k=nxt s k:=by rw [nxt_pre s p k (by omega) (by omega)];omega
     obtain ⟨u1,u2,u3⟩:=tok_pre s p (nxt s k) (by omega) (by omega) he g1
     refine .tok k l (by rw [hn,size_pre s p (by omega)];omega) (by rw [hn];exact u1) ?_
     rw [hn,u3];exact hl
   ·rw [if_neg he]
    refine .inr ⟨nxt s k,n1,hp,he,rfl,[(0,(s.extract 0 (nxt s k)).size,(s.extract 0 (nxt s k)).size)],.fin k ?_⟩
    rw [nxt_pre s _ k (by omega) n1,size_pre s _ n2];omega
  ·rw [if_neg hp]
   exact .inl ⟨_,rfl,.fin k hp⟩
theorem lexed_all (s:ByteArray) (k:Nat) (l:List Tk) (hl:Lexed s k l):∀ acc,k≤s.size→allAt s k acc=(acc++l,0,0):=by
 induction hl with
 | fin k h=>intro acc hk;rw [zeG s k acc hk,if_neg h]
 | tok k l h he hl ih =>
  intro acc hk
  rw [zeG s k acc hk,if_pos h,if_pos he,ih _ (zdb s _ h he).2]
  simp
theorem allR_cases (s:ByteArray):(∃ l,allR s=(l,0,0)∧Lexed s 0 l)∨allR s=([],0,4) ∨
  (∃ p e,p<s.size∧e≠0∧allR s=([],p,e)∧∃ l,allR (s.extract 0 p)=(l,0,0)):=by
 unfold allR
 by_cases hb:s.size≤20000
 ·simp only [if_pos hb]
  rcases allF_lexed s (s.size+1-0) 0 [] (by omega) (by omega) with ⟨l,e,hl⟩|⟨p,g1,g2,g3,e,l,hl⟩
  ·exact .inl ⟨l,e,hl⟩
  ·refine .inr (.inr ⟨p,_,g2,g3,e,l,?_⟩)
   rw [if_pos (by rw [size_pre s p (by omega)];omega)]
   exact lexed_all _ _ _ hl [] (by omega)
 ·simp only [if_neg hb]
  exact .inr (.inl trivial)
end Go.Proofs.YtefhenfofomjhaaGreat
namespace Go.Proofs.YtefhenfofomjhaaGreat
open Go.RowKit Go.V Go.ChangeMaps
theorem byte_iff (c:UInt8) (n:Nat) (h:n<256):c=UInt8.ofNat n↔(c.toNat:Int)=(n:Int):=by
 have:=byte_eq c n h
 rwa [decide_eq_decide] at this
theorem allR_small (s:ByteArray) (l:List Tk) (h:allR s=(l,0,0)):s.size≤20000:=by
 unfold allR at h
 split at h
 ·assumption
 ·injection h with _ e;injection e with _ e;cases e
theorem tokK_pos (s:ByteArray) (k:Nat):zeh s k≠0:=by unfold zeh;(repeat' split)<;>omega
end Go.Proofs.YtefhenfofomjhaaGreat
namespace Go.Proofs.YtefhenfofomjhaaGreat
open Go Go.RowKit Go.V Go.ChangeMaps
def tkOf (s:ByteArray) (t:Tk):Tok:=⟨t.1,t.2.1,t.2.2,bs (s.extract t.2.1 t.2.2)⟩
def tokT (s:ByteArray):List Tok:=(allR s).1.map (tkOf s)
theorem toks_tks (s:ByteArray):∀ (l:List Tk),zc2 (l.map (tkOf s))=tksC s l
 | []=>rfl
 | t::l=>by
  have e:tksC s (t::l)=tokC s t++tksC s l:=rfl
  rw [e,←toks_tks s l]
  unfold zc2
  rw [List.map_cons,List.map_cons,List.flatten_cons]
  congr 1
theorem lexed_form (s:ByteArray) (k:Nat) (l:List Tk) (h:Lexed s k l):k≤s.size→∃ m:List Tk,l=m++[(0,s.size,s.size)]∧m.length≤s.size-k∧∀ t∈m,∃ q,q<s.size∧zdw s q=0∧t=(zeh s q,q,zbt s q):=by
 induction h with
 | fin k h=>intro _;exact ⟨[],rfl,Nat.zero_le _,fun t h=>by cases h⟩
 | tok k l h he hl ih =>
  intro hk
  obtain ⟨t1,t2⟩:=zdb s _ h he
  obtain ⟨n1,n2⟩:=nxt_bound s k hk
  obtain ⟨m,rfl,hm,hall⟩:=ih t2
  refine ⟨_::m,rfl,by simp;omega,fun t ht=>?_⟩
  rcases List.mem_cons.1 ht with rfl|ht
  ·exact ⟨_,h,he,rfl⟩
  ·exact hall t ht
theorem tok_text (s:ByteArray) (q:Nat) (h:q<s.size) (he:zdw s q=0):∃ r,(bs s).drop q=bs (s.extract q (zbt s q))++r∧(bs (s.extract q (zbt s q))).length=zbt s q-q∧tokL (bs (s.extract q (zbt s q))++r)=(0,zeh s q,(bs (s.extract q (zbt s q))).length)∧0<(bs (s.extract q (zbt s q))).length:=by
 obtain ⟨t1,t2⟩:=zdb s q h he
 obtain ⟨tl,_⟩:=tok_list s q h
 have hT:bs (s.extract q (zbt s q))=((bs s).drop q).take (zbt s q-q):=by rw [bs_extract]
 have hTl:(bs (s.extract q (zbt s q))).length=zbt s q-q:=by rw [hT,List.length_take,List.length_drop,zb7];omega
 refine ⟨((bs s).drop q).drop (zbt s q-q),by rw [hT,List.take_append_drop],hTl,?_,by omega⟩
 rw [hTl,hT,List.take_append_drop,tl,he]
theorem endN_pre (L:Bool) (T r:List UInt8) (h:endN L (T++r)=T.length):T.all (goOn L)=true:=by
 induction T with
 | nil=>rfl
 | cons c T ih =>
  rw [List.cons_append,endN] at h
  split at h
  ·rename_i hc
   rw [List.all_cons,hc,ih (by simpa using h)];rfl
  ·simp at h
theorem tok_name {T r:List UInt8} (h:tokL (T++r)=(0,1,T.length)) (h0:0<T.length):nameB T = !isKw T:=by
 have hp:preB T=true:=by
  cases T with
  | nil=>simp at h0
  | cons c T =>
   rw [List.cons_append] at h
   unfold tokL at h
   by_cases a1:letB c.toNat=true
   ·simp only [a1,if_true] at h
    injection h with e1 e;injection e with e2 e3
    have hall:=endN_pre true (c::T) r e3
    rw [e3] at e1
    have hk:zdg c.toNat=2:=by
     have:=zeb (c.toNat:Int)
     rw [a1] at this;simpa using this
    have hl:(c::T).length≤20:=by
     by_cases h20:20<(c::T).length
     ·rw [if_pos h20] at e1;cases e1
     ·omega
    unfold preB
    rw [hall]
    simp [hk]
    simpa using hl
   ·exfalso
    by_cases a2:digB c.toNat=true
    ·simp only [a1,a2,Bool.false_eq_true,if_false,if_true] at h
     injection h with e1 e;injection e with e2 e3;cases e2
    ·simp only [a1,a2,Bool.false_eq_true,if_false] at h
     (repeat' split at h)<;>(injection h with e1 e;injection e with e2 e3;cases e2)
 unfold nameB
 rw [hp];rfl
theorem slk_none:∀ {l:List UInt8},(∀ x∈l,48≤x.toNat)→slk l=l.length
 | [],_=>rfl
 | c::l,h=>by
  have h1:=h c (List.mem_cons_self ..)
  have h2:¬c=47:=fun e=>by rw [e] at h1;exact absurd h1 (by decide)
  unfold slk
  rw [if_neg h2,slk_none (fun x hx=>h x (List.mem_cons_of_mem _ hx)),List.length_cons]
theorem tok_num {T r:List UInt8} (h:tokL (T++r)=(0,2,T.length)) (h0:0<T.length):qrE T=0:=by
 cases T with
 | nil=>simp at h0
 | cons c T =>
  rw [List.cons_append] at h
  unfold tokL at h
  by_cases a1:letB c.toNat=true
  ·simp only [a1,if_true] at h
   injection h with e1 e;injection e with e2 e3;cases e2
  ·by_cases a2:digB c.toNat=true
   ·simp only [a1,a2,Bool.false_eq_true,if_false,if_true] at h
    injection h with e1 e;injection e with e2 e3
    have hall:=endN_pre false (c::T) r e3
    rw [e3] at e1
    have h48:¬(1<(c::T).length∧c.toNat=48):=by
     intro hc;rw [if_pos hc] at e1;cases e1
    rw [if_neg h48] at e1
    have hl:(c::T).length≤1000:=by
     by_cases h20:1000<(c::T).length
     ·rw [if_pos h20] at e1;cases e1
     ·omega
    have hdig:∀ x∈c::T,48≤x.toNat∧x.toNat≤57:=by
     intro x hx
     have h1:=List.all_eq_true.1 hall x hx
     have h2:=ze1 (x.toNat:Int)
     unfold goOn at h1
     simp only [Bool.false_and,Bool.or_false] at h1
     rw [h1] at h2
     have h3:=h2.symm
     unfold digB at h3
     simp at h3
     omega
    have hc0:=hdig c (List.mem_cons_self ..)
    have hs:slk (c::T)=(c::T).length:=slk_none (fun x hx=>(hdig x hx).1)
    have hA:slA (c::T)=c::T:=by unfold slA;rw [hs,List.take_length]
    have hH:slH (c::T)=false:=by unfold slH;rw [hs];simp
    have hn:izn (c::T)=false:=by unfold izn;simp [ch];omega
    have hd:izd (c::T)=c::T:=by unfold izd;rw [hn];rfl
    have hb:rdBad (c::T)=false:=by
     unfold rdBad
     rw [Bool.or_eq_false_iff]
     constructor
     ·rw [Bool.and_eq_false_iff]
      by_cases h1:1<(c::T).length
      ·right
       have:¬c.toNat=48:=fun e=>h48 ⟨h1,e⟩
       simp only [List.getD_cons_zero,decide_eq_false_iff_not]
       intro e;rw [e] at this;exact this rfl
      ·left;simpa using h1
     ·rw [List.any_eq_false]
      intro x hx
      have:=hdig x hx
      unfold isD;simp;omega
    have hr:rdE (c::T)=0:=by unfold rdE;rw [if_neg (by simp),if_neg (by omega),hb];rfl
    have hi:izE (c::T)=0:=by unfold izE;rw [hd,hr,hn];simp
    unfold qrE
    rw [hA,hi,hH];rfl
   ·exfalso
    simp only [a1,a2,Bool.false_eq_true,if_false] at h
    (repeat' split at h)<;>(injection h with e1 e;injection e with e2 e3;cases e2)
theorem wf_tok {s:ByteArray} (h:(allR s).2.2=0):Wf (tokT s):=by
 rcases allR_cases s with ⟨l,e,hl⟩|e|⟨p,er,_,hne,e,_⟩
 ·have hsm:=allR_small s l e
  obtain ⟨m,rfl,hm,hall⟩:=lexed_form s 0 l hl (Nat.zero_le _)
  have hT:tokT s=m.map (tkOf s)++[⟨0,s.size,s.size,[]⟩]:=by
   unfold tokT
   rw [e,List.map_append]
   congr 1
   simp [tkOf,extract_nil]
   rfl
  have hlen:(tokT s).length=m.length+1:=by rw [hT];simp
  have hin:∀ i,i<m.length→∃ q,q<s.size∧zdw s q=0∧zai (tokT s) i=tkOf s (zeh s q,q,zbt s q):=by
   intro i hi
   obtain ⟨q,q1,q2,q3⟩:=hall _ (List.getElem_mem hi)
   refine ⟨q,q1,q2,?_⟩
   unfold zai
   rw [hT,List.getD_eq_getElem?_getD,List.getElem?_append_left (by simpa using hi)]
   simp [hi,q3]
  have hend:zai (tokT s) m.length=⟨0,s.size,s.size,[]⟩:=by
   unfold zai
   rw [hT,List.getD_eq_getElem?_getD,List.getElem?_append_right (by simp)]
   simp
  have hout:∀ i,m.length<i→zai (tokT s) i=⟨0,0,0,[]⟩:=by
   intro i hi
   unfold zai
   rw [List.getD_eq_getElem?_getD,List.getElem?_eq_none (by omega)]
   rfl
  have hcases:∀ i,(∃ q,q<s.size∧zdw s q=0∧zai (tokT s) i=tkOf s (zeh s q,q,zbt s q))∨((zai (tokT s) i).k=0∧(zai (tokT s) i).t=[]∧(zai (tokT s) i).p≤s.size):=by
   intro i
   rcases Nat.lt_trichotomy i m.length with hi|hi|hi
   ·exact .inl (hin i hi)
   ·right;rw [hi,hend];exact ⟨rfl,rfl,Nat.le_refl _⟩
   ·right;rw [hout i hi];exact ⟨rfl,rfl,Nat.zero_le _⟩
  refine ⟨by omega,fun i hi=>?_,?_,fun i hk=>?_,fun i hk=>?_,fun i hk=>?_,fun i hk=>?_,fun i=>?_,by omega,fun i=>?_⟩
  ·obtain ⟨q,q1,q2,q3⟩:=hin i (by omega)
   rw [q3];exact tokK_pos s q
  ·rw [hlen,Nat.add_sub_cancel,hend]
  ·rcases hcases i with ⟨q,q1,q2,q3⟩|⟨c1,c2,c3⟩
   ·rw [q3] at hk;exact absurd hk (tokK_pos s q)
   ·exact c2
  ·rcases hcases i with ⟨q,q1,q2,q3⟩|⟨c1,c2,c3⟩
   ·rw [q3]
    obtain ⟨r,_,_,_,r4⟩:=tok_text s q q1 q2
    intro e0
    rw [show (tkOf s (zeh s q,q,zbt s q)).t=bs (s.extract q (zbt s q)) from rfl] at e0
    rw [e0] at r4;cases r4
   ·exact absurd c1 hk
  ·rcases hcases i with ⟨q,q1,q2,q3⟩|⟨c1,c2,c3⟩
   ·rw [q3] at hk ⊢
    obtain ⟨r,_,_,r3,r4⟩:=tok_text s q q1 q2
    have hk':zeh s q=1:=hk
    rw [hk'] at r3
    exact tok_name r3 r4
   ·rw [c1] at hk;cases hk
  ·rcases hcases i with ⟨q,q1,q2,q3⟩|⟨c1,c2,c3⟩
   ·rw [q3] at hk ⊢
    obtain ⟨r,_,_,r3,r4⟩:=tok_text s q q1 q2
    have hk':zeh s q=2:=hk
    rw [hk'] at r3
    exact tok_num r3 r4
   ·rw [c1] at hk;cases hk
  ·rcases hcases i with ⟨q,q1,q2,q3⟩|⟨c1,c2,c3⟩
   ·rw [q3]
    show (bs (s.extract q (zbt s q))).length≤20000
    obtain ⟨r,_,r2,_,_⟩:=tok_text s q q1 q2
    have:=(zdb s q q1 q2).2
    omega
   ·rw [c2];exact Nat.zero_le _
  ·rcases hcases i with ⟨q,q1,q2,q3⟩|⟨c1,c2,c3⟩
   ·rw [q3]
    show q≤20000
    omega
   ·omega
 ·rw [e] at h;cases h
 ·rw [e] at h;exact absurd h hne
end Go.Proofs.YtefhenfofomjhaaGreat
namespace Go.Proofs.YtefhenfofomjhaaGreat
open Go Go.RowKit Go.V
structure NmS (w:World) (F:Nat→Prop) (a:Option Addr) (l:List (List UInt8)):Prop where
 sl:SL w a (l.map strV)
 bl:Bl F a l.length
 max:l.length≤maxLen
theorem NmS.nil (w:World) (F:Nat→Prop) (a:Option Addr):NmS w F a []:=⟨SL.nil _ _,fun _ _ h=>absurd rfl h,Nat.zero_le _⟩
theorem NmS.ch {w w':World} {F S:Nat→Prop} {a:Option Addr} {l:List (List UInt8)} (h:NmS w F a l) (hc:Ch w w' S) (hd:∀ k,F k→¬S k):NmS w' F a l:=⟨h.sl.ch (F:=F) (by rw [List.length_map];exact h.bl) hc hd,h.bl,h.max⟩
theorem NmS.ext {w w':World} {F:Nat→Prop} {a:Option Addr} {l:List (List UInt8)} (h:NmS w F a l) (hb:Below w.heap.size w w'):NmS w' F a l:=⟨h.sl.ext hb,h.bl,h.max⟩
theorem NmS.mono {w:World} {F F':Nat→Prop} {a:Option Addr} {l:List (List UInt8)} (h:NmS w F a l) (hF:∀ k,F k→F' k):NmS w F' a l:=⟨h.sl,h.bl.mono hF,h.max⟩
theorem NmS.blt {w:World} {F:Nat→Prop} {a:Option Addr} {l:List (List UInt8)} (h:NmS w F a l):NmS w (fun k=>F k∧k<w.heap.size) a l:=⟨h.sl,fun ad ha hn=>⟨h.bl ad ha hn,by have:=h.sl.blt;rw [List.length_map] at this;exact this ad ha hn⟩,h.max⟩
def SX (w:World) (F:Nat→Prop) (R:List Value) (s:Stm):Prop :=
 ∃ (a:Option Addr) (c:Nat) (E:List Value),R = .int .i64 s.kind :: .slice a s.names.length c::(E++[.int .i64 s.pos])∧NmS w F a s.names∧EX w F E s.expr
theorem SX.ch {w w':World} {F S:Nat→Prop} {R:List Value} {s:Stm} (h:SX w F R s) (hc:Ch w w' S) (hd:∀ k,F k→¬S k):SX w' F R s:=by
 obtain ⟨a,c,E,h1,h2,h3⟩:=h
 exact ⟨a,c,E,h1,h2.ch hc hd,h3.ch hc hd⟩
theorem SX.ext {w w':World} {F:Nat→Prop} {R:List Value} {s:Stm} (h:SX w F R s) (hb:Below w.heap.size w w'):SX w' F R s:=by
 obtain ⟨a,c,E,h1,h2,h3⟩:=h
 exact ⟨a,c,E,h1,h2.ext hb,h3.ext hb⟩
theorem SX.mono {w:World} {F F':Nat→Prop} {R:List Value} {s:Stm} (h:SX w F R s) (hF:∀ k,F k→F' k):SX w F' R s:=by
 obtain ⟨a,c,E,h1,h2,h3⟩:=h
 exact ⟨a,c,E,h1,h2.mono hF,h3.mono hF⟩
theorem SX.blt {w:World} {F:Nat→Prop} {R:List Value} {s:Stm} (h:SX w F R s):SX w (fun k=>F k∧k<w.heap.size) R s:=by
 obtain ⟨a,c,E,h1,h2,h3⟩:=h
 exact ⟨a,c,E,h1,h2.blt,h3.blt⟩
theorem SX.len {w:World} {F:Nat→Prop} {R:List Value} {s:Stm} (h:SX w F R s):R.length=10:=by
 obtain ⟨a,c,E,h1,h2,h3⟩:=h
 have:=h3.len
 rw [h1];simp [this]
theorem SX.one {w:World} {F:Nat→Prop} {R:List Value} {s:Stm} (h:SX w F R s):∀ v∈R,v.oneCell'=true:=by
 obtain ⟨a,c,E,rfl,h2,h3⟩:=h
 intro v hv
 simp only [List.mem_cons,List.mem_append,List.not_mem_nil,or_false] at hv
 rcases hv with rfl|rfl|hv|rfl
 ·rfl
 ·rfl
 ·exact h3.one v hv
 ·rfl
theorem SX.open {w:World} {F:Nat→Prop} {R:List Value} {s:Stm} (h:SX w F R s):∃ a c ya yc yb yd ye yp,R=[.int .i64 s.kind,.slice a s.names.length c,.int .i64 s.expr.kind,.string ⟨s.expr.name.toArray⟩,.bool s.expr.neg,.slice ya s.expr.num.length yc,.slice yb s.expr.den.length yd,.slice ye s.expr.args.length yp,.int .i64 s.expr.pos,.int .i64 s.pos] ∧
  NmS w F a s.names∧EX w F [.int .i64 s.expr.kind,.string ⟨s.expr.name.toArray⟩,.bool s.expr.neg,.slice ya s.expr.num.length yc,.slice yb s.expr.den.length yd,.slice ye s.expr.args.length yp,.int .i64 s.expr.pos] s.expr:=by
 obtain ⟨a,c,E,rfl,h2,h3⟩:=h
 obtain ⟨ya,yc,yb,yd,ye,yp,yrows,hE,_⟩:=id h3.open
 subst hE
 exact ⟨a,c,ya,yc,yb,yd,ye,yp,rfl,h2,h3⟩
theorem SX.mk' {w:World} {F:Nat→Prop} {k p:Int} {a:Option Addr} {c:Nat} {l:List (List UInt8)} {x:Tre} {E:List Value} (h2:NmS w F a l) (h3:EX w F E x):SX w F (.int .i64 k :: .slice a l.length c::(E++[.int .i64 p])) ⟨k,l,x,p⟩:=⟨a,c,E,rfl,h2,h3⟩
def StmPost (w:World) (b:Nat) (tb:TypeId) (la:Option Addr) (cap:Nat) (T:List Tok) (p:PSt × Stm) (e:Ending) (w':World):Prop :=
 ∃ (R:List Value) (x:Stm),e = .returned (.agg R.toArray)∧SX w' (fun k=>w.heap.size≤k) R x∧(p.1.er=0→x=p.2)∧PSS w' b tb la cap T p.1∧w.grownBy w' (some b)
theorem nameP_i (T:List Tok) (s:PSt):s.i≤(zbM T s).1.i:=by
 unfold zbM zbN
 split
 ·simp
 ·split<;>simp
theorem namesP_fuel (T:List Tok) (n:Nat) (s:PSt) (acc:List (List UInt8)) (h:isT T s.er s.i sCM=false):namesP T n s acc=(s,acc):=by
 cases n with
 | zero=>rfl
 | succ n=>unfold namesP;rw [h,if_neg (by decide)]
theorem points_any {b tb cap:Nat} {la:Option Addr} {T:List Tok} (hW:Wf T) {w:World} {s:PSt} (h:PSS w b tb la cap T s) (pos:Int) :
  Calls Tryz.prog 43 #[.pointer (some ⟨b,0,none⟩),.agg #[.int .i64 0,.slice none 0 0,.int .i64 0,.string ⟨#[]⟩,.bool false,.slice none 0 0,.slice none 0 0,.slice none 0 0,.int .i64 0,.int .i64 pos]] w (StmPost w b tb la cap T ((zei T s).1,⟨1,(zei T s).2,ex0,pos⟩)):=by
 have hT:T.length≤20001:=hW.size
 obtain ⟨Z,hZ⟩:∃ Z,Z=zei T s:=⟨_,rfl⟩
 rw [←hZ]
 unfold zei at hZ
 refine za5 (rs:=[.cell 4 64]) (n:=32) Tryz.func43 rfl rfl rfl (by kernel_rfl) ?_
 have hP:=h
 have hG:w.grownBy w (some b):=zaa (Below.refl _ _)
 have hb0:=h.lt'
 have hla0:=h.lab
 refine zzr fun K hK=>?_
 simp [go_sem,za0,za4,za1]
 refine zbF #[.int .i64 0,.slice none 0 0,.int .i64 0,.string ⟨#[]⟩,.bool false,.slice none 0 0,.slice none 0 0,.slice none 0 0,.int .i64 0,.int .i64 pos] (by simp [go_sem,za0,za4,za1]) rfl (by simp [go_sem,Value.cells,za0,za4,za1]) (fun w1 b1 hE1 hle1 hB1=>?_)
 have hwb1:_≤b1:=Nat.le_trans hG.size hle1
 replace hG:=hG.trans (zaa hE1)
 replace hP:=hP.ext hE1
 simp [go_sem,za0,za4,za1,hB1.cell]
 refine zza rfl zbD (fun w2 b2 hE2 hle2 hB2=>?_)
 have hwb2:_≤b2:=Nat.le_trans hG.size hle2
 have hd1_2:b1≠b2:=Nat.ne_of_lt (Nat.lt_of_lt_of_le hB1.lt hle2)
 replace hB1:=hB1.keep hE2
 replace hG:=hG.trans (zaa hE2)
 replace hP:=hP.ext hE2
 simp [go_sem,za0,za4,za1,hB1.cell,hB2.cell]
 apply hK;clear hK K
 refine zzr fun K hK=>?_
 simp [go_sem,za0,za4,za1,hB1.cell,hB2.cell]
 refine zzs (b:=b1) (off:=0) [.int .i64 1] rfl zaQ hB1 (fun w3 hS3 hB3=>?_) (by simp [go_sem,Value.cells])
 simp [zaw] at hB3
 replace hG:=zan hG hS3 hwb1
 replace hP:=hP.sto hS3 (by omega) (fun ad ha=>by have:=hla0 ad ha;omega)
 replace hB2:=hB2.sto hS3 (by first|exact hd2_1|exact (hd1_2).symm)
 simp [go_sem,za0,za4,za1,hB2.cell,hB3.cell]
 apply hK;clear hK K
 obtain ⟨N4,hN4⟩:∃ N,N=w3.heap.size:=⟨_,rfl⟩
 have hNs:N4≤w3.heap.size:=by omega
 have hbN4:=hP.lt'
 have h1N4:=hB3.lt
 have h2N4:=hB2.lt
 rw [←hN4] at hbN4 h1N4 h2N4
 have hlaN:∀ ad,la=some ad→ad.block<N4:=fun ad ha=>by have:=hla0 ad ha;have:=hG.size;omega
 have hwN4:w.heap.size≤N4:=by rw [hN4];exact hG.size
 refine zab (fun K1 hK1=>?_)
 obtain ⟨s1,hs1⟩:∃ s1,s1=s:=⟨_,rfl⟩
 rw [←hs1] at hP hZ
 obtain ⟨va,vc,acc,hB1,hown,hnb,hacc0⟩:∃ (va:Option Addr) (vc:Nat) (acc:List (List UInt8)),Bx w3 b1 #[.int .i64 1,.slice va acc.length vc,.int .i64 0,.string ⟨#[]⟩,.bool false,.slice none 0 0,.slice none 0 0,.slice none 0 0,.int .i64 0,.int .i64 pos] 64∧w3.ownsRow N4 9 1 (.slice va acc.length vc) acc.length (acc.map strV)∧NB w3 (.slice va acc.length vc)∧acc=[]:=⟨none,0,[],hB3,World.ownsRow_nil _ _ _ _,NB.nil _,rfl⟩
 have hal:acc.length≤s1.i:=by rw [hacc0];exact Nat.zero_le _
 have hB2:=hB2
 have hil:=hP.lt
 have hD4:=Below.drew1 w3
 replace hB1:=hB1.keep hD4
 replace hB2:=hB2.keep hD4
 replace hG:=hG.trans (zaa hD4)
 replace hP:=hP.ext hD4
 replace hnb:=hnb.keep hD4
 replace hown:=zas hown hD4
 refine zeJ ([⟨b1,1,none⟩]) [(0,0),(1,0),(2,0),(3,0),(4,0),(5,0),(6,1),(7,1),(8,2),(9,0),(10,2)] (by kernel_rfl) (by kernel_rfl) (fun K hK=>?_)
 simp [go_sem,za0,za4,za1,hB1.cell,hB2.cell]
 have hkp:Keep ([⟨b1,1,none⟩]) w3.drew w3.drew:=zdc _ _
 have hds:=(Below.drew1 w3).size
 have hownD:=hown
 refine zzc rfl Tryz.call54 (fun R hR=>?_)
 simp [go_sem,za0,za4,za1,hB1.cell,hB2.cell]
 refine (nameS_any hP hW).mono ?_
 rintro e w30 ⟨rfl,hQ30,hg30⟩
 refine ⟨_,rfl,hR _ _ ?_⟩
 clear hR R
 replace hkp:=hkp.trans (Keep.grown (by intro a ha;simp only [List.mem_cons,List.not_mem_nil,or_false] at ha;rcases ha with rfl<;>exact ⟨by first|exact hB1.lt,(by intro e;injection e with e;simp at e;omega)⟩) hg30)
 replace hnb:=zdO hnb hown hg30 (by omega)
 replace hown:=zcF hown hg30 (by omega)
 replace hB1:=hB1.grown hg30 (by intro e;injection e with e;omega)
 replace hB2:=hB2.grown hg30 (by intro e;injection e with e;omega)
 replace hP:=hQ30
 replace hG:=hG.trans hg30
 clear hQ30
 refine zbb hkp ?_
 simp [go_sem,za0,za4,za1,hB1.cell,hB2.cell]
 refine zak #[.string ⟨(zbM T s1).2.toArray⟩] (by simp [go_sem,za0,za4,za1,hB1.cell,hB2.cell]) rfl zcO (by decide) [(0,.string ⟨(zbM T s1).2.toArray⟩)] (by simp [go_sem,za0,za4,za1,hB1.cell,hB2.cell]) (by kernel_rfl) (fun w40 b40 hE40 hle40 hB40=>?_)
 replace hkp:=hkp.trans (Keep.below (by intro a ha;simp only [List.mem_cons,List.not_mem_nil,or_false] at ha;rcases ha with rfl<;>first|exact hB1.lt) hE40)
 have hwb40:_≤b40:=Nat.le_trans hG.size hle40
 have hd1_40:b1≠b40:=Nat.ne_of_lt (Nat.lt_of_lt_of_le hB1.lt hle40)
 have hd2_40:b2≠b40:=Nat.ne_of_lt (Nat.lt_of_lt_of_le hB2.lt hle40)
 replace hB1:=hB1.keep hE40
 replace hB2:=hB2.keep hE40
 replace hG:=hG.trans (zaa hE40)
 replace hP:=hP.ext hE40
 replace hnb:=hnb.keep hE40
 replace hown:=zas hown hE40
 refine zbb hkp ?_
 simp [go_sem,za0,za4,za1,hB1.cell,hB2.cell,hB40.cell]
 have hN40:N4≤w40.heap.size:=Nat.le_trans hNs (Nat.le_trans hds (Nat.le_trans hg30.size hE40.size))
 refine zcn (v:=.slice va acc.length vc) (b:=b40) (len:=1) (c:=1) hB40 (by simp [go_sem]) rfl zcO ty_bytes9 rfl (by decide) (by simp [go_sem,za0,hB1.cell]) (by simp [go_sem]) hown rfl (by simp [Value.oneCell']) (by unfold maxLen;omega) (by omega) hN40 (by decide) (by intro u hu x e;subst e;simp at hu) (by intro u hu x e;subst e;simp at hu) hnb (fun v' w50 hown' hg50 hat50 hnb'=>?_)
 obtain ⟨va',vc',rfl⟩:=zbf hown'
 have hob:∀ k,(Value.ownBlock (.slice va acc.length vc))=some k→N4≤k:=fun k e=>(hown.lt k e).1
 replace hP:=hP.grown hg50 (fun e=>by have:=hob b e.symm;omega) (fun ad ha e=>by have:=hob ad.block e.symm;have:=hla0 ad ha;omega)
 replace hG:=grown_own hG hg50 (fun k e=>by have:=hob k e;omega)
 replace hB2:=hB2.grown hg50 (fun e=>by have:=hob b2 e.symm;omega)
 have hkp2:=hkp.trans (Keep.grown (by intro a ha;simp only [List.mem_cons,List.not_mem_nil,or_false] at ha;subst ha;exact ⟨hB1.lt,fun e=>by have:=hob b1 e.symm;omega⟩) hg50)
 replace hB1:=hB1.grown hg50 (fun e=>by have:=hob b1 e.symm;omega)
 refine zde ?_
 simp [go_sem,za0,za4,za1,hB1.cell,hB2.cell,hkp2]
 refine zzs (b:=b1) (off:=1) [.slice va' (acc.length+1) vc'] rfl ty_size62 hB1 (fun w60 hS60 hB60=>?_) (by simp [go_sem,Value.cells])
 simp [zaw] at hB60
 replace hnb':=zdf hnb' hown' hS60 (by omega)
 replace hown':=zbu hown' hS60 (by omega)
 replace hG:=zan hG hS60 hwb1
 replace hP:=hP.sto hS60 (by omega) (fun ad ha=>by have:=hla0 ad ha;omega)
 replace hB2:=hB2.sto hS60 (by first|exact hd2_1|exact (hd1_2).symm)
 refine zde ?_
 simp [go_sem,za0,za4,za1,hB2.cell,hB60.cell]
 apply hK;clear hK K
 have hN60:N4≤w60.heap.size:=by rw [hS60.size];exact Nat.le_trans hN40 hg50.size
 have hacc:acc.length+1=(acc++[(zbM T s1).2]).length:=by simp
 have hni:=nameP_i T s1
 have hZ0:namesP T T.length (zbM T s1).1 (acc++[(zbM T s1).2])=Z:=by rw [hacc0,hZ];rfl
 have hal0:(acc++[(zbM T s1).2]).length≤(zbM T s1).1.i+1:=by rw [←hacc];omega
 apply hK1
 refine zab (fun K2 hK2=>?_)
 refine zac ?_
 refine zaz (fun m g w'=>∃ (s':PSt) (acc:List (List UInt8)) (va:Option Addr) (vc:Nat),T.length≤m+s'.i∧namesP T m s' acc=Z∧acc.length≤s'.i+1∧g 0 = .pointer (some ⟨b,0,none⟩)∧g 3 = .pointer (some ⟨b1,0,none⟩)∧g 4 = .pointer (some ⟨b2,0,none⟩)∧PSS w' b tb la cap T s'∧w.grownBy w' (some b)∧N4≤w'.heap.size∧Bx w' b1 #[.int .i64 1,.slice va acc.length vc,.int .i64 0,.string ⟨#[]⟩,.bool false,.slice none 0 0,.slice none 0 0,.slice none 0 0,.int .i64 0,.int .i64 pos] 64∧Bx w' b2 #[.int .i64 0,.slice none 0 0,.int .i64 0,.string ⟨#[]⟩,.bool false,.slice none 0 0,.slice none 0 0,.slice none 0 0,.int .i64 0,.int .i64 0] 64∧w'.ownsRow N4 9 1 (.slice va acc.length vc) acc.length (acc.map strV)∧NB w' (.slice va acc.length vc)) T.length ?_ ?_
 ·refine ⟨_,acc++[(zbM T s1).2],va',vc',by omega,hZ0,hal0,by simp [go_sem],by simp [go_sem],by simp [go_sem],hP,hG,hN60,?_,hB2,?_,?_⟩
  ·rw [←hacc];exact hB60
  ·rw [←hacc,List.map_append];exact hown'
  ·rw [←hacc];exact hnb'
 clear hal hil hni hZ hacc hZ0 hal0 hacc0 hs1 hN60 hown' hnb' hP hG hB60 hB2 hds hownD hN40 hNs
 rintro m g w' ⟨s',acc,va,vc,hm,hZ,hal,g0,g3,g4,hP,hG,hNs,hB1,hB2,hown,hnb⟩
 refine zab (fun K3 hK3=>?_)
 have hil:=hP.lt
 by_cases hc:isT T s'.er s'.i sCM=true
 ·cases m with
  | zero=>omega
  | succ m =>
   unfold namesP at hZ
   rw [if_pos hc] at hZ
   obtain ⟨s1,hs1⟩:∃ s1,s1=zb4 T sCM s':=⟨_,rfl⟩
   have hs1i:s1.i=s'.i+1:=by rw [hs1];unfold zb4;rw [if_pos hc]
   refine zzr fun K hK=>?_
   simp [go_sem,za0,za4,za1,hB1.cell,hB2.cell,g0,g3,g4]
   refine zzc rfl Tryz.call42 (fun R hR=>?_)
   simp [go_sem,za0,za4,za1,hB1.cell,hB2.cell,g0,g3,g4]
   refine (zc1 hP hW sCM).mono ?_
   rintro e w70 ⟨rfl,hQ70,hg70⟩
   refine ⟨_,rfl,hR _ _ ?_⟩
   clear hR R
   replace hnb:=zdO hnb hown hg70 (by omega)
   replace hown:=zcF hown hg70 (by omega)
   replace hB1:=hB1.grown hg70 (by intro e;injection e with e;omega)
   replace hB2:=hB2.grown hg70 (by intro e;injection e with e;omega)
   replace hP:=hQ70
   replace hG:=hG.trans hg70
   clear hQ70
   simp [go_sem,za0,za4,za1,hB1.cell,hB2.cell,g0,g3,g4]
   rw [←hs1] at hP hZ
   have hil1:=hP.lt
   have hal1:acc.length≤s1.i:=by omega
   replace hNs:=Nat.le_trans hNs hg70.size
   apply hK;clear hK K
   refine zaf (t:=true) (by simp [go_sem,g0,g3,g4,hc]) rfl ?_
   refine za7 ?_
   apply hK3
   refine zac ?_
   have hD71:=Below.drew1 w70
   replace hB1:=hB1.keep hD71
   replace hB2:=hB2.keep hD71
   replace hG:=hG.trans (zaa hD71)
   replace hP:=hP.ext hD71
   replace hnb:=hnb.keep hD71
   replace hown:=zas hown hD71
   refine zeJ ([⟨b1,1,none⟩]) [(0,0),(1,0),(2,0),(3,0),(4,0),(5,0),(6,1),(7,1),(8,2),(9,0),(10,2)] (by kernel_rfl) (by kernel_rfl) (fun K hK=>?_)
   simp [go_sem,za0,za4,za1,hB1.cell,hB2.cell,g0,g3,g4]
   have hkp:Keep ([⟨b1,1,none⟩]) w70.drew w70.drew:=zdc _ _
   have hds:=(Below.drew1 w70).size
   have hownD:=hown
   refine zzc rfl Tryz.call54 (fun R hR=>?_)
   simp [go_sem,za0,za4,za1,hB1.cell,hB2.cell,g0,g3,g4]
   refine (nameS_any hP hW).mono ?_
   rintro e w30 ⟨rfl,hQ30,hg30⟩
   refine ⟨_,rfl,hR _ _ ?_⟩
   clear hR R
   replace hkp:=hkp.trans (Keep.grown (by intro a ha;simp only [List.mem_cons,List.not_mem_nil,or_false] at ha;rcases ha with rfl<;>exact ⟨by first|exact hB1.lt,(by intro e;injection e with e;simp at e;omega)⟩) hg30)
   replace hnb:=zdO hnb hown hg30 (by omega)
   replace hown:=zcF hown hg30 (by omega)
   replace hB1:=hB1.grown hg30 (by intro e;injection e with e;omega)
   replace hB2:=hB2.grown hg30 (by intro e;injection e with e;omega)
   replace hP:=hQ30
   replace hG:=hG.trans hg30
   clear hQ30
   refine zbb hkp ?_
   simp [go_sem,za0,za4,za1,hB1.cell,hB2.cell,g0,g3,g4]
   refine zak #[.string ⟨(zbM T s1).2.toArray⟩] (by simp [go_sem,za0,za4,za1,hB1.cell,hB2.cell,g0,g3,g4]) rfl zcO (by decide) [(0,.string ⟨(zbM T s1).2.toArray⟩)] (by simp [go_sem,za0,za4,za1,hB1.cell,hB2.cell,g0,g3,g4]) (by kernel_rfl) (fun w40 b40 hE40 hle40 hB40=>?_)
   replace hkp:=hkp.trans (Keep.below (by intro a ha;simp only [List.mem_cons,List.not_mem_nil,or_false] at ha;rcases ha with rfl<;>first|exact hB1.lt) hE40)
   have hwb40:_≤b40:=Nat.le_trans hG.size hle40
   have hd1_40:b1≠b40:=Nat.ne_of_lt (Nat.lt_of_lt_of_le hB1.lt hle40)
   have hd2_40:b2≠b40:=Nat.ne_of_lt (Nat.lt_of_lt_of_le hB2.lt hle40)
   replace hB1:=hB1.keep hE40
   replace hB2:=hB2.keep hE40
   replace hG:=hG.trans (zaa hE40)
   replace hP:=hP.ext hE40
   replace hnb:=hnb.keep hE40
   replace hown:=zas hown hE40
   refine zbb hkp ?_
   simp [go_sem,za0,za4,za1,hB1.cell,hB2.cell,g0,g3,g4,hB40.cell]
   have hN40:N4≤w40.heap.size:=Nat.le_trans hNs (Nat.le_trans hds (Nat.le_trans hg30.size hE40.size))
   refine zcn (v:=.slice va acc.length vc) (b:=b40) (len:=1) (c:=1) hB40 (by simp [go_sem]) rfl zcO ty_bytes9 rfl (by decide) (by simp [go_sem,za0,hB1.cell]) (by simp [go_sem]) hown rfl (by simp [Value.oneCell']) (by unfold maxLen;omega) (by omega) hN40 (by decide) (by intro u hu x e;subst e;simp at hu) (by intro u hu x e;subst e;simp at hu) hnb (fun v' w50 hown' hg50 hat50 hnb'=>?_)
   obtain ⟨va',vc',rfl⟩:=zbf hown'
   have hob:∀ k,(Value.ownBlock (.slice va acc.length vc))=some k→N4≤k:=fun k e=>(hown.lt k e).1
   replace hP:=hP.grown hg50 (fun e=>by have:=hob b e.symm;omega) (fun ad ha e=>by have:=hob ad.block e.symm;have:=hla0 ad ha;omega)
   replace hG:=grown_own hG hg50 (fun k e=>by have:=hob k e;omega)
   replace hB2:=hB2.grown hg50 (fun e=>by have:=hob b2 e.symm;omega)
   have hkp2:=hkp.trans (Keep.grown (by intro a ha;simp only [List.mem_cons,List.not_mem_nil,or_false] at ha;subst ha;exact ⟨hB1.lt,fun e=>by have:=hob b1 e.symm;omega⟩) hg50)
   replace hB1:=hB1.grown hg50 (fun e=>by have:=hob b1 e.symm;omega)
   refine zde ?_
   simp [go_sem,za0,za4,za1,g0,g3,g4,hB1.cell,hB2.cell,hkp2]
   refine zzs (b:=b1) (off:=1) [.slice va' (acc.length+1) vc'] rfl ty_size62 hB1 (fun w60 hS60 hB60=>?_) (by simp [go_sem,Value.cells,g0,g3,g4])
   simp [zaw] at hB60
   replace hnb':=zdf hnb' hown' hS60 (by omega)
   replace hown':=zbu hown' hS60 (by omega)
   replace hG:=zan hG hS60 hwb1
   replace hP:=hP.sto hS60 (by omega) (fun ad ha=>by have:=hla0 ad ha;omega)
   replace hB2:=hB2.sto hS60 (by first|exact hd2_1|exact (hd1_2).symm)
   refine zde ?_
   simp [go_sem,za0,za4,za1,g0,g3,g4,hB2.cell,hB60.cell]
   apply hK;clear hK K
   have hN60:N4≤w60.heap.size:=by rw [hS60.size];exact Nat.le_trans hN40 hg50.size
   have hacc:acc.length+1=(acc++[(zbM T s1).2]).length:=by simp
   have hni:=nameP_i T s1
   refine ⟨m,by omega,_,acc++[(zbM T s1).2],va',vc',by omega,hZ,by rw [←hacc];omega,by simp [go_sem,g0],by simp [go_sem,g3],by simp [go_sem,g4],hP,hG,hN60,?_,hB2,?_,?_⟩
   ·rw [←hacc];exact hB60
   ·rw [←hacc,List.map_append];exact hown'
   ·rw [←hacc];exact hnb'
 ·have hcf:isT T s'.er s'.i sCM=false:=by simpa using hc
  rw [namesP_fuel T m s' acc hcf] at hZ
  have htk:zb4 T sCM s'=s':=by unfold zb4;rw [if_neg hc]
  refine zzr fun K hK=>?_
  simp [go_sem,za0,za4,za1,hB1.cell,hB2.cell,g0,g3,g4]
  refine zzc rfl Tryz.call42 (fun R hR=>?_)
  simp [go_sem,za0,za4,za1,hB1.cell,hB2.cell,g0,g3,g4]
  refine (zc1 hP hW sCM).mono ?_
  rintro e w70 ⟨rfl,hQ70,hg70⟩
  refine ⟨_,rfl,hR _ _ ?_⟩
  clear hR R
  replace hnb:=zdO hnb hown hg70 (by omega)
  replace hown:=zcF hown hg70 (by omega)
  replace hB1:=hB1.grown hg70 (by intro e;injection e with e;omega)
  replace hB2:=hB2.grown hg70 (by intro e;injection e with e;omega)
  replace hP:=hQ70
  replace hG:=hG.trans hg70
  clear hQ70
  simp [go_sem,za0,za4,za1,hB1.cell,hB2.cell,g0,g3,g4]
  rw [htk] at hP
  apply hK;clear hK K
  refine zaf (t:=false) (by simp [go_sem,g0,g3,g4,hcf]) rfl ?_
  refine zav ?_
  repeat (first|refine zae ?_|refine za6 rfl ?_|refine za8 ?_)
  apply hK2
  refine zzr fun K hK=>?_
  simp [go_sem,za0,za4,za1,hB1.cell,hB2.cell,g0,g3,g4]
  refine zzs (b:=b2) (off:=0) [.int .i64 1,.slice va acc.length vc,.int .i64 0,.string ⟨#[]⟩,.bool false,.slice none 0 0,.slice none 0 0,.slice none 0 0,.int .i64 0,.int .i64 pos] rfl zaJ hB2 (fun w71 hS71 hB71=>?_) (by simp [go_sem,Value.cells,g0,g3,g4])
  simp [zaw] at hB71
  replace hnb:=zdf hnb hown hS71 (by omega)
  replace hown:=zbu hown hS71 (by omega)
  replace hG:=zan hG hS71 hwb2
  replace hP:=hP.sto hS71 (by omega) (fun ad ha=>by have:=hla0 ad ha;omega)
  replace hB1:=hB1.sto hS71 (by first|exact hd1_2|exact (hd2_1).symm)
  simp [go_sem,za0,za4,za1,hB1.cell,g0,g3,g4,hB71.cell]
  apply hK;clear hK K
  refine zad ?_
  repeat first|refine za3 ?_|refine za2 ?_
  refine ⟨by simp [go_sem,zaD,zam,za4,za1,za0,hB71.cell,g4],?_⟩
  have hnm:NmS _ (fun k=>w.heap.size≤k) va acc:=⟨zca hown,fun ad ha hn=>Nat.le_trans hwN4 (hown.lt ad.block (by rw [ha];rfl)).1,by unfold maxLen;omega⟩
  refine ⟨_,⟨1,acc,ex0,pos⟩,?_,SX.mk' (c:=vc) hnm (EX.ex0 _ _ _ rfl),fun _=>by rw [←hZ],by rw [←hZ];exact hP,hG⟩
  simp [go_sem,zar,zam,za4,za1,za0,hB71.cell,g4]
theorem define_any {b tb cap:Nat} {la:Option Addr} {T:List Tok} (hW:Wf T) {w:World} {s:PSt} (h:PSS w b tb la cap T s) (pos kind sort:Int) :
  Calls Tryz.prog 44 #[.pointer (some ⟨b,0,none⟩),.agg #[.int .i64 0,.slice none 0 0,.int .i64 0,.string ⟨#[]⟩,.bool false,.slice none 0 0,.slice none 0 0,.slice none 0 0,.int .i64 0,.int .i64 pos],.int .i64 kind,.int .i64 sort] w (StmPost w b tb la cap T (defP T kind sort pos s)):=by
 have hT:T.length≤20001:=hW.size
 obtain ⟨Z,hZ⟩:∃ Z,Z=defP T kind sort pos s:=⟨_,rfl⟩
 rw [←hZ]
 replace hZ:Z=((conP T (argP T 19) [sort] (zc8 T sAS (zbM T s).1)).1,⟨kind,[(zbM T s).2],(conP T (argP T 19) [sort] (zc8 T sAS (zbM T s).1)).2,pos⟩):=hZ
 refine za5 (rs:=[.cell 8 64]) (n:=34) Tryz.func44 rfl rfl rfl (by kernel_rfl) ?_
 have hP:=h
 have hG:w.grownBy w (some b):=zaa (Below.refl _ _)
 have hb0:=h.lt'
 have hla0:=h.lab
 refine zzr fun K hK=>?_
 simp [go_sem,za0,za4,za1]
 refine zbF #[.int .i64 0,.slice none 0 0,.int .i64 0,.string ⟨#[]⟩,.bool false,.slice none 0 0,.slice none 0 0,.slice none 0 0,.int .i64 0,.int .i64 pos] (by simp [go_sem,za0,za4,za1]) rfl (by simp [go_sem,Value.cells,za0,za4,za1]) (fun w1 b1 hE1 hle1 hB1=>?_)
 have hwb1:_≤b1:=Nat.le_trans hG.size hle1
 replace hG:=hG.trans (zaa hE1)
 replace hP:=hP.ext hE1
 simp [go_sem,za0,za4,za1,hB1.cell]
 refine zza rfl zbD (fun w2 b2 hE2 hle2 hB2=>?_)
 have hwb2:_≤b2:=Nat.le_trans hG.size hle2
 have hd1_2:b1≠b2:=Nat.ne_of_lt (Nat.lt_of_lt_of_le hB1.lt hle2)
 replace hB1:=hB1.keep hE2
 replace hG:=hG.trans (zaa hE2)
 replace hP:=hP.ext hE2
 simp [go_sem,za0,za4,za1,hB1.cell,hB2.cell]
 apply hK;clear hK K
 refine zzr fun K hK=>?_
 simp [go_sem,za0,za4,za1,hB1.cell,hB2.cell]
 refine zzs (b:=b1) (off:=0) [.int .i64 kind] rfl zaQ hB1 (fun w3 hS3 hB3=>?_) (by simp [go_sem,Value.cells])
 simp [zaw] at hB3
 replace hG:=zan hG hS3 hwb1
 replace hP:=hP.sto hS3 (by omega) (fun ad ha=>by have:=hla0 ad ha;omega)
 replace hB2:=hB2.sto hS3 (by first|exact hd2_1|exact (hd1_2).symm)
 simp [go_sem,za0,za4,za1,hB2.cell,hB3.cell]
 apply hK;clear hK K
 obtain ⟨N4,hN4⟩:∃ N,N=w3.heap.size:=⟨_,rfl⟩
 have hNs:N4≤w3.heap.size:=by omega
 have hbN4:=hP.lt'
 have h1N4:=hB3.lt
 have h2N4:=hB2.lt
 rw [←hN4] at hbN4 h1N4 h2N4
 have hlaN:∀ ad,la=some ad→ad.block<N4:=fun ad ha=>by have:=hla0 ad ha;have:=hG.size;omega
 have hwN4:w.heap.size≤N4:=by rw [hN4];exact hG.size
 refine zab (fun K1 hK1=>?_)
 obtain ⟨s1,hs1⟩:∃ s1,s1=s:=⟨_,rfl⟩
 rw [←hs1] at hP hZ
 obtain ⟨va,vc,acc,hB1,hown,hnb,hacc0⟩:∃ (va:Option Addr) (vc:Nat) (acc:List (List UInt8)),Bx w3 b1 #[.int .i64 kind,.slice va acc.length vc,.int .i64 0,.string ⟨#[]⟩,.bool false,.slice none 0 0,.slice none 0 0,.slice none 0 0,.int .i64 0,.int .i64 pos] 64∧w3.ownsRow N4 9 1 (.slice va acc.length vc) acc.length (acc.map strV)∧NB w3 (.slice va acc.length vc)∧acc=[]:=⟨none,0,[],hB3,World.ownsRow_nil _ _ _ _,NB.nil _,rfl⟩
 have hal:acc.length≤s1.i:=by rw [hacc0];exact Nat.zero_le _
 have hB2:=hB2
 have hil:=hP.lt
 have hD4:=Below.drew1 w3
 replace hB1:=hB1.keep hD4
 replace hB2:=hB2.keep hD4
 replace hG:=hG.trans (zaa hD4)
 replace hP:=hP.ext hD4
 replace hnb:=hnb.keep hD4
 replace hown:=zas hown hD4
 refine zeJ ([⟨b1,1,none⟩]) [(0,0),(1,0),(2,0),(3,0),(4,0),(5,0),(6,1),(7,1),(8,2),(9,0),(10,2)] (by kernel_rfl) (by kernel_rfl) (fun K hK=>?_)
 simp [go_sem,za0,za4,za1,hB1.cell,hB2.cell]
 have hkp:Keep ([⟨b1,1,none⟩]) w3.drew w3.drew:=zdc _ _
 have hds:=(Below.drew1 w3).size
 have hownD:=hown
 refine zzc rfl Tryz.call54 (fun R hR=>?_)
 simp [go_sem,za0,za4,za1,hB1.cell,hB2.cell]
 refine (nameS_any hP hW).mono ?_
 rintro e w30 ⟨rfl,hQ30,hg30⟩
 refine ⟨_,rfl,hR _ _ ?_⟩
 clear hR R
 replace hkp:=hkp.trans (Keep.grown (by intro a ha;simp only [List.mem_cons,List.not_mem_nil,or_false] at ha;rcases ha with rfl<;>exact ⟨by first|exact hB1.lt,(by intro e;injection e with e;simp at e;omega)⟩) hg30)
 replace hnb:=zdO hnb hown hg30 (by omega)
 replace hown:=zcF hown hg30 (by omega)
 replace hB1:=hB1.grown hg30 (by intro e;injection e with e;omega)
 replace hB2:=hB2.grown hg30 (by intro e;injection e with e;omega)
 replace hP:=hQ30
 replace hG:=hG.trans hg30
 clear hQ30
 refine zbb hkp ?_
 simp [go_sem,za0,za4,za1,hB1.cell,hB2.cell]
 refine zak #[.string ⟨(zbM T s1).2.toArray⟩] (by simp [go_sem,za0,za4,za1,hB1.cell,hB2.cell]) rfl zcO (by decide) [(0,.string ⟨(zbM T s1).2.toArray⟩)] (by simp [go_sem,za0,za4,za1,hB1.cell,hB2.cell]) (by kernel_rfl) (fun w40 b40 hE40 hle40 hB40=>?_)
 replace hkp:=hkp.trans (Keep.below (by intro a ha;simp only [List.mem_cons,List.not_mem_nil,or_false] at ha;rcases ha with rfl<;>first|exact hB1.lt) hE40)
 have hwb40:_≤b40:=Nat.le_trans hG.size hle40
 have hd1_40:b1≠b40:=Nat.ne_of_lt (Nat.lt_of_lt_of_le hB1.lt hle40)
 have hd2_40:b2≠b40:=Nat.ne_of_lt (Nat.lt_of_lt_of_le hB2.lt hle40)
 replace hB1:=hB1.keep hE40
 replace hB2:=hB2.keep hE40
 replace hG:=hG.trans (zaa hE40)
 replace hP:=hP.ext hE40
 replace hnb:=hnb.keep hE40
 replace hown:=zas hown hE40
 refine zbb hkp ?_
 simp [go_sem,za0,za4,za1,hB1.cell,hB2.cell,hB40.cell]
 have hN40:N4≤w40.heap.size:=Nat.le_trans hNs (Nat.le_trans hds (Nat.le_trans hg30.size hE40.size))
 refine zcn (v:=.slice va acc.length vc) (b:=b40) (len:=1) (c:=1) hB40 (by simp [go_sem]) rfl zcO ty_bytes9 rfl (by decide) (by simp [go_sem,za0,hB1.cell]) (by simp [go_sem]) hown rfl (by simp [Value.oneCell']) (by unfold maxLen;omega) (by omega) hN40 (by decide) (by intro u hu x e;subst e;simp at hu) (by intro u hu x e;subst e;simp at hu) hnb (fun v' w50 hown' hg50 hat50 hnb'=>?_)
 obtain ⟨va',vc',rfl⟩:=zbf hown'
 have hob:∀ k,(Value.ownBlock (.slice va acc.length vc))=some k→N4≤k:=fun k e=>(hown.lt k e).1
 replace hP:=hP.grown hg50 (fun e=>by have:=hob b e.symm;omega) (fun ad ha e=>by have:=hob ad.block e.symm;have:=hla0 ad ha;omega)
 replace hG:=grown_own hG hg50 (fun k e=>by have:=hob k e;omega)
 replace hB2:=hB2.grown hg50 (fun e=>by have:=hob b2 e.symm;omega)
 have hkp2:=hkp.trans (Keep.grown (by intro a ha;simp only [List.mem_cons,List.not_mem_nil,or_false] at ha;subst ha;exact ⟨hB1.lt,fun e=>by have:=hob b1 e.symm;omega⟩) hg50)
 replace hB1:=hB1.grown hg50 (fun e=>by have:=hob b1 e.symm;omega)
 refine zde ?_
 simp [go_sem,za0,za4,za1,hB1.cell,hB2.cell,hkp2]
 refine zzs (b:=b1) (off:=1) [.slice va' (acc.length+1) vc'] rfl ty_size62 hB1 (fun w60 hS60 hB60=>?_) (by simp [go_sem,Value.cells])
 simp [zaw] at hB60
 replace hnb':=zdf hnb' hown' hS60 (by omega)
 replace hown':=zbu hown' hS60 (by omega)
 replace hG:=zan hG hS60 hwb1
 replace hP:=hP.sto hS60 (by omega) (fun ad ha=>by have:=hla0 ad ha;omega)
 replace hB2:=hB2.sto hS60 (by first|exact hd2_1|exact (hd1_2).symm)
 refine zde ?_
 simp [go_sem,za0,za4,za1,hB2.cell,hB60.cell]
 apply hK;clear hK K
 have hN60:N4≤w60.heap.size:=by rw [hS60.size];exact Nat.le_trans hN40 hg50.size
 have hacc:acc.length+1=(acc++[(zbM T s1).2]).length:=by simp
 obtain ⟨l,hl⟩:∃ l,l=acc++[(zbM T s1).2]:=⟨_,rfl⟩
 have hl1:l=[(zbM T s1).2]:=by rw [hl,hacc0];rfl
 have hll:l.length≤maxLen:=by rw [hl1];unfold maxLen;simp
 have hB1':=hB60
 rw [hacc,←hl] at hB1' hown' hnb'
 rw [show acc.map strV ++ #[Value.string ⟨(zbM T s1).2.toArray⟩].toList=l.map strV by rw [hl,List.map_append];rfl] at hown'
 have hB2':=hB2
 apply hK1
 obtain ⟨s2,hs2⟩:∃ s2,s2=(zbM T s1).1:=⟨_,rfl⟩
 rw [←hs2] at hP
 rw [←hs2,←hl1] at hZ
 refine zzr fun K hK=>?_
 simp [go_sem,za0,za4,za1,hB1'.cell,hB2'.cell]
 refine zzc rfl Tryz.call29 (fun R hR=>?_)
 simp [go_sem,za0,za4,za1,hB1'.cell,hB2'.cell]
 refine (zdH hP hW sAS).mono ?_
 rintro e w70 ⟨rfl,hQ70,hg70⟩
 refine ⟨_,rfl,hR _ _ ?_⟩
 clear hR R
 replace hnb':=zdO hnb' hown' hg70 (by omega)
 replace hown':=zcF hown' hg70 (by omega)
 replace hB1':=hB1'.grown hg70 (by intro e;injection e with e;omega)
 replace hB2':=hB2'.grown hg70 (by intro e;injection e with e;omega)
 replace hP:=hQ70
 replace hG:=hG.trans hg70
 clear hQ70
 simp [go_sem,za0,za4,za1,hB1'.cell,hB2'.cell]
 apply hK;clear hK K
 obtain ⟨s3,hs3⟩:∃ s3,s3=zc8 T sAS s2:=⟨_,rfl⟩
 rw [←hs3] at hP hZ
 refine zzr fun K hK=>?_
 simp [go_sem,za0,za4,za1,hB1'.cell,hB2'.cell]
 refine zak #[.int .i64 sort] (by simp [go_sem,za0,za4,za1,hB1'.cell,hB2'.cell]) rfl zep (by decide) [(0,.int .i64 sort)] (by simp [go_sem,za0,za4,za1,hB1'.cell,hB2'.cell]) (by kernel_rfl) (fun w80 b80 hE80 hle80 hB80=>?_)
 have hwb80:_≤b80:=Nat.le_trans hG.size hle80
 have hd1_80:b1≠b80:=Nat.ne_of_lt (Nat.lt_of_lt_of_le hB1'.lt hle80)
 have hd2_80:b2≠b80:=Nat.ne_of_lt (Nat.lt_of_lt_of_le hB2'.lt hle80)
 replace hB1':=hB1'.keep hE80
 replace hB2':=hB2'.keep hE80
 replace hG:=hG.trans (zaa hE80)
 replace hP:=hP.ext hE80
 replace hnb':=hnb'.keep hE80
 replace hown':=zas hown' hE80
 simp [go_sem,za0,za4,za1,hB1'.cell,hB2'.cell,hB80.cell]
 have hN80:N4≤w80.heap.size:=Nat.le_trans hN60 (Nat.le_trans hg70.size hE80.size)
 have hw80:w.heap.size≤w80.heap.size:=hG.size
 have hown8:=hown'
 refine zzc rfl Tryz.call14 (fun R hR=>?_)
 simp [go_sem,za0,za4,za1,hB1'.cell,hB2'.cell,hB80.cell]
 refine (con1_any hW hP (some ⟨b80,0,none⟩) 1 [sort] (intC_sl (l:=[sort]) hB80) (by simp)).mono ?_
 rintro e w81 ⟨Rx,x,rfl,hxe,hxv,hQ81,hg81⟩
 refine ⟨_,rfl,hR _ _ ?_⟩
 clear hR R
 replace hnb':=zdO hnb' hown' hg81 (by omega)
 replace hown':=zcF hown' hg81 (by omega)
 replace hB1':=hB1'.grown hg81 (by intro e;injection e with e;omega)
 replace hB2':=hB2'.grown hg81 (by intro e;injection e with e;omega)
 replace hB80:=hB80.grown hg81 (by intro e;injection e with e;omega)
 replace hP:=hQ81
 replace hG:=hG.trans hg81
 clear hQ81
 obtain ⟨xa,xc,xb,xd,xad,xcap,xrows,hRx,_⟩:=hxe.open
 subst hRx
 replace hxe:=hxe.mono (F':=fun k=>w80.heap.size≤k) (fun k hk=>hk)
 simp [go_sem,za0,za4,za1,hB1'.cell,hB2'.cell,hB80.cell]
 refine zzs (b:=b1) (off:=2) [.int .i64 x.kind,.string ⟨x.name.toArray⟩,.bool x.neg,.slice xa x.num.length xc,.slice xb x.den.length xd,.slice xad x.args.length xcap,.int .i64 x.pos] rfl zaC hB1' (fun w82 hS82 hB82=>?_) (by simp [go_sem,Value.cells])
 simp [zaw] at hB82
 replace hxe:=hxe.ch (Ch.of_sto hS82 (NL.of_bx hB1' (by intro u hu x e;subst e;simp at hu))) (by intro k hk e;subst e;first|exact hk.2 rfl|omega)
 replace hnb':=zdf hnb' hown' hS82 (by omega)
 replace hown':=zbu hown' hS82 (by omega)
 replace hG:=zan hG hS82 hwb1
 replace hP:=hP.sto hS82 (by omega) (fun ad ha=>by have:=hla0 ad ha;omega)
 replace hB2':=hB2'.sto hS82 (by first|exact hd2_1|exact (hd1_2).symm)
 replace hB80:=hB80.sto hS82 (by first|exact hd80_1|exact (hd1_80).symm)
 simp [go_sem,za0,za4,za1,hB2'.cell,hB80.cell,hB82.cell]
 apply hK;clear hK K
 refine zzr fun K hK=>?_
 simp [go_sem,za0,za4,za1,hB2'.cell,hB80.cell,hB82.cell]
 refine zzs (b:=b2) (off:=0) [.int .i64 kind,.slice va' l.length vc',.int .i64 x.kind,.string ⟨x.name.toArray⟩,.bool x.neg,.slice xa x.num.length xc,.slice xb x.den.length xd,.slice xad x.args.length xcap,.int .i64 x.pos,.int .i64 pos] rfl zaJ hB2' (fun w83 hS83 hB83=>?_) (by simp [go_sem,Value.cells])
 simp [zaw] at hB83
 replace hxe:=hxe.ch (Ch.of_sto hS83 (NL.of_bx hB2' (by intro u hu x e;subst e;simp at hu))) (by intro k hk e;subst e;first|exact hk.2 rfl|omega)
 replace hnb':=zdf hnb' hown' hS83 (by omega)
 replace hown':=zbu hown' hS83 (by omega)
 replace hG:=zan hG hS83 hwb2
 replace hP:=hP.sto hS83 (by omega) (fun ad ha=>by have:=hla0 ad ha;omega)
 replace hB82:=hB82.sto hS83 (by first|exact hd1_2|exact (hd2_1).symm)
 replace hB80:=hB80.sto hS83 (by first|exact hd80_2|exact (hd2_80).symm)
 simp [go_sem,za0,za4,za1,hB80.cell,hB82.cell,hB83.cell]
 apply hK;clear hK K
 refine zad ?_
 repeat first|refine za3 ?_|refine za2 ?_
 refine ⟨by simp [go_sem,zaD,zam,za4,za1,za0,hB83.cell],?_⟩
 have hnm:NmS _ (fun k=>w.heap.size≤k) va' l:=⟨zca hown',fun ad ha hn=>Nat.le_trans hwN4 (hown'.lt ad.block (by rw [ha];rfl)).1,hll⟩
 refine ⟨_,⟨kind,l,x,pos⟩,?_,SX.mk' (c:=vc') hnm (hxe.mono (fun k hk=>Nat.le_trans hw80 hk)),fun e=>?_,?_,hG⟩
 ·simp [go_sem,zar,zam,za4,za1,za0,hB83.cell]
 ·rw [hZ];rw [hZ] at e;rw [hxv e]
 ·rw [hZ];exact hP
end Go.Proofs.YtefhenfofomjhaaGreat
