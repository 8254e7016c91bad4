/- Rational numbers: the arithmetic. -/
import Derived.Test.YtefhenfofomjhaaGreatPt4
import Derived.Test.YtefhenfofomjhaaGreatNu8
import Derived.Test.YtefhenfofomjhaaGreatIn9
import Derived.Laws.StructEq
set_option linter.unusedSimpArgs false
set_option linter.unusedVariables false
namespace Go.Proofs.YtefhenfofomjhaaGreat
open Go Go.RowKit Go.V
set_option maxRecDepth 20000
def na (x:Nat):At:=.u (lim x)
theorem RetN.rep {w w':World} {x:Nat} {e:Ending} (h:RetN w (lim x) e w'):∃ v,e = .returned v∧RepV w' [.u] [na x] v∧Below w.heap.size w w':=by
 obtain ⟨a,c,he,hr,hE⟩:=h
 exact ⟨_,he,zdn.2 ⟨_,a,c,rfl,rfl,hr⟩,hE⟩
def f_uu (g:List Nat→Nat):List At→Option (List At)
 | [.u l]=>some [na (g l)]
 | _=>none
theorem ok_uu {P:Program} {f L A B:Nat} {g:List Nat→Nat}
  (h:∀ l a c w,RD w a c l→l.length≤L→Calls P f #[.slice a l.length c] w (RetN w (lim (g l))))
  (hz:∀ l s,Ok l→l.length≤s→(lim (g l)).length≤A*s+B):Ct.ok P f { args:=[[.u]],res:=[[.u]],F:=f_uu g,L:=L,A:=A,B:=B }:=by
 intro s w vs als r hs hr hsz hF
 obtain ⟨v,rfl,h1⟩:=vs1 hr
 obtain ⟨l,a,c,rfl,rfl,r1⟩:=zdn.1 h1
 injection hF with hF;subst hF
 have s1:l.length≤s:=hsz (.u l) (by simp)
 refine (h l a c w r1 (Nat.le_trans s1 hs)).mono ?_
 intro e w' hret
 obtain ⟨v,he,hv,hE⟩:=hret.rep
 exact ret1 rfl he hv (fun x hx=>by simp at hx;subst hx;exact hz l s r1.ok s1) hE
def f_uuu (g:List Nat→List Nat→Nat):List At→Option (List At)
 | [.u l,.u m]=>some [na (g l m)]
 | _=>none
theorem ok_uuu {P:Program} {f L A B:Nat} {g:List Nat→List Nat→Nat}
  (h:∀ l m a b c d w,RD w a c l→RD w b d m→l.length≤L→m.length≤L→Calls P f #[.slice a l.length c,.slice b m.length d] w (RetN w (lim (g l m))))
  (hz:∀ l m s,Ok l→Ok m→l.length≤s→m.length≤s→(lim (g l m)).length≤A*s+B):Ct.ok P f { args:=[[.u],[.u]],res:=[[.u]],F:=f_uuu g,L:=L,A:=A,B:=B }:=by
 intro s w vs als r hs hr hsz hF
 obtain ⟨a1,a2,v,u,rfl,rfl,h1,h2⟩:=vs2 hr
 obtain ⟨l,a,c,rfl,rfl,r1⟩:=zdn.1 h1
 obtain ⟨m,b,d,rfl,rfl,r2⟩:=zdn.1 h2
 have hF':some [na (g l m)]=some r:=hF
 injection hF' with hF';subst hF'
 have s1:l.length≤s:=hsz (.u l) (by simp)
 have s2:m.length≤s:=hsz (.u m) (by simp)
 refine (h l m a b c d w r1 r2 (Nat.le_trans s1 hs) (Nat.le_trans s2 hs)).mono ?_
 intro e w' hret
 obtain ⟨v,he,hv,hE⟩:=hret.rep
 exact ret1 rfl he hv (fun x hx=>by simp at hx;subst hx;exact hz l m s r1.ok r2.ok s1 s2) hE
def f_un (g:List Nat→Int):List At→Option (List At)
 | [.u l]=>some [.n (g l)]
 | _=>none
def f_ub (g:List Nat→Bool):List At→Option (List At)
 | [.u l]=>some [.b (g l)]
 | _=>none
def f_uub (g:List Nat→List Nat→Bool):List At→Option (List At)
 | [.u l,.u m]=>some [.b (g l m)]
 | _=>none
def f_div:List At→Option (List At)
 | [.u l,.u m]=>some (if val m=0 then [.u [],.u [],.n 3] else [na (val l / val m),na (val l % val m),.n 0])
 | _=>none
theorem ok_div {P:Program} {f L:Nat} (h:∀ l m a b c d w,RD w a c l→RD w b d m→l.length≤L→m.length≤L→Calls P f #[.slice a l.length c,.slice b m.length d] w (DivPost w (val l) (val m))):Ct.ok P f { args:=[[.u],[.u]],res:=[[.u],[.u],[.n]],F:=f_div,L:=L,A:=1,B:=0 }:=by
 intro s w vs als r hs hr hsz hF
 obtain ⟨a1,a2,v,u,rfl,rfl,h1,h2⟩:=vs2 hr
 obtain ⟨l,a,c,rfl,rfl,r1⟩:=zdn.1 h1
 obtain ⟨m,b,d,rfl,rfl,r2⟩:=zdn.1 h2
 have hF':some (if val m=0 then [.u [],.u [],.n 3] else [na (val l / val m),na (val l % val m),.n 0])=some r:=hF
 injection hF' with hF';subst hF'
 have s1:l.length≤s:=hsz (.u l) (by simp)
 have s2:m.length≤s:=hsz (.u m) (by simp)
 refine (h l m a b c d w r1 r2 (Nat.le_trans s1 hs) (Nat.le_trans s2 hs)).mono ?_
 rintro e w' (⟨h0,rfl,hE⟩|⟨h0,a,c,a',c',rfl,g1,g2,hE⟩)
 ·rw [if_pos h0]
  exact ret3 (r1:=[.u []]) (r2:=[.u []]) (r3:=[.n 3]) rfl rfl (zdn.2 ⟨[],none,0,rfl,rfl,RD.nil _ _ _⟩) (zdn.2 ⟨[],none,0,rfl,rfl,RD.nil _ _ _⟩) (repV_n.2 ⟨3,rfl,rfl⟩) (fun x hx=>by simp at hx;rcases hx with rfl|rfl<;>simp [At.sz]) hE
 ·rw [if_neg h0]
  refine ret3 (r1:=[na (val l / val m)]) (r2:=[na (val l % val m)]) (r3:=[.n 0]) rfl rfl (zdn.2 ⟨_,a,c,rfl,rfl,g1⟩) (zdn.2 ⟨_,a',c',rfl,rfl,g2⟩) (repV_n.2 ⟨0,rfl,rfl⟩) (fun x hx=>?_) hE
  have q1:=zdC r1.ok s1
  simp at hx
  rcases hx with rfl|rfl|rfl
  ·have:=lim_mono (Nat.div_le_self (val l) (val m)) q1
   simp only [na,At.sz];omega
  ·have:=lim_mono (Nat.mod_le (val l) (val m)) q1
   simp only [na,At.sz];omega
  ·simp [At.sz]
def f_sqrt:List At→Option (List At)
 | [.u l]=>some [na (isq (val l)),na (val l-isq (val l)*isq (val l))]
 | _=>none
def f_nof:List At→Option (List At)
 | [.w (.int .u64 z)]=>if 0≤z∧z<18446744073709551616 then some [na z.toNat] else none
 | _=>none
theorem ok_nof {P:Program} {f:Nat} (h:∀ (n:Nat) w,n<18446744073709551616→Calls P f #[.int .u64 n] w (RetN w (lim n))):Ct.ok P f { args:=[[.w]],res:=[[.u]],F:=f_nof,L:=100000000000000,A:=0,B:=4 }:=by
 intro s w vs als r hs hr hsz hF
 obtain ⟨v,rfl,h1⟩:=vs1 hr
 obtain ⟨x,rfl,rfl,_⟩:=repV_w.1 h1
 obtain ⟨z,rfl⟩:∃ z,v = .int .u64 z:=by
  simp only [f_nof] at hF
  split at hF
  ·rename_i z h2
   simp only [List.cons.injEq,At.w.injEq,and_true] at h2
   exact ⟨z,h2⟩
  ·cases hF
 have hF':(if 0≤z∧z<18446744073709551616 then some [na z.toNat] else none)=some r:=hF
 split at hF'
 ·rename_i hz
  injection hF' with hF';subst hF'
  have:=h z.toNat w (by omega)
  rw [Int.toNat_of_nonneg hz.1] at this
  refine this.mono ?_
  intro e w' hret
  obtain ⟨v,he,hv,hE⟩:=hret.rep
  exact ret1 rfl he hv (fun x hx=>by simp at hx;subst hx;have:=zbv 4 z.toNat (by simp;omega);simp only [na,At.sz];omega) hE
 ·cases hF'
theorem ok_ub {P:Program} {f L:Nat} {g:List Nat→Bool}
  (h:∀ l a c w,RD w a c l→l.length≤L→Calls P f #[.slice a l.length c] w fun e w'=>e = .returned (.bool (g l))∧Below w.heap.size w w'):Ct.ok P f { args:=[[.u]],res:=[[.b]],F:=f_ub g,L:=L,A:=0,B:=0 }:=by
 intro s w vs als r hs hr hsz hF
 obtain ⟨v,rfl,h1⟩:=vs1 hr
 obtain ⟨l,a,c,rfl,rfl,r1⟩:=zdn.1 h1
 injection hF with hF;subst hF
 have s1:l.length≤s:=hsz (.u l) (by simp)
 refine (h l a c w r1 (Nat.le_trans s1 hs)).mono ?_
 rintro e w' ⟨he,hE⟩
 exact ret1 rfl he (repV_b.2 ⟨_,rfl,rfl⟩) (fun x hx=>by simp at hx;subst hx;simp [At.sz]) hE
theorem ok_un {P:Program} {f L:Nat} {g:List Nat→Int}
  (h:∀ l a c w,RD w a c l→l.length≤L→Calls P f #[.slice a l.length c] w fun e w'=>e = .returned (.int .i64 (g l))∧Below w.heap.size w w'):Ct.ok P f { args:=[[.u]],res:=[[.n]],F:=f_un g,L:=L,A:=0,B:=0 }:=by
 intro s w vs als r hs hr hsz hF
 obtain ⟨v,rfl,h1⟩:=vs1 hr
 obtain ⟨l,a,c,rfl,rfl,r1⟩:=zdn.1 h1
 injection hF with hF;subst hF
 have s1:l.length≤s:=hsz (.u l) (by simp)
 refine (h l a c w r1 (Nat.le_trans s1 hs)).mono ?_
 rintro e w' ⟨he,hE⟩
 exact ret1 rfl he (repV_n.2 ⟨_,rfl,rfl⟩) (fun x hx=>by simp at hx;subst hx;simp [At.sz]) hE
theorem refl_below {w w':World} (h:w=w'):Below w.heap.size w w':=by subst h;exact Below.refl _ _
theorem lz_n {l:List Nat} {s:Nat} (h:Ok l) (hl:l.length≤s):(lim (val l)).length≤1*s+0:=by have:=zdC h hl;omega
theorem gcd_le_max (a b:Nat):Nat.gcd a b≤max a b:=by
 rcases Nat.eq_zero_or_pos a with h|h
 ·subst h;rw [Nat.gcd_zero_left];omega
 ·have:=Nat.gcd_le_left b h;omega
theorem lz_gcd {l m:List Nat} {s:Nat} (h1:Ok l) (h2:Ok m) (hl:l.length≤s) (hm:m.length≤s):(lim (Nat.gcd (val l) (val m))).length≤1*s+0:=by
 have q1:=zdC h1 hl
 have q2:=zdC h2 hm
 have:(lim (max (val l) (val m))).length≤s:=by
                           rcases Nat.le_total (val l) (val m) with h|h
                           ·rw [Nat.max_eq_right h];exact q2
                           ·rw [Nat.max_eq_left h];exact q1
 have:=lim_mono (gcd_le_max (val l) (val m)) this
 omega
theorem lz_nmul {l m:List Nat} {s:Nat} (h1:Ok l) (h2:Ok m) (hl:l.length≤s) (hm:m.length≤s):(lim (val l*val m)).length≤2*s+0:=by
 have:=zbv (s+s) (val l*val m) (by rw [Nat.pow_add];exact Nat.mul_lt_mul'' (Nat.lt_of_lt_of_le (zc6 l h1) (Nat.pow_le_pow_right (by decide) hl)) (Nat.lt_of_lt_of_le (zc6 m h2) (Nat.pow_le_pow_right (by decide) hm)))
 omega
def ct_nnorm:Ct:={ args:=[[.u]],res:=[[.u]],F:=f_uu val,L:=10000000000,A:=1,B:=0 }
theorem zaM:ct_nnorm.F=f_uu val:=rfl
theorem ok_nnorm:ct_nnorm.ok Tryz.prog 94:=ok_uu (fun l a c w hr hl=>by rw [zaP l hr.ok];exact norm_any l a c w hr (by unfold zbS;omega)) (fun l s h1 h2=>lz_n h1 h2)
def ct_rnorm:Ct:={ args:=[[.u]],res:=[[.u]],F:=f_uu val,L:=10000000000,A:=1,B:=0 }
theorem zaN:ct_rnorm.F=f_uu val:=rfl
theorem ok_rnorm:ct_rnorm.ok Tryz.prog 121:=ok_uu (fun l a c w hr hl=>by rw [zaP l hr.ok];exact zbX l a c w hr (by unfold zbS;omega)) (fun l s h1 h2=>lz_n h1 h2)
def ct_ngcd:Ct:={ args:=[[.u],[.u]],res:=[[.u]],F:=f_uuu fun l m=>Nat.gcd (val l) (val m),L:=10000000000,A:=1,B:=0 }
theorem ze6:ct_ngcd.F=f_uuu fun l m=>Nat.gcd (val l) (val m):=rfl
theorem ok_ngcd:ct_ngcd.ok Tryz.prog 97:=ok_uuu (fun l m a b c d w hr hs hl hm=>gcd_any l m a b c d w hr hs (by unfold zcq;omega) (by unfold zcq;omega)) (fun l m s h1 h2 h3 h4=>lz_gcd h1 h2 h3 h4)
def ct_rgcd:Ct:={ args:=[[.u],[.u]],res:=[[.u]],F:=f_uuu fun l m=>Nat.gcd (val l) (val m),L:=10000000000,A:=1,B:=0 }
theorem ze7:ct_rgcd.F=f_uuu fun l m=>Nat.gcd (val l) (val m):=rfl
theorem ok_rgcd:ct_rgcd.ok Tryz.prog 122:=ok_uuu (fun l m a b c d w hr hs hl hm=>gcdR_any l m a b c d w hr hs (by unfold zcq;omega) (by unfold zcq;omega)) (fun l m s h1 h2 h3 h4=>lz_gcd h1 h2 h3 h4)
def ct_nmul:Ct:={ args:=[[.u],[.u]],res:=[[.u]],F:=f_uuu fun l m=>val l*val m,L:=10000000000,A:=2,B:=0 }
theorem zbJ:ct_nmul.F=f_uuu fun l m=>val l*val m:=rfl
theorem ok_nmul:ct_nmul.ok Tryz.prog 93:=ok_uuu (fun l m a b c d w hr hs hl hm=>mul_any l m a b c d w hr hs (by unfold zcq;omega) (by unfold zcq;omega)) (fun l m s h1 h2 h3 h4=>lz_nmul h1 h2 h3 h4)
def ct_rmul:Ct:={ args:=[[.u],[.u]],res:=[[.u]],F:=f_uuu fun l m=>val l*val m,L:=10000000000,A:=2,B:=0 }
theorem zbK:ct_rmul.F=f_uuu fun l m=>val l*val m:=rfl
theorem ok_rmul:ct_rmul.ok Tryz.prog 127:=ok_uuu (fun l m a b c d w hr hs hl hm=>mulR_any l m a b c d w hr hs (by unfold zcq;omega) (by unfold zcq;omega)) (fun l m s h1 h2 h3 h4=>lz_nmul h1 h2 h3 h4)
def ct_ndiv:Ct:={ args:=[[.u],[.u]],res:=[[.u],[.u],[.n]],F:=f_div,L:=10000000000,A:=1,B:=0 }
theorem ze8:ct_ndiv.F=f_div:=rfl
theorem ok_ndiv:ct_ndiv.ok Tryz.prog 98:=ok_div (fun l m a b c d w hr hs hl hm=>divmod_any l m a b c d w hr hs (by unfold zcq;omega) (by unfold zcq;omega))
def ct_rdiv:Ct:={ args:=[[.u],[.u]],res:=[[.u],[.u],[.n]],F:=f_div,L:=10000000000,A:=1,B:=0 }
theorem ze9:ct_rdiv.F=f_div:=rfl
theorem ok_rdiv:ct_rdiv.ok Tryz.prog 123:=ok_div (fun l m a b c d w hr hs hl hm=>divmodR_any l m a b c d w hr hs (by unfold zcq;omega) (by unfold zcq;omega))
def ct_nbits:Ct:={ args:=[[.u]],res:=[[.n]],F:=f_un fun l=>(zdJ (val l):Int),L:=10000000000,A:=0,B:=0 }
theorem zbj:ct_nbits.F=f_un fun l=>(zdJ (val l):Int):=rfl
theorem ok_nbits:ct_nbits.ok Tryz.prog 91:=ok_un (fun l a c w hr hl=>(bits_any l a c w hr (by unfold zbS;omega)).mono fun e w' h=>⟨h.1,refl_below h.2⟩)
def ct_rnof:Ct:={ args:=[[.w]],res:=[[.u]],F:=f_nof,L:=100000000000000,A:=0,B:=4 }
theorem zaV:ct_rnof.F=f_nof:=rfl
theorem ok_rnof:ct_rnof.ok Tryz.prog 119:=ok_nof (fun n w hn=>ofR_any n w hn)
def f_yyn (g:Bool→List Nat→Bool→List Nat→Int):List At→Option (List At)
 | [.y a l,.y b m]=>some [.n (g a l b m)]
 | _=>none
def f_idiv:List At→Option (List At)
 | [.y a l,.y b m]=>some [za (qq (vz a l) (vz b m)),za (rr (vz a l) (vz b m)),.n (ee (vz b m))]
 | _=>none
def f_iof:List At→Option (List At)
 | [.n z]=>if -9223372036854775808≤z∧z<9223372036854775808 then some [za z] else none
 | _=>none
def ct_rimul:Ct:={ args:=[[.y],[.y]],res:=[[.y]],F:=f_yyy fun a l b m=>vz a l*vz b m,L:=1000000000,A:=2,B:=0 }
theorem zbk:ct_rimul.F=f_yyy fun a l b m=>vz a l*vz b m:=rfl
theorem ok_rimul:ct_rimul.ok Tryz.prog 104:=ok_yyy (fun neg peg l m a b c d w hr hs hl hm=>iMulR_any neg peg l m a b c d w hr hs hl hm) (fun neg l peg m s h1 h2 h3 h4=>by have:=lz_mul' (s:=s) (t:=s) (vz_pow (neg:=neg) h1 h3) (vz_pow (neg:=peg) h2 h4);omega)
def ct_rineg:Ct:={ args:=[[.y]],res:=[[.y]],F:=f_yy fun a l=>vz (!a) l,L:=1000000000,A:=1,B:=0 }
theorem zbl:ct_rineg.F=f_yy fun a l=>vz (!a) l:=rfl
theorem ok_rineg:ct_rineg.ok Tryz.prog 101:=ok_yy (fun neg l a c w hr hl=>iNegR_any neg l a c w hr (by unfold zbS;omega)) (fun neg l s h1 h3=>by rw [Nat.one_mul];exact vz_lt h1 h3)
def ct_rinorm:Ct:={ args:=[[.y]],res:=[[.y]],F:=f_yy fun a l=>vz a l,L:=1000000000,A:=1,B:=0 }
theorem zaC:ct_rinorm.F=f_yy fun a l=>vz a l:=rfl
theorem ok_rinorm:ct_rinorm.ok Tryz.prog 124:=ok_yy (fun neg l a c w hr hl=>iNormR_any neg l a c w hr (by unfold zbS;omega)) (fun neg l s h1 h3=>by rw [Nat.one_mul];exact vz_lt h1 h3)
def ct_risign:Ct:={ args:=[[.y]],res:=[[.n]],F:=f_yn fun a l=>sg (vz a l),L:=1000000000000,A:=0,B:=0 }
theorem zaW:ct_risign.F=f_yn fun a l=>sg (vz a l):=rfl
theorem ok_risign:ct_risign.ok Tryz.prog 126:=ok_yn (fun neg l a c w hr hl=>iSignR_any neg l a c w hr hl)
theorem tame_program {P:Program} (w:World):zb4 P program w=some P:=rfl
theorem tame_ite {P:Program} {w:World} {α:Type} (c:Prop) [Decidable c] (x y:Sem α):zb4 P (if c then x else y) w=if c then zb4 P x w else zb4 P y w:=by split<;>rfl
theorem tame_equalIn_struct {P:Program} {w:World} (d:Nat) (t:TypeId) (xs ys:Array Value) (ht:P.underlying t=some (.struct (P.fieldsOf t))) (hp:P.stoodInHeld t=false) :
  zb4 P (Op.equalIn (d+1) t (.agg xs) (.agg ys)) w=zb4 P (Op.eqFields d xs ys (P.fieldsOf t).toList) w:=by
 simp only [Op.equalIn,zah,zar ht,Option.bind_some,tame_program,hp,Bool.false_eq_true,if_false]
 rw [←Array.forIn_toList]
 generalize (P.fieldsOf t).toList=fs
 clear ht
 induction fs with
 | nil=>simp [Op.eqFields,zaj,zah]
 | cons f fs ih =>
  simp only [List.forIn_cons,Op.eqFields,zah,tame_ite]
  by_cases hn : f.name ≠ "_"
  ·simp only [if_pos hn]
   cases zb4 P (part f.type xs f.offset) w with
   | none=>rfl
   | some a =>
    cases h2:zb4 P (part f.type ys f.offset) w with
    | none=>simp [h2]
    | some b =>
     cases h3:zb4 P (Op.equalIn d f.type a b) w with
     | none=>simp [h2,h3]
     | some r =>
      cases r
      ·simp [h2,h3,zaj]
      ·simp only [h2,h3,Option.bind_some,zaj,Bool.not_true,Bool.false_eq_true,if_false]
       exact ih
  ·simp only [if_neg hn,zaj,Option.bind_some]
   exact ih
theorem tame_part {P:Program} {w:World} {t:TypeId} {xs:Array Value} {j:Nat} {v:Value} (ha:zb4 P (isAgg t) w=some false) (hv:xs[j]? = some v):zb4 P (part t xs j) w=some v:=by
 simp only [part,zah,ha,Option.bind_some,Bool.false_eq_true,if_false,hv,zaj]
theorem tame_eq_int {P:Program} {w:World} (d:Nat) {t:TypeId} {k k':IntKind} (a b:Int) (h:P.underlying t=some (.int k')):zb4 P (Op.equalIn (d+1) t (.int k a) (.int k b)) w=some (decide (a=b)):=by
 simp [Op.equalIn,zah,zar h,zaj,beq_dec]
theorem eqF_cons {P : Program} {w : World} (d : Nat) (xs ys : Array Value) (f : Field) (fs : List Field) {a b : Value} {r : Bool} (hn : f.name ≠ "_") (h1 : zb4 P (part f.type xs f.offset) w = some a) (h2 : zb4 P (part f.type ys f.offset) w = some b) (h3 : zb4 P (Op.equalIn d f.type a b) w = some r) :
  zb4 P (Op.eqFields d xs ys (f::fs)) w=if r then zb4 P (Op.eqFields d xs ys fs) w else some false:=by
 simp only [Op.eqFields,tame_ite,if_pos hn,zah,h1,h2,h3,Option.bind_some,zaj]
 cases r<;>rfl
theorem guard_agg {P:Program} {w:World} (op:BinOp) (t:TypeId) (x y:Operand) (xs ys:Array Value) (hm:P.eqGuardType P.depth t=false):zb4 P (eqGuard op t x y (.agg xs) (.agg ys)) w=some ():=by
 cases op<;>simp [eqGuard,zah,tame_program,hm,zaj,tame_ite]
def isShp:Value→Bool
 | .agg ⟨[.int .i64 _,.int .u16 _]⟩=>true
 | _=>false
def eqShp:Value→Value→Value
 | .agg ⟨[.int .i64 a,.int .u16 b]⟩,.agg ⟨[.int .i64 a',.int .u16 b']⟩=>.bool (decide (a=a'∧b=b'))
 | _,_=>undef
@[go_sem] theorem isShp_mk (a b:Int):isShp (.agg #[.int .i64 a,.int .u16 b])=true:=rfl
@[go_sem] theorem eqShp_mk (a b a' b':Int):eqShp (.agg #[.int .i64 a,.int .u16 b]) (.agg #[.int .i64 a',.int .u16 b']) = .bool (decide (a=a'∧b=b')):=rfl
theorem shp_eq (w:World) (d:Nat) (a b a' b':Int) :
  zb4 Tryz.prog (Op.equalIn (d+1+1) 142 (.agg #[.int .i64 a,.int .u16 b]) (.agg #[.int .i64 a',.int .u16 b'])) w=some (decide (a=a'∧b=b')):=by
 have hu:Tryz.prog.underlying 142=some (.struct (Tryz.prog.fieldsOf 142)):=by kernel_rfl
 have hp:Tryz.prog.stoodInHeld 142=false:=by kernel_rfl
 have hf : (Tryz.prog.fieldsOf 142).toList = [⟨((Tryz.prog.fieldsOf 142).toList.getD 0 default).name, 3, 0, false, "", ((Tryz.prog.fieldsOf 142).toList.getD 0 default).pkgPath, 0⟩, ⟨((Tryz.prog.fieldsOf 142).toList.getD 1 default).name, 123, 1, false, "", ((Tryz.prog.fieldsOf 142).toList.getD 1 default).pkgPath, 8⟩] := by kernel_rfl
 have hn1 : ((Tryz.prog.fieldsOf 142).toList.getD 0 default).name ≠ "_" := of_decide_eq_false (by kernel_rfl)
 have hn2 : ((Tryz.prog.fieldsOf 142).toList.getD 1 default).name ≠ "_" := of_decide_eq_false (by kernel_rfl)
 rw [tame_equalIn_struct (d+1) 142 _ _ hu hp,hf]
 have u3:Tryz.prog.underlying 3=some (.int .i64):=by kernel_rfl
 have u9:Tryz.prog.underlying 123=some (.int .u16):=by kernel_rfl
 rw [eqF_cons (d+1) _ _ _ _ (by exact hn1) (tame_part (zcg u3 w) rfl) (tame_part (zcg u3 w) rfl) (tame_eq_int d a a' u3),
  eqF_cons (d+1) _ _ _ _ (by exact hn2) (tame_part (zcg u9 w) rfl) (tame_part (zcg u9 w) rfl) (tame_eq_int d b b' u9)]
 by_cases h1:a=a'<;>by_cases h2:b=b'<;>simp [h1,h2,Op.eqFields,zaj]
theorem run_shp {w:World} {ev:Operand→Value} {ty:TypeId} {x y:Operand} {u:TypeId} {a b a' b':Int} (hx:ev x = .agg #[.int .i64 a,.int .u16 b]) (hy:ev y = .agg #[.int .i64 a',.int .u16 b']) :
  zcx Tryz.prog w ev ty (.binOp .eql 142 x y u)=some (.value (.bool (decide (a=a'∧b=b')))):=by
 have hm:Tryz.prog.eqGuardType Tryz.prog.depth 142=false:=by kernel_rfl
 simp only [zcx,execOp,hx,hy,Go.binOp,zah,guard_agg _ _ _ _ _ _ hm,Option.bind_some,Op.equal,Op.maxDepth]
 rw [shp_eq w 9998]
 rfl
theorem isShp_of {v:Value} (h:isShp v=true):∃ a b,v = .agg #[.int .i64 a,.int .u16 b]:=by
 unfold isShp at h
 split at h
 ·exact ⟨_,_,rfl⟩
 ·cases h
theorem any_shp {w:World} {ev:Operand→Value} {ty:TypeId} {x y:Operand} {u:TypeId} (hx:isShp (ev x)=true) (hy:isShp (ev y)=true) :
  anyV Tryz.prog w ev ty (.binOp .eql 142 x y u)=eqShp (ev x) (ev y)∧anyOk Tryz.prog w ev ty (.binOp .eql 142 x y u):=by
 obtain ⟨a,b,hx⟩:=isShp_of hx
 obtain ⟨a',b',hy⟩:=isShp_of hy
 have h:=run_shp (w:=w) (ty:=ty) (u:=u) hx hy
 refine ⟨?_,_,h⟩
 rw [hx,hy,eqShp_mk]
 simp [anyV,h]
@[go_sem] theorem any_shp_v {w:World} {ev:Operand→Value} {ty:TypeId} {x y:Operand} {u:TypeId} (hx:isShp (ev x)=true) (hy:isShp (ev y)=true) :
  anyV Tryz.prog w ev ty (.binOp .eql 142 x y u)=eqShp (ev x) (ev y):=(any_shp hx hy).1
@[go_sem] theorem any_shp_ok {w:World} {ev:Operand→Value} {ty:TypeId} {x y:Operand} {u:TypeId} (hx:isShp (ev x)=true) (hy:isShp (ev y)=true) :
  anyOk Tryz.prog w ev ty (.binOp .eql 142 x y u)=True:=eq_true (any_shp hx hy).2
@[go_sem] theorem binC_agg {P:Program} (o:BinOp) (t:TypeId) (xs ys:Array Value):binC P o t (.agg xs) (.agg ys)=none:=by cases o<;>rfl
def isOne (l:List Nat):Bool:=decide (l=[1])
set_option maxHeartbeats 1000000 in
theorem one_any (l:List Nat) (a:Option Addr) (c:Nat) (w:World) (hr:RD w a c l) (hl:l.length≤zbS) :
  Calls Tryz.prog 96 #[.slice a l.length c] w fun e w'=>e = .returned (.bool (isOne l))∧Below w.heap.size w w':=by
 have hl':l.length≤1000000000000:=hl
 refine za7 (args:=[.slice a l.length c]) (rs:=[.tmp 2]) (n:=17) Tryz.func96 rfl rfl rfl (by kernel_rfl) ?_
 first|refine zzr fun K hK=>?_|refine zzt fun K hK=>?_
 simp [go_sem]
 refine hK _ _ ?_;clear hK K
 first|refine zzr fun K hK=>?_|refine zzt fun K hK=>?_
 simp [go_sem]
 refine zal #[.int .i64 l.length,.int .u16 0] (by simp [go_sem]) rfl ty_stZ142 [(0,.int .i64 l.length)] (by simp [go_sem]) rfl ?_
 simp [go_sem]
 refine zam (by simp [go_sem]) rfl ty_zeroC142 (fun w3 b3 hE3 hle3 hB3=>?_)
 have hnb:=hr.below (b:=b3) hle3
 replace hr:=hr.keep hE3
 have hE:=hE3
 simp [go_sem]
 refine za6 (b:=b3) (off:=0) [.int .i64 l.length,.int .u16 0] (by simp [go_sem]) rfl (by simp [go_sem]) (by simp [go_sem,Value.cells]) ty_size142 hB3 (by simp) (by simp [Value.oneCell']) (by decide) (fun w4 hS4 hB4=>?_)
 simp [zaD] at hB4
 replace hr:=hr.sto hS4 hnb
 replace hE:=hE.nextS hS4 hle3
 simp [go_sem]
 refine hK _ _ ?_;clear hK K
 refine zac (fun K1 hK1=>?_)
 obtain ⟨n,hn⟩:∃ n,n=l.length:=⟨_,rfl⟩
 rw [←hn] at hB4 hl' ⊢
 by_cases h0:n=0
 ·have hl0:l=[]:=List.length_eq_zero_iff.1 (by omega)
  have hne:isOne l=false:=by rw [hl0];rfl
  rw [hne]
  subst h0
  have k0:=hB4.cell 0
  have k1:=hB4.cell 1
  simp at k0 k1
  first|refine zzr fun K hK=>?_|refine zzt fun K hK=>?_
  simp [go_sem]
  refine hK _ _ ?_;clear hK K
  refine zai (by simp [go_sem];rfl) rfl ?_
  refine zaa ?_
  refine hK1 _ _ ?_;clear hK1 K1
  first|refine zzr fun K hK=>?_|refine zzt fun K hK=>?_
  simp [go_sem,k0,k1,za0,za4,za1]
  refine zal #[.int .i64 1,.int .u16 1] (by simp [go_sem]) rfl ty_stZ142 [(0,.int .i64 1),(1,.int .u16 1)] (by simp [go_sem]) rfl ?_
  simp [go_sem,k0,k1,za0,za4,za1]
  refine hK _ _ ?_;clear hK K
  refine zaf ?_
  repeat (first|refine za3 ?_|refine za2 ?_)
  refine ⟨trivial,?_,hE⟩
  simp [go_sem,zat,zas,hne]
 ·have q1:0<n:=by omega
  have q1':(0:Int)<n:=by omega
  obtain ⟨c1,c2⟩:=hr.at (i:=0) (by omega)
  obtain ⟨x,hx⟩:∃ x,x=lat l 0:=⟨_,rfl⟩
  rw [←hx] at c1
  have hone:isOne l=decide ((n:Int)=1∧(x:Int)=1):=by
   unfold isOne
   rcases l with _|⟨y,t⟩
   ·simp at hn;omega
   ·have:y=x:=by rw [hx];rfl
    subst this
    rcases t with _|⟨z,t⟩
    ·simp at hn;subst hn
     by_cases hy:y=1
     ·subst hy;rfl
     ·have:¬(y:Int)=1:=by omega
      simp [hy,this]
    ·simp at hn
     have:¬(n:Int)=1:=by omega
     simp [this]
  clear hx
  have c1':w4.cell? (a.getD default)=some (.int .u16 x):=by
   have e0:(a.getD default).add 0=a.getD default:=by unfold Addr.add;split<;>simp_all
   rw [e0] at c1;exact c1
  first|refine zzr fun K hK=>?_|refine zzt fun K hK=>?_
  simp [go_sem,q1,q1']
  refine hK _ _ ?_;clear hK K
  refine zai (by simp [go_sem];rfl) rfl ?_
  first|refine zzr fun K hK=>?_|refine zzt fun K hK=>?_
  simp [go_sem,q1,q1',c1',c2]
  refine za6 (b:=b3) (off:=1) [.int .u16 x] (by simp [go_sem]) rfl (by simp [go_sem]) (by simp [go_sem,Value.cells]) zbe hB4 (by simp) (by simp [Value.oneCell']) (by decide) (fun w6 hS6 hB6=>?_)
  simp [zaD] at hB6
  replace hE:=hE.nextS hS6 hle3
  have k0:=hB6.cell 0
  have k1:=hB6.cell 1
  simp at k0 k1
  simp [go_sem]
  refine hK _ _ ?_;clear hK K
  refine hK1 _ _ ?_;clear hK1 K1
  first|refine zzr fun K hK=>?_|refine zzt fun K hK=>?_
  simp [go_sem,k0,k1,za0,za4,za1]
  refine zal #[.int .i64 1,.int .u16 1] (by simp [go_sem]) rfl ty_stZ142 [(0,.int .i64 1),(1,.int .u16 1)] (by simp [go_sem]) rfl ?_
  simp [go_sem,k0,k1,za0,za4,za1]
  refine hK _ _ ?_;clear hK K
  refine zaf ?_
  repeat (first|refine za3 ?_|refine za2 ?_)
  refine ⟨trivial,?_,hE⟩
  simp [go_sem,zat,zas,hone]
theorem unit_any (w:World):Calls Tryz.prog 89 #[] w (RetN w (lim 1)):=by
 refine za7 (args:=[]) (rs:=[.tmp 0]) (n:=2) Tryz.func89 rfl rfl rfl (by kernel_rfl) ?_
 first|refine zzr fun K hK=>?_|refine zzt fun K hK=>?_
 simp [go_sem]
 refine hK _ _ ?_;clear hK K
 first|refine zzr fun K hK=>?_|refine zzt fun K hK=>?_
 simp [go_sem]
 refine zaq #[.int .u16 1] (by simp [go_sem]) rfl ty_slZ23 (by decide) [(0,.int .u16 1)] (by simp [go_sem]) (by kernel_rfl) (fun w1 b1 hE1 hle1 hB1=>?_)
 have hr:=rd_one (x:=1) hB1 (by decide)
 simp [go_sem]
 refine hK _ _ ?_;clear hK K
 refine zaf ?_
 repeat (first|refine za3 ?_|refine za2 ?_)
 refine ⟨trivial,?_⟩
 rw [lim_1' 1 (by decide) (by decide)]
 exact ⟨some ⟨b1,0,none⟩,1,by simp [go_sem,zat,zas],hr,hE1⟩
def ct_one:Ct:={ args:=[[.u]],res:=[[.b]],F:=f_ub isOne,L:=100000000000,A:=0,B:=0 }
theorem zbx:ct_one.F=f_ub isOne:=rfl
theorem ok_one:ct_one.ok Tryz.prog 96:=ok_ub (fun l a c w hr hl=>one_any l a c w hr (by unfold zbS;omega))
def ct_unit:Ct:={ args:=[],res:=[[.u]],F:=fun _=>some [na 1],L:=100000000000000,A:=0,B:=1 }
theorem zaH:ct_unit.F=fun _=>some [na 1]:=rfl
theorem ok_unit:ct_unit.ok Tryz.prog 89:=by
 intro s w vs als r hs hr hsz hF
 obtain ⟨rfl,rfl⟩:=hr
 injection hF with hF;subst hF
 refine (unit_any w).mono ?_
 intro e w' hret
 obtain ⟨v,he,hv,hE⟩:=hret.rep
 exact ret1 rfl he hv (fun x hx=>by simp at hx;subst hx;have:=zbv 1 1 (by decide);simp only [na,At.sz,ct_unit];omega) hE
def qa (x:Rat):At:=.r (decide (x.num<0)) (lim x.num.natAbs) (lim x.den)
def qv (neg:Bool) (l m:List Nat):Rat:=mkRat (vz neg l) (val m)
theorem qv_qa (x:Rat):qv (decide (x.num<0)) (lim x.num.natAbs) (lim x.den)=x:=by
 unfold qv;rw [zbw,zap,Rat.mkRat_self]
def GR1:Gam:=gamOf [(94,ct_nnorm),(95,ct_inorm),(97,ct_ngcd),(98,ct_ndiv),(96,ct_one),(89,ct_unit),(121,ct_rnorm),(124,ct_rinorm),(122,ct_rgcd),(123,ct_rdiv),(119,ct_rnof)]
theorem GR1_ok:GamOk Tryz.prog GR1:=gamOk_of ⟨ok_nnorm,ok_inorm,ok_ngcd,ok_ndiv,ok_one,ok_unit,ok_rnorm,ok_rinorm,ok_rgcd,ok_rdiv,ok_rnof,trivial⟩
theorem zdd:GR1 94=some ct_nnorm:=rfl
theorem zde:GR1 95=some ct_inorm:=rfl
theorem zea:GR1 97=some ct_ngcd:=rfl
theorem zeb:GR1 98=some ct_ndiv:=rfl
theorem GR1_one:GR1 96=some ct_one:=rfl
theorem zec:GR1 89=some ct_unit:=rfl
theorem zdf:GR1 121=some ct_rnorm:=rfl
theorem zcA:GR1 124=some ct_rinorm:=rfl
theorem zed:GR1 122=some ct_rgcd:=rfl
theorem zee:GR1 123=some ct_rdiv:=rfl
theorem zef:GR1 119=some ct_rnof:=rfl
def tr_reduced:Tr (List SA):=(.call 94 [(.u (.var 1 0))] 2 (.call 95 [(.ob 0)] 3 (.br (.eq (.len 2 0) (.lit 0)) (.call 89 [] 4 (.leaf [(.r (.lit false) .nil (.var 4 0))])) (.br (.eq (.len 3 1) (.lit 0)) (.call 89 [] 4 (.leaf [(.r (.lit false) .nil (.var 4 0))])) (.call 96 [(.u (.var 2 0))] 4 (.br (.var 4) (.leaf [(.r (.bit 3) (.var 3 1) (.var 2 0))]) (.call 97 [(.u (.var 3 1)),(.u (.var 2 0))] 5 (.call 96 [(.u (.var 5 0))] 6 (.br (.not (.var 6)) (.call 98 [(.u (.var 3 1)),(.u (.var 5 0))] 7 (.call 98 [(.u (.var 2 0)),(.u (.var 5 0))] 10 (.leaf [(.r (.bit 3) (.var 7 0) (.var 10 0))]))) (.leaf [(.r (.bit 3) (.var 3 1) (.var 2 0))]))))))))))
theorem ev_reduced:Ct.ok Tryz.prog 81 { args:=[[.y],[.u]],res:=[[.r]],F:=fun als=>tr_reduced.den GR1 (zcX als),L:=1000000000,A:=1,B:=1 } :=
 top_ok (by kernel_rfl) GR1_ok (plans:=planF) (lf:=60) (k:=20) (by kernel_rfl)
def tr_over:Tr (List SA):=(.call 121 [(.u (.var 1 0))] 2 (.br (.eq (.len 2 0) (.lit 0)) (.call 119 [(.w 1)] 3 (.leaf [(.r (.lit false) .nil (.var 3 0))])) (.call 122 [(.u (.var 0 1)),(.u (.var 1 0))] 3 (.call 123 [(.u (.var 0 1)),(.u (.var 3 0))] 4 (.call 123 [(.u (.var 1 0)),(.u (.var 3 0))] 7 (.call 124 [(.y (.bit 0) (.var 4 0))] 10 (.leaf [(.r (.bit 10) (.var 10 1) (.var 7 0))])))))))
theorem ev_over:Ct.ok Tryz.prog 100 { args:=[[.y],[.u]],res:=[[.r]],F:=fun als=>tr_over.den GR1 (zcX als),L:=1000000000,A:=1,B:=4 } :=
 top_ok (by kernel_rfl) GR1_ok (plans:=planF) (lf:=60) (k:=20) (by kernel_rfl)
theorem zaI (x:Nat):((lim x).length:Int)=0↔x=0:=by
 constructor
 ·intro h
  rcases Nat.eq_zero_or_pos x with h0|h0
  ·exact h0
  ·have:=lim_ne (B:=x) (by omega);omega
 ·rintro rfl;rw [zao];rfl
theorem zb1 (x:Nat):isOne (lim x)=decide (x=1):=by
 unfold isOne
 rw [←lim_1' 1 (by decide) (by decide)]
 by_cases h:x=1
 ·simp [h]
 ·have:¬lim x=lim 1:=fun e=>h (by rw [←zap x,e,zap])
  simp [h,this]
theorem qa_0:qa 0 = .r false [] (lim 1):=by
 have h1:(0:Rat).num=0:=rfl
 have h2:(0:Rat).den=1:=rfl
 unfold qa;rw [h1,h2];simp [zao]
theorem qa_red (z:Int) (d:Nat) (hd:d≠0):qa (mkRat z d) = .r (decide (z<0)) (lim (z.natAbs / Nat.gcd z.natAbs d)) (lim (d / Nat.gcd z.natAbs d)):=by
 have hg:0<Nat.gcd z.natAbs d:=Nat.gcd_pos_of_pos_right _ (by omega)
 have hn:(mkRat z d).num=z / (Nat.gcd z.natAbs d:Nat):=by rw [Rat.num_mkRat,if_neg hd,Nat.gcd_comm]
 have hdn:(mkRat z d).den=d / Nat.gcd z.natAbs d:=by rw [Rat.den_mkRat,if_neg hd,Nat.gcd_comm]
 unfold qa
 rw [hn,hdn]
 obtain ⟨k,hk⟩:=Nat.gcd_dvd_left z.natAbs d
 generalize hG:Nat.gcd z.natAbs d=g at *
 have hz:z=(g:Int)*(z / (g:Int)):=by
  have:(g:Int) ∣ z:=by rw [←hG];exact Int.natAbs_dvd_natAbs.1 (by simpa using Nat.gcd_dvd_left z.natAbs d)
  exact (Int.mul_ediv_cancel' this).symm
 have hgz:(0:Int)<g:=by omega
 have h1:(z / (g:Int)<0)↔z<0:=by
  constructor
  ·intro h
   rw [hz];exact Int.mul_neg_of_pos_of_neg hgz h
  ·intro h
   exact Int.ediv_neg_of_neg_of_pos h hgz
 have h2:(z / (g:Int)).natAbs=z.natAbs / g:=by
  have e:z.natAbs=g*(z / (g:Int)).natAbs:=by
   have:=congrArg Int.natAbs hz
   rw [Int.natAbs_mul] at this
   simpa using this
  rw [e,Nat.mul_div_cancel_left _ hg]
 rw [h2,decide_eq_decide.2 h1]
theorem reduced_den (a:Bool) (l m:List Nat):tr_reduced.den GR1 (zcX [.y a l,.u m])=some [qa (qv a l m)]:=by
 unfold qv
 by_cases hd:val m=0
 ·simp only [tr_reduced,Tr.den,zbD,SA.ev,BE.ev,IE.ev,SE.ev,LE.ev,zcX,zb0,zcD,evN,evB,evS,zcb,zcr,zcn,At.len,At.bit,At.lst,op1,op2,op3,Nat.reduceLeDiff,Nat.reduceSub,Nat.reduceEqDiff,if_true,if_false,ite_true,ite_false,decide_true,decide_false,Bool.not_true,Bool.not_false,Nat.zero_le,Nat.sub_zero,List.getElem?_cons_zero,List.getElem?_cons_succ,List.getElem?_nil,zdd,zaM,zde,zaL,zea,ze6,zeb,ze8,GR1_one,zbx,zec,zaH,zdf,zaN,zcA,zaC,zed,ze7,zee,ze9,zef,zaV,f_uu,f_yy,f_uuu,f_ub,f_div,na,za,zb1,decide_eq_true_eq,zaI,zap,eq_true hd]
  rw [hd,Rat.mkRat_zero,qa_0]
 by_cases hz:(vz a l).natAbs=0
 ·simp only [tr_reduced,Tr.den,zbD,SA.ev,BE.ev,IE.ev,SE.ev,LE.ev,zcX,zb0,zcD,evN,evB,evS,zcb,zcr,zcn,At.len,At.bit,At.lst,op1,op2,op3,Nat.reduceLeDiff,Nat.reduceSub,Nat.reduceEqDiff,if_true,if_false,ite_true,ite_false,decide_true,decide_false,Bool.not_true,Bool.not_false,Nat.zero_le,Nat.sub_zero,List.getElem?_cons_zero,List.getElem?_cons_succ,List.getElem?_nil,zdd,zaM,zde,zaL,zea,ze6,zeb,ze8,GR1_one,zbx,zec,zaH,zdf,zaN,zcA,zaC,zed,ze7,zee,ze9,zef,zaV,f_uu,f_yy,f_uuu,f_ub,f_div,na,za,zb1,decide_eq_true_eq,zaI,zap,hd,eq_true hz]
  rw [Int.natAbs_eq_zero.1 hz,Rat.zero_mkRat,qa_0]
 rw [qa_red _ _ hd]
 by_cases h1:val m=1
 ·simp only [tr_reduced,Tr.den,zbD,SA.ev,BE.ev,IE.ev,SE.ev,LE.ev,zcX,zb0,zcD,evN,evB,evS,zcb,zcr,zcn,At.len,At.bit,At.lst,op1,op2,op3,Nat.reduceLeDiff,Nat.reduceSub,Nat.reduceEqDiff,if_true,if_false,ite_true,ite_false,decide_true,decide_false,Bool.not_true,Bool.not_false,Nat.zero_le,Nat.sub_zero,List.getElem?_cons_zero,List.getElem?_cons_succ,List.getElem?_nil,zdd,zaM,zde,zaL,zea,ze6,zeb,ze8,GR1_one,zbx,zec,zaH,zdf,zaN,zcA,zaC,zed,ze7,zee,ze9,zef,zaV,f_uu,f_yy,f_uuu,f_ub,f_div,na,za,zb1,decide_eq_true_eq,zaI,zap,hd,hz,eq_true h1]
  rw [h1,Nat.gcd_one_right,Nat.div_one,Nat.div_one]
 have hg:¬(vz a l).natAbs.gcd (val m)=0:=Nat.ne_of_gt (Nat.gcd_pos_of_pos_right _ (by omega))
 by_cases h2:(vz a l).natAbs.gcd (val m)=1
 ·simp only [tr_reduced,Tr.den,zbD,SA.ev,BE.ev,IE.ev,SE.ev,LE.ev,zcX,zb0,zcD,evN,evB,evS,zcb,zcr,zcn,At.len,At.bit,At.lst,op1,op2,op3,Nat.reduceLeDiff,Nat.reduceSub,Nat.reduceEqDiff,if_true,if_false,ite_true,ite_false,decide_true,decide_false,Bool.not_true,Bool.not_false,Nat.zero_le,Nat.sub_zero,List.getElem?_cons_zero,List.getElem?_cons_succ,List.getElem?_nil,zdd,zaM,zde,zaL,zea,ze6,zeb,ze8,GR1_one,zbx,zec,zaH,zdf,zaN,zcA,zaC,zed,ze7,zee,ze9,zef,zaV,f_uu,f_yy,f_uuu,f_ub,f_div,na,za,zb1,decide_eq_true_eq,zaI,zap,hd,hz,h1,eq_true h2]
  rw [h2,Nat.div_one,Nat.div_one]
 ·simp only [tr_reduced,Tr.den,zbD,SA.ev,BE.ev,IE.ev,SE.ev,LE.ev,zcX,zb0,zcD,evN,evB,evS,zcb,zcr,zcn,At.len,At.bit,At.lst,op1,op2,op3,Nat.reduceLeDiff,Nat.reduceSub,Nat.reduceEqDiff,if_true,if_false,ite_true,ite_false,decide_true,decide_false,Bool.not_true,Bool.not_false,Nat.zero_le,Nat.sub_zero,List.getElem?_cons_zero,List.getElem?_cons_succ,List.getElem?_nil,zdd,zaM,zde,zaL,zea,ze6,zeb,ze8,GR1_one,zbx,zec,zaH,zdf,zaN,zcA,zaC,zed,ze7,zee,ze9,zef,zaV,f_uu,f_yy,f_uuu,f_ub,f_div,na,za,zb1,decide_eq_true_eq,zaI,zap,hd,hz,h1,h2,hg]
theorem over_den (a:Bool) (l m:List Nat):tr_over.den GR1 (zcX [.y a l,.u m])=some [qa (qv a l m)]:=by
 unfold qv
 by_cases hd:val m=0
 ·simp only [tr_over,Tr.den,zbD,SA.ev,BE.ev,IE.ev,SE.ev,LE.ev,zcX,zb0,zcD,evN,evB,evS,zcb,zcr,zcn,At.len,At.bit,At.lst,op1,op2,op3,Nat.reduceLeDiff,Nat.reduceSub,Nat.reduceEqDiff,if_true,if_false,ite_true,ite_false,decide_true,decide_false,Bool.not_true,Bool.not_false,Nat.zero_le,Nat.sub_zero,List.getElem?_cons_zero,List.getElem?_cons_succ,List.getElem?_nil,zdd,zaM,zde,zaL,zea,ze6,zeb,ze8,GR1_one,zbx,zec,zaH,zdf,zaN,zcA,zaC,zed,ze7,zee,ze9,zef,zaV,f_uu,f_yy,f_uuu,f_ub,f_div,f_nof,na,za,zb1,decide_eq_true_eq,zaI,zap,eq_true hd]
  rw [hd,Rat.mkRat_zero,qa_0]
  simp
 have hg:¬(val l).gcd (val m)=0:=Nat.ne_of_gt (Nat.gcd_pos_of_pos_right _ (by omega))
 have hz:(vz a l).natAbs=val l:=zc3 a (val l)
 rw [qa_red _ _ hd,hz]
 simp only [tr_over,Tr.den,zbD,SA.ev,BE.ev,IE.ev,SE.ev,LE.ev,zcX,zb0,zcD,evN,evB,evS,zcb,zcr,zcn,At.len,At.bit,At.lst,op1,op2,op3,Nat.reduceLeDiff,Nat.reduceSub,Nat.reduceEqDiff,if_true,if_false,ite_true,ite_false,decide_true,decide_false,Bool.not_true,Bool.not_false,Nat.zero_le,Nat.sub_zero,List.getElem?_cons_zero,List.getElem?_cons_succ,List.getElem?_nil,zdd,zaM,zde,zaL,zea,ze6,zeb,ze8,GR1_one,zbx,zec,zaH,zdf,zaN,zcA,zaC,zed,ze7,zee,ze9,zef,zaV,f_uu,f_yy,f_uuu,f_ub,f_div,na,za,zb1,decide_eq_true_eq,zaI,zap,hd,hg]
 have hk:val l / (val l).gcd (val m)=0↔val l=0:=by
  have hd2:=Nat.gcd_dvd_left (val l) (val m)
  obtain ⟨k,hk⟩:=hd2
  generalize (val l).gcd (val m)=g at *
  rw [hk,Nat.mul_div_cancel_left _ (by omega)]
  constructor
  ·intro h;rw [h,Nat.mul_zero]
  ·intro h
   rcases Nat.mul_eq_zero.1 h with h|h
   ·exact absurd h hg
   ·exact h
 have e1:decide (vz a (lim (val l / (val l).gcd (val m)))<0)=decide (vz a l<0):=by
  unfold vz
  rw [zap]
  generalize val l / (val l).gcd (val m)=k at *
  generalize val l=x at *
  by_cases h:x=0
  ·rw [hk.2 h,h]
  ·have h':k≠0:=fun e=>h (hk.1 e)
   cases a
   ·rw [iv_n,iv_n]
   ·rw [iv_p _ h,iv_p _ h']
 have e2:∀ k,(vz a (lim k)).natAbs=k:=fun k=>by unfold vz;rw [zc3,zap]
 rw [e1,e2]
def f_yur:List At→Option (List At)
 | [.y a l,.u m]=>some [qa (qv a l m)]
 | _=>none
theorem f_yur_some {als r:List At} (h:f_yur als=some r):∃ a l m,als=[.y a l,.u m]∧r=[qa (qv a l m)]:=by
 unfold f_yur at h
 split at h
 ·injection h with h;exact ⟨_,_,_,rfl,h.symm⟩
 ·cases h
def ct_reduced:Ct:={ args:=[[.y],[.u]],res:=[[.r]],F:=f_yur,L:=1000000000,A:=1,B:=1 }
theorem zaA:ct_reduced.F=f_yur:=rfl
theorem ok_reduced:ct_reduced.ok Tryz.prog 81:=by
 refine ev_reduced.weaken fun als r h=>?_
 obtain ⟨a,l,m,rfl,rfl⟩:=f_yur_some h
 exact reduced_den a l m
def ct_over:Ct:={ args:=[[.y],[.u]],res:=[[.r]],F:=f_yur,L:=1000000000,A:=1,B:=4 }
theorem zbL:ct_over.F=f_yur:=rfl
theorem ok_over:ct_over.ok Tryz.prog 100:=by
 refine ev_over.weaken fun als r h=>?_
 obtain ⟨a,l,m,rfl,rfl⟩:=f_yur_some h
 exact over_den a l m
def GR2:Gam:=gamOf [(81,ct_reduced),(100,ct_over),(91,ct_nbits),(89,ct_unit),(96,ct_one),(77,ct_isign),(79,ct_imul),(93,ct_nmul),(94,ct_nnorm),(95,ct_inorm),(126,ct_risign),(104,ct_rimul),(101,ct_rineg),(127,ct_rmul),(119,ct_rnof),(121,ct_rnorm),(124,ct_rinorm)]
theorem GR2_ok:GamOk Tryz.prog GR2:=gamOk_of ⟨ok_reduced,ok_over,ok_nbits,ok_unit,ok_one,ok_isign,ok_imul,ok_nmul,ok_nnorm,ok_inorm,ok_risign,ok_rimul,ok_rineg,ok_rmul,ok_rnof,ok_rnorm,ok_rinorm,trivial⟩
theorem zaQ:GR2 81=some ct_reduced:=rfl
theorem zbM:GR2 100=some ct_over:=rfl
theorem zbm:GR2 91=some ct_nbits:=rfl
theorem zbN:GR2 89=some ct_unit:=rfl
theorem zco:GR2 96=some ct_one:=rfl
theorem zbn:GR2 77=some ct_isign:=rfl
theorem zbO:GR2 79=some ct_imul:=rfl
theorem zbP:GR2 93=some ct_nmul:=rfl
theorem zbo:GR2 94=some ct_nnorm:=rfl
theorem zbp:GR2 95=some ct_inorm:=rfl
theorem zaX:GR2 126=some ct_risign:=rfl
theorem zbq:GR2 104=some ct_rimul:=rfl
theorem zbr:GR2 101=some ct_rineg:=rfl
theorem zbQ:GR2 127=some ct_rmul:=rfl
theorem zbR:GR2 119=some ct_rnof:=rfl
theorem zbs:GR2 121=some ct_rnorm:=rfl
theorem zaY:GR2 124=some ct_rinorm:=rfl
def tr_qmake:Tr (List SA):=(.call 77 [(.ob 1)] 2 (.br (.eq (.var 2) (.lit 0)) (.leaf [(.r (.lit false) .nil .nil),(.n (.lit 3))]) (.call 81 [(.y (.not (.beq (.bit 0) (.bit 1))) (.var 0 1)),(.u (.var 1 1))] 3 (.leaf [(.ob 3),(.n (.lit 0))]))))
theorem ev_qmake:Ct.ok Tryz.prog 78 { args:=[[.y],[.y]],res:=[[.r],[.n]],F:=fun als=>tr_qmake.den GR2 (zcX als),L:=100000000,A:=1,B:=4 } :=
 top_ok (by kernel_rfl) GR2_ok (plans:=planF) (lf:=60) (k:=20) (by kernel_rfl)
def tr_qsign:Tr (List SA):=(.call 91 [(.u (.var 0 2))] 1 (.br (.eq (.var 1) (.lit 0)) (.call 89 [] 2 (.call 77 [(.y (.lit false) .nil)] 3 (.leaf [(.n (.var 3))]))) (.call 77 [(.y (.bit 0) (.var 0 1))] 2 (.leaf [(.n (.var 2))]))))
theorem ev_qsign:Ct.ok Tryz.prog 56 { args:=[[.r]],res:=[[.n]],F:=fun als=>tr_qsign.den GR2 (zcX als),L:=100000000,A:=0,B:=0 } :=
 top_ok (by kernel_rfl) GR2_ok (plans:=planF) (lf:=60) (k:=20) (by kernel_rfl)
def tr_qneg:Tr (List SA):=(.call 91 [(.u (.var 0 2))] 1 (.br (.eq (.var 1) (.lit 0)) (.call 89 [] 2 (.call 81 [(.y (.lit true) .nil),(.u (.var 2 0))] 3 (.leaf [(.ob 3)]))) (.call 81 [(.y (.not (.bit 0)) (.var 0 1)),(.u (.var 0 2))] 2 (.leaf [(.ob 2)]))))
theorem ev_qneg:Ct.ok Tryz.prog 58 { args:=[[.r]],res:=[[.r]],F:=fun als=>tr_qneg.den GR2 (zcX als),L:=100000000,A:=1,B:=4 } :=
 top_ok (by kernel_rfl) GR2_ok (plans:=planF) (lf:=60) (k:=20) (by kernel_rfl)
def tr_qdiv:Tr (List SA):=(.call 91 [(.u (.var 0 2))] 2 (.br (.eq (.var 2) (.lit 0)) (.call 89 [] 3 (.call 91 [(.u (.var 1 2))] 4 (.br (.eq (.var 4) (.lit 0)) (.call 89 [] 5 (.call 79 [(.y (.lit false) .nil),(.y (.lit false) (.var 5 0))] 6 (.call 79 [(.y (.lit false) .nil),(.y (.lit false) (.var 3 0))] 7 (.call 77 [(.ob 7)] 8 (.br (.eq (.var 8) (.lit 0)) (.leaf [(.r (.lit false) .nil .nil),(.n (.lit 3))]) (.call 81 [(.y (.not (.beq (.bit 6) (.bit 7))) (.var 6 1)),(.u (.var 7 1))] 9 (.leaf [(.ob 9),(.n (.lit 0))]))))))) (.call 79 [(.y (.lit false) .nil),(.y (.lit false) (.var 1 2))] 5 (.call 79 [(.y (.bit 1) (.var 1 1)),(.y (.lit false) (.var 3 0))] 6 (.call 77 [(.ob 6)] 7 (.br (.eq (.var 7) (.lit 0)) (.leaf [(.r (.lit false) .nil .nil),(.n (.lit 3))]) (.call 81 [(.y (.not (.beq (.bit 5) (.bit 6))) (.var 5 1)),(.u (.var 6 1))] 8 (.leaf [(.ob 8),(.n (.lit 0))]))))))))) (.call 91 [(.u (.var 1 2))] 3 (.br (.eq (.var 3) (.lit 0)) (.call 89 [] 4 (.call 79 [(.y (.bit 0) (.var 0 1)),(.y (.lit false) (.var 4 0))] 5 (.call 79 [(.y (.lit false) .nil),(.y (.lit false) (.var 0 2))] 6 (.call 77 [(.ob 6)] 7 (.br (.eq (.var 7) (.lit 0)) (.leaf [(.r (.lit false) .nil .nil),(.n (.lit 3))]) (.call 81 [(.y (.not (.beq (.bit 5) (.bit 6))) (.var 5 1)),(.u (.var 6 1))] 8 (.leaf [(.ob 8),(.n (.lit 0))]))))))) (.call 79 [(.y (.bit 0) (.var 0 1)),(.y (.lit false) (.var 1 2))] 4 (.call 79 [(.y (.bit 1) (.var 1 1)),(.y (.lit false) (.var 0 2))] 5 (.call 77 [(.ob 5)] 6 (.br (.eq (.var 6) (.lit 0)) (.leaf [(.r (.lit false) .nil .nil),(.n (.lit 3))]) (.call 81 [(.y (.not (.beq (.bit 4) (.bit 5))) (.var 4 1)),(.u (.var 5 1))] 7 (.leaf [(.ob 7),(.n (.lit 0))]))))))))))
theorem ev_qdiv:Ct.ok Tryz.prog 57 { args:=[[.r],[.r]],res:=[[.r],[.n]],F:=fun als=>tr_qdiv.den GR2 (zcX als),L:=100000000,A:=2,B:=4 } :=
 top_ok (by kernel_rfl) GR2_ok (plans:=planF) (lf:=60) (k:=20) (by kernel_rfl)
def tr_rqneg:Tr (List SA):=(.call 101 [(.y (.bit 0) (.var 0 1))] 1 (.call 100 [(.ob 1),(.u (.var 0 2))] 2 (.leaf [(.ob 2)])))
theorem ev_rqneg:Ct.ok Tryz.prog 84 { args:=[[.r]],res:=[[.r]],F:=fun als=>tr_rqneg.den GR2 (zcX als),L:=100000000,A:=1,B:=4 } :=
 top_ok (by kernel_rfl) GR2_ok (plans:=planF) (lf:=60) (k:=20) (by kernel_rfl)
def tr_rqdiv:Tr (List SA):=(.call 100 [(.y (.bit 0) (.var 0 1)),(.u (.var 0 2))] 2 (.call 100 [(.y (.bit 1) (.var 1 1)),(.u (.var 1 2))] 3 (.call 104 [(.y (.bit 2) (.var 2 1)),(.y (.lit false) (.var 3 2))] 4 (.call 104 [(.y (.bit 3) (.var 3 1)),(.y (.lit false) (.var 2 2))] 5 (.call 126 [(.ob 5)] 6 (.br (.eq (.var 6) (.lit 0)) (.leaf [(.r (.lit false) .nil .nil),(.n (.lit 3))]) (.br (.bit 5) (.call 101 [(.ob 4)] 7 (.call 100 [(.ob 7),(.u (.var 5 1))] 8 (.leaf [(.ob 8),(.n (.lit 0))]))) (.call 100 [(.ob 4),(.u (.var 5 1))] 7 (.leaf [(.ob 7),(.n (.lit 0))])))))))))
theorem ev_rqdiv:Ct.ok Tryz.prog 85 { args:=[[.r],[.r]],res:=[[.r],[.n]],F:=fun als=>tr_rqdiv.den GR2 (zcX als),L:=100000000,A:=2,B:=20 } :=
 top_ok (by kernel_rfl) GR2_ok (plans:=planF) (lf:=60) (k:=20) (by kernel_rfl)
end Go.Proofs.YtefhenfofomjhaaGreat
