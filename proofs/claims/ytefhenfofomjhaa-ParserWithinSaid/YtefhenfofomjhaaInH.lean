/- Integers: numerals read and written, in numbers; the laws. -/
import Derived.Test.YtefhenfofomjhaaIc2
import Derived.Laws.StructEq
import Derived.Test.YtefhenfofomjhaaIn9
import Derived.Lib.Bytealg
import Derived.ChangeSlices
import Derived.ChangeSame
set_option linter.unusedSimpArgs false
set_option linter.unusedVariables false
namespace Go.Proofs.Ytefhenfofomjhaa
open Go Go.RowKit Go.V
set_option maxRecDepth 20000
theorem tame_program {P:Program} (w:World):zaM P program w=some P:=rfl
theorem tame_ite {P:Program} {w:World} {α:Type} (c:Prop) [Decidable c] (x y:Sem α):zaM P (if c then x else y) w=if c then zaM P x w else zaM P y w:=by split<;>rfl
theorem tame_equalIn_struct {P:Program} {w:World} (d:Nat) (t:TypeId) (xs ys:Array Value) (ht:P.underlying t=some (.struct (P.fieldsOf t))) (hp:P.stoodInHeld t=false) :
  zaM P (Op.equalIn (d+1) t (.agg xs) (.agg ys)) w=zaM P (Op.eqFields d xs ys (P.fieldsOf t).toList) w:=by
 simp only [Op.equalIn,zaa,zan ht,Option.bind_some,tame_program,hp,Bool.false_eq_true,if_false]
 rw [←Array.forIn_toList]
 generalize (P.fieldsOf t).toList=fs
 clear ht
 induction fs with
 | nil=>simp [Op.eqFields,zab,zaa]
 | cons f fs ih =>
  simp only [List.forIn_cons,Op.eqFields,zaa,tame_ite]
  by_cases hn : f.name ≠ "_"
  ·simp only [if_pos hn]
   cases zaM P (part f.type xs f.offset) w with
   | none=>rfl
   | some a =>
    cases h2:zaM P (part f.type ys f.offset) w with
    | none=>simp [h2]
    | some b =>
     cases h3:zaM P (Op.equalIn d f.type a b) w with
     | none=>simp [h2,h3]
     | some r =>
      cases r
      ·simp [h2,h3,zab]
      ·simp only [h2,h3,Option.bind_some,zab,Bool.not_true,Bool.false_eq_true,if_false]
       exact ih
  ·simp only [if_neg hn,zab,Option.bind_some]
   exact ih
theorem tame_part {P:Program} {w:World} {t:TypeId} {xs:Array Value} {j:Nat} {v:Value} (ha:zaM P (isAgg t) w=some false) (hv:xs[j]? = some v):zaM P (part t xs j) w=some v:=by
 simp only [part,zaa,ha,Option.bind_some,Bool.false_eq_true,if_false,hv,zab]
theorem tame_eq_int {P:Program} {w:World} (d:Nat) {t:TypeId} {k k':IntKind} (a b:Int) (h:P.underlying t=some (.int k')):zaM P (Op.equalIn (d+1) t (.int k a) (.int k b)) w=some (decide (a=b)):=by
 simp [Op.equalIn,zaa,zan h,zab,beq_dec]
theorem eqF_cons {P : Program} {w : World} (d : Nat) (xs ys : Array Value) (f : Field) (fs : List Field) {a b : Value} {r : Bool} (hn : f.name ≠ "_") (h1 : zaM P (part f.type xs f.offset) w = some a) (h2 : zaM P (part f.type ys f.offset) w = some b) (h3 : zaM P (Op.equalIn d f.type a b) w = some r) :
  zaM P (Op.eqFields d xs ys (f::fs)) w=if r then zaM P (Op.eqFields d xs ys fs) w else some false:=by
 simp only [Op.eqFields,tame_ite,if_pos hn,zaa,h1,h2,h3,Option.bind_some,zab]
 cases r<;>rfl
theorem guard_agg {P:Program} {w:World} (op:BinOp) (t:TypeId) (x y:Operand) (xs ys:Array Value) (hm:P.eqGuardType P.depth t=false):zaM P (eqGuard op t x y (.agg xs) (.agg ys)) w=some ():=by
 cases op<;>simp [eqGuard,zaa,tame_program,hm,zab,tame_ite]
def isShp:Value→Bool
 | .agg ⟨[.int .i64 _,.int .u16 _]⟩=>true
 | _=>false
def eqShp:Value→Value→Value
 | .agg ⟨[.int .i64 a,.int .u16 b]⟩,.agg ⟨[.int .i64 a',.int .u16 b']⟩=>.bool (decide (a=a'∧b=b'))
 | _,_=>undef
@[go_sem] theorem isShp_mk (a b:Int):isShp (.agg #[.int .i64 a,.int .u16 b])=true:=rfl
@[go_sem] theorem eqShp_mk (a b a' b':Int):eqShp (.agg #[.int .i64 a,.int .u16 b]) (.agg #[.int .i64 a',.int .u16 b']) = .bool (decide (a=a'∧b=b')):=rfl
theorem shp_eq (w:World) (d:Nat) (a b a' b':Int) :
  zaM Try.prog (Op.equalIn (d+1+1) 128 (.agg #[.int .i64 a,.int .u16 b]) (.agg #[.int .i64 a',.int .u16 b'])) w=some (decide (a=a'∧b=b')):=by
 have hu:Try.prog.underlying 128=some (.struct (Try.prog.fieldsOf 128)):=by kernel_rfl
 have hp:Try.prog.stoodInHeld 128=false:=by kernel_rfl
 have hf : (Try.prog.fieldsOf 128).toList = [⟨((Try.prog.fieldsOf 128).toList.getD 0 default).name, 3, 0, false, "", ((Try.prog.fieldsOf 128).toList.getD 0 default).pkgPath, 0⟩, ⟨((Try.prog.fieldsOf 128).toList.getD 1 default).name, 109, 1, false, "", ((Try.prog.fieldsOf 128).toList.getD 1 default).pkgPath, 8⟩] := by kernel_rfl
 have hn1 : ((Try.prog.fieldsOf 128).toList.getD 0 default).name ≠ "_" := of_decide_eq_false (by kernel_rfl)
 have hn2 : ((Try.prog.fieldsOf 128).toList.getD 1 default).name ≠ "_" := of_decide_eq_false (by kernel_rfl)
 rw [tame_equalIn_struct (d+1) 128 _ _ hu hp,hf]
 have u3:Try.prog.underlying 3=some (.int .i64):=by kernel_rfl
 have u9:Try.prog.underlying 109=some (.int .u16):=by kernel_rfl
 rw [eqF_cons (d+1) _ _ _ _ (by exact hn1) (tame_part (zbM u3 w) rfl) (tame_part (zbM u3 w) rfl) (tame_eq_int d a a' u3),
  eqF_cons (d+1) _ _ _ _ (by exact hn2) (tame_part (zbM u9 w) rfl) (tame_part (zbM u9 w) rfl) (tame_eq_int d b b' u9)]
 by_cases h1:a=a'<;>by_cases h2:b=b'<;>simp [h1,h2,Op.eqFields,zab]
theorem run_shp {w:World} {ev:Operand→Value} {ty:TypeId} {x y:Operand} {u:TypeId} {a b a' b':Int} (hx:ev x = .agg #[.int .i64 a,.int .u16 b]) (hy:ev y = .agg #[.int .i64 a',.int .u16 b']) :
  zc7 Try.prog w ev ty (.binOp .eql 128 x y u)=some (.value (.bool (decide (a=a'∧b=b')))):=by
 have hm:Try.prog.eqGuardType Try.prog.depth 128=false:=by kernel_rfl
 simp only [zc7,execOp,hx,hy,Go.binOp,zaa,guard_agg _ _ _ _ _ _ hm,Option.bind_some,Op.equal,Op.maxDepth]
 rw [shp_eq w 9998]
 rfl
theorem isShp_of {v:Value} (h:isShp v=true):∃ a b,v = .agg #[.int .i64 a,.int .u16 b]:=by
 unfold isShp at h
 split at h
 ·exact ⟨_,_,rfl⟩
 ·cases h
theorem any_shp {w:World} {ev:Operand→Value} {ty:TypeId} {x y:Operand} {u:TypeId} (hx:isShp (ev x)=true) (hy:isShp (ev y)=true) :
  anyV Try.prog w ev ty (.binOp .eql 128 x y u)=eqShp (ev x) (ev y)∧anyOk Try.prog w ev ty (.binOp .eql 128 x y u):=by
 obtain ⟨a,b,hx⟩:=isShp_of hx
 obtain ⟨a',b',hy⟩:=isShp_of hy
 have h:=run_shp (w:=w) (ty:=ty) (u:=u) hx hy
 refine ⟨?_,_,h⟩
 rw [hx,hy,eqShp_mk]
 simp [anyV,h]
@[go_sem] theorem any_shp_v {w:World} {ev:Operand→Value} {ty:TypeId} {x y:Operand} {u:TypeId} (hx:isShp (ev x)=true) (hy:isShp (ev y)=true) :
  anyV Try.prog w ev ty (.binOp .eql 128 x y u)=eqShp (ev x) (ev y):=(any_shp hx hy).1
@[go_sem] theorem any_shp_ok {w:World} {ev:Operand→Value} {ty:TypeId} {x y:Operand} {u:TypeId} (hx:isShp (ev x)=true) (hy:isShp (ev y)=true) :
  anyOk Try.prog w ev ty (.binOp .eql 128 x y u)=True:=eq_true (any_shp hx hy).2
@[go_sem] theorem binC_agg {P:Program} (o:BinOp) (t:TypeId) (xs ys:Array Value):binC P o t (.agg xs) (.agg ys)=none:=by cases o<;>rfl
def isOne (l:List Nat):Bool:=decide (l=[1])
set_option maxHeartbeats 1000000 in
theorem one_any (l:List Nat) (a:Option Addr) (c:Nat) (w:World) (hr:RD w a c l) (hl:l.length≤zcQ) :
  Calls Try.prog 72 #[.slice a l.length c] w fun e w'=>e = .returned (.bool (isOne l))∧Below w.heap.size w w':=by
 have hl':l.length≤1000000000000:=hl
 refine za8 (args:=[.slice a l.length c]) (rs:=[.tmp 2]) (n:=17) Try.func72 rfl rfl rfl (by kernel_rfl) ?_
 first|refine zzr fun K hK=>?_|refine zzt fun K hK=>?_
 simp [go_sem]
 refine hK _ _ ?_;clear hK K
 first|refine zzr fun K hK=>?_|refine zzt fun K hK=>?_
 simp [go_sem]
 refine zap #[.int .i64 l.length,.int .u16 0] (by simp [go_sem]) rfl ty_stZ128 [(0,.int .i64 l.length)] (by simp [go_sem]) rfl ?_
 simp [go_sem]
 refine zar (by simp [go_sem]) rfl ty_zeroC128 (fun w3 b3 hE3 hle3 hB3=>?_)
 have hnb:=hr.below (b:=b3) hle3
 replace hr:=hr.keep hE3
 have hE:=hE3
 simp [go_sem]
 refine za7 (b:=b3) (off:=0) [.int .i64 l.length,.int .u16 0] (by simp [go_sem]) rfl (by simp [go_sem]) (by simp [go_sem,Value.cells]) ty_size128 hB3 (by simp) (by simp [Value.oneCell']) (by decide) (fun w4 hS4 hB4=>?_)
 simp [zaD] at hB4
 replace hr:=hr.sto hS4 hnb
 replace hE:=hE.nextS hS4 hle3
 simp [go_sem]
 refine hK _ _ ?_;clear hK K
 refine zad (fun K1 hK1=>?_)
 obtain ⟨n,hn⟩:∃ n,n=l.length:=⟨_,rfl⟩
 rw [←hn] at hB4 hl' ⊢
 by_cases h0:n=0
 ·have hl0:l=[]:=List.length_eq_zero_iff.1 (by omega)
  have hne:isOne l=false:=by rw [hl0];rfl
  rw [hne]
  subst h0
  have k0:=hB4.cell 0
  have k1:=hB4.cell 1
  simp at k0 k1
  first|refine zzr fun K hK=>?_|refine zzt fun K hK=>?_
  simp [go_sem]
  refine hK _ _ ?_;clear hK K
  refine zao (by simp [go_sem];rfl) rfl ?_
  refine zae ?_
  refine hK1 _ _ ?_;clear hK1 K1
  first|refine zzr fun K hK=>?_|refine zzt fun K hK=>?_
  simp [go_sem,k0,k1,za0,za2,za1]
  refine zap #[.int .i64 1,.int .u16 1] (by simp [go_sem]) rfl ty_stZ128 [(0,.int .i64 1),(1,.int .u16 1)] (by simp [go_sem]) rfl ?_
  simp [go_sem,k0,k1,za0,za2,za1]
  refine hK _ _ ?_;clear hK K
  refine zal ?_
  repeat (first|refine za4 ?_|refine za3 ?_)
  refine ⟨trivial,?_,hE⟩
  simp [go_sem,zaw,zav,hne]
 ·have q1:0<n:=by omega
  have q1':(0:Int)<n:=by omega
  obtain ⟨c1,c2⟩:=hr.at (i:=0) (by omega)
  obtain ⟨x,hx⟩:∃ x,x=lat l 0:=⟨_,rfl⟩
  rw [←hx] at c1
  have hone:isOne l=decide ((n:Int)=1∧(x:Int)=1):=by
   unfold isOne
   rcases l with _|⟨y,t⟩
   ·simp at hn;omega
   ·have:y=x:=by rw [hx];rfl
    subst this
    rcases t with _|⟨z,t⟩
    ·simp at hn;subst hn
     by_cases hy:y=1
     ·subst hy;rfl
     ·have:¬(y:Int)=1:=by omega
      simp [hy,this]
    ·simp at hn
     have:¬(n:Int)=1:=by omega
     simp [this]
  clear hx
  have c1':w4.cell? (a.getD default)=some (.int .u16 x):=by
   have e0:(a.getD default).add 0=a.getD default:=by unfold Addr.add;split<;>simp_all
   rw [e0] at c1;exact c1
  first|refine zzr fun K hK=>?_|refine zzt fun K hK=>?_
  simp [go_sem,q1,q1']
  refine hK _ _ ?_;clear hK K
  refine zao (by simp [go_sem];rfl) rfl ?_
  first|refine zzr fun K hK=>?_|refine zzt fun K hK=>?_
  simp [go_sem,q1,q1',c1',c2]
  refine za7 (b:=b3) (off:=1) [.int .u16 x] (by simp [go_sem]) rfl (by simp [go_sem]) (by simp [go_sem,Value.cells]) zaV hB4 (by simp) (by simp [Value.oneCell']) (by decide) (fun w6 hS6 hB6=>?_)
  simp [zaD] at hB6
  replace hE:=hE.nextS hS6 hle3
  have k0:=hB6.cell 0
  have k1:=hB6.cell 1
  simp at k0 k1
  simp [go_sem]
  refine hK _ _ ?_;clear hK K
  refine hK1 _ _ ?_;clear hK1 K1
  first|refine zzr fun K hK=>?_|refine zzt fun K hK=>?_
  simp [go_sem,k0,k1,za0,za2,za1]
  refine zap #[.int .i64 1,.int .u16 1] (by simp [go_sem]) rfl ty_stZ128 [(0,.int .i64 1),(1,.int .u16 1)] (by simp [go_sem]) rfl ?_
  simp [go_sem,k0,k1,za0,za2,za1]
  refine hK _ _ ?_;clear hK K
  refine zal ?_
  repeat (first|refine za4 ?_|refine za3 ?_)
  refine ⟨trivial,?_,hE⟩
  simp [go_sem,zaw,zav,hone]
theorem unit_any (w:World):Calls Try.prog 65 #[] w (RetN w (lim 1)):=by
 refine za8 (args:=[]) (rs:=[.tmp 0]) (n:=2) Try.func65 rfl rfl rfl (by kernel_rfl) ?_
 first|refine zzr fun K hK=>?_|refine zzt fun K hK=>?_
 simp [go_sem]
 refine hK _ _ ?_;clear hK K
 first|refine zzr fun K hK=>?_|refine zzt fun K hK=>?_
 simp [go_sem]
 refine zam #[.int .u16 1] (by simp [go_sem]) rfl ty_slZ31 (by decide) [(0,.int .u16 1)] (by simp [go_sem]) (by kernel_rfl) (fun w1 b1 hE1 hle1 hB1=>?_)
 have hr:=rd_one (x:=1) hB1 (by decide)
 simp [go_sem]
 refine hK _ _ ?_;clear hK K
 refine zal ?_
 repeat (first|refine za4 ?_|refine za3 ?_)
 refine ⟨trivial,?_⟩
 rw [lim_1' 1 (by decide) (by decide)]
 exact ⟨some ⟨b1,0,none⟩,1,by simp [go_sem,zaw,zav],hr,hE1⟩
def ct_one:Ct:={ args:=[[.u]],res:=[[.b]],F:=f_ub isOne,L:=100000000000,A:=0,B:=0 }
theorem zbA:ct_one.F=f_ub isOne:=rfl
theorem ok_one:ct_one.ok Try.prog 72:=ok_ub (fun l a c w hr hl=>one_any l a c w hr (by unfold zcQ;omega))
def ct_unit:Ct:={ args:=[],res:=[[.u]],F:=fun _=>some [na 1],L:=100000000000000,A:=0,B:=1 }
theorem zaF:ct_unit.F=fun _=>some [na 1]:=rfl
theorem ok_unit:ct_unit.ok Try.prog 65:=by
 intro s w vs als r hs hr hsz hF
 obtain ⟨rfl,rfl⟩:=hr
 injection hF with hF;subst hF
 refine (unit_any w).mono ?_
 intro e w' hret
 obtain ⟨v,he,hv,hE⟩:=hret.rep
 exact ret1 rfl he hv (fun x hx=>by simp at hx;subst hx;have:=zdX 1 1 (by decide);simp only [na,At.sz,ct_unit];omega) hE
def qa (x:Rat):At:=.r (decide (x.num<0)) (lim x.num.natAbs) (lim x.den)
def qv (neg:Bool) (l m:List Nat):Rat:=mkRat (vz neg l) (val m)
theorem qv_qa (x:Rat):qv (decide (x.num<0)) (lim x.num.natAbs) (lim x.den)=x:=by
 unfold qv;rw [zbv,zau,Rat.mkRat_self]
def GR1:Gam:=gamOf [(70,ct_nnorm),(71,ct_inorm),(73,ct_ngcd),(74,ct_ndiv),(72,ct_one),(65,ct_unit)]
theorem GR1_ok:GamOk Try.prog GR1:=gamOk_of ⟨ok_nnorm,ok_inorm,ok_ngcd,ok_ndiv,ok_one,ok_unit,trivial⟩
theorem GR1_nnorm:GR1 70=some ct_nnorm:=rfl
theorem GR1_inorm:GR1 71=some ct_inorm:=rfl
theorem GR1_ngcd:GR1 73=some ct_ngcd:=rfl
theorem GR1_ndiv:GR1 74=some ct_ndiv:=rfl
theorem GR1_one:GR1 72=some ct_one:=rfl
theorem GR1_unit:GR1 65=some ct_unit:=rfl
def tr_reduced:Tr (List SA):=(.call 70 [(.u (.var 1 0))] 2 (.call 71 [(.ob 0)] 3 (.br (.eq (.len 2 0) (.lit 0)) (.call 65 [] 4 (.leaf [(.r (.lit false) .nil (.var 4 0))])) (.br (.eq (.len 3 1) (.lit 0)) (.call 65 [] 4 (.leaf [(.r (.lit false) .nil (.var 4 0))])) (.call 72 [(.u (.var 2 0))] 4 (.br (.var 4) (.leaf [(.r (.bit 3) (.var 3 1) (.var 2 0))]) (.call 73 [(.u (.var 3 1)),(.u (.var 2 0))] 5 (.call 72 [(.u (.var 5 0))] 6 (.br (.not (.var 6)) (.call 74 [(.u (.var 3 1)),(.u (.var 5 0))] 7 (.call 74 [(.u (.var 2 0)),(.u (.var 5 0))] 10 (.leaf [(.r (.bit 3) (.var 7 0) (.var 10 0))]))) (.leaf [(.r (.bit 3) (.var 3 1) (.var 2 0))]))))))))))
theorem ev_reduced:Ct.ok Try.prog 61 { args:=[[.y],[.u]],res:=[[.r]],F:=fun als=>tr_reduced.den GR1 (zdK als),L:=1000000000,A:=1,B:=1 } :=
 top_ok (by kernel_rfl) GR1_ok (plans:=planF) (lf:=60) (k:=20) (by kernel_rfl)
theorem zaG (x:Nat):((lim x).length:Int)=0↔x=0:=by
 constructor
 ·intro h
  rcases Nat.eq_zero_or_pos x with h0|h0
  ·exact h0
  ·have:=lim_ne (B:=x) (by omega);omega
 ·rintro rfl;rw [zaq];rfl
theorem zb1 (x:Nat):isOne (lim x)=decide (x=1):=by
 unfold isOne
 rw [←lim_1' 1 (by decide) (by decide)]
 by_cases h:x=1
 ·simp [h]
 ·have:¬lim x=lim 1:=fun e=>h (by rw [←zau x,e,zau])
  simp [h,this]
theorem qa_0:qa 0 = .r false [] (lim 1):=by
 have h1:(0:Rat).num=0:=rfl
 have h2:(0:Rat).den=1:=rfl
 unfold qa;rw [h1,h2];simp [zaq]
theorem qa_red (z:Int) (d:Nat) (hd:d≠0):qa (mkRat z d) = .r (decide (z<0)) (lim (z.natAbs / Nat.gcd z.natAbs d)) (lim (d / Nat.gcd z.natAbs d)):=by
 have hg:0<Nat.gcd z.natAbs d:=Nat.gcd_pos_of_pos_right _ (by omega)
 have hn:(mkRat z d).num=z / (Nat.gcd z.natAbs d:Nat):=by rw [Rat.num_mkRat,if_neg hd,Nat.gcd_comm]
 have hdn:(mkRat z d).den=d / Nat.gcd z.natAbs d:=by rw [Rat.den_mkRat,if_neg hd,Nat.gcd_comm]
 unfold qa
 rw [hn,hdn]
 obtain ⟨k,hk⟩:=Nat.gcd_dvd_left z.natAbs d
 generalize hG:Nat.gcd z.natAbs d=g at *
 have hz:z=(g:Int)*(z / (g:Int)):=by
  have:(g:Int) ∣ z:=by rw [←hG];exact Int.natAbs_dvd_natAbs.1 (by simpa using Nat.gcd_dvd_left z.natAbs d)
  exact (Int.mul_ediv_cancel' this).symm
 have hgz:(0:Int)<g:=by omega
 have h1:(z / (g:Int)<0)↔z<0:=by
  constructor
  ·intro h
   rw [hz];exact Int.mul_neg_of_pos_of_neg hgz h
  ·intro h
   exact Int.ediv_neg_of_neg_of_pos h hgz
 have h2:(z / (g:Int)).natAbs=z.natAbs / g:=by
  have e:z.natAbs=g*(z / (g:Int)).natAbs:=by
   have:=congrArg Int.natAbs hz
   rw [Int.natAbs_mul] at this
   simpa using this
  rw [e,Nat.mul_div_cancel_left _ hg]
 rw [h2,decide_eq_decide.2 h1]
theorem reduced_den (a:Bool) (l m:List Nat):tr_reduced.den GR1 (zdK [.y a l,.u m])=some [qa (qv a l m)]:=by
 unfold qv
 by_cases hd:val m=0
 ·simp only [tr_reduced,Tr.den,zbo,SA.ev,BE.ev,IE.ev,SE.ev,LE.ev,zdK,zb0,zd5,evN,evB,evS,zcd,zcD,zcw,At.len,At.bit,At.lst,op1,op2,op3,Nat.reduceLeDiff,Nat.reduceSub,Nat.reduceEqDiff,if_true,if_false,ite_true,ite_false,decide_true,decide_false,Bool.not_true,Bool.not_false,Nat.zero_le,Nat.sub_zero,List.getElem?_cons_zero,List.getElem?_cons_succ,List.getElem?_nil,GR1_nnorm,zaL,GR1_inorm,zaK,GR1_ngcd,ctF_ngcd,GR1_ndiv,ctF_ndiv,GR1_one,zbA,GR1_unit,zaF,f_uu,f_yy,f_uuu,f_ub,f_div,na,za,zb1,decide_eq_true_eq,zaG,zau,eq_true hd]
  rw [hd,Rat.mkRat_zero,qa_0]
 by_cases hz:(vz a l).natAbs=0
 ·simp only [tr_reduced,Tr.den,zbo,SA.ev,BE.ev,IE.ev,SE.ev,LE.ev,zdK,zb0,zd5,evN,evB,evS,zcd,zcD,zcw,At.len,At.bit,At.lst,op1,op2,op3,Nat.reduceLeDiff,Nat.reduceSub,Nat.reduceEqDiff,if_true,if_false,ite_true,ite_false,decide_true,decide_false,Bool.not_true,Bool.not_false,Nat.zero_le,Nat.sub_zero,List.getElem?_cons_zero,List.getElem?_cons_succ,List.getElem?_nil,GR1_nnorm,zaL,GR1_inorm,zaK,GR1_ngcd,ctF_ngcd,GR1_ndiv,ctF_ndiv,GR1_one,zbA,GR1_unit,zaF,f_uu,f_yy,f_uuu,f_ub,f_div,na,za,zb1,decide_eq_true_eq,zaG,zau,hd,eq_true hz]
  rw [Int.natAbs_eq_zero.1 hz,Rat.zero_mkRat,qa_0]
 rw [qa_red _ _ hd]
 by_cases h1:val m=1
 ·simp only [tr_reduced,Tr.den,zbo,SA.ev,BE.ev,IE.ev,SE.ev,LE.ev,zdK,zb0,zd5,evN,evB,evS,zcd,zcD,zcw,At.len,At.bit,At.lst,op1,op2,op3,Nat.reduceLeDiff,Nat.reduceSub,Nat.reduceEqDiff,if_true,if_false,ite_true,ite_false,decide_true,decide_false,Bool.not_true,Bool.not_false,Nat.zero_le,Nat.sub_zero,List.getElem?_cons_zero,List.getElem?_cons_succ,List.getElem?_nil,GR1_nnorm,zaL,GR1_inorm,zaK,GR1_ngcd,ctF_ngcd,GR1_ndiv,ctF_ndiv,GR1_one,zbA,GR1_unit,zaF,f_uu,f_yy,f_uuu,f_ub,f_div,na,za,zb1,decide_eq_true_eq,zaG,zau,hd,hz,eq_true h1]
  rw [h1,Nat.gcd_one_right,Nat.div_one,Nat.div_one]
 have hg:¬(vz a l).natAbs.gcd (val m)=0:=Nat.ne_of_gt (Nat.gcd_pos_of_pos_right _ (by omega))
 by_cases h2:(vz a l).natAbs.gcd (val m)=1
 ·simp only [tr_reduced,Tr.den,zbo,SA.ev,BE.ev,IE.ev,SE.ev,LE.ev,zdK,zb0,zd5,evN,evB,evS,zcd,zcD,zcw,At.len,At.bit,At.lst,op1,op2,op3,Nat.reduceLeDiff,Nat.reduceSub,Nat.reduceEqDiff,if_true,if_false,ite_true,ite_false,decide_true,decide_false,Bool.not_true,Bool.not_false,Nat.zero_le,Nat.sub_zero,List.getElem?_cons_zero,List.getElem?_cons_succ,List.getElem?_nil,GR1_nnorm,zaL,GR1_inorm,zaK,GR1_ngcd,ctF_ngcd,GR1_ndiv,ctF_ndiv,GR1_one,zbA,GR1_unit,zaF,f_uu,f_yy,f_uuu,f_ub,f_div,na,za,zb1,decide_eq_true_eq,zaG,zau,hd,hz,h1,eq_true h2]
  rw [h2,Nat.div_one,Nat.div_one]
 ·simp only [tr_reduced,Tr.den,zbo,SA.ev,BE.ev,IE.ev,SE.ev,LE.ev,zdK,zb0,zd5,evN,evB,evS,zcd,zcD,zcw,At.len,At.bit,At.lst,op1,op2,op3,Nat.reduceLeDiff,Nat.reduceSub,Nat.reduceEqDiff,if_true,if_false,ite_true,ite_false,decide_true,decide_false,Bool.not_true,Bool.not_false,Nat.zero_le,Nat.sub_zero,List.getElem?_cons_zero,List.getElem?_cons_succ,List.getElem?_nil,GR1_nnorm,zaL,GR1_inorm,zaK,GR1_ngcd,ctF_ngcd,GR1_ndiv,ctF_ndiv,GR1_one,zbA,GR1_unit,zaF,f_uu,f_yy,f_uuu,f_ub,f_div,na,za,zb1,decide_eq_true_eq,zaG,zau,hd,hz,h1,h2,hg]
def f_yur:List At→Option (List At)
 | [.y a l,.u m]=>some [qa (qv a l m)]
 | _=>none
theorem f_yur_some {als r:List At} (h:f_yur als=some r):∃ a l m,als=[.y a l,.u m]∧r=[qa (qv a l m)]:=by
 unfold f_yur at h
 split at h
 ·injection h with h;exact ⟨_,_,_,rfl,h.symm⟩
 ·cases h
def ct_reduced:Ct:={ args:=[[.y],[.u]],res:=[[.r]],F:=f_yur,L:=1000000000,A:=1,B:=1 }
theorem zay:ct_reduced.F=f_yur:=rfl
theorem ok_reduced:ct_reduced.ok Try.prog 61:=by
 refine ev_reduced.weaken fun als r h=>?_
 obtain ⟨a,l,m,rfl,rfl⟩:=f_yur_some h
 exact reduced_den a l m
def GR2:Gam:=gamOf [(61,ct_reduced),(67,ct_nbits),(65,ct_unit),(72,ct_one),(57,ct_isign),(59,ct_imul),(69,ct_nmul),(70,ct_nnorm),(71,ct_inorm)]
theorem GR2_ok:GamOk Try.prog GR2:=gamOk_of ⟨ok_reduced,ok_nbits,ok_unit,ok_one,ok_isign,ok_imul,ok_nmul,ok_nnorm,ok_inorm,trivial⟩
theorem zaN:GR2 61=some ct_reduced:=rfl
theorem zbe:GR2 67=some ct_nbits:=rfl
theorem zbT:GR2 65=some ct_unit:=rfl
theorem zcF:GR2 72=some ct_one:=rfl
theorem zbf:GR2 57=some ct_isign:=rfl
theorem zbU:GR2 59=some ct_imul:=rfl
theorem zbV:GR2 69=some ct_nmul:=rfl
theorem zbg:GR2 70=some ct_nnorm:=rfl
theorem zbh:GR2 71=some ct_inorm:=rfl
def tr_qmake:Tr (List SA):=(.call 57 [(.ob 1)] 2 (.br (.eq (.var 2) (.lit 0)) (.leaf [(.r (.lit false) .nil .nil),(.n (.lit 3))]) (.call 61 [(.y (.not (.beq (.bit 0) (.bit 1))) (.var 0 1)),(.u (.var 1 1))] 3 (.leaf [(.ob 3),(.n (.lit 0))]))))
theorem ev_qmake:Ct.ok Try.prog 58 { args:=[[.y],[.y]],res:=[[.r],[.n]],F:=fun als=>tr_qmake.den GR2 (zdK als),L:=100000000,A:=1,B:=4 } :=
 top_ok (by kernel_rfl) GR2_ok (plans:=planF) (lf:=60) (k:=20) (by kernel_rfl)
def tr_qsign:Tr (List SA):=(.call 67 [(.u (.var 0 2))] 1 (.br (.eq (.var 1) (.lit 0)) (.call 65 [] 2 (.call 57 [(.y (.lit false) .nil)] 3 (.leaf [(.n (.var 3))]))) (.call 57 [(.y (.bit 0) (.var 0 1))] 2 (.leaf [(.n (.var 2))]))))
theorem ev_qsign:Ct.ok Try.prog 45 { args:=[[.r]],res:=[[.n]],F:=fun als=>tr_qsign.den GR2 (zdK als),L:=100000000,A:=0,B:=0 } :=
 top_ok (by kernel_rfl) GR2_ok (plans:=planF) (lf:=60) (k:=20) (by kernel_rfl)
def tr_qneg:Tr (List SA):=(.call 67 [(.u (.var 0 2))] 1 (.br (.eq (.var 1) (.lit 0)) (.call 65 [] 2 (.call 61 [(.y (.lit true) .nil),(.u (.var 2 0))] 3 (.leaf [(.ob 3)]))) (.call 61 [(.y (.not (.bit 0)) (.var 0 1)),(.u (.var 0 2))] 2 (.leaf [(.ob 2)]))))
theorem ev_qneg:Ct.ok Try.prog 47 { args:=[[.r]],res:=[[.r]],F:=fun als=>tr_qneg.den GR2 (zdK als),L:=100000000,A:=1,B:=4 } :=
 top_ok (by kernel_rfl) GR2_ok (plans:=planF) (lf:=60) (k:=20) (by kernel_rfl)
def tr_qdiv:Tr (List SA):=(.call 67 [(.u (.var 0 2))] 2 (.br (.eq (.var 2) (.lit 0)) (.call 65 [] 3 (.call 67 [(.u (.var 1 2))] 4 (.br (.eq (.var 4) (.lit 0)) (.call 65 [] 5 (.call 59 [(.y (.lit false) .nil),(.y (.lit false) (.var 5 0))] 6 (.call 59 [(.y (.lit false) .nil),(.y (.lit false) (.var 3 0))] 7 (.call 57 [(.ob 7)] 8 (.br (.eq (.var 8) (.lit 0)) (.leaf [(.r (.lit false) .nil .nil),(.n (.lit 3))]) (.call 61 [(.y (.not (.beq (.bit 6) (.bit 7))) (.var 6 1)),(.u (.var 7 1))] 9 (.leaf [(.ob 9),(.n (.lit 0))]))))))) (.call 59 [(.y (.lit false) .nil),(.y (.lit false) (.var 1 2))] 5 (.call 59 [(.y (.bit 1) (.var 1 1)),(.y (.lit false) (.var 3 0))] 6 (.call 57 [(.ob 6)] 7 (.br (.eq (.var 7) (.lit 0)) (.leaf [(.r (.lit false) .nil .nil),(.n (.lit 3))]) (.call 61 [(.y (.not (.beq (.bit 5) (.bit 6))) (.var 5 1)),(.u (.var 6 1))] 8 (.leaf [(.ob 8),(.n (.lit 0))]))))))))) (.call 67 [(.u (.var 1 2))] 3 (.br (.eq (.var 3) (.lit 0)) (.call 65 [] 4 (.call 59 [(.y (.bit 0) (.var 0 1)),(.y (.lit false) (.var 4 0))] 5 (.call 59 [(.y (.lit false) .nil),(.y (.lit false) (.var 0 2))] 6 (.call 57 [(.ob 6)] 7 (.br (.eq (.var 7) (.lit 0)) (.leaf [(.r (.lit false) .nil .nil),(.n (.lit 3))]) (.call 61 [(.y (.not (.beq (.bit 5) (.bit 6))) (.var 5 1)),(.u (.var 6 1))] 8 (.leaf [(.ob 8),(.n (.lit 0))]))))))) (.call 59 [(.y (.bit 0) (.var 0 1)),(.y (.lit false) (.var 1 2))] 4 (.call 59 [(.y (.bit 1) (.var 1 1)),(.y (.lit false) (.var 0 2))] 5 (.call 57 [(.ob 5)] 6 (.br (.eq (.var 6) (.lit 0)) (.leaf [(.r (.lit false) .nil .nil),(.n (.lit 3))]) (.call 61 [(.y (.not (.beq (.bit 4) (.bit 5))) (.var 4 1)),(.u (.var 5 1))] 7 (.leaf [(.ob 7),(.n (.lit 0))]))))))))))
theorem ev_qdiv:Ct.ok Try.prog 46 { args:=[[.r],[.r]],res:=[[.r],[.n]],F:=fun als=>tr_qdiv.den GR2 (zdK als),L:=100000000,A:=2,B:=4 } :=
 top_ok (by kernel_rfl) GR2_ok (plans:=planF) (lf:=60) (k:=20) (by kernel_rfl)
theorem zcx (x:Nat):((zdu x:Int)=0)=(x=0):=by
 apply propext
 rw [←blen0 x];omega
theorem zcy (x:Nat):vz false (lim x)=x:=by unfold vz;rw [zau];rfl
theorem zbB:val []=0:=rfl
theorem zcq (a:Bool):vz a []=0:=by unfold vz iv;cases a<;>rfl
theorem vz_not (a:Bool) (l:List Nat):vz (!a) l = - vz a l:=by unfold vz;exact iv_not a (val l)
theorem zcz (z:Int) (d:Nat):qv (decide (z<0)) (lim z.natAbs) (lim d)=mkRat z d:=by unfold qv;rw [zbv,zau]
theorem nz_cast {d:Nat} (h:d≠0):(d:Rat)≠0:=fun e=>h (by exact_mod_cast e)
theorem sg_0i (z:Int):(sg z=0)=(z=0):=by
 apply propext
 unfold sg;split<;>(try split)<;>simp_all
def f_qmake:List At→Option (List At)
 | [.y a l,.y b m]=>some (if vz b m=0 then [.r false [] [],.n 3] else [qa ((vz a l:Rat) / (vz b m:Rat)),.n 0])
 | _=>none
theorem make_eq (a b:Bool) (l m:List Nat):qv (!(a == b)) l m=(vz a l:Rat) / (vz b m:Rat):=by
 unfold qv vz iv
 rw [Rat.mkRat_eq_div]
 cases a<;>cases b<;>simp [Rat.intCast_neg,Rat.intCast_natCast]<;>grind
theorem qmake_den (a b:Bool) (l m:List Nat):tr_qmake.den GR2 (zdK [.y a l,.y b m])=f_qmake [.y a l,.y b m]:=by
 unfold f_qmake
 by_cases h:vz b m=0
 ·simp only [tr_qmake,Tr.den,zbo,SA.ev,BE.ev,IE.ev,SE.ev,LE.ev,zdK,zb0,zd5,evN,evB,evS,zcd,zcD,zcw,At.len,At.bit,At.lst,op1,op2,op3,Nat.reduceLeDiff,Nat.reduceSub,Nat.reduceEqDiff,if_true,if_false,ite_true,ite_false,decide_true,decide_false,Bool.not_true,Bool.not_false,Nat.zero_le,Nat.sub_zero,List.getElem?_cons_zero,List.getElem?_cons_succ,List.getElem?_nil,zaN,zay,zbe,zbd,zbT,zaF,zcF,zbA,zbf,zbc,zbU,zbR,zbV,zbS,zbg,zaL,zbh,zaK,f_yur,f_un,f_uu,f_ub,f_yb,f_yn,f_yyn,f_yyy,f_uuu,f_yy,f_idiv,f_iof,f_nof,f_sqrt,f_uub,na,za,zcx,zb1,zbv,zcy,zcq,zcz,zau,zbB,zaG,decide_eq_true_eq,sg_0i,eq_true h]
 ·simp only [tr_qmake,Tr.den,zbo,SA.ev,BE.ev,IE.ev,SE.ev,LE.ev,zdK,zb0,zd5,evN,evB,evS,zcd,zcD,zcw,At.len,At.bit,At.lst,op1,op2,op3,Nat.reduceLeDiff,Nat.reduceSub,Nat.reduceEqDiff,if_true,if_false,ite_true,ite_false,decide_true,decide_false,Bool.not_true,Bool.not_false,Nat.zero_le,Nat.sub_zero,List.getElem?_cons_zero,List.getElem?_cons_succ,List.getElem?_nil,zaN,zay,zbe,zbd,zbT,zaF,zcF,zbA,zbf,zbc,zbU,zbR,zbV,zbS,zbg,zaL,zbh,zaK,f_yur,f_un,f_uu,f_ub,f_yb,f_yn,f_yyn,f_yyy,f_uuu,f_yy,f_idiv,f_iof,f_nof,f_sqrt,f_uub,na,za,zcx,zb1,zbv,zcy,zcq,zcz,zau,zbB,zaG,decide_eq_true_eq,sg_0i,h,make_eq]
def f_qsign:List At→Option (List At)
 | [.r a l m]=>some [.n (sg (qv a l m).num)]
 | _=>none
theorem num_sg (z:Int) (d:Nat) (hd:d≠0):sg (mkRat z d).num=sg z:=by
 have h:=qa_red z d hd
 have hz:((mkRat z d).num=0)↔z=0:=by
  rw [Rat.num_eq_zero]
  rw [Rat.mkRat_eq_zero hd]
 have hn:decide ((mkRat z d).num<0)=decide (z<0):=by
  unfold qa at h
  injection h
 have hn':(mkRat z d).num<0↔z<0:=by simpa using hn
 unfold sg
 by_cases h0:z=0
 ·rw [if_pos (hz.2 h0),if_pos h0]
 ·rw [if_neg (fun e=>h0 (hz.1 e)),if_neg h0]
  by_cases h1:z<0
  ·rw [if_pos (hn'.2 h1),if_pos h1]
  ·rw [if_neg (fun e=>h1 (hn'.1 e)),if_neg h1]
theorem qsign_den (a:Bool) (l m:List Nat):tr_qsign.den GR2 (zdK [.r a l m])=f_qsign [.r a l m]:=by
 unfold f_qsign
 by_cases h:val m=0
 ·simp only [tr_qsign,Tr.den,zbo,SA.ev,BE.ev,IE.ev,SE.ev,LE.ev,zdK,zb0,zd5,evN,evB,evS,zcd,zcD,zcw,At.len,At.bit,At.lst,op1,op2,op3,Nat.reduceLeDiff,Nat.reduceSub,Nat.reduceEqDiff,if_true,if_false,ite_true,ite_false,decide_true,decide_false,Bool.not_true,Bool.not_false,Nat.zero_le,Nat.sub_zero,List.getElem?_cons_zero,List.getElem?_cons_succ,List.getElem?_nil,zaN,zay,zbe,zbd,zbT,zaF,zcF,zbA,zbf,zbc,zbU,zbR,zbV,zbS,zbg,zaL,zbh,zaK,f_yur,f_un,f_uu,f_ub,f_yb,f_yn,f_yyn,f_yyy,f_uuu,f_yy,f_idiv,f_iof,f_nof,f_sqrt,f_uub,na,za,zcx,zb1,zbv,zcy,zcq,zcz,zau,zbB,zaG,decide_eq_true_eq,eq_true h]
  unfold qv;rw [h,Rat.mkRat_zero];rfl
 ·simp only [tr_qsign,Tr.den,zbo,SA.ev,BE.ev,IE.ev,SE.ev,LE.ev,zdK,zb0,zd5,evN,evB,evS,zcd,zcD,zcw,At.len,At.bit,At.lst,op1,op2,op3,Nat.reduceLeDiff,Nat.reduceSub,Nat.reduceEqDiff,if_true,if_false,ite_true,ite_false,decide_true,decide_false,Bool.not_true,Bool.not_false,Nat.zero_le,Nat.sub_zero,List.getElem?_cons_zero,List.getElem?_cons_succ,List.getElem?_nil,zaN,zay,zbe,zbd,zbT,zaF,zcF,zbA,zbf,zbc,zbU,zbR,zbV,zbS,zbg,zaL,zbh,zaK,f_yur,f_un,f_uu,f_ub,f_yb,f_yn,f_yyn,f_yyy,f_uuu,f_yy,f_idiv,f_iof,f_nof,f_sqrt,f_uub,na,za,zcx,zb1,zbv,zcy,zcq,zcz,zau,zbB,zaG,decide_eq_true_eq,h]
  unfold qv;rw [num_sg _ _ h]
def qcmpv (x y:Rat):Int:=if x<y then -1 else if y<x then 1 else 0
def f_qcmp:List At→Option (List At)
 | [.r a l m,.r b k n]=>some [.n (qcmpv (qv a l m) (qv b k n))]
 | _=>none
def f_qneg:List At→Option (List At)
 | [.r a l m]=>some [qa (- qv a l m)]
 | _=>none
theorem qv_not (a:Bool) (l m:List Nat):qv (!a) l m = - qv a l m:=by unfold qv;rw [vz_not,Rat.neg_mkRat]
theorem qneg_den (a:Bool) (l m:List Nat):tr_qneg.den GR2 (zdK [.r a l m])=f_qneg [.r a l m]:=by
 unfold f_qneg
 by_cases h:val m=0
 ·simp only [tr_qneg,Tr.den,zbo,SA.ev,BE.ev,IE.ev,SE.ev,LE.ev,zdK,zb0,zd5,evN,evB,evS,zcd,zcD,zcw,At.len,At.bit,At.lst,op1,op2,op3,Nat.reduceLeDiff,Nat.reduceSub,Nat.reduceEqDiff,if_true,if_false,ite_true,ite_false,decide_true,decide_false,Bool.not_true,Bool.not_false,Nat.zero_le,Nat.sub_zero,List.getElem?_cons_zero,List.getElem?_cons_succ,List.getElem?_nil,zaN,zay,zbe,zbd,zbT,zaF,zcF,zbA,zbf,zbc,zbU,zbR,zbV,zbS,zbg,zaL,zbh,zaK,f_yur,f_un,f_uu,f_ub,f_yb,f_yn,f_yyn,f_yyy,f_uuu,f_yy,f_idiv,f_iof,f_nof,f_sqrt,f_uub,na,za,zcx,zb1,zbv,zcy,zcq,zcz,zau,zbB,zaG,decide_eq_true_eq,eq_true h]
  unfold qv;rw [h,zcq,Rat.mkRat_zero,Rat.zero_mkRat];rfl
 ·simp only [tr_qneg,Tr.den,zbo,SA.ev,BE.ev,IE.ev,SE.ev,LE.ev,zdK,zb0,zd5,evN,evB,evS,zcd,zcD,zcw,At.len,At.bit,At.lst,op1,op2,op3,Nat.reduceLeDiff,Nat.reduceSub,Nat.reduceEqDiff,if_true,if_false,ite_true,ite_false,decide_true,decide_false,Bool.not_true,Bool.not_false,Nat.zero_le,Nat.sub_zero,List.getElem?_cons_zero,List.getElem?_cons_succ,List.getElem?_nil,zaN,zay,zbe,zbd,zbT,zaF,zcF,zbA,zbf,zbc,zbU,zbR,zbV,zbS,zbg,zaL,zbh,zaK,f_yur,f_un,f_uu,f_ub,f_yb,f_yn,f_yyn,f_yyy,f_uuu,f_yy,f_idiv,f_iof,f_nof,f_sqrt,f_uub,na,za,zcx,zb1,zbv,zcy,zcq,zcz,zau,zbB,zaG,decide_eq_true_eq,h]
  rw [qv_not]
def f_qdiv:List At→Option (List At)
 | [.r a l m,.r b k n]=>some (if qv b k n=0 then [.r false [] [],.n 3] else [qa (qv a l m / qv b k n),.n 0])
 | _=>none
theorem div_mk (x y:Rat):((x.num*y.den:Int):Rat) / ((y.num*x.den:Int):Rat)=x / y:=by
 have h1:=Rat.mkRat_self x
 have h2:=Rat.mkRat_self y
 rw [Rat.mkRat_eq_div] at h1 h2
 have hx:=nz_cast x.den_nz
 have hy:=nz_cast y.den_nz
 rw [Rat.intCast_mul,Rat.intCast_mul,Rat.intCast_natCast,Rat.intCast_natCast]
 generalize (x.num:Rat)=A at *
 generalize (y.num:Rat)=B at *
 generalize (x.den:Rat)=c at *
 generalize (y.den:Rat)=d at *
 rw [←h1,←h2]
 by_cases hB:B=0
 ·subst hB;grind
 ·grind
theorem make_can (z y:Int):qv (!(decide (z<0) == decide (y<0))) (lim z.natAbs) (lim y.natAbs)=(z:Rat) / (y:Rat):=by
 rw [make_eq,zbv,zbv]
theorem qdivv {A B:Int} {c d:Nat} (hc:c≠0) (hd:d≠0):((A*d:Int):Rat) / ((B*c:Int):Rat)=mkRat A c / mkRat B d:=by
 have hx:=nz_cast hc
 have hy:=nz_cast hd
 rw [Rat.mkRat_eq_div,Rat.mkRat_eq_div,Rat.intCast_mul,Rat.intCast_mul,Rat.intCast_natCast,Rat.intCast_natCast]
 generalize (A:Rat)=A at *
 generalize (B:Rat)=B at *
 generalize (c:Rat)=c at *
 generalize (d:Rat)=d at *
 by_cases hB:B=0
 ·subst hB;grind
 ·grind
theorem zdiv (x:Rat):(0:Rat) / x=0:=by rw [Rat.div_def,Rat.zero_mul]
theorem mk_0 {z:Int} {d:Nat} (hd:d≠0):(mkRat z d=0)=(z=0):=propext (Rat.mkRat_eq_zero hd)
theorem mul_nz {z:Int} {d:Nat} (hd:d≠0):(z*(d:Int)=0)=(z=0):=by
 apply propext
 rw [Int.mul_eq_zero]
 constructor
 ·rintro (h|h)
  ·exact h
  ·exact absurd (by exact_mod_cast h) hd
 ·exact .inl
theorem qdiv_den (a b:Bool) (l m k n:List Nat):tr_qdiv.den GR2 (zdK [.r a l m,.r b k n])=f_qdiv [.r a l m,.r b k n]:=by
 simp only [f_qdiv]
 have z1:((1:Nat):Int)=1:=rfl
 have o1:((1:Nat):Rat)=1:=rfl
 by_cases h1:val m=0<;>by_cases h2:val n=0
 ·have q2:qv b k n=0:=by unfold qv;rw [h2,Rat.mkRat_zero]
  simp only [tr_qdiv,Tr.den,zbo,SA.ev,BE.ev,IE.ev,SE.ev,LE.ev,zdK,zb0,zd5,evN,evB,evS,zcd,zcD,zcw,At.len,At.bit,At.lst,op1,op2,op3,Nat.reduceLeDiff,Nat.reduceSub,Nat.reduceEqDiff,if_true,if_false,ite_true,ite_false,decide_true,decide_false,Bool.not_true,Bool.not_false,Nat.zero_le,Nat.sub_zero,List.getElem?_cons_zero,List.getElem?_cons_succ,List.getElem?_nil,zaN,zay,zbe,zbd,zbT,zaF,zcF,zbA,zbf,zbc,zbU,zbR,zbV,zbS,zbg,zaL,zbh,zaK,f_yur,f_un,f_uu,f_ub,f_yb,f_yn,f_yyn,f_yyy,f_uuu,f_yy,f_idiv,f_iof,f_nof,f_sqrt,f_uub,na,za,zcx,zb1,zbv,zcy,zcq,zcz,zau,zbB,zaG,decide_eq_true_eq,eq_true h1,eq_true h2,sg_0i,make_can,Int.zero_mul,q2]
 ·have q1:qv a l m=0:=by unfold qv;rw [h1,Rat.mkRat_zero]
  have e:=mk_0 (z:=vz b k) h2
  have e2:(qv b k n=0)=(vz b k=0):=e
  by_cases h3:vz b k=0
  ·simp only [tr_qdiv,Tr.den,zbo,SA.ev,BE.ev,IE.ev,SE.ev,LE.ev,zdK,zb0,zd5,evN,evB,evS,zcd,zcD,zcw,At.len,At.bit,At.lst,op1,op2,op3,Nat.reduceLeDiff,Nat.reduceSub,Nat.reduceEqDiff,if_true,if_false,ite_true,ite_false,decide_true,decide_false,Bool.not_true,Bool.not_false,Nat.zero_le,Nat.sub_zero,List.getElem?_cons_zero,List.getElem?_cons_succ,List.getElem?_nil,zaN,zay,zbe,zbd,zbT,zaF,zcF,zbA,zbf,zbc,zbU,zbR,zbV,zbS,zbg,zaL,zbh,zaK,f_yur,f_un,f_uu,f_ub,f_yb,f_yn,f_yyn,f_yyy,f_uuu,f_yy,f_idiv,f_iof,f_nof,f_sqrt,f_uub,na,za,zcx,zb1,zbv,zcy,zcq,zcz,zau,zbB,zaG,decide_eq_true_eq,eq_true h1,h2,sg_0i,make_can,Int.zero_mul,Int.mul_one,z1,e2,eq_true h3]
  ·simp only [tr_qdiv,Tr.den,zbo,SA.ev,BE.ev,IE.ev,SE.ev,LE.ev,zdK,zb0,zd5,evN,evB,evS,zcd,zcD,zcw,At.len,At.bit,At.lst,op1,op2,op3,Nat.reduceLeDiff,Nat.reduceSub,Nat.reduceEqDiff,if_true,if_false,ite_true,ite_false,decide_true,decide_false,Bool.not_true,Bool.not_false,Nat.zero_le,Nat.sub_zero,List.getElem?_cons_zero,List.getElem?_cons_succ,List.getElem?_nil,zaN,zay,zbe,zbd,zbT,zaF,zcF,zbA,zbf,zbc,zbU,zbR,zbV,zbS,zbg,zaL,zbh,zaK,f_yur,f_un,f_uu,f_ub,f_yb,f_yn,f_yyn,f_yyy,f_uuu,f_yy,f_idiv,f_iof,f_nof,f_sqrt,f_uub,na,za,zcx,zb1,zbv,zcy,zcq,zcz,zau,zbB,zaG,decide_eq_true_eq,eq_true h1,h2,sg_0i,make_can,Int.zero_mul,Int.mul_one,z1,e2,h3]
   rw [q1,show ((0:Int):Rat)=0 from rfl,zdiv,zdiv]
 ·have q2:qv b k n=0:=by unfold qv;rw [h2,Rat.mkRat_zero]
  simp only [tr_qdiv,Tr.den,zbo,SA.ev,BE.ev,IE.ev,SE.ev,LE.ev,zdK,zb0,zd5,evN,evB,evS,zcd,zcD,zcw,At.len,At.bit,At.lst,op1,op2,op3,Nat.reduceLeDiff,Nat.reduceSub,Nat.reduceEqDiff,if_true,if_false,ite_true,ite_false,decide_true,decide_false,Bool.not_true,Bool.not_false,Nat.zero_le,Nat.sub_zero,List.getElem?_cons_zero,List.getElem?_cons_succ,List.getElem?_nil,zaN,zay,zbe,zbd,zbT,zaF,zcF,zbA,zbf,zbc,zbU,zbR,zbV,zbS,zbg,zaL,zbh,zaK,f_yur,f_un,f_uu,f_ub,f_yb,f_yn,f_yyn,f_yyy,f_uuu,f_yy,f_idiv,f_iof,f_nof,f_sqrt,f_uub,na,za,zcx,zb1,zbv,zcy,zcq,zcz,zau,zbB,zaG,decide_eq_true_eq,h1,eq_true h2,sg_0i,make_can,Int.zero_mul,q2]
 ·have e2:(qv b k n=0)=(vz b k=0):=mk_0 (z:=vz b k) h2
  have e3:(vz b k*vz false m=0)=(vz b k=0):=mul_nz (z:=vz b k) h1
  have hq:((vz a l*vz false n:Int):Rat) / ((vz b k*vz false m:Int):Rat)=qv a l m / qv b k n:=qdivv h1 h2
  by_cases h3:vz b k=0
  ·simp only [tr_qdiv,Tr.den,zbo,SA.ev,BE.ev,IE.ev,SE.ev,LE.ev,zdK,zb0,zd5,evN,evB,evS,zcd,zcD,zcw,At.len,At.bit,At.lst,op1,op2,op3,Nat.reduceLeDiff,Nat.reduceSub,Nat.reduceEqDiff,if_true,if_false,ite_true,ite_false,decide_true,decide_false,Bool.not_true,Bool.not_false,Nat.zero_le,Nat.sub_zero,List.getElem?_cons_zero,List.getElem?_cons_succ,List.getElem?_nil,zaN,zay,zbe,zbd,zbT,zaF,zcF,zbA,zbf,zbc,zbU,zbR,zbV,zbS,zbg,zaL,zbh,zaK,f_yur,f_un,f_uu,f_ub,f_yb,f_yn,f_yyn,f_yyy,f_uuu,f_yy,f_idiv,f_iof,f_nof,f_sqrt,f_uub,na,za,zcx,zb1,zbv,zcy,zcq,zcz,zau,zbB,zaG,decide_eq_true_eq,h1,h2,sg_0i,make_can,e2,e3,eq_true h3]
  ·simp only [tr_qdiv,Tr.den,zbo,SA.ev,BE.ev,IE.ev,SE.ev,LE.ev,zdK,zb0,zd5,evN,evB,evS,zcd,zcD,zcw,At.len,At.bit,At.lst,op1,op2,op3,Nat.reduceLeDiff,Nat.reduceSub,Nat.reduceEqDiff,if_true,if_false,ite_true,ite_false,decide_true,decide_false,Bool.not_true,Bool.not_false,Nat.zero_le,Nat.sub_zero,List.getElem?_cons_zero,List.getElem?_cons_succ,List.getElem?_nil,zaN,zay,zbe,zbd,zbT,zaF,zcF,zbA,zbf,zbc,zbU,zbR,zbV,zbS,zbg,zaL,zbh,zaK,f_yur,f_un,f_uu,f_ub,f_yb,f_yn,f_yyn,f_yyy,f_uuu,f_yy,f_idiv,f_iof,f_nof,f_sqrt,f_uub,na,za,zcx,zb1,zbv,zcy,zcq,zcz,zau,zbB,zaG,decide_eq_true_eq,h1,h2,sg_0i,make_can,e2,e3,h3]
   rw [hq]
def ct_qmake:Ct:={ args:=[[.y],[.y]],res:=[[.r],[.n]],F:=f_qmake,L:=100000000,A:=1,B:=4 }
theorem ctF_qmake:ct_qmake.F=f_qmake:=rfl
theorem ok_qmake:ct_qmake.ok Try.prog 58:=by
 refine ev_qmake.weaken fun als r h=>?_
 have h':=h
 unfold f_qmake at h
 split at h<;>first|exact (qmake_den _ _ _ _).trans h'|cases h
def ct_qsign:Ct:={ args:=[[.r]],res:=[[.n]],F:=f_qsign,L:=100000000,A:=0,B:=0 }
theorem ctF_qsign:ct_qsign.F=f_qsign:=rfl
theorem ok_qsign:ct_qsign.ok Try.prog 45:=by
 refine ev_qsign.weaken fun als r h=>?_
 have h':=h
 unfold f_qsign at h
 split at h<;>first|exact (qsign_den _ _ _).trans h'|cases h
def ct_qneg:Ct:={ args:=[[.r]],res:=[[.r]],F:=f_qneg,L:=100000000,A:=1,B:=4 }
theorem ctF_qneg:ct_qneg.F=f_qneg:=rfl
theorem ok_qneg:ct_qneg.ok Try.prog 47:=by
 refine ev_qneg.weaken fun als r h=>?_
 have h':=h
 unfold f_qneg at h
 split at h<;>first|exact (qneg_den _ _ _).trans h'|cases h
def ct_qdiv:Ct:={ args:=[[.r],[.r]],res:=[[.r],[.n]],F:=f_qdiv,L:=100000000,A:=2,B:=4 }
theorem ok_qdiv:ct_qdiv.ok Try.prog 46:=by
 refine ev_qdiv.weaken fun als r h=>?_
 have h':=h
 unfold f_qdiv at h
 split at h<;>first|exact (qdiv_den _ _ _ _ _ _).trans h'|cases h
end Go.Proofs.Ytefhenfofomjhaa
namespace Go.Proofs.Ytefhenfofomjhaa
open Go.RowKit Go.V
set_option maxRecDepth 20000
theorem bs_extI (s:ByteArray):bs (s.extract 1 s.size)=(bs s).drop 1:=by
 unfold bs
 rw [ByteArray.data_extract,Array.toList_extract]
 have:s.size=s.data.toList.length:=by rw [Array.length_toList];rfl
 rw [List.extract_eq_take_drop,this,List.take_of_length_le (by simp)]
theorem rdL_lenI (l:List UInt8):(rdL l).length≤1000:=by
 unfold rdL
 split
 ·rename_i h
  unfold rdE at h
  split at h
  ·cases h
  ·split at h
   ·cases h
   ·rename_i h1
    split at h
    ·cases h
    ·rename_i hb
     have hd:∀ k,k<l.length→isD (ch l k)=true:=by
      intro k hk
      cases hc:isD (ch l k) with
      | true=>rfl
      | false=>exact absurd (bad_at hk hc) hb
     have:=dv_len l l.length (Nat.le_refl _) hd
     rw [List.take_length] at this
     omega
 ·simp
def izn (l:List UInt8):Bool:=decide (0<l.length∧((ch l 0).toNat:Int)=45)
def izd (l:List UInt8):List UInt8:=if izn l=true then l.drop 1 else l
def izE (l:List UInt8):Int:=if ¬rdE (izd l)=0 then rdE (izd l) else if izn l=true∧(rdL (izd l)).length=0 then 9 else 0
def izV (l:List UInt8):Int:=if izE l=0 then iv (izn l) (dv (izd l)) else 0
def IReadPost (w:World) (l:List UInt8) (e:Ending) (w':World):Prop:=∃ a c,e = .returned (.tuple #[iR (izV l) a c,.int .i64 (izE l)])∧RD w' a c (lim (izV l).natAbs)∧Below w.heap.size w w'
theorem iR0:iR 0 none 0 = .agg #[.bool false,.slice none 0 0]:=by unfold iR;rw [show ((0:Int).natAbs)=0 from rfl,zaq];rfl
theorem ireadErr {w w':World} {l:List UInt8} {e:Ending} (h0:izE l≠0) (he:e = .returned (.tuple #[.agg #[.bool false,.slice none 0 0],.int .i64 (izE l)])) (hE:Below w.heap.size w w'):IReadPost w l e w':=by
 have hv:izV l=0:=by unfold izV;rw [if_neg h0]
 refine ⟨none,0,?_,?_,hE⟩
 ·rw [hv,iR0,he]
 ·rw [hv,show ((0:Int).natAbs)=0 from rfl,zaq];exact RD.nil _ _ _
set_option maxHeartbeats 1000000 in
theorem iRead_any (s:ByteArray) (w:World):Calls Try.prog 64 #[.string s] w (IReadPost w (bs s)):=by
 have hsz:=zaR s
 have hbe:bs ⟨#[]⟩=[]:=rfl
 obtain ⟨l,hl⟩:∃ l,l=bs s:=⟨_,rfl⟩
 have hex:=bs_extI s
 rw [←hl] at hsz hex ⊢
 have hba:zah s 0=ch l 0:=by rw [hl];rfl
 obtain ⟨n,hn⟩:∃ n,n=izn l:=⟨_,rfl⟩
 refine za8 (args:=[.string s]) (rs:=[.cell 2 33,.tmp 3]) (n:=38) Try.func64 rfl rfl rfl (by kernel_rfl) ?_
 first|refine zzr fun K hK=>?_|refine zzt fun K hK=>?_
 simp [go_sem]
 refine zar (by simp [go_sem]) rfl zdj (fun w2 b2 hE2 hle2 hB2=>?_)
 have hE:=hE2
 simp [go_sem]
 refine hK _ _ ?_;clear hK K
 refine W_rtJ (fun g w'=>w'=w2∧g 0 = .string s∧g 2 = .pointer (some ⟨b2,0,none⟩)∧g 4 = .bool n) (by kernel_rfl) ?_ ?_
 ·by_cases h0:l=[]
  ·have hn0:n=false:=by rw [hn,h0];rfl
   simp [go_sem,←hl,hbe,h0,hn0]
  ·have hl0:0<s.size:=by rw [←hsz];exact List.length_pos_iff.2 h0
   have hl1:0<l.length:=List.length_pos_iff.2 h0
   by_cases h1:((ch l 0).toNat:Int)=45
   ·have hn1:n=true:=by rw [hn];unfold izn;exact decide_eq_true ⟨hl1,h1⟩
    simp [go_sem,←hl,hbe,h0,hba,h1,hl0,hn1]
   ·have hn1:n=false:=by rw [hn];unfold izn;exact decide_eq_false (fun h=>h1 h.2)
    simp [go_sem,←hl,hbe,h0,hba,h1,hl0,hn1]
 ·rintro g w2 ⟨rfl,g0,g2,g4⟩
  first|refine zzr fun K hK=>?_|refine zzt fun K hK=>?_
  simp [go_sem,g0]
  refine hK _ _ ?_;clear hK K
  refine zad (fun K1 hK1=>?_)
  have main:∀ (g':G) (d:ByteArray),g' 2 = .pointer (some ⟨b2,0,none⟩)→g' 4 = .bool n→g' 5 = .string d→bs d=izd l→K1 g' w2:=by
   intro g' d g2 g4 g5 hd
   refine hK1 _ _ ?_;clear hK1 K1
   have hrd:=read_any d w2
   unfold ReadPost at hrd
   rw [hd] at hrd
   have hEl:izE l=if ¬rdE (izd l)=0 then rdE (izd l) else if n=true∧(rdL (izd l)).length=0 then 9 else 0:=by rw [hn];rfl
   have hVl:izE l=0→izV l=iv n (dv (izd l)):=fun h=>by unfold izV;rw [if_pos h,hn]
   have hLl:rdE (izd l)=0→rdL (izd l)=lim (dv (izd l)):=fun h=>by unfold rdL;rw [if_pos h]
   generalize izd l=D at *
   generalize hEE:rdE D=E at *
   generalize hLL:rdL D=L at *
   first|refine zzr fun K hK=>?_|refine zzt fun K hK=>?_
   simp [go_sem,g5]
   refine za5 (by simp [go_sem,g5]) rfl Try.call66 (fun R hR=>?_)
   simp [go_sem,g5]
   refine hrd.mono ?_
   rintro e w4 ⟨a4,c4,rfl,hr4,hE4⟩
   refine ⟨_,rfl,hR _ _ ?_⟩
   clear hR R
   replace hB2:=hB2.keep hE4
   replace hE:=hE.next hE4
   obtain ⟨k0,k1⟩:=ibx hB2
   simp [go_sem,g5]
   refine hK _ _ ?_;clear hK K
   refine zad (fun K2 hK2=>?_)
   by_cases he:E=0
   ·have hL:=hLl he
    subst hL
    rw [if_neg (by rw [he];simp)] at hEl
    first|refine zzr fun K hK=>?_|refine zzt fun K hK=>?_
    simp [go_sem,g5,he]
    refine hK _ _ ?_;clear hK K
    refine zao (by simp [go_sem];rfl) rfl ?_
    refine zae ?_
    refine hK2 _ _ ?_;clear hK2 K2
    refine zad (fun K3 hK3=>?_)
    refine W_rtJ (fun g w'=>w'=w4∧g 2 = .pointer (some ⟨b2,0,none⟩)∧g 4 = .bool n∧g 6 = .slice a4 (lim (dv D)).length c4∧g 33 = .bool (n && decide (((lim (dv D)).length:Int)=0))) (by kernel_rfl) ?_ ?_
    ·cases n
     ·simp [go_sem,g2,g4]
     ·simp [go_sem,g2,g4]
    ·clear g2 g4 g5
     rintro g w5 ⟨rfl,g2,g4,g6,g33⟩
     refine zao g33 rfl ?_
     by_cases hz:n=true∧(lim (dv D)).length=0
     ·rw [if_pos hz] at hEl
      obtain ⟨hz1,hz2⟩:=hz
      have hz3:((lim (dv D)).length:Int)=0:=by omega
      rw [hz1,decide_eq_true hz3,Bool.and_self]
      first|refine zzr fun K hK=>?_|refine zzt fun K hK=>?_
      simp [go_sem,g2,k0,k1]
      refine zap #[.bool false,.slice none 0 0] (by simp [go_sem,g2]) rfl zda [] (by simp [go_sem,g2]) rfl ?_
      simp [go_sem,g2]
      refine za7 (b:=b2) (off:=0) [.bool false,.slice none 0 0] (by simp [go_sem,g2]) rfl (by simp [go_sem,g2]) (by simp [go_sem,Value.cells,g2]) zbs hB2 (by simp) (by simp [Value.oneCell']) (by decide) (fun w9 hS9 hB9=>?_)
      simp [zaD] at hB9
      replace hE:=hE.nextS hS9 hle2
      obtain ⟨k0,k1⟩:=ibx hB9
      simp [go_sem,g2]
      refine hK _ _ ?_;clear hK K
      refine zal ?_
      repeat (first|refine za4 ?_|refine za3 ?_)
      refine ⟨by simp [zb6,go_sem,za1,g2,k0,k1,za0],ireadErr (by rw [hEl];decide) ?_ hE⟩
      simp [go_sem,zaw,zav,za2,g2,k0,k1,za0,hEl]
     ·rw [if_neg hz] at hEl
      have hbb:(n && decide (((lim (dv D)).length:Int)=0))=false:=by
       cases n
       ·rfl
       ·have:¬((lim (dv D)).length:Int)=0:=fun h=>hz ⟨rfl,by omega⟩
        rw [decide_eq_false this];rfl
      rw [hbb]
      have hV:=hVl hEl
      refine zae ?_
      refine hK3 _ _ ?_;clear hK3 K3
      first|refine zzr fun K hK=>?_|refine zzt fun K hK=>?_
      simp [go_sem,g2,g4,g6]
      refine za5 (by simp [go_sem,g2,g4,g6]) rfl Try.call68 (fun R hR=>?_)
      simp [go_sem,g2,g4,g6]
      refine (made_any n (dv D) a4 c4 _ hr4).mono ?_
      rintro e w6 ⟨a6,c6,rfl,hr6,hE6⟩
      refine ⟨_,rfl,hR _ _ ?_⟩
      clear hR R
      replace hB2:=hB2.keep hE6
      replace hE:=hE.next hE6
      simp [go_sem,g2]
      refine za7 (b:=b2) (off:=0) [.bool (decide (iv n (dv D)<0)),.slice a6 (lim (iv n (dv D)).natAbs).length c6] (by simp [go_sem,g2,iR]) rfl (by simp [go_sem,g2,iR]) (by simp [go_sem,Value.cells,g2,iR]) zbs hB2 (by simp) (by simp [Value.oneCell']) (by decide) (fun w9 hS9 hB9=>?_)
      simp [zaD] at hB9
      replace hr6:=hr6.sto hS9 (hr6.nbox hB2)
      replace hE:=hE.nextS hS9 hle2
      obtain ⟨k0,k1⟩:=ibx hB9
      simp [go_sem,g2]
      refine hK _ _ ?_;clear hK K
      refine zal ?_
      repeat (first|refine za4 ?_|refine za3 ?_)
      refine ⟨by simp [zb6,go_sem,za1,g2,k0,k1,za0],a6,c6,?_,by rw [hV];exact hr6,hE⟩
      simp [go_sem,zaw,zav,za2,g2,k0,k1,za0,hEl,hV,iR]
   ·have hEl':izE l=E:=by rw [hEl,if_pos he]
    first|refine zzr fun K hK=>?_|refine zzt fun K hK=>?_
    simp [go_sem,g5,he]
    refine hK _ _ ?_;clear hK K
    refine zao (by simp [go_sem];rfl) rfl ?_
    first|refine zzr fun K hK=>?_|refine zzt fun K hK=>?_
    simp [go_sem,g2,k0,k1]
    refine zap #[.bool false,.slice none 0 0] (by simp [go_sem,g2]) rfl zda [] (by simp [go_sem,g2]) rfl ?_
    simp [go_sem,g2]
    refine za7 (b:=b2) (off:=0) [.bool false,.slice none 0 0] (by simp [go_sem,g2]) rfl (by simp [go_sem,g2]) (by simp [go_sem,Value.cells,g2]) zbs hB2 (by simp) (by simp [Value.oneCell']) (by decide) (fun w9 hS9 hB9=>?_)
    simp [zaD] at hB9
    replace hE:=hE.nextS hS9 hle2
    obtain ⟨k0,k1⟩:=ibx hB9
    simp [go_sem,g2]
    refine hK _ _ ?_;clear hK K
    refine zal ?_
    repeat (first|refine za4 ?_|refine za3 ?_)
    refine ⟨by simp [zb6,go_sem,za1,g2,k0,k1,za0],ireadErr (by rw [hEl'];exact he) ?_ hE⟩
    simp [go_sem,zaw,zav,za2,g2,k0,k1,za0,hEl']
  cases hnn:n with
  | false =>
   have hd0:bs s=izd l:=by unfold izd;rw [←hn,hnn,←hl];simp
   rw [hnn] at main g4
   first|refine zzr fun K hK=>?_|refine zzt fun K hK=>?_
   simp [go_sem,g4]
   refine hK _ _ ?_;clear hK K
   refine zao (by simp [go_sem];rfl) rfl ?_
   refine zae ?_
   exact main _ s (by simp [go_sem,g2]) (by simp [go_sem,g4]) (by simp [go_sem]) hd0
  | true =>
   have hd0:bs (s.extract 1 s.size)=izd l:=by unfold izd;rw [←hn,hnn,hex];simp
   have hp:1≤s.size:=by
    have h1:izn l=true:=by rw [←hn,hnn]
    unfold izn at h1
    have:=(of_decide_eq_true h1).1
    omega
   have hp':(1:Int)≤s.size:=by omega
   rw [hnn] at main g4
   first|refine zzr fun K hK=>?_|refine zzt fun K hK=>?_
   simp [go_sem,g4]
   refine hK _ _ ?_;clear hK K
   refine zao (by simp [go_sem];rfl) rfl ?_
   first|refine zzr fun K hK=>?_|refine zzt fun K hK=>?_
   simp [go_sem,g0,hp,hp']
   refine hK _ _ ?_;clear hK K
   exact main _ (s.extract 1 s.size) (by simp [go_sem,g2]) (by simp [go_sem,g4]) (by simp [go_sem]) hd0
end Go.Proofs.Ytefhenfofomjhaa
namespace Go.Proofs.Ytefhenfofomjhaa
open Go Go.RowKit Go.V
set_option maxRecDepth 20000
def slk:List UInt8→Nat
 | []=>0
 | b::l=>if b=47 then 0 else slk l+1
theorem slk_le:∀ l:List UInt8,slk l≤l.length
 | []=>Nat.le_refl _
 | b::l=>by
  have:=slk_le l
  unfold slk
  split<;>simp<;>omega
theorem index_slk:∀ l:List UInt8,Lib.indexByte l 47=if slk l<l.length then (slk l:Int) else -1
 | []=>rfl
 | b::l=>by
  have ih:=index_slk l
  have h0:=slk_le l
  show (if (b == 47)=true then (0:Int) else if (Lib.indexByte l 47 == -1)=true then -1 else Lib.indexByte l 47+1)=if (if b=47 then 0 else slk l+1)<(b::l).length then ((if b=47 then 0 else slk l+1:Nat):Int) else -1
  by_cases hb:b=47
  ·subst hb;simp
  ·have hb':(b == 47)=false:=by simpa using hb
   by_cases h:slk l<l.length
   ·have e:Lib.indexByte l 47=slk l:=by rw [ih,if_pos h]
    have h1:((slk l:Int) == -1)=false:=by simp
    rw [hb',if_neg hb,e,h1]
    simp [h]
   ·have e:Lib.indexByte l 47 = -1:=by rw [ih,if_neg h]
    rw [hb',if_neg hb,e]
    simp [h]
theorem indexByte_any (s:ByteArray) (w:World):Calls Try.prog 62 #[.string s,.int .u8 47] w fun e w'=>e = .returned (.int .i64 (Lib.indexByte (bs s) 47))∧w'=w:=by
 refine za8 (args:=[.string s,.int .u8 47]) (rs:=[.tmp 4]) (n:=8) Try.func62 rfl rfl rfl (by kernel_rfl) ?_
 first|refine zzr fun K hK=>?_|refine zzt fun K hK=>?_
 simp [go_sem]
 refine hK _ _ ?_;clear hK K
 first|refine zzr fun K hK=>?_|refine zzt fun K hK=>?_
 simp [go_sem]
 refine hv_ext (by simp [go_sem]) rfl Try.func75 (by kernel_rfl) (by kernel_rfl) (by kernel_rfl) (e:=Extern.BytealgIndexByte.indexByte) (by kernel_rfl) (by simp [go_sem];exact Lib.run_indexByteString _ _ _) ?_
 simp [go_sem]
 refine hK _ _ ?_;clear hK K
 refine zal ?_
 repeat (first|refine za4 ?_|refine za3 ?_)
 exact ⟨trivial,by simp [go_sem,zaw,zav];rfl,rfl⟩
theorem sz47:(⟨#[47]⟩:ByteArray).size=1:=rfl
theorem at47:(zah ⟨#[47]⟩ 0).toNat=47:=rfl
theorem bs47:bs ⟨#[47]⟩=[47]:=rfl
theorem index_any (s:ByteArray) (w:World):Calls Try.prog 87 #[.string s,.string ⟨#[47]⟩] w fun e w'=>e = .returned (.int .i64 (Lib.indexByte (bs s) 47))∧w'=w:=by
 refine za8 (args:=[.string s,.string ⟨#[47]⟩]) (rs:=[.tmp 4]) (n:=143) Try.func87 rfl rfl rfl (by kernel_rfl) ?_
 first|refine zzr fun K hK=>?_|refine zzt fun K hK=>?_
 simp [go_sem]
 refine hK _ _ ?_;clear hK K
 first|refine zzr fun K hK=>?_|refine zzt fun K hK=>?_
 simp [go_sem,sz47]
 refine hK _ _ ?_;clear hK K
 refine zad (fun K1 hK1=>?_)
 refine zag ?_
 by_cases hq:[47]=bs s
 ·first|refine zzr fun K hK=>?_|refine zzt fun K hK=>?_
  simp [go_sem,bs47,eq_true hq]
  refine hK _ _ ?_;clear hK K
  refine zao (t:=true) (by simp [go_sem]) rfl ?_
  first|refine zzr fun K hK=>?_|refine zzt fun K hK=>?_
  simp [go_sem]
  refine hK _ _ ?_;clear hK K
  refine zal ?_
  repeat (first|refine za4 ?_|refine za3 ?_)
  refine ⟨trivial,?_,rfl⟩
  simp [go_sem,zaw,zav,←hq];rfl
 ·first|refine zzr fun K hK=>?_|refine zzt fun K hK=>?_
  simp [go_sem,bs47,hq]
  refine hK _ _ ?_;clear hK K
  refine zao (t:=false) (by simp [go_sem]) rfl ?_
  first|refine zzr fun K hK=>?_|refine zzt fun K hK=>?_
  simp [go_sem]
  refine hK _ _ ?_;clear hK K
  refine zao (t:=true) (by simp [go_sem]) rfl ?_
  first|refine zzr fun K hK=>?_|refine zzt fun K hK=>?_
  simp [go_sem,at47]
  refine za5 (by simp [go_sem,at47]) rfl Try.call62 (fun R hR=>?_)
  simp [go_sem,at47]
  refine (indexByte_any s w).mono ?_
  rintro e w2 ⟨rfl,rfl⟩
  refine ⟨_,rfl,hR _ _ ?_⟩
  clear hR R
  simp [go_sem]
  refine hK _ _ ?_;clear hK K
  refine zal ?_
  repeat (first|refine za4 ?_|refine za3 ?_)
  refine ⟨trivial,?_,rfl⟩
  simp [go_sem,zaw,zav]
def slA (l:List UInt8):List UInt8:=l.take (slk l)
def slB (l:List UInt8):List UInt8:=l.drop (slk l+1)
def slH (l:List UInt8):Bool:=decide (slk l<l.length)
theorem slk_size (s:ByteArray):slk (bs s)≤s.size:=by rw [←zaR];exact slk_le _
theorem bs_ext (s:ByteArray) (a b:Nat):bs (s.extract a b)=((bs s).drop a).take (b-a):=by
 unfold bs
 rw [ByteArray.data_extract,Array.toList_extract,List.extract_eq_take_drop]
def cutV (l:List UInt8):Value:=.tuple #[.string ⟨(slA l).toArray⟩,.string ⟨(slB l).toArray⟩,.bool (slH l)]
theorem ba_of_bs {s:ByteArray} {l:List UInt8} (h:bs s=l):s=⟨l.toArray⟩:=bs_inj (by rw [h,bs_mk])
theorem cutI_any (s:ByteArray) (w:World) (hs:s.size<9223372036854775807):Calls Try.prog 76 #[.string s,.string ⟨#[47]⟩] w fun e w'=>e = .returned (cutV (bs s))∧Below w.heap.size w w':=by
 have h0:=slk_size s
 have hi:=index_slk (bs s)
 rw [zaR] at hi
 refine za8 (args:=[.string s,.string ⟨#[47]⟩]) (rs:=[.tmp 4,.tmp 5,.tmp 6]) (n:=23) Try.func76 rfl rfl rfl (by kernel_rfl) ?_
 first|refine zzr fun K hK=>?_|refine zzt fun K hK=>?_
 simp [go_sem]
 refine hK _ _ ?_;clear hK K
 refine zad (fun K1 hK1=>?_)
 first|refine zzr fun K hK=>?_|refine zzt fun K hK=>?_
 simp [go_sem]
 refine za5 (by simp [go_sem]) rfl Try.call87 (fun R hR=>?_)
 simp [go_sem]
 refine (index_any s w).mono ?_
 rintro e w2 ⟨rfl,rfl⟩
 refine ⟨_,rfl,hR _ _ ?_⟩
 clear hR R
 by_cases h:slk (bs s)<s.size
 ·rw [if_pos h] at hi
  rw [hi]
  obtain ⟨k,hk⟩:∃ k,k=slk (bs s):=⟨_,rfl⟩
  rw [←hk] at h h0 ⊢
  have hw1:IntKind.i64.wrap ((k:Int)+1)=(k:Int)+1:=IntWalk.i64_in _ (by omega)
  simp [go_sem]
  refine hK _ _ ?_;clear hK K
  first|refine zzr fun K hK=>?_|refine zzt fun K hK=>?_
  simp [go_sem]
  refine hK _ _ ?_;clear hK K
  have c0:(0:Int)≤k:=by omega
  refine zao (t:=true) (by simp [go_sem]) rfl ?_
  first|refine W_rd [(0,0),(1,0),(2,0),(3,0),(4,0),(5,0),(6,0),(7,0),(8,0),(9,0),(10,0),(11,0)] (by kernel_rfl) (by kernel_rfl) (fun K hK=>?_)|refine zbC [(0,0),(1,0),(2,0),(3,0),(4,0),(5,0),(6,0),(7,0),(8,0),(9,0),(10,0),(11,0)] (by kernel_rfl) (by kernel_rfl) (fun K hK=>?_)
  simp [go_sem,sz47,hw1,c0]
  refine ⟨h0,⟨by omega,by omega⟩,?_⟩
  refine hK _ _ ?_;clear hK K
  refine zal ?_
  repeat (first|refine za4 ?_|refine za3 ?_)
  refine ⟨trivial,?_,Below.drew1 _⟩
  simp [go_sem,zaw,zav,cutV]
  refine ⟨ba_of_bs ?_,ba_of_bs ?_,?_⟩
  ·rw [bs_ext,slA,←hk];simp
  ·rw [bs_ext,slB,←hk]
   refine List.take_of_length_le ?_
   rw [List.length_drop,zaR];omega
  ·unfold slH;rw [←hk,zaR];exact decide_eq_true h
 ·rw [if_neg h] at hi
  rw [hi]
  simp [go_sem]
  refine hK _ _ ?_;clear hK K
  first|refine zzr fun K hK=>?_|refine zzt fun K hK=>?_
  simp [go_sem]
  refine hK _ _ ?_;clear hK K
  refine zao (t:=false) (by simp [go_sem]) rfl ?_
  refine zae ?_
  refine hK1 _ _ ?_
  first|refine zzr fun K hK=>?_|refine zzt fun K hK=>?_
  simp [go_sem]
  refine hK _ _ ?_;clear hK K
  refine zal ?_
  repeat (first|refine za4 ?_|refine za3 ?_)
  refine ⟨trivial,?_,Below.refl _ _⟩
  simp [go_sem,zaw,zav,cutV]
  refine ⟨ba_of_bs ?_,?_,?_⟩
  ·unfold slA;rw [List.take_of_length_le (by rw [zaR];omega)]
  ·unfold slB;exact List.drop_eq_nil_of_le (by rw [zaR];omega)
  ·unfold slH;rw [zaR];exact decide_eq_false h
theorem cut_any (s:ByteArray) (w:World) (hs:s.size<9223372036854775807):Calls Try.prog 63 #[.string s,.string ⟨#[47]⟩] w fun e w'=>e = .returned (cutV (bs s))∧Below w.heap.size w w':=by
 refine za8 (args:=[.string s,.string ⟨#[47]⟩]) (rs:=[.tmp 4,.tmp 5,.tmp 6]) (n:=13) Try.func63 rfl rfl rfl (by kernel_rfl) ?_
 first|refine zzr fun K hK=>?_|refine zzt fun K hK=>?_
 simp [go_sem]
 refine hK _ _ ?_;clear hK K
 first|refine zzr fun K hK=>?_|refine zzt fun K hK=>?_
 simp [go_sem]
 refine za5 (by simp [go_sem]) rfl Try.call76 (fun R hR=>?_)
 simp [go_sem]
 refine (cutI_any s w hs).mono ?_
 rintro e w2 ⟨rfl,hE⟩
 refine ⟨_,rfl,hR _ _ ?_⟩
 clear hR R
 simp [go_sem,cutV]
 refine hK _ _ ?_;clear hK K
 refine zal ?_
 repeat (first|refine za4 ?_|refine za3 ?_)
 refine ⟨trivial,?_,hE⟩
 simp [go_sem,zaw,zav,cutV]
def f_cut:List At→Option (List At)
 | [.s l,.s [47]]=>if l.length<9223372036854775807 then some [.s (slA l),.s (slB l),.b (slH l)] else none
 | _=>none
def ct_cut:Ct:={ args:=[[.s],[.s]],res:=[[.s],[.s],[.b]],F:=f_cut,L:=1000000000000,A:=0,B:=0 }
theorem ctF_cut:ct_cut.F=f_cut:=rfl
theorem ok_cut:ct_cut.ok Try.prog 63:=by
 intro s w vs als r hs hr hz hF
 obtain ⟨a1,a2,v,u,rfl,rfl,h1,h2⟩:=vs2 hr
 obtain ⟨l,rfl,rfl⟩:=repV_s.1 h1
 obtain ⟨m,rfl,rfl⟩:=repV_s.1 h2
 have hF':f_cut [.s l,.s m]=some r:=hF
 unfold f_cut at hF'
 split at hF'
 ·rename_i l' e1
  simp only [List.cons.injEq,At.s.injEq,and_true] at e1
  obtain ⟨rfl,rfl⟩:=e1
  split at hF'
  ·rename_i hl
   injection hF' with hF';subst hF'
   refine (cut_any ⟨l.toArray⟩ w (by rw [←zaR,bs_mk];exact hl)).mono ?_
   rintro e w' ⟨he,hE⟩
   rw [bs_mk] at he
   exact ret3 (r1:=[At.s _]) (r2:=[At.s _]) (r3:=[At.b _]) rfl he (repV_s.2 ⟨_,rfl,rfl⟩) (repV_s.2 ⟨_,rfl,rfl⟩) (repV_b.2 ⟨_,rfl,rfl⟩) (fun x hx=>by simp at hx;rcases hx with rfl|rfl|rfl<;>exact Nat.zero_le _) hE
  ·cases hF'
 ·cases hF'
end Go.Proofs.Ytefhenfofomjhaa
namespace Go.Proofs.Ytefhenfofomjhaa
open Go Go.RowKit Go.V Go.ChangeMaps
set_option maxRecDepth 20000
def f_iread:List At→Option (List At)
 | [.s l]=>some [za (izV l),.n (izE l)]
 | _=>none
theorem izV_len (l:List UInt8):(lim (izV l).natAbs).length≤1001:=by
 unfold izV
 split
 ·rename_i h
  have h0:rdE (izd l)=0:=by
   unfold izE at h
   split at h
   ·rename_i h1;exact absurd h h1
   ·rename_i h1;exact Decidable.of_not_not h1
  have:=rdL_lenI (izd l)
  unfold rdL at this
  rw [if_pos h0] at this
  rw [zd6];omega
 ·rw [show ((0:Int).natAbs)=0 from rfl,zaq];simp
theorem ok_read {P:Program} {f L:Nat} (h:∀ s w,Calls P f #[.string s] w (IReadPost w (bs s))):Ct.ok P f { args:=[[.s]],res:=[[.y],[.n]],F:=f_iread,L:=L,A:=0,B:=1001 }:=by
 intro s w vs als r hs hr hsz hF
 obtain ⟨v,rfl,h1⟩:=vs1 hr
 obtain ⟨l,rfl,rfl⟩:=repV_s.1 h1
 injection hF with hF;subst hF
 refine (h ⟨l.toArray⟩ w).mono ?_
 rintro e w' ⟨a,c,he,hr',hE⟩
 rw [bs_mk] at he hr'
 exact ret2 (r1:=[za (izV l)]) (r2:=[.n (izE l)]) rfl he (repV_y.2 ⟨_,_,a,c,rfl,rfl,hr'⟩) (repV_n.2 ⟨_,rfl,rfl⟩) (fun x hx=>by
  simp only [List.cons_append,List.nil_append,List.mem_cons,List.not_mem_nil,or_false] at hx
  rcases hx with rfl|rfl
  ·have:=izV_len l
   simp only [za,At.sz];omega
  ·simp [At.sz]) hE
def ct_iread:Ct:={ args:=[[.s]],res:=[[.y],[.n]],F:=f_iread,L:=1000000000000,A:=0,B:=1001 }
theorem ctF_iread:ct_iread.F=f_iread:=rfl
theorem ok_iread:ct_iread.ok Try.prog 64:=ok_read iRead_any
end Go.Proofs.Ytefhenfofomjhaa
