/- Rational numbers: Right. -/
import Derived.Test.YtefhenfofomjhaaGreatIc2
import Derived.Laws.StructEq
set_option linter.unusedSimpArgs false
set_option linter.unusedVariables false
set_option maxHeartbeats 1000000
set_option maxRecDepth 20000
namespace Go.Proofs.YtefhenfofomjhaaGreat
open Go Go.RowKit Go.V
theorem tame_program {P:Program} (w:World):zb1 P program w=some P:=rfl
theorem tame_ite {P:Program} {w:World} {α:Type} (c:Prop) [Decidable c] (x y:Sem α):zb1 P (if c then x else y) w=if c then zb1 P x w else zb1 P y w:=by split<;>rfl
theorem tame_equalIn_struct {P:Program} {w:World} (d:Nat) (t:TypeId) (xs ys:Array Value) (ht:P.underlying t=some (.struct (P.fieldsOf t))) (hp:P.stoodInHeld t=false) :
  zb1 P (Op.equalIn (d+1) t (.agg xs) (.agg ys)) w=zb1 P (Op.eqFields d xs ys (P.fieldsOf t).toList) w:=by
 simp only [Op.equalIn,zag,zaq ht,Option.bind_some,tame_program,hp,Bool.false_eq_true,if_false]
 rw [←Array.forIn_toList]
 generalize (P.fieldsOf t).toList=fs
 clear ht
 induction fs with
 | nil=>simp [Op.eqFields,zah,zag]
 | cons f fs ih =>
  simp only [List.forIn_cons,Op.eqFields,zag,tame_ite]
  by_cases hn : f.name ≠ "_"
  ·simp only [if_pos hn]
   cases zb1 P (part f.type xs f.offset) w with
   | none=>rfl
   | some a =>
    cases h2:zb1 P (part f.type ys f.offset) w with
    | none=>simp [h2]
    | some b =>
     cases h3:zb1 P (Op.equalIn d f.type a b) w with
     | none=>simp [h2,h3]
     | some r =>
      cases r
      ·simp [h2,h3,zah]
      ·simp only [h2,h3,Option.bind_some,zah,Bool.not_true,Bool.false_eq_true,if_false]
       exact ih
  ·simp only [if_neg hn,zah,Option.bind_some]
   exact ih
theorem tame_part {P:Program} {w:World} {t:TypeId} {xs:Array Value} {j:Nat} {v:Value} (ha:zb1 P (isAgg t) w=some false) (hv:xs[j]? = some v):zb1 P (part t xs j) w=some v:=by
 simp only [part,zag,ha,Option.bind_some,Bool.false_eq_true,if_false,hv,zah]
theorem tame_eq_int {P:Program} {w:World} (d:Nat) {t:TypeId} {k k':IntKind} (a b:Int) (h:P.underlying t=some (.int k')):zb1 P (Op.equalIn (d+1) t (.int k a) (.int k b)) w=some (decide (a=b)):=by
 simp [Op.equalIn,zag,zaq h,zah,beq_dec]
theorem eqF_cons {P : Program} {w : World} (d : Nat) (xs ys : Array Value) (f : Field) (fs : List Field) {a b : Value} {r : Bool} (hn : f.name ≠ "_") (h1 : zb1 P (part f.type xs f.offset) w = some a) (h2 : zb1 P (part f.type ys f.offset) w = some b) (h3 : zb1 P (Op.equalIn d f.type a b) w = some r) :
  zb1 P (Op.eqFields d xs ys (f::fs)) w=if r then zb1 P (Op.eqFields d xs ys fs) w else some false:=by
 simp only [Op.eqFields,tame_ite,if_pos hn,zag,h1,h2,h3,Option.bind_some,zah]
 cases r<;>rfl
theorem guard_agg {P:Program} {w:World} (op:BinOp) (t:TypeId) (x y:Operand) (xs ys:Array Value) (hm:P.eqGuardType P.depth t=false):zb1 P (eqGuard op t x y (.agg xs) (.agg ys)) w=some ():=by
 cases op<;>simp [eqGuard,zag,tame_program,hm,zah,tame_ite]
def isShp:Value→Bool
 | .agg ⟨[.int .i64 _,.int .u16 _]⟩=>true
 | _=>false
def eqShp:Value→Value→Value
 | .agg ⟨[.int .i64 a,.int .u16 b]⟩,.agg ⟨[.int .i64 a',.int .u16 b']⟩=>.bool (decide (a=a'∧b=b'))
 | _,_=>undef
@[go_sem] theorem isShp_mk (a b:Int):isShp (.agg #[.int .i64 a,.int .u16 b])=true:=rfl
@[go_sem] theorem eqShp_mk (a b a' b':Int):eqShp (.agg #[.int .i64 a,.int .u16 b]) (.agg #[.int .i64 a',.int .u16 b']) = .bool (decide (a=a'∧b=b')):=rfl
theorem shp_eq (w:World) (d:Nat) (a b a' b':Int) :
  zb1 Tryz.prog (Op.equalIn (d+1+1) 142 (.agg #[.int .i64 a,.int .u16 b]) (.agg #[.int .i64 a',.int .u16 b'])) w=some (decide (a=a'∧b=b')):=by
 have hu:Tryz.prog.underlying 142=some (.struct (Tryz.prog.fieldsOf 142)):=by kernel_rfl
 have hp:Tryz.prog.stoodInHeld 142=false:=by kernel_rfl
 have hf : (Tryz.prog.fieldsOf 142).toList = [⟨((Tryz.prog.fieldsOf 142).toList.getD 0 default).name, 3, 0, false, "", ((Tryz.prog.fieldsOf 142).toList.getD 0 default).pkgPath, 0⟩, ⟨((Tryz.prog.fieldsOf 142).toList.getD 1 default).name, 123, 1, false, "", ((Tryz.prog.fieldsOf 142).toList.getD 1 default).pkgPath, 8⟩] := by kernel_rfl
 have hn1 : ((Tryz.prog.fieldsOf 142).toList.getD 0 default).name ≠ "_" := of_decide_eq_false (by kernel_rfl)
 have hn2 : ((Tryz.prog.fieldsOf 142).toList.getD 1 default).name ≠ "_" := of_decide_eq_false (by kernel_rfl)
 rw [tame_equalIn_struct (d+1) 142 _ _ hu hp,hf]
 have u3:Tryz.prog.underlying 3=some (.int .i64):=by kernel_rfl
 have u9:Tryz.prog.underlying 123=some (.int .u16):=by kernel_rfl
 rw [eqF_cons (d+1) _ _ _ _ (by exact hn1) (tame_part (zcx u3 w) rfl) (tame_part (zcx u3 w) rfl) (tame_eq_int d a a' u3),
  eqF_cons (d+1) _ _ _ _ (by exact hn2) (tame_part (zcx u9 w) rfl) (tame_part (zcx u9 w) rfl) (tame_eq_int d b b' u9)]
 by_cases h1:a=a'<;>by_cases h2:b=b'<;>simp [h1,h2,Op.eqFields,zah]
theorem run_shp {w:World} {ev:Operand→Value} {ty:TypeId} {x y:Operand} {u:TypeId} {a b a' b':Int} (hx:ev x = .agg #[.int .i64 a,.int .u16 b]) (hy:ev y = .agg #[.int .i64 a',.int .u16 b']) :
  zcP Tryz.prog w ev ty (.binOp .eql 142 x y u)=some (.value (.bool (decide (a=a'∧b=b')))):=by
 have hm:Tryz.prog.eqGuardType Tryz.prog.depth 142=false:=by kernel_rfl
 simp only [zcP,execOp,hx,hy,Go.binOp,zag,guard_agg _ _ _ _ _ _ hm,Option.bind_some,Op.equal,Op.maxDepth]
 rw [shp_eq w 9998]
 rfl
theorem isShp_of {v:Value} (h:isShp v=true):∃ a b,v = .agg #[.int .i64 a,.int .u16 b]:=by
 unfold isShp at h
 split at h
 ·exact ⟨_,_,rfl⟩
 ·cases h
theorem any_shp {w:World} {ev:Operand→Value} {ty:TypeId} {x y:Operand} {u:TypeId} (hx:isShp (ev x)=true) (hy:isShp (ev y)=true) :
  anyV Tryz.prog w ev ty (.binOp .eql 142 x y u)=eqShp (ev x) (ev y)∧anyOk Tryz.prog w ev ty (.binOp .eql 142 x y u):=by
 obtain ⟨a,b,hx⟩:=isShp_of hx
 obtain ⟨a',b',hy⟩:=isShp_of hy
 have h:=run_shp (w:=w) (ty:=ty) (u:=u) hx hy
 refine ⟨?_,_,h⟩
 rw [hx,hy,eqShp_mk]
 simp [anyV,h]
@[go_sem] theorem any_shp_v {w:World} {ev:Operand→Value} {ty:TypeId} {x y:Operand} {u:TypeId} (hx:isShp (ev x)=true) (hy:isShp (ev y)=true) :
  anyV Tryz.prog w ev ty (.binOp .eql 142 x y u)=eqShp (ev x) (ev y):=(any_shp hx hy).1
@[go_sem] theorem any_shp_ok {w:World} {ev:Operand→Value} {ty:TypeId} {x y:Operand} {u:TypeId} (hx:isShp (ev x)=true) (hy:isShp (ev y)=true) :
  anyOk Tryz.prog w ev ty (.binOp .eql 142 x y u)=True:=eq_true (any_shp hx hy).2
@[go_sem] theorem binC_agg {P:Program} (o:BinOp) (t:TypeId) (xs ys:Array Value):binC P o t (.agg xs) (.agg ys)=none:=by cases o<;>rfl
def isOne (l:List Nat):Bool:=decide (l=[1])
theorem one_any (l:List Nat) (a:Option Addr) (c:Nat) (w:World) (hr:RD w a c l) (hl:l.length≤zbZ) :
  Calls Tryz.prog 96 #[.slice a l.length c] w fun e w'=>e = .returned (.bool (isOne l))∧Below w.heap.size w w':=by
 have hl':l.length≤1000000000000:=hl
 refine za5 (rs:=[.tmp 2]) (n:=17) Tryz.func96 rfl rfl rfl (by kernel_rfl) ?_
 first|refine zzr fun K hK=>?_|refine zzt fun K hK=>?_
 simp [go_sem]
 apply hK;clear hK K
 first|refine zzr fun K hK=>?_|refine zzt fun K hK=>?_
 simp [go_sem]
 refine zal #[.int .i64 l.length,.int .u16 0] (by simp [go_sem]) rfl ty_stZ142 [(0,.int .i64 l.length)] (by simp [go_sem]) rfl ?_
 simp [go_sem]
 refine zza rfl ty_zeroC142 (fun w3 b3 hE3 hle3 hB3=>?_)
 have hnb:=hr.below (b:=b3) hle3
 replace hr:=hr.keep hE3
 have hE:=hE3
 simp [go_sem]
 refine zzs (b:=b3) (off:=0) [.int .i64 l.length,.int .u16 0] rfl ty_size142 hB3 (fun w4 hS4 hB4=>?_) (by simp [go_sem,Value.cells])
 simp [zaw] at hB4
 replace hr:=hr.sto hS4 hnb
 replace hE:=hE.nextS hS4 hle3
 simp [go_sem]
 apply hK;clear hK K
 refine zab (fun K1 hK1=>?_)
 obtain ⟨n,hn⟩:∃ n,n=l.length:=⟨_,rfl⟩
 rw [←hn] at hB4 hl' ⊢
 by_cases h0:n=0
 ·have hl0:l=[]:=List.length_eq_zero_iff.1 (by omega)
  have hne:isOne l=false:=by rw [hl0];rfl
  rw [hne]
  subst h0
  have k0:=hB4.cell 0
  have k1:=hB4.cell 1
  simp at k0 k1
  first|refine zzr fun K hK=>?_|refine zzt fun K hK=>?_
  simp [go_sem]
  apply hK;clear hK K
  refine zaf (by simp [go_sem];rfl) rfl ?_
  refine za7 ?_
  apply hK1;clear hK1 K1
  first|refine zzr fun K hK=>?_|refine zzt fun K hK=>?_
  simp [go_sem,k0,k1,za0,za4,za1]
  refine zal #[.int .i64 1,.int .u16 1] (by simp [go_sem]) rfl ty_stZ142 [(0,.int .i64 1),(1,.int .u16 1)] (by simp [go_sem]) rfl ?_
  simp [go_sem,k0,k1,za0,za4,za1]
  apply hK;clear hK K
  refine zad ?_
  repeat first|refine za3 ?_|refine za2 ?_
  refine ⟨trivial,?_,hE⟩
  simp [go_sem,zar,zam,hne]
 ·have q1:0<n:=by omega
  have q1':(0:Int)<n:=by omega
  obtain ⟨c1,c2⟩:=hr.at (i:=0) (by omega)
  obtain ⟨x,hx⟩:∃ x,x=lat l 0:=⟨_,rfl⟩
  rw [←hx] at c1
  have hone:isOne l=decide ((n:Int)=1∧(x:Int)=1):=by
   unfold isOne
   rcases l with _|⟨y,t⟩
   ·simp at hn;omega
   ·have:y=x:=by rw [hx];rfl
    subst this
    rcases t with _|⟨z,t⟩
    ·simp at hn;subst hn
     by_cases hy:y=1
     ·subst hy;rfl
     ·have:¬(y:Int)=1:=by omega
      simp [hy,this]
    ·simp at hn
     have:¬(n:Int)=1:=by omega
     simp [this]
  clear hx
  have c1':w4.cell? (a.getD default)=some (.int .u16 x):=by
   have e0:(a.getD default).add 0=a.getD default:=by unfold Addr.add;split<;>simp_all
   rw [e0] at c1;exact c1
  first|refine zzr fun K hK=>?_|refine zzt fun K hK=>?_
  simp [go_sem,q1,q1']
  apply hK;clear hK K
  refine zaf (by simp [go_sem];rfl) rfl ?_
  first|refine zzr fun K hK=>?_|refine zzt fun K hK=>?_
  simp [go_sem,q1,q1',c1',c2]
  refine zzs (b:=b3) (off:=1) [.int .u16 x] rfl zbc hB4 (fun w6 hS6 hB6=>?_) (by simp [go_sem,Value.cells])
  simp [zaw] at hB6
  replace hE:=hE.nextS hS6 hle3
  have k0:=hB6.cell 0
  have k1:=hB6.cell 1
  simp at k0 k1
  simp [go_sem]
  apply hK;clear hK K
  apply hK1;clear hK1 K1
  first|refine zzr fun K hK=>?_|refine zzt fun K hK=>?_
  simp [go_sem,k0,k1,za0,za4,za1]
  refine zal #[.int .i64 1,.int .u16 1] (by simp [go_sem]) rfl ty_stZ142 [(0,.int .i64 1),(1,.int .u16 1)] (by simp [go_sem]) rfl ?_
  simp [go_sem,k0,k1,za0,za4,za1]
  apply hK;clear hK K
  refine zad ?_
  repeat first|refine za3 ?_|refine za2 ?_
  refine ⟨trivial,?_,hE⟩
  simp [go_sem,zar,zam,hone]
theorem unit_any (w:World):Calls Tryz.prog 89 #[] w (RetN w (lim 1)):=by
 refine za5 (rs:=[.tmp 0]) (n:=2) Tryz.func89 rfl rfl rfl (by kernel_rfl) ?_
 first|refine zzr fun K hK=>?_|refine zzt fun K hK=>?_
 simp [go_sem]
 apply hK;clear hK K
 first|refine zzr fun K hK=>?_|refine zzt fun K hK=>?_
 simp [go_sem]
 refine zak #[.int .u16 1] (by simp [go_sem]) rfl ty_slZ23 (by decide) [(0,.int .u16 1)] (by simp [go_sem]) (by kernel_rfl) (fun w1 b1 hE1 hle1 hB1=>?_)
 have hr:=rd_one (x:=1) hB1 (by decide)
 simp [go_sem]
 apply hK;clear hK K
 refine zad ?_
 repeat first|refine za3 ?_|refine za2 ?_
 refine ⟨trivial,?_⟩
 rw [lim_1' 1 (by decide) (by decide)]
 exact ⟨some ⟨b1,0,none⟩,1,by simp [go_sem,zar,zam],hr,hE1⟩
def ct_one:Ct:={ args:=[[.u]],res:=[[.b]],F:=f_ub isOne,L:=100000000000,A:=0,B:=0 }
theorem zbz:ct_one.F=f_ub isOne:=rfl
theorem ok_one:ct_one.ok Tryz.prog 96:=ok_ub (fun l a c w hr hl=>one_any l a c w hr (by unfold zbZ;omega))
def ct_unit:Ct:={ args:=[],res:=[[.u]],F:=fun _=>some [na 1],L:=100000000000000,A:=0,B:=1 }
theorem zaG:ct_unit.F=fun _=>some [na 1]:=rfl
theorem ok_unit:ct_unit.ok Tryz.prog 89:=by
 intro s w vs als r hs hr hsz hF
 obtain ⟨rfl,rfl⟩:=hr
 injection hF with hF;subst hF
 refine (unit_any w).mono ?_
 intro e w' hret
 obtain ⟨v,he,hv,hE⟩:=hret.rep
 exact ret1 rfl he hv (fun x hx=>by simp at hx;subst hx;have:=zbx 1 1 (by decide);simp only [na,At.sz,ct_unit];omega) hE
def qa (x:Rat):At:=.r (decide (x.num<0)) (lim x.num.natAbs) (lim x.den)
def qv (neg:Bool) (l m:List Nat):Rat:=mkRat (vz neg l) (val m)
theorem qv_qa (x:Rat):qv (decide (x.num<0)) (lim x.num.natAbs) (lim x.den)=x:=by
 unfold qv;rw [zby,zao,Rat.mkRat_self]
def GR1:Gam:=gamOf [(94,ct_nnorm),(95,ct_inorm),(97,ct_ngcd),(98,ct_ndiv),(96,ct_one),(89,ct_unit),(121,ct_rnorm),(124,ct_rinorm),(122,ct_rgcd),(123,ct_rdiv),(119,ct_rnof)]
theorem GR1_ok:GamOk Tryz.prog GR1:=gamOk_of ⟨ok_nnorm,ok_inorm,ok_ngcd,ok_ndiv,ok_one,ok_unit,ok_rnorm,ok_rinorm,ok_rgcd,ok_rdiv,ok_rnof,trivial⟩
theorem zdC:GR1 94=some ct_nnorm:=rfl
theorem zdD:GR1 95=some ct_inorm:=rfl
theorem zey:GR1 97=some ct_ngcd:=rfl
theorem zez:GR1 98=some ct_ndiv:=rfl
theorem GR1_one:GR1 96=some ct_one:=rfl
theorem zeA:GR1 89=some ct_unit:=rfl
theorem zdE:GR1 121=some ct_rnorm:=rfl
theorem zcS:GR1 124=some ct_rinorm:=rfl
theorem zeB:GR1 122=some ct_rgcd:=rfl
theorem zeC:GR1 123=some ct_rdiv:=rfl
theorem zeD:GR1 119=some ct_rnof:=rfl
def tr_reduced:Tr (List SA):=(.call 94 [(.u (.var 1 0))] 2 (.call 95 [(.ob 0)] 3 (.br (.eq (.len 2 0) (.lit 0)) (.call 89 [] 4 (.leaf [(.r (.lit false) .nil (.var 4 0))])) (.br (.eq (.len 3 1) (.lit 0)) (.call 89 [] 4 (.leaf [(.r (.lit false) .nil (.var 4 0))])) (.call 96 [(.u (.var 2 0))] 4 (.br (.var 4) (.leaf [(.r (.bit 3) (.var 3 1) (.var 2 0))]) (.call 97 [(.u (.var 3 1)),(.u (.var 2 0))] 5 (.call 96 [(.u (.var 5 0))] 6 (.br (.not (.var 6)) (.call 98 [(.u (.var 3 1)),(.u (.var 5 0))] 7 (.call 98 [(.u (.var 2 0)),(.u (.var 5 0))] 10 (.leaf [(.r (.bit 3) (.var 7 0) (.var 10 0))]))) (.leaf [(.r (.bit 3) (.var 3 1) (.var 2 0))]))))))))))
theorem ev_reduced:Ct.ok Tryz.prog 81 { args:=[[.y],[.u]],res:=[[.r]],F:=fun als=>tr_reduced.den GR1 (zdh als),L:=1000000000,A:=1,B:=1 } :=
 top_ok (by kernel_rfl) GR1_ok (plans:=planF) (lf:=60) (k:=20) (by kernel_rfl)
def tr_over:Tr (List SA):=(.call 121 [(.u (.var 1 0))] 2 (.br (.eq (.len 2 0) (.lit 0)) (.call 119 [(.w 1)] 3 (.leaf [(.r (.lit false) .nil (.var 3 0))])) (.call 122 [(.u (.var 0 1)),(.u (.var 1 0))] 3 (.call 123 [(.u (.var 0 1)),(.u (.var 3 0))] 4 (.call 123 [(.u (.var 1 0)),(.u (.var 3 0))] 7 (.call 124 [(.y (.bit 0) (.var 4 0))] 10 (.leaf [(.r (.bit 10) (.var 10 1) (.var 7 0))])))))))
theorem ev_over:Ct.ok Tryz.prog 100 { args:=[[.y],[.u]],res:=[[.r]],F:=fun als=>tr_over.den GR1 (zdh als),L:=1000000000,A:=1,B:=4 } :=
 top_ok (by kernel_rfl) GR1_ok (plans:=planF) (lf:=60) (k:=20) (by kernel_rfl)
theorem zaH (x:Nat):((lim x).length:Int)=0↔x=0:=by
 constructor
 ·intro h
  rcases Nat.eq_zero_or_pos x with h0|h0
  ·exact h0
  ·have:=lim_ne (B:=x) (by omega);omega
 ·rintro rfl;rw [zap];rfl
theorem zb0 (x:Nat):isOne (lim x)=decide (x=1):=by
 unfold isOne
 rw [←lim_1' 1 (by decide) (by decide)]
 by_cases h:x=1
 ·simp [h]
 ·have:¬lim x=lim 1:=fun e=>h (by rw [←zao x,e,zao])
  simp [h,this]
theorem qa_0:qa 0 = .r false [] (lim 1):=by
 have h1:(0:Rat).num=0:=rfl
 have h2:(0:Rat).den=1:=rfl
 unfold qa;rw [h1,h2];simp [zap]
theorem qa_red (z:Int) (d:Nat) (hd:d≠0):qa (mkRat z d) = .r (decide (z<0)) (lim (z.natAbs / Nat.gcd z.natAbs d)) (lim (d / Nat.gcd z.natAbs d)):=by
 have hg:0<Nat.gcd z.natAbs d:=Nat.gcd_pos_of_pos_right _ (by omega)
 have hn:(mkRat z d).num=z / (Nat.gcd z.natAbs d:Nat):=by rw [Rat.num_mkRat,if_neg hd,Nat.gcd_comm]
 have hdn:(mkRat z d).den=d / Nat.gcd z.natAbs d:=by rw [Rat.den_mkRat,if_neg hd,Nat.gcd_comm]
 unfold qa
 rw [hn,hdn]
 obtain ⟨k,hk⟩:=Nat.gcd_dvd_left z.natAbs d
 generalize hG:Nat.gcd z.natAbs d=g at *
 have hz:z=(g:Int)*(z / (g:Int)):=by
  have:(g:Int) ∣ z:=by rw [←hG];exact Int.natAbs_dvd_natAbs.1 (by simpa using Nat.gcd_dvd_left z.natAbs d)
  exact (Int.mul_ediv_cancel' this).symm
 have hgz:(0:Int)<g:=by omega
 have h1:(z / (g:Int)<0)↔z<0:=by
  constructor
  ·intro h
   rw [hz];exact Int.mul_neg_of_pos_of_neg hgz h
  ·intro h
   exact Int.ediv_neg_of_neg_of_pos h hgz
 have h2:(z / (g:Int)).natAbs=z.natAbs / g:=by
  have e:z.natAbs=g*(z / (g:Int)).natAbs:=by
   have:=congrArg Int.natAbs hz
   rw [Int.natAbs_mul] at this
   simpa using this
  rw [e,Nat.mul_div_cancel_left _ hg]
 rw [h2,decide_eq_decide.2 h1]
theorem reduced_den (a:Bool) (l m:List Nat):tr_reduced.den GR1 (zdh [.y a l,.u m])=some [qa (qv a l m)]:=by
 unfold qv
 by_cases hd:val m=0
 ·simp only [tr_reduced,Tr.den,zbK,SA.ev,BE.ev,IE.ev,SE.ev,LE.ev,zdh,zaZ,zcU,evN,evB,evS,zcp,zcI,zcD,At.len,At.bit,At.lst,op1,op2,op3,Nat.reduceLeDiff,Nat.reduceSub,Nat.reduceEqDiff,if_true,if_false,ite_true,ite_false,decide_true,decide_false,Bool.not_true,Bool.not_false,Nat.zero_le,Nat.sub_zero,List.getElem?_cons_zero,List.getElem?_cons_succ,List.getElem?_nil,zdC,zaM,zdD,zaL,zey,zeu,zez,zew,GR1_one,zbz,zeA,zaG,zdE,zaN,zcS,zaB,zeB,zev,zeC,zex,zeD,zaU,f_uu,f_yy,f_uuu,f_ub,f_div,na,za,zb0,decide_eq_true_eq,zaH,zao,eq_true hd]
  rw [hd,Rat.mkRat_zero,qa_0]
 by_cases hz:(vz a l).natAbs=0
 ·simp only [tr_reduced,Tr.den,zbK,SA.ev,BE.ev,IE.ev,SE.ev,LE.ev,zdh,zaZ,zcU,evN,evB,evS,zcp,zcI,zcD,At.len,At.bit,At.lst,op1,op2,op3,Nat.reduceLeDiff,Nat.reduceSub,Nat.reduceEqDiff,if_true,if_false,ite_true,ite_false,decide_true,decide_false,Bool.not_true,Bool.not_false,Nat.zero_le,Nat.sub_zero,List.getElem?_cons_zero,List.getElem?_cons_succ,List.getElem?_nil,zdC,zaM,zdD,zaL,zey,zeu,zez,zew,GR1_one,zbz,zeA,zaG,zdE,zaN,zcS,zaB,zeB,zev,zeC,zex,zeD,zaU,f_uu,f_yy,f_uuu,f_ub,f_div,na,za,zb0,decide_eq_true_eq,zaH,zao,hd,eq_true hz]
  rw [Int.natAbs_eq_zero.1 hz,Rat.zero_mkRat,qa_0]
 rw [qa_red _ _ hd]
 by_cases h1:val m=1
 ·simp only [tr_reduced,Tr.den,zbK,SA.ev,BE.ev,IE.ev,SE.ev,LE.ev,zdh,zaZ,zcU,evN,evB,evS,zcp,zcI,zcD,At.len,At.bit,At.lst,op1,op2,op3,Nat.reduceLeDiff,Nat.reduceSub,Nat.reduceEqDiff,if_true,if_false,ite_true,ite_false,decide_true,decide_false,Bool.not_true,Bool.not_false,Nat.zero_le,Nat.sub_zero,List.getElem?_cons_zero,List.getElem?_cons_succ,List.getElem?_nil,zdC,zaM,zdD,zaL,zey,zeu,zez,zew,GR1_one,zbz,zeA,zaG,zdE,zaN,zcS,zaB,zeB,zev,zeC,zex,zeD,zaU,f_uu,f_yy,f_uuu,f_ub,f_div,na,za,zb0,decide_eq_true_eq,zaH,zao,hd,hz,eq_true h1]
  rw [h1,Nat.gcd_one_right,Nat.div_one,Nat.div_one]
 have hg:¬(vz a l).natAbs.gcd (val m)=0:=Nat.ne_of_gt (Nat.gcd_pos_of_pos_right _ (by omega))
 by_cases h2:(vz a l).natAbs.gcd (val m)=1
 ·simp only [tr_reduced,Tr.den,zbK,SA.ev,BE.ev,IE.ev,SE.ev,LE.ev,zdh,zaZ,zcU,evN,evB,evS,zcp,zcI,zcD,At.len,At.bit,At.lst,op1,op2,op3,Nat.reduceLeDiff,Nat.reduceSub,Nat.reduceEqDiff,if_true,if_false,ite_true,ite_false,decide_true,decide_false,Bool.not_true,Bool.not_false,Nat.zero_le,Nat.sub_zero,List.getElem?_cons_zero,List.getElem?_cons_succ,List.getElem?_nil,zdC,zaM,zdD,zaL,zey,zeu,zez,zew,GR1_one,zbz,zeA,zaG,zdE,zaN,zcS,zaB,zeB,zev,zeC,zex,zeD,zaU,f_uu,f_yy,f_uuu,f_ub,f_div,na,za,zb0,decide_eq_true_eq,zaH,zao,hd,hz,h1,eq_true h2]
  rw [h2,Nat.div_one,Nat.div_one]
 ·simp only [tr_reduced,Tr.den,zbK,SA.ev,BE.ev,IE.ev,SE.ev,LE.ev,zdh,zaZ,zcU,evN,evB,evS,zcp,zcI,zcD,At.len,At.bit,At.lst,op1,op2,op3,Nat.reduceLeDiff,Nat.reduceSub,Nat.reduceEqDiff,if_true,if_false,ite_true,ite_false,decide_true,decide_false,Bool.not_true,Bool.not_false,Nat.zero_le,Nat.sub_zero,List.getElem?_cons_zero,List.getElem?_cons_succ,List.getElem?_nil,zdC,zaM,zdD,zaL,zey,zeu,zez,zew,GR1_one,zbz,zeA,zaG,zdE,zaN,zcS,zaB,zeB,zev,zeC,zex,zeD,zaU,f_uu,f_yy,f_uuu,f_ub,f_div,na,za,zb0,decide_eq_true_eq,zaH,zao,hd,hz,h1,h2,hg]
theorem over_den (a:Bool) (l m:List Nat):tr_over.den GR1 (zdh [.y a l,.u m])=some [qa (qv a l m)]:=by
 unfold qv
 by_cases hd:val m=0
 ·simp only [tr_over,Tr.den,zbK,SA.ev,BE.ev,IE.ev,SE.ev,LE.ev,zdh,zaZ,zcU,evN,evB,evS,zcp,zcI,zcD,At.len,At.bit,At.lst,op1,op2,op3,Nat.reduceLeDiff,Nat.reduceSub,Nat.reduceEqDiff,if_true,if_false,ite_true,ite_false,decide_true,decide_false,Bool.not_true,Bool.not_false,Nat.zero_le,Nat.sub_zero,List.getElem?_cons_zero,List.getElem?_cons_succ,List.getElem?_nil,zdC,zaM,zdD,zaL,zey,zeu,zez,zew,GR1_one,zbz,zeA,zaG,zdE,zaN,zcS,zaB,zeB,zev,zeC,zex,zeD,zaU,f_uu,f_yy,f_uuu,f_ub,f_div,f_nof,na,za,zb0,decide_eq_true_eq,zaH,zao,eq_true hd]
  rw [hd,Rat.mkRat_zero,qa_0]
  simp
 have hg:¬(val l).gcd (val m)=0:=Nat.ne_of_gt (Nat.gcd_pos_of_pos_right _ (by omega))
 have hz:(vz a l).natAbs=val l:=zcf a (val l)
 rw [qa_red _ _ hd,hz]
 simp only [tr_over,Tr.den,zbK,SA.ev,BE.ev,IE.ev,SE.ev,LE.ev,zdh,zaZ,zcU,evN,evB,evS,zcp,zcI,zcD,At.len,At.bit,At.lst,op1,op2,op3,Nat.reduceLeDiff,Nat.reduceSub,Nat.reduceEqDiff,if_true,if_false,ite_true,ite_false,decide_true,decide_false,Bool.not_true,Bool.not_false,Nat.zero_le,Nat.sub_zero,List.getElem?_cons_zero,List.getElem?_cons_succ,List.getElem?_nil,zdC,zaM,zdD,zaL,zey,zeu,zez,zew,GR1_one,zbz,zeA,zaG,zdE,zaN,zcS,zaB,zeB,zev,zeC,zex,zeD,zaU,f_uu,f_yy,f_uuu,f_ub,f_div,na,za,zb0,decide_eq_true_eq,zaH,zao,hd,hg]
 have hk:val l / (val l).gcd (val m)=0↔val l=0:=by
  have hd2:=Nat.gcd_dvd_left (val l) (val m)
  obtain ⟨k,hk⟩:=hd2
  generalize (val l).gcd (val m)=g at *
  rw [hk,Nat.mul_div_cancel_left _ (by omega)]
  constructor
  ·intro h;rw [h,Nat.mul_zero]
  ·intro h
   rcases Nat.mul_eq_zero.1 h with h|h
   ·exact absurd h hg
   ·exact h
 have e1:decide (vz a (lim (val l / (val l).gcd (val m)))<0)=decide (vz a l<0):=by
  unfold vz
  rw [zao]
  generalize val l / (val l).gcd (val m)=k at *
  generalize val l=x at *
  by_cases h:x=0
  ·rw [hk.2 h,h]
  ·have h':k≠0:=fun e=>h (hk.1 e)
   cases a
   ·rw [iv_n,iv_n]
   ·rw [iv_p _ h,iv_p _ h']
 have e2:∀ k,(vz a (lim k)).natAbs=k:=fun k=>by unfold vz;rw [zcf,zao]
 rw [e1,e2]
def f_yur:List At→Option (List At)
 | [.y a l,.u m]=>some [qa (qv a l m)]
 | _=>none
theorem f_yur_some {als r:List At} (h:f_yur als=some r):∃ a l m,als=[.y a l,.u m]∧r=[qa (qv a l m)]:=by
 unfold f_yur at h
 split at h
 ·injection h with h;exact ⟨_,_,_,rfl,h.symm⟩
 ·cases h
def ct_reduced:Ct:={ args:=[[.y],[.u]],res:=[[.r]],F:=f_yur,L:=1000000000,A:=1,B:=1 }
theorem zaA:ct_reduced.F=f_yur:=rfl
theorem ok_reduced:ct_reduced.ok Tryz.prog 81:=by
 refine ev_reduced.weaken fun als r h=>?_
 obtain ⟨a,l,m,rfl,rfl⟩:=f_yur_some h
 exact reduced_den a l m
def ct_over:Ct:={ args:=[[.y],[.u]],res:=[[.r]],F:=f_yur,L:=1000000000,A:=1,B:=4 }
theorem zbR:ct_over.F=f_yur:=rfl
theorem ok_over:ct_over.ok Tryz.prog 100:=by
 refine ev_over.weaken fun als r h=>?_
 obtain ⟨a,l,m,rfl,rfl⟩:=f_yur_some h
 exact over_den a l m
def GR2:Gam:=gamOf [(81,ct_reduced),(100,ct_over),(91,ct_nbits),(89,ct_unit),(96,ct_one),(77,ct_isign),(79,ct_imul),(93,ct_nmul),(94,ct_nnorm),(95,ct_inorm),(126,ct_risign),(104,ct_rimul),(101,ct_rineg),(127,ct_rmul),(119,ct_rnof),(121,ct_rnorm),(124,ct_rinorm)]
theorem GR2_ok:GamOk Tryz.prog GR2:=gamOk_of ⟨ok_reduced,ok_over,ok_nbits,ok_unit,ok_one,ok_isign,ok_imul,ok_nmul,ok_nnorm,ok_inorm,ok_risign,ok_rimul,ok_rineg,ok_rmul,ok_rnof,ok_rnorm,ok_rinorm,trivial⟩
theorem zaP:GR2 81=some ct_reduced:=rfl
theorem zbS:GR2 100=some ct_over:=rfl
theorem zbm:GR2 91=some ct_nbits:=rfl
theorem zbT:GR2 89=some ct_unit:=rfl
theorem zcE:GR2 96=some ct_one:=rfl
theorem zbn:GR2 77=some ct_isign:=rfl
theorem zbU:GR2 79=some ct_imul:=rfl
theorem zbV:GR2 93=some ct_nmul:=rfl
theorem zbo:GR2 94=some ct_nnorm:=rfl
theorem zbp:GR2 95=some ct_inorm:=rfl
theorem zaW:GR2 126=some ct_risign:=rfl
theorem zbq:GR2 104=some ct_rimul:=rfl
theorem zbr:GR2 101=some ct_rineg:=rfl
theorem zbW:GR2 127=some ct_rmul:=rfl
theorem zbX:GR2 119=some ct_rnof:=rfl
theorem zbs:GR2 121=some ct_rnorm:=rfl
theorem zaX:GR2 124=some ct_rinorm:=rfl
def tr_qmake:Tr (List SA):=(.call 77 [(.ob 1)] 2 (.br (.eq (.var 2) (.lit 0)) (.leaf [(.r (.lit false) .nil .nil),(.n (.lit 3))]) (.call 81 [(.y (.not (.beq (.bit 0) (.bit 1))) (.var 0 1)),(.u (.var 1 1))] 3 (.leaf [(.ob 3),(.n (.lit 0))]))))
theorem ev_qmake:Ct.ok Tryz.prog 78 { args:=[[.y],[.y]],res:=[[.r],[.n]],F:=fun als=>tr_qmake.den GR2 (zdh als),L:=100000000,A:=1,B:=4 } :=
 top_ok (by kernel_rfl) GR2_ok (plans:=planF) (lf:=60) (k:=20) (by kernel_rfl)
def tr_qsign:Tr (List SA):=(.call 91 [(.u (.var 0 2))] 1 (.br (.eq (.var 1) (.lit 0)) (.call 89 [] 2 (.call 77 [(.y (.lit false) .nil)] 3 (.leaf [(.n (.var 3))]))) (.call 77 [(.y (.bit 0) (.var 0 1))] 2 (.leaf [(.n (.var 2))]))))
theorem ev_qsign:Ct.ok Tryz.prog 56 { args:=[[.r]],res:=[[.n]],F:=fun als=>tr_qsign.den GR2 (zdh als),L:=100000000,A:=0,B:=0 } :=
 top_ok (by kernel_rfl) GR2_ok (plans:=planF) (lf:=60) (k:=20) (by kernel_rfl)
def tr_qneg:Tr (List SA):=(.call 91 [(.u (.var 0 2))] 1 (.br (.eq (.var 1) (.lit 0)) (.call 89 [] 2 (.call 81 [(.y (.lit true) .nil),(.u (.var 2 0))] 3 (.leaf [(.ob 3)]))) (.call 81 [(.y (.not (.bit 0)) (.var 0 1)),(.u (.var 0 2))] 2 (.leaf [(.ob 2)]))))
theorem ev_qneg:Ct.ok Tryz.prog 58 { args:=[[.r]],res:=[[.r]],F:=fun als=>tr_qneg.den GR2 (zdh als),L:=100000000,A:=1,B:=4 } :=
 top_ok (by kernel_rfl) GR2_ok (plans:=planF) (lf:=60) (k:=20) (by kernel_rfl)
def tr_qdiv:Tr (List SA):=(.call 91 [(.u (.var 0 2))] 2 (.br (.eq (.var 2) (.lit 0)) (.call 89 [] 3 (.call 91 [(.u (.var 1 2))] 4 (.br (.eq (.var 4) (.lit 0)) (.call 89 [] 5 (.call 79 [(.y (.lit false) .nil),(.y (.lit false) (.var 5 0))] 6 (.call 79 [(.y (.lit false) .nil),(.y (.lit false) (.var 3 0))] 7 (.call 77 [(.ob 7)] 8 (.br (.eq (.var 8) (.lit 0)) (.leaf [(.r (.lit false) .nil .nil),(.n (.lit 3))]) (.call 81 [(.y (.not (.beq (.bit 6) (.bit 7))) (.var 6 1)),(.u (.var 7 1))] 9 (.leaf [(.ob 9),(.n (.lit 0))]))))))) (.call 79 [(.y (.lit false) .nil),(.y (.lit false) (.var 1 2))] 5 (.call 79 [(.y (.bit 1) (.var 1 1)),(.y (.lit false) (.var 3 0))] 6 (.call 77 [(.ob 6)] 7 (.br (.eq (.var 7) (.lit 0)) (.leaf [(.r (.lit false) .nil .nil),(.n (.lit 3))]) (.call 81 [(.y (.not (.beq (.bit 5) (.bit 6))) (.var 5 1)),(.u (.var 6 1))] 8 (.leaf [(.ob 8),(.n (.lit 0))]))))))))) (.call 91 [(.u (.var 1 2))] 3 (.br (.eq (.var 3) (.lit 0)) (.call 89 [] 4 (.call 79 [(.y (.bit 0) (.var 0 1)),(.y (.lit false) (.var 4 0))] 5 (.call 79 [(.y (.lit false) .nil),(.y (.lit false) (.var 0 2))] 6 (.call 77 [(.ob 6)] 7 (.br (.eq (.var 7) (.lit 0)) (.leaf [(.r (.lit false) .nil .nil),(.n (.lit 3))]) (.call 81 [(.y (.not (.beq (.bit 5) (.bit 6))) (.var 5 1)),(.u (.var 6 1))] 8 (.leaf [(.ob 8),(.n (.lit 0))]))))))) (.call 79 [(.y (.bit 0) (.var 0 1)),(.y (.lit false) (.var 1 2))] 4 (.call 79 [(.y (.bit 1) (.var 1 1)),(.y (.lit false) (.var 0 2))] 5 (.call 77 [(.ob 5)] 6 (.br (.eq (.var 6) (.lit 0)) (.leaf [(.r (.lit false) .nil .nil),(.n (.lit 3))]) (.call 81 [(.y (.not (.beq (.bit 4) (.bit 5))) (.var 4 1)),(.u (.var 5 1))] 7 (.leaf [(.ob 7),(.n (.lit 0))]))))))))))
theorem ev_qdiv:Ct.ok Tryz.prog 57 { args:=[[.r],[.r]],res:=[[.r],[.n]],F:=fun als=>tr_qdiv.den GR2 (zdh als),L:=100000000,A:=2,B:=4 } :=
 top_ok (by kernel_rfl) GR2_ok (plans:=planF) (lf:=60) (k:=20) (by kernel_rfl)
def tr_rqneg:Tr (List SA):=(.call 101 [(.y (.bit 0) (.var 0 1))] 1 (.call 100 [(.ob 1),(.u (.var 0 2))] 2 (.leaf [(.ob 2)])))
theorem ev_rqneg:Ct.ok Tryz.prog 84 { args:=[[.r]],res:=[[.r]],F:=fun als=>tr_rqneg.den GR2 (zdh als),L:=100000000,A:=1,B:=4 } :=
 top_ok (by kernel_rfl) GR2_ok (plans:=planF) (lf:=60) (k:=20) (by kernel_rfl)
def tr_rqdiv:Tr (List SA):=(.call 100 [(.y (.bit 0) (.var 0 1)),(.u (.var 0 2))] 2 (.call 100 [(.y (.bit 1) (.var 1 1)),(.u (.var 1 2))] 3 (.call 104 [(.y (.bit 2) (.var 2 1)),(.y (.lit false) (.var 3 2))] 4 (.call 104 [(.y (.bit 3) (.var 3 1)),(.y (.lit false) (.var 2 2))] 5 (.call 126 [(.ob 5)] 6 (.br (.eq (.var 6) (.lit 0)) (.leaf [(.r (.lit false) .nil .nil),(.n (.lit 3))]) (.br (.bit 5) (.call 101 [(.ob 4)] 7 (.call 100 [(.ob 7),(.u (.var 5 1))] 8 (.leaf [(.ob 8),(.n (.lit 0))]))) (.call 100 [(.ob 4),(.u (.var 5 1))] 7 (.leaf [(.ob 7),(.n (.lit 0))])))))))))
theorem ev_rqdiv:Ct.ok Tryz.prog 85 { args:=[[.r],[.r]],res:=[[.r],[.n]],F:=fun als=>tr_rqdiv.den GR2 (zdh als),L:=100000000,A:=2,B:=20 } :=
 top_ok (by kernel_rfl) GR2_ok (plans:=planF) (lf:=60) (k:=20) (by kernel_rfl)
theorem zcL (x:Nat):((ze9 x:Int)=0)=(x=0):=by
 apply propext
 rw [←blen0 x];omega
theorem zcM (x:Nat):vz false (lim x)=x:=by unfold vz;rw [zao];rfl
theorem zbL:val []=0:=rfl
theorem zcB (a:Bool):vz a []=0:=by unfold vz iv;cases a<;>rfl
theorem vz_not (a:Bool) (l:List Nat):vz (!a) l = - vz a l:=by unfold vz;exact iv_not a (val l)
theorem zcq (z:Int) (d:Nat):qv (decide (z<0)) (lim z.natAbs) (lim d)=mkRat z d:=by unfold qv;rw [zby,zao]
theorem nz_cast {d:Nat} (h:d≠0):(d:Rat)≠0:=fun e=>h (by exact_mod_cast e)
theorem sg_0i (z:Int):(sg z=0)=(z=0):=by
 apply propext
 unfold sg;split<;>(try split)<;>simp_all
def f_qmake:List At→Option (List At)
 | [.y a l,.y b m]=>some (if vz b m=0 then [.r false [] [],.n 3] else [qa ((vz a l:Rat) / (vz b m:Rat)),.n 0])
 | _=>none
theorem make_eq (a b:Bool) (l m:List Nat):qv (!(a == b)) l m=(vz a l:Rat) / (vz b m:Rat):=by
 unfold qv vz iv
 rw [Rat.mkRat_eq_div]
 cases a<;>cases b<;>simp [Rat.intCast_neg,Rat.intCast_natCast]<;>grind
theorem qmake_den (a b:Bool) (l m:List Nat):tr_qmake.den GR2 (zdh [.y a l,.y b m])=f_qmake [.y a l,.y b m]:=by
 unfold f_qmake
 by_cases h:vz b m=0
 ·simp only [tr_qmake,Tr.den,zbK,SA.ev,BE.ev,IE.ev,SE.ev,LE.ev,zdh,zaZ,zcU,evN,evB,evS,zcp,zcI,zcD,At.len,At.bit,At.lst,op1,op2,op3,Nat.reduceLeDiff,Nat.reduceSub,Nat.reduceEqDiff,if_true,if_false,ite_true,ite_false,decide_true,decide_false,Bool.not_true,Bool.not_false,Nat.zero_le,Nat.sub_zero,List.getElem?_cons_zero,List.getElem?_cons_succ,List.getElem?_nil,zaP,zaA,zbS,zbR,zbm,zbj,zbT,zaG,zcE,zbz,zbn,zbi,zbU,zbO,zbV,zbP,zbo,zaM,zbp,zaL,zaW,zaV,zbq,zbk,zbr,zbl,zbW,zbQ,zbX,zaU,zbs,zaN,zaX,zaB,f_yur,f_un,f_uu,f_ub,f_yb,f_yn,f_yyn,f_yyy,f_uuu,f_yy,f_idiv,f_iof,f_nof,f_sqrt,f_uub,na,za,zcL,zb0,zby,zcM,zcB,zcq,zao,zbL,zaH,decide_eq_true_eq,sg_0i,eq_true h]
 ·simp only [tr_qmake,Tr.den,zbK,SA.ev,BE.ev,IE.ev,SE.ev,LE.ev,zdh,zaZ,zcU,evN,evB,evS,zcp,zcI,zcD,At.len,At.bit,At.lst,op1,op2,op3,Nat.reduceLeDiff,Nat.reduceSub,Nat.reduceEqDiff,if_true,if_false,ite_true,ite_false,decide_true,decide_false,Bool.not_true,Bool.not_false,Nat.zero_le,Nat.sub_zero,List.getElem?_cons_zero,List.getElem?_cons_succ,List.getElem?_nil,zaP,zaA,zbS,zbR,zbm,zbj,zbT,zaG,zcE,zbz,zbn,zbi,zbU,zbO,zbV,zbP,zbo,zaM,zbp,zaL,zaW,zaV,zbq,zbk,zbr,zbl,zbW,zbQ,zbX,zaU,zbs,zaN,zaX,zaB,f_yur,f_un,f_uu,f_ub,f_yb,f_yn,f_yyn,f_yyy,f_uuu,f_yy,f_idiv,f_iof,f_nof,f_sqrt,f_uub,na,za,zcL,zb0,zby,zcM,zcB,zcq,zao,zbL,zaH,decide_eq_true_eq,sg_0i,h,make_eq]
def f_qsign:List At→Option (List At)
 | [.r a l m]=>some [.n (sg (qv a l m).num)]
 | _=>none
theorem num_sg (z:Int) (d:Nat) (hd:d≠0):sg (mkRat z d).num=sg z:=by
 have h:=qa_red z d hd
 have hz:((mkRat z d).num=0)↔z=0:=by
  rw [Rat.num_eq_zero]
  rw [Rat.mkRat_eq_zero hd]
 have hn:decide ((mkRat z d).num<0)=decide (z<0):=by
  unfold qa at h
  injection h
 have hn':(mkRat z d).num<0↔z<0:=by simpa using hn
 unfold sg
 by_cases h0:z=0
 ·rw [if_pos (hz.2 h0),if_pos h0]
 ·rw [if_neg (fun e=>h0 (hz.1 e)),if_neg h0]
  by_cases h1:z<0
  ·rw [if_pos (hn'.2 h1),if_pos h1]
  ·rw [if_neg (fun e=>h1 (hn'.1 e)),if_neg h1]
theorem qsign_den (a:Bool) (l m:List Nat):tr_qsign.den GR2 (zdh [.r a l m])=f_qsign [.r a l m]:=by
 unfold f_qsign
 by_cases h:val m=0
 ·simp only [tr_qsign,Tr.den,zbK,SA.ev,BE.ev,IE.ev,SE.ev,LE.ev,zdh,zaZ,zcU,evN,evB,evS,zcp,zcI,zcD,At.len,At.bit,At.lst,op1,op2,op3,Nat.reduceLeDiff,Nat.reduceSub,Nat.reduceEqDiff,if_true,if_false,ite_true,ite_false,decide_true,decide_false,Bool.not_true,Bool.not_false,Nat.zero_le,Nat.sub_zero,List.getElem?_cons_zero,List.getElem?_cons_succ,List.getElem?_nil,zaP,zaA,zbS,zbR,zbm,zbj,zbT,zaG,zcE,zbz,zbn,zbi,zbU,zbO,zbV,zbP,zbo,zaM,zbp,zaL,zaW,zaV,zbq,zbk,zbr,zbl,zbW,zbQ,zbX,zaU,zbs,zaN,zaX,zaB,f_yur,f_un,f_uu,f_ub,f_yb,f_yn,f_yyn,f_yyy,f_uuu,f_yy,f_idiv,f_iof,f_nof,f_sqrt,f_uub,na,za,zcL,zb0,zby,zcM,zcB,zcq,zao,zbL,zaH,decide_eq_true_eq,eq_true h]
  unfold qv;rw [h,Rat.mkRat_zero];rfl
 ·simp only [tr_qsign,Tr.den,zbK,SA.ev,BE.ev,IE.ev,SE.ev,LE.ev,zdh,zaZ,zcU,evN,evB,evS,zcp,zcI,zcD,At.len,At.bit,At.lst,op1,op2,op3,Nat.reduceLeDiff,Nat.reduceSub,Nat.reduceEqDiff,if_true,if_false,ite_true,ite_false,decide_true,decide_false,Bool.not_true,Bool.not_false,Nat.zero_le,Nat.sub_zero,List.getElem?_cons_zero,List.getElem?_cons_succ,List.getElem?_nil,zaP,zaA,zbS,zbR,zbm,zbj,zbT,zaG,zcE,zbz,zbn,zbi,zbU,zbO,zbV,zbP,zbo,zaM,zbp,zaL,zaW,zaV,zbq,zbk,zbr,zbl,zbW,zbQ,zbX,zaU,zbs,zaN,zaX,zaB,f_yur,f_un,f_uu,f_ub,f_yb,f_yn,f_yyn,f_yyy,f_uuu,f_yy,f_idiv,f_iof,f_nof,f_sqrt,f_uub,na,za,zcL,zb0,zby,zcM,zcB,zcq,zao,zbL,zaH,decide_eq_true_eq,h]
  unfold qv;rw [num_sg _ _ h]
def qcmpv (x y:Rat):Int:=if x<y then -1 else if y<x then 1 else 0
def f_qcmp:List At→Option (List At)
 | [.r a l m,.r b k n]=>some [.n (qcmpv (qv a l m) (qv b k n))]
 | _=>none
def f_qneg:List At→Option (List At)
 | [.r a l m]=>some [qa (- qv a l m)]
 | _=>none
theorem qv_not (a:Bool) (l m:List Nat):qv (!a) l m = - qv a l m:=by unfold qv;rw [vz_not,Rat.neg_mkRat]
theorem qneg_den (a:Bool) (l m:List Nat):tr_qneg.den GR2 (zdh [.r a l m])=f_qneg [.r a l m]:=by
 unfold f_qneg
 by_cases h:val m=0
 ·simp only [tr_qneg,Tr.den,zbK,SA.ev,BE.ev,IE.ev,SE.ev,LE.ev,zdh,zaZ,zcU,evN,evB,evS,zcp,zcI,zcD,At.len,At.bit,At.lst,op1,op2,op3,Nat.reduceLeDiff,Nat.reduceSub,Nat.reduceEqDiff,if_true,if_false,ite_true,ite_false,decide_true,decide_false,Bool.not_true,Bool.not_false,Nat.zero_le,Nat.sub_zero,List.getElem?_cons_zero,List.getElem?_cons_succ,List.getElem?_nil,zaP,zaA,zbS,zbR,zbm,zbj,zbT,zaG,zcE,zbz,zbn,zbi,zbU,zbO,zbV,zbP,zbo,zaM,zbp,zaL,zaW,zaV,zbq,zbk,zbr,zbl,zbW,zbQ,zbX,zaU,zbs,zaN,zaX,zaB,f_yur,f_un,f_uu,f_ub,f_yb,f_yn,f_yyn,f_yyy,f_uuu,f_yy,f_idiv,f_iof,f_nof,f_sqrt,f_uub,na,za,zcL,zb0,zby,zcM,zcB,zcq,zao,zbL,zaH,decide_eq_true_eq,eq_true h]
  unfold qv;rw [h,zcB,Rat.mkRat_zero,Rat.zero_mkRat];rfl
 ·simp only [tr_qneg,Tr.den,zbK,SA.ev,BE.ev,IE.ev,SE.ev,LE.ev,zdh,zaZ,zcU,evN,evB,evS,zcp,zcI,zcD,At.len,At.bit,At.lst,op1,op2,op3,Nat.reduceLeDiff,Nat.reduceSub,Nat.reduceEqDiff,if_true,if_false,ite_true,ite_false,decide_true,decide_false,Bool.not_true,Bool.not_false,Nat.zero_le,Nat.sub_zero,List.getElem?_cons_zero,List.getElem?_cons_succ,List.getElem?_nil,zaP,zaA,zbS,zbR,zbm,zbj,zbT,zaG,zcE,zbz,zbn,zbi,zbU,zbO,zbV,zbP,zbo,zaM,zbp,zaL,zaW,zaV,zbq,zbk,zbr,zbl,zbW,zbQ,zbX,zaU,zbs,zaN,zaX,zaB,f_yur,f_un,f_uu,f_ub,f_yb,f_yn,f_yyn,f_yyy,f_uuu,f_yy,f_idiv,f_iof,f_nof,f_sqrt,f_uub,na,za,zcL,zb0,zby,zcM,zcB,zcq,zao,zbL,zaH,decide_eq_true_eq,h]
  rw [qv_not]
theorem rqneg_den (a:Bool) (l m:List Nat):tr_rqneg.den GR2 (zdh [.r a l m])=f_qneg [.r a l m]:=by
 unfold f_qneg
 simp only [tr_rqneg,Tr.den,zbK,SA.ev,BE.ev,IE.ev,SE.ev,LE.ev,zdh,zaZ,zcU,evN,evB,evS,zcp,zcI,zcD,At.len,At.bit,At.lst,op1,op2,op3,Nat.reduceLeDiff,Nat.reduceSub,Nat.reduceEqDiff,if_true,if_false,ite_true,ite_false,decide_true,decide_false,Bool.not_true,Bool.not_false,Nat.zero_le,Nat.sub_zero,List.getElem?_cons_zero,List.getElem?_cons_succ,List.getElem?_nil,zaP,zaA,zbS,zbR,zbm,zbj,zbT,zaG,zcE,zbz,zbn,zbi,zbU,zbO,zbV,zbP,zbo,zaM,zbp,zaL,zaW,zaV,zbq,zbk,zbr,zbl,zbW,zbQ,zbX,zaU,zbs,zaN,zaX,zaB,f_yur,f_un,f_uu,f_ub,f_yb,f_yn,f_yyn,f_yyy,f_uuu,f_yy,f_idiv,f_iof,f_nof,f_sqrt,f_uub,na,za,zcL,zb0,zby,zcM,zcB,zcq,zao,zbL,zaH,decide_eq_true_eq]
 rw [←qv_not];unfold qv;rw [zby]
def f_qdiv:List At→Option (List At)
 | [.r a l m,.r b k n]=>some (if qv b k n=0 then [.r false [] [],.n 3] else [qa (qv a l m / qv b k n),.n 0])
 | _=>none
theorem div_mk (x y:Rat):((x.num*y.den:Int):Rat) / ((y.num*x.den:Int):Rat)=x / y:=by
 have h1:=Rat.mkRat_self x
 have h2:=Rat.mkRat_self y
 rw [Rat.mkRat_eq_div] at h1 h2
 have hx:=nz_cast x.den_nz
 have hy:=nz_cast y.den_nz
 rw [Rat.intCast_mul,Rat.intCast_mul,Rat.intCast_natCast,Rat.intCast_natCast]
 generalize (x.num:Rat)=A at *
 generalize (y.num:Rat)=B at *
 generalize (x.den:Rat)=c at *
 generalize (y.den:Rat)=d at *
 rw [←h1,←h2]
 by_cases hB:B=0
 ·subst hB;grind
 ·grind
theorem num_mul0 (x y:Rat):(y.num*(x.den:Int)=0)=(y=0):=by
 apply propext
 rw [Int.mul_eq_zero,Rat.num_eq_zero]
 have:=x.den_nz
 constructor
 ·rintro (h|h)
  ·exact h
  ·exact absurd (by exact_mod_cast h) this
 ·exact .inl
theorem make_abs (z y:Int):mkRat (if y<0 then -z else z) y.natAbs=(z:Rat) / (y:Rat):=by
 rw [Rat.mkRat_eq_div]
 by_cases h:y<0
 ·rw [if_pos h]
  have:((y.natAbs:Nat):Rat) = -(y:Rat):=by
   rw [←Rat.intCast_natCast,←Rat.intCast_neg];congr 1;omega
  rw [this,Rat.intCast_neg];grind
 ·rw [if_neg h]
  have:((y.natAbs:Nat):Rat)=(y:Rat):=by
   rw [←Rat.intCast_natCast];congr 1;omega
  rw [this]
theorem vz_nota (z:Int):vz (!decide (z<0)) (lim z.natAbs) = -z:=by rw [vz_not,zby]
theorem rqdiv_den (a b:Bool) (l m k n:List Nat):tr_rqdiv.den GR2 (zdh [.r a l m,.r b k n])=f_qdiv [.r a l m,.r b k n]:=by
 simp only [f_qdiv]
 have hv1:mkRat (vz a l) (val m)=qv a l m:=rfl
 have hv2:mkRat (vz b k) (val n)=qv b k n:=rfl
 have e:=div_mk (qv a l m) (qv b k n)
 rw [←make_abs] at e
 by_cases hy:qv b k n=0
 ·simp only [tr_rqdiv,Tr.den,zbK,SA.ev,BE.ev,IE.ev,SE.ev,LE.ev,zdh,zaZ,zcU,evN,evB,evS,zcp,zcI,zcD,At.len,At.bit,At.lst,op1,op2,op3,Nat.reduceLeDiff,Nat.reduceSub,Nat.reduceEqDiff,if_true,if_false,ite_true,ite_false,decide_true,decide_false,Bool.not_true,Bool.not_false,Nat.zero_le,Nat.sub_zero,List.getElem?_cons_zero,List.getElem?_cons_succ,List.getElem?_nil,zaP,zaA,zbS,zbR,zbm,zbj,zbT,zaG,zcE,zbz,zbn,zbi,zbU,zbO,zbV,zbP,zbo,zaM,zbp,zaL,zaW,zaV,zbq,zbk,zbr,zbl,zbW,zbQ,zbX,zaU,zbs,zaN,zaX,zaB,f_yur,f_un,f_uu,f_ub,f_yb,f_yn,f_yyn,f_yyy,f_uuu,f_yy,f_idiv,f_iof,f_nof,f_sqrt,f_uub,na,za,zcL,zb0,zby,zcM,zcB,zcq,zao,zbL,zaH,decide_eq_true_eq,qa,sg_0i,num_mul0,eq_true hy]
 ·simp only [tr_rqdiv,Tr.den,zbK,SA.ev,BE.ev,IE.ev,SE.ev,LE.ev,zdh,zaZ,zcU,evN,evB,evS,zcp,zcI,zcD,At.len,At.bit,At.lst,op1,op2,op3,Nat.reduceLeDiff,Nat.reduceSub,Nat.reduceEqDiff,if_true,if_false,ite_true,ite_false,decide_true,decide_false,Bool.not_true,Bool.not_false,Nat.zero_le,Nat.sub_zero,List.getElem?_cons_zero,List.getElem?_cons_succ,List.getElem?_nil,zaP,zaA,zbS,zbR,zbm,zbj,zbT,zaG,zcE,zbz,zbn,zbi,zbU,zbO,zbV,zbP,zbo,zaM,zbp,zaL,zaW,zaV,zbq,zbk,zbr,zbl,zbW,zbQ,zbX,zaU,zbs,zaN,zaX,zaB,f_yur,f_un,f_uu,f_ub,f_yb,f_yn,f_yyn,f_yyy,f_uuu,f_yy,f_idiv,f_iof,f_nof,f_sqrt,f_uub,na,za,zcL,zb0,zby,zcM,zcB,zcq,zao,zbL,zaH,decide_eq_true_eq,qa,sg_0i,num_mul0,hy,vz_nota]
  by_cases hs:(qv b k n).num*((qv a l m).den:Int)<0
  ·rw [if_pos hs] at e
   simp only [hs,decide_true,e]
  ·rw [if_neg hs] at e
   simp only [hs,decide_false,e]
theorem make_can (z y:Int):qv (!(decide (z<0) == decide (y<0))) (lim z.natAbs) (lim y.natAbs)=(z:Rat) / (y:Rat):=by
 rw [make_eq,zby,zby]
theorem qdivv {A B:Int} {c d:Nat} (hc:c≠0) (hd:d≠0):((A*d:Int):Rat) / ((B*c:Int):Rat)=mkRat A c / mkRat B d:=by
 have hx:=nz_cast hc
 have hy:=nz_cast hd
 rw [Rat.mkRat_eq_div,Rat.mkRat_eq_div,Rat.intCast_mul,Rat.intCast_mul,Rat.intCast_natCast,Rat.intCast_natCast]
 generalize (A:Rat)=A at *
 generalize (B:Rat)=B at *
 generalize (c:Rat)=c at *
 generalize (d:Rat)=d at *
 by_cases hB:B=0
 ·subst hB;grind
 ·grind
theorem zdiv (x:Rat):(0:Rat) / x=0:=by rw [Rat.div_def,Rat.zero_mul]
theorem mk_0 {z:Int} {d:Nat} (hd:d≠0):(mkRat z d=0)=(z=0):=propext (Rat.mkRat_eq_zero hd)
theorem mul_nz {z:Int} {d:Nat} (hd:d≠0):(z*(d:Int)=0)=(z=0):=by
 apply propext
 rw [Int.mul_eq_zero]
 constructor
 ·rintro (h|h)
  ·exact h
  ·exact absurd (by exact_mod_cast h) hd
 ·exact .inl
theorem qdiv_den (a b:Bool) (l m k n:List Nat):tr_qdiv.den GR2 (zdh [.r a l m,.r b k n])=f_qdiv [.r a l m,.r b k n]:=by
 simp only [f_qdiv]
 have z1:((1:Nat):Int)=1:=rfl
 have o1:((1:Nat):Rat)=1:=rfl
 by_cases h1:val m=0<;>by_cases h2:val n=0
 ·have q2:qv b k n=0:=by unfold qv;rw [h2,Rat.mkRat_zero]
  simp only [tr_qdiv,Tr.den,zbK,SA.ev,BE.ev,IE.ev,SE.ev,LE.ev,zdh,zaZ,zcU,evN,evB,evS,zcp,zcI,zcD,At.len,At.bit,At.lst,op1,op2,op3,Nat.reduceLeDiff,Nat.reduceSub,Nat.reduceEqDiff,if_true,if_false,ite_true,ite_false,decide_true,decide_false,Bool.not_true,Bool.not_false,Nat.zero_le,Nat.sub_zero,List.getElem?_cons_zero,List.getElem?_cons_succ,List.getElem?_nil,zaP,zaA,zbS,zbR,zbm,zbj,zbT,zaG,zcE,zbz,zbn,zbi,zbU,zbO,zbV,zbP,zbo,zaM,zbp,zaL,zaW,zaV,zbq,zbk,zbr,zbl,zbW,zbQ,zbX,zaU,zbs,zaN,zaX,zaB,f_yur,f_un,f_uu,f_ub,f_yb,f_yn,f_yyn,f_yyy,f_uuu,f_yy,f_idiv,f_iof,f_nof,f_sqrt,f_uub,na,za,zcL,zb0,zby,zcM,zcB,zcq,zao,zbL,zaH,decide_eq_true_eq,eq_true h1,eq_true h2,sg_0i,make_can,Int.zero_mul,q2]
 ·have q1:qv a l m=0:=by unfold qv;rw [h1,Rat.mkRat_zero]
  have e:=mk_0 (z:=vz b k) h2
  have e2:(qv b k n=0)=(vz b k=0):=e
  by_cases h3:vz b k=0
  ·simp only [tr_qdiv,Tr.den,zbK,SA.ev,BE.ev,IE.ev,SE.ev,LE.ev,zdh,zaZ,zcU,evN,evB,evS,zcp,zcI,zcD,At.len,At.bit,At.lst,op1,op2,op3,Nat.reduceLeDiff,Nat.reduceSub,Nat.reduceEqDiff,if_true,if_false,ite_true,ite_false,decide_true,decide_false,Bool.not_true,Bool.not_false,Nat.zero_le,Nat.sub_zero,List.getElem?_cons_zero,List.getElem?_cons_succ,List.getElem?_nil,zaP,zaA,zbS,zbR,zbm,zbj,zbT,zaG,zcE,zbz,zbn,zbi,zbU,zbO,zbV,zbP,zbo,zaM,zbp,zaL,zaW,zaV,zbq,zbk,zbr,zbl,zbW,zbQ,zbX,zaU,zbs,zaN,zaX,zaB,f_yur,f_un,f_uu,f_ub,f_yb,f_yn,f_yyn,f_yyy,f_uuu,f_yy,f_idiv,f_iof,f_nof,f_sqrt,f_uub,na,za,zcL,zb0,zby,zcM,zcB,zcq,zao,zbL,zaH,decide_eq_true_eq,eq_true h1,h2,sg_0i,make_can,Int.zero_mul,Int.mul_one,z1,e2,eq_true h3]
  ·simp only [tr_qdiv,Tr.den,zbK,SA.ev,BE.ev,IE.ev,SE.ev,LE.ev,zdh,zaZ,zcU,evN,evB,evS,zcp,zcI,zcD,At.len,At.bit,At.lst,op1,op2,op3,Nat.reduceLeDiff,Nat.reduceSub,Nat.reduceEqDiff,if_true,if_false,ite_true,ite_false,decide_true,decide_false,Bool.not_true,Bool.not_false,Nat.zero_le,Nat.sub_zero,List.getElem?_cons_zero,List.getElem?_cons_succ,List.getElem?_nil,zaP,zaA,zbS,zbR,zbm,zbj,zbT,zaG,zcE,zbz,zbn,zbi,zbU,zbO,zbV,zbP,zbo,zaM,zbp,zaL,zaW,zaV,zbq,zbk,zbr,zbl,zbW,zbQ,zbX,zaU,zbs,zaN,zaX,zaB,f_yur,f_un,f_uu,f_ub,f_yb,f_yn,f_yyn,f_yyy,f_uuu,f_yy,f_idiv,f_iof,f_nof,f_sqrt,f_uub,na,za,zcL,zb0,zby,zcM,zcB,zcq,zao,zbL,zaH,decide_eq_true_eq,eq_true h1,h2,sg_0i,make_can,Int.zero_mul,Int.mul_one,z1,e2,h3]
   rw [q1,show ((0:Int):Rat)=0 from rfl,zdiv,zdiv]
 ·have q2:qv b k n=0:=by unfold qv;rw [h2,Rat.mkRat_zero]
  simp only [tr_qdiv,Tr.den,zbK,SA.ev,BE.ev,IE.ev,SE.ev,LE.ev,zdh,zaZ,zcU,evN,evB,evS,zcp,zcI,zcD,At.len,At.bit,At.lst,op1,op2,op3,Nat.reduceLeDiff,Nat.reduceSub,Nat.reduceEqDiff,if_true,if_false,ite_true,ite_false,decide_true,decide_false,Bool.not_true,Bool.not_false,Nat.zero_le,Nat.sub_zero,List.getElem?_cons_zero,List.getElem?_cons_succ,List.getElem?_nil,zaP,zaA,zbS,zbR,zbm,zbj,zbT,zaG,zcE,zbz,zbn,zbi,zbU,zbO,zbV,zbP,zbo,zaM,zbp,zaL,zaW,zaV,zbq,zbk,zbr,zbl,zbW,zbQ,zbX,zaU,zbs,zaN,zaX,zaB,f_yur,f_un,f_uu,f_ub,f_yb,f_yn,f_yyn,f_yyy,f_uuu,f_yy,f_idiv,f_iof,f_nof,f_sqrt,f_uub,na,za,zcL,zb0,zby,zcM,zcB,zcq,zao,zbL,zaH,decide_eq_true_eq,h1,eq_true h2,sg_0i,make_can,Int.zero_mul,q2]
 ·have e2:(qv b k n=0)=(vz b k=0):=mk_0 (z:=vz b k) h2
  have e3:(vz b k*vz false m=0)=(vz b k=0):=mul_nz (z:=vz b k) h1
  have hq:((vz a l*vz false n:Int):Rat) / ((vz b k*vz false m:Int):Rat)=qv a l m / qv b k n:=qdivv h1 h2
  by_cases h3:vz b k=0
  ·simp only [tr_qdiv,Tr.den,zbK,SA.ev,BE.ev,IE.ev,SE.ev,LE.ev,zdh,zaZ,zcU,evN,evB,evS,zcp,zcI,zcD,At.len,At.bit,At.lst,op1,op2,op3,Nat.reduceLeDiff,Nat.reduceSub,Nat.reduceEqDiff,if_true,if_false,ite_true,ite_false,decide_true,decide_false,Bool.not_true,Bool.not_false,Nat.zero_le,Nat.sub_zero,List.getElem?_cons_zero,List.getElem?_cons_succ,List.getElem?_nil,zaP,zaA,zbS,zbR,zbm,zbj,zbT,zaG,zcE,zbz,zbn,zbi,zbU,zbO,zbV,zbP,zbo,zaM,zbp,zaL,zaW,zaV,zbq,zbk,zbr,zbl,zbW,zbQ,zbX,zaU,zbs,zaN,zaX,zaB,f_yur,f_un,f_uu,f_ub,f_yb,f_yn,f_yyn,f_yyy,f_uuu,f_yy,f_idiv,f_iof,f_nof,f_sqrt,f_uub,na,za,zcL,zb0,zby,zcM,zcB,zcq,zao,zbL,zaH,decide_eq_true_eq,h1,h2,sg_0i,make_can,e2,e3,eq_true h3]
  ·simp only [tr_qdiv,Tr.den,zbK,SA.ev,BE.ev,IE.ev,SE.ev,LE.ev,zdh,zaZ,zcU,evN,evB,evS,zcp,zcI,zcD,At.len,At.bit,At.lst,op1,op2,op3,Nat.reduceLeDiff,Nat.reduceSub,Nat.reduceEqDiff,if_true,if_false,ite_true,ite_false,decide_true,decide_false,Bool.not_true,Bool.not_false,Nat.zero_le,Nat.sub_zero,List.getElem?_cons_zero,List.getElem?_cons_succ,List.getElem?_nil,zaP,zaA,zbS,zbR,zbm,zbj,zbT,zaG,zcE,zbz,zbn,zbi,zbU,zbO,zbV,zbP,zbo,zaM,zbp,zaL,zaW,zaV,zbq,zbk,zbr,zbl,zbW,zbQ,zbX,zaU,zbs,zaN,zaX,zaB,f_yur,f_un,f_uu,f_ub,f_yb,f_yn,f_yyn,f_yyy,f_uuu,f_yy,f_idiv,f_iof,f_nof,f_sqrt,f_uub,na,za,zcL,zb0,zby,zcM,zcB,zcq,zao,zbL,zaH,decide_eq_true_eq,h1,h2,sg_0i,make_can,e2,e3,h3]
   rw [hq]
def ct_qmake:Ct:={ args:=[[.y],[.y]],res:=[[.r],[.n]],F:=f_qmake,L:=100000000,A:=1,B:=4 }
theorem ctF_qmake:ct_qmake.F=f_qmake:=rfl
theorem ok_qmake:ct_qmake.ok Tryz.prog 78:=by
 refine ev_qmake.weaken fun als r h=>?_
 have h':=h
 unfold f_qmake at h
 split at h<;>first|exact (qmake_den _ _ _ _).trans h'|cases h
def ct_qsign:Ct:={ args:=[[.r]],res:=[[.n]],F:=f_qsign,L:=100000000,A:=0,B:=0 }
theorem ctF_qsign:ct_qsign.F=f_qsign:=rfl
theorem ok_qsign:ct_qsign.ok Tryz.prog 56:=by
 refine ev_qsign.weaken fun als r h=>?_
 have h':=h
 unfold f_qsign at h
 split at h<;>first|exact (qsign_den _ _ _).trans h'|cases h
def ct_qneg:Ct:={ args:=[[.r]],res:=[[.r]],F:=f_qneg,L:=100000000,A:=1,B:=4 }
theorem ctF_qneg:ct_qneg.F=f_qneg:=rfl
theorem ok_qneg:ct_qneg.ok Tryz.prog 58:=by
 refine ev_qneg.weaken fun als r h=>?_
 have h':=h
 unfold f_qneg at h
 split at h<;>first|exact (qneg_den _ _ _).trans h'|cases h
def ct_rqneg:Ct:={ args:=[[.r]],res:=[[.r]],F:=f_qneg,L:=100000000,A:=1,B:=4 }
theorem ctF_rqneg:ct_rqneg.F=f_qneg:=rfl
theorem ok_rqneg:ct_rqneg.ok Tryz.prog 84:=by
 refine ev_rqneg.weaken fun als r h=>?_
 have h':=h
 unfold f_qneg at h
 split at h<;>first|exact (rqneg_den _ _ _).trans h'|cases h
def ct_qdiv:Ct:={ args:=[[.r],[.r]],res:=[[.r],[.n]],F:=f_qdiv,L:=100000000,A:=2,B:=4 }
theorem ok_qdiv:ct_qdiv.ok Tryz.prog 57:=by
 refine ev_qdiv.weaken fun als r h=>?_
 have h':=h
 unfold f_qdiv at h
 split at h<;>first|exact (qdiv_den _ _ _ _ _ _).trans h'|cases h
def ct_rqdiv:Ct:={ args:=[[.r],[.r]],res:=[[.r],[.n]],F:=f_qdiv,L:=100000000,A:=2,B:=20 }
theorem ok_rqdiv:ct_rqdiv.ok Tryz.prog 85:=by
 refine ev_rqdiv.weaken fun als r h=>?_
 have h':=h
 unfold f_qdiv at h
 split at h<;>first|exact (rqdiv_den _ _ _ _ _ _).trans h'|cases h
theorem qbx {w:World} {b n c n' c':Nat} {t:TypeId} {a a':Option Addr} {neg:Bool} (h:Bx w b #[.bool neg,.slice a n c,.slice a' n' c'] t):w.cell? ⟨b,0,none⟩=some (.bool neg)∧w.cell? ⟨b,1,none⟩=some (.slice a n c)∧w.cell? ⟨b,2,none⟩=some (.slice a' n' c'):=⟨h.cell 0,h.cell 1,h.cell 2⟩
end Go.Proofs.YtefhenfofomjhaaGreat
