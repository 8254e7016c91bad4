/- Rational numbers: the texts. -/
import Derived.Test.YtefhenfofomjhaaGreatRa2
import Derived.Test.YtefhenfofomjhaaGreatIn9
import Derived.Test.YtefhenfofomjhaaGreatNu8
set_option linter.unusedSimpArgs false
set_option linter.unusedVariables false
namespace Go.Proofs.YtefhenfofomjhaaGreat
open Go Go.RowKit Go.V
set_option maxRecDepth 20000
theorem zcu (x:Nat):((zdJ x:Int)=0)=(x=0):=by
 apply propext
 rw [←blen0 x];omega
theorem zcv (x:Nat):vz false (lim x)=x:=by unfold vz;rw [zap];rfl
theorem zbE:val []=0:=rfl
theorem zcl (a:Bool):vz a []=0:=by unfold vz iv;cases a<;>rfl
theorem vz_not (a:Bool) (l:List Nat):vz (!a) l = - vz a l:=by unfold vz;exact iv_not a (val l)
theorem zcc (z:Int) (d:Nat):qv (decide (z<0)) (lim z.natAbs) (lim d)=mkRat z d:=by unfold qv;rw [zbw,zap]
theorem nz_cast {d:Nat} (h:d≠0):(d:Rat)≠0:=fun e=>h (by exact_mod_cast e)
theorem sg_0i (z:Int):(sg z=0)=(z=0):=by
 apply propext
 unfold sg;split<;>(try split)<;>simp_all
def f_qmake:List At→Option (List At)
 | [.y a l,.y b m]=>some (if vz b m=0 then [.r false [] [],.n 3] else [qa ((vz a l:Rat) / (vz b m:Rat)),.n 0])
 | _=>none
theorem make_eq (a b:Bool) (l m:List Nat):qv (!(a == b)) l m=(vz a l:Rat) / (vz b m:Rat):=by
 unfold qv vz iv
 rw [Rat.mkRat_eq_div]
 cases a<;>cases b<;>simp [Rat.intCast_neg,Rat.intCast_natCast]<;>grind
theorem qmake_den (a b:Bool) (l m:List Nat):tr_qmake.den GR2 (zcX [.y a l,.y b m])=f_qmake [.y a l,.y b m]:=by
 unfold f_qmake
 by_cases h:vz b m=0
 ·simp only [tr_qmake,Tr.den,zbD,SA.ev,BE.ev,IE.ev,SE.ev,LE.ev,zcX,zb0,zcD,evN,evB,evS,zcb,zcr,zcn,At.len,At.bit,At.lst,op1,op2,op3,Nat.reduceLeDiff,Nat.reduceSub,Nat.reduceEqDiff,if_true,if_false,ite_true,ite_false,decide_true,decide_false,Bool.not_true,Bool.not_false,Nat.zero_le,Nat.sub_zero,List.getElem?_cons_zero,List.getElem?_cons_succ,List.getElem?_nil,zaQ,zaA,zbM,zbL,zbm,zbj,zbN,zaH,zco,zbx,zbn,zbi,zbO,zbI,zbP,zbJ,zbo,zaM,zbp,zaL,zaX,zaW,zbq,zbk,zbr,zbl,zbQ,zbK,zbR,zaV,zbs,zaN,zaY,zaC,f_yur,f_un,f_uu,f_ub,f_yb,f_yn,f_yyn,f_yyy,f_uuu,f_yy,f_idiv,f_iof,f_nof,f_sqrt,f_uub,na,za,zcu,zb1,zbw,zcv,zcl,zcc,zap,zbE,zaI,decide_eq_true_eq,sg_0i,eq_true h]
 ·simp only [tr_qmake,Tr.den,zbD,SA.ev,BE.ev,IE.ev,SE.ev,LE.ev,zcX,zb0,zcD,evN,evB,evS,zcb,zcr,zcn,At.len,At.bit,At.lst,op1,op2,op3,Nat.reduceLeDiff,Nat.reduceSub,Nat.reduceEqDiff,if_true,if_false,ite_true,ite_false,decide_true,decide_false,Bool.not_true,Bool.not_false,Nat.zero_le,Nat.sub_zero,List.getElem?_cons_zero,List.getElem?_cons_succ,List.getElem?_nil,zaQ,zaA,zbM,zbL,zbm,zbj,zbN,zaH,zco,zbx,zbn,zbi,zbO,zbI,zbP,zbJ,zbo,zaM,zbp,zaL,zaX,zaW,zbq,zbk,zbr,zbl,zbQ,zbK,zbR,zaV,zbs,zaN,zaY,zaC,f_yur,f_un,f_uu,f_ub,f_yb,f_yn,f_yyn,f_yyy,f_uuu,f_yy,f_idiv,f_iof,f_nof,f_sqrt,f_uub,na,za,zcu,zb1,zbw,zcv,zcl,zcc,zap,zbE,zaI,decide_eq_true_eq,sg_0i,h,make_eq]
def f_qsign:List At→Option (List At)
 | [.r a l m]=>some [.n (sg (qv a l m).num)]
 | _=>none
theorem num_sg (z:Int) (d:Nat) (hd:d≠0):sg (mkRat z d).num=sg z:=by
 have h:=qa_red z d hd
 have hz:((mkRat z d).num=0)↔z=0:=by
  rw [Rat.num_eq_zero]
  rw [Rat.mkRat_eq_zero hd]
 have hn:decide ((mkRat z d).num<0)=decide (z<0):=by
  unfold qa at h
  injection h
 have hn':(mkRat z d).num<0↔z<0:=by simpa using hn
 unfold sg
 by_cases h0:z=0
 ·rw [if_pos (hz.2 h0),if_pos h0]
 ·rw [if_neg (fun e=>h0 (hz.1 e)),if_neg h0]
  by_cases h1:z<0
  ·rw [if_pos (hn'.2 h1),if_pos h1]
  ·rw [if_neg (fun e=>h1 (hn'.1 e)),if_neg h1]
theorem qsign_den (a:Bool) (l m:List Nat):tr_qsign.den GR2 (zcX [.r a l m])=f_qsign [.r a l m]:=by
 unfold f_qsign
 by_cases h:val m=0
 ·simp only [tr_qsign,Tr.den,zbD,SA.ev,BE.ev,IE.ev,SE.ev,LE.ev,zcX,zb0,zcD,evN,evB,evS,zcb,zcr,zcn,At.len,At.bit,At.lst,op1,op2,op3,Nat.reduceLeDiff,Nat.reduceSub,Nat.reduceEqDiff,if_true,if_false,ite_true,ite_false,decide_true,decide_false,Bool.not_true,Bool.not_false,Nat.zero_le,Nat.sub_zero,List.getElem?_cons_zero,List.getElem?_cons_succ,List.getElem?_nil,zaQ,zaA,zbM,zbL,zbm,zbj,zbN,zaH,zco,zbx,zbn,zbi,zbO,zbI,zbP,zbJ,zbo,zaM,zbp,zaL,zaX,zaW,zbq,zbk,zbr,zbl,zbQ,zbK,zbR,zaV,zbs,zaN,zaY,zaC,f_yur,f_un,f_uu,f_ub,f_yb,f_yn,f_yyn,f_yyy,f_uuu,f_yy,f_idiv,f_iof,f_nof,f_sqrt,f_uub,na,za,zcu,zb1,zbw,zcv,zcl,zcc,zap,zbE,zaI,decide_eq_true_eq,eq_true h]
  unfold qv;rw [h,Rat.mkRat_zero];rfl
 ·simp only [tr_qsign,Tr.den,zbD,SA.ev,BE.ev,IE.ev,SE.ev,LE.ev,zcX,zb0,zcD,evN,evB,evS,zcb,zcr,zcn,At.len,At.bit,At.lst,op1,op2,op3,Nat.reduceLeDiff,Nat.reduceSub,Nat.reduceEqDiff,if_true,if_false,ite_true,ite_false,decide_true,decide_false,Bool.not_true,Bool.not_false,Nat.zero_le,Nat.sub_zero,List.getElem?_cons_zero,List.getElem?_cons_succ,List.getElem?_nil,zaQ,zaA,zbM,zbL,zbm,zbj,zbN,zaH,zco,zbx,zbn,zbi,zbO,zbI,zbP,zbJ,zbo,zaM,zbp,zaL,zaX,zaW,zbq,zbk,zbr,zbl,zbQ,zbK,zbR,zaV,zbs,zaN,zaY,zaC,f_yur,f_un,f_uu,f_ub,f_yb,f_yn,f_yyn,f_yyy,f_uuu,f_yy,f_idiv,f_iof,f_nof,f_sqrt,f_uub,na,za,zcu,zb1,zbw,zcv,zcl,zcc,zap,zbE,zaI,decide_eq_true_eq,h]
  unfold qv;rw [num_sg _ _ h]
def qcmpv (x y:Rat):Int:=if x<y then -1 else if y<x then 1 else 0
def f_qcmp:List At→Option (List At)
 | [.r a l m,.r b k n]=>some [.n (qcmpv (qv a l m) (qv b k n))]
 | _=>none
def f_qneg:List At→Option (List At)
 | [.r a l m]=>some [qa (- qv a l m)]
 | _=>none
theorem qv_not (a:Bool) (l m:List Nat):qv (!a) l m = - qv a l m:=by unfold qv;rw [vz_not,Rat.neg_mkRat]
theorem qneg_den (a:Bool) (l m:List Nat):tr_qneg.den GR2 (zcX [.r a l m])=f_qneg [.r a l m]:=by
 unfold f_qneg
 by_cases h:val m=0
 ·simp only [tr_qneg,Tr.den,zbD,SA.ev,BE.ev,IE.ev,SE.ev,LE.ev,zcX,zb0,zcD,evN,evB,evS,zcb,zcr,zcn,At.len,At.bit,At.lst,op1,op2,op3,Nat.reduceLeDiff,Nat.reduceSub,Nat.reduceEqDiff,if_true,if_false,ite_true,ite_false,decide_true,decide_false,Bool.not_true,Bool.not_false,Nat.zero_le,Nat.sub_zero,List.getElem?_cons_zero,List.getElem?_cons_succ,List.getElem?_nil,zaQ,zaA,zbM,zbL,zbm,zbj,zbN,zaH,zco,zbx,zbn,zbi,zbO,zbI,zbP,zbJ,zbo,zaM,zbp,zaL,zaX,zaW,zbq,zbk,zbr,zbl,zbQ,zbK,zbR,zaV,zbs,zaN,zaY,zaC,f_yur,f_un,f_uu,f_ub,f_yb,f_yn,f_yyn,f_yyy,f_uuu,f_yy,f_idiv,f_iof,f_nof,f_sqrt,f_uub,na,za,zcu,zb1,zbw,zcv,zcl,zcc,zap,zbE,zaI,decide_eq_true_eq,eq_true h]
  unfold qv;rw [h,zcl,Rat.mkRat_zero,Rat.zero_mkRat];rfl
 ·simp only [tr_qneg,Tr.den,zbD,SA.ev,BE.ev,IE.ev,SE.ev,LE.ev,zcX,zb0,zcD,evN,evB,evS,zcb,zcr,zcn,At.len,At.bit,At.lst,op1,op2,op3,Nat.reduceLeDiff,Nat.reduceSub,Nat.reduceEqDiff,if_true,if_false,ite_true,ite_false,decide_true,decide_false,Bool.not_true,Bool.not_false,Nat.zero_le,Nat.sub_zero,List.getElem?_cons_zero,List.getElem?_cons_succ,List.getElem?_nil,zaQ,zaA,zbM,zbL,zbm,zbj,zbN,zaH,zco,zbx,zbn,zbi,zbO,zbI,zbP,zbJ,zbo,zaM,zbp,zaL,zaX,zaW,zbq,zbk,zbr,zbl,zbQ,zbK,zbR,zaV,zbs,zaN,zaY,zaC,f_yur,f_un,f_uu,f_ub,f_yb,f_yn,f_yyn,f_yyy,f_uuu,f_yy,f_idiv,f_iof,f_nof,f_sqrt,f_uub,na,za,zcu,zb1,zbw,zcv,zcl,zcc,zap,zbE,zaI,decide_eq_true_eq,h]
  rw [qv_not]
theorem rqneg_den (a:Bool) (l m:List Nat):tr_rqneg.den GR2 (zcX [.r a l m])=f_qneg [.r a l m]:=by
 unfold f_qneg
 simp only [tr_rqneg,Tr.den,zbD,SA.ev,BE.ev,IE.ev,SE.ev,LE.ev,zcX,zb0,zcD,evN,evB,evS,zcb,zcr,zcn,At.len,At.bit,At.lst,op1,op2,op3,Nat.reduceLeDiff,Nat.reduceSub,Nat.reduceEqDiff,if_true,if_false,ite_true,ite_false,decide_true,decide_false,Bool.not_true,Bool.not_false,Nat.zero_le,Nat.sub_zero,List.getElem?_cons_zero,List.getElem?_cons_succ,List.getElem?_nil,zaQ,zaA,zbM,zbL,zbm,zbj,zbN,zaH,zco,zbx,zbn,zbi,zbO,zbI,zbP,zbJ,zbo,zaM,zbp,zaL,zaX,zaW,zbq,zbk,zbr,zbl,zbQ,zbK,zbR,zaV,zbs,zaN,zaY,zaC,f_yur,f_un,f_uu,f_ub,f_yb,f_yn,f_yyn,f_yyy,f_uuu,f_yy,f_idiv,f_iof,f_nof,f_sqrt,f_uub,na,za,zcu,zb1,zbw,zcv,zcl,zcc,zap,zbE,zaI,decide_eq_true_eq]
 rw [←qv_not];unfold qv;rw [zbw]
def f_qdiv:List At→Option (List At)
 | [.r a l m,.r b k n]=>some (if qv b k n=0 then [.r false [] [],.n 3] else [qa (qv a l m / qv b k n),.n 0])
 | _=>none
theorem div_mk (x y:Rat):((x.num*y.den:Int):Rat) / ((y.num*x.den:Int):Rat)=x / y:=by
 have h1:=Rat.mkRat_self x
 have h2:=Rat.mkRat_self y
 rw [Rat.mkRat_eq_div] at h1 h2
 have hx:=nz_cast x.den_nz
 have hy:=nz_cast y.den_nz
 rw [Rat.intCast_mul,Rat.intCast_mul,Rat.intCast_natCast,Rat.intCast_natCast]
 generalize (x.num:Rat)=A at *
 generalize (y.num:Rat)=B at *
 generalize (x.den:Rat)=c at *
 generalize (y.den:Rat)=d at *
 rw [←h1,←h2]
 by_cases hB:B=0
 ·subst hB;grind
 ·grind
theorem num_mul0 (x y:Rat):(y.num*(x.den:Int)=0)=(y=0):=by
 apply propext
 rw [Int.mul_eq_zero,Rat.num_eq_zero]
 have:=x.den_nz
 constructor
 ·rintro (h|h)
  ·exact h
  ·exact absurd (by exact_mod_cast h) this
 ·exact .inl
theorem make_abs (z y:Int):mkRat (if y<0 then -z else z) y.natAbs=(z:Rat) / (y:Rat):=by
 rw [Rat.mkRat_eq_div]
 by_cases h:y<0
 ·rw [if_pos h]
  have:((y.natAbs:Nat):Rat) = -(y:Rat):=by
   rw [←Rat.intCast_natCast,←Rat.intCast_neg];congr 1;omega
  rw [this,Rat.intCast_neg];grind
 ·rw [if_neg h]
  have:((y.natAbs:Nat):Rat)=(y:Rat):=by
   rw [←Rat.intCast_natCast];congr 1;omega
  rw [this]
theorem vz_nota (z:Int):vz (!decide (z<0)) (lim z.natAbs) = -z:=by rw [vz_not,zbw]
theorem rqdiv_den (a b:Bool) (l m k n:List Nat):tr_rqdiv.den GR2 (zcX [.r a l m,.r b k n])=f_qdiv [.r a l m,.r b k n]:=by
 simp only [f_qdiv]
 have hv1:mkRat (vz a l) (val m)=qv a l m:=rfl
 have hv2:mkRat (vz b k) (val n)=qv b k n:=rfl
 have e:=div_mk (qv a l m) (qv b k n)
 rw [←make_abs] at e
 by_cases hy:qv b k n=0
 ·simp only [tr_rqdiv,Tr.den,zbD,SA.ev,BE.ev,IE.ev,SE.ev,LE.ev,zcX,zb0,zcD,evN,evB,evS,zcb,zcr,zcn,At.len,At.bit,At.lst,op1,op2,op3,Nat.reduceLeDiff,Nat.reduceSub,Nat.reduceEqDiff,if_true,if_false,ite_true,ite_false,decide_true,decide_false,Bool.not_true,Bool.not_false,Nat.zero_le,Nat.sub_zero,List.getElem?_cons_zero,List.getElem?_cons_succ,List.getElem?_nil,zaQ,zaA,zbM,zbL,zbm,zbj,zbN,zaH,zco,zbx,zbn,zbi,zbO,zbI,zbP,zbJ,zbo,zaM,zbp,zaL,zaX,zaW,zbq,zbk,zbr,zbl,zbQ,zbK,zbR,zaV,zbs,zaN,zaY,zaC,f_yur,f_un,f_uu,f_ub,f_yb,f_yn,f_yyn,f_yyy,f_uuu,f_yy,f_idiv,f_iof,f_nof,f_sqrt,f_uub,na,za,zcu,zb1,zbw,zcv,zcl,zcc,zap,zbE,zaI,decide_eq_true_eq,qa,sg_0i,num_mul0,eq_true hy]
 ·simp only [tr_rqdiv,Tr.den,zbD,SA.ev,BE.ev,IE.ev,SE.ev,LE.ev,zcX,zb0,zcD,evN,evB,evS,zcb,zcr,zcn,At.len,At.bit,At.lst,op1,op2,op3,Nat.reduceLeDiff,Nat.reduceSub,Nat.reduceEqDiff,if_true,if_false,ite_true,ite_false,decide_true,decide_false,Bool.not_true,Bool.not_false,Nat.zero_le,Nat.sub_zero,List.getElem?_cons_zero,List.getElem?_cons_succ,List.getElem?_nil,zaQ,zaA,zbM,zbL,zbm,zbj,zbN,zaH,zco,zbx,zbn,zbi,zbO,zbI,zbP,zbJ,zbo,zaM,zbp,zaL,zaX,zaW,zbq,zbk,zbr,zbl,zbQ,zbK,zbR,zaV,zbs,zaN,zaY,zaC,f_yur,f_un,f_uu,f_ub,f_yb,f_yn,f_yyn,f_yyy,f_uuu,f_yy,f_idiv,f_iof,f_nof,f_sqrt,f_uub,na,za,zcu,zb1,zbw,zcv,zcl,zcc,zap,zbE,zaI,decide_eq_true_eq,qa,sg_0i,num_mul0,hy,vz_nota]
  by_cases hs:(qv b k n).num*((qv a l m).den:Int)<0
  ·rw [if_pos hs] at e
   simp only [hs,decide_true,e]
  ·rw [if_neg hs] at e
   simp only [hs,decide_false,e]
theorem make_can (z y:Int):qv (!(decide (z<0) == decide (y<0))) (lim z.natAbs) (lim y.natAbs)=(z:Rat) / (y:Rat):=by
 rw [make_eq,zbw,zbw]
theorem qdivv {A B:Int} {c d:Nat} (hc:c≠0) (hd:d≠0):((A*d:Int):Rat) / ((B*c:Int):Rat)=mkRat A c / mkRat B d:=by
 have hx:=nz_cast hc
 have hy:=nz_cast hd
 rw [Rat.mkRat_eq_div,Rat.mkRat_eq_div,Rat.intCast_mul,Rat.intCast_mul,Rat.intCast_natCast,Rat.intCast_natCast]
 generalize (A:Rat)=A at *
 generalize (B:Rat)=B at *
 generalize (c:Rat)=c at *
 generalize (d:Rat)=d at *
 by_cases hB:B=0
 ·subst hB;grind
 ·grind
theorem zdiv (x:Rat):(0:Rat) / x=0:=by rw [Rat.div_def,Rat.zero_mul]
theorem mk_0 {z:Int} {d:Nat} (hd:d≠0):(mkRat z d=0)=(z=0):=propext (Rat.mkRat_eq_zero hd)
theorem mul_nz {z:Int} {d:Nat} (hd:d≠0):(z*(d:Int)=0)=(z=0):=by
 apply propext
 rw [Int.mul_eq_zero]
 constructor
 ·rintro (h|h)
  ·exact h
  ·exact absurd (by exact_mod_cast h) hd
 ·exact .inl
theorem qdiv_den (a b:Bool) (l m k n:List Nat):tr_qdiv.den GR2 (zcX [.r a l m,.r b k n])=f_qdiv [.r a l m,.r b k n]:=by
 simp only [f_qdiv]
 have z1:((1:Nat):Int)=1:=rfl
 have o1:((1:Nat):Rat)=1:=rfl
 by_cases h1:val m=0<;>by_cases h2:val n=0
 ·have q2:qv b k n=0:=by unfold qv;rw [h2,Rat.mkRat_zero]
  simp only [tr_qdiv,Tr.den,zbD,SA.ev,BE.ev,IE.ev,SE.ev,LE.ev,zcX,zb0,zcD,evN,evB,evS,zcb,zcr,zcn,At.len,At.bit,At.lst,op1,op2,op3,Nat.reduceLeDiff,Nat.reduceSub,Nat.reduceEqDiff,if_true,if_false,ite_true,ite_false,decide_true,decide_false,Bool.not_true,Bool.not_false,Nat.zero_le,Nat.sub_zero,List.getElem?_cons_zero,List.getElem?_cons_succ,List.getElem?_nil,zaQ,zaA,zbM,zbL,zbm,zbj,zbN,zaH,zco,zbx,zbn,zbi,zbO,zbI,zbP,zbJ,zbo,zaM,zbp,zaL,zaX,zaW,zbq,zbk,zbr,zbl,zbQ,zbK,zbR,zaV,zbs,zaN,zaY,zaC,f_yur,f_un,f_uu,f_ub,f_yb,f_yn,f_yyn,f_yyy,f_uuu,f_yy,f_idiv,f_iof,f_nof,f_sqrt,f_uub,na,za,zcu,zb1,zbw,zcv,zcl,zcc,zap,zbE,zaI,decide_eq_true_eq,eq_true h1,eq_true h2,sg_0i,make_can,Int.zero_mul,q2]
 ·have q1:qv a l m=0:=by unfold qv;rw [h1,Rat.mkRat_zero]
  have e:=mk_0 (z:=vz b k) h2
  have e2:(qv b k n=0)=(vz b k=0):=e
  by_cases h3:vz b k=0
  ·simp only [tr_qdiv,Tr.den,zbD,SA.ev,BE.ev,IE.ev,SE.ev,LE.ev,zcX,zb0,zcD,evN,evB,evS,zcb,zcr,zcn,At.len,At.bit,At.lst,op1,op2,op3,Nat.reduceLeDiff,Nat.reduceSub,Nat.reduceEqDiff,if_true,if_false,ite_true,ite_false,decide_true,decide_false,Bool.not_true,Bool.not_false,Nat.zero_le,Nat.sub_zero,List.getElem?_cons_zero,List.getElem?_cons_succ,List.getElem?_nil,zaQ,zaA,zbM,zbL,zbm,zbj,zbN,zaH,zco,zbx,zbn,zbi,zbO,zbI,zbP,zbJ,zbo,zaM,zbp,zaL,zaX,zaW,zbq,zbk,zbr,zbl,zbQ,zbK,zbR,zaV,zbs,zaN,zaY,zaC,f_yur,f_un,f_uu,f_ub,f_yb,f_yn,f_yyn,f_yyy,f_uuu,f_yy,f_idiv,f_iof,f_nof,f_sqrt,f_uub,na,za,zcu,zb1,zbw,zcv,zcl,zcc,zap,zbE,zaI,decide_eq_true_eq,eq_true h1,h2,sg_0i,make_can,Int.zero_mul,Int.mul_one,z1,e2,eq_true h3]
  ·simp only [tr_qdiv,Tr.den,zbD,SA.ev,BE.ev,IE.ev,SE.ev,LE.ev,zcX,zb0,zcD,evN,evB,evS,zcb,zcr,zcn,At.len,At.bit,At.lst,op1,op2,op3,Nat.reduceLeDiff,Nat.reduceSub,Nat.reduceEqDiff,if_true,if_false,ite_true,ite_false,decide_true,decide_false,Bool.not_true,Bool.not_false,Nat.zero_le,Nat.sub_zero,List.getElem?_cons_zero,List.getElem?_cons_succ,List.getElem?_nil,zaQ,zaA,zbM,zbL,zbm,zbj,zbN,zaH,zco,zbx,zbn,zbi,zbO,zbI,zbP,zbJ,zbo,zaM,zbp,zaL,zaX,zaW,zbq,zbk,zbr,zbl,zbQ,zbK,zbR,zaV,zbs,zaN,zaY,zaC,f_yur,f_un,f_uu,f_ub,f_yb,f_yn,f_yyn,f_yyy,f_uuu,f_yy,f_idiv,f_iof,f_nof,f_sqrt,f_uub,na,za,zcu,zb1,zbw,zcv,zcl,zcc,zap,zbE,zaI,decide_eq_true_eq,eq_true h1,h2,sg_0i,make_can,Int.zero_mul,Int.mul_one,z1,e2,h3]
   rw [q1,show ((0:Int):Rat)=0 from rfl,zdiv,zdiv]
 ·have q2:qv b k n=0:=by unfold qv;rw [h2,Rat.mkRat_zero]
  simp only [tr_qdiv,Tr.den,zbD,SA.ev,BE.ev,IE.ev,SE.ev,LE.ev,zcX,zb0,zcD,evN,evB,evS,zcb,zcr,zcn,At.len,At.bit,At.lst,op1,op2,op3,Nat.reduceLeDiff,Nat.reduceSub,Nat.reduceEqDiff,if_true,if_false,ite_true,ite_false,decide_true,decide_false,Bool.not_true,Bool.not_false,Nat.zero_le,Nat.sub_zero,List.getElem?_cons_zero,List.getElem?_cons_succ,List.getElem?_nil,zaQ,zaA,zbM,zbL,zbm,zbj,zbN,zaH,zco,zbx,zbn,zbi,zbO,zbI,zbP,zbJ,zbo,zaM,zbp,zaL,zaX,zaW,zbq,zbk,zbr,zbl,zbQ,zbK,zbR,zaV,zbs,zaN,zaY,zaC,f_yur,f_un,f_uu,f_ub,f_yb,f_yn,f_yyn,f_yyy,f_uuu,f_yy,f_idiv,f_iof,f_nof,f_sqrt,f_uub,na,za,zcu,zb1,zbw,zcv,zcl,zcc,zap,zbE,zaI,decide_eq_true_eq,h1,eq_true h2,sg_0i,make_can,Int.zero_mul,q2]
 ·have e2:(qv b k n=0)=(vz b k=0):=mk_0 (z:=vz b k) h2
  have e3:(vz b k*vz false m=0)=(vz b k=0):=mul_nz (z:=vz b k) h1
  have hq:((vz a l*vz false n:Int):Rat) / ((vz b k*vz false m:Int):Rat)=qv a l m / qv b k n:=qdivv h1 h2
  by_cases h3:vz b k=0
  ·simp only [tr_qdiv,Tr.den,zbD,SA.ev,BE.ev,IE.ev,SE.ev,LE.ev,zcX,zb0,zcD,evN,evB,evS,zcb,zcr,zcn,At.len,At.bit,At.lst,op1,op2,op3,Nat.reduceLeDiff,Nat.reduceSub,Nat.reduceEqDiff,if_true,if_false,ite_true,ite_false,decide_true,decide_false,Bool.not_true,Bool.not_false,Nat.zero_le,Nat.sub_zero,List.getElem?_cons_zero,List.getElem?_cons_succ,List.getElem?_nil,zaQ,zaA,zbM,zbL,zbm,zbj,zbN,zaH,zco,zbx,zbn,zbi,zbO,zbI,zbP,zbJ,zbo,zaM,zbp,zaL,zaX,zaW,zbq,zbk,zbr,zbl,zbQ,zbK,zbR,zaV,zbs,zaN,zaY,zaC,f_yur,f_un,f_uu,f_ub,f_yb,f_yn,f_yyn,f_yyy,f_uuu,f_yy,f_idiv,f_iof,f_nof,f_sqrt,f_uub,na,za,zcu,zb1,zbw,zcv,zcl,zcc,zap,zbE,zaI,decide_eq_true_eq,h1,h2,sg_0i,make_can,e2,e3,eq_true h3]
  ·simp only [tr_qdiv,Tr.den,zbD,SA.ev,BE.ev,IE.ev,SE.ev,LE.ev,zcX,zb0,zcD,evN,evB,evS,zcb,zcr,zcn,At.len,At.bit,At.lst,op1,op2,op3,Nat.reduceLeDiff,Nat.reduceSub,Nat.reduceEqDiff,if_true,if_false,ite_true,ite_false,decide_true,decide_false,Bool.not_true,Bool.not_false,Nat.zero_le,Nat.sub_zero,List.getElem?_cons_zero,List.getElem?_cons_succ,List.getElem?_nil,zaQ,zaA,zbM,zbL,zbm,zbj,zbN,zaH,zco,zbx,zbn,zbi,zbO,zbI,zbP,zbJ,zbo,zaM,zbp,zaL,zaX,zaW,zbq,zbk,zbr,zbl,zbQ,zbK,zbR,zaV,zbs,zaN,zaY,zaC,f_yur,f_un,f_uu,f_ub,f_yb,f_yn,f_yyn,f_yyy,f_uuu,f_yy,f_idiv,f_iof,f_nof,f_sqrt,f_uub,na,za,zcu,zb1,zbw,zcv,zcl,zcc,zap,zbE,zaI,decide_eq_true_eq,h1,h2,sg_0i,make_can,e2,e3,h3]
   rw [hq]
def ct_qmake:Ct:={ args:=[[.y],[.y]],res:=[[.r],[.n]],F:=f_qmake,L:=100000000,A:=1,B:=4 }
theorem ctF_qmake:ct_qmake.F=f_qmake:=rfl
theorem ok_qmake:ct_qmake.ok Tryz.prog 78:=by
 refine ev_qmake.weaken fun als r h=>?_
 have h':=h
 unfold f_qmake at h
 split at h<;>first|exact (qmake_den _ _ _ _).trans h'|cases h
def ct_qsign:Ct:={ args:=[[.r]],res:=[[.n]],F:=f_qsign,L:=100000000,A:=0,B:=0 }
theorem ctF_qsign:ct_qsign.F=f_qsign:=rfl
theorem ok_qsign:ct_qsign.ok Tryz.prog 56:=by
 refine ev_qsign.weaken fun als r h=>?_
 have h':=h
 unfold f_qsign at h
 split at h<;>first|exact (qsign_den _ _ _).trans h'|cases h
def ct_qneg:Ct:={ args:=[[.r]],res:=[[.r]],F:=f_qneg,L:=100000000,A:=1,B:=4 }
theorem ctF_qneg:ct_qneg.F=f_qneg:=rfl
theorem ok_qneg:ct_qneg.ok Tryz.prog 58:=by
 refine ev_qneg.weaken fun als r h=>?_
 have h':=h
 unfold f_qneg at h
 split at h<;>first|exact (qneg_den _ _ _).trans h'|cases h
def ct_rqneg:Ct:={ args:=[[.r]],res:=[[.r]],F:=f_qneg,L:=100000000,A:=1,B:=4 }
theorem ctF_rqneg:ct_rqneg.F=f_qneg:=rfl
theorem ok_rqneg:ct_rqneg.ok Tryz.prog 84:=by
 refine ev_rqneg.weaken fun als r h=>?_
 have h':=h
 unfold f_qneg at h
 split at h<;>first|exact (rqneg_den _ _ _).trans h'|cases h
def ct_qdiv:Ct:={ args:=[[.r],[.r]],res:=[[.r],[.n]],F:=f_qdiv,L:=100000000,A:=2,B:=4 }
theorem ok_qdiv:ct_qdiv.ok Tryz.prog 57:=by
 refine ev_qdiv.weaken fun als r h=>?_
 have h':=h
 unfold f_qdiv at h
 split at h<;>first|exact (qdiv_den _ _ _ _ _ _).trans h'|cases h
def ct_rqdiv:Ct:={ args:=[[.r],[.r]],res:=[[.r],[.n]],F:=f_qdiv,L:=100000000,A:=2,B:=20 }
theorem ok_rqdiv:ct_rqdiv.ok Tryz.prog 85:=by
 refine ev_rqdiv.weaken fun als r h=>?_
 have h':=h
 unfold f_qdiv at h
 split at h<;>first|exact (rqdiv_den _ _ _ _ _ _).trans h'|cases h
theorem qbx {w:World} {b n c n' c':Nat} {t:TypeId} {a a':Option Addr} {neg:Bool} (h:Bx w b #[.bool neg,.slice a n c,.slice a' n' c'] t):w.cell? ⟨b,0,none⟩=some (.bool neg)∧w.cell? ⟨b,1,none⟩=some (.slice a n c)∧w.cell? ⟨b,2,none⟩=some (.slice a' n' c'):=⟨h.cell 0,h.cell 1,h.cell 2⟩
end Go.Proofs.YtefhenfofomjhaaGreat
namespace Go.Proofs.YtefhenfofomjhaaGreat
open Go.RowKit Go.V
set_option maxRecDepth 20000
theorem bs_extI (s:ByteArray):bs (s.extract 1 s.size)=(bs s).drop 1:=by
 unfold bs
 rw [ByteArray.data_extract,Array.toList_extract]
 have:s.size=s.data.toList.length:=by rw [Array.length_toList];rfl
 rw [List.extract_eq_take_drop,this,List.take_of_length_le (by simp)]
theorem rdL_lenI (l:List UInt8):(rdL l).length≤1000:=by
 unfold rdL
 split
 ·rename_i h
  unfold rdE at h
  split at h
  ·cases h
  ·split at h
   ·cases h
   ·rename_i h1
    split at h
    ·cases h
    ·rename_i hb
     have hd:∀ k,k<l.length→isD (ch l k)=true:=by
      intro k hk
      cases hc:isD (ch l k) with
      | true=>rfl
      | false=>exact absurd (bad_at hk hc) hb
     have:=dv_len l l.length (Nat.le_refl _) hd
     rw [List.take_length] at this
     omega
 ·simp
def izn (l:List UInt8):Bool:=decide (0<l.length∧((ch l 0).toNat:Int)=45)
def izd (l:List UInt8):List UInt8:=if izn l=true then l.drop 1 else l
def izE (l:List UInt8):Int:=if ¬rdE (izd l)=0 then rdE (izd l) else if izn l=true∧(rdL (izd l)).length=0 then 9 else 0
def izV (l:List UInt8):Int:=if izE l=0 then iv (izn l) (dv (izd l)) else 0
def IReadPost (w:World) (l:List UInt8) (e:Ending) (w':World):Prop:=∃ a c,e = .returned (.tuple #[iR (izV l) a c,.int .i64 (izE l)])∧RD w' a c (lim (izV l).natAbs)∧Below w.heap.size w w'
theorem iR0:iR 0 none 0 = .agg #[.bool false,.slice none 0 0]:=by unfold iR;rw [show ((0:Int).natAbs)=0 from rfl,zao];rfl
theorem ireadErr {w w':World} {l:List UInt8} {e:Ending} (h0:izE l≠0) (he:e = .returned (.tuple #[.agg #[.bool false,.slice none 0 0],.int .i64 (izE l)])) (hE:Below w.heap.size w w'):IReadPost w l e w':=by
 have hv:izV l=0:=by unfold izV;rw [if_neg h0]
 refine ⟨none,0,?_,?_,hE⟩
 ·rw [hv,iR0,he]
 ·rw [hv,show ((0:Int).natAbs)=0 from rfl,zao];exact RD.nil _ _ _
set_option maxHeartbeats 1000000 in
theorem iRead_any (s:ByteArray) (w:World):Calls Tryz.prog 88 #[.string s] w (IReadPost w (bs s)):=by
 have hsz:=zb9 s
 have hbe:bs ⟨#[]⟩=[]:=rfl
 obtain ⟨l,hl⟩:∃ l,l=bs s:=⟨_,rfl⟩
 have hex:=bs_extI s
 rw [←hl] at hsz hex ⊢
 have hba:za9 s 0=ch l 0:=by rw [hl];rfl
 obtain ⟨n,hn⟩:∃ n,n=izn l:=⟨_,rfl⟩
 refine za7 (args:=[.string s]) (rs:=[.cell 2 25,.tmp 3]) (n:=38) Tryz.func88 rfl rfl rfl (by kernel_rfl) ?_
 first|refine zzr fun K hK=>?_|refine zzt fun K hK=>?_
 simp [go_sem]
 refine zam (by simp [go_sem]) rfl zbA (fun w2 b2 hE2 hle2 hB2=>?_)
 have hE:=hE2
 simp [go_sem]
 refine hK _ _ ?_;clear hK K
 refine zei (fun g w'=>w'=w2∧g 0 = .string s∧g 2 = .pointer (some ⟨b2,0,none⟩)∧g 4 = .bool n) (by kernel_rfl) ?_ ?_
 ·by_cases h0:l=[]
  ·have hn0:n=false:=by rw [hn,h0];rfl
   simp [go_sem,←hl,hbe,h0,hn0]
  ·have hl0:0<s.size:=by rw [←hsz];exact List.length_pos_iff.2 h0
   have hl1:0<l.length:=List.length_pos_iff.2 h0
   by_cases h1:((ch l 0).toNat:Int)=45
   ·have hn1:n=true:=by rw [hn];unfold izn;exact decide_eq_true ⟨hl1,h1⟩
    simp [go_sem,←hl,hbe,h0,hba,h1,hl0,hn1]
   ·have hn1:n=false:=by rw [hn];unfold izn;exact decide_eq_false (fun h=>h1 h.2)
    simp [go_sem,←hl,hbe,h0,hba,h1,hl0,hn1]
 ·rintro g w2 ⟨rfl,g0,g2,g4⟩
  first|refine zzr fun K hK=>?_|refine zzt fun K hK=>?_
  simp [go_sem,g0]
  refine hK _ _ ?_;clear hK K
  refine zac (fun K1 hK1=>?_)
  have main:∀ (g':G) (d:ByteArray),g' 2 = .pointer (some ⟨b2,0,none⟩)→g' 4 = .bool n→g' 5 = .string d→bs d=izd l→K1 g' w2:=by
   intro g' d g2 g4 g5 hd
   refine hK1 _ _ ?_;clear hK1 K1
   have hrd:=read_any d w2
   unfold zdr at hrd
   rw [hd] at hrd
   have hEl:izE l=if ¬rdE (izd l)=0 then rdE (izd l) else if n=true∧(rdL (izd l)).length=0 then 9 else 0:=by rw [hn];rfl
   have hVl:izE l=0→izV l=iv n (dv (izd l)):=fun h=>by unfold izV;rw [if_pos h,hn]
   have hLl:rdE (izd l)=0→rdL (izd l)=lim (dv (izd l)):=fun h=>by unfold rdL;rw [if_pos h]
   generalize izd l=D at *
   generalize hEE:rdE D=E at *
   generalize hLL:rdL D=L at *
   first|refine zzr fun K hK=>?_|refine zzt fun K hK=>?_
   simp [go_sem,g5]
   refine za5 (by simp [go_sem,g5]) rfl Tryz.call90 (fun R hR=>?_)
   simp [go_sem,g5]
   refine hrd.mono ?_
   rintro e w4 ⟨a4,c4,rfl,hr4,hE4⟩
   refine ⟨_,rfl,hR _ _ ?_⟩
   clear hR R
   replace hB2:=hB2.keep hE4
   replace hE:=hE.next hE4
   obtain ⟨k0,k1⟩:=ibx hB2
   simp [go_sem,g5]
   refine hK _ _ ?_;clear hK K
   refine zac (fun K2 hK2=>?_)
   by_cases he:E=0
   ·have hL:=hLl he
    subst hL
    rw [if_neg (by rw [he];simp)] at hEl
    first|refine zzr fun K hK=>?_|refine zzt fun K hK=>?_
    simp [go_sem,g5,he]
    refine hK _ _ ?_;clear hK K
    refine zai (by simp [go_sem];rfl) rfl ?_
    refine zaa ?_
    refine hK2 _ _ ?_;clear hK2 K2
    refine zac (fun K3 hK3=>?_)
    refine zei (fun g w'=>w'=w4∧g 2 = .pointer (some ⟨b2,0,none⟩)∧g 4 = .bool n∧g 6 = .slice a4 (lim (dv D)).length c4∧g 33 = .bool (n && decide (((lim (dv D)).length:Int)=0))) (by kernel_rfl) ?_ ?_
    ·cases n
     ·simp [go_sem,g2,g4]
     ·simp [go_sem,g2,g4]
    ·clear g2 g4 g5
     rintro g w5 ⟨rfl,g2,g4,g6,g33⟩
     refine zai g33 rfl ?_
     by_cases hz:n=true∧(lim (dv D)).length=0
     ·rw [if_pos hz] at hEl
      obtain ⟨hz1,hz2⟩:=hz
      have hz3:((lim (dv D)).length:Int)=0:=by omega
      rw [hz1,decide_eq_true hz3,Bool.and_self]
      first|refine zzr fun K hK=>?_|refine zzt fun K hK=>?_
      simp [go_sem,g2,k0,k1]
      refine zal #[.bool false,.slice none 0 0] (by simp [go_sem,g2]) rfl zc2 [] (by simp [go_sem,g2]) rfl ?_
      simp [go_sem,g2]
      refine za6 (b:=b2) (off:=0) [.bool false,.slice none 0 0] (by simp [go_sem,g2]) rfl (by simp [go_sem,g2]) (by simp [go_sem,Value.cells,g2]) zaJ hB2 (by simp) (by simp [Value.oneCell']) (by decide) (fun w9 hS9 hB9=>?_)
      simp [zaD] at hB9
      replace hE:=hE.nextS hS9 hle2
      obtain ⟨k0,k1⟩:=ibx hB9
      simp [go_sem,g2]
      refine hK _ _ ?_;clear hK K
      refine zaf ?_
      repeat (first|refine za3 ?_|refine za2 ?_)
      refine ⟨by simp [zaO,go_sem,za1,g2,k0,k1,za0],ireadErr (by rw [hEl];decide) ?_ hE⟩
      simp [go_sem,zat,zas,za4,g2,k0,k1,za0,hEl]
     ·rw [if_neg hz] at hEl
      have hbb:(n && decide (((lim (dv D)).length:Int)=0))=false:=by
       cases n
       ·rfl
       ·have:¬((lim (dv D)).length:Int)=0:=fun h=>hz ⟨rfl,by omega⟩
        rw [decide_eq_false this];rfl
      rw [hbb]
      have hV:=hVl hEl
      refine zaa ?_
      refine hK3 _ _ ?_;clear hK3 K3
      first|refine zzr fun K hK=>?_|refine zzt fun K hK=>?_
      simp [go_sem,g2,g4,g6]
      refine za5 (by simp [go_sem,g2,g4,g6]) rfl Tryz.call92 (fun R hR=>?_)
      simp [go_sem,g2,g4,g6]
      refine (made_any n (dv D) a4 c4 _ hr4).mono ?_
      rintro e w6 ⟨a6,c6,rfl,hr6,hE6⟩
      refine ⟨_,rfl,hR _ _ ?_⟩
      clear hR R
      replace hB2:=hB2.keep hE6
      replace hE:=hE.next hE6
      simp [go_sem,g2]
      refine za6 (b:=b2) (off:=0) [.bool (decide (iv n (dv D)<0)),.slice a6 (lim (iv n (dv D)).natAbs).length c6] (by simp [go_sem,g2,iR]) rfl (by simp [go_sem,g2,iR]) (by simp [go_sem,Value.cells,g2,iR]) zaJ hB2 (by simp) (by simp [Value.oneCell']) (by decide) (fun w9 hS9 hB9=>?_)
      simp [zaD] at hB9
      replace hr6:=hr6.sto hS9 (hr6.nbox hB2)
      replace hE:=hE.nextS hS9 hle2
      obtain ⟨k0,k1⟩:=ibx hB9
      simp [go_sem,g2]
      refine hK _ _ ?_;clear hK K
      refine zaf ?_
      repeat (first|refine za3 ?_|refine za2 ?_)
      refine ⟨by simp [zaO,go_sem,za1,g2,k0,k1,za0],a6,c6,?_,by rw [hV];exact hr6,hE⟩
      simp [go_sem,zat,zas,za4,g2,k0,k1,za0,hEl,hV,iR]
   ·have hEl':izE l=E:=by rw [hEl,if_pos he]
    first|refine zzr fun K hK=>?_|refine zzt fun K hK=>?_
    simp [go_sem,g5,he]
    refine hK _ _ ?_;clear hK K
    refine zai (by simp [go_sem];rfl) rfl ?_
    first|refine zzr fun K hK=>?_|refine zzt fun K hK=>?_
    simp [go_sem,g2,k0,k1]
    refine zal #[.bool false,.slice none 0 0] (by simp [go_sem,g2]) rfl zc2 [] (by simp [go_sem,g2]) rfl ?_
    simp [go_sem,g2]
    refine za6 (b:=b2) (off:=0) [.bool false,.slice none 0 0] (by simp [go_sem,g2]) rfl (by simp [go_sem,g2]) (by simp [go_sem,Value.cells,g2]) zaJ hB2 (by simp) (by simp [Value.oneCell']) (by decide) (fun w9 hS9 hB9=>?_)
    simp [zaD] at hB9
    replace hE:=hE.nextS hS9 hle2
    obtain ⟨k0,k1⟩:=ibx hB9
    simp [go_sem,g2]
    refine hK _ _ ?_;clear hK K
    refine zaf ?_
    repeat (first|refine za3 ?_|refine za2 ?_)
    refine ⟨by simp [zaO,go_sem,za1,g2,k0,k1,za0],ireadErr (by rw [hEl'];exact he) ?_ hE⟩
    simp [go_sem,zat,zas,za4,g2,k0,k1,za0,hEl']
  cases hnn:n with
  | false =>
   have hd0:bs s=izd l:=by unfold izd;rw [←hn,hnn,←hl];simp
   rw [hnn] at main g4
   first|refine zzr fun K hK=>?_|refine zzt fun K hK=>?_
   simp [go_sem,g4]
   refine hK _ _ ?_;clear hK K
   refine zai (by simp [go_sem];rfl) rfl ?_
   refine zaa ?_
   exact main _ s (by simp [go_sem,g2]) (by simp [go_sem,g4]) (by simp [go_sem]) hd0
  | true =>
   have hd0:bs (s.extract 1 s.size)=izd l:=by unfold izd;rw [←hn,hnn,hex];simp
   have hp:1≤s.size:=by
    have h1:izn l=true:=by rw [←hn,hnn]
    unfold izn at h1
    have:=(of_decide_eq_true h1).1
    omega
   have hp':(1:Int)≤s.size:=by omega
   rw [hnn] at main g4
   first|refine zzr fun K hK=>?_|refine zzt fun K hK=>?_
   simp [go_sem,g4]
   refine hK _ _ ?_;clear hK K
   refine zai (by simp [go_sem];rfl) rfl ?_
   first|refine zzr fun K hK=>?_|refine zzt fun K hK=>?_
   simp [go_sem,g0,hp,hp']
   refine hK _ _ ?_;clear hK K
   exact main _ (s.extract 1 s.size) (by simp [go_sem,g2]) (by simp [go_sem,g4]) (by simp [go_sem]) hd0
set_option maxHeartbeats 1000000 in
theorem iReadR_any (s:ByteArray) (w:World):Calls Tryz.prog 118 #[.string s] w (IReadPost w (bs s)):=by
 have hsz:=zb9 s
 have hbe:bs ⟨#[]⟩=[]:=rfl
 obtain ⟨l,hl⟩:∃ l,l=bs s:=⟨_,rfl⟩
 have hex:=bs_extI s
 rw [←hl] at hsz hex ⊢
 have hba:za9 s 0=ch l 0:=by rw [hl];rfl
 obtain ⟨n,hn⟩:∃ n,n=izn l:=⟨_,rfl⟩
 refine za7 (args:=[.string s]) (rs:=[.cell 2 25,.tmp 3]) (n:=37) Tryz.func118 rfl rfl rfl (by kernel_rfl) ?_
 first|refine zzr fun K hK=>?_|refine zzt fun K hK=>?_
 simp [go_sem]
 refine zam (by simp [go_sem]) rfl zbA (fun w2 b2 hE2 hle2 hB2=>?_)
 have hE:=hE2
 simp [go_sem]
 refine hK _ _ ?_;clear hK K
 refine zei (fun g w'=>w'=w2∧g 0 = .string s∧g 2 = .pointer (some ⟨b2,0,none⟩)∧g 4 = .bool n) (by kernel_rfl) ?_ ?_
 ·by_cases h0:l=[]
  ·have hn0:n=false:=by rw [hn,h0];rfl
   have hs0:s.size=0:=by rw [←hsz,h0];rfl
   simp [go_sem,←hl,hbe,h0,hn0,hs0]
  ·have hl0:0<s.size:=by rw [←hsz];exact List.length_pos_iff.2 h0
   have hl0':(0:Int)<s.size:=by omega
   have hl1:0<l.length:=List.length_pos_iff.2 h0
   by_cases h1:((ch l 0).toNat:Int)=45
   ·have hn1:n=true:=by rw [hn];unfold izn;exact decide_eq_true ⟨hl1,h1⟩
    simp [go_sem,←hl,hbe,h0,hba,h1,hl0,hl0',hn1]
   ·have hn1:n=false:=by rw [hn];unfold izn;exact decide_eq_false (fun h=>h1 h.2)
    simp [go_sem,←hl,hbe,h0,hba,h1,hl0,hl0',hn1]
 ·rintro g w2 ⟨rfl,g0,g2,g4⟩
  refine zac (fun K1 hK1=>?_)
  have main:∀ (g':G) (d:ByteArray),g' 2 = .pointer (some ⟨b2,0,none⟩)→g' 4 = .bool n→g' 0 = .string d→bs d=izd l→K1 g' w2:=by
   intro g' d g2 g4 g0 hd
   refine hK1 _ _ ?_;clear hK1 K1
   have hrd:=readR_any d w2
   unfold zdr at hrd
   rw [hd] at hrd
   have hEl:izE l=if ¬rdE (izd l)=0 then rdE (izd l) else if n=true∧(rdL (izd l)).length=0 then 9 else 0:=by rw [hn];rfl
   have hVl:izE l=0→izV l=iv n (dv (izd l)):=fun h=>by unfold izV;rw [if_pos h,hn]
   have hLl:rdE (izd l)=0→rdL (izd l)=lim (dv (izd l)):=fun h=>by unfold rdL;rw [if_pos h]
   generalize izd l=D at *
   generalize hEE:rdE D=E at *
   generalize hLL:rdL D=L at *
   first|refine zzr fun K hK=>?_|refine zzt fun K hK=>?_
   simp [go_sem,g0]
   refine za5 (by simp [go_sem,g0]) rfl Tryz.call120 (fun R hR=>?_)
   simp [go_sem,g0]
   refine hrd.mono ?_
   rintro e w4 ⟨a4,c4,rfl,hr4,hE4⟩
   refine ⟨_,rfl,hR _ _ ?_⟩
   clear hR R
   replace hB2:=hB2.keep hE4
   replace hE:=hE.next hE4
   obtain ⟨k0,k1⟩:=ibx hB2
   simp [go_sem,g0]
   refine hK _ _ ?_;clear hK K
   refine zac (fun K2 hK2=>?_)
   by_cases he:E=0
   ·have hL:=hLl he
    subst hL
    rw [if_neg (by rw [he];simp)] at hEl
    first|refine zzr fun K hK=>?_|refine zzt fun K hK=>?_
    simp [go_sem,g0,he]
    refine hK _ _ ?_;clear hK K
    refine zai (by simp [go_sem];rfl) rfl ?_
    refine zaa ?_
    refine hK2 _ _ ?_;clear hK2 K2
    refine zac (fun K3 hK3=>?_)
    refine zei (fun g w'=>w'=w4∧g 2 = .pointer (some ⟨b2,0,none⟩)∧g 4 = .bool n∧g 5 = .slice a4 (lim (dv D)).length c4∧g 32 = .bool (n && decide (((lim (dv D)).length:Int)=0))) (by kernel_rfl) ?_ ?_
    ·cases n
     ·simp [go_sem,g2,g4]
     ·simp [go_sem,g2,g4]
    ·clear g2 g4 g0
     rintro g w5 ⟨rfl,g2,g4,g5,g32⟩
     refine zai g32 rfl ?_
     by_cases hz:n=true∧(lim (dv D)).length=0
     ·rw [if_pos hz] at hEl
      obtain ⟨hz1,hz2⟩:=hz
      have hz3:((lim (dv D)).length:Int)=0:=by omega
      rw [hz1,decide_eq_true hz3,Bool.and_self]
      first|refine zzr fun K hK=>?_|refine zzt fun K hK=>?_
      simp [go_sem,g2,k0,k1]
      refine zal #[.bool false,.slice none 0 0] (by simp [go_sem,g2]) rfl zc2 [] (by simp [go_sem,g2]) rfl ?_
      simp [go_sem,g2]
      refine za6 (b:=b2) (off:=0) [.bool false,.slice none 0 0] (by simp [go_sem,g2]) rfl (by simp [go_sem,g2]) (by simp [go_sem,Value.cells,g2]) zaJ hB2 (by simp) (by simp [Value.oneCell']) (by decide) (fun w9 hS9 hB9=>?_)
      simp [zaD] at hB9
      replace hE:=hE.nextS hS9 hle2
      obtain ⟨k0,k1⟩:=ibx hB9
      simp [go_sem,g2]
      refine hK _ _ ?_;clear hK K
      refine zaf ?_
      repeat (first|refine za3 ?_|refine za2 ?_)
      refine ⟨by simp [zaO,go_sem,za1,g2,k0,k1,za0],ireadErr (by rw [hEl];decide) ?_ hE⟩
      simp [go_sem,zat,zas,za4,g2,k0,k1,za0,hEl]
     ·rw [if_neg hz] at hEl
      have hbb:(n && decide (((lim (dv D)).length:Int)=0))=false:=by
       cases n
       ·rfl
       ·have:¬((lim (dv D)).length:Int)=0:=fun h=>hz ⟨rfl,by omega⟩
        rw [decide_eq_false this];rfl
      rw [hbb]
      have hV:=hVl hEl
      refine zaa ?_
      refine hK3 _ _ ?_;clear hK3 K3
      first|refine zzr fun K hK=>?_|refine zzt fun K hK=>?_
      simp [go_sem,g2,g4,g5]
      have hof:=iofR_any n (lim (dv D)) a4 c4 w5 hr4 (by have:=rdL_lenI D;rw [hLL] at this;unfold zbS;omega)
      rw [zap] at hof
      refine za5 (by simp [go_sem,g2,g4,g5]) rfl Tryz.call125 (fun R hR=>?_)
      simp [go_sem,g2,g4,g5]
      refine (hof).mono ?_
      rintro e w6 ⟨a6,c6,rfl,hr6,hE6⟩
      refine ⟨_,rfl,hR _ _ ?_⟩
      clear hR R
      replace hB2:=hB2.keep hE6
      replace hE:=hE.next hE6
      simp [go_sem,g2]
      refine za6 (b:=b2) (off:=0) [.bool (decide (iv n (dv D)<0)),.slice a6 (lim (iv n (dv D)).natAbs).length c6] (by simp [go_sem,g2,iR]) rfl (by simp [go_sem,g2,iR]) (by simp [go_sem,Value.cells,g2,iR]) zaJ hB2 (by simp) (by simp [Value.oneCell']) (by decide) (fun w9 hS9 hB9=>?_)
      simp [zaD] at hB9
      replace hr6:=hr6.sto hS9 (hr6.nbox hB2)
      replace hE:=hE.nextS hS9 hle2
      obtain ⟨k0,k1⟩:=ibx hB9
      simp [go_sem,g2]
      refine hK _ _ ?_;clear hK K
      refine zaf ?_
      repeat (first|refine za3 ?_|refine za2 ?_)
      refine ⟨by simp [zaO,go_sem,za1,g2,k0,k1,za0],a6,c6,?_,by rw [hV];exact hr6,hE⟩
      simp [go_sem,zat,zas,za4,g2,k0,k1,za0,hEl,hV,iR]
   ·have hEl':izE l=E:=by rw [hEl,if_pos he]
    first|refine zzr fun K hK=>?_|refine zzt fun K hK=>?_
    simp [go_sem,g0,he]
    refine hK _ _ ?_;clear hK K
    refine zai (by simp [go_sem];rfl) rfl ?_
    first|refine zzr fun K hK=>?_|refine zzt fun K hK=>?_
    simp [go_sem,g2,k0,k1]
    refine zal #[.bool false,.slice none 0 0] (by simp [go_sem,g2]) rfl zc2 [] (by simp [go_sem,g2]) rfl ?_
    simp [go_sem,g2]
    refine za6 (b:=b2) (off:=0) [.bool false,.slice none 0 0] (by simp [go_sem,g2]) rfl (by simp [go_sem,g2]) (by simp [go_sem,Value.cells,g2]) zaJ hB2 (by simp) (by simp [Value.oneCell']) (by decide) (fun w9 hS9 hB9=>?_)
    simp [zaD] at hB9
    replace hE:=hE.nextS hS9 hle2
    obtain ⟨k0,k1⟩:=ibx hB9
    simp [go_sem,g2]
    refine hK _ _ ?_;clear hK K
    refine zaf ?_
    repeat (first|refine za3 ?_|refine za2 ?_)
    refine ⟨by simp [zaO,go_sem,za1,g2,k0,k1,za0],ireadErr (by rw [hEl'];exact he) ?_ hE⟩
    simp [go_sem,zat,zas,za4,g2,k0,k1,za0,hEl']
  cases hnn:n with
  | false =>
   have hd0:bs s=izd l:=by unfold izd;rw [←hn,hnn,←hl];simp
   rw [hnn] at main g4
   first|refine zzr fun K hK=>?_|refine zzt fun K hK=>?_
   simp [go_sem,g4]
   refine hK _ _ ?_;clear hK K
   refine zai (by simp [go_sem];rfl) rfl ?_
   refine zaa ?_
   exact main _ s (by simp [go_sem,g2]) (by simp [go_sem,g4]) (by simp [go_sem,g0]) hd0
  | true =>
   have hd0:bs (s.extract 1 s.size)=izd l:=by unfold izd;rw [←hn,hnn,hex];simp
   have hp:1≤s.size:=by
    have h1:izn l=true:=by rw [←hn,hnn]
    unfold izn at h1
    have:=(of_decide_eq_true h1).1
    omega
   have hp':(1:Int)≤s.size:=by omega
   rw [hnn] at main g4
   first|refine zzr fun K hK=>?_|refine zzt fun K hK=>?_
   simp [go_sem,g4]
   refine hK _ _ ?_;clear hK K
   refine zai (by simp [go_sem];rfl) rfl ?_
   first|refine zzr fun K hK=>?_|refine zzt fun K hK=>?_
   simp [go_sem,g0,hp,hp']
   refine hK _ _ ?_;clear hK K
   exact main _ (s.extract 1 s.size) (by simp [go_sem,g2]) (by simp [go_sem,g4]) (by simp [go_sem]) hd0
end Go.Proofs.YtefhenfofomjhaaGreat
namespace Go.Proofs.YtefhenfofomjhaaGreat
open Go Go.RowKit Go.V
set_option maxRecDepth 20000
def qR (x:Rat) (a:Option Addr) (c:Nat) (a':Option Addr) (c':Nat):Value:=.agg #[.bool (decide (x.num<0)),.slice a (lim x.num.natAbs).length c,.slice a' (lim x.den).length c']
def RetR (w:World) (s:Nat) (x:Rat) (e:Ending) (w':World):Prop:=∃ a c a' c',e = .returned (qR x a c a' c')∧RD w' a c (lim x.num.natAbs)∧RD w' a' c' (lim x.den)∧(lim x.num.natAbs).length≤s∧(lim x.den).length≤s∧Below w.heap.size w w'
theorem retR_of {w w':World} {x:Rat} {A B s:Nat} {e:Ending} (h:∃ rvs,e = .returned (zat rvs)∧zek w' [[.r]] [qa x] rvs∧(∀ a∈[qa x],a.sz≤A*s+B)∧Below w.heap.size w w'):RetR w (A*s+B) x e w':=by
 obtain ⟨rvs,he,⟨a1,a2,v,q,e1,rfl,h1,rfl,rfl⟩,hz,hE⟩:=h
 rw [List.append_nil] at e1
 subst e1
 obtain ⟨neg,l,m,a,c,a',c',e2,rfl,r1,r2⟩:=repV_r.1 h1
 have hz0:=hz _ (List.mem_singleton.2 rfl)
 unfold qa at e2 hz0
 simp only [List.cons.injEq,At.r.injEq,and_true] at e2
 obtain ⟨rfl,rfl,rfl⟩:=e2
 simp only [At.sz] at hz0
 exact ⟨a,c,a',c',he,r1,r2,Nat.le_trans (Nat.le_max_left _ _) hz0,Nat.le_trans (Nat.le_max_right _ _) hz0,hE⟩
theorem reduced_any (neg:Bool) (l m:List Nat) (a b:Option Addr) (c d s:Nat) (w:World) (hr:RD w a c l) (hs:RD w b d m) (hl:l.length≤s) (hm:m.length≤s) (hL:s≤1000000000) :
  Calls Tryz.prog 81 #[.agg #[.bool neg,.slice a l.length c],.slice b m.length d] w (RetR w (s+1) (qv neg l m)):=by
 refine (ok_reduced s w [.agg #[.bool neg,.slice a l.length c],.slice b m.length d] [.y neg l,.u m] [qa (qv neg l m)] hL ?_ ?_ rfl).mono fun e w' h=>?_
 ·exact ⟨[_],_,_,_,rfl,rfl,repV_y.2 ⟨_,_,_,_,rfl,rfl,hr⟩,[_],[],_,_,rfl,rfl,zdn.2 ⟨_,_,_,rfl,rfl,hs⟩,rfl,rfl⟩
 ·simp only [List.mem_cons,List.not_mem_nil,or_false]
  rintro x (rfl|rfl)
  ·exact hl
  ·exact hm
 ·have:=retR_of (A:=1) (B:=1) h
  rwa [Nat.one_mul] at this
theorem over_any (neg:Bool) (l m:List Nat) (a b:Option Addr) (c d s:Nat) (w:World) (hr:RD w a c l) (hs:RD w b d m) (hl:l.length≤s) (hm:m.length≤s) (hL:s≤1000000000) :
  Calls Tryz.prog 100 #[.agg #[.bool neg,.slice a l.length c],.slice b m.length d] w (RetR w (s+4) (qv neg l m)):=by
 refine (ok_over s w [.agg #[.bool neg,.slice a l.length c],.slice b m.length d] [.y neg l,.u m] [qa (qv neg l m)] hL ?_ ?_ rfl).mono fun e w' h=>?_
 ·exact ⟨[_],_,_,_,rfl,rfl,repV_y.2 ⟨_,_,_,_,rfl,rfl,hr⟩,[_],[],_,_,rfl,rfl,zdn.2 ⟨_,_,_,rfl,rfl,hs⟩,rfl,rfl⟩
 ·simp only [List.mem_cons,List.not_mem_nil,or_false]
  rintro x (rfl|rfl)
  ·exact hl
  ·exact hm
 ·have:=retR_of (A:=1) (B:=4) h
  rwa [Nat.one_mul] at this
end Go.Proofs.YtefhenfofomjhaaGreat
