/- Symbolic evaluation of code that moves numbers about and calls: the evaluator. -/
import Derived.Test.YtefhenfofomjhaaGreatIn2
import Derived.Test.YtefhenfofomjhaaGreatRows
import Derived.ProofKit
import Derived.SizedLaws
import Derived.ChangeSlices
import Derived.ChangeSame
import Derived.Test.YtefhenfofomjhaaGreatVE
import Derived.Test.YtefhenfofomjhaaGreatNt9
set_option linter.unusedSimpArgs false
set_option linter.unusedVariables false
set_option maxHeartbeats 1000000
set_option maxRecDepth 20000
namespace Go.Proofs.YtefhenfofomjhaaGreat
open Go.RowKit Go.V
theorem iv_mul (neg peg:Bool) (x y:Nat):iv (!(neg == peg)) (x*y)=iv neg x*iv peg y:=by
 unfold iv
 cases neg<;>cases peg<;>simp [Int.natCast_mul,Int.neg_mul,Int.mul_neg]
theorem iv_not (neg:Bool) (x:Nat):iv (!neg) x = - iv neg x:=by
 unfold iv
 cases neg<;>simp
theorem iMul_any (neg peg:Bool) (l m:List Nat) (a b:Option Addr) (c d:Nat) (w:World) (hr:RD w a c l) (hs:RD w b d m) (hl:l.length≤1000000000) (hm:m.length≤1000000000) :
  Calls Tryz.prog 79 #[.agg #[.bool neg,.slice a l.length c],.agg #[.bool peg,.slice b m.length d]] w (RetI w (iv neg (val l)*iv peg (val m))):=by
 have hT:zdj Tryz.prog 4=true:=by kernel_rfl
 obtain ⟨Z,hZ⟩:∃ Z,Z=iv neg (val l)*iv peg (val m):=⟨_,rfl⟩
 rw [←hZ]
 rw [←iv_mul] at hZ
 refine za5 (rs:=[.cell 4 25]) (n:=16) Tryz.func79 rfl rfl rfl (by kernel_rfl) ?_
 first|refine zzr fun K hK=>?_|refine zzt fun K hK=>?_
 simp [go_sem]
 refine zbF #[.bool neg,.slice a l.length c] (by simp [go_sem]) rfl (by simp [go_sem,Value.cells]) (fun w1 b1 hE1 hle1 hB1=>?_)
 replace hr:=hr.keep hE1
 replace hs:=hs.keep hE1
 simp [go_sem]
 refine zbF #[.bool peg,.slice b m.length d] (by simp [go_sem]) rfl (by simp [go_sem,Value.cells]) (fun w2 b2 hE2 hle2 hB2=>?_)
 replace hr:=hr.keep hE2
 replace hs:=hs.keep hE2
 replace hB1:=hB1.keep hE2
 simp [go_sem]
 refine zza rfl zbC (fun w4 b4 hE4 hle4 hB4=>?_)
 replace hr:=hr.keep hE4
 replace hs:=hs.keep hE4
 replace hB1:=hB1.keep hE4
 replace hB2:=hB2.keep hE4
 have hE:=(hE1.next hE2).next hE4
 have hle4':w.heap.size≤b4:=Nat.le_trans hE1.size (Nat.le_trans hE2.size hle4)
 obtain ⟨k0,k1⟩:=ibx hB1
 obtain ⟨k2,k3⟩:=ibx hB2
 simp [go_sem]
 apply hK;clear hK K
 have hD:Below w4.heap.size w4 w4.drew:=Below.drew1 _
 replace hr:=hr.keep hD
 replace hs:=hs.keep hD
 replace hB1:=hB1.keep hD
 replace hB2:=hB2.keep hD
 replace hB4:=hB4.keep hD
 replace hE:=hE.next hD
 obtain ⟨k0,k1⟩:=ibx hB1
 obtain ⟨k2,k3⟩:=ibx hB2
 first|refine W_rd [(0,0),(1,0),(2,0),(3,0),(4,0),(5,0),(6,0),(7,0),(8,0),(9,1),(10,1),(11,2)] (by kernel_rfl) (by kernel_rfl) (fun K hK=>?_)|refine zbE [(0,0),(1,0),(2,0),(3,0),(4,0),(5,0),(6,0),(7,0),(8,0),(9,1),(10,1),(11,2)] (by kernel_rfl) (by kernel_rfl) (fun K hK=>?_)
 simp [go_sem,k0,k1,k2,k3,za0,hT]
 refine zzc rfl Tryz.call93 (fun R hR=>?_)
 simp [go_sem,k0,k1,k2,k3,za0,hT]
 refine (mul_any l m a b c d _ hr hs (by unfold zcH;omega) (by unfold zcH;omega)).mono ?_
 rintro e w5 ⟨a5,c5,rfl,hr5,hE5⟩
 refine ⟨_,rfl,hE5,hR _ _ ?_⟩
 clear hR R
 replace hB4:=hB4.keep hE5
 replace hE:=hE.next hE5
 have hma:=made_any (!(neg == peg)) _ _ _ _ hr5
 rw [←hZ] at hma
 simp [go_sem,k0,k2,hT]
 refine zzc rfl Tryz.call92 (fun R hR=>?_)
 simp [go_sem,k0,k2,hT]
 refine (hma).mono ?_
 rintro e w6 ⟨a6,c6,rfl,hr6,hE6⟩
 refine ⟨_,rfl,hE6,hR _ _ ?_⟩
 clear hR R
 replace hB4:=hB4.keep hE6
 replace hE:=hE.next hE6
 simp [go_sem]
 refine zzs (b:=b4) (off:=0) [.bool (decide (Z<0)),.slice a6 (lim Z.natAbs).length c6] rfl zaI hB4 (fun w9 hS9 hB9=>?_) (by simp [go_sem,Value.cells,iR])
 simp [zaw] at hB9
 replace hr6:=hr6.sto hS9 (hr6.nbox hB4)
 obtain ⟨k0,k1⟩:=ibx hB9
 simp [go_sem]
 apply hK;clear hK K
 refine zad ?_
 repeat first|refine za3 ?_|refine za2 ?_
 refine ⟨by simp [zaD,go_sem,za1,k0,k1,za0],a6,c6,?_,hr6,hE.nextS hS9 hle4'⟩
 simp [go_sem,zar,zam,za4,k0,k1,za0,iR]
theorem iMulR_any (neg peg:Bool) (l m:List Nat) (a b:Option Addr) (c d:Nat) (w:World) (hr:RD w a c l) (hs:RD w b d m) (hl:l.length≤1000000000) (hm:m.length≤1000000000) :
  Calls Tryz.prog 104 #[.agg #[.bool neg,.slice a l.length c],.agg #[.bool peg,.slice b m.length d]] w (RetI w (iv neg (val l)*iv peg (val m))):=by
 have hT:zdj Tryz.prog 4=true:=by kernel_rfl
 obtain ⟨Z,hZ⟩:∃ Z,Z=iv neg (val l)*iv peg (val m):=⟨_,rfl⟩
 rw [←hZ]
 rw [←iv_mul] at hZ
 refine za5 (rs:=[.cell 4 25]) (n:=16) Tryz.func104 rfl rfl rfl (by kernel_rfl) ?_
 first|refine zzr fun K hK=>?_|refine zzt fun K hK=>?_
 simp [go_sem]
 refine zbF #[.bool neg,.slice a l.length c] (by simp [go_sem]) rfl (by simp [go_sem,Value.cells]) (fun w1 b1 hE1 hle1 hB1=>?_)
 replace hr:=hr.keep hE1
 replace hs:=hs.keep hE1
 simp [go_sem]
 refine zbF #[.bool peg,.slice b m.length d] (by simp [go_sem]) rfl (by simp [go_sem,Value.cells]) (fun w2 b2 hE2 hle2 hB2=>?_)
 replace hr:=hr.keep hE2
 replace hs:=hs.keep hE2
 replace hB1:=hB1.keep hE2
 simp [go_sem]
 refine zza rfl zbC (fun w4 b4 hE4 hle4 hB4=>?_)
 replace hr:=hr.keep hE4
 replace hs:=hs.keep hE4
 replace hB1:=hB1.keep hE4
 replace hB2:=hB2.keep hE4
 have hE:=(hE1.next hE2).next hE4
 have hle4':w.heap.size≤b4:=Nat.le_trans hE1.size (Nat.le_trans hE2.size hle4)
 obtain ⟨k0,k1⟩:=ibx hB1
 obtain ⟨k2,k3⟩:=ibx hB2
 simp [go_sem]
 apply hK;clear hK K
 have hD:Below w4.heap.size w4 w4.drew:=Below.drew1 _
 replace hr:=hr.keep hD
 replace hs:=hs.keep hD
 replace hB1:=hB1.keep hD
 replace hB2:=hB2.keep hD
 replace hB4:=hB4.keep hD
 replace hE:=hE.next hD
 obtain ⟨k0,k1⟩:=ibx hB1
 obtain ⟨k2,k3⟩:=ibx hB2
 first|refine W_rd [(0,0),(1,0),(2,0),(3,0),(4,0),(5,0),(6,0),(7,0),(8,0),(9,1),(10,1),(11,2)] (by kernel_rfl) (by kernel_rfl) (fun K hK=>?_)|refine zbE [(0,0),(1,0),(2,0),(3,0),(4,0),(5,0),(6,0),(7,0),(8,0),(9,1),(10,1),(11,2)] (by kernel_rfl) (by kernel_rfl) (fun K hK=>?_)
 simp [go_sem,k0,k1,k2,k3,za0,hT]
 refine zzc rfl Tryz.call127 (fun R hR=>?_)
 simp [go_sem,k0,k1,k2,k3,za0,hT]
 refine (mulR_any l m a b c d _ hr hs (by unfold zcH;omega) (by unfold zcH;omega)).mono ?_
 rintro e w5 ⟨a5,c5,rfl,hr5,hE5⟩
 refine ⟨_,rfl,hE5,hR _ _ ?_⟩
 clear hR R
 replace hB4:=hB4.keep hE5
 replace hE:=hE.next hE5
 have hml:(lim (val l*val m)).length≤1000000000+1000000000:=lim_mul_len (by rw [zaO l hr.ok];exact Nat.le_trans (zb8 l) hl) (by rw [zaO m hs.ok];exact Nat.le_trans (zb8 m) hm)
 have hma:=iofR_any (!(neg == peg)) _ _ _ _ hr5 (by unfold zbZ;omega)
 rw [zao] at hma
 rw [←hZ] at hma
 simp [go_sem,k0,k2,hT]
 refine zzc rfl Tryz.call125 (fun R hR=>?_)
 simp [go_sem,k0,k2,hT]
 refine (hma).mono ?_
 rintro e w6 ⟨a6,c6,rfl,hr6,hE6⟩
 refine ⟨_,rfl,hE6,hR _ _ ?_⟩
 clear hR R
 replace hB4:=hB4.keep hE6
 replace hE:=hE.next hE6
 simp [go_sem]
 refine zzs (b:=b4) (off:=0) [.bool (decide (Z<0)),.slice a6 (lim Z.natAbs).length c6] rfl zaI hB4 (fun w9 hS9 hB9=>?_) (by simp [go_sem,Value.cells,iR])
 simp [zaw] at hB9
 replace hr6:=hr6.sto hS9 (hr6.nbox hB4)
 obtain ⟨k0,k1⟩:=ibx hB9
 simp [go_sem]
 apply hK;clear hK K
 refine zad ?_
 repeat first|refine za3 ?_|refine za2 ?_
 refine ⟨by simp [zaD,go_sem,za1,k0,k1,za0],a6,c6,?_,hr6,hE.nextS hS9 hle4'⟩
 simp [go_sem,zar,zam,za4,k0,k1,za0,iR]
theorem ze2 {l:List Nat} (h:Ok l) {k:Nat} (hl:l.length≤k):(lim (val l)).length≤k:=by rw [zaO l h];exact Nat.le_trans (zb8 l) hl
theorem sg_neg {z:Int} (h:z<0):sg z = -1:=by unfold sg;rw [if_neg (by omega),if_pos h]
theorem sg_pos {z:Int} (h:0<z):sg z=1:=by unfold sg;rw [if_neg (by omega),if_neg (by omega)]
theorem sg_zero {z:Int} (h:z=0):sg z=0:=by unfold sg;rw [if_pos h]
theorem iSignR_any (neg:Bool) (l:List Nat) (a:Option Addr) (c:Nat) (w:World) (hr:RD w a c l) (hl:l.length≤zbZ) :
  Calls Tryz.prog 126 #[.agg #[.bool neg,.slice a l.length c]] w fun e w'=>e = .returned (.int .i64 (sg (iv neg (val l))))∧Below w.heap.size w w':=by
 obtain ⟨Z,hZ⟩:∃ Z,Z=iv neg (val l):=⟨_,rfl⟩
 obtain ⟨S,hS⟩:∃ S,S=sg Z:=⟨_,rfl⟩
 rw [←hZ,←hS]
 have hno:=fun {w} hr=>iNormR_any neg l a c w hr hl
 rw [←hZ] at hno
 refine za5 (rs:=[.tmp 2]) (n:=11) Tryz.func126 rfl rfl rfl (by kernel_rfl) ?_
 first|refine zzr fun K hK=>?_|refine zzt fun K hK=>?_
 simp [go_sem]
 refine zbF #[.bool neg,.slice a l.length c] (by simp [go_sem]) rfl (by simp [go_sem,Value.cells]) (fun w1 b1 hE1 hle1 hB1=>?_)
 replace hr:=hr.ext hE1
 obtain ⟨k0,k1⟩:=ibx hB1
 have hE:=hE1
 simp [go_sem]
 apply hK;clear hK K
 first|refine zzr fun K hK=>?_|refine zzt fun K hK=>?_
 simp [go_sem,k0,k1,za0,za4,za1]
 refine zzc rfl Tryz.call124 (fun R hR=>?_)
 simp [go_sem,k0,k1,za0,za4,za1]
 refine (hno hr).mono ?_
 rintro e w6 ⟨a6,c6,rfl,hr6,hE6⟩
 refine ⟨_,rfl,hR _ _ ?_⟩
 clear hR R
 replace hB1:=hB1.keep hE6
 replace hE:=hE.next hE6
 simp [go_sem]
 refine zzs (b:=b1) (off:=0) [.bool (decide (Z<0)),.slice a6 (lim Z.natAbs).length c6] rfl zaI hB1 (fun w9 hS9 hB9=>?_) (by simp [go_sem,Value.cells,iR])
 simp [zaw] at hB9
 replace hE:=hE.nextS hS9 hle1
 obtain ⟨k0,k1⟩:=ibx hB9
 simp [go_sem]
 apply hK;clear hK K
 refine zab (fun K1 hK1=>?_)
 by_cases h0:Z=0
 ·have hl0:(lim Z.natAbs).length=0:=by rw [h0];show (lim 0).length=0;rw [zap];rfl
  have hl0':((lim Z.natAbs).length:Int)=0:=by omega
  have hs:=hS.trans (sg_zero h0)
  subst hs
  first|refine zzr fun K hK=>?_|refine zzt fun K hK=>?_
  simp [go_sem,k0,k1,za0,hl0,hl0']
  apply hK;clear hK K
  refine zaf (by simp [go_sem];rfl) rfl ?_
  first|refine zzr fun K hK=>?_|refine zzt fun K hK=>?_
  simp [go_sem]
  apply hK;clear hK K
  refine zad ?_
  repeat first|refine za3 ?_|refine za2 ?_
  refine ⟨trivial,?_,hE⟩
  simp [go_sem,zar,zam]
 ·have hlp:=lim_ne (B:=Z.natAbs) (by omega)
  have hl0:¬(lim Z.natAbs).length=0:=by omega
  have hl0':¬((lim Z.natAbs).length:Int)=0:=by omega
  first|refine zzr fun K hK=>?_|refine zzt fun K hK=>?_
  simp [go_sem,k0,k1,za0,hl0,hl0']
  apply hK;clear hK K
  refine zaf (by simp [go_sem,hl0,hl0'];rfl) rfl ?_
  refine za7 ?_
  apply hK1;clear hK1 K1
  refine zab (fun K1 hK1=>?_)
  by_cases hz:Z<0
  ·have hs:=hS.trans (sg_neg hz)
   subst hs
   first|refine zzr fun K hK=>?_|refine zzt fun K hK=>?_
   simp [go_sem,k0,k1,za0,hz]
   apply hK;clear hK K
   refine zaf (by simp [go_sem,hz];rfl) rfl ?_
   first|refine zzr fun K hK=>?_|refine zzt fun K hK=>?_
   simp [go_sem]
   apply hK;clear hK K
   refine zad ?_
   repeat first|refine za3 ?_|refine za2 ?_
   refine ⟨trivial,?_,hE⟩
   simp [go_sem,zar,zam]
  ·have hs:=hS.trans (sg_pos (by omega))
   subst hs
   first|refine zzr fun K hK=>?_|refine zzt fun K hK=>?_
   simp [go_sem,k0,k1,za0,hz]
   apply hK;clear hK K
   refine zaf (by simp [go_sem,hz];rfl) rfl ?_
   refine za7 ?_
   apply hK1;clear hK1 K1
   first|refine zzr fun K hK=>?_|refine zzt fun K hK=>?_
   simp [go_sem]
   apply hK;clear hK K
   refine zad ?_
   repeat first|refine za3 ?_|refine za2 ?_
   refine ⟨trivial,?_,hE⟩
   simp [go_sem,zar,zam]
def qq (z y:Int):Int:=if y=0 then 0 else z / y
def rr (z y:Int):Int:=if y=0 then 0 else z % y
def ee (y:Int):Int:=if y=0 then 3 else 0
theorem rd_one {w:World} {b x:Nat} {t:TypeId} (h:Bx w b #[.int .u16 (x:Int)] t) (hx:x<65536):RD w (some ⟨b,0,none⟩) 1 [x]:=by
 refine ⟨.inr ⟨b,0,rfl,fun j u hu=>?_⟩,?_,by simp⟩
 ·match j with
  | 0 =>
   simp [lmC] at hu
   subst hu
   simpa using h.cell 0
  | j+1=>simp [lmC] at hu
 ·intro y hy
  simp at hy;omega
end Go.Proofs.YtefhenfofomjhaaGreat
namespace Go.V
open Go Go.RowKit Go.ChangeShapes Go.WideShapes Go.ChangeAt
theorem trodAll_below {H:Type} {enc:TypeId × Value→H} {P:Program} (hl:laidOutB P=true) {W W':World} (hb:Below W.heap.size W W'):∀ (ts:List TypeId) (vs:List Value) (ds:List (DataW H)) (ps:List MemPlace),
  (ts.all fun t=>P.readableRec t && decide (t<P.types.size))=true→(∀ p∈ps,p.block<W.heap.size)→DataW.TrodAll enc P W 0 (fun _=>true) true ts vs ds ps →
  DataW.TrodAll enc P W' 0 (fun b=>decide (b<W.heap.size)) true ts vs ds ps
 | [],[],[],ps,_,_,h=>h
 | t::ts,v::vs,d::ds,ps,hr,hlt,h=>by
  obtain ⟨p,q,h1,h2,rfl⟩:=h
  simp only [List.all_cons,Bool.and_eq_true,decide_eq_true_eq] at hr
  exact ⟨p,q,Below.trod hl hr.1.1 hr.1.2 h1 hb (fun x hx=>hlt x (List.mem_append_left _ hx)),trodAll_below hl hb ts vs ds q hr.2 (fun x hx=>hlt x (List.mem_append_right _ hx)) h2,rfl⟩
 | [],_::_,_,_,_,_,h=>h.elim
 | [],[],_::_,_,_,_,h=>h.elim
 | _::_,[],_,_,_,_,h=>h.elim
 | _::_,_::_,[],_,_,_,h=>h.elim
theorem trodAll_len {H:Type} {enc:TypeId × Value→H} {P:Program} {W:World} {base:Nat} {sp:Nat→Bool} {held:Bool}:∀ (ts:List TypeId) (vs:List Value) (ds:List (DataW H)) (ps:List MemPlace),DataW.TrodAll enc P W base sp held ts vs ds ps→ds.length=ts.length∧vs.length=ts.length
 | [],[],[],ps,h=>⟨rfl,rfl⟩
 | t::ts,v::vs,d::ds,ps,h=>by
  obtain ⟨p,q,h1,h2,rfl⟩:=h
  have:=trodAll_len ts vs ds q h2
  simp [this.1,this.2]
 | [],_::_,_,_,h=>h.elim
 | [],[],_::_,_,h=>h.elim
 | _::_,[],_,_,h=>h.elim
 | _::_,_::_,[],_,h=>h.elim
theorem law_lifted {C:Checked} {f:FuncId} {fn:Func} {s:ChangeSpec} (own:ownKnob C.prog.godebug=none) (hl:laidOutB C.prog=true) (noInit:C.prog.inits.idxOf? f=none) (hfn:C.prog.funcs[f]? = some fn) (hvars:s.vars=[])
  (tb:TypeId) (hres:fn.resultTypes = #[tb]) (hb:C.prog.underlying tb=some .bool)
  (hread:(fn.params.toList.all fun t=>C.prog.readableRec t && decide (t<C.prog.types.size))=true)
  {H:Type} (enc:TypeId × Value→H)
  (hspec:∀ ds:List (DataW H),ds.length=fn.params.toList.length→s.fn H ds={ results:=[.lit (.bool true)],args:=ds })
  (contract:∀ (W:World) (base:Nat) (args:Array Value) (ds:List (DataW H)) (ps:List MemPlace),
   (∀ (j:Nat) t v,fn.params[j]? = some t→args[j]? = some v→Value.okWide C.prog W .any base t v) →
   DataW.TrodAll enc C.prog W 0 (fun _=>true) true fn.params.toList args.toList ds ps→(∀ p∈ps,p.block<W.heap.size) →
   (DataW.weightsEach C.prog fn.params.toList ds).all (·≤reachBytes)=true →
   Calls C.prog f args W fun e W'=>e = .returned (.bool true)∧Below W.heap.size W W')
  (os:Os) (started:os.Started)
  (witness:∃ (w:World) (tape:Tape) (i:Input),w.os=os∧(w.forCall tape i).Shaped C.prog∧i.vars=[]∧Input.okWide C.prog (w.forCall tape i) .any w.heap.size f i ∧
   s.pre6 enc C.prog fn [] false (w.forCall tape i).memory i.args∧({}:Assume).holds C.prog (lone (Frame.enter C.prog f i.args .normal) [] (w.forCall tape i))) :
  ReturnsInHanded {} C os f .any (s.pre6 enc C.prog fn [] false) (s.post enc C.prog fn false true false false):=by
 refine returnsInHanded_of_change_sized own started noInit hfn witness ?_
 intro W base args ds gs before hval hW _ hsz _
 have hW':=hW
 obtain ⟨p,q,hA,hV,rfl,_,_⟩:=hW
 have hgs:gs=[]∧q=[]:=by
  rw [hvars] at hV
  cases gs with
  | nil=>exact ⟨rfl,hV⟩
  | cons g r=>exact hV.elim
 obtain ⟨rfl,rfl⟩:=hgs
 have hlt:∀ x∈p,x.block<W.heap.size:=fun x hx=>hW'.lt x (by simpa using hx)
 have hsz':(DataW.weightsEach C.prog fn.params.toList ds).all (·≤reachBytes)=true:=by
  have e:s.plain.varTypes C.prog=[]:=by simp [ChangeSpec.plain,DataSpec.varTypes,hvars]
  rw [e] at hsz
  simpa using hsz
 have hlen:=(trodAll_len _ _ _ _ hA).1
 refine (contract W base args ds p hval hA hlt hsz').mono fun e W' ⟨he,hbel⟩=>?_
 subst he
 have hs:s.fn H (ds++[])={ results:=[.lit (.bool true)],args:=ds }:=by rw [List.append_nil];exact hspec ds hlen
 refine ⟨_,rfl,ds,[],p++[],[],p,[],hW',?_,?_,?_,hbel.frame _,fun h=>by cases h⟩
 ·rw [hs,hres]
  exact ⟨[],[],⟨1,by simp [DataW.trod,Value.cells,hb]⟩,rfl,rfl⟩
 ·rw [hs]
  exact trodAll_below hl hbel _ _ _ _ hread hlt hA
 ·rw [hs,hvars];rfl
end Go.V
namespace Go.Proofs.YtefhenfofomjhaaGreat
open Go.RowKit Go.V Go.ChangeMaps
theorem Tryz.own:ownKnob Tryz.prog.godebug=none:=by kernel_rfl
theorem Tryz.laidOut:laidOutB Tryz.prog=true:=by kernel_rfl
theorem lim_1' (x:Nat) (h:0<x) (hx:x<65536):lim x=[x]:=by
 rw [lim_pos x (by omega),Nat.mod_eq_of_lt hx,Nat.div_eq_of_lt hx,zap]
end Go.Proofs.YtefhenfofomjhaaGreat
namespace Go.Proofs.YtefhenfofomjhaaGreat
open Go.RowKit Go.V
end Go.Proofs.YtefhenfofomjhaaGreat
namespace Go.Proofs.YtefhenfofomjhaaGreat
open Go Go.RowKit Go.V
inductive Sh where
 | n|b|s|r|y|u|w
 | k (z:Int)
 | kb (x:Bool)
 | sl (n:Nat)
def zn:Int→Nat
 | .ofNat n=>2*n
 | .negSucc n=>2*n+1
def Sh.num:Sh→Nat
 | .n=>0 | .b=>1 | .s=>2 | .r=>3 | .y=>4 | .u=>5 | .w=>6 | .kb false=>7 | .kb true=>8 | .k z=>2*zn z+9 | .sl q=>2*q+10
def Sh.size:Sh→Nat
 | .r=>3 | .y=>2|_=>1
inductive At where
 | n (z:Int)
 | b (x:Bool)
 | s (l:List UInt8)
 | r (neg:Bool) (l m:List Nat)
 | y (neg:Bool) (l:List Nat)
 | u (l:List Nat)
 | w (v:Value)
 | k (z:Int)
 | kb (x:Bool)
def At.sh:At→Sh
 | .n _=>.n | .b _=>.b | .s _=>.s | .r ..=>.r | .y ..=>.y | .u _=>.u | .w _=>.w | .k z=>.k z | .kb x=>.kb x
def At.sz:At→Nat
 | .r _ l m=>max l.length m.length
 | .y _ l=>l.length
 | .u l=>l.length
 | _=>0
def At.lst:At→Nat→Option (List Nat)
 | .r _ l _,1=>some l
 | .r _ _ m,2=>some m
 | .y _ l,1=>some l
 | .u l,0=>some l
 | _,_=>none
def At.len:At→Nat→Option Nat
 | .r _ l _,1=>some l.length
 | .r _ _ m,2=>some m.length
 | .y _ l,1=>some l.length
 | .u l,0=>some l.length
 | .s l,0=>some l.length
 | _,_=>none
def At.bit:At→Option Bool
 | .r neg _ _=>some neg
 | .y neg _=>some neg
 | _=>none
def no16:Value→Bool
 | .int .u16 _=>false
 | _=>true
def At.Rep (w:World):At→List Value→Prop
 | .n z,cs=>cs=[.int .i64 z]
 | .b x,cs=>cs=[.bool x]
 | .s l,cs=>cs=[.string ⟨l.toArray⟩]
 | .r neg l m,cs=>∃ a c a' c',cs=[.bool neg,.slice a l.length c,.slice a' m.length c']∧RD w a c l∧RD w a' c' m
 | .y neg l,cs=>∃ a c,cs=[.bool neg,.slice a l.length c]∧RD w a c l
 | .u l,cs=>∃ a c,cs=[.slice a l.length c]∧RD w a c l
 | .w v,cs=>cs=[v]∧v.oneCell'=true∧no16 v=true
 | .k z,cs=>cs=[.int .i64 z]
 | .kb x,cs=>cs=[.bool x]
abbrev Ev:=Nat→Option At
inductive IE where
 | lit (z:Int)
 | var (k:Nat)
 | len (k j:Nat)
 | add (x y:IE)
 | sub (x y:IE)
 | mul (x y:IE)
 | neg (x:IE)
inductive SE where
 | lit (l:List UInt8)
 | var (k:Nat)
inductive BE where
 | lit (x:Bool)
 | var (k:Nat)
 | bit (k:Nat)
 | eq (x y:IE)
 | lt (x y:IE)
 | le (x y:IE)
 | not (x:BE)
 | beq (x y:BE)
 | seq (x y:SE)
inductive LE where
 | nil
 | var (k j:Nat)
def evN:Option At→Option Int
 | some (.n z)=>some z
 | _=>none
def evB:Option At→Option Bool
 | some (.b x)=>some x
 | _=>none
def evS:Option At→Option (List UInt8)
 | some (.s l)=>some l
 | _=>none
def zcp (j:Nat):Option At→Option Int
 | some a=>match a.len j with
  | some n=>some (n:Int)
  | none=>none
 | none=>none
def zcI:Option At→Option Bool
 | some a=>a.bit
 | none=>none
def zcD (j:Nat):Option At→Option (List Nat)
 | some a=>a.lst j
 | none=>none
def op2 {α β γ:Type} (f:α→β→γ):Option α→Option β→Option γ
 | some a,some b=>some (f a b)
 | _,_=>none
def op1 {α β:Type} (f:α→β):Option α→Option β
 | some a=>some (f a)
 | none=>none
def IE.ev (e:Ev):IE→Option Int
 | .lit z=>some z
 | .var k=>evN (e k)
 | .len k j=>zcp j (e k)
 | .add x y=>op2 (fun a b=>IntKind.i64.wrap (a+b)) (x.ev e) (y.ev e)
 | .sub x y=>op2 (fun a b=>IntKind.i64.wrap (a-b)) (x.ev e) (y.ev e)
 | .mul x y=>op2 (fun a b=>IntKind.i64.wrap (a*b)) (x.ev e) (y.ev e)
 | .neg x=>op1 (fun a=>IntKind.i64.wrap (0-a)) (x.ev e)
def SE.ev (e:Ev):SE→Option (List UInt8)
 | .lit l=>some l
 | .var k=>evS (e k)
def BE.ev (e:Ev):BE→Option Bool
 | .lit x=>some x
 | .var k=>evB (e k)
 | .bit k=>zcI (e k)
 | .eq x y=>op2 (fun a b=>decide (a=b)) (x.ev e) (y.ev e)
 | .lt x y=>op2 (fun a b=>decide (a<b)) (x.ev e) (y.ev e)
 | .le x y=>op2 (fun a b=>decide (a≤b)) (x.ev e) (y.ev e)
 | .not x=>op1 (fun a=>!a) (x.ev e)
 | .beq x y=>op2 (fun a b=>a == b) (x.ev e) (y.ev e)
 | .seq x y=>op2 (fun a b=>decide (a=b)) (x.ev e) (y.ev e)
def LE.ev (e:Ev):LE→Option (List Nat)
 | .nil=>some []
 | .var k j=>zcD j (e k)
inductive SA where
 | ob (k:Nat)
 | n (x:IE)
 | b (x:BE)
 | s (x:SE)
 | r (x:BE) (l m:LE)
 | y (x:BE) (l:LE)
 | u (l:LE)
 | w (z:Int)
def op3 {α β γ δ:Type} (f:α→β→γ→δ):Option α→Option β→Option γ→Option δ
 | some a,some b,some c=>some (f a b c)
 | _,_,_=>none
def SA.ev (e:Ev):SA→Option At
 | .ob k=>e k
 | .n x=>op1 .n (x.ev e)
 | .b x=>op1 .b (x.ev e)
 | .s x=>op1 .s (x.ev e)
 | .r x l m=>op3 .r (x.ev e) (l.ev e) (m.ev e)
 | .y x l=>op2 .y (x.ev e) (l.ev e)
 | .u l=>op1 .u (l.ev e)
 | .w z=>some (.w (.int .u64 z))
def zbK (e:Ev):List SA→Option (List At)
 | []=>some []
 | a::r=>op2 List.cons (a.ev e) (zbK e r)
def extE (e:Ev) (base:Nat) (als:List At):Ev:=fun k=>match (if Nat.ble base k then als[k-base]? else none) with
 | some a=>some a
 | none=>e k
inductive Tr (α:Type) where
 | leaf (a:α)
 | br (c:BE) (t f:Tr α)
 | call (f:Nat) (args:List SA) (base:Nat) (t:Tr α)
 | obj (l:List Nat) (base:Nat) (t:Tr α)
 | bad
structure Ct where
 args:List (List Sh)
 res:List (List Sh)
 F:List At→Option (List At)
 L:Nat
 A:Nat
 B:Nat
abbrev Gam:=Nat→Option Ct
def Tr.sat {α:Type} (Γ:Gam) (Q:α→Ev→Prop):Tr α→Ev→Prop
 | .leaf a,e=>Q a e
 | .br c t f,e=>(c.ev e=some true→t.sat Γ Q e)∧(c.ev e=some false→f.sat Γ Q e)
 | .call f args base t,e=>∃ c als r,Γ f=some c∧zbK e args=some als∧c.F als=some r∧t.sat Γ Q (extE e base r)
 | .obj l base t,e=>t.sat Γ Q (extE e base [.u l])
 | .bad,_=>False
def Tr.den (Γ:Gam):Tr (List SA)→Ev→Option (List At)
 | .leaf a,e=>zbK e a
 | .br c t f,e=>match c.ev e with
  | some true=>t.den Γ e
  | some false=>f.den Γ e
  | none=>none
 | .call f args base t,e=>match Γ f,zbK e args with
  | some c,some als=>match c.F als with
   | some r=>t.den Γ (extE e base r)
   | none=>none
  | _,_=>none
 | .obj l base t,e=>t.den Γ (extE e base [.u l])
 | .bad,_=>none
def Tr.bind {α β:Type} (k:α→Tr β):Tr α→Tr β
 | .leaf a=>k a
 | .br c t f=>.br c (t.bind k) (f.bind k)
 | .call f args base t=>.call f args base (t.bind k)
 | .obj l base t=>.obj l base (t.bind k)
 | .bad=>.bad
inductive SC where
 | lit (v:Value)
 | ob (k j:Nat)
 | ix (e:IE)
 | bx (e:BE)
 | ptr (b off:Nat)
 | sl (b off n c:Nat)
 | sv (b n:Nat)
inductive S1 where
 | one (c:SC)
 | agg (l:List SC)
inductive SV where
 | v (x:S1)
 | t (l:List S1)
structure SS where
 g:List SV
 h:List (Option (List SC))
 sz:List (Option (Sh × Nat × Nat))
structure En where
 bl:Nat→Option Nat
 ob:Nat→Option (At × List Value)
 cv:Nat→Nat
def En.env (E:En):Ev:=fun k=>(E.ob k).map (·.1)
def obC (p:Option (At × List Value)) (j:Nat):Option Value:=match p with
 | some q=>q.2[j]?
 | none=>none
def zcW (E:En):SC→Option Value
 | .lit v=>some v
 | .ob k j=>obC (E.ob k) j
 | .ix e=>op1 (Value.int .i64) (e.ev E.env)
 | .bx e=>op1 Value.bool (e.ev E.env)
 | .ptr b off=>op1 (fun β=>Value.pointer (some ⟨β,off,none⟩)) (E.bl b)
 | .sl b off n c=>op1 (fun β=>Value.slice (some ⟨β,off,none⟩) n c) (E.bl b)
 | .sv b n=>op1 (fun β=>Value.slice (some ⟨β,0,none⟩) n (E.cv b)) (E.bl b)
def zcT (E:En):List SC→Option (List Value)
 | []=>some []
 | c::r=>op2 List.cons (zcW E c) (zcT E r)
def den1 (E:En):S1→Option Value
 | .one c=>zcW E c
 | .agg l=>op1 (fun vs=>Value.agg vs.toArray) (zcT E l)
def denT (E:En):List S1→Option (List Value)
 | []=>some []
 | c::r=>op2 List.cons (den1 E c) (denT E r)
def denV (E:En):SV→Option Value
 | .v x=>den1 E x
 | .t l=>op1 (fun vs=>Value.tuple vs.toArray) (denT E l)
def litV:Value→S1
 | .agg cs=>.agg (cs.toList.map .lit)
 | v=>.one (.lit v)
def opnd (g:List SV):Operand→Option SV
 | .tmp t=>g[t]?
 | .const v=>some (.v (litV v))
 | .func f=>some (.v (.one (.lit (.func (.func f) #[] #[]))))
 | .global _=>none
def shOf (sz:List (Option (Sh × Nat × Nat))) (k:Nat):Option Sh:=match sz[k]? with
 | some (some p)=>some p.1
 | _=>none
def iOf:SC→Option IE
 | .lit (.int .i64 z)=>some (.lit z)
 | .ix e=>some e
 | _=>none
def bOf (sz:List (Option (Sh × Nat × Nat))):SC→Option BE
 | .lit (.bool b)=>some (.lit b)
 | .bx e=>some e
 | .ob k 0=>match shOf sz k with
  | some .r=>some (.bit k)
  | some .y=>some (.bit k)
  | _=>none
 | _=>none
def sOf (sz:List (Option (Sh × Nat × Nat))):SC→Option SE
 | .lit (.string s)=>some (.lit (bs s))
 | .ob k 0=>match shOf sz k with
  | some .s=>some (.var k)
  | _=>none
 | _=>none
def lOf (sz:List (Option (Sh × Nat × Nat))):SC→Option LE
 | .lit (.slice none 0 0)=>some .nil
 | .ob k j=>match shOf sz k,j with
  | some .r,1=>some (.var k 1)
  | some .r,2=>some (.var k 2)
  | some .y,1=>some (.var k 1)
  | some .u,0=>some (.var k 0)
  | _,_=>none
 | _=>none
def mkI:IE→SC
 | .lit z=>.lit (.int .i64 z)
 | e=>.ix e
def mkB:BE→SC
 | .lit b=>.lit (.bool b)
 | e=>.bx e
def addI:IE→IE→IE
 | .lit a,.lit b=>.lit (IntKind.i64.wrap (a+b))
 | x,y=>.add x y
def subI:IE→IE→IE
 | .lit a,.lit b=>.lit (IntKind.i64.wrap (a-b))
 | x,y=>.sub x y
def mulI:IE→IE→IE
 | .lit a,.lit b=>.lit (IntKind.i64.wrap (a*b))
 | x,y=>.mul x y
def eqI:IE→IE→BE
 | .lit a,.lit b=>.lit (decide (a=b))
 | x,y=>.eq x y
def ltI:IE→IE→BE
 | .lit a,.lit b=>.lit (decide (a<b))
 | x,y=>.lt x y
def leI:IE→IE→BE
 | .lit a,.lit b=>.lit (decide (a≤b))
 | x,y=>.le x y
def notB:BE→BE
 | .lit a=>.lit (!a)
 | x=>.not x
def beqB:BE→BE→BE
 | .lit a,.lit b=>.lit (a == b)
 | x,y=>.beq x y
def arI (o:BinOp) (x y:IE):Option SC:=match o with
 | .add=>some (mkI (addI x y))
 | .sub=>some (mkI (subI x y))
 | .mul=>some (mkI (mulI x y))
 | .eql=>some (mkB (eqI x y))
 | .neq=>some (mkB (notB (eqI x y)))
 | .lss=>some (mkB (ltI x y))
 | .leq=>some (mkB (leI x y))
 | .gtr=>some (mkB (ltI y x))
 | .geq=>some (mkB (leI y x))
 | _=>none
def arB (o:BinOp) (x y:BE):Option SC:=match o with
 | .eql=>some (mkB (beqB x y))
 | .neq=>some (mkB (notB (beqB x y)))
 | _=>none
def arS (o:BinOp) (x y:SE):Option SC:=match o with
 | .eql=>some (mkB (.seq x y))
 | .neq=>some (mkB (notB (.seq x y)))
 | _=>none
def binS (P:Program) (sz:List (Option (Sh × Nat × Nat))) (o:BinOp) (t:TypeId) (x y:SC):Option SC :=
 match iOf x,iOf y with
 | some a,some b=>arI o a b
 | _,_=>match bOf sz x,bOf sz y with
  | some a,some b=>if zdj P t then arB o a b else none
  | _,_=>match sOf sz x,sOf sz y with
   | some a,some b=>arS o a b
   | _,_=>none
def lenQ (P:Program) (sz:List (Option (Sh × Nat × Nat))) (t:TypeId) (x:SC):Option SC:=match x with
 | .sl _ _ n _=>if (slE P t).isSome then some (.lit (.int .i64 n)) else none
 | .sv _ n=>if (slE P t).isSome then some (.lit (.int .i64 n)) else none
 | x=>match lOf sz x with
  | some .nil=>if (slE P t).isSome then some (.lit (.int .i64 0)) else none
  | some (.var k j)=>if (slE P t).isSome then some (.ix (.len k j)) else none
  | none=>match sOf sz x with
   | some (.lit l)=>if zcX P t then some (.lit (.int .i64 l.length)) else none
   | some (.var k)=>if zcX P t then some (.ix (.len k 0)) else none
   | none=>none
def rowS (cs:List SC) (off n:Nat):Option (List SC):=if Nat.ble (off+n) cs.length then some ((cs.drop off).take n) else none
def fldS (P:Program) (o:Option (TypeId × Nat)) (cs:List SC):Option S1:=match o with
 | some p=>if (P.underlying p.1).isSome then
   (match aggT P p.1 with
   | none=>match cs[p.2]? with
    | some c=>some (.one c)
    | none=>none
   | some n=>match rowS cs p.2 n with
    | some l=>some (.agg l)
    | none=>none) else none
 | none=>none
def SC.no16:SC→Bool
 | .lit (.int .u16 _)=>false
 | _=>true
def loadS (P:Program) (h:List (Option (List SC))) (t:TypeId) (b off:Nat):Option S1:=match h[b]? with
 | some (some cs)=>match aggT P t with
  | none=>match cs[off]? with
   | some c=>if c.no16 then some (.one c) else none
   | none=>none
  | some n=>if (P.underlying t).isSome then
    (match rowS cs off n with
    | some l=>if l.all SC.no16 then some (.agg l) else none
    | none=>none) else none
 | _=>none
def one? : Option SV→Option SC
 | some (.v (.one c))=>some c
 | _=>none
def v1 (c:Option SC):Option SV:=match c with
 | some c=>some (.v (.one c))
 | none=>none
def vv (c:Option S1):Option SV:=match c with
 | some c=>some (.v c)
 | none=>none
def isBS (sz:List (Option (Sh × Nat × Nat))) (c:SC):Option SC:=match bOf sz c with
 | some e=>some (mkB e)
 | none=>none
def pickS (sz:List (Option (Sh × Nat × Nat))) (c a b:Option SC):Option SC:=match c with
 | some (.lit (.bool true))=>match a with
  | some x=>isBS sz x
  | none=>none
 | some (.lit (.bool false))=>match b with
  | some x=>isBS sz x
  | none=>none
 | _=>none
def arE (P:Program) (t:TypeId):Option (Nat × TypeId × Nat):=match P.underlying t with
 | some (.array n e)=>(P.info? e).map fun i=>(n,e,i.size)
 | _=>none
def lightS (P:Program) (S:SS):Op→Option SV
 | .move x=>opnd S.g x
 | .assign x=>opnd S.g x
 | .pick c a b=>v1 (pickS S.sz (one? (opnd S.g c)) (one? (opnd S.g a)) (one? (opnd S.g b)))
 | .binOp o t x y _=>match one? (opnd S.g x),one? (opnd S.g y) with
  | some a,some b=>v1 (binS P S.sz o t a b)
  | _,_=>none
 | .unOp o _ x=>match o,one? (opnd S.g x) with
  | .not,some a=>match bOf S.sz a with
   | some e=>some (.v (.one (mkB (notB e))))
   | none=>none
  | .neg,some a=>match iOf a with
   | some (.lit z)=>some (.v (.one (.lit (.int .i64 (IntKind.i64.wrap (0-z))))))
   | some e=>some (.v (.one (.ix (.neg e))))
   | none=>none
  | _,_=>none
 | .nilCheck x=>match one? (opnd S.g x) with
  | some (.ptr b off)=>some (.v (.one (.ptr b off)))
  | _=>none
 | .fieldAddr t x f=>match zen P t f,one? (opnd S.g x) with
  | some o,some (.ptr b off)=>some (.v (.one (.ptr b (off+o.2))))
  | _,_=>none
 | .field t x f=>match opnd S.g x with
  | some (.v (.agg cs))=>vv (fldS P (zen P t f) cs)
  | _=>none
 | .indexAddr t x i=>match one? (opnd S.g x),one? (opnd S.g i) with
  | some (.sl b off n _),some (.lit (.int _ z))=>match slE P t with
   | some size=>if decide (0≤z) && decide (z<n) then some (.v (.one (.ptr b (off+z.toNat*size)))) else none
   | none=>none
  | some (.sv b n),some (.lit (.int _ z))=>match slE P t with
   | some size=>if decide (0≤z) && decide (z<n) then some (.v (.one (.ptr b (0+z.toNat*size)))) else none
   | none=>none
  | some (.ptr b off),some (.lit (.int _ z))=>match arE P t with
   | some a=>if decide (0≤z) && decide (z<a.1) then some (.v (.one (.ptr b (off+z.toNat*a.2.2)))) else none
   | none=>none
  | _,_=>none
 | .index t x i=>match opnd S.g x,one? (opnd S.g i),arE P t with
  | some (.v (.agg cs)),some (.lit (.int _ z)),some a=>if decide (0≤z) && decide (z<a.1) then vv (fldS P (some (a.2.1,z.toNat*a.2.2)) cs) else none
  | _,_,_=>none
 | .slice t x none none none=>match one? (opnd S.g x),arE P t with
  | some (.ptr b off),some a=>some (.v (.one (.sl b off a.1 a.1)))
  | _,_=>none
 | .load t x=>match one? (opnd S.g x) with
  | some (.ptr b off)=>vv (loadS P S.h t b off)
  | _=>none
 | .extract x i=>match opnd S.g x with
  | some (.t l)=>vv l[i]?
  | _=>none
 | .call { callee:=.builtin .len,args:=args,argTypes:=ts }=>match args.toList,ts.toList with
  | [x],[t]=>match one? (opnd S.g x) with
   | some c=>v1 (lenQ P S.sz t c)
   | none=>none
  | _,_=>none
 | _=>none
def SC.okc:SC→Bool
 | .lit v=>v.oneCell'
 | _=>true
def cells1:S1→Option (List SC)
 | .one c=>if c.okc then some [c] else none
 | .agg l=>some l
def cellsV:Option SV→Option (List SC)
 | some (.v x)=>cells1 x
 | _=>none
def putS:List SC→Nat→List SC→List SC
 | l,_,[]=>l
 | l,i,c::r=>putS (l.set i c) (i+1) r
def fillS (place:Nat→Option (Nat × Nat)) (cells:List SC):List (Nat × List SC)→Option (List SC)
 | []=>some cells
 | (i,cs)::rest=>match place i with
  | none=>none
  | some (off,size)=>if Nat.beq cs.length size && Nat.ble (off+cs.length) cells.length then fillS place (putS cells off cs) rest else none
def partsS (g:List SV):List (Nat × Operand)→Option (List (Nat × List SC))
 | []=>some []
 | (i,x)::r=>op2 (fun c l=>(i,c)::l) (cellsV (opnd g x)) (partsS g r)
def SS.put (S:SS) (d:Option Nat) (v:SV):SS:=match d with
 | some d=>{ S with g:=S.g.set d v }
 | none=>S
def SS.mem (S:SS) (b:Nat) (cs:List SC):SS:={ S with h:=S.h.set b (some cs) }
def replS (z:List Value):Nat→List SC
 | 0=>[]
 | n+1=>z.map .lit++replS z n
def isFree (S:SS) (nb:Nat):Bool:=match S.h[nb]? with
 | some none=>true
 | _=>false
def natLits:List SC→Option (List Nat)
 | []=>some []
 | .lit (.int .u16 (.ofNat n))::r=>if Nat.blt n 65536 then op2 List.cons (some n) (natLits r) else none
 | _=>none
def undS:SV:=.v (.one (.lit undef))
def objS (sz:List (Option (Sh × Nat × Nat))) (sh:Sh) (cs:List SC):Option Nat:=match sh,cs with
 | .r,[.ob k 0,.ob k' 1,.ob k'' 2]=>match shOf sz k with
  | some .r=>if Nat.beq k k' && Nat.beq k k'' then some k else none
  | _=>none
 | .y,[.ob k 0,.ob k' 1]=>match shOf sz k with
  | some .y=>if Nat.beq k k' then some k else none
  | _=>none
 | .w,[.ob k 0]=>match shOf sz k with
  | some .w=>some k
  | _=>none
 | _,_=>none
def parseA (sz:List (Option (Sh × Nat × Nat))) (sh:Sh) (cs:List SC):Option SA:=match objS sz sh cs with
 | some k=>some (.ob k)
 | none=>match sh,cs with
  | .n,[c]=>op1 .n (iOf c)
  | .b,[c]=>op1 .b (bOf sz c)
  | .s,[c]=>op1 .s (sOf sz c)
  | .r,[c,d,e]=>op3 .r (bOf sz c) (lOf sz d) (lOf sz e)
  | .y,[c,d]=>op2 .y (bOf sz c) (lOf sz d)
  | .u,[c]=>op1 .u (lOf sz c)
  | .w,[.lit (.int .u64 z)]=>some (.w z)
  | _,_=>none
def parseL (sz:List (Option (Sh × Nat × Nat))):List Sh→List SC→Option (List SA)
 | [],[]=>some []
 | [],_::_=>none
 | sh::r,cs=>if Nat.ble sh.size cs.length then op2 List.cons (parseA sz sh (cs.take sh.size)) (parseL sz r (cs.drop sh.size)) else none
def single:List Sh→Bool
 | [.r]=>false
 | [.y]=>false
 | [_]=>true
 | _=>false
def slTot:List Sh→Nat
 | []=>0
 | sh::r=>sh.size+slTot r
def noSl:List Sh→Bool
 | .sl _::_=>false
 | _=>true
def parseB (sz:List (Option (Sh × Nat × Nat))) (h:List (Option (List SC))) (n:Nat) (shs:List Sh) (b off m:Nat):Option (List SA) :=
 if Nat.beq m n then (match h[b]? with
  | some (some cs)=>if Nat.ble (off+slTot shs) cs.length && ((cs.drop off).take (slTot shs)).all SC.no16 then parseL sz shs ((cs.drop off).take (slTot shs)) else none
  | _=>none) else none
def parseS (sz:List (Option (Sh × Nat × Nat))) (h:List (Option (List SC))) (n:Nat) (shs:List Sh):S1→Option (List SA)
 | .one (.sl b off m _)=>parseB sz h n shs b off m
 | .one (.sv b m)=>parseB sz h n shs b 0 m
 | _=>none
def parseO (sz:List (Option (Sh × Nat × Nat))) (shs:List Sh):S1→Option (List SA)
 | .one c=>if single shs then parseL sz shs [c] else none
 | .agg l=>if single shs then none else parseL sz shs l
def parse1 (sz:List (Option (Sh × Nat × Nat))) (h:List (Option (List SC))) (shs:List Sh) (x:S1):Option (List SA):=match shs with
 | .sl n::r=>parseS sz h n r x
 | shs=>parseO sz shs x
def zcJ (sz:List (Option (Sh × Nat × Nat))) (h:List (Option (List SC))):List (List Sh)→List SV→Option (List SA)
 | [],[]=>some []
 | shs::r,.v x::q=>op2 (· ++ ·) (parse1 sz h shs x) (zcJ sz h r q)
 | _,_=>none
def max2 (x y:Nat × Nat):Nat × Nat:=(max x.1 y.1,max x.2 y.2)
def szK (sz:List (Option (Sh × Nat × Nat))) (k:Nat):Option (Nat × Nat):=match sz[k]? with
 | some (some p)=>some p.2
 | _=>none
def szL (sz:List (Option (Sh × Nat × Nat))):LE→Option (Nat × Nat)
 | .nil=>some (0,0)
 | .var k _=>szK sz k
def szA (sz:List (Option (Sh × Nat × Nat))):SA→Option (Nat × Nat)
 | .ob k=>szK sz k
 | .r _ l m=>op2 max2 (szL sz l) (szL sz m)
 | .y _ l=>szL sz l
 | .u l=>szL sz l
 | _=>some (0,0)
def szAll (sz:List (Option (Sh × Nat × Nat))):List SA→Option (Nat × Nat)
 | []=>some (0,0)
 | a::r=>op2 max2 (szA sz a) (szAll sz r)
def zec (base:Nat):Sh→List SC
 | .n=>[.ix (.var base)]
 | .b=>[.bx (.var base)]
 | .s=>[.ob base 0]
 | .r=>[.ob base 0,.ob base 1,.ob base 2]
 | .y=>[.ob base 0,.ob base 1]
 | .u=>[.ob base 0]
 | .w=>[.ob base 0]
 | .k z=>[.lit (.int .i64 z)]
 | .kb x=>[.lit (.bool x)]
 | .sl _=>[]
def zed:Nat→List Sh→List SC
 | _,[]=>[]
 | base,sh::r=>zec base sh++zed (base+1) r
def comp1 (base:Nat) (shs:List Sh):S1:=match single shs,zed base shs with
 | true,[c]=>.one c
 | _,l=>.agg l
def compL:Nat→List (List Sh)→List S1
 | _,[]=>[]
 | base,shs::r=>comp1 base shs::compL (base+shs.length) r
def packS:List S1→SV
 | [x]=>.v x
 | l=>.t l
def enters (P:Program) (f:Nat):Bool:=match P.funcs[f]? with
 | some fn => !(fn.name == "runtime.NumGoroutine") && fn.body.isSome
 | none=>false
def opnds (g:List SV):List Operand→Option (List SV)
 | []=>some []
 | x::r=>op2 List.cons (opnd g x) (opnds g r)
def pickC (Γ:Gam) (sz:List (Option (Sh × Nat × Nat))) (h:List (Option (List SC))) (als:List SV):Nat→Nat→Option (Nat × Ct)
 | 0,_=>none
 | n+1,f=>match Γ f with
  | none=>none
  | some c=>if (zcJ sz h c.args als).isSome then some (f,c) else pickC Γ sz h als n (f+8192)
def callS (L:Nat) (c:Ct) (f:Nat) (args:List SV) (S:SS):Tr (List S1 × SS):=match zcJ S.sz S.h c.args args with
 | some sas=>match szAll S.sz sas with
  | some p=>if Nat.ble (L*p.1+p.2) c.L && c.res.all noSl then
    .call f sas S.sz.length (.leaf (compL S.sz.length c.res,{ S with sz:=S.sz++c.res.flatten.map fun sh=>some (sh,c.A*p.1,c.A*p.2+c.B) }))
   else .bad
  | none=>.bad
 | none=>.bad
section
variable (P:Program) (Γ:Gam) (L:Nat) (call:Nat→List SV→SS→Tr (List S1 × SS))
def noPtr (n0:Nat):SC→Bool
 | .ptr b _=>Nat.ble (b+1) n0
 | .sl b _ _ _=>Nat.ble (b+1) n0
 | .sv b _=>Nat.ble (b+1) n0
 | _=>true
def noPtr1 (n0:Nat):S1→Bool
 | .one c=>noPtr n0 c
 | .agg l=>l.all (noPtr n0)
def noPtrB (n0:Nat):Option (List SC)→Bool
 | some l=>l.all (noPtr n0)
 | none=>true
def gcS (n0:Nat) (p:List S1 × SS):SS:=if p.1.all (noPtr1 n0) && (p.2.h.take n0).all (noPtrB n0) then { p.2 with h:=p.2.h.take n0 } else p.2
def putO (sz:List (Option (Sh × Nat × Nat))) (k:Nat) (p:Sh × Nat × Nat):Option (List (Option (Sh × Nat × Nat))):=if Nat.beq k sz.length then some (sz++[some p]) else match sz[k]? with
 | some none=>some (sz.set k (some p))
 | _=>none
def heavyS (lo nb ob:Nat) (S:SS) (o:Oper):Tr SS:=match o.op with
 | .alloc t=>match zdI P t with
  | some z=>if isFree S nb then .leaf ((S.mem nb (z.toList.map .lit)).put o.dst (.v (.one (.ptr nb 0)))) else .bad
  | none=>.bad
 | .box _ x=>match cellsV (opnd S.g x) with
  | some cs=>if isFree S nb then .leaf ((S.mem nb cs).put o.dst (.v (.one (.ptr nb 0)))) else .bad
  | none=>.bad
 | .build t parts=>match stZ P t,partsS S.g parts.toList with
  | some (z,l),some pl=>match fillS (l[·]?) (z.toList.map .lit) pl with
   | some cs=>.leaf (S.put o.dst (.v (.agg cs)))
   | none=>.bad
  | none,some pl=>match arE P t,zdI P t with
   | some a,some z=>match fillS (fun i=>some (i*a.2.2,a.2.2)) (z.toList.map .lit) pl with
    | some cs=>.leaf (S.put o.dst (.v (.agg cs)))
    | none=>.bad
   | _,_=>.bad
  | _,_=>.bad
 | .buildSlice t len parts=>match slZ P t,partsS S.g parts.toList with
  | some (e,size,z),some pl=>if Nat.beq z.size size && Nat.ble (len*size) 16777216 && isFree S nb then
    (match fillS (fun i=>some (i*size,size)) (replS z.toList len) pl with
    | some cs=>match natLits cs with
     | some (n::l)=>if Nat.beq (l.length+1) len then (match putO S.sz ob (Sh.u,0,len) with
      | some sz'=>.obj (n::l) ob (.leaf ({ S with sz:=sz' }.put o.dst (.v (.one (.ob ob 0)))))
      | none=>.bad) else .bad
     | _=>.leaf ((S.mem nb cs).put o.dst (.v (.one (.sl nb 0 len len))))
    | none=>.bad) else .bad
  | _,_=>.bad
 | .store t x y=>match one? (opnd S.g x),cellsV (opnd S.g y),(P.info? t).map (·.size) with
  | some (.ptr b off),some vs,some n=>match S.h[b]? with
   | some (some cs)=>if Nat.ble lo b && Nat.beq vs.length n && Nat.ble (off+vs.length) cs.length && vs.all SC.okc && cs.all SC.no16 then
     .leaf ((S.mem b (putS cs off vs)).put o.dst undS) else .bad
   | _=>.bad
  | _,_,_=>.bad
 | .call { callee:=.value (.func f),args:=args,argTypes:=_ }=>match opnds S.g args.toList with
  | some als=>if enters P f then
    (match pickC Γ S.sz S.h als 6 f with
    | some p=>if Nat.beq (p.1 % 8192) f then callS L p.2 p.1 als S else .bad
    | none=>call f als S).bind fun (p:List S1 × SS)=>.leaf ({ gcS S.h.length p with g:=S.g }.put o.dst (packS p.1))
   else .bad
  | none=>.bad
 | _=>.bad
def forceS (S:SS) (d:Option Nat) (k:SS→Tr SS):Tr SS:=match d with
 | none=>k S
 | some d=>match S.g[d]? with
  | some (.v (.one c))=>match c with
   | .lit _=>k S
   | c=>match bOf S.sz c with
    | some e=>.br e (k { S with g:=S.g.set d (.v (.one (.lit (.bool true)))) }) (k { S with g:=S.g.set d (.v (.one (.lit (.bool false)))) })
    | none=>.bad
  | _=>.bad
def pickD:Op→Option Nat
 | .pick (.tmp c) _ _=>some c
 | _=>none
def gdS (ops:Array Oper) (o:Oper):Option Nat:=match o.guard with
 | none=>none
 | some (j,_)=>zdy ops[j]?
def wantS (ops:Array Oper) (S:SS) (o:Oper):Option Bool:=match o.guard with
 | none=>some true
 | some (j,b)=>match zdy ops[j]? with
  | none=>some false
  | some d=>match S.g[d]? with
   | some (.v (.one (.lit v)))=>some (wantV v b)
   | _=>none
def room (S:SS):SS:={ S with h:=S.h++[none] }
def stepS (ops:Array Oper) (lo:Nat) (light:Bool) (h0:Option (List (Option (List SC)))) (nb:Option (Nat × Nat)) (S:SS) (o:Oper):Tr SS :=
 forceS S (gdS ops o) fun S=>match wantS ops S o with
 | some false=>.leaf (S.put o.dst undS)
 | some true=>if light then forceS S (pickD o.op) fun S=>match lightS P (match h0 with|some h=>{ S with h:=h }|none=>S) o.op with
   | some v=>.leaf (S.put o.dst v)
   | none=>.bad
  else match nb with
   | some nb=>heavyS P Γ L call lo nb.1 nb.2 S o
   | none=>heavyS P Γ L call lo S.h.length S.sz.length (room S) o
 | none=>.bad
def evL (ops:Array Oper) (lo:Nat):List Oper→SS→Tr SS
 | [],S=>.leaf S
 | o::r,S=>(stepS P Γ L call ops lo (!zaY P o.op) none none S o).bind (evL ops lo r)
def zdJ:Op→Bool
 | .store ..=>true
 | _=>false
def evP (ops:Array Oper) (lo:Nat):List (Nat × Nat)→SS→Tr SS
 | [],S=>.leaf S
 | (i,k)::r,S=>match ops[i]? with
  | none=>.bad
  | some o=>if Nat.beq k 1 && zdJ o.op then .bad else (stepS P Γ L call ops lo (Nat.beq k 0) none none S o).bind (evP ops lo r)
end
def ieq:IE→IE→Bool
 | .lit a,.lit b=>decide (a=b)
 | .var a,.var b=>Nat.beq a b
 | .len a i,.len b j=>Nat.beq a b && Nat.beq i j
 | .add a b,.add c d=>ieq a c && ieq b d
 | .sub a b,.sub c d=>ieq a c && ieq b d
 | .mul a b,.mul c d=>ieq a c && ieq b d
 | .neg a,.neg b=>ieq a b
 | _,_=>false
def seq:SE→SE→Bool
 | .lit a,.lit b=>decide (a=b)
 | .var a,.var b=>Nat.beq a b
 | _,_=>false
def beq:BE→BE→Bool
 | .lit a,.lit b=>a == b
 | .var a,.var b=>Nat.beq a b
 | .bit a,.bit b=>Nat.beq a b
 | .eq a b,.eq c d=>ieq a c && ieq b d
 | .lt a b,.lt c d=>ieq a c && ieq b d
 | .le a b,.le c d=>ieq a c && ieq b d
 | .not a,.not b=>beq a b
 | .beq a b,.beq c d=>beq a c && beq b d
 | .seq a b,.seq c d=>seq a c && seq b d
 | _,_=>false
def leq:LE→LE→Bool
 | .nil,.nil=>true
 | .var a i,.var b j=>Nat.beq a b && Nat.beq i j
 | _,_=>false
def aeq:SA→SA→Bool
 | .ob a,.ob b=>Nat.beq a b
 | .n a,.n b=>ieq a b
 | .b a,.b b=>beq a b
 | .s a,.s b=>seq a b
 | .r a b c,.r d e f=>beq a d && leq b e && leq c f
 | .y a b,.y d e=>beq a d && leq b e
 | .u a,.u b=>leq a b
 | .w a,.w b=>decide (a=b)
 | _,_=>false
def veq:Value→Value→Bool
 | .int k n,.int k' n'=>decide (k=k') && decide (n=n')
 | .bool a,.bool b=>a == b
 | .string a,.string b=>decide (bs a=bs b)
 | .pointer none,.pointer none=>true
 | .slice none a b,.slice none c d=>Nat.beq a c && Nat.beq b d
 | .tuple a,.tuple b=>a.isEmpty && b.isEmpty
 | _,_=>false
def ceq:SC→SC→Bool
 | .lit a,.lit b=>veq a b
 | .ob a i,.ob b j=>Nat.beq a b && Nat.beq i j
 | .ix a,.ix b=>ieq a b
 | .bx a,.bx b=>beq a b
 | .ptr a i,.ptr b j=>Nat.beq a b && Nat.beq i j
 | .sl a b c d,.sl a' b' c' d'=>Nat.beq a a' && Nat.beq b b' && Nat.beq c c' && Nat.beq d d'
 | .sv a b,.sv a' b'=>Nat.beq a a' && Nat.beq b b'
 | _,_=>false
def lseq {α:Type} (f:α→α→Bool):List α→List α→Bool
 | [],[]=>true
 | a::l,b::m=>f a b && lseq f l m
 | _,_=>false
def oeq {α:Type} (f:α→α→Bool):Option α→Option α→Bool
 | none,none=>true
 | some a,some b=>f a b
 | _,_=>false
def s1eq:S1→S1→Bool
 | .one a,.one b=>ceq a b
 | .agg a,.agg b=>lseq ceq a b
 | _,_=>false
def sveq:SV→SV→Bool
 | .v a,.v b=>s1eq a b
 | .t a,.t b=>lseq s1eq a b
 | _,_=>false
def szeq (a b:Sh × Nat × Nat):Bool:=Nat.beq a.1.num b.1.num && Nat.beq a.2.1 b.2.1 && Nat.beq a.2.2 b.2.2
def sseq (S T:SS):Bool:=lseq sveq S.g T.g && lseq (oeq (lseq ceq)) S.h T.h && lseq (oeq szeq) S.sz T.sz
def treq:Tr SS→Tr SS→Bool
 | .leaf a,.leaf b=>sseq a b
 | .br c t f,.br c' t' f'=>beq c c' && treq t t' && treq f f'
 | .call f l b t,.call f' l' b' t'=>Nat.beq f f' && lseq aeq l l' && Nat.beq b b' && treq t t'
 | .obj l b t,.obj l' b' t'=>decide (l=l') && Nat.beq b b' && treq t t'
 | _,_=>false
def treqU:Tr SS→Tr SS→Bool
 | .br c t f,.br c' t' f'=>beq c c' && treqU t t' && treqU f f'
 | .obj l b (.obj m k u),.obj m' k' (.obj l' b' u')=>if Nat.beq b k then false else if Nat.beq b b' then decide (l=l') && decide (m=m') && Nat.beq k k' && treq u u' else treq (.obj l b (.obj m k u)) (.obj m' k' (.obj l' b' u'))
 | t,t'=>treq t t'
inductive Pn where
 | lin (l:List (Nat × Nat))
 | tree (p:Pl)
inductive Ex where
 | nrm
 | ret
 | ex (i:Nat)
section
variable (P:Program) (Γ:Gam) (L:Nat) (call:Nat→List SV→SS→Tr (List S1 × SS))
def evT (ops:Array Oper) (lo so:Nat) (h0:List (Option (List SC))):Pl→SS→Tr SS
 | .done,S=>.leaf S
 | .li i r,S=>match ops[i]? with
  | none=>.bad
  | some o=>(stepS P Γ L call ops lo true (some h0) none S o).bind (evT ops lo so h0 r)
 | .hv i r,S=>match ops[i]? with
  | none=>.bad
  | some o=>(stepS P Γ L call ops lo false none (some (lo+i,so+i)) S o).bind (evT ops lo so h0 r)
 | .fork i r q,S=>match ops[i]? with
  | none=>.bad
  | some o=>match (stepS P Γ L call ops lo false none (some (lo+i,so+i)) S o).bind (evT ops lo so h0 r) with
   | t=>if treqU t (evT ops lo so h0 q S) then t else .bad
def findD:List Oper→Nat→Option Op
 | [],_=>none
 | o::r,a=>match o.dst with
  | some d=>if Nat.beq d a then some o.op else findD r a
  | none=>findD r a
def baseOf (g:List SV) (ops:List Oper):Nat→Nat→Option Nat
 | 0,_=>none
 | k+1,a=>match findD ops a with
  | some (.fieldAddr _ (.tmp c) _)=>baseOf g ops k c
  | some (.indexAddr _ (.tmp c) _)=>baseOf g ops k c
  | some (.move (.tmp c))=>baseOf g ops k c
  | _=>match one? g[a]? with
   | some (.ptr b _)=>some b
   | some (.sl b _ _ _)=>some b
   | some (.sv b _)=>some b
   | _=>none
def zet (g:List SV) (ops:List Oper):List Oper→List Nat
 | []=>[]
 | o::r=>match o.op with
  | .store _ (.tmp a) _=>match baseOf g ops 5 a with
   | some b=>b::zet g ops r
   | none=>zet g ops r
  | _=>zet g ops r
def memN:List Nat→Nat→Bool
 | [],_=>false
 | a::r,b=>Nat.beq a b || memN r b
def maskX (X:List Nat):Nat→List (Option (List SC))→List (Option (List SC))
 | _,[]=>[]
 | i,c::r=>(if memN X i then none else c)::maskX X (i+1) r
def isBlk (h:List (Option (List SC))) (b:Nat):Bool:=match h[b]? with
 | some (some _)=>true
 | _=>false
def storeIn (X:List Nat) (S:SS) (o:Oper):Bool:=match o.op with
 | .store _ x _=>match one? (opnd S.g x) with
  | some (.ptr b _)=>memN X b
  | _=>false
 | _=>true
def stepX (ops:Array Oper) (lo:Nat) (X:List Nat) (S:SS) (o:Oper):Tr SS :=
 forceS S (gdS ops o) fun S=>match wantS ops S o with
 | some false=>.leaf (S.put o.dst undS)
 | some true=>if storeIn X S o then heavyS P Γ L call lo S.h.length S.sz.length (room S) o else .bad
 | none=>.bad
def evX (ops:Array Oper) (lo:Nat) (X:List Nat):List (Nat × Nat)→SS→Tr SS
 | [],S=>.leaf S
 | (i,k)::r,S=>match ops[i]? with
  | none=>.bad
  | some o=>(match k with
   | 0=>stepS P Γ L call ops lo true (some (maskX X 0 S.h)) none S o
   | _=>stepX P Γ L call ops lo X S o).bind (evX ops lo X r)
def storeInT (X:List Nat) (l0:Nat) (S:SS) (o:Oper):Bool:=match o.op with
 | .store _ x _=>match one? (opnd S.g x) with
  | some (.ptr b _)=>memN X b || Nat.ble l0 b
  | _=>false
 | _=>true
def stepXT (ops:Array Oper) (lo l0:Nat) (X:List Nat) (nb:Nat × Nat) (S:SS) (o:Oper):Tr SS :=
 forceS S (gdS ops o) fun S=>match wantS ops S o with
 | some false=>.leaf (S.put o.dst undS)
 | some true=>if storeInT X l0 S o then heavyS P Γ L call lo nb.1 nb.2 S o else .bad
 | none=>.bad
def evTX (ops:Array Oper) (lo l0 so:Nat) (X:List Nat) (h0:List (Option (List SC))):Pl→SS→Tr SS
 | .done,S=>.leaf S
 | .li i r,S=>match ops[i]? with
  | none=>.bad
  | some o=>(stepS P Γ L call ops lo true (some h0) none S o).bind (evTX ops lo l0 so X h0 r)
 | .hv i r,S=>match ops[i]? with
  | none=>.bad
  | some o=>(stepXT P Γ L call ops lo l0 X (l0+i,so+i) S o).bind (evTX ops lo l0 so X h0 r)
 | .fork i r q,S=>match ops[i]? with
  | none=>.bad
  | some o=>match (stepXT P Γ L call ops lo l0 X (l0+i,so+i) S o).bind (evTX ops lo l0 so X h0 r) with
   | t=>if treqU t (evTX ops lo l0 so X h0 q S) then t else .bad
def drawOkX (n:Nat) (ops:Array Oper) (plan:List (Nat × Nat)):Bool :=
 zem n ops && plan.length == ops.size && canB .any ops (fun _=>true) plan (Array.replicate ops.size false)
def evXR (ops:Array Oper) (lo:Nat) (l:List (Nat × Nat)) (S:SS) (X:List Nat):Tr SS:=if X.all (isBlk S.h) then evX P Γ L call ops lo X l S else .bad
def evR (plans:Nat→Option Pn) (n lo id:Nat) (ops:Array Oper) (draw:Bool) (S:SS):Tr SS:=match draw with
 | false=>if zem n ops then evL P Γ L call ops lo ops.toList S else .bad
 | true=>match plans id with
  | some (.lin l)=>if drawOk n ops l then evP P Γ L call ops lo l S else if drawOkX n ops l then evXR P Γ L call ops lo l S (zet S.g ops.toList ops.toList) else .bad
  | some (.tree p)=>if drawOkT n ops p then (match zet S.g ops.toList ops.toList with
   | []=>evT P Γ L call ops S.h.length S.sz.length S.h p { S with h:=S.h++List.replicate ops.size none,sz:=S.sz++List.replicate ops.size none }
   | X=>if X.all (isBlk S.h) then evTX P Γ L call ops lo S.h.length S.sz.length X (maskX X 0 S.h) p { S with h:=S.h++List.replicate ops.size none,sz:=S.sz++List.replicate ops.size none } else .bad) else .bad
  | none=>.bad
def evLoop (b:SS→Tr (Ex × SS)):Nat→SS→Tr (Ex × SS)
 | 0,_=>.bad
 | k+1,S=>(b S).bind fun p=>match p.1 with
  | .nrm=>evLoop b k p.2
  | .ret=>.leaf (.ret,p.2)
  | .ex i=>.leaf (.ex i,p.2)
def evC (plans:Nat→Option Pn) (n lo lf:Nat):Code→SS→Tr (Ex × SS)
 | .skip,S=>.leaf (.nrm,S)
 | .region id ops draw,S=>(evR P Γ L call plans n lo id ops draw S).bind fun S'=>.leaf (.nrm,S')
 | .seq x y,S=>(evC plans n lo lf x S).bind fun p=>match p.1 with
  | .nrm=>evC plans n lo lf y p.2
  | .ret=>.leaf (.ret,p.2)
  | .ex i=>.leaf (.ex i,p.2)
 | .cond c x y,S=>if slotOk n c then (match one? (opnd S.g c) with
  | some c=>match bOf S.sz c with
   | some (.lit true)=>evC plans n lo lf x S
   | some (.lit false)=>evC plans n lo lf y S
   | some e=>.br e (evC plans n lo lf x S) (evC plans n lo lf y S)
   | none=>.bad
  | none=>.bad) else .bad
 | .block id x,S=>(evC plans n lo lf x S).bind fun p=>match p.1 with
  | .nrm=>.leaf (.nrm,p.2)
  | .ret=>.leaf (.ret,p.2)
  | .ex i=>.leaf (if Nat.beq i id then .nrm else .ex i,p.2)
 | .loop x,S=>evLoop (evC plans n lo lf x) lf S
 | .exit i,S=>.leaf (.ex i,S)
 | .ret,S=>.leaf (.ret,S)
 | _,_=>.bad
def resS (S:SS):List ResultVar→Option (List S1)
 | []=>some []
 | .tmp t::r=>op2 List.cons (match S.g[t]? with
  | some (.v x)=>some x
  | _=>none) (resS S r)
 | .cell a t::r=>op2 List.cons (match one? S.g[a]? with
  | some (.ptr b off)=>loadS P S.h t b off
  | _=>none) (resS S r)
def evFn (plans:Nat→Nat→Option Pn) (lf:Nat) (f:Nat) (xs:List SV) (S:SS):Tr (List S1 × SS):=match P.funcs[f]? with
 | none=>.bad
 | some fn=>match fn.body with
  | none=>.bad
  | some c=>if resIn fn.ntmps fn.results.toList && Nat.ble xs.length fn.ntmps then
    (evC P Γ L call (plans f) fn.ntmps S.h.length lf c { S with g:=xs++List.replicate (fn.ntmps-xs.length) undS }).bind fun p=>match p.1 with
     | .ex _=>.bad
     | _=>match resS P p.2 fn.results.toList with
      | some l=>.leaf (l,p.2)
      | none=>.bad
   else .bad
end
def evF (P:Program) (Γ:Gam) (L:Nat) (plans:Nat→Nat→Option Pn) (lf:Nat):Nat→Nat→List SV→SS→Tr (List S1 × SS)
 | 0,_,_,_=>.bad
 | k+1,f,xs,S=>evFn P Γ L (evF P Γ L plans lf k) plans lf f xs S
def outS (sz:List (Option (Sh × Nat × Nat))) (h:List (Option (List SC))) (res:List (List Sh)) (A B:Nat) (l:List S1):Tr (List SA):=match zcJ sz h res (l.map .v) with
 | some sas=>match szAll sz sas with
  | some p=>if Nat.ble p.1 A && Nat.ble p.2 B then .leaf sas else .bad
  | none=>.bad
 | none=>.bad
def argsSz (l:List Sh):List (Option (Sh × Nat × Nat)):=l.map fun sh=>some (sh,1,0)
def evTop (P:Program) (Γ:Gam) (plans:Nat→Nat→Option Pn) (lf k f:Nat) (args res:List (List Sh)) (L A B:Nat):Tr (List SA) :=
 if args.all noSl then (evF P Γ L plans lf k f ((compL 0 args).map .v) { g:=[],h:=[],sz:=argsSz args.flatten }).bind fun p=>outS p.2.sz p.2.h res A B p.1 else .bad
def mkU:SC:=.lit (.int .u16 0)
end Go.Proofs.YtefhenfofomjhaaGreat
