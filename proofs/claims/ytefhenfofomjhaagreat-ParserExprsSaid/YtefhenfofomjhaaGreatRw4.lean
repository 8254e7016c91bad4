/- The reference's parser: names, kinds, what is expected. -/
import Derived.Test.YtefhenfofomjhaaGreatRw3
import Derived.Test.YtefhenfofomjhaaGreatVF
import Derived.Test.YtefhenfofomjhaaGreatLx3
set_option linter.unusedSimpArgs false
set_option linter.unusedVariables false
namespace Go.Proofs.YtefhenfofomjhaaGreat
open Go Go.RowKit Go.V
set_option maxRecDepth 20000
theorem rparams_any (k:Int) (w:World):Calls Tryz.prog 63 #[.int .i64 k] w fun e w'=>∃ a c,e = .returned (.slice a (zbY k).length c)∧SL w' a (intC (zbY k))∧(∀ ad,a=some ad→w.heap.size≤ad.block)∧Below w.heap.size w w':=by
 refine za7 (args:=[.int .i64 k]) (rs:=[.tmp 2]) (n:=6) Tryz.func63 rfl rfl rfl (by kernel_rfl) ?_
 have hA0:=Below.refl w.heap.size w
 first|refine zzr fun K hK=>?_|refine zzt fun K hK=>?_
 simp [go_sem,za0,za4,za1]
 refine hK _ _ ?_;clear hK K
 first|refine zzr fun K hK=>?_|refine zzt fun K hK=>?_
 simp [go_sem,za0,za4,za1]
 refine za5 (by simp [go_sem,za0,za4,za1]) rfl Tryz.call82 (fun R hR=>?_)
 simp [go_sem,za0,za4,za1]
 refine (find_any k _).mono ?_
 rintro e w1 ⟨a,c,rfl,hs,hl,hE1⟩
 refine ⟨_,rfl,hR _ _ ?_⟩
 clear hR R
 replace hA0:=hA0.next hE1
 simp [go_sem,za0,za4,za1]
 refine hK _ _ ?_;clear hK K
 refine zaf ?_
 repeat (first|refine za3 ?_|refine za2 ?_)
 refine ⟨trivial,a,c,?_,hs,hl,hA0⟩
 simp [go_sem,zat,zas]
theorem rhas_any (k:Int) (w:World):Calls Tryz.prog 64 #[.int .i64 k] w fun e w'=>e = .returned (.bool (hasR k))∧Below w.heap.size w w':=by
 refine za7 (args:=[.int .i64 k]) (rs:=[.tmp 2]) (n:=9) Tryz.func64 rfl rfl rfl (by kernel_rfl) ?_
 have hA0:=Below.refl w.heap.size w
 first|refine zzr fun K hK=>?_|refine zzt fun K hK=>?_
 simp [go_sem,za0,za4,za1]
 refine hK _ _ ?_;clear hK K
 by_cases h1:k=11
 ·first|refine zzr fun K hK=>?_|refine zzt fun K hK=>?_
  simp [go_sem,za0,za4,za1, h1]
  refine hK _ _ ?_;clear hK K
  refine zaf ?_
  repeat (first|refine za3 ?_|refine za2 ?_)
  refine ⟨trivial,?_,hA0⟩
  simp [go_sem,zat,zas,hasR,h1]
 ·by_cases h2:k=68
  ·first|refine zzr fun K hK=>?_|refine zzt fun K hK=>?_
   simp [go_sem,za0,za4,za1, h1,h2]
   refine hK _ _ ?_;clear hK K
   refine zaf ?_
   repeat (first|refine za3 ?_|refine za2 ?_)
   refine ⟨trivial,?_,hA0⟩
   simp [go_sem,zat,zas,hasR,h1,h2]
  ·first|refine zzr fun K hK=>?_|refine zzt fun K hK=>?_
   simp [go_sem,za0,za4,za1, h1,h2]
   refine hK _ _ ?_;clear hK K
   refine zaf ?_
   repeat (first|refine za3 ?_|refine za2 ?_)
   refine ⟨trivial,?_,hA0⟩
   simp [go_sem,zat,zas,hasR,h1,h2]
theorem strL_at {l:List (List UInt8)} {i:Nat} (h:i<l.length):(l.map strV).getD i undef=strV (l.getD i []):=by
 simp [List.getD_eq_getElem?_getD,h]
set_option maxHeartbeats 1000000 in
theorem has_any (l:List (List UInt8)) (a:Option Addr) (c:Nat) (t:List UInt8) (w:World) (h:SL w a (l.map strV)) (hl:l.length≤maxLen):Calls Tryz.prog 61 #[.slice a l.length c,.string ⟨t.toArray⟩] w fun e w'=>e = .returned (.bool (decide (t∈l)))∧Below w.heap.size w w':=by
 unfold maxLen at hl
 refine za7 (args:=[.slice a l.length c,.string ⟨t.toArray⟩]) (rs:=[.tmp 4]) (n:=17) Tryz.func61 rfl rfl rfl (by kernel_rfl) ?_
 have hA0:=Below.refl w.heap.size w
 first|refine zzr fun K hK=>?_|refine zzt fun K hK=>?_
 simp [go_sem,za0,za4,za1]
 refine hK _ _ ?_;clear hK K
 refine zac (fun K1 hK1=>?_)
 first|refine zzr fun K hK=>?_|refine zzt fun K hK=>?_
 simp [go_sem,za0,za4,za1]
 refine hK _ _ ?_;clear hK K
 refine zae ?_
 refine zaE (fun m' g w'=>w'=w∧∃ j:Nat,j≤l.length∧m'=l.length-j∧(∀ i,i<j→l.getD i []≠t)∧g 1 = .string ⟨t.toArray⟩∧g 7 = .slice a l.length c∧g 8 = .int .i64 l.length∧g 9 = .int .i64 j) l.length ?_ ?_
 ·exact ⟨rfl,0,by omega,rfl,fun i hi=>by omega,by simp [go_sem],by simp [go_sem],by simp [go_sem],by simp [go_sem]⟩
 rintro m' g w' ⟨rfl,j,hj,rfl,hno,g1,g7,g8,g9⟩
 by_cases hlt:j<l.length
 ·have c1:(j:Int)<l.length:=by omega
  have hw1:IntKind.i64.wrap ((j:Int)+1)=(j+1:Nat):=by rw [IntWalk.i64_in _ (by omega)];omega
  obtain ⟨q1,q2⟩:=h.getD (j:=j) (by simpa using hlt)
  rw [strL_at hlt] at q1
  have hno':=hno
  obtain ⟨z,hz⟩:∃ z,z=l.getD j []:=⟨_,rfl⟩
  rw [←hz] at q1
  unfold strV at q1
  first|refine zzr fun K hK=>?_|refine zzt fun K hK=>?_
  simp [go_sem,za0,za4,za1,g1,g7,g8,g9, c1,hlt]
  refine hK _ _ ?_;clear hK K
  refine zac (fun K2 hK2=>?_)
  refine zai (t:=true) (by simp [go_sem,za0,za4,za1,g1,g7,g8,g9,c1,hlt]) rfl ?_
  refine zaa ?_
  refine hK2 _ _ ?_
  refine zac (fun K3 hK3=>?_)
  refine zae ?_
  first|refine zzr fun K hK=>?_|refine zzt fun K hK=>?_
  simp [go_sem,za0,za4,za1,g1,g7,g8,g9, c1,hlt,q1,q2]
  refine hK _ _ ?_;clear hK K
  by_cases he:z=t
  ·have hin:t∈l:=by
    rw [←he,hz,List.getD_eq_getElem?_getD,List.getElem?_eq_getElem hlt];exact List.getElem_mem hlt
   first|refine zzr fun K hK=>?_|refine zzt fun K hK=>?_
   simp [go_sem,za0,za4,za1,g1,g7,g8,g9, he]
   refine hK _ _ ?_;clear hK K
   refine zai (t:=true) (by simp [go_sem,za0,za4,za1,g1,g7,g8,g9,he]) rfl ?_
   first|refine zzr fun K hK=>?_|refine zzt fun K hK=>?_
   simp [go_sem,za0,za4,za1,g1,g7,g8,g9]
   refine hK _ _ ?_;clear hK K
   refine zaf ?_
   repeat (first|refine za3 ?_|refine za2 ?_)
   refine ⟨trivial,?_,hA0⟩
   simp [go_sem,zat,zas,hin]
  ·first|refine zzr fun K hK=>?_|refine zzt fun K hK=>?_
   simp [go_sem,za0,za4,za1,g1,g7,g8,g9, he]
   refine hK _ _ ?_;clear hK K
   refine zai (t:=false) (by simp [go_sem,za0,za4,za1,g1,g7,g8,g9,he]) rfl ?_
   refine zaa ?_
   refine hK3 _ _ ?_
   refine zzt fun K hK=>?_
   simp [go_sem,g9,hw1]
   refine hK _ _ ⟨l.length-(j+1),by omega,rfl,j+1,by omega,rfl,fun i hi=>?_,by simp [go_sem,g1],by simp [go_sem,g7],by simp [go_sem,g8],by simp [go_sem]⟩
   by_cases hij:i=j
   ·rw [hij,←hz];exact he
   ·exact hno i (by omega)
 ·have c1:¬(j:Int)<l.length:=by omega
  have hnin:t∉l:=by
   intro hin
   obtain ⟨i,hi,e⟩:=List.getElem_of_mem hin
   refine hno i (by omega) ?_
   rw [List.getD_eq_getElem?_getD,List.getElem?_eq_getElem hi];exact e
  first|refine zzr fun K hK=>?_|refine zzt fun K hK=>?_
  simp [go_sem,za0,za4,za1,g1,g7,g8,g9, c1,hlt]
  refine hK _ _ ?_;clear hK K
  refine zac (fun K2 hK2=>?_)
  refine zai (t:=false) (by simp [go_sem,za0,za4,za1,g1,g7,g8,g9,c1,hlt]) rfl ?_
  refine zaz ?_
  repeat (first|refine zag ?_|refine za8 rfl ?_|refine zab ?_)
  refine hK1 _ _ ?_
  first|refine zzr fun K hK=>?_|refine zzt fun K hK=>?_
  simp [go_sem,za0,za4,za1,g1,g7,g8,g9]
  refine hK _ _ ?_;clear hK K
  refine zaf ?_
  repeat (first|refine za3 ?_|refine za2 ?_)
  refine ⟨trivial,?_,hA0⟩
  simp [go_sem,zat,zas,hnin]
theorem kwR_any (w:World):Calls Tryz.prog 62 #[] w fun e w'=>∃ a,e = .returned (.slice a KW.length 29)∧SL w' a (KW.map strV)∧Below w.heap.size w w':=by
 refine (kwr_any w).mono ?_
 rintro e w' ⟨b,rfl,hE,hle,hB⟩
 refine ⟨some ⟨b,0,none⟩,rfl,?_,hE⟩
 have:=SL.whole hB
 unfold KWC at this
 simpa using this
set_option maxHeartbeats 1000000 in
theorem risName_any (t:Tok) (w:World):Calls Tryz.prog 39 #[.agg (zbH t).toArray] w fun e w'=>e = .returned (.bool (decide (t.k=1) && !isKw t.t))∧Below w.heap.size w w':=by
 refine za7 (args:=[.agg #[.int .i64 t.k,.int .i64 t.p,.int .i64 t.e,.string ⟨t.t.toArray⟩]]) (rs:=[.tmp 2]) (n:=13) Tryz.func39 rfl rfl rfl (by kernel_rfl) ?_
 have hA0:=Below.refl w.heap.size w
 first|refine zzr fun K hK=>?_|refine zzt fun K hK=>?_
 simp [go_sem,za0,za4,za1]
 refine zc5 #[.int .i64 t.k,.int .i64 t.p,.int .i64 t.e,.string ⟨t.t.toArray⟩] (by simp [go_sem,za0,za4,za1]) rfl (by simp [go_sem,Value.cells,za0,za4,za1]) (fun w1 b1 hE1 hle1 hB1=>?_)
 have hb1_0:=Nat.le_trans hA0.size hle1
 replace hA0:=hA0.next hE1
 simp [go_sem,za0,za4,za1,hB1.cell]
 refine hK _ _ ?_;clear hK K
 by_cases h1:t.k=1
 ·have h1':(t.k:Int)=1:=by omega
  have hD2:=Below.drew1 w1
  replace hA0:=hA0.next hD2
  replace hB1:=hB1.keep hD2
  first|refine W_rd [(0,0),(1,0),(2,0),(3,0),(5,0),(6,0),(4,1),(7,1),(8,0),(9,0),(10,0)] (by kernel_rfl) (by kernel_rfl) (fun K hK=>?_)|refine zbG [(0,0),(1,0),(2,0),(3,0),(5,0),(6,0),(4,1),(7,1),(8,0),(9,0),(10,0)] (by kernel_rfl) (by kernel_rfl) (fun K hK=>?_)
  simp [go_sem,za0,za4,za1,hB1.cell, h1,h1']
  refine za5 (by simp [go_sem,za0,za4,za1,hB1.cell]) rfl Tryz.call62 (fun R hR=>?_)
  simp [go_sem,za0,za4,za1,hB1.cell]
  refine (kwR_any _).mono ?_
  rintro e w3 ⟨ka,rfl,hks,hE3⟩
  refine ⟨_,rfl,(by assumption),hR _ _ ?_⟩
  clear hR R
  replace hA0:=hA0.next hE3
  replace hB1:=hB1.keep hE3
  simp [go_sem,za0,za4,za1,hB1.cell,h1,h1']
  refine za5 (by simp [go_sem,za0,za4,za1,hB1.cell,h1,h1']) rfl Tryz.call61 (fun R hR=>?_)
  simp [go_sem,za0,za4,za1,hB1.cell,h1,h1']
  refine (has_any KW ka 29 t.t _ hks (by decide)).mono ?_
  rintro e w4 ⟨rfl,hE4⟩
  refine ⟨_,rfl,(by assumption),hR _ _ ?_⟩
  clear hR R
  replace hA0:=hA0.next hE4
  replace hB1:=hB1.keep hE4
  simp [go_sem,za0,za4,za1,hB1.cell,h1,h1']
  refine hK _ _ ?_;clear hK K
  refine zaf ?_
  repeat (first|refine za3 ?_|refine za2 ?_)
  refine ⟨trivial,?_,hA0⟩
  simp [go_sem,zat,zas,h1,isKw]
 ·have h1':¬(t.k:Int)=1:=by omega
  have hD5:=Below.drew1 w1
  replace hA0:=hA0.next hD5
  replace hB1:=hB1.keep hD5
  first|refine W_rd [(0,0),(1,0),(2,0),(3,0),(5,0),(6,0),(4,1),(7,1),(8,0),(9,0),(10,0)] (by kernel_rfl) (by kernel_rfl) (fun K hK=>?_)|refine zbG [(0,0),(1,0),(2,0),(3,0),(5,0),(6,0),(4,1),(7,1),(8,0),(9,0),(10,0)] (by kernel_rfl) (by kernel_rfl) (fun K hK=>?_)
  simp [go_sem,za0,za4,za1,hB1.cell, h1,h1']
  refine hK _ _ ?_;clear hK K
  refine zaf ?_
  repeat (first|refine za3 ?_|refine za2 ?_)
  refine ⟨trivial,?_,hA0⟩
  simp [go_sem,zat,zas,h1]
set_option maxHeartbeats 1000000 in
theorem zdW (t:Tok) (sort:Int) (w:World):Calls Tryz.prog 18 #[.agg (zbH t).toArray,.int .i64 sort] w fun e w'=>e = .returned (.int .i64 (if t.k≠1 then 0 else if sort=0 then max (wsS t.t 2) (wsS t.t 3) else wsS t.t sort))∧Below w.heap.size w w':=by
 refine za7 (args:=[.agg #[.int .i64 t.k,.int .i64 t.p,.int .i64 t.e,.string ⟨t.t.toArray⟩],.int .i64 sort]) (rs:=[.tmp 4]) (n:=21) Tryz.func18 rfl rfl rfl (by kernel_rfl) ?_
 have hA0:=Below.refl w.heap.size w
 first|refine zzr fun K hK=>?_|refine zzt fun K hK=>?_
 simp [go_sem,za0,za4,za1]
 refine zc5 #[.int .i64 t.k,.int .i64 t.p,.int .i64 t.e,.string ⟨t.t.toArray⟩] (by simp [go_sem,za0,za4,za1]) rfl (by simp [go_sem,Value.cells,za0,za4,za1]) (fun w1 b1 hE1 hle1 hB1=>?_)
 have hb1_0:=Nat.le_trans hA0.size hle1
 replace hA0:=hA0.next hE1
 simp [go_sem,za0,za4,za1,hB1.cell]
 refine hK _ _ ?_;clear hK K
 refine zac (fun K1 hK1=>?_)
 by_cases h1:t.k=1
 ·have h1':(t.k:Int)=1:=by omega
  first|refine zzr fun K hK=>?_|refine zzt fun K hK=>?_
  simp [go_sem,za0,za4,za1,hB1.cell, h1,h1']
  refine hK _ _ ?_;clear hK K
  refine zai (t:=false) (by simp [go_sem,za0,za4,za1,hB1.cell, h1,h1']) rfl ?_
  refine zaa ?_
  refine hK1 _ _ ?_
  refine zac (fun K2 hK2=>?_)
  first|refine zzr fun K hK=>?_|refine zzt fun K hK=>?_
  simp [go_sem,za0,za4,za1,hB1.cell]
  refine hK _ _ ?_;clear hK K
  by_cases h0:sort=0
  ·refine zai (t:=true) (by simp [go_sem,za0,za4,za1,hB1.cell,h0]) rfl ?_
   have hD2:=Below.drew1 w1
   replace hA0:=hA0.next hD2
   replace hB1:=hB1.keep hD2
   first|refine W_rd [(0,0),(1,0),(3,0),(4,0),(2,1),(5,1),(6,0),(7,0)] (by kernel_rfl) (by kernel_rfl) (fun K hK=>?_)|refine zbG [(0,0),(1,0),(3,0),(4,0),(2,1),(5,1),(6,0),(7,0)] (by kernel_rfl) (by kernel_rfl) (fun K hK=>?_)
   simp [go_sem,za0,za4,za1,hB1.cell]
   refine za5 (by simp [go_sem,za0,za4,za1,hB1.cell]) rfl Tryz.call38 (fun R hR=>?_)
   simp [go_sem,za0,za4,za1,hB1.cell]
   refine (withSort_any t.t 2 _).mono ?_
   rintro e w3 ⟨rfl,hE3⟩
   refine ⟨_,rfl,(by assumption),hR _ _ ?_⟩
   clear hR R
   replace hA0:=hA0.next hE3
   replace hB1:=hB1.keep hE3
   simp [go_sem,za0,za4,za1,hB1.cell]
   refine za5 (by simp [go_sem,za0,za4,za1,hB1.cell]) rfl Tryz.call38 (fun R hR=>?_)
   simp [go_sem,za0,za4,za1,hB1.cell]
   refine (withSort_any t.t 3 _).mono ?_
   rintro e w4 ⟨rfl,hE4⟩
   refine ⟨_,rfl,(by assumption),hR _ _ ?_⟩
   clear hR R
   replace hA0:=hA0.next hE4
   replace hB1:=hB1.keep hE4
   simp [go_sem,za0,za4,za1,hB1.cell]
   refine hK _ _ ?_;clear hK K
   refine zaf ?_
   repeat (first|refine za3 ?_|refine za2 ?_)
   refine ⟨trivial,?_,hA0⟩
   simp [go_sem,zat,zas,h1,h0]
   split<;>omega
  ·refine zai (t:=false) (by simp [go_sem,za0,za4,za1,hB1.cell, h0]) rfl ?_
   refine zaa ?_
   refine hK2 _ _ ?_
   first|refine zzr fun K hK=>?_|refine zzt fun K hK=>?_
   simp [go_sem,za0,za4,za1,hB1.cell]
   refine za5 (by simp [go_sem,za0,za4,za1,hB1.cell]) rfl Tryz.call38 (fun R hR=>?_)
   simp [go_sem,za0,za4,za1,hB1.cell]
   refine (withSort_any t.t sort _).mono ?_
   rintro e w5 ⟨rfl,hE5⟩
   refine ⟨_,rfl,hR _ _ ?_⟩
   clear hR R
   replace hA0:=hA0.next hE5
   replace hB1:=hB1.keep hE5
   simp [go_sem,za0,za4,za1,hB1.cell]
   refine hK _ _ ?_;clear hK K
   refine zaf ?_
   repeat (first|refine za3 ?_|refine za2 ?_)
   refine ⟨trivial,?_,hA0⟩
   simp [go_sem,zat,zas,h1,h0]
 ·have h1':¬(t.k:Int)=1:=by omega
  first|refine zzr fun K hK=>?_|refine zzt fun K hK=>?_
  simp [go_sem,za0,za4,za1,hB1.cell, h1,h1']
  refine hK _ _ ?_;clear hK K
  refine zai (t:=true) (by simp [go_sem,za0,za4,za1,hB1.cell,h1,h1']) rfl ?_
  first|refine zzr fun K hK=>?_|refine zzt fun K hK=>?_
  simp [go_sem,za0,za4,za1,hB1.cell]
  refine hK _ _ ?_;clear hK K
  refine zaf ?_
  repeat (first|refine za3 ?_|refine za2 ?_)
  refine ⟨trivial,?_,hA0⟩
  simp [go_sem,zat,zas,h1]
theorem toks_len {w:World} {la:Option Addr} {T:List Tok} (hsl:SL w la (zc9 T)) {i:Nat} (hi:i<T.length):∃ lb lo,la=some ⟨lb,lo,none⟩∧w.cell? ⟨lb,lo+i*4,none⟩=some (.int .i64 (zan T i).k)∧w.cell? ⟨lb,lo+i*4+1,none⟩=some (.int .i64 (zan T i).p)∧w.cell? ⟨lb,lo+i*4+3,none⟩=some (.string ⟨(zan T i).t.toArray⟩):=by
 have hrow:((zc9 T).drop (i*4)).take 4=zbH (zan T i):=by
  unfold zc9 zan
  refine flatN_row (ze4 T) ?_
  simp [List.getD_eq_getElem?_getD,hi]
 have key:∀ j,j<4→(zc9 T)[i*4+j]? = (zbH (zan T i))[j]? := by
  intro j hj
  have h4:(((zc9 T).drop (i*4)).take 4)[j]? = (zbH (zan T i))[j]? := by rw [hrow]
  rwa [List.getElem?_take_of_lt hj,List.getElem?_drop] at h4
 rcases hsl with h0|⟨lb,lo,e,h1⟩
 ·have:=key 0 (by decide);rw [h0] at this;simp [zbH] at this
 ·refine ⟨lb,lo,e,?_,?_,?_⟩
  ·have:=h1 (i*4+0) _ (key 0 (by decide));simpa using this
  ·have:=h1 (i*4+1) _ (key 1 (by decide));rw [←Nat.add_assoc] at this;exact this
  ·have:=h1 (i*4+3) _ (key 3 (by decide));rw [←Nat.add_assoc] at this;exact this
def zcF {α:Type}:Res α→Nat
 | .ok _ j=>j
 | .er j _=>j
def zdk {α:Type}:Res α→Int
 | .ok _ _=>0
 | .er _ e=>e
set_option maxHeartbeats 1000000 in
theorem rexpect_any {w:World} {la:Option Addr} {cap:Nat} {T:List Tok} (hsl:SL w la (zc9 T)) (hT:T.length≤20001) (i:Nat) (hi:i<T.length) (t:List UInt8) :
  Calls Tryz.prog 47 #[.slice la T.length cap,.int .i64 i,.string ⟨t.toArray⟩] w fun e w'=>e = .returned (.tuple #[.int .i64 (zcF (expS T t i)),.int .i64 (zdk (expS T t i))])∧Below w.heap.size w w':=by
 obtain ⟨lb,lo,rfl,q1,q2,q3⟩:=toks_len hsl hi
 have hi':(i:Int)<T.length:=by omega
 have hw1:IntKind.i64.wrap ((i:Int)+1)=(i+1:Nat):=by rw [IntWalk.i64_in _ (by omega)];omega
 obtain ⟨E,hE0⟩:∃ E,E=expS T t i:=⟨_,rfl⟩
 rw [←hE0]
 unfold expS at hE0
 refine za7 (args:=[.slice (some ⟨lb,lo,none⟩) T.length cap,.int .i64 i,.string ⟨t.toArray⟩]) (rs:=[.tmp 6,.tmp 7]) (n:=26) Tryz.func47 rfl rfl rfl (by kernel_rfl) ?_
 have hA0:=Below.refl w.heap.size w
 first|refine zzr fun K hK=>?_|refine zzt fun K hK=>?_
 simp [go_sem,za0,za4,za1]
 refine hK _ _ ?_;clear hK K
 refine zac (fun K1 hK1=>?_)
 by_cases h0:(zan T i).k=0
 ·have h0':((zan T i).k:Int)=0:=by omega
  rw [if_pos (.inl h0)] at hE0
  first|refine zzr fun K hK=>?_|refine zzt fun K hK=>?_
  simp [go_sem,za0,za4,za1, hi,hi',q1,q3,h0,h0']
  refine hK _ _ ?_;clear hK K
  refine zai (t:=true) (by simp [go_sem,za0,za4,za1,h0,h0']) rfl ?_
  first|refine zzr fun K hK=>?_|refine zzt fun K hK=>?_
  simp [go_sem,za0,za4,za1]
  refine hK _ _ ?_;clear hK K
  refine zaf ?_
  repeat (first|refine za3 ?_|refine za2 ?_)
  refine ⟨trivial,?_,hA0⟩
  simp [go_sem,zat,zas,hE0,zcF,zdk]
 ·have h0':¬((zan T i).k:Int)=0:=by omega
  by_cases ht:(zan T i).t=t
  ·rw [if_neg (fun h=>h.elim h0 (fun h=>h ht))] at hE0
   first|refine zzr fun K hK=>?_|refine zzt fun K hK=>?_
   simp [go_sem,za0,za4,za1, hi,hi',q1,q3,h0,h0',ht]
   refine hK _ _ ?_;clear hK K
   refine zai (t:=false) (by simp [go_sem,za0,za4,za1,h0,h0',ht]) rfl ?_
   refine zaa ?_
   refine hK1 _ _ ?_
   first|refine zzr fun K hK=>?_|refine zzt fun K hK=>?_
   simp [go_sem,za0,za4,za1, hw1]
   refine hK _ _ ?_;clear hK K
   refine zaf ?_
   repeat (first|refine za3 ?_|refine za2 ?_)
   refine ⟨trivial,?_,hA0⟩
   simp [go_sem,zat,zas,hE0,zcF,zdk]
  ·rw [if_pos (.inr ht)] at hE0
   first|refine zzr fun K hK=>?_|refine zzt fun K hK=>?_
   simp [go_sem,za0,za4,za1, hi,hi',q1,q3,h0,h0',ht]
   refine hK _ _ ?_;clear hK K
   refine zai (t:=true) (by simp [go_sem,za0,za4,za1,h0,h0',ht]) rfl ?_
   first|refine zzr fun K hK=>?_|refine zzt fun K hK=>?_
   simp [go_sem,za0,za4,za1]
   refine hK _ _ ?_;clear hK K
   refine zaf ?_
   repeat (first|refine za3 ?_|refine za2 ?_)
   refine ⟨trivial,?_,hA0⟩
   simp [go_sem,zat,zas,hE0,zcF,zdk]
end Go.Proofs.YtefhenfofomjhaaGreat
