/- ParserPrograms: the program of any string, or the first error and where it is, is that of the specification. -/
import Derived.Test.YtefhenfofomjhaaGreatRx1
import Derived.Test.YtefhenfofomjhaaGreatEq3
import Derived.Test.YtefhenfofomjhaaGreatEv1
set_option linter.unusedSimpArgs false
set_option linter.unusedVariables false
set_option maxHeartbeats 4000000
set_option maxRecDepth 20000
namespace Go.Proofs.YtefhenfofomjhaaGreat
open Go Go.RowKit Go.V
theorem ProgPost.open {w w':World} {r:List Stm × Int × Int} {e:Ending} (h:ProgPost w r e w'):∃ (a:Option Addr) (c:Nat) (rows:List (List Value)),e = .returned (.tuple #[.agg #[.slice a r.1.length c],.int .i64 r.2.1,.int .i64 r.2.2])∧SXS w' (fun _=>True) a r.1 rows∧Below w.heap.size w w':=by
 obtain ⟨a,c,rows,rfl,h1,h2,h3,h4,h5⟩:=h
 exact ⟨a,c,rows,rfl,⟨zca h1,by unfold maxLen;omega,h3.mono (fun _ _=>trivial)⟩,h5⟩
theorem parserPrograms_any (s:ByteArray) (w:World) (hs:s.size≤maxLen) :
  Calls Tryz.prog 4 #[.string s] w fun e w'=>e = .returned (.bool true)∧Below w.heap.size w w':=by
 obtain ⟨⟨l,p,q⟩,hr⟩:∃ r:List Stm × Int × Int,progV s=r:=⟨_,rfl⟩
 have k1:∀ w,Calls Tryz.prog 8 #[.string s] w fun e w'=>∃ (a:Option Addr) (c:Nat) (rows:List (List Value)),e = .returned (.tuple #[.agg #[.slice a l.length c],.int .i64 p,.int .i64 q])∧SXS w' (fun _=>True) a l rows∧Below w.heap.size w w':=fun w=>by
  have:=parseProg_any s w hs
  rw [hr] at this
  exact this.mono (fun e w' h=>h.open)
 have k2:∀ w,Calls Tryz.prog 9 #[.string s] w fun e w'=>∃ (a:Option Addr) (c:Nat) (rows:List (List Value)),e = .returned (.tuple #[.agg #[.slice a l.length c],.int .i64 p,.int .i64 q])∧SXS w' (fun _=>True) a l rows∧Below w.heap.size w w':=fun w=>by
  have:=refProg_any s w hs
  rw [hr] at this
  exact this.mono (fun e w' h=>h.open)
 clear hr
 refine za5 (rs:=[.tmp 2]) (n:=63) Tryz.func4 rfl rfl rfl (by kernel_rfl) ?_
 have hA0:=Below.refl w.heap.size w
 refine zzr fun K hK=>?_
 simp [go_sem,za0,za4,za1]
 apply hK;clear hK K
 refine zab (fun K1 hK1=>?_)
 by_cases hbig:(4000:Int)<s.size
 ·have hbig':4000<s.size:=by omega
  refine zzr fun K hK=>?_
  simp [go_sem,za0,za4,za1, hbig,hbig']
  apply hK;clear hK K
  refine zaf (t:=true) (by simp [go_sem,hbig,hbig']) rfl ?_
  refine zzr fun K hK=>?_
  simp [go_sem,za0,za4,za1]
  refine zzc rfl Tryz.call8 (fun R hR=>?_)
  simp [go_sem,za0,za4,za1]
  refine (k1 _).mono ?_
  rintro e w1 ⟨a1,c1,rows1,rfl,h1,hE1⟩
  refine ⟨_,rfl,hR _ _ ?_⟩
  clear hR R
  replace hA0:=hA0.next hE1
  simp [go_sem,za0,za4,za1]
  refine zza rfl zdk (fun w10 b10 hE10 hle10 hB10=>?_)
  have hb10_0:=Nat.le_trans hA0.size hle10
  replace hA0:=hA0.next hE10
  simp [go_sem,za0,za4,za1,hB10.cell]
  refine zzs (b:=b10) (off:=0) [.slice a1 l.length c1] rfl zcj hB10 (fun w11 hS11 hB11=>?_) (by simp [go_sem,Value.cells])
  simp [zaw] at hB11
  replace hA0:=hA0.nextS hS11 (by first|exact hb10_0|omega)
  simp [go_sem,za0,za4,za1,hB11.cell]
  apply hK;clear hK K
  refine zzr fun K hK=>?_
  simp [go_sem,za0,za4,za1,hB11.cell]
  refine zzc rfl Tryz.call9 (fun R hR=>?_)
  simp [go_sem,za0,za4,za1,hB11.cell]
  refine (k2 _).mono ?_
  rintro e w20 ⟨a2,c2,rows2,rfl,h2,hE20⟩
  refine ⟨_,rfl,hR _ _ ?_⟩
  clear hR R
  replace hA0:=hA0.next hE20
  replace hB11:=hB11.keep hE20
  simp [go_sem,za0,za4,za1,hB11.cell]
  refine zza rfl zdk (fun w30 b30 hE30 hle30 hB30=>?_)
  have hb30_0:=Nat.le_trans hA0.size hle30
  have hd10_30:b10≠b30:=Nat.ne_of_lt (Nat.lt_of_lt_of_le hB11.lt hle30)
  replace hA0:=hA0.next hE30
  replace hB11:=hB11.keep hE30
  simp [go_sem,za0,za4,za1,hB11.cell,hB30.cell]
  refine zzs (b:=b30) (off:=0) [.slice a2 l.length c2] rfl zcj hB30 (fun w31 hS31 hB31=>?_) (by simp [go_sem,Value.cells])
  simp [zaw] at hB31
  replace hA0:=hA0.nextS hS31 (by first|exact hb30_0|omega)
  replace hB11:=hB11.sto hS31 (by first|exact hd10_30|exact (hd30_10).symm)
  simp [go_sem,za0,za4,za1,hB11.cell,hB31.cell]
  apply hK;clear hK K
  refine zzr fun K hK=>?_
  simp [go_sem,za0,za4,za1,hB11.cell,hB31.cell]
  apply hK;clear hK K
  refine zad ?_
  repeat first|refine za3 ?_|refine za2 ?_
  refine ⟨trivial,?_,hA0⟩
  simp [go_sem,zar,zam]
 ·have hbig':¬4000<s.size:=by omega
  refine zzr fun K hK=>?_
  simp [go_sem,za0,za4,za1, hbig,hbig']
  apply hK;clear hK K
  refine zaf (t:=false) (by simp [go_sem, hbig,hbig']) rfl ?_
  refine za7 ?_
  apply hK1
  refine zzr fun K hK=>?_
  simp [go_sem,za0,za4,za1]
  refine zzc rfl Tryz.call8 (fun R hR=>?_)
  simp [go_sem,za0,za4,za1]
  refine (k1 _).mono ?_
  rintro e w1 ⟨a1,c1,rows1,rfl,h1,hE1⟩
  refine ⟨_,rfl,hR _ _ ?_⟩
  clear hR R
  replace hA0:=hA0.next hE1
  have hA2:=Below.refl (w1).heap.size (w1)
  simp [go_sem,za0,za4,za1]
  refine zza rfl zdk (fun w10 b10 hE10 hle10 hB10=>?_)
  have hb10_0:=Nat.le_trans hA0.size hle10
  have hb10_1:=Nat.le_trans hA2.size hle10
  replace hA0:=hA0.next hE10
  replace hA2:=hA2.next hE10
  simp [go_sem,za0,za4,za1,hB10.cell]
  refine zzs (b:=b10) (off:=0) [.slice a1 l.length c1] rfl zcj hB10 (fun w11 hS11 hB11=>?_) (by simp [go_sem,Value.cells])
  simp [zaw] at hB11
  replace hA0:=hA0.nextS hS11 (by first|exact hb10_0|omega)
  replace hA2:=hA2.nextS hS11 (by first|exact hb10_1|omega)
  simp [go_sem,za0,za4,za1,hB11.cell]
  apply hK;clear hK K
  refine zzr fun K hK=>?_
  simp [go_sem,za0,za4,za1,hB11.cell]
  refine zzc rfl Tryz.call9 (fun R hR=>?_)
  simp [go_sem,za0,za4,za1,hB11.cell]
  refine (k2 _).mono ?_
  rintro e w20 ⟨a2,c2,rows2,rfl,h2,hE20⟩
  refine ⟨_,rfl,hR _ _ ?_⟩
  clear hR R
  replace hA0:=hA0.next hE20
  replace hA2:=hA2.next hE20
  replace hB11:=hB11.keep hE20
  have hA21:=Below.refl (w20).heap.size (w20)
  simp [go_sem,za0,za4,za1,hB11.cell]
  refine zza rfl zdk (fun w30 b30 hE30 hle30 hB30=>?_)
  have hb30_0:=Nat.le_trans hA0.size hle30
  have hb30_1:=Nat.le_trans hA2.size hle30
  have hb30_2:=Nat.le_trans hA21.size hle30
  have hd10_30:b10≠b30:=Nat.ne_of_lt (Nat.lt_of_lt_of_le hB11.lt hle30)
  replace hA0:=hA0.next hE30
  replace hA2:=hA2.next hE30
  replace hA21:=hA21.next hE30
  replace hB11:=hB11.keep hE30
  simp [go_sem,za0,za4,za1,hB11.cell,hB30.cell]
  refine zzs (b:=b30) (off:=0) [.slice a2 l.length c2] rfl zcj hB30 (fun w31 hS31 hB31=>?_) (by simp [go_sem,Value.cells])
  simp [zaw] at hB31
  replace hA0:=hA0.nextS hS31 (by first|exact hb30_0|omega)
  replace hA2:=hA2.nextS hS31 (by first|exact hb30_1|omega)
  replace hA21:=hA21.nextS hS31 (by first|exact hb30_2|omega)
  replace hB11:=hB11.sto hS31 (by first|exact hd10_30|exact (hd30_10).symm)
  simp [go_sem,za0,za4,za1,hB11.cell,hB31.cell]
  apply hK;clear hK K
  refine zzr fun K hK=>?_
  simp [go_sem,za0,za4,za1,hB11.cell,hB31.cell]
  refine zzc rfl Tryz.call10 (fun R hR=>?_)
  simp [go_sem,za0,za4,za1,hB11.cell,hB31.cell]
  refine (sameProg_any l _ _ _ _ _ _ _ _ _ (h1.ext hA2) (h2.ext hA21)).mono ?_
  rintro e w32 ⟨rfl,hE32⟩
  refine ⟨_,rfl,hR _ _ ?_⟩
  clear hR R
  replace hA0:=hA0.next hE32
  replace hA2:=hA2.next hE32
  replace hA21:=hA21.next hE32
  replace hB11:=hB11.keep hE32
  replace hB31:=hB31.keep hE32
  simp [go_sem,za0,za4,za1,hB11.cell,hB31.cell]
  apply hK;clear hK K
  refine zad ?_
  repeat first|refine za3 ?_|refine za2 ?_
  refine ⟨trivial,?_,hA0⟩
  simp [go_sem,zar,zam]
set_option maxRecDepth 100000 in
theorem parserPrograms_lifted (os:Os) (started:os.Started) (H:Type) (enc:TypeId × Value→H) :
  ReturnsInHanded {} Tryz.checked os 4 .any (Rows.parserProgramsSpec.pre6 enc Tryz.prog Tryz.f4 Rows.parserProgramsRow.domain false) (Rows.parserProgramsSpec.post enc Tryz.prog Tryz.f4 false true false false):=by
 refine law_lifted (C:=Tryz.checked) (s:=Rows.parserProgramsSpec) Tryz.own Tryz.laidOut (by kernel_rfl) Tryz.func4 rfl 4 rfl Tryz.underlying4 (by kernel_rfl) enc ?_ ?_ os started
  (ChangeSpec.witness6 (enc:=enc) (C:=Tryz.checked) false ⟨#[],#[.string ⟨#[]⟩],[]⟩ 8 (by kernel_rfl) (by kernel_rfl) (by kernel_rfl) (by kernel_rfl))
 ·intro ds hl
  match ds,hl with
  | [d0],_=>rfl
 ·intro W base args ds ps hval hA hlt _
  have hA':DataW.TrodAll enc Tryz.prog W 0 (fun _=>true) true [9] args.toList ds ps:=hA
  have hval':∀ (j:Nat) t v,Tryz.f4.params[j]? = some t→args[j]? = some v→Value.okWide Tryz.prog W .any base t v:=hval
  obtain ⟨v0,d0,rfl,rfl,h0⟩:=Go.ChangeShapes.trodAll_one hA'
  obtain ⟨s,rfl,rfl,rfl,hs_s⟩:=Go.ChangeMaps.open_string Tryz.underlying9 (hval' 0 9 v0 rfl rfl) h0
  exact parserPrograms_any s W hs_s
theorem parserPrograms_holds:Rows.ParserProgramsSaid :=
 OpenClaim.holds_of_wide 4 Tryz.f4 rfl rfl rfl rfl rfl rfl rfl ⟨rfl,rfl,rfl,rfl,rfl⟩ rfl rfl rfl rfl rfl (by kernel_rfl) Tryz.func4 (by kernel_rfl)
  (of_decide_eq_true (by kernel_rfl)) (by unfold Func.isWrapper;first|(rw [if_pos (by decide +kernel)];kernel_rfl)|(rw [if_neg (by decide +kernel)];exact ⟨rfl,rfl⟩))
  (fun os started H enc _=>parserPrograms_lifted os started H enc)
end Go.Proofs.YtefhenfofomjhaaGreat
