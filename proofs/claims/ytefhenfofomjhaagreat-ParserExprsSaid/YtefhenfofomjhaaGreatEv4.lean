/- Symbolic evaluation: contracts and calls. -/
import Derived.Test.YtefhenfofomjhaaGreatEv2
set_option linter.unusedSimpArgs false
set_option linter.unusedVariables false
namespace Go.Proofs.YtefhenfofomjhaaGreat
open Go Go.RowKit Go.V
structure Ext (B:Nat) (E:En) (w:World) (E':En) (w':World):Prop where
 le:E.Le E'
 new:∀ b β,E'.bl b=some β→E.bl b=some β∨w.heap.size≤β
 bel:Below B w w'
theorem Ext.refl (B:Nat) (E:En) (w:World):Ext B E w E w:=⟨En.Le.refl E,fun _ _ h=>.inl h,Below.refl _ _⟩
theorem Ext.trans {B:Nat} {E E' E'':En} {w w' w'':World} (h:Ext B E w E' w') (h':Ext B E' w' E'' w''):Ext B E w E'' w'':=by
 refine ⟨h.le.trans h'.le,fun b β hb=>?_,h.bel.trans h'.bel⟩
 rcases h'.new b β hb with h1|h1
 ·exact h.new b β h1
 ·exact .inr (Nat.le_trans h.bel.size h1)
theorem Ext.weak {B C:Nat} {E E':En} {w w':World} (h:Ext B E w E' w') (hc:C≤B):Ext C E w E' w':=⟨h.le,h.new,h.bel.mono hc⟩
theorem SatG.le {E E':En} {l:List SV} {g:G} (h:SatG E l g) (hle:E.Le E'):SatG E' l g:=fun t v hv=>denV_mono hle (h t v hv)
theorem SatG.put {E:En} {S:SS} {g:G} (h:SatG E S.g g) (d:Option Nat) {x:SV} {v:Value} (hx:denV E x=some v):SatG E (S.put d x).g (zcd g d v):=by
 cases d with
 | none=>exact h
 | some d =>
  intro t y hy
  simp only [SS.put] at hy
  simp only [zcd,upd]
  by_cases e:t=d
  ·subst e
   rw [if_pos rfl]
   rw [List.getElem?_set] at hy
   simp at hy
   rw [←hy.2];exact hx
  ·rw [if_neg e]
   rw [List.getElem?_set_ne (Ne.symm e)] at hy
   exact h t y hy
theorem SatG.und {E:En} {S:SS} {g:G} (h:SatG E S.g g) (d:Option Nat):SatG E (S.put d undS).g (zcd g d undef):=h.put d rfl
theorem put_h (S:SS) (d:Option Nat) (x:SV):(S.put d x).h=S.h:=by cases d<;>rfl
theorem zdc (S:SS) (d:Option Nat) (x:SV):(S.put d x).sz=S.sz:=by cases d<;>rfl
theorem Rep_cell {w:World} {a:At} {cs:List Value} (h:a.Rep w cs):∀ v∈cs,v.oneCell'=true∧no16 v=true:=by
 cases a
 ·simp only [At.Rep] at h;subst h;simp [Value.oneCell',no16]
 ·simp only [At.Rep] at h;subst h;simp [Value.oneCell',no16]
 ·simp only [At.Rep] at h;subst h;simp [Value.oneCell',no16]
 ·obtain ⟨a,c,a',c',rfl,_⟩:=h;simp [Value.oneCell',no16]
 ·obtain ⟨a,c,rfl,_⟩:=h;simp [Value.oneCell',no16]
 ·obtain ⟨a,c,rfl,_⟩:=h;simp [Value.oneCell',no16]
 ·obtain ⟨rfl,h1,h2⟩:=h;intro x hx;rw [List.mem_singleton.1 hx];exact ⟨h1,h2⟩
 ·simp only [At.Rep] at h;subst h;simp [Value.oneCell',no16]
 ·simp only [At.Rep] at h;subst h;simp [Value.oneCell',no16]
section
variable {s:Nat} {E:En} {h:List (Option (List SC))} {sz:Szs} {w:World} (H:SatM s E h sz w)
include H
theorem cell_ok {c:SC} {v:Value} (hc:zcG E c=some v):(c.okc=true→v.oneCell'=true)∧(c.no16=true→no16 v=true):=by
 cases c with
 | lit u =>
  injection hc with hc;subst hc
  refine ⟨id,fun h=>?_⟩
  unfold SC.no16 at h
  unfold no16
  split
  ·simp at h
  ·rfl
 | ob k j =>
  simp only [zcG] at hc
  cases hk:E.ob k with
  | none=>simp [hk,obC] at hc
  | some q =>
   obtain ⟨p,hp⟩:=H.odom k q hk
   obtain ⟨a,cs,h1,_,h3,_⟩:=H.objs k p hp
   rw [hk] at h1;injection h1 with h1;subst h1
   simp only [hk,obC] at hc
   have:=Rep_cell h3 v (List.mem_of_getElem? hc)
   exact ⟨fun _=>this.1,fun _=>this.2⟩
 | ix e=>obtain ⟨z,_,rfl⟩:=zaG hc;exact ⟨fun _=>rfl,fun _=>rfl⟩
 | bx e=>obtain ⟨z,_,rfl⟩:=zaG hc;exact ⟨fun _=>rfl,fun _=>rfl⟩
 | ptr b off=>obtain ⟨z,_,rfl⟩:=zaG hc;exact ⟨fun _=>rfl,fun _=>rfl⟩
 | sl b off n c=>obtain ⟨z,_,rfl⟩:=zaG hc;exact ⟨fun _=>rfl,fun _=>rfl⟩
 | sv b n=>obtain ⟨z,_,rfl⟩:=zaG hc;exact ⟨fun _=>rfl,fun _=>rfl⟩
theorem cells_ok:∀ {l:List SC} {vs:List Value},zcC E l=some vs→(l.all SC.okc=true→∀ v∈vs,v.oneCell'=true)∧(l.all SC.no16=true→∀ v∈vs,no16 v=true)
 | [],_,hl=>by injection hl with hl;subst hl;simp
 | c::r,_,hl=>by
  obtain ⟨a,b,h1,h2,rfl⟩:=zau hl
  have i1:=cell_ok H h1
  have i2:=cells_ok h2
  simp only [List.all_cons,Bool.and_eq_true,List.mem_cons]
  refine ⟨fun hh v hv=>?_,fun hh v hv=>?_⟩
  ·rcases hv with rfl|hv
   ·exact i1.1 hh.1
   ·exact i2.1 hh.2 v hv
  ·rcases hv with rfl|hv
   ·exact i1.2 hh.1
   ·exact i2.2 hh.2 v hv
end
theorem cells_one {v:Value} (h:v.oneCell'=true):v.cells = #[v]:=by
 cases v<;>first|rfl|simp [Value.oneCell'] at h
theorem cells1_den {s:Nat} {E:En} {h:List (Option (List SC))} {sz:Szs} {w:World} (H:SatM s E h sz w) {x:S1} {l:List SC} {v:Value} (hx:den1 E x=some v) (hl:cells1 x=some l):∃ vs,zcC E l=some vs∧v.cells=vs.toArray:=by
 cases x with
 | one c =>
  simp only [cells1] at hl
  split at hl
  ·rename_i hok
   injection hl with hl;subst hl
   exact ⟨[v],zdb hx rfl,cells_one ((cell_ok H hx).1 hok)⟩
  ·cases hl
 | agg l' =>
  injection hl with hl;subst hl
  obtain ⟨vs,h1,rfl⟩:=zaG hx
  exact ⟨vs,h1,rfl⟩
theorem cellsV_den {s:Nat} {E:En} {h:List (Option (List SC))} {sz:Szs} {w:World} (H:SatM s E h sz w) {gl:List SV} {g:G} (HG:SatG E gl g) {x:Operand} {l:List SC} (hl:cellsV (opnd gl x)=some l):∃ vs,zcC E l=some vs∧(evG g x).cells=vs.toArray:=by
 unfold cellsV at hl
 split at hl
 ·rename_i y hy
  exact cells1_den H (zds HG hy) hl
 ·cases hl
theorem RD.off16 {w:World} {a:Option Addr} {c b:Nat} {l:List Nat} {vs:List Value} {t:TypeId} (h:RD w a c l) (hB:Bx w b vs.toArray t) (hv:∀ v∈vs,no16 v=true):∀ ad,a=some ad→l≠[]→ad.block≠b:=by
 intro ad ha hl e
 rcases h.sl with e0|⟨b',off,e1,hc⟩
 ·exact hl (List.map_eq_nil_iff.1 e0)
 ·rw [ha] at e1
  injection e1 with e1
  subst e1
  subst e
  obtain ⟨x,r,rfl⟩:∃ x r,l=x::r:=by
   cases l with
   | nil=>exact absurd rfl hl
   | cons x r=>exact ⟨x,r,rfl⟩
  have h1:=hc 0 (.int .u16 x) rfl
  rw [hB.cell] at h1
  have h2:(Value.int .u16 x)∈vs:=List.mem_of_getElem? (by simpa using h1)
  exact absurd (hv _ h2) (by simp [no16])
theorem At.Rep.keep {w w':World} {a:At} {cs:List Value} (h:a.Rep w cs) (hb:Below w.heap.size w w'):a.Rep w' cs:=by
 cases a with
 | n z=>exact h
 | b z=>exact h
 | s z=>exact h
 | w z=>exact h
 | k z=>exact h
 | kb z=>exact h
 | r neg l m=>obtain ⟨a,c,a',c',e,h1,h2⟩:=h;exact ⟨a,c,a',c',e,h1.ext hb,h2.ext hb⟩
 | y neg l=>obtain ⟨a,c,e,h1⟩:=h;exact ⟨a,c,e,h1.ext hb⟩
 | u l=>obtain ⟨a,c,e,h1⟩:=h;exact ⟨a,c,e,h1.ext hb⟩
theorem At.Rep.sto {w w':World} {a:At} {cs:List Value} {b:Nat} {vs:List Value} {t:TypeId} (h:a.Rep w cs) (hs:Sto w w' b) (hB:Bx w b vs.toArray t) (hv:∀ v∈vs,no16 v=true):a.Rep w' cs:=by
 cases a with
 | n z=>exact h
 | b z=>exact h
 | s z=>exact h
 | w z=>exact h
 | k z=>exact h
 | kb z=>exact h
 | r neg l m=>obtain ⟨a,c,a',c',e,h1,h2⟩:=h;exact ⟨a,c,a',c',e,h1.sto hs (h1.off16 hB hv),h2.sto hs (h2.off16 hB hv)⟩
 | y neg l=>obtain ⟨a,c,e,h1⟩:=h;exact ⟨a,c,e,h1.sto hs (h1.off16 hB hv)⟩
 | u l=>obtain ⟨a,c,e,h1⟩:=h;exact ⟨a,c,e,h1.sto hs (h1.off16 hB hv)⟩
theorem SatM.keep {s:Nat} {E:En} {h:List (Option (List SC))} {sz:Szs} {w w':World} (H:SatM s E h sz w) (hb:Below w.heap.size w w'):SatM s E h sz w':=by
 refine ⟨fun b cs hc=>?_,H.inj,fun b β hβ=>Nat.lt_of_lt_of_le (H.dom b β hβ) hb.size,H.hdom,fun k p hk=>?_,H.odom⟩
 ·obtain ⟨β,t,vs,h1,h2,h3⟩:=H.blocks b cs hc
  exact ⟨β,t,vs,h1,h2,h3.keep hb⟩
 ·obtain ⟨a,cs,h1,h2,h3,h4⟩:=H.objs k p hk
  exact ⟨a,cs,h1,h2,h3.keep hb,h4⟩
theorem SatM.new {s:Nat} {E:En} {h:List (Option (List SC))} {sz:Szs} {w w1:World} (H:SatM s E h sz w) {nb b:Nat} {cs:List SC} {vs:List Value} {t:TypeId} (hn:h[nb]? = some none) (hE:Below w.heap.size w w1) (hle:w.heap.size≤b) (hB:Bx w1 b vs.toArray t) (hd:zcC E cs=some vs) :
  ∃ E',SatM s E' (h.set nb (some cs)) sz w1∧E'.env=E.env∧E'.bl nb=some b∧Ext w.heap.size E w E' w1:=by
 have hnone:E.bl nb=none:=by
  cases hb:E.bl nb with
  | none=>rfl
  | some β=>obtain ⟨cs',hc⟩:=H.hdom nb β hb;rw [hn] at hc;cases hc
 let E':En:={ E with bl:=fun x=>if x=nb then some b else E.bl x }
 have hle':E.Le E':=⟨fun x β hx=>by
  show (if x=nb then some b else E.bl x)=some β
  by_cases e:x=nb
  ·subst e;rw [hnone] at hx;cases hx
  ·rw [if_neg e];exact hx,fun _ _ h=>h,rfl⟩
 have hnl:nb<h.length:=(List.getElem?_eq_some_iff.1 hn).1
 have hbl:∀ x β,E'.bl x=some β→(x=nb∧β=b)∨(x≠nb∧E.bl x=some β):=by
  intro x β hx
  have hx':(if x=nb then some b else E.bl x)=some β:=hx
  by_cases e:x=nb
  ·rw [if_pos e] at hx';injection hx' with hx';exact .inl ⟨e,hx'.symm⟩
  ·rw [if_neg e] at hx';exact .inr ⟨e,hx'⟩
 refine ⟨E',⟨fun x cs' hc=>?_,fun x y β hx hy=>?_,fun x β hx=>?_,fun x β hx=>?_,fun k p hk=>?_,H.odom⟩,rfl,if_pos rfl,hle',fun x β hx=>?_,hE⟩
 ·by_cases e:x=nb
  ·subst e
   rw [List.getElem?_set] at hc
   simp [hnl] at hc
   subst hc
   exact ⟨b,t,vs,if_pos rfl,zcP hle' hd,.inl hB⟩
  ·rw [List.getElem?_set_ne (Ne.symm e)] at hc
   obtain ⟨β,t',vs',h1,h2,h3⟩:=H.blocks x cs' hc
   exact ⟨β,t',vs',hle'.bl x β h1,zcP hle' h2,h3.keep hE⟩
 ·rcases hbl x β hx with ⟨h1,h2⟩|⟨h1,h2⟩<;>rcases hbl y β hy with ⟨h3,h4⟩|⟨h3,h4⟩
  ·rw [h1,h3]
  ·have:=H.dom y β h4;omega
  ·have:=H.dom x β h2;omega
  ·exact H.inj x y β h2 h4
 ·rcases hbl x β hx with ⟨h1,h2⟩|⟨h1,h2⟩
  ·rw [h2];exact hB.lt
  ·exact Nat.lt_of_lt_of_le (H.dom x β h2) hE.size
 ·rcases hbl x β hx with ⟨h1,h2⟩|⟨h1,h2⟩
  ·subst h1
   exact ⟨cs,by rw [List.getElem?_set];simp [hnl]⟩
  ·obtain ⟨cs',hc⟩:=H.hdom x β h2
   exact ⟨cs',by rw [List.getElem?_set_ne (Ne.symm h1)];exact hc⟩
 ·obtain ⟨a,cs',h1,h2,h3,h4⟩:=H.objs k p hk
  exact ⟨a,cs',h1,h2,h3.keep hE,h4⟩
 ·rcases hbl x β hx with ⟨h1,h2⟩|⟨h1,h2⟩
  ·exact .inr (by rw [h2];exact hle)
  ·exact .inl h2
theorem SatM.write {s:Nat} {E:En} {h:List (Option (List SC))} {sz:Szs} {w w1:World} (H:SatM s E h sz w) {b β:Nat} {cs cs':List SC} {vs vs':List Value} {t:TypeId} (hh:h[b]? = some (some cs)) (hβ:E.bl b=some β) (hB:Bx w β vs.toArray t) (hv:∀ v∈vs,no16 v=true)
  (hS:Sto w w1 β) (hB':Bx w1 β vs'.toArray t) (hd:zcC E cs'=some vs'):SatM s E (h.set b (some cs')) sz w1:=by
 have hnl:b<h.length:=(List.getElem?_eq_some_iff.1 hh).1
 refine ⟨fun x cs2 hc=>?_,H.inj,fun x γ hx=>by rw [hS.size];exact H.dom x γ hx,fun x γ hx=>?_,fun k p hk=>?_,H.odom⟩
 ·by_cases e:x=b
  ·subst e
   rw [List.getElem?_set] at hc
   simp [hnl] at hc
   subst hc
   exact ⟨β,t,vs',hβ,hd,.inl hB'⟩
  ·rw [List.getElem?_set_ne (Ne.symm e)] at hc
   obtain ⟨γ,t',us,h1,h2,h3⟩:=H.blocks x cs2 hc
   exact ⟨γ,t',us,h1,h2,h3.sto hS (fun e'=>e (H.inj x b β (by rw [h1,e']) hβ))⟩
 ·obtain ⟨c2,hc⟩:=H.hdom x γ hx
  by_cases e:x=b
  ·subst e;exact ⟨cs',by rw [List.getElem?_set];simp [hnl]⟩
  ·exact ⟨c2,by rw [List.getElem?_set_ne (Ne.symm e)];exact hc⟩
 ·obtain ⟨a,c2,h1,h2,h3,h4⟩:=H.objs k p hk
  exact ⟨a,c2,h1,h2,h3.sto hS hB hv,h4⟩
def All2 {α β:Type} (R:α→β→Prop):List α→List β→Prop
 | [],[]=>True
 | a::l,b::m=>R a b∧All2 R l m
 | _,_=>False
theorem putS_den {E:En}:∀ {cs:List SC} {us:List Value} {l:List SC} {vs:List Value} (i:Nat),zcC E l=some vs→zcC E cs=some us→zcC E (putS l i cs)=some (zaD vs.toArray i us).toList
 | [],_,l,vs,i,hl,hc=>by injection hc with hc;subst hc;simpa [putS,zaD] using hl
 | c::r,_,l,vs,i,hl,hc=>by
  obtain ⟨a,b,h1,h2,rfl⟩:=zau hc
  have:=putS_den (i+1) (denL_set i hl h1) h2
  simpa [putS,zaD] using this
theorem fold_put (off:Nat):∀ (vs:List Value) (j:Nat) (cells:Array Value),(vs.zipIdx j).foldl (fun cs (x:Value × Nat)=>cs.setIfInBounds (off+x.2) x.1) cells=zaD cells (off+j) vs
 | [],_,_=>rfl
 | v::r,j,cells=>by
  rw [List.zipIdx_cons,List.foldl_cons,fold_put off r (j+1)]
  rw [zaD];rfl
theorem fillS_den {E:En} {place:Nat→Option (Nat × Nat)}:∀ {pl:List (Nat × List SC)} {pv:List (Nat × Value)} {cells cs:List SC} {vs:List Value},zcC E cells=some vs →
  All2 (fun (p:Nat × List SC) (q:Nat × Value)=>p.1=q.1∧∃ us,zcC E p.2=some us∧q.2.cells=us.toArray) pl pv→fillS place cells pl=some cs→∃ us,zcC E cs=some us∧Instr.fill place vs.toArray pv=some us.toArray
 | [],[],cells,cs,vs,hc,hp,h=>by
  injection h with h;subst h
  exact ⟨vs,hc,rfl⟩
 | [],_::_,_,_,_,_,hp,_=>hp.elim
 | _::_,[],_,_,_,_,hp,_=>hp.elim
 | (i,c)::r,(i',v)::pv,cells,cs,vs,hc,hp,h=>by
   obtain ⟨⟨h3,us,h4,h5⟩,h2⟩:=hp
   simp only at h3 h5 h4
   subst h3
   simp only [fillS] at h
   simp only [Instr.fill]
   split at h
   ·cases h
   ·rename_i off size hpl
    split at h
    ·rename_i hcond
     simp only [Bool.and_eq_true,Nat.beq_eq,Nat.ble_eq] at hcond
     have hl1:=zd7 h4
     have hl2:=zd7 hc
     have e1:¬(v.cells.size≠size∨off+v.cells.size > vs.toArray.size):=by
      rw [h5];simp;omega
     simp only [hpl]
     rw [if_neg (by simpa using e1)]
     have e2:(v.cells.zipIdx.foldl (fun cs (x:Value × Nat)=>cs.setIfInBounds (off+x.2) x.1) vs.toArray)=zaD vs.toArray off us:=by
      rw [h5]
      have:=fold_put off us 0 vs.toArray
      rw [←Array.foldl_toList]
      simpa using this
     have ih:=fillS_den (putS_den off hc h4) h2 h
     simp only [Array.toArray_toList] at ih
     rw [show (v.cells.zipIdx.foldl (fun cs x=>match x with|(c,j)=>cs.setIfInBounds (off+j) c) vs.toArray)=zaD vs.toArray off us from e2]
     exact ih
    ·cases h
theorem partsS_den {s:Nat} {E:En} {h:List (Option (List SC))} {sz:Szs} {w:World} (H:SatM s E h sz w) {gl:List SV} {g:G} (HG:SatG E gl g):∀ {ps:List (Nat × Operand)} {pl:List (Nat × List SC)},partsS gl ps=some pl →
  All2 (fun (p:Nat × List SC) (q:Nat × Value)=>p.1=q.1∧∃ us,zcC E p.2=some us∧q.2.cells=us.toArray) pl (ps.map fun x=>(x.1,evG g x.2))
 | [],_,hp=>by injection hp with hp;subst hp;exact trivial
 | (i,x)::r,_,hp=>by
  obtain ⟨c,l,h1,h2,rfl⟩:=zau hp
  exact ⟨⟨rfl,cellsV_den H HG h1⟩,partsS_den H HG h2⟩
def Reps (w:World):List Sh→List At→List Value→Prop
 | [],als,cs=>als=[]∧cs=[]
 | sh::shs,als,cs=>∃ a r c1 c2,als=a::r∧cs=c1++c2∧a.sh=sh∧a.Rep w c1∧Reps w shs r c2
def mkV (shs:List Sh) (cs:List Value):Value:=match single shs,cs with
 | true,[v]=>v
 | _,cs=>.agg cs.toArray
def RepV (w:World):List Sh→List At→Value→Prop
 | .sl n::r,als,v=>∃ ad c cs,v = .slice ad n c∧SL w ad cs∧Reps w r als cs
 | shs,als,v=>∃ cs,Reps w shs als cs∧v=mkV shs cs
theorem RepV_of {w:World} {shs:List Sh} {als:List At} {v:Value} (h:noSl shs=true):RepV w shs als v↔∃ cs,Reps w shs als cs∧v=mkV shs cs:=by
 cases shs with
 | nil=>exact Iff.rfl
 | cons sh r=>cases sh<;>first|exact Iff.rfl|cases h
def zek (w:World):List (List Sh)→List At→List Value→Prop
 | [],als,vs=>als=[]∧vs=[]
 | shs::r,als,vs=>∃ a1 a2 v q,als=a1++a2∧vs=v::q∧RepV w shs a1 v∧zek w r a2 q
def Ct.ok (P:Program) (f:Nat) (c:Ct):Prop:=∀ (s:Nat) (w:World) (vs:List Value) (als r:List At),s≤c.L→zek w c.args als vs→(∀ a∈als,a.sz≤s)→c.F als=some r →
 Calls P f vs.toArray w fun e w'=>∃ rvs,e = .returned (zat rvs)∧zek w' c.res r rvs∧(∀ a∈r,a.sz≤c.A*s+c.B)∧Below w.heap.size w w'
def GamOk (P:Program) (Γ:Gam):Prop:=∀ f c,Γ f=some c→c.ok P (f % 8192)
theorem zbg {α β:Type} {Γ:Gam} {Q:β→Ev→Prop} {k:α→Tr β}:∀ (t:Tr α) (e:Ev),(t.bind k).sat Γ Q e↔t.sat Γ (fun a e'=>(k a).sat Γ Q e') e
 | .leaf a,e=>Iff.rfl
 | .br c t f,e=>by simp only [Tr.bind,Tr.sat,zbg t e,zbg f e]
 | .call f args base t,e=>by simp only [Tr.bind,Tr.sat,zbg t]
 | .obj l base t,e=>by simp only [Tr.bind,Tr.sat,zbg t]
 | .bad,e=>Iff.rfl
theorem sat_mono {α:Type} {Γ:Gam} {Q Q':α→Ev→Prop} (h:∀ a e,Q a e→Q' a e):∀ (t:Tr α) (e:Ev),t.sat Γ Q e→t.sat Γ Q' e
 | .leaf a,e,ht=>h a e ht
 | .br c t f,e,ht=>⟨fun hc=>sat_mono h t e (ht.1 hc),fun hc=>sat_mono h f e (ht.2 hc)⟩
 | .call f args base t,e,⟨c,als,r,h1,h2,h3,h4⟩=>⟨c,als,r,h1,h2,h3,sat_mono h t _ h4⟩
 | .obj l base t,e,ht=>sat_mono h t _ ht
 | .bad,e,ht=>ht
section
variable {s:Nat} {E:En} {h:List (Option (List SC))} {sz:Szs} {w:World} (H:SatM s E h sz w)
include H
theorem shOf_rep {k:Nat} {sh:Sh} (hs:shOf sz k=some sh):∃ a cs,E.ob k=some (a,cs)∧E.env k=some a∧a.sh=sh∧a.Rep w cs∧∃ p,szK sz k=some p∧a.sz≤p.1*s+p.2:=by
 unfold shOf at hs
 split at hs
 ·rename_i p hp
  injection hs with hs;subst hs
  obtain ⟨a,cs,h1,h2,h3,h4⟩:=H.objs k p hp
  exact ⟨a,cs,h1,env_of h1,h2,h3,p.2,by simp [szK,hp],h4⟩
 ·cases hs
theorem lOf_rd {c:SC} {e:LE} {v:Value} (hl:lOf sz c=some e) (hc:zcG E c=some v):∃ l a cap,e.ev E.env=some l∧v = .slice a l.length cap∧RD w a cap l∧(∀ p,szL sz e=some p→l.length≤p.1*s+p.2):=by
 unfold lOf at hl
 split at hl
 ·injection hl with hl;subst hl;injection hc with hc;subst hc;exact ⟨[],_,_,rfl,rfl,RD.nil _ _ _,fun p _=>by simp⟩
 ·rename_i k j
  have key:∀ sh,shOf sz k=some sh→(∀ a:At,a.sh=sh→∃ l,a.lst j=some l∧l.length≤a.sz)→∃ l a cap,(LE.var k j).ev E.env=some l∧v = .slice a l.length cap∧RD w a cap l∧(∀ p,szL sz (.var k j)=some p→l.length≤p.1*s+p.2):=by
   intro sh hs hsh
   obtain ⟨a,cs,h1,h0,h2,h3,p,h5,h6⟩:=shOf_rep H hs
   obtain ⟨l,hl,hle⟩:=hsh a h2
   obtain ⟨ad,c,h4,hrd⟩:=Rep_lst h3 hl
   simp only [zcG,h1,obC,h4] at hc
   injection hc with hc
   refine ⟨l,ad,c,by simp [LE.ev,h0,zcn,hl],hc.symm,hrd,fun q hq=>?_⟩
   simp only [szL,h5] at hq
   injection hq with hq;subst hq
   omega
  split at hl
  all_goals first
   | (rename_i hs;injection hl with hl;subst hl;refine key _ hs ?_;intro a ha;cases a<;>simp [At.sh] at ha;exact ⟨_,rfl,by simp only [At.sz];omega⟩)
   | (cases hl;done)
 ·cases hl
theorem obj_den {sh:Sh} {cs:List SC} {k:Nat} {vs:List Value} (ho:objS sz sh cs=some k) (hd:zcC E cs=some vs):∃ a,E.env k=some a∧a.sh=sh∧a.Rep w vs∧(∀ p,szK sz k=some p→a.sz≤p.1*s+p.2):=by
 unfold objS at ho
 split at ho
 ·rename_i k1 k2 k3
  split at ho
  ·rename_i hs
   split at ho
   ·rename_i hc
    injection ho with ho;subst ho
    simp only [Bool.and_eq_true,Nat.beq_eq] at hc
    obtain ⟨rfl,rfl⟩:=hc
    obtain ⟨a,cs,h1,h0,h2,h3,p,h5,h6⟩:=shOf_rep H hs
    refine ⟨a,h0,h2,?_,fun q hq=>by rw [h5] at hq;injection hq with hq;subst hq;exact h6⟩
    cases a<;>simp [At.sh] at h2
    obtain ⟨a,c,a',c',rfl,h7,h8⟩:=h3
    simp [zcC,zcG,h1,obC,op2] at hd
    exact ⟨a,c,a',c',hd.symm,h7,h8⟩
   ·cases ho
  ·cases ho
 ·rename_i k1 k2
  split at ho
  ·rename_i hs
   split at ho
   ·rename_i hc
    injection ho with ho;subst ho
    simp only [Nat.beq_eq] at hc
    subst hc
    obtain ⟨a,cs,h1,h0,h2,h3,p,h5,h6⟩:=shOf_rep H hs
    refine ⟨a,h0,h2,?_,fun q hq=>by rw [h5] at hq;injection hq with hq;subst hq;exact h6⟩
    cases a<;>simp [At.sh] at h2
    obtain ⟨a,c,rfl,h7⟩:=h3
    simp [zcC,zcG,h1,obC,op2] at hd
    exact ⟨a,c,hd.symm,h7⟩
   ·cases ho
  ·cases ho
 ·split at ho
  ·rename_i hs
   injection ho with ho;subst ho
   obtain ⟨a,cs,h1,h0,h2,h3,p,h5,h6⟩:=shOf_rep H hs
   refine ⟨a,h0,h2,?_,fun q hq=>by rw [h5] at hq;injection hq with hq;subst hq;exact h6⟩
   cases a<;>simp [At.sh] at h2
   obtain ⟨rfl,h3,h4⟩:=h3
   simp [zcC,zcG,h1,obC,op2] at hd
   exact ⟨hd.symm,h3,h4⟩
  ·cases ho
 ·cases ho
theorem parseA_den {sh:Sh} {cs:List SC} {a:SA} {vs:List Value} (hp:parseA sz sh cs=some a) (hd:zcC E cs=some vs):∃ x,a.ev E.env=some x∧x.sh=sh∧x.Rep w vs∧(∀ p,szA sz a=some p→x.sz≤p.1*s+p.2):=by
 unfold parseA at hp
 split at hp
 ·rename_i k hk
  injection hp with hp;subst hp
  exact obj_den H hk hd
 ·split at hp
  ·rename_i c
   obtain ⟨e,h1,rfl⟩:=zaG hp
   obtain ⟨v,q,h2,h3,rfl⟩:=zau hd
   injection h3 with h3;subst h3
   obtain ⟨z,h4,rfl⟩:=iOf_den h1 h2
   exact ⟨.n z,by simp [SA.ev,h4,op1],rfl,rfl,fun p _=>by simp [At.sz]⟩
  ·rename_i c
   obtain ⟨e,h1,rfl⟩:=zaG hp
   obtain ⟨v,q,h2,h3,rfl⟩:=zau hd
   injection h3 with h3;subst h3
   obtain ⟨z,h4,rfl⟩:=zdj H.o h1 h2
   exact ⟨.b z,by simp [SA.ev,h4,op1],rfl,rfl,fun p _=>by simp [At.sz]⟩
  ·rename_i c
   obtain ⟨e,h1,rfl⟩:=zaG hp
   obtain ⟨v,q,h2,h3,rfl⟩:=zau hd
   injection h3 with h3;subst h3
   obtain ⟨z,h4,rfl⟩:=sOf_den H.o h1 h2
   exact ⟨.s (bs z),by simp [SA.ev,h4,op1],rfl,by simp [At.Rep,bs],fun p _=>by simp [At.sz]⟩
  ·rename_i c d e
   obtain ⟨x,l,m,h1,h2,h3,rfl⟩:=op3_some hp
   obtain ⟨v,q,h4,h5,rfl⟩:=zau hd
   obtain ⟨v2,q2,h6,h7,rfl⟩:=zau h5
   obtain ⟨v3,q3,h8,h9,rfl⟩:=zau h7
   injection h9 with h9;subst h9
   obtain ⟨z,e1,rfl⟩:=zdj H.o h1 h4
   obtain ⟨l1,a1,c1,e2,rfl,r1,s1⟩:=lOf_rd H h2 h6
   obtain ⟨l2,a2,c2,e3,rfl,r2,s2⟩:=lOf_rd H h3 h8
   refine ⟨.r z l1 l2,by simp [SA.ev,e1,e2,e3,op3],rfl,⟨a1,c1,a2,c2,rfl,r1,r2⟩,fun p hp=>?_⟩
   obtain ⟨p1,p2,g1,g2,rfl⟩:=zau hp
   have:=s1 p1 g1
   have:=s2 p2 g2
   simp only [At.sz,max2]
   have m1:p1.1*s≤max p1.1 p2.1*s:=Nat.mul_le_mul_right _ (by omega)
   have m2:p2.1*s≤max p1.1 p2.1*s:=Nat.mul_le_mul_right _ (by omega)
   omega
  ·rename_i c d
   obtain ⟨x,l,h1,h2,rfl⟩:=zau hp
   obtain ⟨v,q,h4,h5,rfl⟩:=zau hd
   obtain ⟨v2,q2,h6,h7,rfl⟩:=zau h5
   injection h7 with h7;subst h7
   obtain ⟨z,e1,rfl⟩:=zdj H.o h1 h4
   obtain ⟨l1,a1,c1,e2,rfl,r1,s1⟩:=lOf_rd H h2 h6
   exact ⟨.y z l1,by simp [SA.ev,e1,e2,op2],rfl,⟨a1,c1,rfl,r1⟩,fun p hp=>s1 p hp⟩
  ·rename_i c
   obtain ⟨l,h1,rfl⟩:=zaG hp
   obtain ⟨v,q,h2,h3,rfl⟩:=zau hd
   injection h3 with h3;subst h3
   obtain ⟨l1,a1,c1,e2,rfl,r1,s1⟩:=lOf_rd H h1 h2
   exact ⟨.u l1,by simp [SA.ev,e2,op1],rfl,⟨a1,c1,rfl,r1⟩,fun p hp=>s1 p hp⟩
  ·rename_i z _
   injection hp with hp;subst hp
   obtain ⟨v,q,h2,h3,rfl⟩:=zau hd
   injection h3 with h3;subst h3
   injection h2 with h2;subst h2
   exact ⟨.w (.int .u64 z),rfl,rfl,⟨rfl,rfl,rfl⟩,fun p _=>by simp [At.sz]⟩
  ·cases hp
theorem parseL_den:∀ {shs:List Sh} {cs:List SC} {sas:List SA} {vs:List Value},parseL sz shs cs=some sas→zcC E cs=some vs→∃ als,zbD E.env sas=some als∧Reps w shs als vs∧(∀ p,szAll sz sas=some p→∀ a∈als,a.sz≤p.1*s+p.2)
 | [],[],sas,vs,hp,hd=>by
  injection hp with hp;subst hp;injection hd with hd;subst hd
  exact ⟨[],rfl,⟨rfl,rfl⟩,fun p _ a ha=>by cases ha⟩
 | [],_::_,_,_,hp,_=>by cases hp
 | sh::r,cs,sas,vs,hp,hd=>by
  simp only [parseL] at hp
  split at hp
  ·rename_i hle
   obtain ⟨a,l,h1,h2,rfl⟩:=zau hp
   obtain ⟨x,h3,h4,h5,h6⟩:=parseA_den H h1 (denL_take sh.size hd)
   obtain ⟨als,g1,g2,g3⟩:=parseL_den h2 (denL_drop sh.size hd)
   refine ⟨x::als,by simp [zbD,h3,g1,op2],⟨x,als,_,_,rfl,(List.take_append_drop sh.size vs).symm,h4,h5,g2⟩,fun p hp=>?_⟩
   obtain ⟨p1,p2,q1,q2,rfl⟩:=zau hp
   have m1:p1.1*s≤max p1.1 p2.1*s:=Nat.mul_le_mul_right _ (by omega)
   have m2:p2.1*s≤max p1.1 p2.1*s:=Nat.mul_le_mul_right _ (by omega)
   intro b hb
   simp only [max2]
   rcases List.mem_cons.1 hb with rfl|hb
   ·have:=h6 p1 q1;omega
   ·have:=g3 p2 q2 b hb;omega
  ·cases hp
theorem parseB_den {n:Nat} {r:List Sh} {b off m c:Nat} {sas:List SA} {v:Value} (hp:parseB sz h n r b off m=some sas) (hd:op1 (fun β=>Value.slice (some ⟨β,off,none⟩) m c) (E.bl b)=some v):∃ als,zbD E.env sas=some als∧RepV w (.sl n::r) als v∧(∀ p,szAll sz sas=some p→∀ a∈als,a.sz≤p.1*s+p.2):=by
 unfold parseB at hp
 ·split at hp
  ·rename_i hm
   split at hp
   ·rename_i cs hb
    split at hp
    ·rename_i hle
     simp only [Bool.and_eq_true] at hle
     obtain ⟨hle,hn16⟩:=hle
     obtain ⟨β,t,vs,h1,h2,h3⟩:=H.blocks b cs hb
     obtain ⟨als,g1,g2,g3⟩:=parseL_den H hp (denL_take (slTot r) (denL_drop off h2))
     have hm':=Nat.eq_of_beq_eq_true hm
     subst hm'
     have hv:v = .slice (some ⟨β,off,none⟩) m c:=by
      simp only [h1,op1] at hd
      injection hd with hd
      exact hd.symm
     refine ⟨als,g1,⟨_,c,_,hv,.inr ⟨β,off,rfl,fun j u hu=>?_⟩,g2⟩,g3⟩
     rw [List.getElem?_take] at hu
     split at hu
     ·rename_i hj
      rw [List.getElem?_drop] at hu
      have hj2:off+j<cs.length:=by rw [←zd7 h2];exact (List.getElem?_eq_some_iff.1 hu).1
      have hc:=List.getElem?_eq_getElem hj2
      exact h3.cell hc (all_no16 hn16 (by omega) (by omega) hc) hu
     ·cases hu
    ·cases hp
   ·cases hp
  ·cases hp
theorem parseS_den {n:Nat} {r:List Sh} {x:S1} {sas:List SA} {v:Value} (hp:parseS sz h n r x=some sas) (hd:den1 E x=some v):∃ als,zbD E.env sas=some als∧RepV w (.sl n::r) als v∧(∀ p,szAll sz sas=some p→∀ a∈als,a.sz≤p.1*s+p.2):=by
 unfold parseS at hp
 split at hp
 ·exact parseB_den H hp hd
 ·exact parseB_den H hp hd
 ·cases hp
theorem parse1_den {shs:List Sh} {x:S1} {sas:List SA} {v:Value} (hp:parse1 sz h shs x=some sas) (hd:den1 E x=some v):∃ als,zbD E.env sas=some als∧RepV w shs als v∧(∀ p,szAll sz sas=some p→∀ a∈als,a.sz≤p.1*s+p.2):=by
 by_cases hn:noSl shs=true
 ·have e:parse1 sz h shs x=parseO sz shs x:=by
   cases shs with
   | nil=>rfl
   | cons sh r=>cases sh<;>first|rfl|cases hn
  rw [e] at hp
  unfold parseO at hp
  split at hp
  ·rename_i c
   split at hp
   ·rename_i hs
    obtain ⟨als,h1,h2,h3⟩:=parseL_den H hp (zdb hd rfl)
    exact ⟨als,h1,(RepV_of hn).2 ⟨_,h2,by simp [mkV,hs]⟩,h3⟩
   ·cases hp
  ·rename_i l
   split at hp
   ·cases hp
   ·rename_i hs
    obtain ⟨vs,h1,rfl⟩:=zaG hd
    obtain ⟨als,h2,h3,h4⟩:=parseL_den H hp h1
    exact ⟨als,h2,(RepV_of hn).2 ⟨_,h3,by simp [mkV,hs]⟩,h4⟩
 ·obtain ⟨n,r,rfl⟩:∃ n r,shs = .sl n::r:=by
   cases shs with
   | nil=>exact absurd rfl hn
   | cons sh r=>cases sh<;>first|exact ⟨_,_,rfl⟩|exact absurd rfl hn
  exact parseS_den H hp hd
end
theorem evAll_app {e:Ev}:∀ {l m:List SA} {als bs:List At},zbD e l=some als→zbD e m=some bs→zbD e (l++m)=some (als++bs)
 | [],_,_,_,h,h'=>by injection h with h;subst h;simpa using h'
 | c::r,_,_,_,h,h'=>by
  obtain ⟨a,b,h1,h2,rfl⟩:=zau h
  simp [zbD,h1,evAll_app h2 h',op2]
theorem szAll_app {sz:Szs}:∀ {l m:List SA} {p:Nat × Nat},szAll sz (l++m)=some p→∃ p1 p2,szAll sz l=some p1∧szAll sz m=some p2∧p1.1≤p.1∧p1.2≤p.2∧p2.1≤p.1∧p2.2≤p.2
 | [],m,p,h=>⟨(0,0),p,rfl,h,Nat.zero_le _,Nat.zero_le _,Nat.le_refl _,Nat.le_refl _⟩
 | c::r,m,p,h=>by
  obtain ⟨a,b,h1,h2,rfl⟩:=zau h
  obtain ⟨p1,p2,h3,h4,h5,h6,h7,h8⟩:=szAll_app h2
  refine ⟨max2 a p1,p2,by simp [szAll,h1,h3,op2],h4,?_⟩
  simp only [max2]
  omega
def denVs (E:En):List SV→Option (List Value)
 | []=>some []
 | c::r=>op2 List.cons (denV E c) (denVs E r)
theorem zdt {s:Nat} {E:En} {h:List (Option (List SC))} {sz:Szs} {w:World} (H:SatM s E h sz w):∀ {shss:List (List Sh)} {xs:List SV} {sas:List SA} {vs:List Value},zcs sz h shss xs=some sas→denVs E xs=some vs →
  ∃ als,zbD E.env sas=some als∧zek w shss als vs∧(∀ p,szAll sz sas=some p→∀ a∈als,a.sz≤p.1*s+p.2)
 | [],[],sas,vs,hp,hd=>by
  injection hp with hp;subst hp;injection hd with hd;subst hd
  exact ⟨[],rfl,⟨rfl,rfl⟩,fun p _ a ha=>by cases ha⟩
 | [],_::_,_,_,hp,_=>by simp [zcs] at hp
 | _::_,[],_,_,hp,_=>by simp [zcs] at hp
 | _::_,.t _::_,_,_,hp,_=>by simp [zcs] at hp
 | shs::r,.v x::q,sas,vs,hp,hd=>by
  simp only [zcs] at hp
  obtain ⟨l,m,h1,h2,rfl⟩:=zau hp
  obtain ⟨v,us,h3,h4,rfl⟩:=zau hd
  obtain ⟨als,g1,g2,g3⟩:=parse1_den H h1 h3
  obtain ⟨bs,e1,e2,e3⟩:=zdt H h2 h4
  refine ⟨als++bs,evAll_app g1 e1,⟨als,bs,v,us,rfl,rfl,g2,e2⟩,fun p hp a ha=>?_⟩
  obtain ⟨p1,p2,q1,q2,q3,q4,q5,q6⟩:=szAll_app hp
  have m1:p1.1*s≤p.1*s:=Nat.mul_le_mul_right _ q3
  have m2:p2.1*s≤p.1*s:=Nat.mul_le_mul_right _ q5
  rcases List.mem_append.1 ha with ha|ha
  ·have:=g3 p1 q1 a ha;omega
  ·have:=e3 p2 q2 a ha;omega
theorem Reps_obs {w:World}:∀ {shs:List Sh} {als:List At} {cs:List Value},Reps w shs als cs→∃ obs:List (At × List Value),obs.map (·.1)=als∧(∀ q∈obs,q.1.Rep w q.2)∧obs.map (fun q=>q.1.sh)=shs ∧
  (∀ (E':En) (base:Nat),(∀ i q,obs[i]? = some q→E'.ob (base+i)=some q)→zcC E' (zdO base shs)=some cs)
 | [],_,_,h=>by
  obtain ⟨rfl,rfl⟩:=h
  exact ⟨[],rfl,fun q hq=>by (cases hq),rfl,fun _ _ _=>rfl⟩
 | sh::shs,_,_,h=>by
  obtain ⟨a,r,c1,c2,rfl,rfl,h1,h2,h3⟩:=h
  obtain ⟨obs,g1,g2,g3,g4⟩:=Reps_obs h3
  refine ⟨(a,c1)::obs,by simp [g1],fun q hq=>?_,by simp [g3,h1],fun E' base hE=>?_⟩
  ·rcases List.mem_cons.1 hq with rfl|hq
   ·exact h2
   ·exact g2 q hq
  ·have h0:E'.ob base=some (a,c1):=hE 0 (a,c1) rfl
   have hr:=g4 E' (base+1) (fun i q hi=>by have:=hE (i+1) q (by simpa using hi);rw [←this];congr 1;omega)
   simp only [zdO]
   refine denL_app ?_ hr
   subst h1
   have he:=env_of h0
   cases a with
   | n z=>simp only [At.Rep] at h2;subst h2;simp [At.sh,zdN,zcC,zcG,IE.ev,he,evN,op1,op2]
   | b z=>simp only [At.Rep] at h2;subst h2;simp [At.sh,zdN,zcC,zcG,BE.ev,he,evB,op1,op2]
   | s z=>simp only [At.Rep] at h2;subst h2;simp [At.sh,zdN,zcC,zcG,h0,obC,op2]
   | r neg l m=>obtain ⟨a,c,a',c',rfl,_⟩:=h2;simp [At.sh,zdN,zcC,zcG,h0,obC,op2]
   | y neg l=>obtain ⟨a,c,rfl,_⟩:=h2;simp [At.sh,zdN,zcC,zcG,h0,obC,op2]
   | u l=>obtain ⟨a,c,rfl,_⟩:=h2;simp [At.sh,zdN,zcC,zcG,h0,obC,op2]
   | w z=>obtain ⟨rfl,_⟩:=h2;simp [At.sh,zdN,zcC,zcG,h0,obC,op2]
   | k z=>simp only [At.Rep] at h2;subst h2;simp [At.sh,zdN,zcC,zcG,op2]
   | kb z=>simp only [At.Rep] at h2;subst h2;simp [At.sh,zdN,zcC,zcG,op2]
theorem comp_den {E:En} {base:Nat} {shs:List Sh} {cs:List Value} (h:zcC E (zdO base shs)=some cs):den1 E (comp1 base shs)=some (mkV shs cs):=by
 have hl:=zd7 h
 unfold comp1 mkV
 generalize zdO base shs=l at *
 cases hs:single shs with
 | false=>simp [den1,h,op1]
 | true =>
  match l,cs,hl with
  | [c],[v],_ =>
   obtain ⟨a,b,h1,h2,h3⟩:=zau h
   injection h3 with h3 h4
   subst h3
   exact h1
  | [],[],_=>simp [den1,h,op1]
  | c::d::r,v::u::q,_=>simp [den1,h,op1]
theorem RepVs_obs {w:World}:∀ {shss:List (List Sh)} {als:List At} {vs:List Value},shss.all noSl=true→zek w shss als vs→∃ obs:List (At × List Value),obs.map (·.1)=als∧(∀ q∈obs,q.1.Rep w q.2)∧obs.map (fun q=>q.1.sh)=shss.flatten ∧
  (∀ (E':En) (base:Nat),(∀ i q,obs[i]? = some q→E'.ob (base+i)=some q)→denT E' (compL base shss)=some vs)
 | [],_,_,_,h=>by
  obtain ⟨rfl,rfl⟩:=h
  exact ⟨[],rfl,fun q hq=>by (cases hq),rfl,fun _ _ _=>rfl⟩
 | shs::r,_,_,hn,h=>by
  simp only [List.all_cons,Bool.and_eq_true] at hn
  obtain ⟨a1,a2,v,q,rfl,rfl,hv,h3⟩:=h
  obtain ⟨cs,h1,rfl⟩:=(RepV_of hn.1).1 hv
  obtain ⟨o1,g1,g2,g3,g4⟩:=Reps_obs h1
  obtain ⟨o2,e1,e2,e3,e4⟩:=RepVs_obs hn.2 h3
  have hlen:o1.length=shs.length:=by rw [←g3];simp
  refine ⟨o1++o2,by simp [g1,e1],fun q hq=>?_,by simp [g3,e3],fun E' base hE=>?_⟩
  ·rcases List.mem_append.1 hq with hq|hq
   ·exact g2 q hq
   ·exact e2 q hq
  ·have k1:=g4 E' base (fun i q hi=>hE i q (by rw [List.getElem?_append_left (List.getElem?_eq_some_iff.1 hi).1];exact hi))
   have k2:=e4 E' (base+shs.length) (fun i q hi=>by
    have:=hE (o1.length+i) q (by rw [List.getElem?_append_right (by omega)];simpa using hi)
    rw [←this,hlen];congr 1;omega)
   simp only [compL,denT,comp_den k1,k2,op2]
theorem callS_ok {P:Program} {Γ:Gam} {s L:Nat} {c:Ct} {f:Nat} {E:En} {S:SS} {w:World} {xs:List SV} {vs:List Value} {R:Ending→World→Prop} (hΓ:GamOk P Γ) (hs:s≤L) (hc:Γ f=some c) (H:SatM s E S.h S.sz w) (hx:denVs E xs=some vs)
  (hsat:(callS L c f xs S).sat Γ (fun p e'=>∀ E' w' rvs,SatM s E' p.2.h p.2.sz w'→E'.env=e'→denT E' p.1=some rvs→Ext w.heap.size E w E' w'→R (.returned (zat rvs)) w') E.env):Calls P (f % 8192) vs.toArray w R:=by
 unfold callS at hsat
 split at hsat
 ·rename_i sas hp
  split at hsat
  ·rename_i p hsz
   split at hsat
   ·rename_i hle
    rw [Bool.and_eq_true] at hle
    obtain ⟨hle,hno⟩:=hle
    obtain ⟨c',als,r,h1,h2,h3,h4⟩:=hsat
    rw [hc] at h1;injection h1 with h1;subst h1
    obtain ⟨as',g1,g2,g3⟩:=zdt H hp hx
    rw [h2] at g1;injection g1 with g1;subst g1
    have hle':=Nat.le_of_ble_eq_true hle
    have hps:p.1*s+p.2≤c.L:=Nat.le_trans (Nat.add_le_add_right (by rw [Nat.mul_comm p.1 s];exact Nat.mul_le_mul_right _ hs) _) hle'
    refine (hΓ f c hc (p.1*s+p.2) w vs als r hps g2 (g3 p hsz) h3).mono ?_
    rintro e w' ⟨rvs,rfl,hr,hz,hE⟩
    obtain ⟨obs,o1,o2,o3,o4⟩:=RepVs_obs hno hr
    let n:=S.sz.length
    let E':En:={ E with ob:=fun k=>match (if Nat.ble n k then obs[k-n]? else none) with
     | some q=>some q
     | none=>E.ob k }
    have hnone:∀ k,n≤k→E.ob k=none:=by
     intro k hk
     cases hq:E.ob k with
     | none=>rfl
     | some q =>
      obtain ⟨p,hp⟩:=H.odom k q hq
      have:=(List.getElem?_eq_some_iff.1 hp).1
      omega
    have hlow:∀ k,k<n→E'.ob k=E.ob k:=by
     intro k hk
     have:Nat.ble n k=false:=by
      cases hb:Nat.ble n k with
      | false=>rfl
      | true=>have:=Nat.le_of_ble_eq_true hb;omega
     simp [E',this]
    have hhigh:∀ i q,obs[i]? = some q→E'.ob (n+i)=some q:=by
     intro i q hi
     have:Nat.ble n (n+i)=true:=Nat.ble_eq_true_of_le (by omega)
     simp [E',this,hi]
    have hdom:∀ k q,E'.ob k=some q→(k<n∧E.ob k=some q)∨∃ i,k=n+i∧obs[i]? = some q:=by
     intro k q hk
     by_cases hlt:k<n
     ·rw [hlow k hlt] at hk;exact .inl ⟨hlt,hk⟩
     ·refine .inr ⟨k-n,by omega,?_⟩
      have:Nat.ble n k=true:=Nat.ble_eq_true_of_le (by omega)
      simp only [E',this,if_true] at hk
      cases ho:obs[k-n]? with
      | none=>simp [ho,hnone k (by omega)] at hk
      | some q'=>simpa [ho] using hk
    have hle2:E.Le E':=⟨fun _ _ h=>h,fun k q hk=>by
     by_cases hlt:k<n
     ·rw [hlow k hlt];exact hk
     ·rw [hnone k (by omega)] at hk;exact (by cases hk),rfl⟩
    have HK:=H.keep hE
    have hol:obs.length=c.res.flatten.length:=by rw [←o3];simp
    refine h4 E' w' rvs ⟨fun b cs hb=>?_,H.inj,HK.dom,H.hdom,fun k q hk=>?_,fun k q hk=>?_⟩ ?_ (o4 E' n hhigh) ⟨hle2,fun b β hb=>.inl hb,hE⟩
    ·obtain ⟨β,t,us,k1,k2,k3⟩:=HK.blocks b cs hb
     exact ⟨β,t,us,k1,zcP hle2 k2,k3⟩
    ·by_cases hlt:k<n
     ·rw [List.getElem?_append_left hlt] at hk
      obtain ⟨a,cs,k1,k2,k3,k4⟩:=HK.objs k q hk
      exact ⟨a,cs,hle2.ob k _ k1,k2,k3,k4⟩
     ·rw [List.getElem?_append_right (by omega)] at hk
      rw [List.getElem?_map] at hk
      cases hf:c.res.flatten[k-S.sz.length]? with
      | none=>simp [hf] at hk
      | some sh =>
       simp only [hf,Option.map_some,Option.some.injEq] at hk
       subst hk
       rw [←o3,List.getElem?_map] at hf
       cases ho:obs[k-S.sz.length]? with
       | none=>simp [ho] at hf
       | some q =>
        simp only [ho,Option.map_some,Option.some.injEq] at hf
        have hkn:k=n+(k-S.sz.length):=by omega
        have hm:=List.mem_of_getElem? ho
        refine ⟨q.1,q.2,?_,hf,o2 q hm,?_⟩
        ·rw [hkn];exact hhigh _ _ ho
        ·have:=hz q.1 (by rw [←o1];exact List.mem_map_of_mem hm)
         simp only
         have e1:c.A*(p.1*s+p.2)=c.A*p.1*s+c.A*p.2:=by rw [Nat.mul_add,Nat.mul_assoc]
         omega
    ·rcases hdom k q hk with ⟨h1,h2⟩|⟨i,rfl,hi⟩
     ·obtain ⟨p,hp⟩:=H.odom k q h2
      exact ⟨p,by rw [List.getElem?_append_left h1];exact hp⟩
     ·have hil:=(List.getElem?_eq_some_iff.1 hi).1
      rw [List.getElem?_append_right (by omega),List.getElem?_map]
      have:i<c.res.flatten.length:=by omega
      exact ⟨_,by rw [show n+i-S.sz.length=i by omega,List.getElem?_eq_getElem this];rfl⟩
    ·funext k
     unfold En.env extE
     by_cases hlt:k<n
     ·rw [hlow k hlt]
      have:Nat.ble n k=false:=by
       cases hb:Nat.ble n k with
       | false=>rfl
       | true=>have:=Nat.le_of_ble_eq_true hb;omega
      simp [n] at this
      simp [this]
     ·have:Nat.ble n k=true:=Nat.ble_eq_true_of_le (by omega)
      have this':Nat.ble S.sz.length k=true:=this
      simp only [E',this,this',if_true]
      rw [←o1,List.getElem?_map]
      cases ho:obs[k-n]? with
      | none=>simp [n] at ho;simp [ho,n,hnone k (by omega)]
      | some q=>simp [n] at ho;simp [ho,n]
   ·exact hsat.elim
  ·exact hsat.elim
 ·exact hsat.elim
theorem SatM.obj {s:Nat} {E:En} {h:List (Option (List SC))} {sz:Szs} {w:World} (H:SatM s E h sz w) {a:At} {cs:List Value} {sh:Sh} {A B:Nat} (hsh:a.sh=sh) (hr:a.Rep w cs) (hz:a.sz≤A*s+B) :
  ∃ E',SatM s E' h (sz++[some (sh,A,B)]) w∧E'.env=extE E.env sz.length [a]∧E'.ob sz.length=some (a,cs)∧E.Le E'∧E'.bl=E.bl:=by
 have hnone:∀ k,sz.length≤k→E.ob k=none:=by
  intro k hk
  cases hq:E.ob k with
  | none=>rfl
  | some q =>
   obtain ⟨p,hp⟩:=H.odom k q hq
   have:=(List.getElem?_eq_some_iff.1 hp).1
   omega
 let E':En:={ E with ob:=fun k=>if k=sz.length then some (a,cs) else E.ob k }
 have hle:E.Le E':=⟨fun _ _ h=>h,fun k q hk=>by
  show (if k=sz.length then some (a,cs) else E.ob k)=some q
  by_cases e:k=sz.length
  ·rw [hnone k (by omega)] at hk;cases hk
  ·rw [if_neg e];exact hk,rfl⟩
 refine ⟨E',⟨fun b c hb=>?_,H.inj,H.dom,H.hdom,fun k p hk=>?_,fun k q hk=>?_⟩,?_,if_pos rfl,hle,rfl⟩
 ·obtain ⟨β,t,us,k1,k2,k3⟩:=H.blocks b c hb
  exact ⟨β,t,us,k1,zcP hle k2,k3⟩
 ·by_cases e:k<sz.length
  ·rw [List.getElem?_append_left e] at hk
   obtain ⟨x,c,k1,k2,k3,k4⟩:=H.objs k p hk
   exact ⟨x,c,hle.ob k _ k1,k2,k3,k4⟩
  ·rw [List.getElem?_append_right (by omega)] at hk
   have e2:k-sz.length=0:=by
    have:=(List.getElem?_eq_some_iff.1 hk).1
    simp at this;omega
   rw [e2] at hk
   simp at hk
   subst hk
   exact ⟨a,cs,if_pos (by omega),hsh,hr,hz⟩
 ·by_cases e:k=sz.length
  ·subst e;exact ⟨_,by rw [List.getElem?_append_right (by omega),Nat.sub_self];rfl⟩
  ·have hk':(if k=sz.length then some (a,cs) else E.ob k)=some q:=hk
   rw [if_neg e] at hk'
   obtain ⟨p,hp⟩:=H.odom k q hk'
   exact ⟨p,by rw [List.getElem?_append_left (List.getElem?_eq_some_iff.1 hp).1];exact hp⟩
 ·funext k
  show (if k=sz.length then some (a,cs) else E.ob k).map (·.1)=_
  unfold extE
  by_cases e:k=sz.length
  ·subst e;simp
  ·rw [if_neg e]
   by_cases e2:sz.length≤k
   ·rw [if_pos (Nat.ble_eq_true_of_le e2),List.getElem?_eq_none (by simp;omega)];rfl
   ·rw [if_neg (fun h=>e2 (Nat.le_of_ble_eq_true h))];rfl
theorem SatM.objAt {s:Nat} {E:En} {h:List (Option (List SC))} {sz sz':Szs} {w:World} (H:SatM s E h sz w) {a:At} {cs:List Value} {sh:Sh} {A B n:Nat} (hp:putO sz n (sh,A,B)=some sz') (hsh:a.sh=sh) (hr:a.Rep w cs) (hz:a.sz≤A*s+B) :
  ∃ E',SatM s E' h sz' w∧E'.env=extE E.env n [a]∧E'.ob n=some (a,cs)∧E.Le E'∧E'.bl=E.bl:=by
 unfold putO at hp
 split at hp
 ·rename_i hn
  have hn:=Nat.eq_of_beq_eq_true hn
  subst hn
  injection hp with hp;subst hp
  exact H.obj hsh hr hz
 ·split at hp
  ·rename_i hn0
   injection hp with hp;subst hp
   have hnone:E.ob n=none:=by
    cases hq:E.ob n with
    | none=>rfl
    | some q =>
     obtain ⟨p,hp⟩:=H.odom n q hq
     rw [hn0] at hp;cases hp
   have hlt:=(List.getElem?_eq_some_iff.1 hn0).1
   let E':En:={ E with ob:=fun k=>if k=n then some (a,cs) else E.ob k }
   have hle:E.Le E':=⟨fun _ _ h=>h,fun k q hk=>by
    show (if k=n then some (a,cs) else E.ob k)=some q
    by_cases e:k=n
    ·rw [e,hnone] at hk;cases hk
    ·rw [if_neg e];exact hk,rfl⟩
   refine ⟨E',⟨fun b c hb=>?_,H.inj,H.dom,H.hdom,fun k p hk=>?_,fun k q hk=>?_⟩,?_,if_pos rfl,hle,rfl⟩
   ·obtain ⟨β,t,us,k1,k2,k3⟩:=H.blocks b c hb
    exact ⟨β,t,us,k1,zcP hle k2,k3⟩
   ·by_cases e:k=n
    ·subst e
     rw [List.getElem?_set_self hlt] at hk
     injection hk with hk;injection hk with hk;subst hk
     exact ⟨a,cs,if_pos rfl,hsh,hr,hz⟩
    ·rw [List.getElem?_set_ne (fun h=>e h.symm)] at hk
     obtain ⟨x,c,k1,k2,k3,k4⟩:=H.objs k p hk
     exact ⟨x,c,hle.ob k _ k1,k2,k3,k4⟩
   ·by_cases e:k=n
    ·subst e;exact ⟨_,List.getElem?_set_self hlt⟩
    ·have hk':(if k=n then some (a,cs) else E.ob k)=some q:=hk
     rw [if_neg e] at hk'
     obtain ⟨p,hp⟩:=H.odom k q hk'
     exact ⟨p,by rw [List.getElem?_set_ne (fun h=>e h.symm)];exact hp⟩
   ·funext k
    show (if k=n then some (a,cs) else E.ob k).map (·.1)=_
    unfold extE
    by_cases e:k=n
    ·subst e;simp
    ·rw [if_neg e]
     by_cases e2:n≤k
     ·rw [if_pos (Nat.ble_eq_true_of_le e2),List.getElem?_eq_none (by simp;omega)];rfl
     ·rw [if_neg (fun h=>e2 (Nat.le_of_ble_eq_true h))];rfl
  ·cases hp
theorem natLits_den {E:En}:∀ {cs:List SC} {l:List Nat} {vs:List Value},natLits cs=some l→zcC E cs=some vs→vs=l.map (fun (x:Nat)=>Value.int .u16 (x:Int))∧∀ x∈l,x<65536
 | [],l,vs,h,hd=>by
  injection h with h;subst h;injection hd with hd;subst hd
  exact ⟨rfl,by simp⟩
 | c::r,l,vs,h,hd=>by
  unfold natLits at h
  split at h
  ·rename_i e;cases e
  ·rename_i n r' e
   injection e with e1 e2
   subst e1;subst e2
   split at h
   ·rename_i hn
    obtain ⟨a,b,h1,h2,rfl⟩:=zau h
    injection h1 with h1;subst h1
    obtain ⟨v,us,h3,h4,rfl⟩:=zau hd
    injection h3 with h3;subst h3
    obtain ⟨h5,h6⟩:=natLits_den h2 h4
    refine ⟨by rw [h5];rfl,fun x hx=>?_⟩
    rcases List.mem_cons.1 hx with rfl|hx
    ·have:x≤65535:=by simpa [Nat.blt] using hn
     omega
    ·exact h6 x hx
   ·cases h
  ·cases h
end Go.Proofs.YtefhenfofomjhaaGreat
