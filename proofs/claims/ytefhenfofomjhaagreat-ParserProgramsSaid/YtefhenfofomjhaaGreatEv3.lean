/- Symbolic evaluation: operations that write memory; calls. -/
import Derived.Test.YtefhenfofomjhaaGreatEv1
set_option linter.unusedSimpArgs false
set_option linter.unusedVariables false
namespace Go.Proofs.YtefhenfofomjhaaGreat
open Go Go.RowKit Go.V
abbrev Szs:=List (Option (Sh × Nat × Nat))
structure En.Le (E E':En):Prop where
 bl:∀ b β,E.bl b=some β→E'.bl b=some β
 ob:∀ k q,E.ob k=some q→E'.ob k=some q
 cv:E'.cv=E.cv
theorem En.Le.refl (E:En):E.Le E:=⟨fun _ _ h=>h,fun _ _ h=>h,rfl⟩
theorem En.Le.trans {E E' E'':En} (h:E.Le E') (h':E'.Le E''):E.Le E'':=⟨fun b β x=>h'.bl b β (h.bl b β x),fun k q x=>h'.ob k q (h.ob k q x),h'.cv.trans h.cv⟩
theorem zat {α β γ:Type} {f:α→β→γ} {x:Option α} {y:Option β} {z:γ} (h:op2 f x y=some z):∃ a b,x=some a∧y=some b∧f a b=z:=by
 cases x<;>cases y<;>simp [op2] at h
 exact ⟨_,_,rfl,rfl,h⟩
theorem zaF {α β:Type} {f:α→β} {x:Option α} {z:β} (h:op1 f x=some z):∃ a,x=some a∧f a=z:=by
 cases x<;>simp [op1] at h
 exact ⟨_,rfl,h⟩
theorem op3_some {α β γ δ:Type} {f:α→β→γ→δ} {x:Option α} {y:Option β} {z:Option γ} {r:δ} (h:op3 f x y z=some r):∃ a b c,x=some a∧y=some b∧z=some c∧f a b c=r:=by
 cases x<;>cases y<;>cases z<;>simp [op3] at h
 exact ⟨_,_,_,rfl,rfl,rfl,h⟩
theorem zd6 {α β γ:Type} {f:α→β→γ} {x x':Option α} {y y':Option β} {z:γ} (h:op2 f x y=some z) (hx:∀ a,x=some a→x'=some a) (hy:∀ a,y=some a→y'=some a):op2 f x' y'=some z:=by
 obtain ⟨a,b,rfl,rfl,rfl⟩:=zat h
 rw [hx a rfl,hy b rfl];rfl
theorem zdu {α β:Type} {f:α→β} {x x':Option α} {z:β} (h:op1 f x=some z) (hx:∀ a,x=some a→x'=some a):op1 f x'=some z:=by
 obtain ⟨a,rfl,rfl⟩:=zaF h
 rw [hx a rfl];rfl
def EvLe (e e':Ev):Prop:=∀ k a,e k=some a→e' k=some a
theorem En.Le.env {E E':En} (h:E.Le E'):EvLe E.env E'.env:=by
 intro k a ha
 unfold En.env at *
 cases hk:E.ob k with
 | none=>simp [hk] at ha
 | some q=>rw [h.ob k q hk];simpa [hk] using ha
theorem evN_some {o:Option At} {z:Int} (h:evN o=some z):o=some (.n z):=by
 unfold evN at h;split at h<;>simp at h;subst h;rfl
theorem evB_some {o:Option At} {z:Bool} (h:evB o=some z):o=some (.b z):=by
 unfold evB at h;split at h<;>simp at h;subst h;rfl
theorem evS_some {o:Option At} {z:List UInt8} (h:evS o=some z):o=some (.s z):=by
 unfold evS at h;split at h<;>simp at h;subst h;rfl
theorem evLen_some {j:Nat} {o:Option At} {z:Int} (h:zcp j o=some z):∃ a n,o=some a∧a.len j=some n∧z=(n:Int):=by
 cases o with
 | none=>simp [zcp] at h
 | some a =>
  simp only [zcp] at h
  split at h
  ·rename_i n hn;injection h with h;exact ⟨a,n,rfl,hn,h.symm⟩
  ·cases h
theorem evBit_some {o:Option At} {z:Bool} (h:zcI o=some z):∃ a,o=some a∧a.bit=some z:=by
 cases o with
 | none=>simp [zcI] at h
 | some a=>exact ⟨a,rfl,h⟩
theorem evLst_some {j:Nat} {o:Option At} {z:List Nat} (h:zcD j o=some z):∃ a,o=some a∧a.lst j=some z:=by
 cases o with
 | none=>simp [zcD] at h
 | some a=>exact ⟨a,rfl,h⟩
section
variable {e e':Ev} (h:EvLe e e')
include h
theorem IE.mono:∀ (x:IE) (z:Int),x.ev e=some z→x.ev e'=some z
 | .lit _,_,hx=>hx
 | .var k,z,hx=>by
  simp only [IE.ev] at hx ⊢
  rw [h k _ (evN_some hx)];rfl
 | .len k j,z,hx=>by
  simp only [IE.ev] at hx ⊢
  obtain ⟨a,n,h1,h2,rfl⟩:=evLen_some hx
  rw [h k _ h1];simp [zcp,h2]
 | .add x y,z,hx=>zd6 hx (IE.mono x) (IE.mono y)
 | .sub x y,z,hx=>zd6 hx (IE.mono x) (IE.mono y)
 | .mul x y,z,hx=>zd6 hx (IE.mono x) (IE.mono y)
 | .neg x,z,hx=>zdu hx (IE.mono x)
theorem SE.mono:∀ (x:SE) (z:List UInt8),x.ev e=some z→x.ev e'=some z
 | .lit _,_,hx=>hx
 | .var k,z,hx=>by
  simp only [SE.ev] at hx ⊢
  rw [h k _ (evS_some hx)];rfl
theorem BE.mono:∀ (x:BE) (z:Bool),x.ev e=some z→x.ev e'=some z
 | .lit _,_,hx=>hx
 | .var k,z,hx=>by
  simp only [BE.ev] at hx ⊢
  rw [h k _ (evB_some hx)];rfl
 | .bit k,z,hx=>by
  simp only [BE.ev] at hx ⊢
  obtain ⟨a,h1,h2⟩:=evBit_some hx
  rw [h k _ h1];exact h2
 | .eq x y,z,hx=>zd6 hx (IE.mono h x) (IE.mono h y)
 | .lt x y,z,hx=>zd6 hx (IE.mono h x) (IE.mono h y)
 | .le x y,z,hx=>zd6 hx (IE.mono h x) (IE.mono h y)
 | .not x,z,hx=>zdu hx (BE.mono x)
 | .beq x y,z,hx=>zd6 hx (BE.mono x) (BE.mono y)
 | .seq x y,z,hx=>zd6 hx (SE.mono h x) (SE.mono h y)
theorem LE.mono:∀ (x:LE) (z:List Nat),x.ev e=some z→x.ev e'=some z
 | .nil,_,hx=>hx
 | .var k j,z,hx=>by
  simp only [LE.ev] at hx ⊢
  obtain ⟨a,h1,h2⟩:=evLst_some hx
  rw [h k _ h1];exact h2
end
section
variable {E E':En} (h:E.Le E')
include h
theorem denC_mono {c:SC} {v:Value} (hc:zcW E c=some v):zcW E' c=some v:=by
 cases c with
 | lit v=>exact hc
 | ob k j =>
  simp only [zcW] at hc ⊢
  cases hk:E.ob k with
  | none=>simp [hk,obC] at hc
  | some q=>rw [h.ob k q hk];rw [hk] at hc;exact hc
 | ix x=>exact zdu hc (IE.mono h.env x)
 | bx x=>exact zdu hc (BE.mono h.env x)
 | ptr b off=>exact zdu hc (h.bl b)
 | sl b off n c=>exact zdu hc (h.bl b)
 | sv b n =>
  simp only [zcW] at hc ⊢
  rw [h.cv]
  exact zdu hc (h.bl b)
theorem zd7:∀ {l:List SC} {vs:List Value},zcT E l=some vs→zcT E' l=some vs
 | [],_,hl=>hl
 | c::r,_,hl=>zd6 hl (fun _=>denC_mono h) (fun _=>zd7)
theorem den1_mono {x:S1} {v:Value} (hx:den1 E x=some v):den1 E' x=some v:=by
 cases x with
 | one c=>exact denC_mono h hx
 | agg l=>exact zdu hx (fun _=>zd7 h)
theorem denT_mono:∀ {l:List S1} {vs:List Value},denT E l=some vs→denT E' l=some vs
 | [],_,hl=>hl
 | c::r,_,hl=>zd6 hl (fun _=>den1_mono h) (fun _=>denT_mono)
theorem denV_mono {x:SV} {v:Value} (hx:denV E x=some v):denV E' x=some v:=by
 cases x with
 | v x=>exact den1_mono h hx
 | t l=>exact zdu hx (fun _=>denT_mono h)
end
theorem zdA {E:En} {c:SC} {r:List SC} {v:Value} {vs:List Value} (h1:zcW E c=some v) (h2:zcT E r=some vs):zcT E (c::r)=some (v::vs):=by simp [zcT,op2,h1,h2]
theorem zdv {E:En}:∀ {l:List SC} {vs:List Value},zcT E l=some vs→vs.length=l.length
 | [],_,h=>by injection h with h;subst h;rfl
 | c::r,_,h=>by
  obtain ⟨a,b,_,h2,rfl⟩:=zat h
  simp [zdv h2]
theorem denL_get {E:En}:∀ {l:List SC} {vs:List Value} {i:Nat} {c:SC},zcT E l=some vs→l[i]? = some c→∃ v,vs[i]? = some v∧zcW E c=some v
 | [],_,i,c,_,h=>by simp at h
 | d::r,_,i,c,h,hi=>by
  obtain ⟨a,b,h1,h2,rfl⟩:=zat h
  cases i with
  | zero=>simp at hi;subst hi;exact ⟨a,rfl,h1⟩
  | succ i=>simpa using denL_get h2 (by simpa using hi)
theorem denT_get {E:En}:∀ {l:List S1} {vs:List Value} {i:Nat} {c:S1},denT E l=some vs→l[i]? = some c→∃ v,vs[i]? = some v∧den1 E c=some v
 | [],_,i,c,_,h=>by simp at h
 | d::r,_,i,c,h,hi=>by
  obtain ⟨a,b,h1,h2,rfl⟩:=zat h
  cases i with
  | zero=>simp at hi;subst hi;exact ⟨a,rfl,h1⟩
  | succ i=>simpa using denT_get h2 (by simpa using hi)
theorem denL_drop {E:En}:∀ {l:List SC} {vs:List Value} (n:Nat),zcT E l=some vs→zcT E (l.drop n)=some (vs.drop n)
 | _,_,0,h=>by simpa using h
 | [],_,n+1,h=>by injection h with h;subst h;rfl
 | c::r,_,n+1,h=>by
  obtain ⟨a,b,h1,h2,rfl⟩:=zat h
  simpa using denL_drop n h2
theorem denL_take {E:En}:∀ {l:List SC} {vs:List Value} (n:Nat),zcT E l=some vs→zcT E (l.take n)=some (vs.take n)
 | _,_,0,h=>rfl
 | [],_,n+1,h=>by injection h with h;subst h;rfl
 | c::r,_,n+1,h=>by
  obtain ⟨a,b,h1,h2,rfl⟩:=zat h
  simpa using zdA h1 (denL_take n h2)
theorem denL_app {E:En}:∀ {l m:List SC} {vs us:List Value},zcT E l=some vs→zcT E m=some us→zcT E (l++m)=some (vs++us)
 | [],_,_,_,h,h'=>by injection h with h;subst h;simpa using h'
 | c::r,_,_,_,h,h'=>by
  obtain ⟨a,b,h1,h2,rfl⟩:=zat h
  exact zdA h1 (denL_app h2 h')
theorem denL_set {E:En}:∀ {l:List SC} {vs:List Value} (i:Nat) {c:SC} {v:Value},zcT E l=some vs→zcW E c=some v→zcT E (l.set i c)=some (vs.set i v)
 | [],_,i,_,_,h,_=>by injection h with h;subst h;rfl
 | d::r,_,0,_,_,h,hc=>by
  obtain ⟨a,b,h1,h2,rfl⟩:=zat h
  exact zdA hc h2
 | d::r,_,i+1,_,_,h,hc=>by
  obtain ⟨a,b,h1,h2,rfl⟩:=zat h
  exact zdA h1 (denL_set i h2 hc)
theorem denL_lit {E:En}:∀ (vs:List Value),zcT E (vs.map .lit)=some vs
 | []=>rfl
 | v::r=>zdA rfl (denL_lit r)
theorem denL_row {E:En} {l:List SC} {vs:List Value} {off n:Nat} {m:List SC} (h:zcT E l=some vs) (hr:rowS l off n=some m):zcT E m=some ((vs.drop off).take n)∧off+n≤vs.length:=by
 unfold rowS at hr
 split at hr
 ·rename_i hle
  injection hr with hr;subst hr
  rw [zdv h]
  exact ⟨denL_take n (denL_drop off h),Nat.le_of_ble_eq_true hle⟩
 ·cases hr
def SatG (E:En) (l:List SV) (g:G):Prop:=∀ t v,l[t]? = some v→denV E v=some (g t)
def BV (w:World) (β:Nat) (cs:List SC) (vs:List Value) (t:TypeId):Prop:=Bx w β vs.toArray t∨∃ cs0 vs0,cs=cs0++[mkU]∧vs=vs0++[.int .u16 0]∧cs0.length=vs0.length∧β<w.heap.size∧∀ (j:Nat) (v:Value),vs0[j]? = some v→w.cell? ⟨β,j,none⟩=some v
theorem BV.lt {w:World} {β:Nat} {cs:List SC} {vs:List Value} {t:TypeId} (h:BV w β cs vs t):β<w.heap.size:=h.elim (·.lt) fun ⟨_,_,_,_,_,h,_⟩=>h
theorem BV.same {w w':World} {β:Nat} {cs:List SC} {vs:List Value} {t:TypeId} (h:BV w β cs vs t) (he:w'.heap[β]? = w.heap[β]?) (hs:w.heap.size≤w'.heap.size):BV w' β cs vs t:=by
 rcases h with h|⟨cs0,vs0,h1,h2,h3,h4,h5⟩
 ·exact .inl ⟨by rw [he];exact h.heap⟩
 ·exact .inr ⟨cs0,vs0,h1,h2,h3,by omega,fun j v hv=>(World.cell?_of_block (w:=w) (a:=⟨β,j,none⟩) he).trans (h5 j v hv)⟩
theorem BV.keep {w w':World} {β:Nat} {cs:List SC} {vs:List Value} {t:TypeId} (h:BV w β cs vs t) (hb:Below w.heap.size w w'):BV w' β cs vs t:=h.same (hb.block β h.lt) hb.size
theorem BV.sto {w w':World} {β b:Nat} {cs:List SC} {vs:List Value} {t:TypeId} (h:BV w β cs vs t) (hs:Sto w w' b) (hne:β≠b):BV w' β cs vs t:=h.same (hs.block β hne) (by rw [hs.size];exact Nat.le_refl _)
theorem BV.cell {w:World} {β:Nat} {cs:List SC} {vs:List Value} {t:TypeId} (h:BV w β cs vs t) {j:Nat} {c:SC} {v:Value} (hc:cs[j]? = some c) (hn:c.no16=true) (hv:vs[j]? = some v):w.cell? ⟨β,j,none⟩=some v:=by
 rcases h with h|⟨cs0,vs0,rfl,rfl,h3,h4,h5⟩
 ·rw [h.cell];simpa using hv
 ·have hlt:j<cs0.length:=by
   rcases Nat.lt_or_ge j cs0.length with h|h
   ·exact h
   ·rw [List.getElem?_append_right h] at hc
    have hj:j-cs0.length=0:=by
     have:=(List.getElem?_eq_some_iff.1 hc).1
     simp at this;omega
    rw [hj] at hc
    simp at hc
    subst hc
    cases hn
  rw [List.getElem?_append_left (by omega)] at hv
  exact h5 j v hv
structure SatM (s:Nat) (E:En) (h:List (Option (List SC))) (sz:Szs) (w:World):Prop where
 blocks:∀ b cs,h[b]? = some (some cs)→∃ β t vs,E.bl b=some β∧zcT E cs=some vs∧BV w β cs vs t
 inj:∀ b b' β,E.bl b=some β→E.bl b'=some β→b=b'
 dom:∀ b β,E.bl b=some β→β<w.heap.size
 hdom:∀ b β,E.bl b=some β→∃ cs,h[b]? = some (some cs)
 objs:∀ k p,sz[k]? = some (some p)→∃ a cs,E.ob k=some (a,cs)∧a.sh=p.1∧a.Rep w cs∧a.sz≤p.2.1*s+p.2.2
 odom:∀ k q,E.ob k=some q→∃ p,sz[k]? = some (some p)
def SatB (E:En) (h:List (Option (List SC))) (w:World):Prop:=∀ b cs,h[b]? = some (some cs)→∃ β t vs,E.bl b=some β∧zcT E cs=some vs∧BV w β cs vs t
def SatO (E:En) (sz:Szs):Prop:=∀ k sh,shOf sz k=some sh→∃ a cs,E.ob k=some (a,cs)∧a.sh=sh∧∃ w,a.Rep w cs
theorem SatM.o {s:Nat} {E:En} {h:List (Option (List SC))} {sz:Szs} {w:World} (H:SatM s E h sz w):SatO E sz:=by
 intro k sh hk
 unfold shOf at hk
 split at hk
 ·rename_i p hp
  injection hk with hk;subst hk
  obtain ⟨a,cs,h1,h2,h3,_⟩:=H.objs k p hp
  exact ⟨a,cs,h1,h2,w,h3⟩
 ·cases hk
theorem litV_den {E:En} (v:Value):den1 E (litV v)=some v:=by
 unfold litV
 split
 ·simp only [den1,denL_lit,op1]
 ·rfl
theorem zdS {E:En} {l:List SV} {g:G} (H:SatG E l g) {x:Operand} {v:SV} (h:opnd l x=some v):denV E v=some (evG g x):=by
 cases x with
 | tmp t=>exact H t v h
 | const c=>injection h with h;subst h;exact litV_den c
 | func f=>injection h with h;subst h;rfl
 | global i=>cases h
theorem one_some {o:Option SV} {c:SC} (h:one? o=some c):o=some (.v (.one c)):=by
 unfold one? at h;split at h<;>simp at h;subst h;rfl
theorem zbh {E:En} {l:List SV} {g:G} (H:SatG E l g) {x:Operand} {c:SC} (h:one? (opnd l x)=some c):zcW E c=some (evG g x):=zdS H (one_some h)
theorem Rep_bit {w:World} {a:At} {cs:List Value} {z:Bool} (h:a.Rep w cs) (hb:a.bit=some z):cs[0]? = some (.bool z):=by
 cases a<;>simp [At.bit] at hb
 ·obtain ⟨a,c,a',c',rfl,_⟩:=h;subst hb;rfl
 ·obtain ⟨a,c,rfl,_⟩:=h;subst hb;rfl
theorem lst_some {a:At} {j:Nat} {l:List Nat} (h:a.lst j=some l):(∃ x m,a = .r x l m∧j=1)∨(∃ x m,a = .r x m l∧j=2)∨(∃ x,a = .y x l∧j=1)∨(a = .u l∧j=0):=by
 unfold At.lst at h
 split at h<;>first|(injection h with h;subst h;simp;done)|cases h
theorem Rep_lst {w:World} {a:At} {cs:List Value} {j:Nat} {l:List Nat} (h:a.Rep w cs) (hl:a.lst j=some l):∃ ad c,cs[j]? = some (.slice ad l.length c)∧RD w ad c l:=by
 rcases lst_some hl with ⟨x,m,rfl,rfl⟩|⟨x,m,rfl,rfl⟩|⟨x,rfl,rfl⟩|⟨rfl,rfl⟩
 ·obtain ⟨a,c,a',c',rfl,h1,h2⟩:=h;exact ⟨_,_,rfl,h1⟩
 ·obtain ⟨a,c,a',c',rfl,h1,h2⟩:=h;exact ⟨_,_,rfl,h2⟩
 ·obtain ⟨a,c,rfl,h1⟩:=h;exact ⟨_,_,rfl,h1⟩
 ·obtain ⟨a,c,rfl,h1⟩:=h;exact ⟨_,_,rfl,h1⟩
section
variable {E:En} {sz:Szs}
theorem iOf_den {c:SC} {e:IE} {v:Value} (h:iOf c=some e) (hc:zcW E c=some v):∃ z,e.ev E.env=some z∧v = .int .i64 z:=by
 unfold iOf at h
 split at h
 ·injection h with h;subst h;injection hc with hc;subst hc;exact ⟨_,rfl,rfl⟩
 ·injection h with h;subst h;obtain ⟨z,h1,h2⟩:=zaF hc;exact ⟨z,h1,h2.symm⟩
 ·cases h
theorem env_of {k:Nat} {a:At} {cs:List Value} (h:E.ob k=some (a,cs)):E.env k=some a:=by simp [En.env,h]
theorem zdK (H:SatO E sz) {c:SC} {e:BE} {v:Value} (h:bOf sz c=some e) (hc:zcW E c=some v):∃ z,e.ev E.env=some z∧v = .bool z:=by
 unfold bOf at h
 split at h
 ·injection h with h;subst h;injection hc with hc;subst hc;exact ⟨_,rfl,rfl⟩
 ·injection h with h;subst h;obtain ⟨z,h1,h2⟩:=zaF hc;exact ⟨z,h1,h2.symm⟩
 ·rename_i k
  have key:∀ sh,shOf sz k=some sh→(sh = .r∨sh = .y)→∃ z,(BE.bit k).ev E.env=some z∧v = .bool z:=by
   intro sh hs hsh
   obtain ⟨a,cs,h1,h2,w,h3⟩:=H k sh hs
   simp only [zcW,h1,obC] at hc
   obtain ⟨z,hz⟩:∃ z,a.bit=some z:=by
    cases a<;>rcases hsh with rfl|rfl<;>simp [At.sh] at h2<;>exact ⟨_,rfl⟩
   rw [Rep_bit h3 hz] at hc
   injection hc with hc
   exact ⟨z,by simp [BE.ev,env_of h1,zcI,hz],hc.symm⟩
  split at h
  ·rename_i hs;injection h with h;subst h;exact key _ hs (.inl rfl)
  ·rename_i hs;injection h with h;subst h;exact key _ hs (.inr rfl)
  ·cases h
 ·cases h
theorem sOf_den (H:SatO E sz) {c:SC} {e:SE} {v:Value} (h:sOf sz c=some e) (hc:zcW E c=some v):∃ s:ByteArray,e.ev E.env=some (bs s)∧v = .string s:=by
 unfold sOf at h
 split at h
 ·injection h with h;subst h;injection hc with hc;subst hc;exact ⟨_,rfl,rfl⟩
 ·rename_i k
  split at h
  ·rename_i hs
   injection h with h;subst h
   obtain ⟨a,cs,h1,h2,w,h3⟩:=H k _ hs
   cases a<;>simp [At.sh] at h2
   rename_i l
   simp only [At.Rep] at h3
   subst h3
   simp only [zcW,h1,obC] at hc
   injection hc with hc
   exact ⟨⟨l.toArray⟩,by simp [SE.ev,env_of h1,evS,bs],hc.symm⟩
  ·cases h
 ·cases h
theorem lOf_den (H:SatO E sz) {c:SC} {e:LE} {v:Value} (h:lOf sz c=some e) (hc:zcW E c=some v):∃ l a cap,e.ev E.env=some l∧v = .slice a l.length cap:=by
 unfold lOf at h
 split at h
 ·injection h with h;subst h;injection hc with hc;subst hc;exact ⟨[],_,_,rfl,rfl⟩
 ·rename_i k j
  have key:∀ sh,shOf sz k=some sh→(∀ a:At,a.sh=sh→∃ l,a.lst j=some l)→∃ l a cap,(LE.var k j).ev E.env=some l∧v = .slice a l.length cap:=by
   intro sh hs hsh
   obtain ⟨a,cs,h1,h2,w,h3⟩:=H k sh hs
   obtain ⟨l,hl⟩:=hsh a h2
   obtain ⟨ad,c,h4,_⟩:=Rep_lst h3 hl
   simp only [zcW,h1,obC,h4] at hc
   injection hc with hc
   exact ⟨l,ad,c,by simp [LE.ev,env_of h1,zcD,hl],hc.symm⟩
  split at h
  all_goals first
   | (rename_i hs;injection h with h;subst h;refine key _ hs ?_;intro a ha;cases a<;>simp [At.sh] at ha;exact ⟨_,rfl⟩)
   | (cases h;done)
 ·cases h
theorem lOf_len (H:SatO E sz) {c:SC} {k j:Nat} (h:lOf sz c=some (.var k j)) {l:List Nat} (he:(LE.var k j).ev E.env=some l):(IE.len k j).ev E.env=some (l.length:Int):=by
 obtain ⟨a,h1,h2⟩:=evLst_some he
 simp only [IE.ev,h1,zcp]
 have:a.len j=some l.length:=by
  rcases lst_some h2 with ⟨x,m,rfl,rfl⟩|⟨x,m,rfl,rfl⟩|⟨x,rfl,rfl⟩|⟨rfl,rfl⟩<;>rfl
 simp [this]
theorem mkI_den (e:IE):zcW E (mkI e)=op1 (Value.int .i64) (e.ev E.env):=by cases e<;>rfl
theorem zdn (e:BE):zcW E (mkB e)=op1 Value.bool (e.ev E.env):=by cases e<;>rfl
theorem addI_ev {e:Ev} {x y:IE} {a b:Int} (hx:x.ev e=some a) (hy:y.ev e=some b):(addI x y).ev e=some (IntKind.i64.wrap (a+b)):=by
 unfold addI;split
 ·simp only [IE.ev,Option.some.injEq] at hx hy ⊢;subst hx hy;rfl
 ·simp [IE.ev,hx,hy,op2]
theorem subI_ev {e:Ev} {x y:IE} {a b:Int} (hx:x.ev e=some a) (hy:y.ev e=some b):(subI x y).ev e=some (IntKind.i64.wrap (a-b)):=by
 unfold subI;split
 ·simp only [IE.ev,Option.some.injEq] at hx hy ⊢;subst hx hy;rfl
 ·simp [IE.ev,hx,hy,op2]
theorem mulI_ev {e:Ev} {x y:IE} {a b:Int} (hx:x.ev e=some a) (hy:y.ev e=some b):(mulI x y).ev e=some (IntKind.i64.wrap (a*b)):=by
 unfold mulI;split
 ·simp only [IE.ev,Option.some.injEq] at hx hy ⊢;subst hx hy;rfl
 ·simp [IE.ev,hx,hy,op2]
theorem eqI_ev {e:Ev} {x y:IE} {a b:Int} (hx:x.ev e=some a) (hy:y.ev e=some b):(eqI x y).ev e=some (decide (a=b)):=by
 unfold eqI;split
 ·simp only [IE.ev,BE.ev,Option.some.injEq] at hx hy ⊢;subst hx hy;rfl
 ·simp [BE.ev,hx,hy,op2]
theorem ltI_ev {e:Ev} {x y:IE} {a b:Int} (hx:x.ev e=some a) (hy:y.ev e=some b):(ltI x y).ev e=some (decide (a<b)):=by
 unfold ltI;split
 ·simp only [IE.ev,BE.ev,Option.some.injEq] at hx hy ⊢;subst hx hy;rfl
 ·simp [BE.ev,hx,hy,op2]
theorem leI_ev {e:Ev} {x y:IE} {a b:Int} (hx:x.ev e=some a) (hy:y.ev e=some b):(leI x y).ev e=some (decide (a≤b)):=by
 unfold leI;split
 ·simp only [IE.ev,BE.ev,Option.some.injEq] at hx hy ⊢;subst hx hy;rfl
 ·simp [BE.ev,hx,hy,op2]
theorem notB_ev {e:Ev} {x:BE} {a:Bool} (hx:x.ev e=some a):(notB x).ev e=some (!a):=by
 unfold notB;split
 ·simp only [BE.ev,Option.some.injEq] at hx ⊢;subst hx;rfl
 ·simp [BE.ev,hx,op1]
theorem beqB_ev {e:Ev} {x y:BE} {a b:Bool} (hx:x.ev e=some a) (hy:y.ev e=some b):(beqB x y).ev e=some (a == b):=by
 unfold beqB;split
 ·simp only [BE.ev,Option.some.injEq] at hx hy ⊢;subst hx hy;rfl
 ·simp [BE.ev,hx,hy,op2]
theorem arI_den {P:Program} {o:BinOp} {t:TypeId} {x y:IE} {a b:Int} {c:SC} (hx:x.ev E.env=some a) (hy:y.ev E.env=some b) (h:arI o x y=some c) :
  ∃ v p,binC P o t (.int .i64 a) (.int .i64 b)=some (v,p)∧p∧zcW E c=some v:=by
 cases o<;>simp only [arI,Option.some.injEq,reduceCtorEq] at h
 all_goals (subst h;refine ⟨_,_,rfl,?_,?_⟩)
 all_goals first
  | trivial
  | rfl
  | (rw [mkI_den,addI_ev hx hy];rfl)
  | (rw [mkI_den,subI_ev hx hy];rfl)
  | (rw [mkI_den,mulI_ev hx hy];rfl)
  | (rw [zdn,eqI_ev hx hy];rfl)
  | (rw [zdn,notB_ev (eqI_ev hx hy)];rfl)
  | (rw [zdn,ltI_ev hx hy];rfl)
  | (rw [zdn,leI_ev hx hy];rfl)
  | (rw [zdn,ltI_ev hy hx];rfl)
  | (rw [zdn,leI_ev hy hx];rfl)
theorem arB_den {P:Program} {o:BinOp} {t:TypeId} {x y:BE} {a b:Bool} {c:SC} (ht:zdj P t=true) (hx:x.ev E.env=some a) (hy:y.ev E.env=some b) (h:arB o x y=some c) :
  ∃ v p,binC P o t (.bool a) (.bool b)=some (v,p)∧p∧zcW E c=some v:=by
 cases o<;>simp only [arB,Option.some.injEq,reduceCtorEq] at h
 all_goals (subst h;refine ⟨_,_,rfl,ht,?_⟩)
 ·rw [zdn,beqB_ev hx hy];rfl
 ·rw [zdn,notB_ev (beqB_ev hx hy)];rfl
theorem arS_den {P:Program} {o:BinOp} {t:TypeId} {x y:SE} {a b:ByteArray} {c:SC} (hx:x.ev E.env=some (bs a)) (hy:y.ev E.env=some (bs b)) (h:arS o x y=some c) :
  ∃ v p,binC P o t (.string a) (.string b)=some (v,p)∧p∧zcW E c=some v:=by
 have h1:(BE.seq x y).ev E.env=some (decide (bs a=bs b)):=by simp [BE.ev,hx,hy,op2]
 cases o<;>simp only [arS,Option.some.injEq,reduceCtorEq] at h
 all_goals (subst h;refine ⟨_,_,rfl,trivial,?_⟩)
 ·rw [zdn,h1];rfl
 ·rw [zdn,notB_ev h1];rfl
theorem binS_den {P:Program} (H:SatO E sz) {o:BinOp} {t:TypeId} {x y c:SC} {vx vy:Value} (hx:zcW E x=some vx) (hy:zcW E y=some vy) (h:binS P sz o t x y=some c) :
  ∃ v p,binC P o t vx vy=some (v,p)∧p∧zcW E c=some v:=by
 unfold binS at h
 split at h
 ·rename_i a b ha hb
  obtain ⟨z,h1,rfl⟩:=iOf_den ha hx
  obtain ⟨u,h2,rfl⟩:=iOf_den hb hy
  exact arI_den h1 h2 h
 ·split at h
  ·rename_i a b ha hb
   split at h
   ·rename_i ht
    obtain ⟨z,h1,rfl⟩:=zdK H ha hx
    obtain ⟨u,h2,rfl⟩:=zdK H hb hy
    exact arB_den ht h1 h2 h
   ·cases h
  ·split at h
   ·rename_i a b ha hb
    obtain ⟨z,h1,rfl⟩:=sOf_den H ha hx
    obtain ⟨u,h2,rfl⟩:=sOf_den H hb hy
    exact arS_den h1 h2 h
   ·cases h
theorem lenQ_den {P:Program} (H:SatO E sz) {t:TypeId} {x c:SC} {vx:Value} (hx:zcW E x=some vx) (h:lenQ P sz t x=some c) :
  ∃ v p,lenC P t vx=some (v,p)∧p∧zcW E c=some v:=by
 unfold lenQ at h
 split at h
 ·rename_i b off n cp
  obtain ⟨β,_,rfl⟩:=zaF hx
  split at h
  ·rename_i ht;injection h with h;subst h
   exact ⟨_,_,rfl,ht,rfl⟩
  ·cases h
 ·rename_i b n
  obtain ⟨β,_,rfl⟩:=zaF hx
  split at h
  ·rename_i ht;injection h with h;subst h
   exact ⟨_,_,rfl,ht,rfl⟩
  ·cases h
 ·split at h
  ·rename_i hl
   obtain ⟨l,a,cap,h1,rfl⟩:=lOf_den H hl hx
   injection h1 with h1;subst h1
   split at h
   ·rename_i ht;injection h with h;subst h
    exact ⟨_,_,rfl,ht,rfl⟩
   ·cases h
  ·rename_i k j hl
   obtain ⟨l,a,cap,h1,rfl⟩:=lOf_den H hl hx
   split at h
   ·rename_i ht;injection h with h;subst h
    exact ⟨_,_,rfl,ht,by simp only [zcW,lOf_len H hl h1];rfl⟩
   ·cases h
  ·split at h
   ·rename_i l hl
    obtain ⟨s,h1,rfl⟩:=sOf_den H hl hx
    injection h1 with h1;subst h1
    split at h
    ·rename_i ht;injection h with h;subst h
     exact ⟨_,_,rfl,ht,by rw [zb7];rfl⟩
    ·cases h
   ·rename_i k hl
    obtain ⟨s,h1,rfl⟩:=sOf_den H hl hx
    split at h
    ·rename_i ht;injection h with h;subst h
     refine ⟨_,_,rfl,ht,?_⟩
     have h2:=evS_some h1
     simp only [zcW,IE.ev,h2,zcp,At.len,zb7];rfl
    ·cases h
   ·cases h
theorem lok_lc {P:Program} {w:World} {ev:Operand→Value} {ty:TypeId} {op:Op} {v:Value} {p:Prop} (h:lc P w ev op=some (v,p)) (hp:p):lokO P w ev ty op∧lvO P w ev ty op=v:=by
 rw [lokO_eq,lvO_eq,h];exact ⟨hp,rfl⟩
theorem lok_run {P:Program} {w:World} {ev:Operand→Value} {ty:TypeId} {op:Op} {v:Value} (h:lc P w ev op=none) (hr:zcP P w ev ty op=some (.value v)):lokO P w ev ty op∧lvO P w ev ty op=v:=by
 rw [lokO_eq,lvO_eq,h];exact ⟨⟨v,hr⟩,by simp [outV,anyV,hr]⟩
theorem fldS_den {P:Program} {o:TypeId × Nat} {cs:List SC} {vs:List Value} {x:S1} (hcs:zcT E cs=some vs) (h:fldS P (some o) cs=some x):∃ v,den1 E x=some v∧fldV P (some o) (.agg vs.toArray)=some v:=by
 simp only [fldS] at h
 split at h
 ·rename_i hu
  split at h
  ·rename_i ha
   split at h
   ·rename_i c hc
    injection h with h;subst h
    obtain ⟨v,h1,h2⟩:=denL_get hcs hc
    refine ⟨v,h2,?_⟩
    rw [show o=(o.1,o.2) from rfl,fldV_some,if_pos hu,ha,fldW_none]
    simpa using h1
   ·cases h
  ·rename_i n ha
   split at h
   ·rename_i l hl
    injection h with h;subst h
    obtain ⟨h1,h2⟩:=denL_row hcs hl
    refine ⟨.agg ((vs.drop o.2).take n).toArray,by simp only [den1,h1,op1],?_⟩
    rw [show o=(o.1,o.2) from rfl,fldV_some,if_pos hu,ha,fldW_some]
   ·cases h
 ·cases h
theorem rowV_of {w:World} {β:Nat} {vs:List Value} {off n:Nat} (hB:∀ (j:Nat) (v:Value),off≤j→j<off+n→vs[j]? = some v→w.cell? ⟨β,j,none⟩=some v) (hl:off+n≤vs.length):∀ (m i:Nat),i+m≤n→za1 w ⟨β,off,none⟩ i m∧za4 w ⟨β,off,none⟩ i m=(vs.drop (off+i)).take m
 | 0,i,_=>⟨trivial,by simp [za4]⟩
 | m+1,i,h=>by
  obtain ⟨h1,h2⟩:=rowV_of hB hl m (i+1) (by omega)
  have hlt:off+i<vs.length:=by omega
  have hc:w.cell? ((⟨β,off,none⟩:Addr).add i)=some vs[off+i]:=by
   rw [za0];exact hB _ _ (by omega) (by omega) (List.getElem?_eq_getElem hlt)
  refine ⟨⟨by rw [hc];rfl,h1⟩,?_⟩
  simp only [za4,cellV,hc,h2,Option.getD_some]
  rw [List.drop_eq_getElem_cons hlt,List.take_succ_cons]
  rfl
theorem all_no16 {cs:List SC} {off n:Nat} (h:((cs.drop off).take n).all SC.no16=true) {j:Nat} (h1:off≤j) (h2:j<off+n) {c:SC} (hc:cs[j]? = some c):c.no16=true:=by
 refine (List.all_eq_true.1 h) c (List.mem_of_getElem? (i:=j-off) ?_)
 rw [List.getElem?_take,if_pos (by omega),List.getElem?_drop,show off+(j-off)=j by omega]
 exact hc
theorem loadS_den {P:Program} {h:List (Option (List SC))} {w:World} (H:SatB E h w) {t:TypeId} {b off β:Nat} {x:S1} (hb:E.bl b=some β) (hl:loadS P h t b off=some x) :
  ∃ v p,ldC P w t (aggT P t) (.pointer (some ⟨β,off,none⟩))=some (v,p)∧p∧den1 E x=some v:=by
 unfold loadS at hl
 split at hl
 ·rename_i cs hcs
  obtain ⟨β',tc,vs,h1,h2,h3⟩:=H b cs hcs
  rw [hb] at h1;injection h1 with h1;subst h1
  split at hl
  ·rename_i ha
   split at hl
   ·rename_i c hc
    split at hl
    ·rename_i hn
     injection hl with hl;subst hl
     obtain ⟨v,h4,h5⟩:=denL_get h2 hc
     have hcell:w.cell? ⟨β,off,none⟩=some v:=h3.cell hc hn h4
     rw [ha]
     exact ⟨_,_,ldC_one t _,by rw [hcell];rfl,by rw [cellV,hcell];exact h5⟩
    ·cases hl
   ·cases hl
  ·rename_i n ha
   split at hl
   ·rename_i hu
    split at hl
    ·rename_i l hr
     split at hl
     ·rename_i hn
      injection hl with hl;subst hl
      obtain ⟨h4,h5⟩:=denL_row h2 hr
      have hr':l=(cs.drop off).take n:=by
       unfold rowS at hr
       split at hr
       ·injection hr with hr;exact hr.symm
       ·cases hr
      rw [hr'] at hn
      obtain ⟨h6,h7⟩:=rowV_of (w:=w) (β:=β) (vs:=vs) (off:=off) (n:=n) (fun j v j1 j2 hv=>by
       have hj:j<cs.length:=by rw [←zdv h2];exact (List.getElem?_eq_some_iff.1 hv).1
       have hc:=List.getElem?_eq_getElem hj
       exact h3.cell hc (all_no16 hn j1 j2 hc) hv) h5 n 0 (by omega)
      rw [ha]
      refine ⟨_,_,ldC_row t n _,⟨hu,h6⟩,?_⟩
      rw [h7,Nat.add_zero]
      simp only [den1,h4,op1]
     ·cases hl
    ·cases hl
   ·cases hl
 ·cases hl
theorem arE_some {P:Program} {t:TypeId} {a:Nat × TypeId × Nat} (h:arE P t=some a):∃ i,P.underlying t=some (.array a.1 a.2.1)∧P.info? a.2.1=some i∧i.size=a.2.2:=by
 unfold arE at h
 split at h
 ·rename_i n e he
  cases hi:P.info? e with
  | none=>simp [hi] at h
  | some i=>simp [hi] at h;subst h;exact ⟨i,he,hi,rfl⟩
 ·cases h
theorem slE_ar {P:Program} {t:TypeId} {n:Nat} {e:TypeId} (h:P.underlying t=some (.array n e)):slE P t=none:=by
 unfold slE;rw [h]
theorem run_ia {P:Program} {w:World} {ev:Operand→Value} {ty t:TypeId} {x i:Operand} {a:Nat × TypeId × Nat} {ad:Addr} {k:IntKind} {z:Int} (ha:arE P t=some a) (hx:ev x = .pointer (some ad)) (hi:ev i = .int k z) (h0:0≤z) (h1:z<a.1) :
  zcP P w ev ty (.indexAddr t x i)=some (.value (.pointer (some (ad.add (z.toNat*a.2.2))))):=by
 obtain ⟨inf,hu,hinf,hs⟩:=arE_some ha
 simp only [zcP,execOp,Instr.indexAt,hx,hi]
 simp [zag,zau,zah,asIntOf,zaq hu,Instr.sureAddr,h0,h1,zc3 hinf,hs]
theorem run_sa {P:Program} {w:World} {ev:Operand→Value} {ty t:TypeId} {x:Operand} {a:Nat × TypeId × Nat} {ad:Addr} (ha:arE P t=some a) (hx:ev x = .pointer (some ad)) :
  zcP P w ev ty (.slice t x none none none)=some (.value (.slice (some ad) a.1 a.1)):=by
 obtain ⟨inf,hu,hinf,hs⟩:=arE_some ha
 have hb:zb1 P (Instr.sliceBounds false a.1 a.1 none none none) w=some (0,a.1,a.1):=by
  have:=tame_bounds (P:=P) (w:=w) (ev:=ev) (isSlice:=false) (len:=a.1) (cap:=a.1) (lo:=none) (hi:=none) trivial trivial
  simpa [bnd] using this
 simp only [zcP,execOp,Instr.sliceAt,hx]
 simp [zag,zau,zah,zaq hu,Instr.sureAddr,hb,zc3 hinf]
 intro _;unfold Addr.add;split<;>simp_all
theorem run_ix {P:Program} {w:World} {ev:Operand→Value} {ty t:TypeId} {x i:Operand} {a:Nat × TypeId × Nat} {cs:Array Value} {k:IntKind} {z:Int} {v:Value} (ha:arE P t=some a) (hx:ev x = .agg cs) (hi:ev i = .int k z) (h0:0≤z) (h1:z<a.1)
  (hv:fldV P (some (a.2.1,z.toNat*a.2.2)) (.agg cs)=some v):zcP P w ev ty (.index t x i)=some (.value v):=by
 obtain ⟨inf,hu,hinf,hs⟩:=arE_some ha
 simp only [fldV] at hv
 split at hv
 ·rename_i hu2
  obtain ⟨d2,hd2⟩:=Option.isSome_iff_exists.1 hu2
  simp only [zcP,execOp,Instr.index,hx,hi]
  simp only [zag,zau,zah,asIntOf,zaq hu,Option.bind_some,h0,h1,and_self,if_true,zc3 hinf,part,zcx hd2,hs]
  unfold aggT at hv
  simp only [hd2,hinf] at hv
  cases d2<;>simp_all [fldW,zah,zag,ze3 hinf,zau,ext_list]
 ·cases hv
theorem light_den {P:Program} {S:SS} {g:G} {w:World} {ty:TypeId} {op:Op} {x:SV} (HG:SatG E S.g g) (HO:SatO E S.sz) (HM:SatB E S.h w) (h:lightS P S op=some x) :
  lokO P w (evG g) ty op∧denV E x=some (lvO P w (evG g) ty op):=by
 have fin:∀ {v:Value} {p:Prop},lc P w (evG g) op=some (v,p)→p→denV E x=some v→lokO P w (evG g) ty op∧denV E x=some (lvO P w (evG g) ty op):=by
  intro v p h1 h2 h3
  obtain ⟨h4,h5⟩:=lok_lc (ty:=ty) h1 h2
  exact ⟨h4,by rw [h5];exact h3⟩
 have finR:∀ {v:Value},lc P w (evG g) op=none→zcP P w (evG g) ty op=some (.value v)→denV E x=some v→lokO P w (evG g) ty op∧denV E x=some (lvO P w (evG g) ty op):=by
  intro v h1 h2 h3
  obtain ⟨h4,h5⟩:=lok_run (ty:=ty) h1 h2
  exact ⟨h4,by rw [h5];exact h3⟩
 have v1s:∀ {c:Option SC},v1 c=some x→∃ c',c=some c'∧x = .v (.one c'):=by
  intro c hc;cases c<;>simp [v1] at hc;exact ⟨_,rfl,hc.symm⟩
 have vvs:∀ {c:Option S1},vv c=some x→∃ c',c=some c'∧x = .v c':=by
  intro c hc;cases c<;>simp [vv] at hc;exact ⟨_,rfl,hc.symm⟩
 unfold lightS at h
 split at h
 ·rename_i a;exact fin (lc_move a) trivial (zdS HG h)
 ·rename_i a;exact fin (lc_assign a) trivial (zdS HG h)
 ·rename_i c a b
  obtain ⟨c',hc',rfl⟩:=v1s h
  have key:∀ {o:Operand} {d:SC},one? (opnd S.g o)=some d→isBS S.sz d=some c'→∃ z,evG g o = .bool z∧zcW E c'=some (.bool z):=by
   intro o d hd hb
   unfold isBS at hb
   split at hb
   ·rename_i e he
    injection hb with hb;subst hb
    obtain ⟨z,h1,h2⟩:=zdK HO he (zbh HG hd)
    exact ⟨z,h2,by rw [zdn,h1];rfl⟩
   ·cases hb
  unfold pickS at hc'
  split at hc'
  ·rename_i hc
   have e1:=zbh HG hc
   injection e1 with e1
   split at hc'
   ·rename_i d hd
    obtain ⟨z,h1,h2⟩:=key hd hc'
    refine fin (lc_pick c a b) ?_ ?_
    ·rw [←e1,h1];exact ⟨rfl,fun _=>rfl,fun h=>by cases h⟩
    ·rw [←e1,h1];exact h2
   ·cases hc'
  ·rename_i hc
   have e1:=zbh HG hc
   injection e1 with e1
   split at hc'
   ·rename_i d hd
    obtain ⟨z,h1,h2⟩:=key hd hc'
    refine fin (lc_pick c a b) ?_ ?_
    ·rw [←e1,h1];exact ⟨rfl,(fun h=>by cases h),fun _=>rfl⟩
    ·rw [←e1,h1];exact h2
   ·cases hc'
  ·cases hc'
 ·rename_i o t a b u
  split at h
  ·rename_i ca cb ha hb
   obtain ⟨c',hc',rfl⟩:=v1s h
   obtain ⟨v,p,h1,h2,h3⟩:=binS_den HO (zbh HG ha) (zbh HG hb) hc'
   exact fin (by rw [lc_bin];exact h1) h2 h3
  ·cases h
 ·rename_i o t a
  split at h
  ·rename_i c hc
   split at h
   ·rename_i e he
    injection h with h;subst h
    obtain ⟨z,h1,h2⟩:=zdK HO he (zbh HG hc)
    refine fin (v:=.bool !z) (p:=True) (by rw [lc_un,h2];rfl) trivial ?_
    show zcW E (mkB (notB e))=_
    rw [zdn,notB_ev h1];rfl
   ·cases h
  ·rename_i c hc
   split at h
   ·rename_i z hz
    injection h with h;subst h
    obtain ⟨u,h1,h2⟩:=iOf_den hz (zbh HG hc)
    injection h1 with h1;subst h1
    exact fin (v:=.int .i64 (IntKind.i64.wrap (0-z))) (p:=True) (by rw [lc_un,h2];rfl) trivial rfl
   ·rename_i e _ he
    injection h with h;subst h
    obtain ⟨z,h1,h2⟩:=iOf_den he (zbh HG hc)
    refine fin (v:=.int .i64 (IntKind.i64.wrap (0-z))) (p:=True) (by rw [lc_un,h2];rfl) trivial ?_
    simp only [denV,den1,zcW,IE.ev,h1,op1]
   ·cases h
  ·cases h
 ·rename_i a
  split at h
  ·rename_i b off hc
   injection h with h;subst h
   have h1:=zbh HG hc
   obtain ⟨β,h2,h3⟩:=zaF h1
   exact fin (v:=.pointer (some ⟨β,off,none⟩)) (p:=True) (by rw [lc_nil,←h3];rfl) trivial (by rw [h3];exact h1)
  ·cases h
 ·rename_i t a f
  split at h
  ·rename_i o b off ho hc
   injection h with h;subst h
   obtain ⟨β,h2,h3⟩:=zaF (zbh HG hc)
   refine fin (v:=.pointer (some ⟨β,off+o.2,none⟩)) (p:=True) (by rw [lc_fieldAddr,ho,←h3,←za0];rfl) trivial ?_
   simp only [denV,den1,zcW,h2,op1]
  ·cases h
 ·rename_i t a f
  split at h
  ·rename_i cs hc
   obtain ⟨c',hc',rfl⟩:=vvs h
   obtain ⟨vs,h1,h2⟩:=zaF (zdS HG hc)
   cases ho:zen P t f with
   | none=>simp [ho,fldS] at hc'
   | some o =>
    rw [ho] at hc'
    obtain ⟨v,h3,h4⟩:=fldS_den h1 hc'
    refine finR (v:=v) (lc_field) (run_field ?_) h3
    rw [ho,←h2];exact h4
  ·cases h
 ·rename_i t a i
  split at h
  ·rename_i b off n cp k z ha hi
   split at h
   ·rename_i size hs
    split at h
    ·rename_i hz
     injection h with h;subst h
     simp only [Bool.and_eq_true,decide_eq_true_eq] at hz
     obtain ⟨β,h2,h3⟩:=zaF (zbh HG ha)
     have h4:=zbh HG hi
     injection h4 with h4
     refine fin (v:=.pointer (some ⟨β,off+z.toNat*size,none⟩)) (p:=0≤z∧z<n∧(some (⟨β,off,none⟩:Addr)).isSome=true) (by rw [lc_indexAddr,hs,←h3,←h4,←za0];rfl) ⟨hz.1,hz.2,rfl⟩ ?_
     simp only [denV,den1,zcW,h2,op1]
    ·cases h
   ·cases h
  ·rename_i b n k z ha hi
   split at h
   ·rename_i size hs
    split at h
    ·rename_i hz
     injection h with h;subst h
     simp only [Bool.and_eq_true,decide_eq_true_eq] at hz
     obtain ⟨β,h2,h3⟩:=zaF (zbh HG ha)
     have h4:=zbh HG hi
     injection h4 with h4
     refine fin (v:=.pointer (some ⟨β,0+z.toNat*size,none⟩)) (p:=0≤z∧z<n∧(some (⟨β,0,none⟩:Addr)).isSome=true) (by rw [lc_indexAddr,hs,←h3,←h4,←za0];rfl) ⟨hz.1,hz.2,rfl⟩ ?_
     simp only [denV,den1,zcW,h2,op1]
    ·cases h
   ·cases h
  ·rename_i b off k z ha hi
   split at h
   ·rename_i ar har
    split at h
    ·rename_i hz
     injection h with h;subst h
     simp only [Bool.and_eq_true,decide_eq_true_eq] at hz
     obtain ⟨β,h2,h3⟩:=zaF (zbh HG ha)
     have h4:=zbh HG hi
     injection h4 with h4
     obtain ⟨inf,hu,_⟩:=arE_some har
     refine finR (v:=.pointer (some ⟨β,off+z.toNat*ar.2.2,none⟩)) (by rw [lc_indexAddr,slE_ar hu];rfl) ?_ ?_
     ·rw [←za0];exact run_ia har h3.symm h4.symm hz.1 hz.2
     ·simp only [denV,den1,zcW,h2,op1]
    ·cases h
   ·cases h
  ·cases h
 ·rename_i t a i
  split at h
  ·rename_i cs k z ar ha hi har
   split at h
   ·rename_i hz
    simp only [Bool.and_eq_true,decide_eq_true_eq] at hz
    obtain ⟨c',hc',rfl⟩:=vvs h
    obtain ⟨vs,h1,h2⟩:=zaF (zdS HG ha)
    have h4:=zbh HG hi
    injection h4 with h4
    obtain ⟨v,h5,h6⟩:=fldS_den h1 hc'
    exact finR (v:=v) (by rw [lc_index,←h2];rfl) (run_ix har h2.symm h4.symm hz.1 hz.2 h6) h5
   ·cases h
  ·cases h
 ·rename_i t a
  split at h
  ·rename_i b off ar hc har
   injection h with h;subst h
   obtain ⟨β,h2,h3⟩:=zaF (zbh HG hc)
   refine finR (v:=.slice (some ⟨β,off,none⟩) ar.1 ar.1) (by rw [lc_slice,←h3];rfl) (run_sa har h3.symm) ?_
   simp only [denV,den1,zcW,h2,op1]
  ·cases h
 ·rename_i t a
  split at h
  ·rename_i b off hc
   obtain ⟨c',hc',rfl⟩:=vvs h
   obtain ⟨β,h2,h3⟩:=zaF (zbh HG hc)
   obtain ⟨v,p,h4,h5,h6⟩:=loadS_den HM h2 hc'
   exact fin (by rw [lc_load,←h3];exact h4) h5 h6
  ·cases h
 ·rename_i a i
  split at h
  ·rename_i l hc
   obtain ⟨c',hc',rfl⟩:=vvs h
   obtain ⟨vs,h1,h2⟩:=zaF (zdS HG hc)
   obtain ⟨v,h3,h4⟩:=denT_get h1 hc'
   have hlt:=(List.getElem?_eq_some_iff.1 h3).1
   refine fin (v:=v) (p:=i<vs.toArray.size) (by rw [lc_extract,←h2,exC_tuple];congr 2;simp [h3]) (by simpa using hlt) h4
  ·cases h
 ·rename_i cl args ts
  split at h
  ·rename_i a t ha ht
   split at h
   ·rename_i c hc
    obtain ⟨c',hc',rfl⟩:=v1s h
    obtain ⟨v,p,h1,h2,h3⟩:=lenQ_den HO (zbh HG hc) hc'
    have e1:args = #[a]:=by apply Array.toList_inj.1;simpa using ha
    have e2:ts = #[t]:=by apply Array.toList_inj.1;simpa using ht
    subst e1 e2
    exact fin (by rw [lc_len];exact h1) h2 h3
   ·cases h
  ·cases h
 ·cases h
end
structure Ext (B:Nat) (E:En) (w:World) (E':En) (w':World):Prop where
 le:E.Le E'
 new:∀ b β,E'.bl b=some β→E.bl b=some β∨w.heap.size≤β
 bel:Below B w w'
theorem Ext.refl (B:Nat) (E:En) (w:World):Ext B E w E w:=⟨En.Le.refl E,fun _ _ h=>.inl h,Below.refl _ _⟩
theorem Ext.trans {B:Nat} {E E' E'':En} {w w' w'':World} (h:Ext B E w E' w') (h':Ext B E' w' E'' w''):Ext B E w E'' w'':=by
 refine ⟨h.le.trans h'.le,fun b β hb=>?_,h.bel.trans h'.bel⟩
 rcases h'.new b β hb with h1|h1
 ·exact h.new b β h1
 ·exact .inr (Nat.le_trans h.bel.size h1)
theorem Ext.weak {B C:Nat} {E E':En} {w w':World} (h:Ext B E w E' w') (hc:C≤B):Ext C E w E' w':=⟨h.le,h.new,h.bel.mono hc⟩
theorem SatG.le {E E':En} {l:List SV} {g:G} (h:SatG E l g) (hle:E.Le E'):SatG E' l g:=fun t v hv=>denV_mono hle (h t v hv)
theorem SatG.put {E:En} {S:SS} {g:G} (h:SatG E S.g g) (d:Option Nat) {x:SV} {v:Value} (hx:denV E x=some v):SatG E (S.put d x).g (zci g d v):=by
 cases d with
 | none=>exact h
 | some d =>
  intro t y hy
  simp only [SS.put] at hy
  simp only [zci,upd]
  by_cases e:t=d
  ·subst e
   rw [if_pos rfl]
   rw [List.getElem?_set] at hy
   simp at hy
   rw [←hy.2];exact hx
  ·rw [if_neg e]
   rw [List.getElem?_set_ne (Ne.symm e)] at hy
   exact h t y hy
theorem SatG.und {E:En} {S:SS} {g:G} (h:SatG E S.g g) (d:Option Nat):SatG E (S.put d undS).g (zci g d undef):=h.put d rfl
theorem put_h (S:SS) (d:Option Nat) (x:SV):(S.put d x).h=S.h:=by cases d<;>rfl
theorem zdB (S:SS) (d:Option Nat) (x:SV):(S.put d x).sz=S.sz:=by cases d<;>rfl
theorem Rep_cell {w:World} {a:At} {cs:List Value} (h:a.Rep w cs):∀ v∈cs,v.oneCell'=true∧no16 v=true:=by
 cases a
 ·simp only [At.Rep] at h;subst h;simp [Value.oneCell',no16]
 ·simp only [At.Rep] at h;subst h;simp [Value.oneCell',no16]
 ·simp only [At.Rep] at h;subst h;simp [Value.oneCell',no16]
 ·obtain ⟨a,c,a',c',rfl,_⟩:=h;simp [Value.oneCell',no16]
 ·obtain ⟨a,c,rfl,_⟩:=h;simp [Value.oneCell',no16]
 ·obtain ⟨a,c,rfl,_⟩:=h;simp [Value.oneCell',no16]
 ·obtain ⟨rfl,h1,h2⟩:=h;intro x hx;rw [List.mem_singleton.1 hx];exact ⟨h1,h2⟩
 ·simp only [At.Rep] at h;subst h;simp [Value.oneCell',no16]
 ·simp only [At.Rep] at h;subst h;simp [Value.oneCell',no16]
section
variable {s:Nat} {E:En} {h:List (Option (List SC))} {sz:Szs} {w:World} (H:SatM s E h sz w)
include H
theorem cell_ok {c:SC} {v:Value} (hc:zcW E c=some v):(c.okc=true→v.oneCell'=true)∧(c.no16=true→no16 v=true):=by
 cases c with
 | lit u =>
  injection hc with hc;subst hc
  refine ⟨id,fun h=>?_⟩
  unfold SC.no16 at h
  unfold no16
  split
  ·simp at h
  ·rfl
 | ob k j =>
  simp only [zcW] at hc
  cases hk:E.ob k with
  | none=>simp [hk,obC] at hc
  | some q =>
   obtain ⟨p,hp⟩:=H.odom k q hk
   obtain ⟨a,cs,h1,_,h3,_⟩:=H.objs k p hp
   rw [hk] at h1;injection h1 with h1;subst h1
   simp only [hk,obC] at hc
   have:=Rep_cell h3 v (List.mem_of_getElem? hc)
   exact ⟨fun _=>this.1,fun _=>this.2⟩
 | ix e=>obtain ⟨z,_,rfl⟩:=zaF hc;exact ⟨fun _=>rfl,fun _=>rfl⟩
 | bx e=>obtain ⟨z,_,rfl⟩:=zaF hc;exact ⟨fun _=>rfl,fun _=>rfl⟩
 | ptr b off=>obtain ⟨z,_,rfl⟩:=zaF hc;exact ⟨fun _=>rfl,fun _=>rfl⟩
 | sl b off n c=>obtain ⟨z,_,rfl⟩:=zaF hc;exact ⟨fun _=>rfl,fun _=>rfl⟩
 | sv b n=>obtain ⟨z,_,rfl⟩:=zaF hc;exact ⟨fun _=>rfl,fun _=>rfl⟩
theorem cells_ok:∀ {l:List SC} {vs:List Value},zcT E l=some vs→(l.all SC.okc=true→∀ v∈vs,v.oneCell'=true)∧(l.all SC.no16=true→∀ v∈vs,no16 v=true)
 | [],_,hl=>by injection hl with hl;subst hl;simp
 | c::r,_,hl=>by
  obtain ⟨a,b,h1,h2,rfl⟩:=zat hl
  have i1:=cell_ok H h1
  have i2:=cells_ok h2
  simp only [List.all_cons,Bool.and_eq_true,List.mem_cons]
  refine ⟨fun hh v hv=>?_,fun hh v hv=>?_⟩
  ·rcases hv with rfl|hv
   ·exact i1.1 hh.1
   ·exact i2.1 hh.2 v hv
  ·rcases hv with rfl|hv
   ·exact i1.2 hh.1
   ·exact i2.2 hh.2 v hv
end
theorem cells_one {v:Value} (h:v.oneCell'=true):v.cells = #[v]:=by
 cases v<;>first|rfl|simp [Value.oneCell'] at h
theorem cells1_den {s:Nat} {E:En} {h:List (Option (List SC))} {sz:Szs} {w:World} (H:SatM s E h sz w) {x:S1} {l:List SC} {v:Value} (hx:den1 E x=some v) (hl:cells1 x=some l):∃ vs,zcT E l=some vs∧v.cells=vs.toArray:=by
 cases x with
 | one c =>
  simp only [cells1] at hl
  split at hl
  ·rename_i hok
   injection hl with hl;subst hl
   exact ⟨[v],zdA hx rfl,cells_one ((cell_ok H hx).1 hok)⟩
  ·cases hl
 | agg l' =>
  injection hl with hl;subst hl
  obtain ⟨vs,h1,rfl⟩:=zaF hx
  exact ⟨vs,h1,rfl⟩
theorem cellsV_den {s:Nat} {E:En} {h:List (Option (List SC))} {sz:Szs} {w:World} (H:SatM s E h sz w) {gl:List SV} {g:G} (HG:SatG E gl g) {x:Operand} {l:List SC} (hl:cellsV (opnd gl x)=some l):∃ vs,zcT E l=some vs∧(evG g x).cells=vs.toArray:=by
 unfold cellsV at hl
 split at hl
 ·rename_i y hy
  exact cells1_den H (zdS HG hy) hl
 ·cases hl
theorem RD.off16 {w:World} {a:Option Addr} {c b:Nat} {l:List Nat} {vs:List Value} {t:TypeId} (h:RD w a c l) (hB:Bx w b vs.toArray t) (hv:∀ v∈vs,no16 v=true):∀ ad,a=some ad→l≠[]→ad.block≠b:=by
 intro ad ha hl e
 rcases h.sl with e0|⟨b',off,e1,hc⟩
 ·exact hl (List.map_eq_nil_iff.1 e0)
 ·rw [ha] at e1
  injection e1 with e1
  subst e1
  subst e
  obtain ⟨x,r,rfl⟩:∃ x r,l=x::r:=by
   cases l with
   | nil=>exact absurd rfl hl
   | cons x r=>exact ⟨x,r,rfl⟩
  have h1:=hc 0 (.int .u16 x) rfl
  rw [hB.cell] at h1
  have h2:(Value.int .u16 x)∈vs:=List.mem_of_getElem? (by simpa using h1)
  exact absurd (hv _ h2) (by simp [no16])
theorem At.Rep.keep {w w':World} {a:At} {cs:List Value} (h:a.Rep w cs) (hb:Below w.heap.size w w'):a.Rep w' cs:=by
 cases a with
 | n z=>exact h
 | b z=>exact h
 | s z=>exact h
 | w z=>exact h
 | k z=>exact h
 | kb z=>exact h
 | r neg l m=>obtain ⟨a,c,a',c',e,h1,h2⟩:=h;exact ⟨a,c,a',c',e,h1.ext hb,h2.ext hb⟩
 | y neg l=>obtain ⟨a,c,e,h1⟩:=h;exact ⟨a,c,e,h1.ext hb⟩
 | u l=>obtain ⟨a,c,e,h1⟩:=h;exact ⟨a,c,e,h1.ext hb⟩
theorem At.Rep.sto {w w':World} {a:At} {cs:List Value} {b:Nat} {vs:List Value} {t:TypeId} (h:a.Rep w cs) (hs:Sto w w' b) (hB:Bx w b vs.toArray t) (hv:∀ v∈vs,no16 v=true):a.Rep w' cs:=by
 cases a with
 | n z=>exact h
 | b z=>exact h
 | s z=>exact h
 | w z=>exact h
 | k z=>exact h
 | kb z=>exact h
 | r neg l m=>obtain ⟨a,c,a',c',e,h1,h2⟩:=h;exact ⟨a,c,a',c',e,h1.sto hs (h1.off16 hB hv),h2.sto hs (h2.off16 hB hv)⟩
 | y neg l=>obtain ⟨a,c,e,h1⟩:=h;exact ⟨a,c,e,h1.sto hs (h1.off16 hB hv)⟩
 | u l=>obtain ⟨a,c,e,h1⟩:=h;exact ⟨a,c,e,h1.sto hs (h1.off16 hB hv)⟩
theorem SatM.keep {s:Nat} {E:En} {h:List (Option (List SC))} {sz:Szs} {w w':World} (H:SatM s E h sz w) (hb:Below w.heap.size w w'):SatM s E h sz w':=by
 refine ⟨fun b cs hc=>?_,H.inj,fun b β hβ=>Nat.lt_of_lt_of_le (H.dom b β hβ) hb.size,H.hdom,fun k p hk=>?_,H.odom⟩
 ·obtain ⟨β,t,vs,h1,h2,h3⟩:=H.blocks b cs hc
  exact ⟨β,t,vs,h1,h2,h3.keep hb⟩
 ·obtain ⟨a,cs,h1,h2,h3,h4⟩:=H.objs k p hk
  exact ⟨a,cs,h1,h2,h3.keep hb,h4⟩
theorem SatM.new {s:Nat} {E:En} {h:List (Option (List SC))} {sz:Szs} {w w1:World} (H:SatM s E h sz w) {nb b:Nat} {cs:List SC} {vs:List Value} {t:TypeId} (hn:h[nb]? = some none) (hE:Below w.heap.size w w1) (hle:w.heap.size≤b) (hB:Bx w1 b vs.toArray t) (hd:zcT E cs=some vs) :
  ∃ E',SatM s E' (h.set nb (some cs)) sz w1∧E'.env=E.env∧E'.bl nb=some b∧Ext w.heap.size E w E' w1:=by
 have hnone:E.bl nb=none:=by
  cases hb:E.bl nb with
  | none=>rfl
  | some β=>obtain ⟨cs',hc⟩:=H.hdom nb β hb;rw [hn] at hc;cases hc
 let E':En:={ E with bl:=fun x=>if x=nb then some b else E.bl x }
 have hle':E.Le E':=⟨fun x β hx=>by
  show (if x=nb then some b else E.bl x)=some β
  by_cases e:x=nb
  ·subst e;rw [hnone] at hx;cases hx
  ·rw [if_neg e];exact hx,fun _ _ h=>h,rfl⟩
 have hnl:nb<h.length:=(List.getElem?_eq_some_iff.1 hn).1
 have hbl:∀ x β,E'.bl x=some β→(x=nb∧β=b)∨(x≠nb∧E.bl x=some β):=by
  intro x β hx
  have hx':(if x=nb then some b else E.bl x)=some β:=hx
  by_cases e:x=nb
  ·rw [if_pos e] at hx';injection hx' with hx';exact .inl ⟨e,hx'.symm⟩
  ·rw [if_neg e] at hx';exact .inr ⟨e,hx'⟩
 refine ⟨E',⟨fun x cs' hc=>?_,fun x y β hx hy=>?_,fun x β hx=>?_,fun x β hx=>?_,fun k p hk=>?_,H.odom⟩,rfl,if_pos rfl,hle',fun x β hx=>?_,hE⟩
 ·by_cases e:x=nb
  ·subst e
   rw [List.getElem?_set] at hc
   simp [hnl] at hc
   subst hc
   exact ⟨b,t,vs,if_pos rfl,zd7 hle' hd,.inl hB⟩
  ·rw [List.getElem?_set_ne (Ne.symm e)] at hc
   obtain ⟨β,t',vs',h1,h2,h3⟩:=H.blocks x cs' hc
   exact ⟨β,t',vs',hle'.bl x β h1,zd7 hle' h2,h3.keep hE⟩
 ·rcases hbl x β hx with ⟨h1,h2⟩|⟨h1,h2⟩<;>rcases hbl y β hy with ⟨h3,h4⟩|⟨h3,h4⟩
  ·rw [h1,h3]
  ·have:=H.dom y β h4;omega
  ·have:=H.dom x β h2;omega
  ·exact H.inj x y β h2 h4
 ·rcases hbl x β hx with ⟨h1,h2⟩|⟨h1,h2⟩
  ·rw [h2];exact hB.lt
  ·exact Nat.lt_of_lt_of_le (H.dom x β h2) hE.size
 ·rcases hbl x β hx with ⟨h1,h2⟩|⟨h1,h2⟩
  ·subst h1
   exact ⟨cs,by rw [List.getElem?_set];simp [hnl]⟩
  ·obtain ⟨cs',hc⟩:=H.hdom x β h2
   exact ⟨cs',by rw [List.getElem?_set_ne (Ne.symm h1)];exact hc⟩
 ·obtain ⟨a,cs',h1,h2,h3,h4⟩:=H.objs k p hk
  exact ⟨a,cs',h1,h2,h3.keep hE,h4⟩
 ·rcases hbl x β hx with ⟨h1,h2⟩|⟨h1,h2⟩
  ·exact .inr (by rw [h2];exact hle)
  ·exact .inl h2
theorem SatM.write {s:Nat} {E:En} {h:List (Option (List SC))} {sz:Szs} {w w1:World} (H:SatM s E h sz w) {b β:Nat} {cs cs':List SC} {vs vs':List Value} {t:TypeId} (hh:h[b]? = some (some cs)) (hβ:E.bl b=some β) (hB:Bx w β vs.toArray t) (hv:∀ v∈vs,no16 v=true)
  (hS:Sto w w1 β) (hB':Bx w1 β vs'.toArray t) (hd:zcT E cs'=some vs'):SatM s E (h.set b (some cs')) sz w1:=by
 have hnl:b<h.length:=(List.getElem?_eq_some_iff.1 hh).1
 refine ⟨fun x cs2 hc=>?_,H.inj,fun x γ hx=>by rw [hS.size];exact H.dom x γ hx,fun x γ hx=>?_,fun k p hk=>?_,H.odom⟩
 ·by_cases e:x=b
  ·subst e
   rw [List.getElem?_set] at hc
   simp [hnl] at hc
   subst hc
   exact ⟨β,t,vs',hβ,hd,.inl hB'⟩
  ·rw [List.getElem?_set_ne (Ne.symm e)] at hc
   obtain ⟨γ,t',us,h1,h2,h3⟩:=H.blocks x cs2 hc
   exact ⟨γ,t',us,h1,h2,h3.sto hS (fun e'=>e (H.inj x b β (by rw [h1,e']) hβ))⟩
 ·obtain ⟨c2,hc⟩:=H.hdom x γ hx
  by_cases e:x=b
  ·subst e;exact ⟨cs',by rw [List.getElem?_set];simp [hnl]⟩
  ·exact ⟨c2,by rw [List.getElem?_set_ne (Ne.symm e)];exact hc⟩
 ·obtain ⟨a,c2,h1,h2,h3,h4⟩:=H.objs k p hk
  exact ⟨a,c2,h1,h2,h3.sto hS hB hv,h4⟩
def All2 {α β:Type} (R:α→β→Prop):List α→List β→Prop
 | [],[]=>True
 | a::l,b::m=>R a b∧All2 R l m
 | _,_=>False
theorem putS_den {E:En}:∀ {cs:List SC} {us:List Value} {l:List SC} {vs:List Value} (i:Nat),zcT E l=some vs→zcT E cs=some us→zcT E (putS l i cs)=some (zaw vs.toArray i us).toList
 | [],_,l,vs,i,hl,hc=>by injection hc with hc;subst hc;simpa [putS,zaw] using hl
 | c::r,_,l,vs,i,hl,hc=>by
  obtain ⟨a,b,h1,h2,rfl⟩:=zat hc
  have:=putS_den (i+1) (denL_set i hl h1) h2
  simpa [putS,zaw] using this
theorem fold_put (off:Nat):∀ (vs:List Value) (j:Nat) (cells:Array Value),(vs.zipIdx j).foldl (fun cs (x:Value × Nat)=>cs.setIfInBounds (off+x.2) x.1) cells=zaw cells (off+j) vs
 | [],_,_=>rfl
 | v::r,j,cells=>by
  rw [List.zipIdx_cons,List.foldl_cons,fold_put off r (j+1)]
  rw [zaw];rfl
theorem fillS_den {E:En} {place:Nat→Option (Nat × Nat)}:∀ {pl:List (Nat × List SC)} {pv:List (Nat × Value)} {cells cs:List SC} {vs:List Value},zcT E cells=some vs →
  All2 (fun (p:Nat × List SC) (q:Nat × Value)=>p.1=q.1∧∃ us,zcT E p.2=some us∧q.2.cells=us.toArray) pl pv→fillS place cells pl=some cs→∃ us,zcT E cs=some us∧Instr.fill place vs.toArray pv=some us.toArray
 | [],[],cells,cs,vs,hc,hp,h=>by
  injection h with h;subst h
  exact ⟨vs,hc,rfl⟩
 | [],_::_,_,_,_,_,hp,_=>hp.elim
 | _::_,[],_,_,_,_,hp,_=>hp.elim
 | (i,c)::r,(i',v)::pv,cells,cs,vs,hc,hp,h=>by
   obtain ⟨⟨h3,us,h4,h5⟩,h2⟩:=hp
   simp only at h3 h5 h4
   subst h3
   simp only [fillS] at h
   simp only [Instr.fill]
   split at h
   ·cases h
   ·rename_i off size hpl
    split at h
    ·rename_i hcond
     simp only [Bool.and_eq_true,Nat.beq_eq,Nat.ble_eq] at hcond
     have hl1:=zdv h4
     have hl2:=zdv hc
     have e1:¬(v.cells.size≠size∨off+v.cells.size > vs.toArray.size):=by
      rw [h5];simp;omega
     simp only [hpl]
     rw [if_neg (by simpa using e1)]
     have e2:(v.cells.zipIdx.foldl (fun cs (x:Value × Nat)=>cs.setIfInBounds (off+x.2) x.1) vs.toArray)=zaw vs.toArray off us:=by
      rw [h5]
      have:=fold_put off us 0 vs.toArray
      rw [←Array.foldl_toList]
      simpa using this
     have ih:=fillS_den (putS_den off hc h4) h2 h
     simp only [Array.toArray_toList] at ih
     rw [show (v.cells.zipIdx.foldl (fun cs x=>match x with|(c,j)=>cs.setIfInBounds (off+j) c) vs.toArray)=zaw vs.toArray off us from e2]
     exact ih
    ·cases h
theorem partsS_den {s:Nat} {E:En} {h:List (Option (List SC))} {sz:Szs} {w:World} (H:SatM s E h sz w) {gl:List SV} {g:G} (HG:SatG E gl g):∀ {ps:List (Nat × Operand)} {pl:List (Nat × List SC)},partsS gl ps=some pl →
  All2 (fun (p:Nat × List SC) (q:Nat × Value)=>p.1=q.1∧∃ us,zcT E p.2=some us∧q.2.cells=us.toArray) pl (ps.map fun x=>(x.1,evG g x.2))
 | [],_,hp=>by injection hp with hp;subst hp;exact trivial
 | (i,x)::r,_,hp=>by
  obtain ⟨c,l,h1,h2,rfl⟩:=zat hp
  exact ⟨⟨rfl,cellsV_den H HG h1⟩,partsS_den H HG h2⟩
end Go.Proofs.YtefhenfofomjhaaGreat
