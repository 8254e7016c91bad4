/- Symbolic evaluation: what a symbolic value stands for stays; operations that only read. -/
import Derived.Test.YtefhenfofomjhaaGreatEv1
set_option linter.unusedSimpArgs false
set_option linter.unusedVariables false
namespace Go.Proofs.YtefhenfofomjhaaGreat
open Go Go.RowKit Go.V
abbrev Szs:=List (Option (Sh × Nat × Nat))
structure En.Le (E E':En):Prop where
 bl:∀ b β,E.bl b=some β→E'.bl b=some β
 ob:∀ k q,E.ob k=some q→E'.ob k=some q
 cv:E'.cv=E.cv
theorem En.Le.refl (E:En):E.Le E:=⟨fun _ _ h=>h,fun _ _ h=>h,rfl⟩
theorem En.Le.trans {E E' E'':En} (h:E.Le E') (h':E'.Le E''):E.Le E'':=⟨fun b β x=>h'.bl b β (h.bl b β x),fun k q x=>h'.ob k q (h.ob k q x),h'.cv.trans h.cv⟩
theorem zau {α β γ:Type} {f:α→β→γ} {x:Option α} {y:Option β} {z:γ} (h:op2 f x y=some z):∃ a b,x=some a∧y=some b∧f a b=z:=by
 cases x<;>cases y<;>simp [op2] at h
 exact ⟨_,_,rfl,rfl,h⟩
theorem zaG {α β:Type} {f:α→β} {x:Option α} {z:β} (h:op1 f x=some z):∃ a,x=some a∧f a=z:=by
 cases x<;>simp [op1] at h
 exact ⟨_,rfl,h⟩
theorem op3_some {α β γ δ:Type} {f:α→β→γ→δ} {x:Option α} {y:Option β} {z:Option γ} {r:δ} (h:op3 f x y z=some r):∃ a b c,x=some a∧y=some b∧z=some c∧f a b c=r:=by
 cases x<;>cases y<;>cases z<;>simp [op3] at h
 exact ⟨_,_,_,rfl,rfl,rfl,h⟩
theorem zcO {α β γ:Type} {f:α→β→γ} {x x':Option α} {y y':Option β} {z:γ} (h:op2 f x y=some z) (hx:∀ a,x=some a→x'=some a) (hy:∀ a,y=some a→y'=some a):op2 f x' y'=some z:=by
 obtain ⟨a,b,rfl,rfl,rfl⟩:=zau h
 rw [hx a rfl,hy b rfl];rfl
theorem zd6 {α β:Type} {f:α→β} {x x':Option α} {z:β} (h:op1 f x=some z) (hx:∀ a,x=some a→x'=some a):op1 f x'=some z:=by
 obtain ⟨a,rfl,rfl⟩:=zaG h
 rw [hx a rfl];rfl
def EvLe (e e':Ev):Prop:=∀ k a,e k=some a→e' k=some a
theorem En.Le.env {E E':En} (h:E.Le E'):EvLe E.env E'.env:=by
 intro k a ha
 unfold En.env at *
 cases hk:E.ob k with
 | none=>simp [hk] at ha
 | some q=>rw [h.ob k q hk];simpa [hk] using ha
theorem evN_some {o:Option At} {z:Int} (h:evN o=some z):o=some (.n z):=by
 unfold evN at h;split at h<;>simp at h;subst h;rfl
theorem evB_some {o:Option At} {z:Bool} (h:evB o=some z):o=some (.b z):=by
 unfold evB at h;split at h<;>simp at h;subst h;rfl
theorem evS_some {o:Option At} {z:List UInt8} (h:evS o=some z):o=some (.s z):=by
 unfold evS at h;split at h<;>simp at h;subst h;rfl
theorem evLen_some {j:Nat} {o:Option At} {z:Int} (h:zcb j o=some z):∃ a n,o=some a∧a.len j=some n∧z=(n:Int):=by
 cases o with
 | none=>simp [zcb] at h
 | some a =>
  simp only [zcb] at h
  split at h
  ·rename_i n hn;injection h with h;exact ⟨a,n,rfl,hn,h.symm⟩
  ·cases h
theorem evBit_some {o:Option At} {z:Bool} (h:zcr o=some z):∃ a,o=some a∧a.bit=some z:=by
 cases o with
 | none=>simp [zcr] at h
 | some a=>exact ⟨a,rfl,h⟩
theorem evLst_some {j:Nat} {o:Option At} {z:List Nat} (h:zcn j o=some z):∃ a,o=some a∧a.lst j=some z:=by
 cases o with
 | none=>simp [zcn] at h
 | some a=>exact ⟨a,rfl,h⟩
section
variable {e e':Ev} (h:EvLe e e')
include h
theorem IE.mono:∀ (x:IE) (z:Int),x.ev e=some z→x.ev e'=some z
 | .lit _,_,hx=>hx
 | .var k,z,hx=>by
  simp only [IE.ev] at hx ⊢
  rw [h k _ (evN_some hx)];rfl
 | .len k j,z,hx=>by
  simp only [IE.ev] at hx ⊢
  obtain ⟨a,n,h1,h2,rfl⟩:=evLen_some hx
  rw [h k _ h1];simp [zcb,h2]
 | .add x y,z,hx=>zcO hx (IE.mono x) (IE.mono y)
 | .sub x y,z,hx=>zcO hx (IE.mono x) (IE.mono y)
 | .mul x y,z,hx=>zcO hx (IE.mono x) (IE.mono y)
 | .neg x,z,hx=>zd6 hx (IE.mono x)
theorem SE.mono:∀ (x:SE) (z:List UInt8),x.ev e=some z→x.ev e'=some z
 | .lit _,_,hx=>hx
 | .var k,z,hx=>by
  simp only [SE.ev] at hx ⊢
  rw [h k _ (evS_some hx)];rfl
theorem BE.mono:∀ (x:BE) (z:Bool),x.ev e=some z→x.ev e'=some z
 | .lit _,_,hx=>hx
 | .var k,z,hx=>by
  simp only [BE.ev] at hx ⊢
  rw [h k _ (evB_some hx)];rfl
 | .bit k,z,hx=>by
  simp only [BE.ev] at hx ⊢
  obtain ⟨a,h1,h2⟩:=evBit_some hx
  rw [h k _ h1];exact h2
 | .eq x y,z,hx=>zcO hx (IE.mono h x) (IE.mono h y)
 | .lt x y,z,hx=>zcO hx (IE.mono h x) (IE.mono h y)
 | .le x y,z,hx=>zcO hx (IE.mono h x) (IE.mono h y)
 | .not x,z,hx=>zd6 hx (BE.mono x)
 | .beq x y,z,hx=>zcO hx (BE.mono x) (BE.mono y)
 | .seq x y,z,hx=>zcO hx (SE.mono h x) (SE.mono h y)
theorem LE.mono:∀ (x:LE) (z:List Nat),x.ev e=some z→x.ev e'=some z
 | .nil,_,hx=>hx
 | .var k j,z,hx=>by
  simp only [LE.ev] at hx ⊢
  obtain ⟨a,h1,h2⟩:=evLst_some hx
  rw [h k _ h1];exact h2
end
section
variable {E E':En} (h:E.Le E')
include h
theorem denC_mono {c:SC} {v:Value} (hc:zcG E c=some v):zcG E' c=some v:=by
 cases c with
 | lit v=>exact hc
 | ob k j =>
  simp only [zcG] at hc ⊢
  cases hk:E.ob k with
  | none=>simp [hk,obC] at hc
  | some q=>rw [h.ob k q hk];rw [hk] at hc;exact hc
 | ix x=>exact zd6 hc (IE.mono h.env x)
 | bx x=>exact zd6 hc (BE.mono h.env x)
 | ptr b off=>exact zd6 hc (h.bl b)
 | sl b off n c=>exact zd6 hc (h.bl b)
 | sv b n =>
  simp only [zcG] at hc ⊢
  rw [h.cv]
  exact zd6 hc (h.bl b)
theorem zcP:∀ {l:List SC} {vs:List Value},zcC E l=some vs→zcC E' l=some vs
 | [],_,hl=>hl
 | c::r,_,hl=>zcO hl (fun _=>denC_mono h) (fun _=>zcP)
theorem den1_mono {x:S1} {v:Value} (hx:den1 E x=some v):den1 E' x=some v:=by
 cases x with
 | one c=>exact denC_mono h hx
 | agg l=>exact zd6 hx (fun _=>zcP h)
theorem denT_mono:∀ {l:List S1} {vs:List Value},denT E l=some vs→denT E' l=some vs
 | [],_,hl=>hl
 | c::r,_,hl=>zcO hl (fun _=>den1_mono h) (fun _=>denT_mono)
theorem denV_mono {x:SV} {v:Value} (hx:denV E x=some v):denV E' x=some v:=by
 cases x with
 | v x=>exact den1_mono h hx
 | t l=>exact zd6 hx (fun _=>denT_mono h)
end
theorem zdb {E:En} {c:SC} {r:List SC} {v:Value} {vs:List Value} (h1:zcG E c=some v) (h2:zcC E r=some vs):zcC E (c::r)=some (v::vs):=by simp [zcC,op2,h1,h2]
theorem zd7 {E:En}:∀ {l:List SC} {vs:List Value},zcC E l=some vs→vs.length=l.length
 | [],_,h=>by injection h with h;subst h;rfl
 | c::r,_,h=>by
  obtain ⟨a,b,_,h2,rfl⟩:=zau h
  simp [zd7 h2]
theorem denL_get {E:En}:∀ {l:List SC} {vs:List Value} {i:Nat} {c:SC},zcC E l=some vs→l[i]? = some c→∃ v,vs[i]? = some v∧zcG E c=some v
 | [],_,i,c,_,h=>by simp at h
 | d::r,_,i,c,h,hi=>by
  obtain ⟨a,b,h1,h2,rfl⟩:=zau h
  cases i with
  | zero=>simp at hi;subst hi;exact ⟨a,rfl,h1⟩
  | succ i=>simpa using denL_get h2 (by simpa using hi)
theorem denT_get {E:En}:∀ {l:List S1} {vs:List Value} {i:Nat} {c:S1},denT E l=some vs→l[i]? = some c→∃ v,vs[i]? = some v∧den1 E c=some v
 | [],_,i,c,_,h=>by simp at h
 | d::r,_,i,c,h,hi=>by
  obtain ⟨a,b,h1,h2,rfl⟩:=zau h
  cases i with
  | zero=>simp at hi;subst hi;exact ⟨a,rfl,h1⟩
  | succ i=>simpa using denT_get h2 (by simpa using hi)
theorem denL_drop {E:En}:∀ {l:List SC} {vs:List Value} (n:Nat),zcC E l=some vs→zcC E (l.drop n)=some (vs.drop n)
 | _,_,0,h=>by simpa using h
 | [],_,n+1,h=>by injection h with h;subst h;rfl
 | c::r,_,n+1,h=>by
  obtain ⟨a,b,h1,h2,rfl⟩:=zau h
  simpa using denL_drop n h2
theorem denL_take {E:En}:∀ {l:List SC} {vs:List Value} (n:Nat),zcC E l=some vs→zcC E (l.take n)=some (vs.take n)
 | _,_,0,h=>rfl
 | [],_,n+1,h=>by injection h with h;subst h;rfl
 | c::r,_,n+1,h=>by
  obtain ⟨a,b,h1,h2,rfl⟩:=zau h
  simpa using zdb h1 (denL_take n h2)
theorem denL_app {E:En}:∀ {l m:List SC} {vs us:List Value},zcC E l=some vs→zcC E m=some us→zcC E (l++m)=some (vs++us)
 | [],_,_,_,h,h'=>by injection h with h;subst h;simpa using h'
 | c::r,_,_,_,h,h'=>by
  obtain ⟨a,b,h1,h2,rfl⟩:=zau h
  exact zdb h1 (denL_app h2 h')
theorem denL_set {E:En}:∀ {l:List SC} {vs:List Value} (i:Nat) {c:SC} {v:Value},zcC E l=some vs→zcG E c=some v→zcC E (l.set i c)=some (vs.set i v)
 | [],_,i,_,_,h,_=>by injection h with h;subst h;rfl
 | d::r,_,0,_,_,h,hc=>by
  obtain ⟨a,b,h1,h2,rfl⟩:=zau h
  exact zdb hc h2
 | d::r,_,i+1,_,_,h,hc=>by
  obtain ⟨a,b,h1,h2,rfl⟩:=zau h
  exact zdb h1 (denL_set i h2 hc)
theorem denL_lit {E:En}:∀ (vs:List Value),zcC E (vs.map .lit)=some vs
 | []=>rfl
 | v::r=>zdb rfl (denL_lit r)
theorem denL_row {E:En} {l:List SC} {vs:List Value} {off n:Nat} {m:List SC} (h:zcC E l=some vs) (hr:rowS l off n=some m):zcC E m=some ((vs.drop off).take n)∧off+n≤vs.length:=by
 unfold rowS at hr
 split at hr
 ·rename_i hle
  injection hr with hr;subst hr
  rw [zd7 h]
  exact ⟨denL_take n (denL_drop off h),Nat.le_of_ble_eq_true hle⟩
 ·cases hr
def SatG (E:En) (l:List SV) (g:G):Prop:=∀ t v,l[t]? = some v→denV E v=some (g t)
def BV (w:World) (β:Nat) (cs:List SC) (vs:List Value) (t:TypeId):Prop:=Bx w β vs.toArray t∨∃ cs0 vs0,cs=cs0++[mkU]∧vs=vs0++[.int .u16 0]∧cs0.length=vs0.length∧β<w.heap.size∧∀ (j:Nat) (v:Value),vs0[j]? = some v→w.cell? ⟨β,j,none⟩=some v
theorem BV.lt {w:World} {β:Nat} {cs:List SC} {vs:List Value} {t:TypeId} (h:BV w β cs vs t):β<w.heap.size:=h.elim (·.lt) fun ⟨_,_,_,_,_,h,_⟩=>h
theorem BV.same {w w':World} {β:Nat} {cs:List SC} {vs:List Value} {t:TypeId} (h:BV w β cs vs t) (he:w'.heap[β]? = w.heap[β]?) (hs:w.heap.size≤w'.heap.size):BV w' β cs vs t:=by
 rcases h with h|⟨cs0,vs0,h1,h2,h3,h4,h5⟩
 ·exact .inl ⟨by rw [he];exact h.heap⟩
 ·exact .inr ⟨cs0,vs0,h1,h2,h3,by omega,fun j v hv=>(World.cell?_of_block (w:=w) (a:=⟨β,j,none⟩) he).trans (h5 j v hv)⟩
theorem BV.keep {w w':World} {β:Nat} {cs:List SC} {vs:List Value} {t:TypeId} (h:BV w β cs vs t) (hb:Below w.heap.size w w'):BV w' β cs vs t:=h.same (hb.block β h.lt) hb.size
theorem BV.sto {w w':World} {β b:Nat} {cs:List SC} {vs:List Value} {t:TypeId} (h:BV w β cs vs t) (hs:Sto w w' b) (hne:β≠b):BV w' β cs vs t:=h.same (hs.block β hne) (by rw [hs.size];exact Nat.le_refl _)
theorem BV.cell {w:World} {β:Nat} {cs:List SC} {vs:List Value} {t:TypeId} (h:BV w β cs vs t) {j:Nat} {c:SC} {v:Value} (hc:cs[j]? = some c) (hn:c.no16=true) (hv:vs[j]? = some v):w.cell? ⟨β,j,none⟩=some v:=by
 rcases h with h|⟨cs0,vs0,rfl,rfl,h3,h4,h5⟩
 ·rw [h.cell];simpa using hv
 ·have hlt:j<cs0.length:=by
   rcases Nat.lt_or_ge j cs0.length with h|h
   ·exact h
   ·rw [List.getElem?_append_right h] at hc
    have hj:j-cs0.length=0:=by
     have:=(List.getElem?_eq_some_iff.1 hc).1
     simp at this;omega
    rw [hj] at hc
    simp at hc
    subst hc
    cases hn
  rw [List.getElem?_append_left (by omega)] at hv
  exact h5 j v hv
structure SatM (s:Nat) (E:En) (h:List (Option (List SC))) (sz:Szs) (w:World):Prop where
 blocks:∀ b cs,h[b]? = some (some cs)→∃ β t vs,E.bl b=some β∧zcC E cs=some vs∧BV w β cs vs t
 inj:∀ b b' β,E.bl b=some β→E.bl b'=some β→b=b'
 dom:∀ b β,E.bl b=some β→β<w.heap.size
 hdom:∀ b β,E.bl b=some β→∃ cs,h[b]? = some (some cs)
 objs:∀ k p,sz[k]? = some (some p)→∃ a cs,E.ob k=some (a,cs)∧a.sh=p.1∧a.Rep w cs∧a.sz≤p.2.1*s+p.2.2
 odom:∀ k q,E.ob k=some q→∃ p,sz[k]? = some (some p)
def SatB (E:En) (h:List (Option (List SC))) (w:World):Prop:=∀ b cs,h[b]? = some (some cs)→∃ β t vs,E.bl b=some β∧zcC E cs=some vs∧BV w β cs vs t
def SatO (E:En) (sz:Szs):Prop:=∀ k sh,shOf sz k=some sh→∃ a cs,E.ob k=some (a,cs)∧a.sh=sh∧∃ w,a.Rep w cs
theorem SatM.o {s:Nat} {E:En} {h:List (Option (List SC))} {sz:Szs} {w:World} (H:SatM s E h sz w):SatO E sz:=by
 intro k sh hk
 unfold shOf at hk
 split at hk
 ·rename_i p hp
  injection hk with hk;subst hk
  obtain ⟨a,cs,h1,h2,h3,_⟩:=H.objs k p hp
  exact ⟨a,cs,h1,h2,w,h3⟩
 ·cases hk
theorem litV_den {E:En} (v:Value):den1 E (litV v)=some v:=by
 unfold litV
 split
 ·simp only [den1,denL_lit,op1]
 ·rfl
theorem zds {E:En} {l:List SV} {g:G} (H:SatG E l g) {x:Operand} {v:SV} (h:opnd l x=some v):denV E v=some (evG g x):=by
 cases x with
 | tmp t=>exact H t v h
 | const c=>injection h with h;subst h;exact litV_den c
 | func f=>injection h with h;subst h;rfl
 | global i=>cases h
theorem one_some {o:Option SV} {c:SC} (h:one? o=some c):o=some (.v (.one c)):=by
 unfold one? at h;split at h<;>simp at h;subst h;rfl
theorem zbh {E:En} {l:List SV} {g:G} (H:SatG E l g) {x:Operand} {c:SC} (h:one? (opnd l x)=some c):zcG E c=some (evG g x):=zds H (one_some h)
theorem Rep_bit {w:World} {a:At} {cs:List Value} {z:Bool} (h:a.Rep w cs) (hb:a.bit=some z):cs[0]? = some (.bool z):=by
 cases a<;>simp [At.bit] at hb
 ·obtain ⟨a,c,a',c',rfl,_⟩:=h;subst hb;rfl
 ·obtain ⟨a,c,rfl,_⟩:=h;subst hb;rfl
theorem lst_some {a:At} {j:Nat} {l:List Nat} (h:a.lst j=some l):(∃ x m,a = .r x l m∧j=1)∨(∃ x m,a = .r x m l∧j=2)∨(∃ x,a = .y x l∧j=1)∨(a = .u l∧j=0):=by
 unfold At.lst at h
 split at h<;>first|(injection h with h;subst h;simp;done)|cases h
theorem Rep_lst {w:World} {a:At} {cs:List Value} {j:Nat} {l:List Nat} (h:a.Rep w cs) (hl:a.lst j=some l):∃ ad c,cs[j]? = some (.slice ad l.length c)∧RD w ad c l:=by
 rcases lst_some hl with ⟨x,m,rfl,rfl⟩|⟨x,m,rfl,rfl⟩|⟨x,rfl,rfl⟩|⟨rfl,rfl⟩
 ·obtain ⟨a,c,a',c',rfl,h1,h2⟩:=h;exact ⟨_,_,rfl,h1⟩
 ·obtain ⟨a,c,a',c',rfl,h1,h2⟩:=h;exact ⟨_,_,rfl,h2⟩
 ·obtain ⟨a,c,rfl,h1⟩:=h;exact ⟨_,_,rfl,h1⟩
 ·obtain ⟨a,c,rfl,h1⟩:=h;exact ⟨_,_,rfl,h1⟩
section
variable {E:En} {sz:Szs}
theorem iOf_den {c:SC} {e:IE} {v:Value} (h:iOf c=some e) (hc:zcG E c=some v):∃ z,e.ev E.env=some z∧v = .int .i64 z:=by
 unfold iOf at h
 split at h
 ·injection h with h;subst h;injection hc with hc;subst hc;exact ⟨_,rfl,rfl⟩
 ·injection h with h;subst h;obtain ⟨z,h1,h2⟩:=zaG hc;exact ⟨z,h1,h2.symm⟩
 ·cases h
theorem env_of {k:Nat} {a:At} {cs:List Value} (h:E.ob k=some (a,cs)):E.env k=some a:=by simp [En.env,h]
theorem zdj (H:SatO E sz) {c:SC} {e:BE} {v:Value} (h:bOf sz c=some e) (hc:zcG E c=some v):∃ z,e.ev E.env=some z∧v = .bool z:=by
 unfold bOf at h
 split at h
 ·injection h with h;subst h;injection hc with hc;subst hc;exact ⟨_,rfl,rfl⟩
 ·injection h with h;subst h;obtain ⟨z,h1,h2⟩:=zaG hc;exact ⟨z,h1,h2.symm⟩
 ·rename_i k
  have key:∀ sh,shOf sz k=some sh→(sh = .r∨sh = .y)→∃ z,(BE.bit k).ev E.env=some z∧v = .bool z:=by
   intro sh hs hsh
   obtain ⟨a,cs,h1,h2,w,h3⟩:=H k sh hs
   simp only [zcG,h1,obC] at hc
   obtain ⟨z,hz⟩:∃ z,a.bit=some z:=by
    cases a<;>rcases hsh with rfl|rfl<;>simp [At.sh] at h2<;>exact ⟨_,rfl⟩
   rw [Rep_bit h3 hz] at hc
   injection hc with hc
   exact ⟨z,by simp [BE.ev,env_of h1,zcr,hz],hc.symm⟩
  split at h
  ·rename_i hs;injection h with h;subst h;exact key _ hs (.inl rfl)
  ·rename_i hs;injection h with h;subst h;exact key _ hs (.inr rfl)
  ·cases h
 ·cases h
theorem sOf_den (H:SatO E sz) {c:SC} {e:SE} {v:Value} (h:sOf sz c=some e) (hc:zcG E c=some v):∃ s:ByteArray,e.ev E.env=some (bs s)∧v = .string s:=by
 unfold sOf at h
 split at h
 ·injection h with h;subst h;injection hc with hc;subst hc;exact ⟨_,rfl,rfl⟩
 ·rename_i k
  split at h
  ·rename_i hs
   injection h with h;subst h
   obtain ⟨a,cs,h1,h2,w,h3⟩:=H k _ hs
   cases a<;>simp [At.sh] at h2
   rename_i l
   simp only [At.Rep] at h3
   subst h3
   simp only [zcG,h1,obC] at hc
   injection hc with hc
   exact ⟨⟨l.toArray⟩,by simp [SE.ev,env_of h1,evS,bs],hc.symm⟩
  ·cases h
 ·cases h
theorem lOf_den (H:SatO E sz) {c:SC} {e:LE} {v:Value} (h:lOf sz c=some e) (hc:zcG E c=some v):∃ l a cap,e.ev E.env=some l∧v = .slice a l.length cap:=by
 unfold lOf at h
 split at h
 ·injection h with h;subst h;injection hc with hc;subst hc;exact ⟨[],_,_,rfl,rfl⟩
 ·rename_i k j
  have key:∀ sh,shOf sz k=some sh→(∀ a:At,a.sh=sh→∃ l,a.lst j=some l)→∃ l a cap,(LE.var k j).ev E.env=some l∧v = .slice a l.length cap:=by
   intro sh hs hsh
   obtain ⟨a,cs,h1,h2,w,h3⟩:=H k sh hs
   obtain ⟨l,hl⟩:=hsh a h2
   obtain ⟨ad,c,h4,_⟩:=Rep_lst h3 hl
   simp only [zcG,h1,obC,h4] at hc
   injection hc with hc
   exact ⟨l,ad,c,by simp [LE.ev,env_of h1,zcn,hl],hc.symm⟩
  split at h
  all_goals first
   | (rename_i hs;injection h with h;subst h;refine key _ hs ?_;intro a ha;cases a<;>simp [At.sh] at ha;exact ⟨_,rfl⟩)
   | (cases h;done)
 ·cases h
theorem lOf_len (H:SatO E sz) {c:SC} {k j:Nat} (h:lOf sz c=some (.var k j)) {l:List Nat} (he:(LE.var k j).ev E.env=some l):(IE.len k j).ev E.env=some (l.length:Int):=by
 obtain ⟨a,h1,h2⟩:=evLst_some he
 simp only [IE.ev,h1,zcb]
 have:a.len j=some l.length:=by
  rcases lst_some h2 with ⟨x,m,rfl,rfl⟩|⟨x,m,rfl,rfl⟩|⟨x,rfl,rfl⟩|⟨rfl,rfl⟩<;>rfl
 simp [this]
theorem mkI_den (e:IE):zcG E (mkI e)=op1 (Value.int .i64) (e.ev E.env):=by cases e<;>rfl
theorem zd1 (e:BE):zcG E (mkB e)=op1 Value.bool (e.ev E.env):=by cases e<;>rfl
theorem addI_ev {e:Ev} {x y:IE} {a b:Int} (hx:x.ev e=some a) (hy:y.ev e=some b):(addI x y).ev e=some (IntKind.i64.wrap (a+b)):=by
 unfold addI;split
 ·simp only [IE.ev,Option.some.injEq] at hx hy ⊢;subst hx hy;rfl
 ·simp [IE.ev,hx,hy,op2]
theorem subI_ev {e:Ev} {x y:IE} {a b:Int} (hx:x.ev e=some a) (hy:y.ev e=some b):(subI x y).ev e=some (IntKind.i64.wrap (a-b)):=by
 unfold subI;split
 ·simp only [IE.ev,Option.some.injEq] at hx hy ⊢;subst hx hy;rfl
 ·simp [IE.ev,hx,hy,op2]
theorem mulI_ev {e:Ev} {x y:IE} {a b:Int} (hx:x.ev e=some a) (hy:y.ev e=some b):(mulI x y).ev e=some (IntKind.i64.wrap (a*b)):=by
 unfold mulI;split
 ·simp only [IE.ev,Option.some.injEq] at hx hy ⊢;subst hx hy;rfl
 ·simp [IE.ev,hx,hy,op2]
theorem eqI_ev {e:Ev} {x y:IE} {a b:Int} (hx:x.ev e=some a) (hy:y.ev e=some b):(eqI x y).ev e=some (decide (a=b)):=by
 unfold eqI;split
 ·simp only [IE.ev,BE.ev,Option.some.injEq] at hx hy ⊢;subst hx hy;rfl
 ·simp [BE.ev,hx,hy,op2]
theorem ltI_ev {e:Ev} {x y:IE} {a b:Int} (hx:x.ev e=some a) (hy:y.ev e=some b):(ltI x y).ev e=some (decide (a<b)):=by
 unfold ltI;split
 ·simp only [IE.ev,BE.ev,Option.some.injEq] at hx hy ⊢;subst hx hy;rfl
 ·simp [BE.ev,hx,hy,op2]
theorem leI_ev {e:Ev} {x y:IE} {a b:Int} (hx:x.ev e=some a) (hy:y.ev e=some b):(leI x y).ev e=some (decide (a≤b)):=by
 unfold leI;split
 ·simp only [IE.ev,BE.ev,Option.some.injEq] at hx hy ⊢;subst hx hy;rfl
 ·simp [BE.ev,hx,hy,op2]
theorem notB_ev {e:Ev} {x:BE} {a:Bool} (hx:x.ev e=some a):(notB x).ev e=some (!a):=by
 unfold notB;split
 ·simp only [BE.ev,Option.some.injEq] at hx ⊢;subst hx;rfl
 ·simp [BE.ev,hx,op1]
theorem beqB_ev {e:Ev} {x y:BE} {a b:Bool} (hx:x.ev e=some a) (hy:y.ev e=some b):(beqB x y).ev e=some (a == b):=by
 unfold beqB;split
 ·simp only [BE.ev,Option.some.injEq] at hx hy ⊢;subst hx hy;rfl
 ·simp [BE.ev,hx,hy,op2]
theorem arI_den {P:Program} {o:BinOp} {t:TypeId} {x y:IE} {a b:Int} {c:SC} (hx:x.ev E.env=some a) (hy:y.ev E.env=some b) (h:arI o x y=some c) :
  ∃ v p,binC P o t (.int .i64 a) (.int .i64 b)=some (v,p)∧p∧zcG E c=some v:=by
 cases o<;>simp only [arI,Option.some.injEq,reduceCtorEq] at h
 all_goals (subst h;refine ⟨_,_,rfl,?_,?_⟩)
 all_goals first
  | trivial
  | rfl
  | (rw [mkI_den,addI_ev hx hy];rfl)
  | (rw [mkI_den,subI_ev hx hy];rfl)
  | (rw [mkI_den,mulI_ev hx hy];rfl)
  | (rw [zd1,eqI_ev hx hy];rfl)
  | (rw [zd1,notB_ev (eqI_ev hx hy)];rfl)
  | (rw [zd1,ltI_ev hx hy];rfl)
  | (rw [zd1,leI_ev hx hy];rfl)
  | (rw [zd1,ltI_ev hy hx];rfl)
  | (rw [zd1,leI_ev hy hx];rfl)
theorem arB_den {P:Program} {o:BinOp} {t:TypeId} {x y:BE} {a b:Bool} {c:SC} (ht:zcY P t=true) (hx:x.ev E.env=some a) (hy:y.ev E.env=some b) (h:arB o x y=some c) :
  ∃ v p,binC P o t (.bool a) (.bool b)=some (v,p)∧p∧zcG E c=some v:=by
 cases o<;>simp only [arB,Option.some.injEq,reduceCtorEq] at h
 all_goals (subst h;refine ⟨_,_,rfl,ht,?_⟩)
 ·rw [zd1,beqB_ev hx hy];rfl
 ·rw [zd1,notB_ev (beqB_ev hx hy)];rfl
theorem arS_den {P:Program} {o:BinOp} {t:TypeId} {x y:SE} {a b:ByteArray} {c:SC} (hx:x.ev E.env=some (bs a)) (hy:y.ev E.env=some (bs b)) (h:arS o x y=some c) :
  ∃ v p,binC P o t (.string a) (.string b)=some (v,p)∧p∧zcG E c=some v:=by
 have h1:(BE.seq x y).ev E.env=some (decide (bs a=bs b)):=by simp [BE.ev,hx,hy,op2]
 cases o<;>simp only [arS,Option.some.injEq,reduceCtorEq] at h
 all_goals (subst h;refine ⟨_,_,rfl,trivial,?_⟩)
 ·rw [zd1,h1];rfl
 ·rw [zd1,notB_ev h1];rfl
theorem binS_den {P:Program} (H:SatO E sz) {o:BinOp} {t:TypeId} {x y c:SC} {vx vy:Value} (hx:zcG E x=some vx) (hy:zcG E y=some vy) (h:binS P sz o t x y=some c) :
  ∃ v p,binC P o t vx vy=some (v,p)∧p∧zcG E c=some v:=by
 unfold binS at h
 split at h
 ·rename_i a b ha hb
  obtain ⟨z,h1,rfl⟩:=iOf_den ha hx
  obtain ⟨u,h2,rfl⟩:=iOf_den hb hy
  exact arI_den h1 h2 h
 ·split at h
  ·rename_i a b ha hb
   split at h
   ·rename_i ht
    obtain ⟨z,h1,rfl⟩:=zdj H ha hx
    obtain ⟨u,h2,rfl⟩:=zdj H hb hy
    exact arB_den ht h1 h2 h
   ·cases h
  ·split at h
   ·rename_i a b ha hb
    obtain ⟨z,h1,rfl⟩:=sOf_den H ha hx
    obtain ⟨u,h2,rfl⟩:=sOf_den H hb hy
    exact arS_den h1 h2 h
   ·cases h
theorem lenQ_den {P:Program} (H:SatO E sz) {t:TypeId} {x c:SC} {vx:Value} (hx:zcG E x=some vx) (h:lenQ P sz t x=some c) :
  ∃ v p,lenC P t vx=some (v,p)∧p∧zcG E c=some v:=by
 unfold lenQ at h
 split at h
 ·rename_i b off n cp
  obtain ⟨β,_,rfl⟩:=zaG hx
  split at h
  ·rename_i ht;injection h with h;subst h
   exact ⟨_,_,rfl,ht,rfl⟩
  ·cases h
 ·rename_i b n
  obtain ⟨β,_,rfl⟩:=zaG hx
  split at h
  ·rename_i ht;injection h with h;subst h
   exact ⟨_,_,rfl,ht,rfl⟩
  ·cases h
 ·split at h
  ·rename_i hl
   obtain ⟨l,a,cap,h1,rfl⟩:=lOf_den H hl hx
   injection h1 with h1;subst h1
   split at h
   ·rename_i ht;injection h with h;subst h
    exact ⟨_,_,rfl,ht,rfl⟩
   ·cases h
  ·rename_i k j hl
   obtain ⟨l,a,cap,h1,rfl⟩:=lOf_den H hl hx
   split at h
   ·rename_i ht;injection h with h;subst h
    exact ⟨_,_,rfl,ht,by simp only [zcG,lOf_len H hl h1];rfl⟩
   ·cases h
  ·split at h
   ·rename_i l hl
    obtain ⟨s,h1,rfl⟩:=sOf_den H hl hx
    injection h1 with h1;subst h1
    split at h
    ·rename_i ht;injection h with h;subst h
     exact ⟨_,_,rfl,ht,by rw [zb9];rfl⟩
    ·cases h
   ·rename_i k hl
    obtain ⟨s,h1,rfl⟩:=sOf_den H hl hx
    split at h
    ·rename_i ht;injection h with h;subst h
     refine ⟨_,_,rfl,ht,?_⟩
     have h2:=evS_some h1
     simp only [zcG,IE.ev,h2,zcb,At.len,zb9];rfl
    ·cases h
   ·cases h
theorem lok_lc {P:Program} {w:World} {ev:Operand→Value} {ty:TypeId} {op:Op} {v:Value} {p:Prop} (h:lc P w ev op=some (v,p)) (hp:p):lokO P w ev ty op∧lvO P w ev ty op=v:=by
 rw [lokO_eq,lvO_eq,h];exact ⟨hp,rfl⟩
theorem lok_run {P:Program} {w:World} {ev:Operand→Value} {ty:TypeId} {op:Op} {v:Value} (h:lc P w ev op=none) (hr:zcx P w ev ty op=some (.value v)):lokO P w ev ty op∧lvO P w ev ty op=v:=by
 rw [lokO_eq,lvO_eq,h];exact ⟨⟨v,hr⟩,by simp [outV,anyV,hr]⟩
theorem fldS_den {P:Program} {o:TypeId × Nat} {cs:List SC} {vs:List Value} {x:S1} (hcs:zcC E cs=some vs) (h:fldS P (some o) cs=some x):∃ v,den1 E x=some v∧fldV P (some o) (.agg vs.toArray)=some v:=by
 simp only [fldS] at h
 split at h
 ·rename_i hu
  split at h
  ·rename_i ha
   split at h
   ·rename_i c hc
    injection h with h;subst h
    obtain ⟨v,h1,h2⟩:=denL_get hcs hc
    refine ⟨v,h2,?_⟩
    rw [show o=(o.1,o.2) from rfl,fldV_some,if_pos hu,ha,fldW_none]
    simpa using h1
   ·cases h
  ·rename_i n ha
   split at h
   ·rename_i l hl
    injection h with h;subst h
    obtain ⟨h1,h2⟩:=denL_row hcs hl
    refine ⟨.agg ((vs.drop o.2).take n).toArray,by simp only [den1,h1,op1],?_⟩
    rw [show o=(o.1,o.2) from rfl,fldV_some,if_pos hu,ha,fldW_some]
   ·cases h
 ·cases h
theorem rowV_of {w:World} {β:Nat} {vs:List Value} {off n:Nat} (hB:∀ (j:Nat) (v:Value),off≤j→j<off+n→vs[j]? = some v→w.cell? ⟨β,j,none⟩=some v) (hl:off+n≤vs.length):∀ (m i:Nat),i+m≤n→za1 w ⟨β,off,none⟩ i m∧za4 w ⟨β,off,none⟩ i m=(vs.drop (off+i)).take m
 | 0,i,_=>⟨trivial,by simp [za4]⟩
 | m+1,i,h=>by
  obtain ⟨h1,h2⟩:=rowV_of hB hl m (i+1) (by omega)
  have hlt:off+i<vs.length:=by omega
  have hc:w.cell? ((⟨β,off,none⟩:Addr).add i)=some vs[off+i]:=by
   rw [za0];exact hB _ _ (by omega) (by omega) (List.getElem?_eq_getElem hlt)
  refine ⟨⟨by rw [hc];rfl,h1⟩,?_⟩
  simp only [za4,cellV,hc,h2,Option.getD_some]
  rw [List.drop_eq_getElem_cons hlt,List.take_succ_cons]
  rfl
theorem all_no16 {cs:List SC} {off n:Nat} (h:((cs.drop off).take n).all SC.no16=true) {j:Nat} (h1:off≤j) (h2:j<off+n) {c:SC} (hc:cs[j]? = some c):c.no16=true:=by
 refine (List.all_eq_true.1 h) c (List.mem_of_getElem? (i:=j-off) ?_)
 rw [List.getElem?_take,if_pos (by omega),List.getElem?_drop,show off+(j-off)=j by omega]
 exact hc
theorem loadS_den {P:Program} {h:List (Option (List SC))} {w:World} (H:SatB E h w) {t:TypeId} {b off β:Nat} {x:S1} (hb:E.bl b=some β) (hl:loadS P h t b off=some x) :
  ∃ v p,ldC P w t (aggT P t) (.pointer (some ⟨β,off,none⟩))=some (v,p)∧p∧den1 E x=some v:=by
 unfold loadS at hl
 split at hl
 ·rename_i cs hcs
  obtain ⟨β',tc,vs,h1,h2,h3⟩:=H b cs hcs
  rw [hb] at h1;injection h1 with h1;subst h1
  split at hl
  ·rename_i ha
   split at hl
   ·rename_i c hc
    split at hl
    ·rename_i hn
     injection hl with hl;subst hl
     obtain ⟨v,h4,h5⟩:=denL_get h2 hc
     have hcell:w.cell? ⟨β,off,none⟩=some v:=h3.cell hc hn h4
     rw [ha]
     exact ⟨_,_,ldC_one t _,by rw [hcell];rfl,by rw [cellV,hcell];exact h5⟩
    ·cases hl
   ·cases hl
  ·rename_i n ha
   split at hl
   ·rename_i hu
    split at hl
    ·rename_i l hr
     split at hl
     ·rename_i hn
      injection hl with hl;subst hl
      obtain ⟨h4,h5⟩:=denL_row h2 hr
      have hr':l=(cs.drop off).take n:=by
       unfold rowS at hr
       split at hr
       ·injection hr with hr;exact hr.symm
       ·cases hr
      rw [hr'] at hn
      obtain ⟨h6,h7⟩:=rowV_of (w:=w) (β:=β) (vs:=vs) (off:=off) (n:=n) (fun j v j1 j2 hv=>by
       have hj:j<cs.length:=by rw [←zd7 h2];exact (List.getElem?_eq_some_iff.1 hv).1
       have hc:=List.getElem?_eq_getElem hj
       exact h3.cell hc (all_no16 hn j1 j2 hc) hv) h5 n 0 (by omega)
      rw [ha]
      refine ⟨_,_,ldC_row t n _,⟨hu,h6⟩,?_⟩
      rw [h7,Nat.add_zero]
      simp only [den1,h4,op1]
     ·cases hl
    ·cases hl
   ·cases hl
 ·cases hl
theorem arE_some {P:Program} {t:TypeId} {a:Nat × TypeId × Nat} (h:arE P t=some a):∃ i,P.underlying t=some (.array a.1 a.2.1)∧P.info? a.2.1=some i∧i.size=a.2.2:=by
 unfold arE at h
 split at h
 ·rename_i n e he
  cases hi:P.info? e with
  | none=>simp [hi] at h
  | some i=>simp [hi] at h;subst h;exact ⟨i,he,hi,rfl⟩
 ·cases h
theorem slE_ar {P:Program} {t:TypeId} {n:Nat} {e:TypeId} (h:P.underlying t=some (.array n e)):slE P t=none:=by
 unfold slE;rw [h]
theorem run_ia {P:Program} {w:World} {ev:Operand→Value} {ty t:TypeId} {x i:Operand} {a:Nat × TypeId × Nat} {ad:Addr} {k:IntKind} {z:Int} (ha:arE P t=some a) (hx:ev x = .pointer (some ad)) (hi:ev i = .int k z) (h0:0≤z) (h1:z<a.1) :
  zcx P w ev ty (.indexAddr t x i)=some (.value (.pointer (some (ad.add (z.toNat*a.2.2))))):=by
 obtain ⟨inf,hu,hinf,hs⟩:=arE_some ha
 simp only [zcx,execOp,Instr.indexAt,hx,hi]
 simp [zah,zav,zaj,asIntOf,zar hu,Instr.sureAddr,h0,h1,zbT hinf,hs]
theorem run_sa {P:Program} {w:World} {ev:Operand→Value} {ty t:TypeId} {x:Operand} {a:Nat × TypeId × Nat} {ad:Addr} (ha:arE P t=some a) (hx:ev x = .pointer (some ad)) :
  zcx P w ev ty (.slice t x none none none)=some (.value (.slice (some ad) a.1 a.1)):=by
 obtain ⟨inf,hu,hinf,hs⟩:=arE_some ha
 have hb:zb4 P (Instr.sliceBounds false a.1 a.1 none none none) w=some (0,a.1,a.1):=by
  have:=tame_bounds (P:=P) (w:=w) (ev:=ev) (isSlice:=false) (len:=a.1) (cap:=a.1) (lo:=none) (hi:=none) trivial trivial
  simpa [bnd] using this
 simp only [zcx,execOp,Instr.sliceAt,hx]
 simp [zah,zav,zaj,zar hu,Instr.sureAddr,hb,zbT hinf]
 intro _;unfold Addr.add;split<;>simp_all
theorem run_ix {P:Program} {w:World} {ev:Operand→Value} {ty t:TypeId} {x i:Operand} {a:Nat × TypeId × Nat} {cs:Array Value} {k:IntKind} {z:Int} {v:Value} (ha:arE P t=some a) (hx:ev x = .agg cs) (hi:ev i = .int k z) (h0:0≤z) (h1:z<a.1)
  (hv:fldV P (some (a.2.1,z.toNat*a.2.2)) (.agg cs)=some v):zcx P w ev ty (.index t x i)=some (.value v):=by
 obtain ⟨inf,hu,hinf,hs⟩:=arE_some ha
 simp only [fldV] at hv
 split at hv
 ·rename_i hu2
  obtain ⟨d2,hd2⟩:=Option.isSome_iff_exists.1 hu2
  simp only [zcx,execOp,Instr.index,hx,hi]
  simp only [zah,zav,zaj,asIntOf,zar hu,Option.bind_some,h0,h1,and_self,if_true,zbT hinf,part,zcg hd2,hs]
  unfold aggT at hv
  simp only [hd2,hinf] at hv
  cases d2<;>simp_all [fldW,zaj,zah,zdD hinf,zav,ext_list]
 ·cases hv
theorem light_den {P:Program} {S:SS} {g:G} {w:World} {ty:TypeId} {op:Op} {x:SV} (HG:SatG E S.g g) (HO:SatO E S.sz) (HM:SatB E S.h w) (h:lightS P S op=some x) :
  lokO P w (evG g) ty op∧denV E x=some (lvO P w (evG g) ty op):=by
 have fin:∀ {v:Value} {p:Prop},lc P w (evG g) op=some (v,p)→p→denV E x=some v→lokO P w (evG g) ty op∧denV E x=some (lvO P w (evG g) ty op):=by
  intro v p h1 h2 h3
  obtain ⟨h4,h5⟩:=lok_lc (ty:=ty) h1 h2
  exact ⟨h4,by rw [h5];exact h3⟩
 have finR:∀ {v:Value},lc P w (evG g) op=none→zcx P w (evG g) ty op=some (.value v)→denV E x=some v→lokO P w (evG g) ty op∧denV E x=some (lvO P w (evG g) ty op):=by
  intro v h1 h2 h3
  obtain ⟨h4,h5⟩:=lok_run (ty:=ty) h1 h2
  exact ⟨h4,by rw [h5];exact h3⟩
 have v1s:∀ {c:Option SC},v1 c=some x→∃ c',c=some c'∧x = .v (.one c'):=by
  intro c hc;cases c<;>simp [v1] at hc;exact ⟨_,rfl,hc.symm⟩
 have vvs:∀ {c:Option S1},vv c=some x→∃ c',c=some c'∧x = .v c':=by
  intro c hc;cases c<;>simp [vv] at hc;exact ⟨_,rfl,hc.symm⟩
 unfold lightS at h
 split at h
 ·rename_i a;exact fin (lc_move a) trivial (zds HG h)
 ·rename_i a;exact fin (lc_assign a) trivial (zds HG h)
 ·rename_i c a b
  obtain ⟨c',hc',rfl⟩:=v1s h
  have key:∀ {o:Operand} {d:SC},one? (opnd S.g o)=some d→isBS S.sz d=some c'→∃ z,evG g o = .bool z∧zcG E c'=some (.bool z):=by
   intro o d hd hb
   unfold isBS at hb
   split at hb
   ·rename_i e he
    injection hb with hb;subst hb
    obtain ⟨z,h1,h2⟩:=zdj HO he (zbh HG hd)
    exact ⟨z,h2,by rw [zd1,h1];rfl⟩
   ·cases hb
  unfold pickS at hc'
  split at hc'
  ·rename_i hc
   have e1:=zbh HG hc
   injection e1 with e1
   split at hc'
   ·rename_i d hd
    obtain ⟨z,h1,h2⟩:=key hd hc'
    refine fin (lc_pick c a b) ?_ ?_
    ·rw [←e1,h1];exact ⟨rfl,fun _=>rfl,fun h=>by cases h⟩
    ·rw [←e1,h1];exact h2
   ·cases hc'
  ·rename_i hc
   have e1:=zbh HG hc
   injection e1 with e1
   split at hc'
   ·rename_i d hd
    obtain ⟨z,h1,h2⟩:=key hd hc'
    refine fin (lc_pick c a b) ?_ ?_
    ·rw [←e1,h1];exact ⟨rfl,(fun h=>by cases h),fun _=>rfl⟩
    ·rw [←e1,h1];exact h2
   ·cases hc'
  ·cases hc'
 ·rename_i o t a b u
  split at h
  ·rename_i ca cb ha hb
   obtain ⟨c',hc',rfl⟩:=v1s h
   obtain ⟨v,p,h1,h2,h3⟩:=binS_den HO (zbh HG ha) (zbh HG hb) hc'
   exact fin (by rw [lc_bin];exact h1) h2 h3
  ·cases h
 ·rename_i o t a
  split at h
  ·rename_i c hc
   split at h
   ·rename_i e he
    injection h with h;subst h
    obtain ⟨z,h1,h2⟩:=zdj HO he (zbh HG hc)
    refine fin (v:=.bool !z) (p:=True) (by rw [lc_un,h2];rfl) trivial ?_
    show zcG E (mkB (notB e))=_
    rw [zd1,notB_ev h1];rfl
   ·cases h
  ·rename_i c hc
   split at h
   ·rename_i z hz
    injection h with h;subst h
    obtain ⟨u,h1,h2⟩:=iOf_den hz (zbh HG hc)
    injection h1 with h1;subst h1
    exact fin (v:=.int .i64 (IntKind.i64.wrap (0-z))) (p:=True) (by rw [lc_un,h2];rfl) trivial rfl
   ·rename_i e _ he
    injection h with h;subst h
    obtain ⟨z,h1,h2⟩:=iOf_den he (zbh HG hc)
    refine fin (v:=.int .i64 (IntKind.i64.wrap (0-z))) (p:=True) (by rw [lc_un,h2];rfl) trivial ?_
    simp only [denV,den1,zcG,IE.ev,h1,op1]
   ·cases h
  ·cases h
 ·rename_i a
  split at h
  ·rename_i b off hc
   injection h with h;subst h
   have h1:=zbh HG hc
   obtain ⟨β,h2,h3⟩:=zaG h1
   exact fin (v:=.pointer (some ⟨β,off,none⟩)) (p:=True) (by rw [lc_nil,←h3];rfl) trivial (by rw [h3];exact h1)
  ·cases h
 ·rename_i t a f
  split at h
  ·rename_i o b off ho hc
   injection h with h;subst h
   obtain ⟨β,h2,h3⟩:=zaG (zbh HG hc)
   refine fin (v:=.pointer (some ⟨β,off+o.2,none⟩)) (p:=True) (by rw [lc_fieldAddr,ho,←h3,←za0];rfl) trivial ?_
   simp only [denV,den1,zcG,h2,op1]
  ·cases h
 ·rename_i t a f
  split at h
  ·rename_i cs hc
   obtain ⟨c',hc',rfl⟩:=vvs h
   obtain ⟨vs,h1,h2⟩:=zaG (zds HG hc)
   cases ho:fldO P t f with
   | none=>simp [ho,fldS] at hc'
   | some o =>
    rw [ho] at hc'
    obtain ⟨v,h3,h4⟩:=fldS_den h1 hc'
    refine finR (v:=v) (lc_field) (run_field ?_) h3
    rw [ho,←h2];exact h4
  ·cases h
 ·rename_i t a i
  split at h
  ·rename_i b off n cp k z ha hi
   split at h
   ·rename_i size hs
    split at h
    ·rename_i hz
     injection h with h;subst h
     simp only [Bool.and_eq_true,decide_eq_true_eq] at hz
     obtain ⟨β,h2,h3⟩:=zaG (zbh HG ha)
     have h4:=zbh HG hi
     injection h4 with h4
     refine fin (v:=.pointer (some ⟨β,off+z.toNat*size,none⟩)) (p:=0≤z∧z<n∧(some (⟨β,off,none⟩:Addr)).isSome=true) (by rw [lc_indexAddr,hs,←h3,←h4,←za0];rfl) ⟨hz.1,hz.2,rfl⟩ ?_
     simp only [denV,den1,zcG,h2,op1]
    ·cases h
   ·cases h
  ·rename_i b n k z ha hi
   split at h
   ·rename_i size hs
    split at h
    ·rename_i hz
     injection h with h;subst h
     simp only [Bool.and_eq_true,decide_eq_true_eq] at hz
     obtain ⟨β,h2,h3⟩:=zaG (zbh HG ha)
     have h4:=zbh HG hi
     injection h4 with h4
     refine fin (v:=.pointer (some ⟨β,0+z.toNat*size,none⟩)) (p:=0≤z∧z<n∧(some (⟨β,0,none⟩:Addr)).isSome=true) (by rw [lc_indexAddr,hs,←h3,←h4,←za0];rfl) ⟨hz.1,hz.2,rfl⟩ ?_
     simp only [denV,den1,zcG,h2,op1]
    ·cases h
   ·cases h
  ·rename_i b off k z ha hi
   split at h
   ·rename_i ar har
    split at h
    ·rename_i hz
     injection h with h;subst h
     simp only [Bool.and_eq_true,decide_eq_true_eq] at hz
     obtain ⟨β,h2,h3⟩:=zaG (zbh HG ha)
     have h4:=zbh HG hi
     injection h4 with h4
     obtain ⟨inf,hu,_⟩:=arE_some har
     refine finR (v:=.pointer (some ⟨β,off+z.toNat*ar.2.2,none⟩)) (by rw [lc_indexAddr,slE_ar hu];rfl) ?_ ?_
     ·rw [←za0];exact run_ia har h3.symm h4.symm hz.1 hz.2
     ·simp only [denV,den1,zcG,h2,op1]
    ·cases h
   ·cases h
  ·cases h
 ·rename_i t a i
  split at h
  ·rename_i cs k z ar ha hi har
   split at h
   ·rename_i hz
    simp only [Bool.and_eq_true,decide_eq_true_eq] at hz
    obtain ⟨c',hc',rfl⟩:=vvs h
    obtain ⟨vs,h1,h2⟩:=zaG (zds HG ha)
    have h4:=zbh HG hi
    injection h4 with h4
    obtain ⟨v,h5,h6⟩:=fldS_den h1 hc'
    exact finR (v:=v) (by rw [lc_index,←h2];rfl) (run_ix har h2.symm h4.symm hz.1 hz.2 h6) h5
   ·cases h
  ·cases h
 ·rename_i t a
  split at h
  ·rename_i b off ar hc har
   injection h with h;subst h
   obtain ⟨β,h2,h3⟩:=zaG (zbh HG hc)
   refine finR (v:=.slice (some ⟨β,off,none⟩) ar.1 ar.1) (by rw [lc_slice,←h3];rfl) (run_sa har h3.symm) ?_
   simp only [denV,den1,zcG,h2,op1]
  ·cases h
 ·rename_i t a
  split at h
  ·rename_i b off hc
   obtain ⟨c',hc',rfl⟩:=vvs h
   obtain ⟨β,h2,h3⟩:=zaG (zbh HG hc)
   obtain ⟨v,p,h4,h5,h6⟩:=loadS_den HM h2 hc'
   exact fin (by rw [lc_load,←h3];exact h4) h5 h6
  ·cases h
 ·rename_i a i
  split at h
  ·rename_i l hc
   obtain ⟨c',hc',rfl⟩:=vvs h
   obtain ⟨vs,h1,h2⟩:=zaG (zds HG hc)
   obtain ⟨v,h3,h4⟩:=denT_get h1 hc'
   have hlt:=(List.getElem?_eq_some_iff.1 h3).1
   refine fin (v:=v) (p:=i<vs.toArray.size) (by rw [lc_extract,←h2,exC_tuple];congr 2;simp [h3]) (by simpa using hlt) h4
  ·cases h
 ·rename_i cl args ts
  split at h
  ·rename_i a t ha ht
   split at h
   ·rename_i c hc
    obtain ⟨c',hc',rfl⟩:=v1s h
    obtain ⟨v,p,h1,h2,h3⟩:=lenQ_den HO (zbh HG hc) hc'
    have e1:args = #[a]:=by apply Array.toList_inj.1;simpa using ha
    have e2:ts = #[t]:=by apply Array.toList_inj.1;simpa using ht
    subst e1 e2
    exact fin (by rw [lc_len];exact h1) h2 h3
   ·cases h
  ·cases h
 ·cases h
end
end Go.Proofs.YtefhenfofomjhaaGreat
