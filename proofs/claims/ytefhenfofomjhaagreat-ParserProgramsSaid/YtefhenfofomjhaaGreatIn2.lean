/- Integers: Right, Same, Sign, Cmp, Of. -/
import Derived.Test.YtefhenfofomjhaaGreatNtV
import Derived.Test.YtefhenfofomjhaaGreatVE
import Derived.Test.YtefhenfofomjhaaGreatTy
import Derived.Shelf.Strings.Builder1
import Derived.Laws.BytesString
import Derived.Test.YtefhenfofomjhaaGreatAp1
set_option linter.unusedSimpArgs false
set_option linter.unusedVariables false
set_option maxHeartbeats 1000000
set_option maxRecDepth 20000
namespace Go.Proofs.YtefhenfofomjhaaGreat
open Go.RowKit Go.V
end Go.Proofs.YtefhenfofomjhaaGreat
namespace Go.Proofs.YtefhenfofomjhaaGreat
open Go.RowKit Go.V Go.Shelf
theorem own_slice {w:World} {B e size n:Nat} {v:Value} {xs:List Value} (h:w.ownsRow B e size v n xs):∃ a c,v = .slice a n c:=by
 rcases h.2 with ⟨h1,h2⟩|⟨g,cap,cur,hv,_⟩
 ·exact ⟨none,0,by rw [h1,h2]⟩
 ·exact ⟨_,_,hv⟩
end Go.Proofs.YtefhenfofomjhaaGreat
namespace Go.Proofs.YtefhenfofomjhaaGreat
open Go.RowKit Go.V
def isq:Nat→Nat
 | 0=>0
 | n+1=>if (isq n+1)*(isq n+1)≤n+1 then isq n+1 else isq n
theorem RD.drop {w:World} {a:Option Addr} {c:Nat} {l:List Nat} (h:RD w a c l) {k:Nat} (hk:k<l.length):RD w (a.map (·.add k)) (c-k) (l.drop k):=by
 refine ⟨?_,h.ok.drop k,by have:=h.cap;rw [List.length_drop];omega⟩
 have:=h.sl.sub k l.length
 rw [List.take_of_length_le (by rw [List.length_drop,zb3];omega),←lmC_drop] at this
 exact this
theorem lim_mul_len {x y k m:Nat} (hx:(lim x).length≤k) (hy:(lim y).length≤m):(lim (x*y)).length≤k+m:=by
 refine zbx _ _ ?_
 have h1:=zck _ (zdM x)
 have h2:=zck _ (zdM y)
 rw [zao] at h1 h2
 have h3:65536 ^ (lim x).length≤65536 ^ k:=Nat.pow_le_pow_right (by decide) hx
 have h4:65536 ^ (lim y).length≤65536 ^ m:=Nat.pow_le_pow_right (by decide) hy
 rw [Nat.pow_add]
 exact Nat.mul_lt_mul'' (by omega) (by omega)
def isD (c:UInt8):Bool:=decide (48≤c.toNat) && decide (c.toNat≤57)
def dv (l:List UInt8):Nat:=l.foldl (fun n c=>n*10+(c.toNat-48)) 0
def rdBad (l:List UInt8):Bool:=(decide (1<l.length) && decide (l.getD 0 0=48)) || l.any (fun c=>!isD c)
def rdE (l:List UInt8):Int:=if l=[] then 10 else if 1000<l.length then 4 else if rdBad l=true then 9 else 0
def rdL (l:List UInt8):List Nat:=if rdE l=0 then lim (dv l) else []
def zdR (w:World) (l:List UInt8) (e:Ending) (w':World):Prop:=∃ a c,e = .returned (.tuple #[.slice a (rdL l).length c,.int .i64 (rdE l)])∧RD w' a c (rdL l)∧Below w.heap.size w w'
theorem readErr {w w':World} {l:List UInt8} {e:Ending} {n:Int} (hn:rdE l=n) (h0:n≠0) (he:e = .returned (.tuple #[.slice none 0 0,.int .i64 n])) (hE:Below w.heap.size w w'):zdR w l e w':=by
 have hL:rdL l=[]:=by unfold rdL;rw [if_neg (by rw [hn];exact h0)]
 refine ⟨none,0,?_,by rw [hL];exact RD.nil _ _ _,hE⟩
 rw [hL,hn,he];rfl
def ch (l:List UInt8) (k:Nat):UInt8:=l.getD k 0
theorem dv_take (l:List UInt8) (i:Nat) (h:i<l.length):dv (l.take (i+1))=dv (l.take i)*10+((l.getD i 0).toNat-48):=by
 unfold dv
 rw [List.take_succ_eq_append_getElem h,List.foldl_append]
 simp [List.getD_eq_getElem?_getD,List.getElem?_eq_getElem h]
theorem dv_lt (l:List UInt8):∀ i,i≤l.length→(∀ k,k<i→isD (l.getD k 0)=true)→dv (l.take i)<10 ^ i
 | 0,_,_=>by simp [dv]
 | i+1,h,hd=>by
  have ih:=dv_lt l i (by omega) (fun k hk=>hd k (by omega))
  have hi:=hd i (by omega)
  unfold isD at hi
  simp only [Bool.and_eq_true,decide_eq_true_eq] at hi
  rw [dv_take l i (by omega),Nat.pow_succ]
  omega
theorem dv_len (l:List UInt8) (i:Nat) (h:i≤l.length) (hd:∀ k,k<i→isD (l.getD k 0)=true):(lim (dv (l.take i))).length≤i:=by
 refine zbx _ _ (Nat.lt_of_lt_of_le (dv_lt l i h hd) (Nat.pow_le_pow_left (by decide) i))
theorem bad_at {l:List UInt8} {i:Nat} (h:i<l.length) (hb:isD (l.getD i 0)=false):rdBad l=true:=by
 unfold rdBad
 have:l.any (fun c=>!isD c)=true:=by
  rw [List.any_eq_true]
  refine ⟨l.getD i 0,?_,by rw [hb];rfl⟩
  rw [List.getD_eq_getElem?_getD,List.getElem?_eq_getElem h,Option.getD_some]
  exact List.getElem_mem h
 rw [this,Bool.or_true]
theorem bad_none {l:List UInt8} (h0:¬(1<l.length∧l.getD 0 0=48)) (hd:∀ k,k<l.length→isD (l.getD k 0)=true):rdBad l=false:=by
 unfold rdBad
 have h1:l.any (fun c=>!isD c)=false:=by
  rw [List.any_eq_false]
  intro c hc
  obtain ⟨k,hk,rfl⟩:=List.mem_iff_getElem.1 hc
  have:=hd k hk
  rw [List.getD_eq_getElem?_getD,List.getElem?_eq_getElem hk,Option.getD_some] at this
  simp [this]
 rw [h1,Bool.or_false,Bool.and_eq_false_iff]
 by_cases h:1<l.length
 ·right;exact decide_eq_false (fun h'=>h0 ⟨h,h'⟩)
 ·left;exact decide_eq_false h
theorem own_block2 {w:World} {base n:Nat} {e:TypeId} {v:Value} {xs:List Value} (h:w.ownsRow base e 1 v n xs) (hn:0<n):∃ g cap Z,v = .slice (some ⟨g,0,none⟩) n cap∧base≤g∧Bx w g (xs++Z).toArray e∧cap≤maxLen∧n+Z.length=cap:=by
 have hl:=h.1
 rcases h.2 with ⟨_,h2⟩|⟨g,cap,cur,hv,hb,hg,hle,hm,hsz,ht⟩
 ·omega
 ·rw [Nat.mul_one] at ht hsz
  refine ⟨g,cap,cur.toList.drop n,hv,hb,⟨?_⟩,hm,?_⟩
  ·rw [hg,←ht,List.take_append_drop]
  ·rw [List.length_drop];simp [hsz];omega
theorem own_of_blk {w:World} {base n g cap:Nat} {e:TypeId} {xs Z:List Value} (hB:Bx w g (xs++Z).toArray e) (hl:xs.length=n) (hc:n+Z.length=cap) (hm:cap≤maxLen) (hb:base≤g):w.ownsRow base e 1 (.slice (some ⟨g,0,none⟩) n cap) n xs:=by
 refine ⟨by rw [Nat.mul_one];exact hl,.inr ⟨g,cap,_,rfl,hb,hB.heap,by omega,hm,by simp;omega,?_⟩⟩
 rw [Nat.mul_one,←hl]
 simp
theorem read_step (ws O:List Nat) (k dg cy s:Nat) (hw:ws.length=k) (h:val ws+65536 ^ k*cy=10*val (O.take k)+dg) (hs:s=cy+10*lat O k):val (ws++[s % 65536])+65536 ^ (k+1)*(s / 65536)=10*val (O.take (k+1))+dg:=by
 rw [ze7,zba O k,hw,Nat.pow_succ]
 simp only [val,Nat.mul_zero,Nat.add_zero]
 generalize 65536 ^ k=P at *
 have e1:P*(s % 65536)+P*65536*(s / 65536)=P*s:=by rw [Nat.mul_assoc,←Nat.mul_add,Nat.mod_add_div]
 have e2:P*s=P*cy+P*(10*lat O k):=by rw [hs,Nat.mul_add]
 have e3:10*(val (O.take k)+P*lat O k)=10*val (O.take k)+P*(10*lat O k):=by rw [Nat.mul_add,Nat.mul_left_comm]
 omega
theorem read_end (ws:List Nat) (N N' cy:Nat) (hok:Ok ws) (hw:ws.length=(lim N).length) (hcy:cy<65536) (h:val ws+65536 ^ (lim N).length*cy=N') (hN:N≤N'):lim N'=if cy=0 then ws else ws++[cy]:=by
 split
 ·rename_i h0
  subst h0
  rw [Nat.mul_zero,Nat.add_zero] at h
  rw [←h,zaO ws hok]
  rcases hl:(lim N).length with _|k
  ·have:ws=[]:=List.length_eq_zero_iff.1 (by omega)
   subst this;rfl
  ·refine nrm_full ws hok k (by omega) ?_
   have:=val_len (lim N) (zdM N) k (by rw [nrm_lim];exact hl)
   rw [zao] at this
   omega
 ·rename_i h0
  have e:val (ws++[cy])=N':=by rw [ze7,hw,←h];simp [val]
  rw [←e,zaO _ (hok.app (Ok.cons hcy Ok.nil)),nrm_snoc _ _ h0]
theorem set_drop (ws O:List Nat) (k x:Nat) (hw:ws.length=k) (hk:k<O.length):(ws++O.drop k).set k x=(ws++[x])++O.drop (k+1):=by
 have:=set_win [] ws O [] k x hw hk
 simpa using this
theorem lat_drop2 (ws O:List Nat) (k:Nat) (hw:ws.length=k) (hk:k<O.length):lat (ws++O.drop k) k=lat O k:=by
 have:=lat_win [] ws O [] k hw hk
 simpa using this
theorem read_any (s:ByteArray) (w:World):Calls Tryz.prog 90 #[.string s] w (zdR w (bs s)):=by
 have hsz:=zb7 s
 have hbe:bs ⟨#[]⟩=[]:=rfl
 obtain ⟨l,hl⟩:∃ l,l=bs s:=⟨_,rfl⟩
 rw [←hl] at hsz ⊢
 have hba:∀ k,za9 s k=ch l k:=fun k=>by rw [hl];rfl
 refine za5 (rs:=[.tmp 2,.tmp 3]) (n:=74) Tryz.func90 rfl rfl rfl (by kernel_rfl) ?_
 refine zzr fun K hK=>?_
 simp [go_sem]
 apply hK;clear hK K
 refine zab (fun K1 hK1=>?_)
 refine zac ?_
 by_cases h0:l=[]
 ·refine zzr fun K hK=>?_
  simp [go_sem,←hl,hbe,h0]
  apply hK;clear hK K
  refine zaf (by simp [go_sem,h0];rfl) rfl ?_
  refine zzr fun K hK=>?_
  simp [go_sem]
  apply hK;clear hK K
  refine zad ?_
  repeat first|refine za3 ?_|refine za2 ?_
  refine ⟨trivial,readErr (n:=10) (by unfold rdE;rw [if_pos h0]) (by decide) ?_ (Below.refl _ _)⟩
  simp [go_sem,zar,zam]
 ·refine zzr fun K hK=>?_
  simp [go_sem,←hl,hbe,h0]
  apply hK;clear hK K
  refine zaf (by simp [go_sem,h0];rfl) rfl ?_
  by_cases h1:1000<l.length
  ·have h1':(1000:Int)<l.length:=by omega
   refine zzr fun K hK=>?_
   simp [go_sem,←hsz,h1,h1']
   apply hK;clear hK K
   refine zaf (by simp [go_sem,h1,h1'];rfl) rfl ?_
   refine zzr fun K hK=>?_
   simp [go_sem]
   apply hK;clear hK K
   refine zad ?_
   repeat first|refine za3 ?_|refine za2 ?_
   refine ⟨trivial,readErr (n:=4) (by unfold rdE;rw [if_neg h0,if_pos h1]) (by decide) ?_ (Below.refl _ _)⟩
   simp [go_sem,zar,zam]
  ·have h1':¬(1000:Int)<l.length:=by omega
   have hE9:rdBad l=true→rdE l=9:=fun hb=>by unfold rdE;rw [if_neg h0,if_neg h1,if_pos hb]
   refine zzr fun K hK=>?_
   simp [go_sem,←hsz,h1,h1']
   apply hK;clear hK K
   refine zaf (by simp [go_sem,h1,h1'];rfl) rfl ?_
   have main:¬(1<l.length∧ch l 0=48)→∀ g:G,g 0 = .string s→K1 g w:=by
    intro hz g g0
    apply hK1;clear hK1 K1
    refine zzr fun K hK=>?_
    simp [go_sem]
    apply hK;clear hK K
    refine zab (fun K1 hK1=>?_)
    refine zzr fun K hK=>?_
    simp [go_sem,g0,←hsz]
    apply hK;clear hK K
    refine zac ?_
    refine zaz (fun t g w'=>Below w.heap.size w w'∧∃ (i:Nat) (a:Option Addr) (c:Nat),i≤l.length∧t=l.length-i∧g 0 = .string s∧g 25 = .int .i64 l.length∧g 26 = .int .i64 i∧g 4 = .slice a (lim (dv (l.take i))).length c ∧
     w'.ownsRow w.heap.size 123 1 (.slice a (lim (dv (l.take i))).length c) (lim (dv (l.take i))).length (lmC (lim (dv (l.take i))))∧(∀ k,k<i→isD (ch l k)=true)) l.length ?_ ?_
    ·have e:lim (dv (l.take 0))=[]:=by simp [dv,zap]
     refine ⟨Below.refl _ _,0,none,0,by omega,rfl,by simp [go_sem,g0],by simp [go_sem],by simp [go_sem],?_,?_,fun k hk=>by omega⟩
     ·rw [e];simp [go_sem]
     ·rw [e];exact World.ownsRow_nil _ _ _ _
    ·clear g0
     clear g
     rintro t g w' ⟨hE,i,a,c,hi,rfl,g0,g25,g26,g4,hown,hdig⟩
     have hNl:=dv_len l i hi hdig
     obtain ⟨N,hN⟩:∃ N,N=dv (l.take i):=⟨_,rfl⟩
     rw [←hN] at g4 hown hNl
     obtain ⟨n,hn⟩:∃ n,n=(lim N).length:=⟨_,rfl⟩
     rw [←hn] at g4 hown hNl
     refine zzr fun K hK=>?_
     simp [go_sem,g25,g26]
     apply hK;clear hK K
     refine zab (fun K2 hK2=>?_)
     by_cases hlt:i<l.length
     ·have hlt':(i:Int)<l.length:=by omega
      have hdvt:=dv_take l i hlt
      rw [←hN] at hdvt
      have hbi:=hba i
      have hbad:=bad_at hlt
      have hdgn:isD (ch l i)=true↔48≤(ch l i).toNat∧(ch l i).toNat≤57:=by unfold isD;simp
      have hdvt':dv (l.take (i+1))=N*10+((ch l i).toNat-48):=hdvt
      have hbad':isD (ch l i)=false→rdBad l=true:=hbad
      obtain ⟨cn,hcn⟩:∃ cn,cn=(ch l i).toNat:=⟨_,rfl⟩
      have hcc:(za9 s i).toNat=cn:=by rw [hbi,hcn]
      rw [←hcn] at hdgn hdvt'
      have hw1:IntKind.i64.wrap (↑i+1)=(i:Int)+1:=IntWalk.i64_in _ (by omega)
      refine zaf (by simp [go_sem,hlt,hlt'];rfl) rfl ?_
      refine za7 ?_
      apply hK2;clear hK2 K2
      refine zab (fun K2 hK2=>?_)
      refine zac ?_
      refine zzr fun K hK=>?_
      simp [go_sem,g26]
      apply hK;clear hK K
      refine zab (fun K3 hK3=>?_)
      by_cases hd:isD (ch l i)=true
      ·obtain ⟨d1,d2⟩:=hdgn.1 hd
       have d1':¬(cn:Int)<48:=by omega
       have d2':¬(57:Int)<cn:=by omega
       have d1'':¬cn<48:=by omega
       have d2'':¬57<cn:=by omega
       obtain ⟨dg,hdg⟩:∃ dg,dg=cn-48:=⟨_,rfl⟩
       rw [←hdg] at hdvt'
       have f1:IntKind.u8.wrap ((cn:Int)-48)=(dg:Int):=by rw [w8_in _ (by omega)];omega
       have f2:IntKind.u32.wrap (dg:Int)=dg:=zbJ _ (by omega)
       refine zzr fun K hK=>?_
       simp [go_sem,g0,←hsz,hlt,hlt',hcc,d1',d2',d1'',d2'']
       apply hK;clear hK K
       refine zaf (by simp [go_sem,d1',d2',d1'',d2''];rfl) rfl ?_
       refine za7 ?_
       apply hK3;clear hK3 K3
       refine zzr fun K hK=>?_
       simp [go_sem,g0,←hsz,hlt,hlt',hcc,f1,f2]
       apply hK;clear hK K
       refine zab (fun K3 hK3=>?_)
       refine zzr fun K hK=>?_
       simp [go_sem,g4]
       apply hK;clear hK K
       refine zac ?_
       refine zaz (fun t g w'=>Below w.heap.size w w'∧∃ (k cy:Nat) (ws:List Nat) (a:Option Addr) (c:Nat),k≤n∧t=n-k∧g 0 = .string s∧g 25 = .int .i64 l.length∧g 26 = .int .i64 i∧g 4 = .slice a n c∧w'.ownsRow w.heap.size 123 1 (.slice a n c) n (lmC (ws++(lim N).drop k))∧ws.length=k∧Ok ws∧g 6 = .int .u32 cy∧cy≤9∧g 45 = .int .i64 n∧g 46 = .int .i64 k∧val ws+65536 ^ k*cy=10*val ((lim N).take k)+dg) n ?_ ?_
       ·exact ⟨hE,0,dg,[],a,c,by omega,rfl,by simp [go_sem,g0],by simp [go_sem,g25],by simp [go_sem,g26],by simp [go_sem,g4],by simpa using hown,rfl,Ok.nil,by simp [go_sem],by omega,by simp [go_sem],by simp [go_sem],by simp [val]⟩
       ·clear hE hown g0 g25 g26 g4
        clear g
        rintro t g w' ⟨hE,k,cy,ws,a,c,hk,rfl,g0,g25,g26,g4,hown,hwl,hwok,g6,hcy,g45,g46,hval⟩
        refine zzr fun K hK=>?_
        simp [go_sem,g45,g46]
        apply hK;clear hK K
        refine zab (fun K4 hK4=>?_)
        by_cases hkn:k<n
        ·have hkn':(k:Int)<n:=by omega
         have hkN:k<(lim N).length:=by omega
         obtain ⟨gb,cap,Z,hveq,hgb,hB,hcm,hcz⟩:=own_block2 hown (by omega)
         injection hveq with ha1 ha2 ha3
         subst ha1
         subst ha3
         have hx:=zb9 (zdM N) k
         have hread:w'.cell? ⟨gb,k,none⟩=some (.int .u16 (lat (lim N) k)):=by
          rw [bx_atZ hB (by rw [List.length_append,List.length_drop];omega),lat_drop2 ws _ k hwl hkN]
         obtain ⟨S,hS⟩:∃ S,S=cy+10*lat (lim N) k:=⟨_,rfl⟩
         have hstep:=read_step ws (lim N) k dg cy S hwl hval hS
         have r1:IntKind.u32.wrap (lat (lim N) k:Int)=lat (lim N) k:=zbJ _ (by omega)
         have r2:IntKind.u32.wrap (10*(lat (lim N) k:Int))=((10*lat (lim N) k:Nat):Int):=by rw [zbJ _ (by omega)];omega
         obtain ⟨X,hX⟩:∃ X,X=10*lat (lim N) k:=⟨_,rfl⟩
         rw [←hX] at r2 hS
         have r3:IntKind.u32.wrap ((cy:Int)+X)=(S:Int):=by rw [zbJ _ (by omega)];omega
         have r4:IntKind.u16.wrap (S:Int)=((S % 65536:Nat):Int):=w16 _
         have r5:shrI .u32 (S:Int) 16=((S / 65536:Nat):Int):=shr_nat .u32 S 16 (by decide)
         have hlo:S % 65536<65536:=Nat.mod_lt _ (by decide)
         have hhi:S / 65536≤9:=by omega
         obtain ⟨lo,hloe⟩:∃ lo,lo=S % 65536:=⟨_,rfl⟩
         obtain ⟨C,hCe⟩:∃ C,C=S / 65536:=⟨_,rfl⟩
         rw [←hloe] at r4 hlo hstep
         rw [←hCe] at r5 hhi hstep
         have hw2:IntKind.i64.wrap (↑k+1)=(k:Int)+1:=IntWalk.i64_in _ (by omega)
         refine zaf (by simp [go_sem,hkn,hkn'];rfl) rfl ?_
         refine za7 ?_
         apply hK4;clear hK4 K4
         refine zab (fun K4 hK4=>?_)
         refine zac ?_
         refine zzr fun K hK=>?_
         simp [go_sem,g46]
         apply hK;clear hK K
         refine zzr fun K hK=>?_
         simp [go_sem,g4,g6,hkn,hkn',za0,hread,r1,r2,r3]
         apply hK;clear hK K
         refine zzr fun K hK=>?_
         simp [go_sem,g4,hkn,hkn',za0,r4]
         refine zbG (b:=gb) (off:=k) [.int .u16 lo] (by simp [go_sem]) rfl (by simp [go_sem]) (by simp [go_sem,Value.cells]) zbc hB (by simp [zb3]<;>omega) (by simp [Value.oneCell']) (by decide) (fun w5 hS5 hB5=>?_)
         rw [putC_lmZ _ _ _ _ (by rw [List.length_append,List.length_drop];omega),set_drop ws _ k lo hwl hkN] at hB5
         have hown5:w5.ownsRow w.heap.size 123 1 (.slice (some ⟨gb,0,none⟩) n c) n (lmC ((ws++[lo])++(lim N).drop (k+1))) :=
          own_of_blk hB5 (by rw [zb3];simp;omega) hcz hcm hgb
         replace hE:=hE.nextS hS5 hgb
         simp [go_sem]
         apply hK;clear hK K
         refine zzt fun K hK=>?_
         simp [go_sem,r5]
         apply hK;clear hK K
         apply hK4;clear hK4 K4
         refine zzt fun K hK=>?_
         simp [go_sem,g46,hw2]
         exact hK _ _ ⟨n-(k+1),by omega,hE,k+1,C,ws++[lo],_,c,by omega,rfl,by simp [go_sem,g0],by simp [go_sem,g25],by simp [go_sem,g26],by simp [go_sem,g4],hown5,by simp [hwl],hwok.app (Ok.cons hlo Ok.nil),by simp [go_sem],hhi,by simp [go_sem,g45],by simp [go_sem],hstep⟩
        ·have hkn2:k=n:=by omega
         subst hkn2
         rw [List.take_of_length_le (by omega),zao,hn] at hval
         rw [List.drop_eq_nil_of_le (by omega),List.append_nil] at hown
         have hN':10*N+dg=dv (l.take (i+1)):=by rw [hdvt'];omega
         rw [hN'] at hval
         have hend:=read_end ws N _ cy hwok (by omega) (by omega) hval (by omega)
         have hdig2:∀ k,k<i+1→isD (ch l k)=true:=by
          intro k hk
          by_cases h:k<i
          ·exact hdig k h
          ·have:k=i:=by omega
           subst this;exact hd
         refine zaf (by simp [go_sem,hkn];rfl) rfl ?_
         refine zav ?_
         repeat (first|refine zae ?_|refine za6 rfl ?_|refine za8 ?_)
         apply hK3;clear hK3 K3 hK4 K4
         refine zzr fun K hK=>?_
         simp [go_sem,g6]
         apply hK;clear hK K
         by_cases hc0:cy=0
         ·rw [if_pos hc0] at hend
          subst hc0
          refine zaf (by simp [go_sem];rfl) rfl ?_
          refine za7 ?_
          apply hK2;clear hK2 K2
          refine zzt fun K hK=>?_
          simp [go_sem,g26,hw1]
          exact hK _ _ ⟨l.length-(i+1),by omega,hE,i+1,a,c,by omega,rfl,by simp [go_sem,g0],by simp [go_sem,g25],by simp [go_sem],by rw [hend,hwl];simp [go_sem,g4],by rw [hend,hwl];exact hown,hdig2⟩
         ·rw [if_neg hc0] at hend
          have hcp:0<cy:=by omega
          have hcp':(0:Int)<cy:=by omega
          have r6:IntKind.u16.wrap (cy:Int)=cy:=zeq _ (by omega)
          refine zaf (by simp [go_sem,hcp,hcp'];rfl) rfl ?_
          refine zzt fun K hK=>?_
          simp [go_sem,g4,g6,r6]
          refine zak #[.int .u16 cy] (by simp [go_sem,g4,g6,r6]) rfl zaT (by decide) [(0,.int .u16 cy)] (by simp [go_sem,g4,g6,r6]) (by kernel_rfl) (fun w8 b8 hE8 hle8 hB8=>?_)
          have hown8:=own_keep hown hE8
          replace hE:=hE.next hE8
          simp [go_sem,g4]
          refine zbv (v:=.slice a k c) (b:=b8) (len:=1) (c:=1) hB8 (by simp [go_sem,g4]) rfl zaT zaK rfl (by decide) (by simp [go_sem,g4,hn]) (by simp [go_sem]) hown8 rfl (by simp [Value.oneCell']) (by unfold maxLen;omega) (by omega) hE.size (by decide) (fun v9 w9 hown9 hg9 _=>?_)
          replace hE:=hE.nextG hg9 (fun b e=>(hown8.lt b e).1)
          obtain ⟨a9,c9,rfl⟩:=own_slice hown9
          simp [go_sem]
          apply hK;clear hK K
          apply hK2;clear hK2 K2
          have hll:(lim (dv (l.take (i+1)))).length=k+1:=by rw [hend];simp [hwl]
          refine zzt fun K hK=>?_
          simp [go_sem,g26,hw1]
          refine hK _ _ ⟨l.length-(i+1),by omega,hE,i+1,a9,c9,by omega,rfl,by simp [go_sem,g0],by simp [go_sem,g25],by simp [go_sem],by rw [hll];simp [go_sem],?_,hdig2⟩
          rw [hll,hend,lmC_snoc]
          exact hown9
      ·have hd0:isD (ch l i)=false:=by simpa using hd
       have hrb:=hE9 (hbad' hd0)
       have hfin:∀ e:Ending,e = .returned (.tuple #[.slice none 0 0,.int .i64 9])→zdR w l e w':=fun e he=>readErr hrb (by decide) he hE
       by_cases d1:cn<48
       ·have d1':(cn:Int)<48:=by omega
        refine zzr fun K hK=>?_
        simp [go_sem,g0,←hsz,hlt,hlt',hcc,d1,d1']
        apply hK;clear hK K
        refine zaf (by simp [go_sem,d1,d1'];rfl) rfl ?_
        refine zzr fun K hK=>?_
        simp [go_sem]
        apply hK;clear hK K
        refine zad ?_
        repeat first|refine za3 ?_|refine za2 ?_
        refine ⟨trivial,hfin _ ?_⟩
        simp [go_sem,zar,zam]
       ·have d2:57<cn:=by
         rcases Nat.lt_or_ge 57 cn with h|h
         ·exact h
         ·exact absurd (hdgn.2 ⟨by omega,h⟩) hd
        have d1':¬(cn:Int)<48:=by omega
        have d2':(57:Int)<cn:=by omega
        refine zzr fun K hK=>?_
        simp [go_sem,g0,←hsz,hlt,hlt',hcc,d1,d1',d2,d2']
        apply hK;clear hK K
        refine zaf (by simp [go_sem,d1,d1',d2,d2'];rfl) rfl ?_
        refine zzr fun K hK=>?_
        simp [go_sem]
        apply hK;clear hK K
        refine zad ?_
        repeat first|refine za3 ?_|refine za2 ?_
        refine ⟨trivial,hfin _ ?_⟩
        simp [go_sem,zar,zam]
     ·have him:i=l.length:=by omega
      subst him
      rw [List.take_length] at hN
      have hE0:rdE l=0:=by
       unfold rdE
       rw [if_neg h0,if_neg h1,if_neg]
       rw [bad_none hz hdig];decide
      have hL:rdL l=lim N:=by unfold rdL;rw [if_pos hE0,hN]
      obtain ⟨a7,c7,hv7,hr7⟩:=RD.of_own (hn▸hown) (zdM N)
      injection hv7 with h71 h72 h73
      subst h71
      subst h73
      refine zaf (by simp [go_sem,hlt];rfl) rfl ?_
      refine zav ?_
      repeat (first|refine zae ?_|refine za6 rfl ?_|refine za8 ?_)
      apply hK1;clear hK1 K1 hK2 K2
      refine zzr fun K hK=>?_
      simp [go_sem,g4]
      apply hK;clear hK K
      refine zad ?_
      repeat first|refine za3 ?_|refine za2 ?_
      refine ⟨trivial,a,c,?_,by rw [hL];exact hr7,hE⟩
      rw [hL,hE0,←hn]
      simp [go_sem,zar,zam,g4]
   by_cases h2:1<l.length
   ·have h2':(1:Int)<l.length:=by omega
    have h20:0<l.length:=by omega
    have h20':(0:Int)<l.length:=by omega
    have hb0:=hba 0
    obtain ⟨cn,hcn⟩:∃ cn,cn=(ch l 0).toNat:=⟨_,rfl⟩
    have hcc:(za9 s 0).toNat=cn:=by rw [hb0,hcn]
    by_cases h3:ch l 0=48
    ·have hc48:cn=48:=by rw [hcn,h3];rfl
     have hrb:rdE l=9:=hE9 (by unfold rdBad;simp [h2];left;exact h3)
     subst hc48
     refine zzr fun K hK=>?_
     simp [go_sem,←hsz,h2,h2',hcc,h20,h20']
     apply hK;clear hK K
     refine zaf (by simp [go_sem,h2,h2'];rfl) rfl ?_
     refine zzr fun K hK=>?_
     simp [go_sem]
     apply hK;clear hK K
     refine zad ?_
     repeat first|refine za3 ?_|refine za2 ?_
     refine ⟨trivial,readErr hrb (by decide) ?_ (Below.refl _ _)⟩
     simp [go_sem,zar,zam]
    ·have hc48:¬cn=48:=by
      intro e
      apply h3
      apply UInt8.toNat_inj.1
      rw [←hcn,e];rfl
     have hc48':¬(cn:Int)=48:=by omega
     refine zzr fun K hK=>?_
     simp [go_sem,←hsz,h2,h2',hcc,h20,h20',hc48,hc48']
     apply hK;clear hK K
     refine zaf (by simp [go_sem,h2,h2',hc48,hc48'];rfl) rfl ?_
     refine za7 ?_
     exact main (fun h=>h3 h.2) _ (by simp [go_sem])
   ·have h2':¬(1:Int)<l.length:=by omega
    refine zzr fun K hK=>?_
    simp [go_sem,←hsz,h2,h2']
    apply hK;clear hK K
    refine zaf (by simp [go_sem,h2,h2'];rfl) rfl ?_
    refine za7 ?_
    exact main (fun h=>h2 h.1) _ (by simp [go_sem])
theorem readR_any (s:ByteArray) (w:World):Calls Tryz.prog 120 #[.string s] w (zdR w (bs s)):=by
 have hsz:=zb7 s
 have hbe:bs ⟨#[]⟩=[]:=rfl
 obtain ⟨l,hl⟩:∃ l,l=bs s:=⟨_,rfl⟩
 rw [←hl] at hsz ⊢
 have hba:∀ k,za9 s k=ch l k:=fun k=>by rw [hl];rfl
 refine za5 (rs:=[.tmp 2,.tmp 3]) (n:=47) Tryz.func120 rfl rfl rfl (by kernel_rfl) ?_
 refine zzr fun K hK=>?_
 simp [go_sem]
 apply hK;clear hK K
 refine zab (fun K1 hK1=>?_)
 by_cases h0:l=[]
 ·refine zzr fun K hK=>?_
  simp [go_sem,←hl,hbe,h0]
  apply hK;clear hK K
  refine zaf (by simp [go_sem,h0];rfl) rfl ?_
  refine zzr fun K hK=>?_
  simp [go_sem]
  apply hK;clear hK K
  refine zad ?_
  repeat first|refine za3 ?_|refine za2 ?_
  refine ⟨trivial,readErr (n:=10) (by unfold rdE;rw [if_pos h0]) (by decide) ?_ (Below.refl _ _)⟩
  simp [go_sem,zar,zam]
 ·refine zzr fun K hK=>?_
  simp [go_sem,←hl,hbe,h0]
  apply hK;clear hK K
  refine zaf (by simp [go_sem,h0];rfl) rfl ?_
  refine za7 ?_
  apply hK1;clear hK1 K1
  refine zab (fun K1 hK1=>?_)
  by_cases h1:1000<l.length
  ·have h1':(1000:Int)<l.length:=by omega
   refine zzr fun K hK=>?_
   simp [go_sem,←hsz,h1,h1']
   apply hK;clear hK K
   refine zaf (by simp [go_sem,h1,h1'];rfl) rfl ?_
   refine zzr fun K hK=>?_
   simp [go_sem]
   apply hK;clear hK K
   refine zad ?_
   repeat first|refine za3 ?_|refine za2 ?_
   refine ⟨trivial,readErr (n:=4) (by unfold rdE;rw [if_neg h0,if_pos h1]) (by decide) ?_ (Below.refl _ _)⟩
   simp [go_sem,zar,zam]
  ·have h1':¬(1000:Int)<l.length:=by omega
   have hE9:rdBad l=true→rdE l=9:=fun hb=>by unfold rdE;rw [if_neg h0,if_neg h1,if_pos hb]
   refine zzr fun K hK=>?_
   simp [go_sem,←hsz,h1,h1']
   apply hK;clear hK K
   refine zaf (by simp [go_sem,h1,h1'];rfl) rfl ?_
   refine za7 ?_
   apply hK1;clear hK1 K1
   refine zzr fun K hK=>?_
   simp [go_sem]
   apply hK;clear hK K
   refine zab (fun K1 hK1=>?_)
   refine zzr fun K hK=>?_
   simp [go_sem]
   apply hK;clear hK K
   refine zac ?_
   refine zaz (fun t g w'=>Below w.heap.size w w'∧∃ (i:Nat) (a:Option Addr) (c:Nat),i≤l.length∧t=l.length-i∧g 0 = .string s∧g 5 = .int .i64 i∧g 4 = .slice a (lim (dv (l.take i))).length c ∧
    RD w' a c (lim (dv (l.take i)))∧(∀ k,k<i→isD (ch l k)=true)∧(2≤i→ch l 0≠48)) l.length ?_ ?_
   ·have e:lim (dv (l.take 0))=[]:=by simp [dv,zap]
    refine ⟨Below.refl _ _,0,none,0,by omega,rfl,by simp [go_sem],by simp [go_sem],?_,?_,fun k hk=>by omega,by omega⟩
    ·rw [e];simp [go_sem]
    ·rw [e];exact RD.nil _ _ _
   ·rintro t g w' ⟨hE,i,a,c,hi,rfl,g0,g5,g4,hr,hdig,hz⟩
    have hNl:=dv_len l i hi hdig
    obtain ⟨N,hN⟩:∃ N,N=dv (l.take i):=⟨_,rfl⟩
    rw [←hN] at g4 hr hNl
    refine zab (fun K2 hK2=>?_)
    by_cases hlt:i<l.length
    ·have hlt':(i:Int)<l.length:=by omega
     have hdvt:=dv_take l i hlt
     rw [←hN] at hdvt
     have hbi:=hba i
     have hbad:=bad_at hlt
     have hdgn:isD (ch l i)=true↔48≤(ch l i).toNat∧(ch l i).toNat≤57:=by unfold isD;simp
     have hdvt':dv (l.take (i+1))=N*10+((ch l i).toNat-48):=hdvt
     have hbad':isD (ch l i)=false→rdBad l=true:=hbad
     obtain ⟨cn,hcn⟩:∃ cn,cn=(ch l i).toNat:=⟨_,rfl⟩
     have hcc:(za9 s i).toNat=cn:=by rw [hbi,hcn]
     rw [←hcn] at hdgn hdvt'
     have hb0:=hba 0
     obtain ⟨cz,hcz⟩:∃ cz,cz=(ch l 0).toNat:=⟨_,rfl⟩
     have hcc0:(za9 s 0).toNat=cz:=by rw [hb0,hcz]
     have hw1:IntKind.i64.wrap (↑i+1)=(i:Int)+1:=IntWalk.i64_in _ (by omega)
     have hp0:0<l.length:=by omega
     have hp0':(0:Int)<l.length:=by omega
     have hfin:rdE l=9→∀ e:Ending,e = .returned (.tuple #[.slice none 0 0,.int .i64 9])→zdR w l e w':=fun hrb e he=>readErr hrb (by decide) he hE
     refine zzr fun K hK=>?_
     simp [go_sem,g0,g5,←hsz,hlt,hlt']
     apply hK;clear hK K
     refine zaf (by simp [go_sem,hlt,hlt'];rfl) rfl ?_
     refine za7 ?_
     apply hK2;clear hK2 K2
     refine zab (fun K2 hK2=>?_)
     refine zac ?_
     refine zab (fun K3 hK3=>?_)
     by_cases hd:isD (ch l i)=true
     ·obtain ⟨d1,d2⟩:=hdgn.1 hd
      have d1':¬(cn:Int)<48:=by omega
      have d2':¬(57:Int)<cn:=by omega
      have d1'':¬cn<48:=by omega
      have d2'':¬57<cn:=by omega
      have go:(i=1→ch l 0≠48)→∀ g:G,g 0 = .string s→g 5 = .int .i64 i→g 4 = .slice a (lim N).length c→K3 g w':=by
       clear g0 g5 g4
       clear g
       intro hz1 g g0 g5 g4
       apply hK3;clear hK3 K3
       obtain ⟨dg,hdg⟩:∃ dg,dg=cn-48:=⟨_,rfl⟩
       rw [←hdg] at hdvt'
       have f1:IntKind.u8.wrap ((cn:Int)-48)=(dg:Int):=by rw [w8_in _ (by omega)];omega
       have f2:IntKind.u64.wrap (dg:Int)=dg:=zbd _ (by omega)
       have hD:Below w'.heap.size w' w'.drew:=Below.drew1 _
       have hr':=hr.ext hD
       have h10:(lim 10).length≤zcH:=Nat.le_trans (zbx 4 10 (by decide)) (by decide)
       have hdl:(lim dg).length≤4:=zbx 4 _ (by omega)
       refine zbE [(0,0),(3,0),(4,0),(5,0),(6,0),(7,0),(1,1),(2,1),(8,1),(9,1),(10,0)] (by kernel_rfl) (by kernel_rfl) (fun K hK=>?_)
       simp [go_sem,g0,g4,g5,←hsz,hlt,hlt',hcc,f1,f2]
       refine zzc rfl Tryz.call119 (fun R hR=>?_)
       simp [go_sem,g0,g4,g5,←hsz,hlt,hlt',hcc,f1,f2]
       refine (ofR_any 10 _ (by decide)).mono ?_
       rintro e w2 ⟨a2,c2,rfl,hr2,hE2⟩
       refine ⟨_,rfl,hE2,hR _ _ ?_⟩
       clear hR R
       replace hr':=hr'.ext hE2
       have hE':=hD.next hE2
       have hmu:=mulR_any (lim N) (lim 10) a a2 c c2 _ hr' hr2 (by unfold zcH;omega) h10
       rw [zao,zao] at hmu
       simp [go_sem,g0,g4,g5,←hsz,hlt,hlt',hcc,f1,f2]
       refine zzc rfl Tryz.call127 (fun R hR=>?_)
       simp [go_sem,g0,g4,g5,←hsz,hlt,hlt',hcc,f1,f2]
       refine (hmu).mono ?_
       rintro e w3 ⟨a3,c3,rfl,hr3,hE3⟩
       refine ⟨_,rfl,hE3,hR _ _ ?_⟩
       clear hR R
       replace hE':=hE'.next hE3
       have hml:(lim (N*10)).length≤1001+4:=lim_mul_len (by omega) (zbx 4 10 (by decide))
       simp [go_sem,g0,g4,g5,←hsz,hlt,hlt',hcc,f1,f2]
       refine zzc rfl Tryz.call119 (fun R hR=>?_)
       simp [go_sem,g0,g4,g5,←hsz,hlt,hlt',hcc,f1,f2]
       refine (ofR_any dg _ (by omega)).mono ?_
       rintro e w4 ⟨a4,c4,rfl,hr4,hE4⟩
       refine ⟨_,rfl,hE4,hR _ _ ?_⟩
       clear hR R
       replace hr3:=hr3.ext hE4
       replace hE':=hE'.next hE4
       have had:=addR_any (lim (N*10)) (lim dg) a3 a4 c3 c4 _ hr3 hr4 (by unfold zcH;omega) (by unfold zcH;omega)
       rw [zao,zao,←hdvt'] at had
       simp [go_sem,g0,g4,g5,←hsz,hlt,hlt',hcc,f1,f2]
       refine zzc rfl Tryz.call133 (fun R hR=>?_)
       simp [go_sem,g0,g4,g5,←hsz,hlt,hlt',hcc,f1,f2]
       refine (had).mono ?_
       rintro e w5 ⟨a5,c5,rfl,hr5,hE5⟩
       refine ⟨_,rfl,hE5,hR _ _ ?_⟩
       clear hR R
       replace hE':=hE'.next hE5
       have hdig2:∀ k,k<i+1→isD (ch l k)=true:=by
        intro k hk
        by_cases h:k<i
        ·exact hdig k h
        ·have:k=i:=by omega
         subst this;exact hd
       simp [go_sem]
       apply hK;clear hK K
       apply hK2;clear hK2 K2
       refine zzt fun K hK=>?_
       simp [go_sem,g5,hw1]
       exact hK _ _ ⟨l.length-(i+1),by omega,hE.next hE',i+1,a5,c5,by omega,rfl,by simp [go_sem,g0],by simp [go_sem],by simp [go_sem],hr5,hdig2,fun h2=>by
        by_cases h:i=1
        ·exact hz1 h
        ·exact hz (by omega)⟩
      by_cases hi1:i=1
      ·subst hi1
       have hl1:(1:Int)<l.length:=by omega
       have go1:((1:Nat):Int)=1:=rfl
       rw [go1] at g5
       by_cases hz0:cz=48
       ·have h3:ch l 0=48:=by apply UInt8.toNat_inj.1;rw [←hcz,hz0];rfl
        have hrb:rdE l=9:=hE9 (by
         unfold rdBad
         simp [hlt];left;exact h3)
        subst hz0
        refine zzr fun K hK=>?_
        simp [go_sem,g0,g5,←hsz,hlt,hl1,hcc,hcc0,d1',d2',d1'',d2'',hp0,hp0']
        apply hK;clear hK K
        refine zaf (by simp [go_sem,d1',d2',d1'',d2''];rfl) rfl ?_
        refine zzr fun K hK=>?_
        simp [go_sem]
        apply hK;clear hK K
        refine zad ?_
        repeat first|refine za3 ?_|refine za2 ?_
        refine ⟨trivial,hfin hrb _ ?_⟩
        simp [go_sem,zar,zam]
       ·have hz0':¬(cz:Int)=48:=by omega
        have h3:ch l 0≠48:=fun e=>hz0 (by rw [hcz,e];rfl)
        refine zzr fun K hK=>?_
        simp [go_sem,g0,g5,←hsz,hlt,hl1,hcc,hcc0,d1',d2',d1'',d2'',hz0,hz0',hp0,hp0']
        apply hK;clear hK K
        refine zaf (by simp [go_sem,d1',d2',d1'',d2'',hz0,hz0'];rfl) rfl ?_
        refine za7 ?_
        exact go (fun _=>h3) _ (by simp [go_sem,g0]) (by simp [go_sem,g5]) (by simp [go_sem,g4])
      ·have hi1':¬(i:Int)=1:=by omega
       refine zzr fun K hK=>?_
       simp [go_sem,g0,g5,←hsz,hlt,hlt',hcc,d1',d2',d1'',d2'',hi1,hi1']
       apply hK;clear hK K
       refine zaf (by simp [go_sem,d1',d2',d1'',d2'',hi1,hi1'];rfl) rfl ?_
       refine za7 ?_
       exact go (fun h=>absurd h hi1) _ (by simp [go_sem,g0]) (by simp [go_sem,g5]) (by simp [go_sem,g4])
     ·have hd0:isD (ch l i)=false:=by simpa using hd
      have hrb:=hE9 (hbad' hd0)
      by_cases d1:cn<48
      ·have d1':(cn:Int)<48:=by omega
       refine zzr fun K hK=>?_
       simp [go_sem,g0,g5,←hsz,hlt,hlt',hcc,d1,d1']
       apply hK;clear hK K
       refine zaf (by simp [go_sem,d1,d1'];rfl) rfl ?_
       refine zzr fun K hK=>?_
       simp [go_sem]
       apply hK;clear hK K
       refine zad ?_
       repeat first|refine za3 ?_|refine za2 ?_
       refine ⟨trivial,hfin hrb _ ?_⟩
       simp [go_sem,zar,zam]
      ·have d2:57<cn:=by
        rcases Nat.lt_or_ge 57 cn with h|h
        ·exact h
        ·exact absurd (hdgn.2 ⟨by omega,h⟩) hd
       have d1':¬(cn:Int)<48:=by omega
       have d2':(57:Int)<cn:=by omega
       refine zzr fun K hK=>?_
       simp [go_sem,g0,g5,←hsz,hlt,hlt',hcc,d1,d1',d2,d2']
       apply hK;clear hK K
       refine zaf (by simp [go_sem,d1,d1',d2,d2'];rfl) rfl ?_
       refine zzr fun K hK=>?_
       simp [go_sem]
       apply hK;clear hK K
       refine zad ?_
       repeat first|refine za3 ?_|refine za2 ?_
       refine ⟨trivial,hfin hrb _ ?_⟩
       simp [go_sem,zar,zam]
    ·have hlt':¬(i:Int)<l.length:=by omega
     have him:i=l.length:=by omega
     have hE0:rdE l=0:=by
      unfold rdE
      rw [if_neg h0,if_neg h1,if_neg]
      rw [bad_none (fun h=>hz (by omega) h.2) (by rw [←him];exact hdig)];decide
     have hL:rdL l=lim N:=by unfold rdL;rw [if_pos hE0,hN,him,List.take_length]
     refine zzr fun K hK=>?_
     simp [go_sem,g0,g5,←hsz,hlt,hlt']
     apply hK;clear hK K
     refine zaf (by simp [go_sem,hlt,hlt'];rfl) rfl ?_
     refine zav ?_
     repeat (first|refine zae ?_|refine za6 rfl ?_|refine za8 ?_)
     apply hK1;clear hK1 K1 hK2 K2
     refine zzr fun K hK=>?_
     simp [go_sem,g4]
     apply hK;clear hK K
     refine zad ?_
     repeat first|refine za3 ?_|refine za2 ?_
     refine ⟨trivial,a,c,?_,by rw [hL];exact hr,hE⟩
     rw [hL,hE0]
     simp [go_sem,zar,zam,g4]
def iv (neg:Bool) (x:Nat):Int:=if neg then -(x:Int) else x
def iR (z:Int) (a:Option Addr) (c:Nat):Value:=.agg #[.bool (decide (z<0)),.slice a (lim z.natAbs).length c]
def RetI (w:World) (z:Int) (e:Ending) (w':World):Prop:=∃ a c,e = .returned (iR z a c)∧RD w' a c (lim z.natAbs)∧Below w.heap.size w w'
theorem zcf (neg:Bool) (x:Nat):(iv neg x).natAbs=x:=by unfold iv;cases neg<;>simp
theorem iv_neg (neg:Bool) (x:Nat):decide (iv neg x<0)=(neg && decide (0<(lim x).length)):=by
 unfold iv
 cases neg with
 | false=>simp
 | true =>
  by_cases h:x=0
  ·subst h;simp [zap]
  ·have:=lim_ne h
   simp [this];omega
theorem iv_self (z:Int):iv (decide (z<0)) z.natAbs=z:=by
 unfold iv
 by_cases h:z<0
 ·simp [h];omega
 ·simp [h];omega
theorem RD.keep {w w':World} {a:Option Addr} {c:Nat} {l:List Nat} (h:RD w a c l) (hb:Below w.heap.size w w'):RD w' a c l:=h.ext hb
theorem RD.nbox {w:World} {a a':Option Addr} {c n c' b:Nat} {l:List Nat} {neg:Bool} {t:TypeId} (h:RD w a c l) (hB:Bx w b #[.bool neg,.slice a' n c'] t):∀ ad,a=some ad→l≠[]→ad.block≠b:=by
 intro ad ha hl e
 rcases h.sl with e0|⟨b',off,e1,hc⟩
 ·exact hl (List.map_eq_nil_iff.1 e0)
 ·rw [ha] at e1
  injection e1 with e1
  subst e1
  subst e
  obtain ⟨x,r,rfl⟩:∃ x r,l=x::r:=by
   cases l with
   | nil=>exact absurd rfl hl
   | cons x r=>exact ⟨x,r,rfl⟩
  have h1:=hc 0 (.int .u16 x) rfl
  rw [hB.cell] at h1
  rcases off with _|_|off
  ·cases h1
  ·cases h1
  ·cases h1
theorem ibx {w:World} {b n c:Nat} {t:TypeId} {a:Option Addr} {neg:Bool} (h:Bx w b #[.bool neg,.slice a n c] t):w.cell? ⟨b,0,none⟩=some (.bool neg)∧w.cell? ⟨b,1,none⟩=some (.slice a n c):=⟨h.cell 0,h.cell 1⟩
theorem iv_n (x:Nat):decide (iv false x<0)=false:=by rw [iv_neg];rfl
theorem iv_z:decide (iv true 0<0)=false:=by rw [iv_neg,zap];rfl
theorem iv_p (x:Nat) (h:x≠0):decide (iv true x<0)=true:=by
 rw [iv_neg];have:=lim_ne h;simp [this]
theorem made_any (neg:Bool) (x:Nat) (a:Option Addr) (c:Nat) (w:World) (hr:RD w a c (lim x)) :
  Calls Tryz.prog 92 #[.bool neg,.slice a (lim x).length c] w (RetI w (iv neg x)):=by
 refine za5 (rs:=[.cell 4 25]) (n:=13) Tryz.func92 rfl rfl rfl (by kernel_rfl) ?_
 refine zzr fun K hK=>?_
 simp [go_sem]
 refine zza rfl zbC (fun w4 b4 hE4 hle4 hB4=>?_)
 replace hr:=hr.ext hE4
 have hE:=hE4
 simp [go_sem]
 apply hK;clear hK K
 cases neg with
 | false =>
  have e0:=iv_n x
  refine zzr fun K hK=>?_
  simp [go_sem,zap]
  refine zal #[.bool false,.slice a (lim x).length c] (by simp [go_sem,zap]) rfl zce [(0,.bool false),(1,.slice a (lim x).length c)] (by simp [go_sem,zap]) rfl ?_
  simp [go_sem,zap]
  refine zzs (b:=b4) (off:=0) [.bool false,.slice a (lim x).length c] rfl zaI hB4 (fun w5 hS5 hB5=>?_) (by simp [go_sem,Value.cells,zap])
  simp [zaw] at hB5
  replace hr:=hr.sto hS5 (hr.nbox hB4)
  obtain ⟨k0,k1⟩:=ibx hB5
  simp [go_sem]
  apply hK;clear hK K
  refine zad ?_
  repeat first|refine za3 ?_|refine za2 ?_
  refine ⟨by simp [zaD,go_sem,za1,k0,k1,za0],a,c,?_,by rw [zcf];exact hr,hE.nextS hS5 hle4⟩
  simp [go_sem,zar,zam,za4,k0,k1,za0,iR,zcf,e0]
 | true =>
  by_cases h:x=0
  ·have e0:decide (iv true x<0)=false:=by rw [h];exact iv_z
   have hx1:¬0<(lim x).length:=by rw [h,zap];simp
   have hx1':¬(0:Int)<(lim x).length:=by omega
   refine zzr fun K hK=>?_
   simp [go_sem,hx1,hx1']
   refine zal #[.bool false,.slice a (lim x).length c] (by simp [go_sem,hx1,hx1']) rfl zce [(0,.bool false),(1,.slice a (lim x).length c)] (by simp [go_sem,hx1,hx1']) rfl ?_
   simp [go_sem,hx1,hx1']
   refine zzs (b:=b4) (off:=0) [.bool false,.slice a (lim x).length c] rfl zaI hB4 (fun w5 hS5 hB5=>?_) (by simp [go_sem,Value.cells,hx1,hx1'])
   simp [zaw] at hB5
   replace hr:=hr.sto hS5 (hr.nbox hB4)
   obtain ⟨k0,k1⟩:=ibx hB5
   simp [go_sem]
   apply hK;clear hK K
   refine zad ?_
   repeat first|refine za3 ?_|refine za2 ?_
   refine ⟨by simp [zaD,go_sem,za1,k0,k1,za0],a,c,?_,by rw [zcf];exact hr,hE.nextS hS5 hle4⟩
   simp [go_sem,zar,zam,za4,k0,k1,za0,iR,zcf,e0]
  ·have e0:=iv_p x h
   have hp:=lim_ne h
   have hp':(0:Int)<(lim x).length:=by omega
   refine zzr fun K hK=>?_
   simp [go_sem,hp,hp']
   refine zal #[.bool true,.slice a (lim x).length c] (by simp [go_sem,hp,hp']) rfl zce [(0,.bool true),(1,.slice a (lim x).length c)] (by simp [go_sem,hp,hp']) rfl ?_
   simp [go_sem,hp,hp']
   refine zzs (b:=b4) (off:=0) [.bool true,.slice a (lim x).length c] rfl zaI hB4 (fun w5 hS5 hB5=>?_) (by simp [go_sem,Value.cells,hp,hp'])
   simp [zaw] at hB5
   replace hr:=hr.sto hS5 (hr.nbox hB4)
   obtain ⟨k0,k1⟩:=ibx hB5
   simp [go_sem]
   apply hK;clear hK K
   refine zad ?_
   repeat first|refine za3 ?_|refine za2 ?_
   refine ⟨by simp [zaD,go_sem,za1,k0,k1,za0],a,c,?_,by rw [zcf];exact hr,hE.nextS hS5 hle4⟩
   simp [go_sem,zar,zam,za4,k0,k1,za0,iR,zcf,e0]
theorem iof_any (neg:Bool) (l:List Nat) (a:Option Addr) (c:Nat) (w:World) (hr:RD w a c l) (hl:l.length≤zbZ) :
  Calls Tryz.prog 110 #[.bool neg,.slice a l.length c] w (RetI w (iv neg (val l))):=by
 have hno:=fun {w} hr=>norm_any l a c w hr hl
 rw [←zaO l hr.ok] at hno
 refine za5 (rs:=[.cell 4 25]) (n:=15) Tryz.func110 rfl rfl rfl (by kernel_rfl) ?_
 refine zzr fun K hK=>?_
 simp [go_sem]
 refine zza rfl zbC (fun w4 b4 hE4 hle4 hB4=>?_)
 replace hr:=hr.ext hE4
 simp [go_sem]
 apply hK;clear hK K
 refine zzr fun K hK=>?_
 simp [go_sem]
 refine zzc rfl Tryz.call94 (fun R hR=>?_)
 simp [go_sem]
 refine (hno hr).mono ?_
 rintro e w6 ⟨a,c,rfl,hr,hE6⟩
 refine ⟨_,rfl,hR _ _ ?_⟩
 clear hR R
 generalize val l=x at *
 have hE:=hE4.next hE6
 replace hB4:=hB4.keep hE6
 simp [go_sem]
 apply hK;clear hK K
 cases neg with
 | false =>
  have e0:=iv_n x
  refine zzr fun K hK=>?_
  simp [go_sem,zap]
  refine zal #[.bool false,.slice a (lim x).length c] (by simp [go_sem,zap]) rfl zce [(0,.bool false),(1,.slice a (lim x).length c)] (by simp [go_sem,zap]) rfl ?_
  simp [go_sem,zap]
  refine zzs (b:=b4) (off:=0) [.bool false,.slice a (lim x).length c] rfl zaI hB4 (fun w5 hS5 hB5=>?_) (by simp [go_sem,Value.cells,zap])
  simp [zaw] at hB5
  replace hr:=hr.sto hS5 (hr.nbox hB4)
  obtain ⟨k0,k1⟩:=ibx hB5
  simp [go_sem]
  apply hK;clear hK K
  refine zad ?_
  repeat first|refine za3 ?_|refine za2 ?_
  refine ⟨by simp [zaD,go_sem,za1,k0,k1,za0],a,c,?_,by rw [zcf];exact hr,hE.nextS hS5 hle4⟩
  simp [go_sem,zar,zam,za4,k0,k1,za0,iR,zcf,e0]
 | true =>
  by_cases h:x=0
  ·have e0:decide (iv true x<0)=false:=by rw [h];exact iv_z
   have hx1:¬0<(lim x).length:=by rw [h,zap];simp
   have hx1':¬(0:Int)<(lim x).length:=by omega
   refine zzr fun K hK=>?_
   simp [go_sem,hx1,hx1']
   refine zal #[.bool false,.slice a (lim x).length c] (by simp [go_sem,hx1,hx1']) rfl zce [(0,.bool false),(1,.slice a (lim x).length c)] (by simp [go_sem,hx1,hx1']) rfl ?_
   simp [go_sem,hx1,hx1']
   refine zzs (b:=b4) (off:=0) [.bool false,.slice a (lim x).length c] rfl zaI hB4 (fun w5 hS5 hB5=>?_) (by simp [go_sem,Value.cells,hx1,hx1'])
   simp [zaw] at hB5
   replace hr:=hr.sto hS5 (hr.nbox hB4)
   obtain ⟨k0,k1⟩:=ibx hB5
   simp [go_sem]
   apply hK;clear hK K
   refine zad ?_
   repeat first|refine za3 ?_|refine za2 ?_
   refine ⟨by simp [zaD,go_sem,za1,k0,k1,za0],a,c,?_,by rw [zcf];exact hr,hE.nextS hS5 hle4⟩
   simp [go_sem,zar,zam,za4,k0,k1,za0,iR,zcf,e0]
  ·have e0:=iv_p x h
   have hp:=lim_ne h
   have hp':(0:Int)<(lim x).length:=by omega
   refine zzr fun K hK=>?_
   simp [go_sem,hp,hp']
   refine zal #[.bool true,.slice a (lim x).length c] (by simp [go_sem,hp,hp']) rfl zce [(0,.bool true),(1,.slice a (lim x).length c)] (by simp [go_sem,hp,hp']) rfl ?_
   simp [go_sem,hp,hp']
   refine zzs (b:=b4) (off:=0) [.bool true,.slice a (lim x).length c] rfl zaI hB4 (fun w5 hS5 hB5=>?_) (by simp [go_sem,Value.cells,hp,hp'])
   simp [zaw] at hB5
   replace hr:=hr.sto hS5 (hr.nbox hB4)
   obtain ⟨k0,k1⟩:=ibx hB5
   simp [go_sem]
   apply hK;clear hK K
   refine zad ?_
   repeat first|refine za3 ?_|refine za2 ?_
   refine ⟨by simp [zaD,go_sem,za1,k0,k1,za0],a,c,?_,by rw [zcf];exact hr,hE.nextS hS5 hle4⟩
   simp [go_sem,zar,zam,za4,k0,k1,za0,iR,zcf,e0]
theorem iofR_any (neg:Bool) (l:List Nat) (a:Option Addr) (c:Nat) (w:World) (hr:RD w a c l) (hl:l.length≤zbZ) :
  Calls Tryz.prog 125 #[.bool neg,.slice a l.length c] w (RetI w (iv neg (val l))):=by
 have hno:=fun {w} hr=>zc7 l a c w hr hl
 rw [←zaO l hr.ok] at hno
 refine za5 (rs:=[.cell 4 25]) (n:=15) Tryz.func125 rfl rfl rfl (by kernel_rfl) ?_
 refine zzr fun K hK=>?_
 simp [go_sem]
 refine zza rfl zbC (fun w4 b4 hE4 hle4 hB4=>?_)
 replace hr:=hr.ext hE4
 simp [go_sem]
 apply hK;clear hK K
 refine zzr fun K hK=>?_
 simp [go_sem]
 refine zzc rfl Tryz.call121 (fun R hR=>?_)
 simp [go_sem]
 refine (hno hr).mono ?_
 rintro e w6 ⟨a,c,rfl,hr,hE6⟩
 refine ⟨_,rfl,hR _ _ ?_⟩
 clear hR R
 generalize val l=x at *
 have hE:=hE4.next hE6
 replace hB4:=hB4.keep hE6
 simp [go_sem]
 apply hK;clear hK K
 cases neg with
 | false =>
  have e0:=iv_n x
  refine zzr fun K hK=>?_
  simp [go_sem,zap]
  refine zal #[.bool false,.slice a (lim x).length c] (by simp [go_sem,zap]) rfl zce [(0,.bool false),(1,.slice a (lim x).length c)] (by simp [go_sem,zap]) rfl ?_
  simp [go_sem,zap]
  refine zzs (b:=b4) (off:=0) [.bool false,.slice a (lim x).length c] rfl zaI hB4 (fun w5 hS5 hB5=>?_) (by simp [go_sem,Value.cells,zap])
  simp [zaw] at hB5
  replace hr:=hr.sto hS5 (hr.nbox hB4)
  obtain ⟨k0,k1⟩:=ibx hB5
  simp [go_sem]
  apply hK;clear hK K
  refine zad ?_
  repeat first|refine za3 ?_|refine za2 ?_
  refine ⟨by simp [zaD,go_sem,za1,k0,k1,za0],a,c,?_,by rw [zcf];exact hr,hE.nextS hS5 hle4⟩
  simp [go_sem,zar,zam,za4,k0,k1,za0,iR,zcf,e0]
 | true =>
  by_cases h:x=0
  ·have e0:decide (iv true x<0)=false:=by rw [h];exact iv_z
   have hx1:¬0<(lim x).length:=by rw [h,zap];simp
   have hx1':¬(0:Int)<(lim x).length:=by omega
   refine zzr fun K hK=>?_
   simp [go_sem,hx1,hx1']
   refine zal #[.bool false,.slice a (lim x).length c] (by simp [go_sem,hx1,hx1']) rfl zce [(0,.bool false),(1,.slice a (lim x).length c)] (by simp [go_sem,hx1,hx1']) rfl ?_
   simp [go_sem,hx1,hx1']
   refine zzs (b:=b4) (off:=0) [.bool false,.slice a (lim x).length c] rfl zaI hB4 (fun w5 hS5 hB5=>?_) (by simp [go_sem,Value.cells,hx1,hx1'])
   simp [zaw] at hB5
   replace hr:=hr.sto hS5 (hr.nbox hB4)
   obtain ⟨k0,k1⟩:=ibx hB5
   simp [go_sem]
   apply hK;clear hK K
   refine zad ?_
   repeat first|refine za3 ?_|refine za2 ?_
   refine ⟨by simp [zaD,go_sem,za1,k0,k1,za0],a,c,?_,by rw [zcf];exact hr,hE.nextS hS5 hle4⟩
   simp [go_sem,zar,zam,za4,k0,k1,za0,iR,zcf,e0]
  ·have e0:=iv_p x h
   have hp:=lim_ne h
   have hp':(0:Int)<(lim x).length:=by omega
   refine zzr fun K hK=>?_
   simp [go_sem,hp,hp']
   refine zal #[.bool true,.slice a (lim x).length c] (by simp [go_sem,hp,hp']) rfl zce [(0,.bool true),(1,.slice a (lim x).length c)] (by simp [go_sem,hp,hp']) rfl ?_
   simp [go_sem,hp,hp']
   refine zzs (b:=b4) (off:=0) [.bool true,.slice a (lim x).length c] rfl zaI hB4 (fun w5 hS5 hB5=>?_) (by simp [go_sem,Value.cells,hp,hp'])
   simp [zaw] at hB5
   replace hr:=hr.sto hS5 (hr.nbox hB4)
   obtain ⟨k0,k1⟩:=ibx hB5
   simp [go_sem]
   apply hK;clear hK K
   refine zad ?_
   repeat first|refine za3 ?_|refine za2 ?_
   refine ⟨by simp [zaD,go_sem,za1,k0,k1,za0],a,c,?_,by rw [zcf];exact hr,hE.nextS hS5 hle4⟩
   simp [go_sem,zar,zam,za4,k0,k1,za0,iR,zcf,e0]
theorem iNorm_any (neg:Bool) (l:List Nat) (a:Option Addr) (c:Nat) (w:World) (hr:RD w a c l) (hl:l.length≤zbZ) :
  Calls Tryz.prog 95 #[.agg #[.bool neg,.slice a l.length c]] w (RetI w (iv (neg) (val l))):=by
 refine za5 (rs:=[.cell 2 25]) (n:=8) Tryz.func95 rfl rfl rfl (by kernel_rfl) ?_
 refine zzr fun K hK=>?_
 simp [go_sem]
 refine zbF #[.bool neg,.slice a l.length c] (by simp [go_sem]) rfl (by simp [go_sem,Value.cells]) (fun w1 b1 hE1 hle1 hB1=>?_)
 replace hr:=hr.ext hE1
 simp [go_sem]
 refine zza rfl zbC (fun w2 b2 hE2 hle2 hB2=>?_)
 replace hr:=hr.ext hE2
 have hE:=hE1.next hE2
 have hle2':=Nat.le_trans hE1.size hle2
 replace hB1:=hB1.keep hE2
 obtain ⟨k0,k1⟩:=ibx hB1
 simp [go_sem]
 apply hK;clear hK K
 refine zzr fun K hK=>?_
 simp [go_sem,k0,k1,za0]
 refine zzc rfl Tryz.call110 (fun R hR=>?_)
 simp [go_sem,k0,k1,za0]
 refine (iof_any (neg) l a c _ hr hl).mono ?_
 rintro e w6 ⟨a6,c6,rfl,hr6,hE6⟩
 refine ⟨_,rfl,hR _ _ ?_⟩
 clear hR R
 replace hB2:=hB2.keep hE6
 replace hE:=hE.next hE6
 simp [go_sem]
 generalize iv (neg) (val l)=z at *
 refine zzs (b:=b2) (off:=0) [.bool (decide (z<0)),.slice a6 (lim z.natAbs).length c6] rfl zaI hB2 (fun w7 hS7 hB7=>?_) (by simp [go_sem,Value.cells,iR])
 simp [zaw] at hB7
 replace hr6:=hr6.sto hS7 (hr6.nbox hB2)
 obtain ⟨k0,k1⟩:=ibx hB7
 simp [go_sem]
 apply hK;clear hK K
 refine zad ?_
 repeat first|refine za3 ?_|refine za2 ?_
 refine ⟨by simp [zaD,go_sem,za1,k0,k1,za0],a6,c6,?_,hr6,hE.nextS hS7 hle2'⟩
 simp [go_sem,zar,zam,za4,k0,k1,za0,iR]
theorem iNormR_any (neg:Bool) (l:List Nat) (a:Option Addr) (c:Nat) (w:World) (hr:RD w a c l) (hl:l.length≤zbZ) :
  Calls Tryz.prog 124 #[.agg #[.bool neg,.slice a l.length c]] w (RetI w (iv (neg) (val l))):=by
 refine za5 (rs:=[.cell 2 25]) (n:=8) Tryz.func124 rfl rfl rfl (by kernel_rfl) ?_
 refine zzr fun K hK=>?_
 simp [go_sem]
 refine zbF #[.bool neg,.slice a l.length c] (by simp [go_sem]) rfl (by simp [go_sem,Value.cells]) (fun w1 b1 hE1 hle1 hB1=>?_)
 replace hr:=hr.ext hE1
 simp [go_sem]
 refine zza rfl zbC (fun w2 b2 hE2 hle2 hB2=>?_)
 replace hr:=hr.ext hE2
 have hE:=hE1.next hE2
 have hle2':=Nat.le_trans hE1.size hle2
 replace hB1:=hB1.keep hE2
 obtain ⟨k0,k1⟩:=ibx hB1
 simp [go_sem]
 apply hK;clear hK K
 refine zzr fun K hK=>?_
 simp [go_sem,k0,k1,za0]
 refine zzc rfl Tryz.call125 (fun R hR=>?_)
 simp [go_sem,k0,k1,za0]
 refine (iofR_any (neg) l a c _ hr hl).mono ?_
 rintro e w6 ⟨a6,c6,rfl,hr6,hE6⟩
 refine ⟨_,rfl,hR _ _ ?_⟩
 clear hR R
 replace hB2:=hB2.keep hE6
 replace hE:=hE.next hE6
 simp [go_sem]
 generalize iv (neg) (val l)=z at *
 refine zzs (b:=b2) (off:=0) [.bool (decide (z<0)),.slice a6 (lim z.natAbs).length c6] rfl zaI hB2 (fun w7 hS7 hB7=>?_) (by simp [go_sem,Value.cells,iR])
 simp [zaw] at hB7
 replace hr6:=hr6.sto hS7 (hr6.nbox hB2)
 obtain ⟨k0,k1⟩:=ibx hB7
 simp [go_sem]
 apply hK;clear hK K
 refine zad ?_
 repeat first|refine za3 ?_|refine za2 ?_
 refine ⟨by simp [zaD,go_sem,za1,k0,k1,za0],a6,c6,?_,hr6,hE.nextS hS7 hle2'⟩
 simp [go_sem,zar,zam,za4,k0,k1,za0,iR]
theorem iNegR_any (neg:Bool) (l:List Nat) (a:Option Addr) (c:Nat) (w:World) (hr:RD w a c l) (hl:l.length≤zbZ) :
  Calls Tryz.prog 101 #[.agg #[.bool neg,.slice a l.length c]] w (RetI w (iv (!neg) (val l))):=by
 refine za5 (rs:=[.cell 2 25]) (n:=9) Tryz.func101 rfl rfl rfl (by kernel_rfl) ?_
 refine zzr fun K hK=>?_
 simp [go_sem]
 refine zbF #[.bool neg,.slice a l.length c] (by simp [go_sem]) rfl (by simp [go_sem,Value.cells]) (fun w1 b1 hE1 hle1 hB1=>?_)
 replace hr:=hr.ext hE1
 simp [go_sem]
 refine zza rfl zbC (fun w2 b2 hE2 hle2 hB2=>?_)
 replace hr:=hr.ext hE2
 have hE:=hE1.next hE2
 have hle2':=Nat.le_trans hE1.size hle2
 replace hB1:=hB1.keep hE2
 obtain ⟨k0,k1⟩:=ibx hB1
 simp [go_sem]
 apply hK;clear hK K
 refine zzr fun K hK=>?_
 simp [go_sem,k0,k1,za0]
 refine zzc rfl Tryz.call125 (fun R hR=>?_)
 simp [go_sem,k0,k1,za0]
 refine (iofR_any (!neg) l a c _ hr hl).mono ?_
 rintro e w6 ⟨a6,c6,rfl,hr6,hE6⟩
 refine ⟨_,rfl,hR _ _ ?_⟩
 clear hR R
 replace hB2:=hB2.keep hE6
 replace hE:=hE.next hE6
 simp [go_sem]
 generalize iv (!neg) (val l)=z at *
 refine zzs (b:=b2) (off:=0) [.bool (decide (z<0)),.slice a6 (lim z.natAbs).length c6] rfl zaI hB2 (fun w7 hS7 hB7=>?_) (by simp [go_sem,Value.cells,iR])
 simp [zaw] at hB7
 replace hr6:=hr6.sto hS7 (hr6.nbox hB2)
 obtain ⟨k0,k1⟩:=ibx hB7
 simp [go_sem]
 apply hK;clear hK K
 refine zad ?_
 repeat first|refine za3 ?_|refine za2 ?_
 refine ⟨by simp [zaD,go_sem,za1,k0,k1,za0],a6,c6,?_,hr6,hE.nextS hS7 hle2'⟩
 simp [go_sem,zar,zam,za4,k0,k1,za0,iR]
def sg (z:Int):Int:=if z=0 then 0 else if z<0 then -1 else 1
theorem blen0 (x:Nat):ze9 x=0↔x=0:=by
 constructor
 ·intro h
  rcases Nat.eq_zero_or_pos x with h0|h0
  ·exact h0
  ·rw [zer x (by omega)] at h;omega
 ·rintro rfl;exact blen_0
theorem sg_0 (neg:Bool) (x:Nat) (h:x=0):sg (iv neg x)=0:=by subst h;cases neg<;>rfl
theorem sg_t (x:Nat) (h:x≠0):sg (iv true x) = -1:=by unfold sg iv;simp;omega
theorem sg_f (x:Nat) (h:x≠0):sg (iv false x)=1:=by unfold sg iv;simp;omega
theorem iSign_any (neg:Bool) (l:List Nat) (a:Option Addr) (c:Nat) (w:World) (hr:RD w a c l) (hl:l.length≤zbZ) :
  Calls Tryz.prog 77 #[.agg #[.bool neg,.slice a l.length c]] w fun e w'=>e = .returned (.int .i64 (sg (iv neg (val l))))∧Below w.heap.size w w':=by
 obtain ⟨Z,hZ⟩:∃ Z,Z=sg (iv neg (val l)):=⟨_,rfl⟩
 rw [←hZ]
 refine za5 (rs:=[.tmp 2]) (n:=11) Tryz.func77 rfl rfl rfl (by kernel_rfl) ?_
 refine zzr fun K hK=>?_
 simp [go_sem]
 refine zbF #[.bool neg,.slice a l.length c] (by simp [go_sem]) rfl (by simp [go_sem,Value.cells]) (fun w1 b1 hE1 hle1 hB1=>?_)
 replace hr:=hr.ext hE1
 obtain ⟨k0,k1⟩:=ibx hB1
 simp [go_sem]
 apply hK;clear hK K
 refine zab (fun K1 hK1=>?_)
 refine zac ?_
 refine zzr fun K hK=>?_
 simp [go_sem,k0,k1,za0]
 refine zzc rfl Tryz.call91 (fun R hR=>?_)
 simp [go_sem,k0,k1,za0]
 refine (bits_any l a c _ hr hl).mono ?_
 rintro e w2 ⟨rfl,rfl⟩
 refine ⟨_,rfl,hR _ _ ?_⟩
 clear hR R
 by_cases h0:val l=0
 ·have hb:ze9 (val l)=0:=(blen0 _).2 h0
  rw [hb]
  have hz:=hZ.trans (sg_0 neg _ h0)
  subst hz
  simp [go_sem]
  apply hK;clear hK K
  refine zaf (by simp [go_sem];rfl) rfl ?_
  refine zzr fun K hK=>?_
  simp [go_sem]
  apply hK;clear hK K
  refine zad ?_
  repeat first|refine za3 ?_|refine za2 ?_
  refine ⟨trivial,?_,hE1⟩
  simp [go_sem,zar,zam]
 ·have hb:¬ze9 (val l)=0:=fun h=>h0 ((blen0 _).1 h)
  have hb':¬(ze9 (val l):Int)=0:=by omega
  simp [go_sem,hb,hb']
  apply hK;clear hK K
  refine zaf (by simp [go_sem,hb,hb'];rfl) rfl ?_
  cases neg with
  | true =>
   have hz:=hZ.trans (sg_t _ h0)
   subst hz
   refine zzr fun K hK=>?_
   simp [go_sem,k0,k1,za0]
   apply hK;clear hK K
   refine zaf (by simp [go_sem];rfl) rfl ?_
   refine zzr fun K hK=>?_
   simp [go_sem]
   apply hK;clear hK K
   refine zad ?_
   repeat first|refine za3 ?_|refine za2 ?_
   refine ⟨trivial,?_,hE1⟩
   simp [go_sem,zar,zam]
  | false =>
   have hz:=hZ.trans (sg_f _ h0)
   subst hz
   refine zzr fun K hK=>?_
   simp [go_sem,k0,k1,za0]
   apply hK;clear hK K
   refine zaf (by simp [go_sem];rfl) rfl ?_
   refine za7 ?_
   apply hK1;clear hK1 K1
   refine zzr fun K hK=>?_
   simp [go_sem]
   apply hK;clear hK K
   refine zad ?_
   repeat first|refine za3 ?_|refine za2 ?_
   refine ⟨trivial,?_,hE1⟩
   simp [go_sem,zar,zam]
end Go.Proofs.YtefhenfofomjhaaGreat
