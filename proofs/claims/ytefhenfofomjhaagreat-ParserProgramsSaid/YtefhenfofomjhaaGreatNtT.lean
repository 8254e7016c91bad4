/- Natural numbers: DivMod of any numbers: the walk. -/
import Derived.Test.YtefhenfofomjhaaGreatAp1
import Derived.Test.YtefhenfofomjhaaGreatNt9
import Derived.Test.YtefhenfofomjhaaGreatVE
set_option linter.unusedSimpArgs false
set_option linter.unusedVariables false
set_option maxHeartbeats 16000000
set_option maxRecDepth 20000
namespace Go.Proofs.YtefhenfofomjhaaGreat
open Go.RowKit Go.V
theorem lat_drop (l:List Nat) (k i:Nat):lat (l.drop k) i=lat l (i+k):=by
 simp [lat,List.getD_eq_getElem?_getD,List.getElem?_drop,Nat.add_comm]
theorem pow_dvd16 (s:Nat) (h:s<16):∃ t,65536=2 ^ s*t:=by
 refine ⟨2 ^ (16-s),?_⟩
 rw [←Nat.pow_add]
 have:s+(16-s)=16:=by omega
 rw [this]
theorem right_limb (D:List Nat) (i s:Nat) (hok:Ok D) (hs:s<16):(val D / 2 ^ s) / 65536 ^ i % 65536=((lat D i+65536*lat D (i+1)) / 2 ^ s) % 65536:=by
 rw [Nat.div_div_eq_div_mul,Nat.mul_comm,←Nat.div_div_eq_div_mul,←zcl i D hok,zcm D i,zcm D (i+1)]
 obtain ⟨t,ht⟩:=pow_dvd16 s hs
 have e:lat D i+65536*(lat D (i+1)+65536*val (D.drop (i+1+1)))=(lat D i+65536*lat D (i+1))+2 ^ s*(65536*(t*val (D.drop (i+1+1)))):=by
  have:65536*(65536*val (D.drop (i+1+1)))=2 ^ s*(65536*(t*val (D.drop (i+1+1)))):=by
   conv=>lhs;rw [ht]
   rw [Nat.mul_left_comm (2 ^ s) 65536,←Nat.mul_assoc (2 ^ s) t,←ht]
  omega
 rw [e,Nat.add_mul_div_left _ _ (Nat.pow_pos (by decide)),Nat.add_mul_mod_self_left]
theorem right_step (ws:List Nat) (V i q:Nat) (hw:ws.length=i) (h:val ws=V % 65536 ^ i) (hq:V / 65536 ^ i % 65536=q):val (ws++[q])=V % 65536 ^ (i+1):=by
 rw [ze7,hw,h,Nat.mod_pow_succ,hq];simp [val]
theorem or_lim (x y:Nat) (hx:x<65536) (hy:y<65536):x ||| (y*65536)=x+65536*y:=by
 have:=or_add x y 16 (by omega)
 simp at this
 rw [this];omega
theorem right_any (l:List Nat) (a:Option Addr) (c n:Nat) (w:World) (hr:RD w a c l) (hl:l.length≤zbZ) (hn:n≤1048576) :
  Calls Tryz.prog 129 #[.slice a l.length c,.int .i64 n] w (RetN w (lim (val l / 2 ^ n))):=by
 have hl':l.length≤1000000000000:=hl
 have hbr:=fun b (hb:w.heap.size≤b)=>hr.below hb
 have e1:(n:Int).tdiv 16=((n / 16:Nat):Int):=rfl
 have e1':IntKind.i64.wrap ((n / 16:Nat):Int)=((n / 16:Nat):Int):=IntWalk.i64_in _ (by omega)
 have e2:(n:Int).tmod 16=((n % 16:Nat):Int):=rfl
 have hks:n=16*(n / 16)+n % 16:=by omega
 have hs16:n % 16<16:=by omega
 have hk:n / 16≤65536:=by omega
 generalize n / 16=k at *
 generalize n % 16=s at *
 have hV:val l / 2 ^ n=val (l.drop k) / 2 ^ s:=by
  rw [zcl k l hr.ok,Nat.div_div_eq_div_mul,pow_16,←Nat.pow_add,←hks]
 rw [hV]
 refine za5 (rs:=[.tmp 4]) (n:=63) Tryz.func129 rfl rfl rfl (by kernel_rfl) ?_
 refine zzr fun K hK=>?_
 simp [go_sem]
 apply hK;clear hK K
 refine zzr fun K hK=>?_
 simp [go_sem,e1,e1',e2]
 apply hK;clear hK K
 refine zab (fun K1 hK1=>?_)
 refine zzr fun K hK=>?_
 simp [go_sem]
 apply hK;clear hK K
 by_cases hkl:l.length≤k
 ·have hkl':(l.length:Int)≤k:=by omega
  have hz:lim (val (l.drop k) / 2 ^ s)=[]:=by
   rw [List.drop_eq_nil_of_le hkl];simp [val,zap]
  refine zaf (by simp [go_sem,hkl,hkl'];rfl) rfl ?_
  refine zzr fun K hK=>?_
  simp [go_sem]
  apply hK;clear hK K
  refine zad ?_
  repeat first|refine za3 ?_|refine za2 ?_
  rw [hz]
  refine ⟨trivial,none,0,?_,RD.nil _ _ _,Below.refl _ _⟩
  simp [go_sem,zar,zam]
 ·have hkl':¬(l.length:Int)≤k:=by omega
  refine zaf (by simp [go_sem,hkl,hkl'];rfl) rfl ?_
  refine za7 ?_
  apply hK1;clear hK1 K1
  obtain ⟨N,hN⟩:∃ N,N=l.length-k:=⟨_,rfl⟩
  have hDl:(l.drop k).length=N:=by rw [List.length_drop,hN]
  have hDok:=hr.ok.drop k
  have hlast:val (l.drop k)<65536 ^ N:=by rw [←hDl];exact zck _ hDok
  have hlat:∀ i,lat (l.drop k) i=lat l (i+k):=lat_drop l k
  have eN:IntKind.i64.wrap (↑l.length - ↑k)=(N:Int):=by rw [IntWalk.i64_in _ (by omega)];omega
  refine zzr fun K hK=>?_
  simp [go_sem,eN]
  refine hv_make (kl:=.i64) (kc:=.i64) N N (by simp [go_sem,eN]) rfl zaT zaK (by simp [go_sem,eN]) (by simp [go_sem,eN]) (by omega) (by omega) (by omega) (fun w2 b2 hE2 hle2 hB2=>?_)
  rw [Nat.mul_one,zbH,lm_zeros] at hB2
  replace hr:=hr.ext hE2
  have hne1:=hbr b2 hle2
  clear hbr
  simp [go_sem]
  apply hK;clear hK K
  refine zab (fun K1 hK1=>?_)
  refine zzr fun K hK=>?_
  simp [go_sem]
  apply hK;clear hK K
  refine zac ?_
  refine zaz (fun t g w'=>Below w.heap.size w w'∧RD w' a c l∧∃ (i:Nat) (ws:List Nat),i≤N∧t=N-i∧g 0 = .slice a l.length c∧g 5 = .int .i64 k∧g 6 = .int .i64 s∧g 7 = .slice (some ⟨b2,0,none⟩) N N∧g 24 = .int .i64 N∧g 25 = .int .i64 i ∧
   Bx w' b2 (lmC (ws++List.replicate (N-i) 0)).toArray 123∧ws.length=i∧Ok ws∧val ws=(val (l.drop k) / 2 ^ s) % 65536 ^ i) N ?_ ?_
  ·exact ⟨hE2,hr,0,[],by omega,rfl,by simp [go_sem],by simp [go_sem],by simp [go_sem],by simp [go_sem],by simp [go_sem],by simp [go_sem],hB2,rfl,Ok.nil,by simp [val,Nat.mod_one]⟩
  ·clear hr hE2 hB2
   rintro t g w' ⟨hE,hr,i,ws,hi,rfl,g0,g5,g6,g7,g24,g25,hB,hwl,hwok,hval⟩
   refine zzr fun K hK=>?_
   simp [go_sem,g24,g25]
   apply hK;clear hK K
   refine zab (fun K2 hK2=>?_)
   by_cases hlt:i<N
   ·have hlt':(i:Int)<N:=by omega
    obtain ⟨j,hj⟩:∃ j,j=i+k:=⟨_,rfl⟩
    have hjl:j<l.length:=by omega
    have hjl':(j:Int)<l.length:=by omega
    obtain ⟨c1,c2⟩:=hr.at hjl
    have hx:=zb9 hr.ok j
    have hy:=zb9 hr.ok (j+1)
    have hlimb:=right_limb (l.drop k) i s hDok hs16
    rw [hlat,hlat,←hj,show i+1+k=j+1 by omega] at hlimb
    obtain ⟨S,hS⟩:∃ S,S=lat l j+65536*lat l (j+1):=⟨_,rfl⟩
    rw [←hS] at hlimb
    have hstep:=right_step ws _ i _ hwl hval hlimb
    have f0:IntKind.i64.wrap (↑i + ↑k)=(j:Int):=by rw [IntWalk.i64_in _ (by omega)];omega
    have f1:IntKind.i64.wrap ((j:Int)+1)=((j+1:Nat):Int):=by rw [IntWalk.i64_in _ (by omega)];omega
    have f2:IntKind.u32.wrap (lat l j:Int)=lat l j:=zbJ _ (by omega)
    have f6:shrI .u32 (S:Int) (s:Int)=((S / 2 ^ s:Nat):Int):=shr_nat .u32 S s (by show s≤32;omega)
    have f7:IntKind.u16.wrap ((S / 2 ^ s:Nat):Int)=((S / 2 ^ s % 65536:Nat):Int):=w16 _
    have f8:(0:Int)≤s:=by omega
    have hw1:IntKind.i64.wrap (↑i+1)=(i:Int)+1:=IntWalk.i64_in _ (by omega)
    have hQ':S / 2 ^ s % 65536<65536:=Nat.mod_lt _ (by decide)
    generalize hR:S / 2 ^ s=R at *
    generalize hQ:R % 65536=Q at *
    obtain ⟨j1,hj1⟩:∃ j1,j1=j+1:=⟨_,rfl⟩
    rw [←hj1] at f1 hS hy
    refine zaf (by simp [go_sem,hlt,hlt'];rfl) rfl ?_
    refine za7 ?_
    apply hK2;clear hK2 K2
    refine zab (fun K2 hK2=>?_)
    refine zac ?_
    refine zzr fun K hK=>?_
    simp [go_sem,g25]
    apply hK;clear hK K
    refine zzr fun K hK=>?_
    simp [go_sem,g0,g5,f0,hjl,hjl',c1,c2,f2]
    apply hK;clear hK K
    refine zab (fun K3 hK3=>?_)
    refine zzr fun K hK=>?_
    simp [go_sem,g0,g5,f0,f1]
    apply hK;clear hK K
    have next:∀ g':G,g' 0 = .slice a l.length c→g' 5 = .int .i64 k→g' 6 = .int .i64 s→g' 7 = .slice (some ⟨b2,0,none⟩) N N→g' 8 = .int .i64 i→g' 9 = .int .u32 S→g' 24 = .int .i64 N→g' 25 = .int .i64 i→K3 g' w':=by
     clear g0 g5 g6 g7 g24 g25
     intro g' g0 g5 g6 g7 g8 g9 g24 g25
     apply hK3;clear hK3 K3
     refine zzt fun K hK=>?_
     simp [go_sem,g6,g7,g8,g9,f6,f7,f8,hlt,hlt',za0]
     refine zbG (b:=b2) (off:=i) [.int .u16 Q] (by simp [go_sem]) rfl (by simp [go_sem]) (by simp [go_sem,Value.cells]) zbc hB (by simp [zb3]<;>omega) (by simp [Value.oneCell']) (by decide) (fun w4 hS4 hB4=>?_)
     rw [putC_lm] at hB4
     have hrep:N-i=(N-(i+1))+1:=by omega
     rw [hrep,set_next ws i _ Q hwl] at hB4
     replace hr:=hr.sto hS4 hne1
     replace hE:=hE.nextS hS4 hle2
     simp [go_sem]
     apply hK;clear hK K
     apply hK2;clear hK2 K2
     refine zzt fun K hK=>?_
     simp [go_sem,g25,hw1]
     refine hK _ _ ⟨N-(i+1),by omega,hE,hr,i+1,ws++[Q],by omega,rfl,by simp [go_sem,g0],by simp [go_sem,g5],by simp [go_sem,g6],by simp [go_sem,g7],by simp [go_sem,g24],by simp [go_sem],hB4,by simp [hwl],hwok.app (Ok.cons hQ' Ok.nil),hstep⟩
    by_cases hb:j1<l.length
    ·have hb':(j1:Int)<l.length:=by omega
     obtain ⟨c3,c4⟩:=hr.at hb
     have f3:IntKind.u32.wrap (lat l j1:Int)=lat l j1:=zbJ _ (by omega)
     have f4:shlI .u32 (lat l j1:Int) 16=((lat l j1*65536:Nat):Int):=by
      have:=shl_nat .u32 (lat l j1) 16 (by decide)
      rw [show ((16:Nat):Int)=16 from rfl] at this
      rw [this];exact zbJ _ (by omega)
     have f5:orI .u32 (lat l j:Int) ((lat l j1*65536:Nat):Int)=(S:Int):=by
      rw [or_u32 _ _ (by omega) (by omega),or_lim _ _ hx hy,hS]
     generalize lat l j1*65536=Y at *
     refine zaf (by simp [go_sem,hb,hb'];rfl) rfl ?_
     refine zzt fun K hK=>?_
     simp [go_sem,g0,g5,f0,f1,hb,hb',c3,c4,f3,f4,f5]
     apply hK;clear hK K
     exact next _ (by simp [go_sem,g0]) (by simp [go_sem,g5]) (by simp [go_sem,g6]) (by simp [go_sem,g7]) (by simp [go_sem]) (by simp [go_sem]) (by simp [go_sem,g24]) (by simp [go_sem,g25])
    ·have hb':¬(j1:Int)<l.length:=by omega
     have hz:lat l j1=0:=ze8 (by omega)
     have hS':lat l j=S:=by omega
     refine zaf (by simp [go_sem,hb,hb'];rfl) rfl ?_
     refine za7 ?_
     exact next _ (by simp [go_sem,g0]) (by simp [go_sem,g5]) (by simp [go_sem,g6]) (by simp [go_sem,g7]) (by simp [go_sem]) (by simp [go_sem,hS']) (by simp [go_sem,g24]) (by simp [go_sem,g25])
   ·have him:i=N:=by omega
    subst him
    have hV2:val (l.drop k) / 2 ^ s<65536 ^ i:=Nat.lt_of_le_of_lt (Nat.div_le_self _ _) hlast
    rw [Nat.mod_eq_of_lt hV2] at hval
    have hrep:i-i=0:=by omega
    rw [hrep,List.replicate_zero,List.append_nil] at hB
    have hrw:=RD.of_lm hB hwok (c:=i) (by omega)
    have hres:lim (val (l.drop k) / 2 ^ s)=nrm ws:=by rw [←hval,zaO ws hwok]
    have hi2:i≤zbZ:=by unfold zbZ;omega
    rw [←hwl] at g7 hrw
    refine zaf (by simp [go_sem,hlt];rfl) rfl ?_
    refine zav ?_
    repeat (first|refine zae ?_|refine za6 rfl ?_|refine za8 ?_)
    apply hK1;clear hK1 K1 hK2 K2
    refine zzr fun K hK=>?_
    simp [go_sem,g7]
    refine zzc rfl Tryz.call108 (fun R hR=>?_)
    simp [go_sem,g7]
    refine (zb6 ws _ _ _ hrw (by omega)).mono ?_
    rintro e w4 ⟨rfl,rfl⟩
    refine ⟨_,rfl,hR _ _ ?_⟩
    clear hR R
    simp [go_sem]
    apply hK;clear hK K
    refine zad ?_
    repeat first|refine za3 ?_|refine za2 ?_
    rw [hres]
    refine ⟨trivial,some ⟨b2,0,none⟩,ws.length,?_,hrw.nrm,hE⟩
    simp [go_sem,zar,zam]
theorem lz16_any (n:Nat) (w:World) (hn:n<65536) :
  Calls Tryz.prog 115 #[.int .u16 n] w fun e w'=>e = .returned (.int .i64 ((16-ze9 n:Nat):Int))∧w=w':=by
 have hb:=blen_le 16 n (by omega)
 have hw:IntKind.i64.wrap (16-(ze9 n:Int))=16-(ze9 n:Int):=IntWalk.i64_in _ (by omega)
 refine za5 (rs:=[.tmp 2]) (n:=6) Tryz.func115 rfl rfl rfl (by kernel_rfl) ?_
 refine zzr fun K hK=>?_
 simp [go_sem]
 apply hK;clear hK K
 refine zzr fun K hK=>?_
 simp [go_sem]
 refine zzc rfl Tryz.call109 (fun R hR=>?_)
 simp [go_sem]
 refine (len16_any n _ hn).mono ?_
 rintro e w1 ⟨rfl,rfl⟩
 refine ⟨_,rfl,hR _ _ ?_⟩
 clear hR R
 simp [go_sem,hw]
 apply hK;clear hK K
 refine zad ?_
 repeat first|refine za3 ?_|refine za2 ?_
 refine ⟨trivial,?_,rfl⟩
 simp [go_sem,zar,zam]
 omega
def RetO (w:World) (x:Nat) (e:Ending) (w':World):Prop:=∃ v,e = .returned v∧w'.ownsRow w.heap.size 123 1 v (lim x).length (lmC (lim x))∧Below w.heap.size w w'
theorem or_u16 (a b:Nat) (ha:a<65536) (hb:b<65536):orI .u16 a b=((a ||| b:Nat):Int):=by
 unfold orI
 have e:IntKind.u16.bits=16:=rfl
 have e1:(BitVec.ofInt IntKind.u16.bits (a:Int) ||| BitVec.ofInt IntKind.u16.bits (b:Int)).toNat=a ||| b:=by
  rw [e,BitVec.toNat_or,BitVec.ofInt_natCast,BitVec.ofInt_natCast,BitVec.toNat_ofNat,BitVec.toNat_ofNat,Nat.mod_eq_of_lt (by omega),Nat.mod_eq_of_lt (by omega)]
 rw [e1]
 have:a ||| b<2 ^ 16:=Nat.or_lt_two_pow (by omega) (by omega)
 exact zeq _ ⟨by omega,by omega⟩
theorem shl_parts (x h s:Nat) (hx:x<65536) (hs:s<16) (hh:h<2 ^ s):h ||| (x*2 ^ s % 65536)=h+x*2 ^ s % 65536∧h+x*2 ^ s % 65536<65536∧x*2 ^ s / 65536<2 ^ s∧x*2 ^ s<4294967296:=by
 obtain ⟨t,ht⟩:=pow_dvd16 s hs
 have hp:0<2 ^ s:=Nat.pow_pos (by decide)
 have e1:x*2 ^ s % 65536=(x % t)*2 ^ s:=by
  conv=>lhs;rw [ht,Nat.mul_comm x,Nat.mul_mod_mul_left]
  rw [Nat.mul_comm]
 have ht0:0<t:=by
  rcases t with _|t
  ·simp at ht
  ·omega
 have hm:=Nat.mod_lt x ht0
 have e2:(x % t+1)*2 ^ s≤t*2 ^ s:=Nat.mul_le_mul_right _ hm
 rw [Nat.add_mul,Nat.mul_comm t,←ht] at e2
 have e3:x*2 ^ s<65536*2 ^ s:=Nat.mul_lt_mul_of_pos_right hx hp
 have e4:2 ^ s≤2 ^ 15:=Nat.pow_le_pow_right (by decide) (by omega)
 refine ⟨?_,?_,?_,?_⟩
 ·rw [e1];exact or_add h (x % t) s hh
 ·rw [e1];omega
 ·rw [Nat.div_lt_iff_lt_mul (by decide),Nat.mul_comm (2 ^ s)];exact e3
 ·omega
theorem shl_step (O:List Nat) (j lo hi h w:Nat) (hj:j+1<O.length) (h0:lat O j=h) (h1:lat O (j+1)=0) (hw:lo=w % 65536) (hh:hi=w / 65536) :
  val ((O.set j (h+lo)).set (j+1) hi)=val O+65536 ^ j*w:=by
 have e1:=val_set O j (h+lo) (by omega)
 have e2:=val_set (O.set j (h+lo)) (j+1) hi (by rw [List.length_set];omega)
 rw [zdm _ _ _ _ (by omega),h1,Nat.mul_zero,Nat.add_zero] at e2
 rw [h0] at e1
 rw [e2,Nat.pow_succ]
 generalize 65536 ^ j=P at *
 have e3:P*(w % 65536)+P*65536*(w / 65536)=P*w:=by rw [Nat.mul_assoc,←Nat.mul_add,Nat.mod_add_div]
 rw [Nat.mul_add] at e1
 rw [hw,hh] at *
 omega
theorem own_trim {w:World} {b base c:Nat} {O r:List Nat} (h:Bx w b (lmC (O++r)).toArray 123) (hb:base≤b) (hc:c=O.length+r.length) (hm:c≤maxLen) :
  w.ownsRow base 123 1 (.slice (some ⟨b,0,none⟩) (nrm O).length c) (nrm O).length (lmC (nrm O)):=by
 have hl:=zb8 O
 refine ⟨by rw [zb3,Nat.mul_one],.inr ⟨b,_,_,rfl,hb,h.heap,by omega,hm,by simp [zb3,hc],?_⟩⟩
 rw [Nat.mul_one]
 show (lmC (O++r)).take _=_
 rw [←lmC_take]
 congr 1
 rw [List.take_append_of_le_length hl,←nrm_pre]
theorem shl_any (l:List Nat) (a:Option Addr) (c n:Nat) (w:World) (hr:RD w a c l) (hl:l.length≤zcH) (hn:n≤1048576) :
  Calls Tryz.prog 116 #[.slice a l.length c,.int .i64 n] w (RetO w (val l*2 ^ n)):=by
 have hl':l.length≤100000000000:=hl
 have hn1:=zb8 l
 have i1:¬(n:Int) < -1048576:=by omega
 have i2:¬(1048576:Int)<n:=by omega
 have i3:¬(n:Int)<0:=by omega
 have e1:(n:Int).tdiv 16=((n / 16:Nat):Int):=rfl
 have e1':IntKind.i64.wrap ((n / 16:Nat):Int)=((n / 16:Nat):Int):=IntWalk.i64_in _ (by omega)
 have e2:(n:Int).tmod 16=((n % 16:Nat):Int):=rfl
 have hks:n=16*(n / 16)+n % 16:=by omega
 have hs16:n % 16<16:=by omega
 have hk:n / 16≤65536:=by omega
 generalize n / 16=k at *
 generalize n % 16=s at *
 refine za5 (rs:=[.tmp 4]) (n:=78) Tryz.func116 rfl rfl rfl (by kernel_rfl) ?_
 refine zzr fun K hK=>?_
 simp [go_sem]
 apply hK;clear hK K
 refine zzr fun K hK=>?_
 simp [go_sem]
 refine zzc rfl Tryz.call108 (fun R hR=>?_)
 simp [go_sem]
 refine (zb6 l a c _ hr (by unfold zbZ;omega)).mono ?_
 rintro e w1 ⟨rfl,rfl⟩
 refine ⟨_,rfl,hR _ _ ?_⟩
 clear hR R
 simp [go_sem]
 apply hK;clear hK K
 have hvl:=zc4 l
 replace hr:=hr.nrm
 rw [←hvl]
 generalize nrm l=L at *
 clear hvl
 have hbr:=fun b (hb:w.heap.size≤b)=>hr.below hb
 refine zab (fun K1 hK1=>?_)
 by_cases h0:L.length=0
 ·have e0:L=[]:=List.length_eq_zero_iff.1 h0
  subst e0
  refine zzr fun K hK=>?_
  simp [go_sem,i1,i2]
  apply hK;clear hK K
  refine zaf (by simp [go_sem,i1,i2];rfl) rfl ?_
  refine zzr fun K hK=>?_
  simp [go_sem]
  apply hK;clear hK K
  refine zad ?_
  repeat first|refine za3 ?_|refine za2 ?_
  have hz:lim (val []*2 ^ n)=[]:=by simp [val,zap]
  refine ⟨trivial,.slice none 0 0,?_,?_,Below.refl _ _⟩
  ·simp [go_sem,zar,zam]
  ·rw [hz];exact World.ownsRow_nil _ _ _ _
 ·have h0':¬(L.length:Int)=0:=by omega
  have h0'':¬L=[]:=by intro e;subst e;exact h0 rfl
  refine zzr fun K hK=>?_
  simp [go_sem,i1,i2,h0,h0',h0'']
  apply hK;clear hK K
  refine zaf (by simp [go_sem,i1,i2,h0,h0',h0''];rfl) rfl ?_
  refine za7 ?_
  apply hK1;clear hK1 K1
  refine zab (fun K1 hK1=>?_)
  refine zzr fun K hK=>?_
  simp [go_sem,i3]
  apply hK;clear hK K
  refine zaf (by simp [go_sem,i3];rfl) rfl ?_
  refine za7 ?_
  apply hK1;clear hK1 K1
  refine zzr fun K hK=>?_
  simp [go_sem,e1,e1',e2]
  apply hK;clear hK K
  obtain ⟨N,hN⟩:∃ N,N=L.length+k+1:=⟨_,rfl⟩
  have f1:IntKind.i64.wrap (↑L.length + ↑k)=(L.length:Int)+k:=IntWalk.i64_in _ (by omega)
  have f2:IntKind.i64.wrap ((L.length:Int)+k+1)=(N:Int):=by rw [IntWalk.i64_in _ (by omega)];omega
  have f3:IntKind.i64.wrap ((L.length:Int)+k+3)=((N+2:Nat):Int):=by rw [IntWalk.i64_in _ (by omega)];omega
  obtain ⟨M,hM⟩:∃ M,M=N+2:=⟨_,rfl⟩
  rw [←hM] at f3
  refine zzr fun K hK=>?_
  simp [go_sem,f1,f2,f3]
  refine hv_make (kl:=.i64) (kc:=.i64) N M (by simp [go_sem,f1,f2,f3]) rfl zaT zaK (by simp [go_sem,f1,f2,f3]) (by simp [go_sem,f1,f2,f3]) (by omega) (by omega) (by omega) (fun w2 b2 hE2 hle2 hB2=>?_)
  rw [Nat.mul_one,zbH,lm_zeros,hM,←List.replicate_append_replicate] at hB2
  replace hr:=hr.ext hE2
  have hne1:=hbr b2 hle2
  clear hbr
  simp [go_sem]
  apply hK;clear hK K
  refine zab (fun K1 hK1=>?_)
  refine zzr fun K hK=>?_
  simp [go_sem]
  apply hK;clear hK K
  refine zac ?_
  refine zaz (fun t g w'=>Below w.heap.size w w'∧RD w' a c L∧∃ (i:Nat) (O:List Nat),i≤L.length∧t=L.length-i∧g 5 = .int .i64 k∧g 6 = .int .i64 s∧g 7 = .slice (some ⟨b2,0,none⟩) N M∧g 45 = .slice a L.length c∧g 46 = .int .i64 L.length∧g 47 = .int .i64 i ∧
   Bx w' b2 (lmC (O++List.replicate 2 0)).toArray 123∧O.length=N∧Ok O∧(∀ j,i+k<j→lat O j=0)∧lat O (i+k)<2 ^ s∧val O=val (L.take i)*2 ^ n) L.length ?_ ?_
  ·have hz:∀ j,lat (List.replicate N 0) j=0:=by
    intro j
    unfold lat;rw [List.getD_eq_getElem?_getD,List.getElem?_replicate]
    split<;>rfl
   exact ⟨hE2,hr,0,List.replicate N 0,by omega,rfl,by simp [go_sem],by simp [go_sem],by simp [go_sem],by simp [go_sem],by simp [go_sem],by simp [go_sem],hB2,by simp,Ok.zeros N,fun j _=>hz j,by rw [hz];exact Nat.pow_pos (by decide),by simp [val_zeros,val]⟩
  ·clear hr hE2 hB2
   rintro t g w' ⟨hE,hr,i,O,hi,rfl,g5,g6,g7,g45,g46,g47,hB,hOl,hOok,hOz,hOh,hval⟩
   refine zzr fun K hK=>?_
   simp [go_sem,g46,g47]
   apply hK;clear hK K
   refine zab (fun K2 hK2=>?_)
   by_cases hlt:i<L.length
   ·have hlt':(i:Int)<L.length:=by omega
    obtain ⟨c1,c2⟩:=hr.at hlt
    have hx:=zb9 hr.ok i
    obtain ⟨j,hj⟩:∃ j,j=i+k:=⟨_,rfl⟩
    rw [←hj] at hOh
    have hjN:j<N:=by omega
    have hjN':(j:Int)<N:=by omega
    obtain ⟨s1,s2,s3,s4⟩:=shl_parts (lat L i) (lat O j) s hx hs16 hOh
    have hstep:=shl_step O j _ _ _ (lat L i*2 ^ s) (by omega) rfl (hOz (j+1) (by omega)) rfl rfl
    have hvt:=val_take L i hlt
    have p1:IntKind.i64.wrap (↑i + ↑k)=(j:Int):=by rw [IntWalk.i64_in _ (by omega)];omega
    have p2:IntKind.i64.wrap ((j:Int)+1)=((j+1:Nat):Int):=by rw [IntWalk.i64_in _ (by omega)];omega
    have p3:IntKind.u32.wrap (lat L i:Int)=lat L i:=zbJ _ (by omega)
    have p4:shlI .u32 (lat L i:Int) (s:Int)=((lat L i*2 ^ s:Nat):Int):=by
     rw [shl_nat .u32 _ _ (by show s≤32;omega)];exact zbJ _ (by omega)
    have hpow:65536 ^ j*(lat L i*2 ^ s)=65536 ^ i*lat L i*2 ^ n:=by
     rw [hj,Nat.pow_add,hks,Nat.pow_add,pow_16 k]
     generalize 65536 ^ i=P1
     generalize 2 ^ (16*k)=P2
     ac_rfl
    have p5:IntKind.u16.wrap ((lat L i*2 ^ s:Nat):Int)=((lat L i*2 ^ s % 65536:Nat):Int):=w16 _
    have p6:orI .u16 (lat O j:Int) ((lat L i*2 ^ s % 65536:Nat):Int)=((lat O j+lat L i*2 ^ s % 65536:Nat):Int):=by
     rw [or_u16 _ _ (by omega) (Nat.mod_lt _ (by decide)),s1]
    have p7:shrI .u32 ((lat L i*2 ^ s:Nat):Int) 16=((lat L i*2 ^ s / 65536:Nat):Int):=shr_nat .u32 _ 16 (by decide)
    have p8:IntKind.u16.wrap ((lat L i*2 ^ s / 65536:Nat):Int)=((lat L i*2 ^ s / 65536:Nat):Int):=by
     have h15:2 ^ s≤2 ^ 15:=Nat.pow_le_pow_right (by decide) (by omega)
     refine zeq _ ⟨by omega,?_⟩
     have:lat L i*2 ^ s / 65536<65536:=by omega
     omega
    have hw1:IntKind.i64.wrap (↑i+1)=(i:Int)+1:=IntWalk.i64_in _ (by omega)
    have hOk2:Ok (O.set j (lat O j+lat L i*2 ^ s % 65536)):=hOok.set j _ s2
    have h15:2 ^ s≤2 ^ 15:=Nat.pow_le_pow_right (by decide) (by omega)
    have hhi:lat L i*2 ^ s / 65536<65536:=by omega
    have p0:(0:Int)≤s:=by omega
    have d1:w'.cell? ⟨b2,j,none⟩=some (.int .u16 (lat O j)):=by
     have:=bx_at hB (j:=j) (by simp;omega)
     rw [this]
     have e:lat (O++List.replicate 2 0) j=lat O j:=by
      simp [lat,List.getD_eq_getElem?_getD,List.getElem?_append_left (show j<O.length by omega)]
     rw [e]
    rw [hpow] at hstep
    generalize hlo:lat O j+lat L i*2 ^ s % 65536=lo at *
    generalize lat L i*2 ^ s % 65536=q at *
    generalize hHI:lat L i*2 ^ s / 65536=hh at *
    generalize lat L i*2 ^ s=W at *
    obtain ⟨j1,hj1⟩:∃ j1,j1=j+1:=⟨_,rfl⟩
    rw [←hj1] at p2 hstep
    have hj1N:j1<N:=by omega
    have hj1N':(j1:Int)<N:=by omega
    refine zaf (by simp [go_sem,hlt,hlt'];rfl) rfl ?_
    refine za7 ?_
    apply hK2;clear hK2 K2
    refine zab (fun K2 hK2=>?_)
    refine zac ?_
    refine zzr fun K hK=>?_
    simp [go_sem,g45,g47,hlt,hlt',c1,c2]
    apply hK;clear hK K
    refine zzr fun K hK=>?_
    simp [go_sem,g6,p3,p4,p0]
    apply hK;clear hK K
    refine zzr fun K hK=>?_
    simp [go_sem,g5,g7,p1,hjN,hjN',za0,d1,p5,p6]
    refine zbG (b:=b2) (off:=j) [.int .u16 lo] (by simp [go_sem]) rfl (by simp [go_sem]) (by simp [go_sem,Value.cells]) zbc hB (by simp [zb3]<;>omega) (by simp [Value.oneCell']) (by decide) (fun w4 hS4 hB4=>?_)
    rw [putC_lm,List.set_append_left _ _ (by omega)] at hB4
    replace hr:=hr.sto hS4 hne1
    replace hE:=hE.nextS hS4 hle2
    clear hS4 hB
    simp [go_sem]
    apply hK;clear hK K
    refine zzt fun K hK=>?_
    simp [go_sem,g5,g7,p1,p2,p7,p8,hj1N,hj1N',za0]
    refine zbG (b:=b2) (off:=j1) [.int .u16 hh] (by simp [go_sem]) rfl (by simp [go_sem]) (by simp [go_sem,Value.cells]) zbc hB4 (by simp [zb3]<;>omega) (by simp [Value.oneCell']) (by decide) (fun w5 hS5 hB5=>?_)
    rw [putC_lm,List.set_append_left _ _ (by rw [List.length_set];omega)] at hB5
    replace hr:=hr.sto hS5 hne1
    replace hE:=hE.nextS hS5 hle2
    simp [go_sem]
    apply hK;clear hK K
    apply hK2;clear hK2 K2
    refine zzt fun K hK=>?_
    simp [go_sem,g47,hw1]
    refine hK _ _ ⟨L.length-(i+1),by omega,hE,hr,i+1,(O.set j lo).set j1 hh,by omega,rfl,by simp [go_sem,g5],by simp [go_sem,g6],by simp [go_sem,g7],by simp [go_sem,g45],by simp [go_sem,g46],by simp [go_sem],hB5,by simp [hOl],hOk2.set j1 hh hhi,?_,?_,?_⟩
    ·intro j' hj'
     rw [zdm _ _ _ _ (by omega),zdm _ _ _ _ (by omega)]
     exact hOz j' (by omega)
    ·have e:i+1+k=j1:=by omega
     rw [e]
     have:lat ((O.set j lo).set j1 hh) j1=hh:=by
      simp [lat,List.getD_eq_getElem?_getD,List.getElem?_set,show j1<O.length by omega]
     rw [this];exact s3
    ·rw [hstep,hval,hvt,Nat.add_mul]
   ·have him:i=L.length:=by omega
    subst him
    rw [List.take_length] at hval
    have hown:=own_trim (base:=w.heap.size) hB hle2 (c:=M) (by simp;omega) (by unfold maxLen;omega)
    have hres:lim (val L*2 ^ n)=nrm O:=by rw [←hval,zaO O hOok]
    have hrw:RD w' (some ⟨b2,0,none⟩) M O:=by
     rw [lmC_app] at hB
     exact RD.of_bx hB hOok (by omega)
    rw [←hOl] at g7
    refine zaf (by simp [go_sem,hlt];rfl) rfl ?_
    refine zav ?_
    repeat (first|refine zae ?_|refine za6 rfl ?_|refine za8 ?_)
    apply hK1;clear hK1 K1 hK2 K2
    refine zzr fun K hK=>?_
    simp [go_sem,g7]
    refine zzc rfl Tryz.call108 (fun R hR=>?_)
    simp [go_sem,g7]
    refine (zb6 O _ _ _ hrw (by unfold zbZ;omega)).mono ?_
    rintro e w4 ⟨rfl,rfl⟩
    refine ⟨_,rfl,hR _ _ ?_⟩
    clear hR R
    simp [go_sem]
    apply hK;clear hK K
    refine zad ?_
    repeat first|refine za3 ?_|refine za2 ?_
    refine ⟨trivial,.slice (some ⟨b2,0,none⟩) (nrm O).length M,?_,?_,hE⟩
    ·simp [go_sem,zar,zam]
    ·rw [hres];exact hown
theorem RD.wr {w w':World} {a:Option Addr} {c:Nat} {l:List Nat} {b:Nat} (h:RD w a c l) (hw:Wr w w' b) (hne:∀ ad,a=some ad→l≠[]→ad.block≠b):RD w' a c l :=
 ⟨h.sl.wr hw (fun ad ha hn=>hne ad ha (by intro e;subst e;exact hn rfl)),h.ok,h.cap⟩
theorem bx_atZ {w:World} {b:Nat} {t:TypeId} {l:List Nat} {Z:List Value} (h:Bx w b (lmC l++Z).toArray t) {j:Nat} (hj:j<l.length):w.cell? ⟨b,j,none⟩=some (.int .u16 (lat l j)):=by
 rw [h.cell,List.getElem?_toArray,List.getElem?_append_left (by rw [zb3];exact hj),lmC_get,List.getElem?_eq_getElem hj]
 simp [lat,List.getD_eq_getElem?_getD,List.getElem?_eq_getElem hj]
theorem putC_lmZ (l:List Nat) (Z:List Value) (i x:Nat) (hi:i<l.length):zaw (lmC l++Z).toArray i [.int .u16 x]=(lmC (l.set i x)++Z).toArray:=by
 simp only [zaw,List.setIfInBounds_toArray]
 rw [List.set_append_left _ _ (by rw [zb3];exact hi)]
 simp [lmC,List.map_set]
theorem set_win (pre us u post:List Nat) (i x:Nat) (hw:us.length=i) (hi:i<u.length):(pre++(us++u.drop i)++post).set (pre.length+i) x=pre++((us++[x])++u.drop (i+1))++post:=by
 rw [List.drop_eq_getElem_cons hi,List.append_assoc,List.append_assoc,List.set_append_right _ _ (by omega),List.set_append_right _ _ (by omega)]
 have e:pre.length+i-pre.length-us.length=0:=by omega
 rw [e]
 simp only [List.cons_append,List.set_cons_zero,List.append_assoc,List.nil_append]
theorem lat_win (pre us u post:List Nat) (i:Nat) (hw:us.length=i) (hi:i<u.length):lat (pre++(us++u.drop i)++post) (pre.length+i)=lat u i:=by
 unfold lat
 rw [List.getD_eq_getElem?_getD,List.getD_eq_getElem?_getD,List.append_assoc,List.append_assoc,List.getElem?_append_right (by omega),List.getElem?_append_right (by omega)]
 have e:pre.length+i-pre.length-us.length=0:=by omega
 rw [e,List.getElem?_append_left (by rw [List.length_drop];omega),List.getElem?_drop,Nat.add_zero]
theorem subm_step (us u V:List Nat) (i dg cy bo x bo':Nat) (hw:us.length=i) (h:val us+dg*val (V.take i)=val (u.take i)+65536 ^ i*(cy+bo)) (hs:x+(cy+dg*lat V i) % 65536+bo=lat u i+65536*bo') :
  val (us++[x])+dg*val (V.take (i+1))=val (u.take (i+1))+65536 ^ (i+1)*((cy+dg*lat V i) / 65536+bo'):=by
 rw [ze7,zba V i,zba u i,hw,Nat.pow_succ,Nat.mul_add,Nat.mul_add,Nat.mul_left_comm dg]
 simp only [val,Nat.mul_zero,Nat.add_zero]
 generalize 65536 ^ i=P at *
 have e1:P*x+P*((cy+dg*lat V i) % 65536)+P*bo=P*lat u i+P*(65536*bo'):=by rw [←Nat.mul_add,←Nat.mul_add,←Nat.mul_add,hs]
 have e2:P*((cy+dg*lat V i) % 65536)+P*65536*((cy+dg*lat V i) / 65536)=P*cy+P*(dg*lat V i):=by rw [Nat.mul_assoc,←Nat.mul_add,Nat.mod_add_div,Nat.mul_add]
 rw [Nat.mul_add] at h
 rw [Nat.mul_assoc P 65536 bo']
 omega
theorem subtract_any (Z:List Value) (pre u post V:List Nat) (b off cu:Nat) (a:Option Addr) (c dg:Nat) (w:World) (hB:Bx w b (lmC (pre++u++post)++Z).toArray 123) (hok:Ok u) (hs:RD w a c V) (hne:∀ ad,a=some ad→V≠[]→ad.block≠b)
  (ho:pre.length=off) (hlen:u.length=V.length+1) (hl:u.length≤zbZ) (hd:dg<65536) :
  Calls Tryz.prog 131 #[.slice (some ⟨b,off,none⟩) u.length cu,.slice a V.length c,.int .u32 dg] w fun e w'=>∃ us bo,e = .returned (.bool (decide (0<bo)))∧us.length=u.length∧Ok us∧bo≤1∧val us+dg*val V=val u+65536 ^ u.length*bo ∧
   Bx w' b (lmC (pre++us++post)++Z).toArray 123∧Wr w w' b:=by
 have hl':u.length≤1000000000000:=hl
 subst ho
 refine za5 (args:=[.slice (some ⟨b,pre.length,none⟩) u.length cu,.slice a V.length c,.int .u32 dg]) (rs:=[.tmp 6]) (n:=54) Tryz.func131 rfl rfl rfl (by kernel_rfl) ?_
 refine zzr fun K hK=>?_
 simp [go_sem]
 apply hK;clear hK K
 refine zzr fun K hK=>?_
 simp [go_sem]
 apply hK;clear hK K
 refine zzr fun K hK=>?_
 simp [go_sem]
 apply hK;clear hK K
 refine zab (fun K1 hK1=>?_)
 refine zzr fun K hK=>?_
 simp [go_sem]
 apply hK;clear hK K
 refine zac ?_
 refine zaz (fun t g w'=>Wr w w' b∧RD w' a c V∧∃ (i cy bo:Nat) (us:List Nat),i≤u.length∧t=u.length-i∧g 0 = .slice (some ⟨b,pre.length,none⟩) u.length cu∧g 1 = .slice a V.length c∧g 2 = .int .u32 dg∧g 7 = .int .u32 cy∧g 8 = .int .i32 bo∧g 12 = .int .i64 u.length∧g 13 = .int .i64 i ∧
  Bx w' b (lmC (pre++(us++u.drop i)++post)++Z).toArray 123∧us.length=i∧Ok us∧cy<65536∧bo≤1∧(i=V.length+1→cy=0)∧val us+dg*val (V.take i)=val (u.take i)+65536 ^ i*(cy+bo)) u.length ?_ ?_
 ·exact ⟨.refl _ _,hs,0,0,0,[],by omega,rfl,by simp [go_sem],by simp [go_sem],by simp [go_sem],by simp [go_sem],by simp [go_sem],by simp [go_sem],by simp [go_sem],by simpa using hB,rfl,Ok.nil,by decide,by decide,by omega,by simp [val]⟩
 ·clear hs hB
  rintro t g w' ⟨hW,hs,i,cy,bo,us,hi,rfl,g0,g1,g2,g7,g8,g12,g13,hB,hwl,husok,hcy,hbo,hend,hval⟩
  refine zzr fun K hK=>?_
  simp [go_sem,g12,g13]
  apply hK;clear hK K
  refine zab (fun K2 hK2=>?_)
  by_cases hlt:i<u.length
  ·have hlt':(i:Int)<u.length:=by omega
   have hux:=zb9 hok i
   have hvx:=zb9 hs.ok i
   have hread:w'.cell? ⟨b,pre.length+i,none⟩=some (.int .u16 (lat u i)):=by
    rw [bx_atZ hB (by simp;omega),lat_win _ _ _ _ _ hwl hlt]
   obtain ⟨DV,hDV⟩:∃ DV,DV=dg*lat V i:=⟨_,rfl⟩
   have hDVb:DV≤65535*65535:=by rw [hDV];exact Nat.mul_le_mul (by omega) (by omega)
   obtain ⟨S,hS⟩:∃ S,S=cy+DV:=⟨_,rfl⟩
   have hw1:IntKind.i64.wrap (↑i+1)=(i:Int)+1:=IntWalk.i64_in _ (by omega)
   have hstep:=fun x bo'=>subm_step us u V i dg cy bo x bo' hwl hval
   rw [←hDV,←hS] at hstep
   refine zaf (by simp [go_sem,hlt,hlt'];rfl) rfl ?_
   refine za7 ?_
   apply hK2;clear hK2 K2
   refine zab (fun K2 hK2=>?_)
   refine zac ?_
   refine zzr fun K hK=>?_
   simp [go_sem,g13]
   apply hK;clear hK K
   refine zab (fun K3 hK3=>?_)
   have rest:∀ g:G,g 0 = .slice (some ⟨b,pre.length,none⟩) u.length cu→g 1 = .slice a V.length c→g 2 = .int .u32 dg→g 7 = .int .u32 S→g 8 = .int .i32 bo→g 9 = .int .i64 i→g 12 = .int .i64 u.length→g 13 = .int .i64 i→K3 g w':=by
    clear g0 g1 g2 g7 g8 g12 g13 g
    intro g g0 g1 g2 g7 g8 g9 g12 g13
    apply hK3;clear hK3 K3
    have e1:IntKind.i32.wrap (lat u i:Int)=lat u i:=i32_in _ (by omega)
    have e2:IntKind.u16.wrap (S:Int)=((S % 65536:Nat):Int):=w16 _
    have hlow:S % 65536<65536:=Nat.mod_lt _ (by decide)
    have e7:shrI .u32 (S:Int) 16=((S / 65536:Nat):Int):=shr_nat .u32 S 16 (by decide)
    have hC:S / 65536<65536:=by omega
    have hC0:i+1=V.length+1→S / 65536=0:=by
     intro e
     have z:lat V i=0:=ze8 (by omega)
     rw [z,Nat.mul_zero] at hDV
     omega
    obtain ⟨lo,hlo⟩:∃ lo,lo=S % 65536:=⟨_,rfl⟩
    obtain ⟨C,hCe⟩:∃ C,C=S / 65536:=⟨_,rfl⟩
    rw [←hlo] at e2 hlow
    rw [←hCe] at e7 hC hC0
    have e3:IntKind.i32.wrap (lo:Int)=lo:=i32_in _ (by omega)
    have e4:IntKind.i32.wrap ((lat u i:Int)-lo)=(lat u i:Int)-lo:=i32_in _ (by omega)
    have e5:IntKind.i32.wrap ((lat u i:Int)-lo-bo)=(lat u i:Int)-lo-bo:=i32_in _ (by omega)
    refine zzr fun K hK=>?_
    simp [go_sem,g0,g7,g8,g9,hlt,hlt',za0,hread,e1,e2,e3,e4,e5]
    apply hK;clear hK K
    refine zzr fun K hK=>?_
    simp [go_sem,g7,e7]
    apply hK;clear hK K
    refine zzr fun K hK=>?_
    simp [go_sem]
    apply hK;clear hK K
    refine zab (fun K3 hK3=>?_)
    refine zzr fun K hK=>?_
    simp [go_sem]
    apply hK;clear hK K
    have fin:∀ (g:G) (x bo':Nat),x<65536→bo'≤1→x+lo+bo=lat u i+65536*bo'→g 0 = .slice (some ⟨b,pre.length,none⟩) u.length cu→g 1 = .slice a V.length c→g 2 = .int .u32 dg→g 7 = .int .u32 C→g 8 = .int .i32 bo'→g 9 = .int .i64 i→g 10 = .int .i32 x→g 12 = .int .i64 u.length→g 13 = .int .i64 i→K3 g w':=by
     clear g0 g1 g2 g7 g8 g9 g12 g13 g
     intro g x bo' hx hbo' hsum g0 g1 g2 g7 g8 g9 g10 g12 g13
     apply hK3;clear hK3 K3
     have q1:IntKind.u16.wrap (x:Int)=x:=zeq _ (by omega)
     refine zzt fun K hK=>?_
     simp [go_sem,g0,g9,g10,hlt,hlt',za0,q1]
     refine zbG (b:=b) (off:=pre.length+i) [.int .u16 x] (by simp [go_sem]) rfl (by simp [go_sem]) (by simp [go_sem,Value.cells]) zbc hB (by simp [zb3]<;>omega) (by simp [Value.oneCell']) (by decide) (fun w3 hS3 hB3=>?_)
     rw [putC_lmZ _ _ _ _ (by simp;omega),set_win _ _ _ _ _ _ hwl hlt] at hB3
     replace hs:=hs.sto hS3 hne
     replace hW:=hW.sto hS3
     simp [go_sem]
     apply hK;clear hK K
     apply hK2;clear hK2 K2
     refine zzt fun K hK=>?_
     simp [go_sem,g13,hw1]
     refine hK _ _ ⟨u.length-(i+1),by omega,hW,hs,i+1,C,bo',us++[x],by omega,rfl,by simp [go_sem,g0],by simp [go_sem,g1],by simp [go_sem,g2],by simp [go_sem,g7],by simp [go_sem,g8],by simp [go_sem,g12],by simp [go_sem],hB3,by simp [hwl],husok.app (Ok.cons hx Ok.nil),hC,hbo',hC0,?_⟩
     have:=hstep x bo' (by rw [←hlo];exact hsum)
     rw [←hCe] at this
     exact this
    by_cases hneg:(lat u i:Int)-lo-bo<0
    ·have e6:IntKind.i32.wrap ((lat u i:Int)-lo-bo+65536)=((lat u i+65536-lo-bo:Nat):Int):=by rw [i32_in _ (by omega)];omega
     refine zaf (by simp [go_sem,hneg];rfl) rfl ?_
     refine zzr fun K hK=>?_
     simp [go_sem,e6]
     apply hK;clear hK K
     refine zzt fun K hK=>?_
     simp [go_sem]
     apply hK
     exact fin _ (lat u i+65536-lo-bo) 1 (by omega) (by omega) (by omega) (by simp [go_sem,g0]) (by simp [go_sem,g1]) (by simp [go_sem,g2]) (by simp [go_sem]) (by simp [go_sem]) (by simp [go_sem,g9]) (by simp [go_sem]) (by simp [go_sem,g12]) (by simp [go_sem,g13])
    ·refine zaf (by simp [go_sem,hneg];rfl) rfl ?_
     refine za7 ?_
     exact fin _ (lat u i-lo-bo) 0 (by omega) (by omega) (by omega) (by simp [go_sem,g0]) (by simp [go_sem,g1]) (by simp [go_sem,g2]) (by simp [go_sem]) (by simp [go_sem]) (by simp [go_sem,g9]) (by simp [go_sem];omega) (by simp [go_sem,g12]) (by simp [go_sem,g13])
   by_cases hv:i<V.length
   ·have hv':(i:Int)<V.length:=by omega
    obtain ⟨c1,c2⟩:=hs.at hv
    have f1:IntKind.u32.wrap (lat V i:Int)=lat V i:=zbJ _ (by omega)
    have f2:(dg:Int)*(lat V i:Int)=(DV:Int):=by rw [hDV];simp
    have f3:IntKind.u32.wrap (DV:Int)=DV:=zbJ _ (by omega)
    have f4:IntKind.u32.wrap ((cy:Int)+DV)=(S:Int):=by rw [zbJ _ (by omega)];omega
    refine zzr fun K hK=>?_
    simp [go_sem,g1,g13]
    apply hK;clear hK K
    refine zaf (by simp [go_sem,hv,hv'];rfl) rfl ?_
    refine zzt fun K hK=>?_
    simp [go_sem,g1,g2,g7,g13,hv,hv',c1,c2,f1,f2,f3,f4]
    apply hK
    exact rest _ (by simp [go_sem,g0]) (by simp [go_sem,g1]) (by simp [go_sem,g2]) (by simp [go_sem]) (by simp [go_sem,g8]) (by simp [go_sem]) (by simp [go_sem,g12]) (by simp [go_sem,g13])
   ·have hv':¬(i:Int)<V.length:=by omega
    have z:lat V i=0:=ze8 (by omega)
    have hSc:S=cy:=by rw [z,Nat.mul_zero] at hDV;omega
    refine zzr fun K hK=>?_
    simp [go_sem,g1,g13]
    apply hK;clear hK K
    refine zaf (by simp [go_sem,hv,hv'];rfl) rfl ?_
    refine za7 ?_
    exact rest _ (by simp [go_sem,g0]) (by simp [go_sem,g1]) (by simp [go_sem,g2]) (by simp [go_sem,g7,hSc]) (by simp [go_sem,g8]) (by simp [go_sem]) (by simp [go_sem,g12]) (by simp [go_sem,g13])
  ·have him:i=u.length:=by omega
   subst him
   have hc0:=hend hlen
   subst hc0
   rw [List.take_length,List.take_of_length_le (by omega),Nat.zero_add] at hval
   rw [List.drop_length,List.append_nil] at hB
   refine zaf (by simp [go_sem,hlt];rfl) rfl ?_
   refine zav ?_
   repeat (first|refine zae ?_|refine za6 rfl ?_|refine za8 ?_)
   apply hK1;clear hK1 K1 hK2 K2
   refine zzr fun K hK=>?_
   simp [go_sem,g8]
   apply hK;clear hK K
   refine zad ?_
   repeat first|refine za3 ?_|refine za2 ?_
   refine ⟨trivial,us,bo,?_,hwl,husok,hbo,hval,hB,hW⟩
   simp [go_sem,zar,zam]
theorem restore_any (Z:List Value) (pre u post V:List Nat) (b off cu:Nat) (a:Option Addr) (c:Nat) (w:World) (hB:Bx w b (lmC (pre++u++post)++Z).toArray 123) (hok:Ok u) (hs:RD w a c V) (hne:∀ ad,a=some ad→V≠[]→ad.block≠b)
  (ho:pre.length=off) (hlen:u.length=V.length+1) (hl:u.length≤zbZ) :
  Calls Tryz.prog 132 #[.slice (some ⟨b,off,none⟩) u.length cu,.slice a V.length c] w fun e w'=>∃ us cy,e = .returned (.tuple #[])∧us.length=u.length∧Ok us∧val us+65536 ^ u.length*cy=val u+val V ∧
   Bx w' b (lmC (pre++us++post)++Z).toArray 123∧Wr w w' b:=by
 have hl':u.length≤1000000000000:=hl
 subst ho
 refine za5 (args:=[.slice (some ⟨b,pre.length,none⟩) u.length cu,.slice a V.length c]) (rs:=[]) (n:=37) Tryz.func132 rfl rfl rfl (by kernel_rfl) ?_
 refine zzr fun K hK=>?_
 simp [go_sem]
 apply hK;clear hK K
 refine zzr fun K hK=>?_
 simp [go_sem]
 apply hK;clear hK K
 refine zac ?_
 refine zaz (fun t g w'=>Wr w w' b∧RD w' a c V∧∃ (i cy:Nat) (us:List Nat),i≤u.length∧t=u.length-i∧g 0 = .slice (some ⟨b,pre.length,none⟩) u.length cu∧g 1 = .slice a V.length c∧g 4 = .int .u32 cy∧g 7 = .int .i64 u.length∧g 8 = .int .i64 i ∧
  Bx w' b (lmC (pre++(us++u.drop i)++post)++Z).toArray 123∧us.length=i∧Ok us∧cy≤1∧val us+65536 ^ i*cy=val (u.take i)+val (V.take i)) u.length ?_ ?_
 ·exact ⟨.refl _ _,hs,0,0,[],by omega,rfl,by simp [go_sem],by simp [go_sem],by simp [go_sem],by simp [go_sem],by simp [go_sem],by simpa using hB,rfl,Ok.nil,by decide,by simp [val]⟩
 ·clear hs hB
  rintro t g w' ⟨hW,hs,i,cy,us,hi,rfl,g0,g1,g4,g7,g8,hB,hwl,husok,hcy,hval⟩
  refine zzr fun K hK=>?_
  simp [go_sem,g7,g8]
  apply hK;clear hK K
  refine zab (fun K2 hK2=>?_)
  by_cases hlt:i<u.length
  ·have hlt':(i:Int)<u.length:=by omega
   have hux:=zb9 hok i
   have hvx:=zb9 hs.ok i
   have hread:w'.cell? ⟨b,pre.length+i,none⟩=some (.int .u16 (lat u i)):=by
    rw [bx_atZ hB (by simp;omega),lat_win _ _ _ _ _ hwl hlt]
   obtain ⟨S,hS⟩:∃ S,S=cy+lat u i+lat V i:=⟨_,rfl⟩
   have hstep:=add_step us u V i cy S hwl hval hS
   have hw1:IntKind.i64.wrap (↑i+1)=(i:Int)+1:=IntWalk.i64_in _ (by omega)
   have f1:IntKind.u32.wrap (lat u i:Int)=lat u i:=zbJ _ (by omega)
   have f2:IntKind.u32.wrap ((cy:Int)+lat u i)=(cy:Int)+lat u i:=zbJ _ (by omega)
   refine zaf (by simp [go_sem,hlt,hlt'];rfl) rfl ?_
   refine za7 ?_
   apply hK2;clear hK2 K2
   refine zab (fun K2 hK2=>?_)
   refine zac ?_
   refine zzr fun K hK=>?_
   simp [go_sem,g8]
   apply hK;clear hK K
   refine zzr fun K hK=>?_
   simp [go_sem,g0,g4,hlt,hlt',za0,hread,f1,f2]
   apply hK;clear hK K
   refine zab (fun K3 hK3=>?_)
   have rest:∀ g:G,g 0 = .slice (some ⟨b,pre.length,none⟩) u.length cu→g 1 = .slice a V.length c→g 4 = .int .u32 S→g 5 = .int .i64 i→g 7 = .int .i64 u.length→g 8 = .int .i64 i→K3 g w':=by
    clear g0 g1 g4 g7 g8 g
    intro g g0 g1 g4 g5 g7 g8
    apply hK3;clear hK3 K3
    have e2:IntKind.u16.wrap (S:Int)=((S % 65536:Nat):Int):=w16 _
    have hlow:S % 65536<65536:=Nat.mod_lt _ (by decide)
    have e7:shrI .u32 (S:Int) 16=((S / 65536:Nat):Int):=shr_nat .u32 S 16 (by decide)
    have hC:S / 65536≤1:=by omega
    generalize S % 65536=lo at *
    generalize S / 65536=C at *
    refine zzr fun K hK=>?_
    simp [go_sem,g0,g4,g5,hlt,hlt',za0,e2]
    refine zbG (b:=b) (off:=pre.length+i) [.int .u16 lo] (by simp [go_sem]) rfl (by simp [go_sem]) (by simp [go_sem,Value.cells]) zbc hB (by simp [zb3]<;>omega) (by simp [Value.oneCell']) (by decide) (fun w3 hS3 hB3=>?_)
    rw [putC_lmZ _ _ _ _ (by simp;omega),set_win _ _ _ _ _ _ hwl hlt] at hB3
    replace hs:=hs.sto hS3 hne
    replace hW:=hW.sto hS3
    simp [go_sem]
    apply hK;clear hK K
    refine zzt fun K hK=>?_
    simp [go_sem,g4,e7]
    apply hK;clear hK K
    apply hK2;clear hK2 K2
    refine zzt fun K hK=>?_
    simp [go_sem,g8,hw1]
    exact hK _ _ ⟨u.length-(i+1),by omega,hW,hs,i+1,C,us++[lo],by omega,rfl,by simp [go_sem,g0],by simp [go_sem,g1],by simp [go_sem],by simp [go_sem,g7],by simp [go_sem],hB3,by simp [hwl],husok.app (Ok.cons hlow Ok.nil),hC,hstep⟩
   by_cases hv:i<V.length
   ·have hv':(i:Int)<V.length:=by omega
    obtain ⟨c1,c2⟩:=hs.at hv
    have f3:IntKind.u32.wrap (lat V i:Int)=lat V i:=zbJ _ (by omega)
    have f4:IntKind.u32.wrap ((cy:Int)+lat u i+lat V i)=(S:Int):=by rw [zbJ _ (by omega)];omega
    refine zzr fun K hK=>?_
    simp [go_sem,g1,g8]
    apply hK;clear hK K
    refine zaf (by simp [go_sem,hv,hv'];rfl) rfl ?_
    refine zzt fun K hK=>?_
    simp [go_sem,g1,g8,hv,hv',c1,c2,f3,f4]
    apply hK
    exact rest _ (by simp [go_sem,g0]) (by simp [go_sem,g1]) (by simp [go_sem]) (by simp [go_sem]) (by simp [go_sem,g7]) (by simp [go_sem,g8])
   ·have hv':¬(i:Int)<V.length:=by omega
    have z:lat V i=0:=ze8 (by omega)
    refine zzr fun K hK=>?_
    simp [go_sem,g1,g8]
    apply hK;clear hK K
    refine zaf (by simp [go_sem,hv,hv'];rfl) rfl ?_
    refine za7 ?_
    exact rest _ (by simp [go_sem,g0]) (by simp [go_sem,g1]) (by simp [go_sem];omega) (by simp [go_sem]) (by simp [go_sem,g7]) (by simp [go_sem,g8])
  ·have him:i=u.length:=by omega
   subst him
   rw [List.take_length,List.take_of_length_le (by omega)] at hval
   rw [List.drop_length,List.append_nil] at hB
   refine zaf (by simp [go_sem,hlt];rfl) rfl ?_
   refine zav ?_
   repeat (first|refine zae ?_|refine za6 rfl ?_|refine za8 ?_)
   refine ⟨trivial,us,cy,?_,hwl,husok,hval,hB,hW⟩
   simp [go_sem,zar,zam]
theorem est_first (U V P H v1 low d:Nat) (hU:U=low+P*H) (hlow:low<P) (hV:v1*P≤V) (hv:0<v1) (hd:d=H / v1):U<(d+1)*V:=by
 have h1:H<(d+1)*v1:=by
  rw [hd,Nat.mul_comm];exact Nat.lt_mul_div_succ H hv
 have h2:(d+1)*(v1*P)≤(d+1)*V:=Nat.mul_le_mul_left _ hV
 have h3:(H+1)*P≤(d+1)*v1*P:=Nat.mul_le_mul_right _ h1
 rw [Nat.mul_assoc] at h3
 rw [Nat.add_mul,Nat.one_mul,Nat.mul_comm H] at h3
 omega
theorem est_next (U V W H v1 v2 u2 low d r:Nat) (hU:U=low+W*(H*65536+u2)) (hlow:low<W) (hV:(v1*65536+v2)*W≤V) (hH:d*v1+r=H) (hb:U<65536*V) (hu:U<(d+1)*V)
  (h:65536≤d∨r*65536+u2<d*v2):0<d∧U<d*V:=by
 by_cases h1:65536≤d
 ·exact ⟨by omega,Nat.lt_of_lt_of_le hb (Nat.mul_le_mul_right _ h1)⟩
 ·rcases h with h|h
  ·exact absurd h h1
  ·have hd:0<d:=by
    rcases d with _|d
    ·omega
    ·omega
   refine ⟨hd,?_⟩
   have e1:d*(v1*65536+v2)=(d*v1)*65536+d*v2:=by rw [Nat.mul_add,Nat.mul_assoc]
   have e2:H*65536+u2+1≤d*(v1*65536+v2):=by rw [e1,←hH,Nat.add_mul];omega
   have e3:=Nat.mul_le_mul_right W e2
   have e4:=Nat.mul_le_mul_left d hV
   rw [Nat.mul_assoc] at e3
   rw [Nat.add_mul,Nat.one_mul,Nat.mul_comm (H*65536+u2)] at e3
   omega
theorem est_a (H u2 v1:Nat) (h:65536*(v1+1)≤H):65536*(v1+1)*65536≤H*65536+u2:=Nat.le_trans (Nat.mul_le_mul_right 65536 h) (Nat.le_add_right _ _)
theorem est_b (v1 v2:Nat) (h:v2<65536):v1*65536+v2+1≤(v1+1)*65536:=by omega
theorem est_last (U V W H v1 v2 u1 u2 low vl d r:Nat) (hU:U=low+W*(H*65536+u2)) (hlow:low<W) (hV:V=vl+W*(v1*65536+v2)) (hvl:vl<W) (hv:0<v1) (hv1:v1<65536) (hv2:v2<65536) (hu2:u2<65536) (hH:d*v1+r=H) (hb:U<65536*V)
  (h:65536≤r∨(d<65536∧d*v2≤r*65536+u2)):d<65536∧d*V≤U+V:=by
 have hW:0<W:=by omega
 have hd:d<65536:=by
  rcases h with h|h
  ·refine Nat.lt_of_not_le (fun hge=>?_)
   have a1:65536*v1≤d*v1:=Nat.mul_le_mul_right _ hge
   have a2:65536*(v1+1)≤H:=by omega
   have b3:=est_a H u2 v1 a2
   have a3:=Nat.mul_le_mul_left W b3
   have a4:V<W*(v1*65536+v2+1):=by
    have:=Nat.mul_add W (v1*65536+v2) 1
    omega
   have b5:=est_b v1 v2 hv2
   have a5:=Nat.mul_le_mul_left W b5
   have a6:W*(65536*(v1+1)*65536)=65536*(W*((v1+1)*65536)):=by
    generalize v1+1=X
    rw [Nat.mul_assoc 65536 X,Nat.mul_left_comm W 65536]
   omega
  ·exact h.1
 refine ⟨hd,?_⟩
 have h2:d*v2≤r*65536+u2:=by
  rcases h with h|h
  ·have:d*v2≤65535*65535:=Nat.mul_le_mul (by omega) (by omega)
   omega
  ·exact h.2
 have e1:d*(v1*65536+v2)=(d*v1)*65536+d*v2:=by rw [Nat.mul_add,Nat.mul_assoc]
 have e2:d*(v1*65536+v2)≤H*65536+u2:=by rw [e1,←hH,Nat.add_mul];omega
 have e3:=Nat.mul_le_mul_left W e2
 have e4:d*V=d*vl+W*(d*(v1*65536+v2)):=by rw [hV,Nat.mul_add,Nat.mul_left_comm]
 have e5:d*vl≤65536*W:=Nat.mul_le_mul (by omega) (by omega)
 have e6:W*(1*65536)≤W*(v1*65536+v2):=Nat.mul_le_mul_left _ (by omega)
 omega
theorem dig_right (U V us d:Nat) (h:us+d*V=U) (hu:U<(d+1)*V):us<V:=by
 rw [Nat.add_mul] at hu;omega
theorem dig_back (U V us us2 d cy T:Nat) (h:us+d*V=U+T) (hus:us<T) (hl:d*V≤U+V) (h2:us2+T*cy=us+V) (hus2:us2<T) (hVT:V<T):0<d∧us2+(d-1)*V=U∧us2<V:=by
 rcases d with _|d
 ·omega
 ·rw [Nat.add_sub_cancel,Nat.add_mul] at *
  refine ⟨by omega,?_⟩
  rcases cy with _|cy
  ·omega
  ·rcases cy with _|cy
   ·omega
   ·have e:T*(cy+1+1)=T*cy+T+T:=by rw [Nat.mul_add,Nat.mul_add];omega
    rw [e] at h2
    generalize T*cy=z at *
    omega
theorem long_step (pre us u post:List Nat) (out:List Nat) (j d n V L0:Nat) (hp:pre.length=j) (hlu:u.length=n+1) (hlus:us.length=n+1) (hz:val post=0) (hj:j<out.length) (hinv:val (pre++u++post)+65536 ^ (j+1)*(val (out.drop (j+1))*V)=L0) (hd:val us+d*V=val u) :
  val (pre++us++post)+65536 ^ j*(val ((out.set j d).drop j)*V)=L0∧val ((pre++us++post).drop j)=val us:=by
 have e1:(out.set j d).drop j=d::out.drop (j+1):=by
  rw [List.drop_set,if_neg (by omega),Nat.sub_self,List.drop_eq_getElem_cons hj,List.set_cons_zero]
 have e2:(pre++us++post).drop j=us++post:=by
  rw [List.append_assoc,←hp,List.drop_left]
 rw [e1,e2]
 simp only [ze7,List.length_append,hz,Nat.mul_zero,Nat.add_zero,val,hp] at hinv ⊢
 refine ⟨?_,trivial⟩
 rw [←hinv,←hd,Nat.pow_succ,Nat.add_mul,Nat.mul_add,Nat.mul_add,Nat.mul_assoc 65536,Nat.mul_assoc (65536 ^ j) 65536]
 generalize 65536 ^ j=P
 generalize val (out.drop (j+1))*V=X
 omega
theorem win_top (u:List Nat) (k:Nat) (h:u.length=k+3):val u=val (u.take k)+65536 ^ k*((lat u (k+2)*65536+lat u (k+1))*65536+lat u k):=by
 have e:u=u.take (k+3):=by rw [List.take_of_length_le (by omega)]
 conv=>lhs;rw [e]
 rw [zba u (k+2),zba u (k+1),zba u k,Nat.pow_succ 65536 (k+1),Nat.pow_succ 65536 k]
 generalize 65536 ^ k=P
 generalize lat u (k+2)=x
 generalize lat u (k+1)=y
 generalize lat u k=z
 have e1:(x*65536+y)*65536+z=z+65536*y+65536*65536*x:=by omega
 rw [e1,Nat.mul_add P,Nat.mul_add P,Nat.mul_assoc P,Nat.mul_assoc P,Nat.mul_assoc P (65536*65536) x,←Nat.add_assoc,←Nat.add_assoc]
theorem win_top2 (u:List Nat) (k:Nat) (h:u.length=k+3) (hok:Ok u):∃ low,val u=low+65536 ^ (k+1)*(lat u (k+2)*65536+lat u (k+1))∧low<65536 ^ (k+1):=by
 refine ⟨val (u.take (k+1)),?_,zea u hok _⟩
 have e:u=u.take (k+3):=by rw [List.take_of_length_le (by omega)]
 conv=>lhs;rw [e]
 rw [zba u (k+2),zba u (k+1),Nat.pow_succ 65536 (k+1)]
 generalize 65536 ^ (k+1)=P
 have e1:lat u (k+2)*65536=65536*lat u (k+2):=by omega
 rw [Nat.mul_add P,e1,Nat.mul_assoc P]
 omega
theorem div_top (v:List Nat) (k:Nat) (h:v.length=k+2):val v=val (v.take k)+65536 ^ k*(lat v (k+1)*65536+lat v k)∧lat v (k+1)*65536 ^ (k+1)≤val v∧(lat v (k+1)*65536+lat v k)*65536 ^ k≤val v:=by
 have e:v=v.take (k+2):=by rw [List.take_of_length_le (by omega)]
 have e1:val v=val (v.take k)+65536 ^ k*lat v k+65536 ^ (k+1)*lat v (k+1):=by
  conv=>lhs;rw [e]
  rw [zba v (k+1),zba v k]
 have e2:65536 ^ k*(lat v (k+1)*65536)=65536 ^ (k+1)*lat v (k+1):=by
  rw [Nat.pow_succ,Nat.mul_assoc,Nat.mul_comm (lat v (k+1))]
 refine ⟨?_,?_,?_⟩
 ·rw [Nat.mul_add,e2];omega
 ·rw [Nat.mul_comm];omega
 ·rw [Nat.mul_comm,Nat.mul_add,e2];omega
theorem win_zero (L:List Nat) (j n V:Nat) (hok:Ok L) (hj:j+n+1≤L.length) (h:val (L.drop (j+1))<V) (hV:V<65536 ^ n):val (L.drop (j+n+1))=0∧val ((L.drop j).take (n+1))<65536*V∧L=L.take j++(L.drop j).take (n+1)++L.drop (j+n+1):=by
 have e0:=zcm L j
 have h0:=zb9 hok j
 have e1:=val_split (n+1) (L.drop j)
 have e2:(L.drop j).drop (n+1)=L.drop (j+n+1):=by rw [List.drop_drop];congr 1
 rw [e2] at e1
 have e3:=Nat.pow_succ (n:=65536) (m:=n)
 have hz:val (L.drop (j+n+1))=0:=by
  refine Nat.eq_zero_of_not_pos (fun hp=>?_)
  have:65536 ^ (n+1)*1≤65536 ^ (n+1)*val (L.drop (j+n+1)):=Nat.mul_le_mul_left _ hp
  omega
 refine ⟨hz,?_,?_⟩
 ·rw [hz] at e1;omega
 ·rw [List.append_assoc,←e2,List.take_append_drop,List.take_append_drop]
structure RB (w:World) (bv:Nat) (a:Option Addr) (c:Nat) (l:List Nat):Prop where
 rd:RD w a c l
 blk:∀ ad,a=some ad→l≠[]→ad.block=bv
theorem RB.keep {w w':World} {bv:Nat} {a:Option Addr} {c:Nat} {l:List Nat} (h:RB w bv a c l) (hb:Below w.heap.size w w'):RB w' bv a c l:=⟨h.rd.ext hb,h.blk⟩
theorem RB.sto {w w':World} {bv b:Nat} {a:Option Addr} {c:Nat} {l:List Nat} (h:RB w bv a c l) (hs:Sto w w' b) (hne:bv≠b):RB w' bv a c l:=⟨h.rd.sto hs (fun ad ha hn=>by rw [h.blk ad ha hn];exact hne),h.blk⟩
theorem RB.wr {w w':World} {bv b:Nat} {a:Option Addr} {c:Nat} {l:List Nat} (h:RB w bv a c l) (hs:Wr w w' b) (hne:bv≠b):RB w' bv a c l:=⟨h.rd.wr hs (fun ad ha hn=>by rw [h.blk ad ha hn];exact hne),h.blk⟩
theorem RB.ne {w:World} {bv b:Nat} {a:Option Addr} {c:Nat} {l:List Nat} (h:RB w bv a c l) (hne:bv≠b):∀ ad,a=some ad→l≠[]→ad.block≠b:=fun ad ha hn=>by rw [h.blk ad ha hn];exact hne
theorem lat_td (L:List Nat) (j n i:Nat) (h:i<n):lat ((L.drop j).take n) i=lat L (j+i):=by
 simp [lat,List.getD_eq_getElem?_getD,List.getElem?_take,h,List.getElem?_drop]
theorem tooGreat_any (bd bv bn br bu bj d r n j k:Nat) (L V:List Nat) (b:Nat) (t:TypeId) (Z:List Value) (cu:Nat) (a:Option Addr) (c:Nat) (w:World)
  (kd:w.cell? ⟨bd,0,none⟩=some (.int .u64 d)) (kv:w.cell? ⟨bv,0,none⟩=some (.slice a V.length c)) (kn:w.cell? ⟨bn,0,none⟩=some (.int .i64 n)) (kr:w.cell? ⟨br,0,none⟩=some (.int .u64 r))
  (ku:w.cell? ⟨bu,0,none⟩=some (.slice (some ⟨b,0,none⟩) L.length cu)) (kj:w.cell? ⟨bj,0,none⟩=some (.int .i64 j)) (hB:Bx w b (lmC L++Z).toArray t) (hok:Ok L) (hs:RD w a c V)
  (hn:V.length=n) (hk:n=k+2) (hL:j+n<L.length) (hl:L.length≤100000000000) (hr:r<65536) :
  Calls Tryz.prog 130 #[.pointer (some ⟨bd,0,none⟩),.pointer (some ⟨bv,0,none⟩),.pointer (some ⟨bn,0,none⟩),.pointer (some ⟨br,0,none⟩),.pointer (some ⟨bu,0,none⟩),.pointer (some ⟨bj,0,none⟩)] w fun e w' =>
   e = .returned (.bool (decide (65536≤d∨r*65536+lat L (j+k)<d*lat V k)))∧Below w.heap.size w w':=by
 have hD:Below w.heap.size w w.drew:=Below.drew1 _
 have kd':=zc9 hD kd
 have kv':=zc9 hD kv
 have kn':=zc9 hD kn
 have kr':=zc9 hD kr
 have ku':=zc9 hD ku
 have kj':=zc9 hD kj
 replace hB:=hB.keep hD
 replace hs:=hs.ext hD
 have c1:=bx_atZ hB (j:=j+k) (by omega)
 obtain ⟨c2,c3⟩:=hs.at (i:=k) (by omega)
 have hx:=zb9 hok (j+k)
 have hy:=zb9 hs.ok k
 have f1:IntKind.i64.wrap ((n:Int)-2)=(k:Int):=by rw [IntWalk.i64_in _ (by omega)];omega
 have f2:IntKind.i64.wrap ((j:Int)+n)=(j:Int)+n:=IntWalk.i64_in _ (by omega)
 have f3:IntKind.i64.wrap ((j:Int)+n-2)=((j+k:Nat):Int):=by rw [IntWalk.i64_in _ (by omega)];omega
 have p1:k<V.length:=by omega
 have p1':(k:Int)<V.length:=by omega
 generalize lat L (j+k)=u2 at *
 generalize lat V k=v2 at *
 obtain ⟨q,hq⟩:∃ q,q=j+k:=⟨_,rfl⟩
 rw [←hq] at c1 f3
 have p2:q<L.length:=by omega
 have p2':(q:Int)<L.length:=by omega
 have s1:IntKind.u64.wrap (v2:Int)=v2:=zbd _ (by omega)
 have s2:IntKind.u64.wrap (u2:Int)=u2:=zbd _ (by omega)
 have s3:shlI .u64 (r:Int) 16=((r*65536:Nat):Int):=by
  have:=shl_nat .u64 r 16 (by decide)
  have e:IntKind.u64.wrap ((r*2 ^ 16:Nat):Int)=((r*65536:Nat):Int):=zbd _ (by omega)
  rw [e] at this;exact this
 have s4:orI .u64 ((r*65536:Nat):Int) (u2:Int)=((r*65536+u2:Nat):Int):=by
  rw [or_u64 _ _ (by omega) (by omega),Nat.or_comm]
  have:=or_add u2 r 16 (by omega)
  simp at this
  rw [this];omega
 generalize r*65536=r6 at *
 refine za5 (rs:=[.tmp 6]) (n:=31) Tryz.func130 rfl rfl rfl (by kernel_rfl) ?_
 refine zzr fun K hK=>?_
 simp [go_sem]
 apply hK;clear hK K
 by_cases h:65536≤d
 ·have h':(65536:Int)≤d:=by omega
  refine W_rd [(0,0),(1,0),(2,0),(3,0),(4,0),(5,0),(6,0),(7,0),(8,0),(9,0),(10,0),(11,0),(12,0),(13,0),(14,0),(15,0),(16,0),(17,0),(18,0),(19,0),(20,0),(21,0),(22,0),(23,0),(24,0)] (by kernel_rfl) (by kernel_rfl) (fun K hK=>?_)
  simp [go_sem,kd',h,h']
  apply hK;clear hK K
  refine zad ?_
  repeat first|refine za3 ?_|refine za2 ?_
  refine ⟨trivial,?_,hD⟩
  simp [go_sem,zar,zam,h]
 ·have h':¬(65536:Int)≤d:=by omega
  have hm:d*v2≤65535*65535:=Nat.mul_le_mul (by omega) (by omega)
  obtain ⟨DV,hDV⟩:∃ DV,DV=d*v2:=⟨_,rfl⟩
  have s5:(d:Int)*(v2:Int)=(DV:Int):=by rw [hDV];simp
  have s6:IntKind.u64.wrap (DV:Int)=DV:=zbd _ (by omega)
  obtain ⟨ru,hru⟩:∃ ru,ru=r6+u2:=⟨_,rfl⟩
  rw [←hru] at s4
  refine W_rd [(0,0),(1,0),(2,0),(3,0),(4,0),(5,0),(6,0),(7,0),(8,0),(9,0),(10,0),(11,0),(12,0),(13,0),(14,0),(15,0),(16,0),(17,0),(18,0),(19,0),(20,0),(21,0),(22,0),(23,0),(24,0)] (by kernel_rfl) (by kernel_rfl) (fun K hK=>?_)
  simp [go_sem,kd',kv',kn',kr',ku',kj',h,h',f1,f2,f3,p1,p1',p2,p2',c1,c2,c3,s1,s2,s3,s4,s5,s6,za0]
  apply hK;clear hK K
  refine zad ?_
  repeat first|refine za3 ?_|refine za2 ?_
  refine ⟨trivial,?_,hD⟩
  simp [go_sem,zar,zam,h]
  rw [hru,hDV]
theorem long_end (L out:List Nat) (V L0:Nat) (h:val L+65536 ^ 0*(val (out.drop 0)*V)=L0) (hlt:val (L.drop 0)<V):val out=L0 / V∧val L=L0 % V:=by
 simp only [List.drop_zero,Nat.pow_zero,Nat.one_mul] at h hlt
 have hV:0<V:=by omega
 have e:L0=val L+V*val out:=by rw [←h,Nat.mul_comm V]
 subst e
 constructor
 ·rw [Nat.add_mul_div_left _ _ hV,Nat.div_eq_of_lt hlt,Nat.zero_add]
 ·rw [Nat.add_mul_mod_self_left,Nat.mod_eq_of_lt hlt]
theorem long_any (Z:List Value) (L V:List Nat) (b cu bv n k:Nat) (a:Option Addr) (c:Nat) (w:World) (hB:Bx w b (lmC L++Z).toArray 123) (hok:Ok L) (hs:RB w bv a c V) (hneV:bv≠b) (hbv:bv<w.heap.size)
  (hn:V.length=n) (hk:n=k+2) (htop:lat V (k+1)≠0) (hL:n<L.length) (hlt0:val (L.drop (L.length-n))<val V) (hl:L.length≤zcH) (hcu:L.length≤cu) :
  Calls Tryz.prog 117 #[.slice (some ⟨b,0,none⟩) L.length cu,.slice a V.length c] w fun e w'=>∃ a' c' L',e = .returned (.slice a' (lim (val L / val V)).length c')∧RD w' a' c' (lim (val L / val V))∧L'.length=L.length∧Ok L'∧val L'=val L % val V ∧
   Bx w' b (lmC L'++Z).toArray 123∧Wr w w' b:=by
 have hl':L.length≤100000000000:=hl
 have hbl:=hB.lt
 obtain ⟨M,hM⟩:∃ M,M=L.length-n:=⟨_,rfl⟩
 have hVT:val V<65536 ^ n:=by rw [←hn];exact zck _ hs.rd.ok
 have hV0:0<val V:=by omega
 obtain ⟨dt1,dt2,dt3⟩:=div_top V k (by omega)
 have hvl:=zea V hs.rd.ok k
 have hvx:=zb9 hs.rd.ok (k+1)
 have hvy:=zb9 hs.rd.ok k
 have hvlen:V.length≤zcH:=by omega
 obtain ⟨hc1,hc2⟩:=hs.rd.at (i:=k+1) (by omega)
 refine za5 (rs:=[.tmp 4]) (n:=108) Tryz.func117 rfl rfl rfl (by kernel_rfl) ?_
 refine zzr fun K hK=>?_
 simp [go_sem]
 refine zbF #[.slice (some ⟨b,0,none⟩) L.length cu] (by simp [go_sem]) rfl (by simp [go_sem,Value.cells]) (fun w2 b2 hE2 hle2 hB2=>?_)
 replace hB:=hB.keep hE2
 replace hs:=hs.keep hE2
 have hW:Wr w w2 b:=.of_below b hE2
 simp [go_sem]
 refine zbF #[.slice a V.length c] (by simp [go_sem]) rfl (by simp [go_sem,Value.cells]) (fun w3 b3 hE3 hle3 hB3=>?_)
 have hb3:=hB2.lt
 replace hB:=hB.keep hE3
 replace hs:=hs.keep hE3
 replace hB2:=hB2.keep hE3
 replace hW:=hW.keep hE3
 simp [go_sem]
 apply hK;clear hK K
 have k3:=hB3.get0
 refine zzr fun K hK=>?_
 simp [go_sem,k3]
 refine zza rfl ty_zeroC3 (fun w5 b5 hE5 hle5 hB5=>?_)
 have hb5:=hB3.lt
 replace hB:=hB.keep hE5
 replace hs:=hs.keep hE5
 replace hB2:=hB2.keep hE5
 replace hB3:=hB3.keep hE5
 replace hW:=hW.keep hE5
 simp [go_sem]
 refine zzs (b:=b5) (off:=0) [.int .i64 V.length] rfl zaQ hB5 (fun w5 hS5 hB5=>?_) (by simp [go_sem,Value.cells,k3])
 simp [zaw] at hB5
 replace hB:=hB.sto hS5 (by omega)
 replace hs:=hs.sto hS5 (by omega)
 replace hB2:=hB2.sto hS5 (by omega)
 replace hB3:=hB3.sto hS5 (by omega)
 replace hW:=hW.sto2 hS5 (by omega)
 rw [hn] at hB5
 simp [go_sem]
 apply hK;clear hK K
 have k2:=hB2.get0
 have k5:=hB5.get0
 have fM:IntKind.i64.wrap ((L.length:Int)-n)=(M:Int):=by rw [IntWalk.i64_in _ (by omega)];omega
 refine zzr fun K hK=>?_
 simp [go_sem,k2,k5,fM]
 refine hv_make (kl:=.i64) (kc:=.i64) M M (by simp [go_sem,fM]) rfl zaT zaK (by simp [go_sem,fM]) (by simp [go_sem,fM]) (by omega) (by omega) (by omega) (fun w6 b6 hE6 hle6 hB6=>?_)
 rw [Nat.mul_one,zbH,lm_zeros] at hB6
 have hb6:=hB5.lt
 replace hB:=hB.keep hE6
 replace hs:=hs.keep hE6
 replace hB2:=hB2.keep hE6
 replace hB3:=hB3.keep hE6
 replace hB5:=hB5.keep hE6
 replace hW:=hW.keep hE6
 replace k2:=hB2.get0
 replace k5:=hB5.get0
 simp [go_sem]
 apply hK;clear hK K
 refine zab (fun K1 hK1=>?_)
 have fM1:IntKind.i64.wrap ((M:Int)-1)=(M:Int)-1:=IntWalk.i64_in _ (by omega)
 refine zzr fun K hK=>?_
 simp [go_sem,k2,k5,fM,fM1]
 refine zza rfl ty_zeroC3 (fun w7 b7 hE7 hle7 hB7=>?_)
 have hb7:=hB6.lt
 replace hB:=hB.keep hE7
 replace hs:=hs.keep hE7
 replace hB2:=hB2.keep hE7
 replace hB3:=hB3.keep hE7
 replace hB5:=hB5.keep hE7
 replace hB6:=hB6.keep hE7
 replace hW:=hW.keep hE7
 replace k2:=hB2.get0
 replace k5:=hB5.get0
 simp [go_sem,k2,k5,fM,fM1]
 refine zzs (b:=b7) (off:=0) [.int .i64 (M-1)] rfl zaQ hB7 (fun w7 hS7 hB7=>?_) (by simp [go_sem,Value.cells,k2,k5,fM,fM1])
 simp [zaw] at hB7
 replace hB:=hB.sto hS7 (by omega)
 replace hs:=hs.sto hS7 (by omega)
 replace hB2:=hB2.sto hS7 (by omega)
 replace hB3:=hB3.sto hS7 (by omega)
 replace hB5:=hB5.sto hS7 (by omega)
 replace hB6:=hB6.sto hS7 (by omega)
 replace hW:=hW.sto2 hS7 (by omega)
 simp [go_sem]
 apply hK;clear hK K
 refine zac ?_
 refine zaz (fun t g w'=>∃ (b7:Nat) (L' out:List Nat),t≤M∧b6<b7∧g 2 = .pointer (some ⟨b2,0,none⟩)∧g 3 = .pointer (some ⟨b3,0,none⟩)∧g 5 = .pointer (some ⟨b5,0,none⟩)∧g 6 = .slice (some ⟨b6,0,none⟩) M M∧g 7 = .pointer (some ⟨b7,0,none⟩) ∧
  Wr w w' b∧Bx w' b (lmC L'++Z).toArray 123∧RB w' bv a c V∧Bx w' b2 #[.slice (some ⟨b,0,none⟩) L.length cu] 23∧Bx w' b3 #[.slice a V.length c] 23∧Bx w' b5 #[.int .i64 n] 3∧Bx w' b6 (lmC out).toArray 123∧Bx w' b7 #[.int .i64 ((t:Int)-1)] 3 ∧
  L'.length=L.length∧Ok L'∧out.length=M∧Ok out∧val L'+65536 ^ t*(val (out.drop t)*val V)=val L∧val (L'.drop t)<val V) M ?_ ?_
 ·exact ⟨b7,L,List.replicate M 0,by omega,by omega,by simp [go_sem],by simp [go_sem],by simp [go_sem],by simp [go_sem],by simp [go_sem],hW,hB,hs,hB2,hB3,hB5,hB6,hB7,rfl,hok,by simp,Ok.zeros M,by rw [List.drop_eq_nil_of_le (by simp)];simp [val],by rw [hM];exact hlt0⟩
 ·clear hW hB hs hB2 hB3 hB5 hB6 hB7 k2 k3 k5 hE2 hE3 hE5 hE6 hE7 hS5 hS7
  rintro t g w' ⟨b7,L',out,htM,h67,g2,g3,g5,g6,g7,hW,hB,hs,hB2,hB3,hB5,hB6,hB7,hLl,hLok,hol,hook,hval,hlt⟩
  have k7:=hB7.get0
  refine zab (fun K2 hK2=>?_)
  rcases t with _|j
  ·obtain ⟨r1,r2⟩:=long_end L' out (val V) (val L) hval hlt
   have hrw:=RD.of_lm hB6 hook (c:=M) (by omega)
   have hres:lim (val L / val V)=nrm out:=by rw [←r1,zaO out hook]
   have hi2:out.length≤zbZ:=by unfold zbZ;omega
   rw [←hol] at g6 hrw
   refine zzr fun K hK=>?_
   simp [go_sem,g7,k7]
   apply hK;clear hK K
   refine zaf (by simp [go_sem];rfl) rfl ?_
   refine zav ?_
   repeat (first|refine zae ?_|refine za6 rfl ?_|refine za8 ?_)
   apply hK1;clear hK1 K1 hK2 K2
   refine zzr fun K hK=>?_
   simp [go_sem,g6]
   refine zzc rfl Tryz.call108 (fun R hR=>?_)
   simp [go_sem,g6]
   refine (zb6 out _ _ _ hrw hi2).mono ?_
   rintro e w8 ⟨rfl,rfl⟩
   refine ⟨_,rfl,hR _ _ ?_⟩
   clear hR R
   simp [go_sem]
   apply hK;clear hK K
   refine zad ?_
   repeat first|refine za3 ?_|refine za2 ?_
   rw [hres]
   refine ⟨trivial,some ⟨b6,0,none⟩,out.length,L',?_,hrw.nrm,hLl,hLok,r2,hB,hW⟩
   simp [go_sem,zar,zam]
  ·have ej:((j+1:Nat):Int)-1=(j:Int):=by omega
   rw [ej] at hB7 k7
   have p0:(0:Int)≤j:=by omega
   refine zzr fun K hK=>?_
   simp [go_sem,g7,k7,p0]
   apply hK;clear hK K
   refine zaf (by simp [go_sem,p0];rfl) rfl ?_
   refine za7 ?_
   apply hK2;clear hK2 K2
   obtain ⟨hz,hub,hsplit⟩:=win_zero L' j n (val V) hLok (by omega) hlt hVT
   have hul:((L'.drop j).take (n+1)).length=n+1:=by rw [List.length_take,List.length_drop];omega
   have huok:Ok ((L'.drop j).take (n+1)):=(hLok.drop j).take _
   have hplen:(L'.take j).length=j:=by rw [List.length_take];omega
   have wt:=win_top _ k (by rw [hul,hk])
   obtain ⟨low,wt2,hlow⟩:=win_top2 _ k (by rw [hul,hk]) huok
   have hlowk:=zea _ huok k
   rw [lat_td L' j (n+1) k (by omega),lat_td L' j (n+1) (k+1) (by omega),lat_td L' j (n+1) (k+2) (by omega)] at wt
   rw [lat_td L' j (n+1) (k+1) (by omega),lat_td L' j (n+1) (k+2) (by omega)] at wt2
   obtain ⟨u,hu⟩:∃ u,u=(L'.drop j).take (n+1):=⟨_,rfl⟩
   obtain ⟨post,hpost⟩:∃ post,post=L'.drop (j+n+1):=⟨_,rfl⟩
   obtain ⟨pre,hpre⟩:∃ pre,pre=L'.take j:=⟨_,rfl⟩
   rw [←hu] at hub hsplit hul huok wt wt2 hlowk
   rw [←hpost] at hz hsplit
   rw [←hpre] at hsplit hplen
   have hx0:=zb9 hLok (j+(k+2))
   have hx1:=zb9 hLok (j+(k+1))
   have hx2:=zb9 hLok (j+k)
   have rd:∀ (w1:World),Bx w1 b (lmC L'++Z).toArray 123→∀ i,i<L'.length→w1.cell? ⟨b,i,none⟩=some (.int .u16 (lat L' i)):=by
    intro w1 hB1 i hi
    exact bx_atZ hB1 hi
   obtain ⟨H,hH⟩:∃ H,H=lat L' (j+(k+2))*65536+lat L' (j+(k+1)):=⟨_,rfl⟩
   rw [←hH] at wt wt2
   have hHb:H<4294967296:=by omega
   obtain ⟨v1,hv1⟩:∃ v1,v1=lat V (k+1):=⟨_,rfl⟩
   rw [←hv1] at htop dt1 dt2 dt3 hvx hc1
   have hv1p:0<v1:=by omega
   obtain ⟨d0,hd0⟩:∃ d0,d0=H / v1:=⟨_,rfl⟩
   obtain ⟨r0,hr0⟩:∃ r0,r0=H % v1:=⟨_,rfl⟩
   have est0:=est_first (val u) (val V) (65536 ^ (k+1)) H v1 low d0 wt2 hlow dt2 hv1p hd0
   have hdm:d0*v1+r0=H:=by rw [hd0,hr0,Nat.mul_comm];exact Nat.div_add_mod H v1
   have hdb:d0≤H:=by rw [hd0];exact Nat.div_le_self _ _
   have hrb:r0<v1:=by rw [hr0];exact Nat.mod_lt _ hv1p
   have s5:(H:Int).tdiv v1=(d0:Int):=by rw [hd0];rfl
   have s6:(H:Int).tmod v1=(r0:Int):=by rw [hr0];rfl
   clear hd0 hr0
   refine zab (fun K2 hK2=>?_)
   refine zac ?_
   have hD:Below w'.heap.size w' w'.drew:=Below.drew1 _
   replace hB:=hB.keep hD
   replace hs:=hs.keep hD
   replace hB2:=hB2.keep hD
   replace hB3:=hB3.keep hD
   replace hB5:=hB5.keep hD
   replace hB6:=hB6.keep hD
   replace hB7:=hB7.keep hD
   replace hW:=hW.keep hD
   replace k7:=hB7.get0
   have k2:=hB2.get0
   have k3:=hB3.get0
   have k5:=hB5.get0
   obtain ⟨P0,hP0⟩:∃ P0,P0=j+(k+2):=⟨_,rfl⟩
   obtain ⟨P1,hP1⟩:∃ P1,P1=j+(k+1):=⟨_,rfl⟩
   rw [←hP0,←hP1] at hH
   rw [←hP0] at hx0
   rw [←hP1] at hx1
   have c0:=rd _ hB P0 (by omega)
   have c1:=rd _ hB P1 (by omega)
   have f0:IntKind.i64.wrap ((j:Int)+n)=(P0:Int):=by rw [IntWalk.i64_in _ (by omega)];omega
   have f1:IntKind.i64.wrap ((P0:Int)-1)=(P1:Int):=by rw [IntWalk.i64_in _ (by omega)];omega
   have q0:P0<L.length:=by omega
   have q0':(P0:Int)<L.length:=by omega
   have q1:P1<L.length:=by omega
   have q1':(P1:Int)<L.length:=by omega
   generalize lat L' P0=u0 at *
   generalize lat L' P1=u1 at *
   have s0:IntKind.u64.wrap (u0:Int)=u0:=zbd _ (by omega)
   have s1:IntKind.u64.wrap (u1:Int)=u1:=zbd _ (by omega)
   obtain ⟨u06,hu06⟩:∃ x,x=u0*65536:=⟨_,rfl⟩
   have s2:shlI .u64 (u0:Int) 16=(u06:Int):=by
    have:=shl_nat .u64 u0 16 (by decide)
    have e:IntKind.u64.wrap ((u0*2 ^ 16:Nat):Int)=((u0*65536:Nat):Int):=zbd _ (by omega)
    rw [e] at this;rw [hu06];exact this
   have s3:orI .u64 (u06:Int) (u1:Int)=(H:Int):=by
    rw [or_u64 _ _ (by omega) (by omega),Nat.or_comm,hu06]
    have:=or_add u1 u0 16 (by omega)
    simp at this
    rw [this];omega
   refine W_rd [(0,0),(1,0),(2,0),(3,0),(4,0),(5,0),(6,0),(7,0),(8,0),(9,0),(10,0),(11,0),(12,0),(13,0),(14,0),(15,0),(16,0),(17,0)] (by kernel_rfl) (by kernel_rfl) (fun K hK=>?_)
   simp [go_sem,g2,g5,g7,k2,k5,k7,f0,f1,q0,q0',q1,q1',c0,c1,s0,s1,s2,s3,za0]
   apply hK;clear hK K
   have hD2:Below w'.drew.heap.size w'.drew w'.drew.drew:=Below.drew1 _
   replace hB:=hB.keep hD2
   replace hs:=hs.keep hD2
   replace hB2:=hB2.keep hD2
   replace hB3:=hB3.keep hD2
   replace hB5:=hB5.keep hD2
   replace hB6:=hB6.keep hD2
   replace hB7:=hB7.keep hD2
   replace hW:=hW.keep hD2
   replace k3:=hB3.get0
   replace k5:=hB5.get0
   obtain ⟨hc1,hc2⟩:=hs.rd.at (i:=k+1) (by omega)
   rw [←hv1] at hc1
   have f2:IntKind.i64.wrap ((n:Int)-1)=((k+1:Nat):Int):=by rw [IntWalk.i64_in _ (by omega)];omega
   obtain ⟨k1,hk1⟩:∃ k1,k1=k+1:=⟨_,rfl⟩
   rw [←hk1] at hc1 f2
   have q2:k1<V.length:=by omega
   have q2':(k1:Int)<V.length:=by omega
   have s4:IntKind.u64.wrap (v1:Int)=v1:=zbd _ (by omega)
   have s5':IntKind.u64.wrap (d0:Int)=(d0:Int):=zbd _ (by omega)
   have hv1':¬v1=0:=by omega
   have hB7l:=hB7.lt
   obtain ⟨w1,hw1⟩:∃ w1,w1=w'.drew.drew:=⟨_,rfl⟩
   refine W_rdTJ (fun g' w2=>∃ b9 b10,b7<b9∧b7<b10∧b9≠b10∧g' 2 = .pointer (some ⟨b2,0,none⟩)∧g' 3 = .pointer (some ⟨b3,0,none⟩)∧g' 5 = .pointer (some ⟨b5,0,none⟩)∧g' 6 = .slice (some ⟨b6,0,none⟩) M M∧g' 7 = .pointer (some ⟨b7,0,none⟩)∧g' 9 = .pointer (some ⟨b9,0,none⟩)∧g' 10 = .pointer (some ⟨b10,0,none⟩)∧Below w1.heap.size w1 w2∧Bx w2 b9 #[.int .u64 d0] 143∧Bx w2 b10 #[.int .u64 r0] 143) (.li 0 (.li 1 (.li 2 (.li 3 (.li 4 (.li 5 (.li 6 (.li 7 (.li 8 (.li 9 (.li 10 (.li 11 (.li 12 (.li 13 (.li 14 (.li 15 (.fork 16 (.hv 17 (.hv 18 (.hv 19 .done))) (.hv 17 (.hv 16 (.hv 18 (.hv 19 .done))))))))))))))))))))) (by kernel_rfl) (by kernel_rfl) ?_ ?_
   ·intro w0 hw0
    rw [←hw0] at hw1
    subst hw1
    rw [←hw0] at k3 k5 hc1 hB7l
    clear hw0
    simp [go_sem,g3,g5,k3,k5,f2,q2,q2',hc1,hc2,s4,s5,s5',s6,hv1']
    refine ⟨?_,?_⟩
    ·refine zza rfl ze6 (fun w9 b9 hE9 hle9 hB9=>?_)
     refine zay hE9 ?_
     simp [go_sem]
     refine zza rfl ze6 (fun w10 b10 hE10 hle10 hB10=>?_)
     have hb10:=hB9.lt
     replace hB9:=hB9.keep hE10
     refine zay (hE10.mono hE9.size) ?_
     simp [go_sem]
     refine zzs (b:=b9) (off:=0) [.int .u64 d0] rfl zcR hB9 (fun w11 hS11 hB11=>?_) (by simp [go_sem,Value.cells])
     simp [zaw] at hB11
     refine zay (hS11.below hle9) ?_
     replace hB10:=hB10.sto hS11 (by omega)
     simp [go_sem]
     refine zzs (b:=b10) (off:=0) [.int .u64 r0] rfl zcR hB10 (fun w12 hS12 hB12=>?_) (by simp [go_sem,Value.cells])
     simp [zaw] at hB12
     refine zay (hS12.below (by omega)) ?_
     replace hB11:=hB11.sto hS12 (by omega)
     simp [go_sem,g2,g3,g5,g6,g7]
     exact ⟨b9,by omega,b10,by omega,by omega,rfl,rfl,((hE9.next hE10).nextS hS11 hle9).nextS hS12 (by omega),hB11,hB12⟩
    ·refine zza rfl ze6 (fun w10 b10 hE10 hle10 hB10=>?_)
     refine zay hE10 ?_
     simp [go_sem]
     refine zza rfl ze6 (fun w9 b9 hE9 hle9 hB9=>?_)
     have hb10:=hB10.lt
     replace hB10:=hB10.keep hE9
     refine zay (hE9.mono hE10.size) ?_
     simp [go_sem]
     refine zzs (b:=b9) (off:=0) [.int .u64 d0] rfl zcR hB9 (fun w11 hS11 hB11=>?_) (by simp [go_sem,Value.cells])
     simp [zaw] at hB11
     refine zay (hS11.below (by omega)) ?_
     replace hB10:=hB10.sto hS11 (by omega)
     simp [go_sem]
     refine zzs (b:=b10) (off:=0) [.int .u64 r0] rfl zcR hB10 (fun w12 hS12 hB12=>?_) (by simp [go_sem,Value.cells])
     simp [zaw] at hB12
     refine zay (hS12.below (by omega)) ?_
     replace hB11:=hB11.sto hS12 (by omega)
     simp [go_sem,g2,g3,g5,g6,g7]
     exact ⟨b9,by omega,b10,by omega,by omega,rfl,rfl,((hE10.next hE9).nextS hS11 (by omega)).nextS hS12 (by omega),hB11,hB12⟩
   rw [←hw1] at hB hs hB2 hB3 hB5 hB6 hB7 hW
   clear g2 g3 g5 g6 g7
   rintro g w2 ⟨b9,b10,hb79,hb710,hb910,g2,g3,g5,g6,g7,g9,g10,hE2,hB9,hB10⟩
   replace hB:=hB.keep hE2
   replace hs:=hs.keep hE2
   replace hB2:=hB2.keep hE2
   replace hB3:=hB3.keep hE2
   replace hB5:=hB5.keep hE2
   replace hB6:=hB6.keep hE2
   replace hB7:=hB7.keep hE2
   replace hW:=hW.keep hE2
   refine zzr fun K hK=>?_
   simp [go_sem,g2,g3,g5,g7,g9,g10]
   apply hK;clear hK K
   refine zab (fun K3 hK3=>?_)
   refine zac ?_
   clear hc1 hc2 k2 k3 k5 k7 c0 c1 hD2 hE2
   refine zaz (fun m g w'=>∃ (d r:Nat),m=65536-r∧g 2 = .pointer (some ⟨b2,0,none⟩)∧g 3 = .pointer (some ⟨b3,0,none⟩)∧g 5 = .pointer (some ⟨b5,0,none⟩)∧g 6 = .slice (some ⟨b6,0,none⟩) M M∧g 7 = .pointer (some ⟨b7,0,none⟩) ∧
    g 9 = .pointer (some ⟨b9,0,none⟩)∧g 10 = .pointer (some ⟨b10,0,none⟩)∧g 11 = .func (.func 130) #[] #[.pointer (some ⟨b9,0,none⟩),.pointer (some ⟨b3,0,none⟩),.pointer (some ⟨b5,0,none⟩),.pointer (some ⟨b10,0,none⟩),.pointer (some ⟨b2,0,none⟩),.pointer (some ⟨b7,0,none⟩)] ∧
    Wr w w' b∧Bx w' b (lmC L'++Z).toArray 123∧RB w' bv a c V∧Bx w' b2 #[.slice (some ⟨b,0,none⟩) L.length cu] 23∧Bx w' b3 #[.slice a V.length c] 23∧Bx w' b5 #[.int .i64 n] 3∧Bx w' b6 (lmC out).toArray 123∧Bx w' b7 #[.int .i64 j] 3 ∧
    Bx w' b9 #[.int .u64 d] 143∧Bx w' b10 #[.int .u64 r] 143∧d*v1+r=H∧val u<(d+1)*val V∧r<65536+65536) (65536-r0) ?_ ?_
   ·exact ⟨d0,r0,rfl,by simp [go_sem,g2],by simp [go_sem,g3],by simp [go_sem,g5],by simp [go_sem,g6],by simp [go_sem,g7],by simp [go_sem,g9],by simp [go_sem,g10],by simp [go_sem,g2,g3,g5,g7,g9,g10],hW,hB,hs,hB2,hB3,hB5,hB6,hB7,hB9,hB10,hdm,est0,by omega⟩
   ·clear g2 g3 g5 g6 g7 g9 g10 hW hB hs hB2 hB3 hB5 hB6 hB7 hB9 hB10
    clear g
    rintro m g w1 ⟨d,r,rfl,g2,g3,g5,g6,g7,g9,g10,g11,hW,hB,hs,hB2,hB3,hB5,hB6,hB7,hB9,hB10,hdr,hest,hr2⟩
    refine zab (fun K4 hK4=>?_)
    have k9:=hB9.get0
    have k10:=hB10.get0
    have k2:=hB2.get0
    have k3:=hB3.get0
    have k5:=hB5.get0
    have k7:=hB7.get0
    have hdH:d≤H:=Nat.le_trans (Nat.le_mul_of_pos_right d hv1p) (Nat.le.intro hdr)
    obtain ⟨D,hDe⟩:∃ D:Prop,D=(65536≤d∨r*65536+lat L' (j+k)<d*lat V k):=⟨_,rfl⟩
    refine zeH (fun g' w2=>Below w1.heap.size w1 w2∧g' 2 = .pointer (some ⟨b2,0,none⟩)∧g' 3 = .pointer (some ⟨b3,0,none⟩)∧g' 5 = .pointer (some ⟨b5,0,none⟩)∧g' 6 = .slice (some ⟨b6,0,none⟩) M M∧g' 7 = .pointer (some ⟨b7,0,none⟩)∧g' 9 = .pointer (some ⟨b9,0,none⟩)∧g' 10 = .pointer (some ⟨b10,0,none⟩)∧g' 11=g 11∧g' 67 = .bool (decide (r<65536) && decide (65536≤d∨r*65536+lat L' (j+k)<d*lat V k))) (by kernel_rfl) ?_ ?_
    ·by_cases hr:r<65536
     ·have hr':(r:Int)<65536:=by omega
      simp [go_sem,g10,g11,k10,hr,hr']
      refine hv_callc (by simp [go_sem]) rfl (by simp [go_sem,g11];rfl) Tryz.call130 (fun R1 hR=>?_)
      simp [go_sem,g11]
      rw [←hLl] at k2
      refine (tooGreat_any b9 b3 b5 b10 b2 b7 d r n j k L' V b 123 Z cu a c _ k9 k3 k5 k10 k2 k7 hB hLok hs.rd hn hk (by omega) (by omega) hr).mono ?_
      rintro e w3 ⟨rfl,hE⟩
      refine ⟨_,rfl,hR _ _ ?_⟩
      clear hR R1
      simp [go_sem,g2,g3,g5,g6,g7,g9,g10,g11]
      exact hE
     ·have hr':¬(r:Int)<65536:=by omega
      simp [go_sem,g2,g3,g5,g6,g7,g9,g10,g11,k10,hr,hr']
      exact Below.refl _ _
    ·clear g2 g3 g5 g6 g7 g9 g10 k2 k3 k5 k7 k9 k10
     rintro g' w2 ⟨hE,g2,g3,g5,g6,g7,g9,g10,g11',g67⟩
     rw [g11] at g11'
     clear g11
     replace hB:=hB.keep hE
     replace hs:=hs.keep hE
     replace hB2:=hB2.keep hE
     replace hB3:=hB3.keep hE
     replace hB5:=hB5.keep hE
     replace hB6:=hB6.keep hE
     replace hB7:=hB7.keep hE
     replace hB9:=hB9.keep hE
     replace hB10:=hB10.keep hE
     replace hW:=hW.keep hE
     have k9:=hB9.get0
     have k10:=hB10.get0
     refine zaf g67 rfl ?_
     by_cases hgo:r<65536∧(65536≤d∨r*65536+lat L' (j+k)<d*lat V k)
     ·obtain ⟨hrs,htoo⟩:=hgo
      obtain ⟨hd0,hest2⟩:=est_next (val u) (val V) (65536 ^ k) H v1 (lat V k) (lat L' (j+k)) _ d r wt hlowk dt3 hdr hub hest htoo
      obtain ⟨d',rfl⟩:∃ d',d=d'+1:=⟨d-1,by omega⟩
      obtain ⟨r',hr'⟩:∃ r',r'=r+v1:=⟨_,rfl⟩
      have hdr':d'*v1+r'=H:=by rw [Nat.add_mul,Nat.one_mul] at hdr;omega
      have f3:IntKind.u64.wrap (((d'+1:Nat):Int)-1)=(d':Int):=by rw [zbd _ (by omega)];omega
      have f4:IntKind.u64.wrap ((r:Int)+v1)=(r':Int):=by rw [zbd _ (by omega)];omega
      generalize hD1:((d'+1:Nat):Int)=D1 at *
      simp only [hrs,htoo,decide_true,Bool.and_self,cond_true]
      refine za7 ?_
      apply hK4;clear hK4 K4
      refine zac ?_
      refine zzr fun K hK=>?_
      simp [go_sem,g9,k9,f3]
      refine zzs (b:=b9) (off:=0) [.int .u64 d'] rfl zcR hB9 (fun w11 hS11 hB11=>?_) (by simp [go_sem,Value.cells,g9,k9,f3])
      simp [zaw] at hB11
      replace hB:=hB.sto hS11 (by omega)
      replace hs:=hs.sto hS11 (by omega)
      replace hB2:=hB2.sto hS11 (by omega)
      replace hB3:=hB3.sto hS11 (by omega)
      replace hB5:=hB5.sto hS11 (by omega)
      replace hB6:=hB6.sto hS11 (by omega)
      replace hB7:=hB7.sto hS11 (by omega)
      replace hB10:=hB10.sto hS11 (by omega)
      replace hW:=hW.sto2 hS11 (by omega)
      clear hS11 hB9
      have hB9:=hB11
      clear hB11
      simp [go_sem]
      apply hK;clear hK K
      have hD:Below w11.heap.size w11 w11.drew:=Below.drew1 _
      replace hB:=hB.keep hD
      replace hs:=hs.keep hD
      replace hB2:=hB2.keep hD
      replace hB3:=hB3.keep hD
      replace hB5:=hB5.keep hD
      replace hB6:=hB6.keep hD
      replace hB7:=hB7.keep hD
      replace hB9:=hB9.keep hD
      replace hB10:=hB10.keep hD
      replace hW:=hW.keep hD
      have k3:=hB3.get0
      have k5:=hB5.get0
      replace k10:=hB10.get0
      obtain ⟨hc1,hc2⟩:=hs.rd.at (i:=k+1) (by omega)
      rw [←hv1,←hk1] at hc1
      refine zbE [(0,0),(1,0),(2,0),(3,0),(4,0),(5,0),(6,0),(7,0),(8,2)] (by kernel_rfl) (by kernel_rfl) (fun K hK=>?_)
      simp [go_sem,g3,g5,g10,k3,k5,k10,f2,q2,q2',hc1,hc2,s4,f4]
      refine zzs (b:=b10) (off:=0) [.int .u64 r'] rfl zcR hB10 (fun w12 hS12 hB12=>?_) (by simp [go_sem,Value.cells,g10,f4])
      simp [zaw] at hB12
      replace hB:=hB.sto hS12 (by omega)
      replace hs:=hs.sto hS12 (by omega)
      replace hB2:=hB2.sto hS12 (by omega)
      replace hB3:=hB3.sto hS12 (by omega)
      replace hB5:=hB5.sto hS12 (by omega)
      replace hB6:=hB6.sto hS12 (by omega)
      replace hB7:=hB7.sto hS12 (by omega)
      replace hB9:=hB9.sto hS12 (by omega)
      replace hW:=hW.sto2 hS12 (by omega)
      clear hS12 hB10
      have hB10:=hB12
      clear hB12
      simp [go_sem]
      exact hK _ _ ⟨65536-r',by omega,d',r',rfl,by simp [go_sem,g2],by simp [go_sem,g3],by simp [go_sem,g5],by simp [go_sem,g6],by simp [go_sem,g7],by simp [go_sem,g9],by simp [go_sem,g10],by simp [go_sem,g11'],hW,hB,hs,hB2,hB3,hB5,hB6,hB7,hB9,hB10,hdr',hest2,by omega⟩
     ·have hdone:65536≤r∨(d<65536∧d*lat V k≤r*65536+lat L' (j+k)):=by
       by_cases hr:r<65536
       ·right
        have:¬(65536≤d∨r*65536+lat L' (j+k)<d*lat V k):=fun h=>hgo ⟨hr,h⟩
        simp only [not_or,Nat.not_le,Nat.not_lt] at this
        exact this
       ·left;omega
      have hb0:(decide (r<65536) && decide (65536≤d∨r*65536+lat L' (j+k)<d*lat V k))=false:=by
       rw [Bool.and_eq_false_iff]
       by_cases hr:r<65536
       ·right
        have:¬(65536≤d∨r*65536+lat L' (j+k)<d*lat V k):=fun h=>hgo ⟨hr,h⟩
        exact decide_eq_false this
       ·left;exact decide_eq_false hr
      simp only [hb0,cond_false]
      obtain ⟨hd16,hlast⟩:=est_last (val u) (val V) (65536 ^ k) H v1 (lat V k) 0 (lat L' (j+k)) _ _ d r wt hlowk dt1 hvl hv1p hvx hvy hx2 hdr hub hdone
      refine zav ?_
      repeat (first|refine zae ?_|refine za6 rfl ?_|refine za8 ?_)
      apply hK3;clear hK3 K3 hK4 K4
      clear k9 k10 g67 hb0 hdone hgo hlow est0 hdm hdb hrb hr2
      have f6:IntKind.i64.wrap ((P0:Int)+1)=((P0+1:Nat):Int):=by rw [IntWalk.i64_in _ (by omega)];omega
      have f7:IntKind.u32.wrap (d:Int)=d:=zbJ _ (by omega)
      obtain ⟨E,hE1⟩:∃ E,E=P0+1:=⟨_,rfl⟩
      rw [←hE1] at f6
      have hEj:E-j=u.length:=by omega
      have hcj:¬cu=j:=by omega
      have q3:E≤cu:=by omega
      have q3':(E:Int)≤cu:=by omega
      have q4:j≤E:=by omega
      have q4':(j:Int)≤E:=by omega
      have hpok:Ok pre:=by rw [hpre];exact hLok.take _
      have hqok:Ok post:=by rw [hpost];exact hLok.drop _
      have hB':Bx w2 b (lmC (pre++u++post)++Z).toArray 123:=by rw [←hsplit];exact hB
      clear hB
      have hB:=hB'
      clear hB'
      have hulB:u.length≤zbZ:=by unfold zbZ;omega
      refine zab (fun K3 hK3=>?_)
      have fin:∀ (g:G) (w2:World) (us:List Nat) (d:Nat),g 2 = .pointer (some ⟨b2,0,none⟩)→g 3 = .pointer (some ⟨b3,0,none⟩)→g 5 = .pointer (some ⟨b5,0,none⟩)→g 6 = .slice (some ⟨b6,0,none⟩) M M→g 7 = .pointer (some ⟨b7,0,none⟩)→g 9 = .pointer (some ⟨b9,0,none⟩) →
        Wr w w2 b→Bx w2 b (lmC (pre++us++post)++Z).toArray 123→RB w2 bv a c V→Bx w2 b2 #[.slice (some ⟨b,0,none⟩) L.length cu] 23→Bx w2 b3 #[.slice a V.length c] 23→Bx w2 b5 #[.int .i64 n] 3→Bx w2 b6 (lmC out).toArray 123→Bx w2 b7 #[.int .i64 j] 3 →
        Bx w2 b9 #[.int .u64 d] 143→us.length=u.length→Ok us→d<65536→val us+d*val V=val u→val us<val V→K3 g w2:=by
       clear g2 g3 g5 g6 g7 g9 g10 g11' hW hB hs hB2 hB3 hB5 hB6 hB7 hB9 hB10 hE
       clear g
       intro g w2 us d g2 g3 g5 g6 g7 g9 hW hB hs hB2 hB3 hB5 hB6 hB7 hB9 hul2 husok hd16 hdig hless
       apply hK3;clear hK3 K3
       have k7:=hB7.get0
       have k9:=hB9.get0
       have q5:j<M:=by omega
       have q5':(j:Int)<M:=by omega
       have f8:IntKind.u16.wrap (d:Int)=d:=zeq _ (by omega)
       have f9:IntKind.i64.wrap ((j:Int)-1)=(j:Int)-1:=IntWalk.i64_in _ (by omega)
       obtain ⟨ls1,ls2⟩:=long_step pre us u post out j d n (val V) (val L) hplen hul (by omega) hz (by omega) (by rw [←hsplit];exact hval) hdig
       refine zzt fun K hK=>?_
       simp [go_sem,g6,g7,g9,k7,k9,q5,q5',f8,za0]
       refine zbG (b:=b6) (off:=j) [.int .u16 d] (by simp [go_sem]) rfl (by simp [go_sem]) (by simp [go_sem,Value.cells]) zbc hB6 (by simp [zb3]<;>omega) (by simp [Value.oneCell']) (by decide) (fun w13 hS13 hB13=>?_)
       rw [putC_lm] at hB13
       replace hB:=hB.sto hS13 (by omega)
       replace hs:=hs.sto hS13 (by omega)
       replace hB2:=hB2.sto hS13 (by omega)
       replace hB3:=hB3.sto hS13 (by omega)
       replace hB5:=hB5.sto hS13 (by omega)
       replace hB7:=hB7.sto hS13 (by omega)
       replace hW:=hW.sto2 hS13 (by omega)
       replace k7:=hB7.get0
       simp [go_sem]
       apply hK;clear hK K
       apply hK2;clear hK2 K2
       refine zab (fun K2 hK2=>?_)
       refine zzr fun K hK=>?_
       simp [go_sem,g7,k7]
       apply hK;clear hK K
       refine zzt fun K hK=>?_
       simp [go_sem]
       refine zza rfl ty_zeroC3 (fun w14 b14 hE14 hle14 hB14=>?_)
       have hb14:=hB7.lt
       replace hB:=hB.keep hE14
       replace hs:=hs.keep hE14
       replace hB2:=hB2.keep hE14
       replace hB3:=hB3.keep hE14
       replace hB5:=hB5.keep hE14
       replace hB13:=hB13.keep hE14
       replace hW:=hW.keep hE14
       simp [go_sem]
       refine zzs (b:=b14) (off:=0) [.int .i64 j] rfl zaQ hB14 (fun w15 hS15 hB15=>?_) (by simp [go_sem,Value.cells])
       simp [zaw] at hB15
       replace hB:=hB.sto hS15 (by omega)
       replace hs:=hs.sto hS15 (by omega)
       replace hB2:=hB2.sto hS15 (by omega)
       replace hB3:=hB3.sto hS15 (by omega)
       replace hB5:=hB5.sto hS15 (by omega)
       replace hB13:=hB13.sto hS15 (by omega)
       replace hW:=hW.sto2 hS15 (by omega)
       replace k7:=hB15.get0
       simp [go_sem]
       apply hK;clear hK K
       apply hK2;clear hK2 K2
       refine zzt fun K hK=>?_
       simp [go_sem,k7,f9]
       refine zzs (b:=b14) (off:=0) [.int .i64 ((j:Int)-1)] rfl zaQ hB15 (fun w16 hS16 hB16=>?_) (by simp [go_sem,Value.cells,k7,f9])
       simp [zaw] at hB16
       replace hB:=hB.sto hS16 (by omega)
       replace hs:=hs.sto hS16 (by omega)
       replace hB2:=hB2.sto hS16 (by omega)
       replace hB3:=hB3.sto hS16 (by omega)
       replace hB5:=hB5.sto hS16 (by omega)
       replace hB13:=hB13.sto hS16 (by omega)
       replace hW:=hW.sto2 hS16 (by omega)
       simp [go_sem]
       refine hK _ _ ⟨j,by omega,b14,pre++us++post,out.set j d,by omega,by omega,by simp [go_sem,g2],by simp [go_sem,g3],by simp [go_sem,g5],by simp [go_sem,g6],by simp [go_sem],hW,hB,hs,hB2,hB3,hB5,hB13,hB16,?_,(hpok.app husok).app hqok,by simp [hol],hook.set j d hd16,ls1,by rw [ls2];exact hless⟩
       have:=congrArg List.length hsplit
       simp only [List.length_append] at this ⊢
       omega
      have hD:Below w2.heap.size w2 w2.drew:=Below.drew1 _
      replace hB:=hB.keep hD
      replace hs:=hs.keep hD
      replace hB2:=hB2.keep hD
      replace hB3:=hB3.keep hD
      replace hB5:=hB5.keep hD
      replace hB6:=hB6.keep hD
      replace hB7:=hB7.keep hD
      replace hB9:=hB9.keep hD
      replace hW:=hW.keep hD
      have k2:=hB2.get0
      have k3:=hB3.get0
      have k5:=hB5.get0
      have k7:=hB7.get0
      have k9:=hB9.get0
      clear hD hB10
      refine W_rd [(0,0),(1,0),(2,0),(3,0),(4,0),(5,0),(6,0),(7,0),(8,0),(9,0),(10,2)] (by kernel_rfl) (by kernel_rfl) (fun K hK=>?_)
      simp [go_sem,g2,g3,g5,g7,g9,k2,k3,k5,k7,k9,f0,f6,f7,hEj,hcj,q3,q3',q4,q4',za0]
      refine zzc rfl Tryz.call131 (fun R hR=>?_)
      simp [go_sem,g2,g3,g5,g7,g9,k2,k3,k5,k7,k9,f0,f6,f7,hEj,hcj,q3,q3',q4,q4',za0]
      refine (subtract_any Z pre u post V b j (cu-j) a c d _ hB huok hs.rd (hs.ne hneV) hplen (by omega) hulB hd16).mono ?_
      rintro e w3 ⟨us,bo,rfl,husl,husok,hbo,hsub,hB3',hW3⟩
      refine ⟨_,rfl,hR _ _ ?_⟩
      clear hR R
      clear hB
      have hB:=hB3'
      clear hB3'
      replace hs:=hs.wr hW3 (by omega)
      replace hB2:=hB2.wr hW3 (by omega)
      replace hB3:=hB3.wr hW3 (by omega)
      replace hB5:=hB5.wr hW3 (by omega)
      replace hB6:=hB6.wr hW3 (by omega)
      replace hB7:=hB7.wr hW3 (by omega)
      replace hB9:=hB9.wr hW3 (by omega)
      replace hW:=hW.trans hW3
      clear hW3
      simp [go_sem]
      apply hK;clear hK K
      have hTe:65536 ^ u.length=65536 ^ (n+1):=by rw [hul]
      by_cases hb0:bo=0
      ·subst hb0
       rw [Nat.mul_zero,Nat.add_zero] at hsub
       refine zaf (by simp [go_sem];rfl) rfl ?_
       refine za7 ?_
       exact fin _ _ us d (by simp [go_sem,g2]) (by simp [go_sem,g3]) (by simp [go_sem,g5]) (by simp [go_sem,g6]) (by simp [go_sem,g7]) (by simp [go_sem,g9]) hW hB hs hB2 hB3 hB5 hB6 hB7 hB9 husl husok hd16 hsub (dig_right _ _ _ _ hsub hest)
      ·have hb1:bo=1:=by omega
       subst hb1
       rw [Nat.mul_one,hTe] at hsub
       have husT:val us<65536 ^ (n+1):=by rw [←hul,←husl];exact zck _ husok
       have hVT2:val V<65536 ^ (n+1):=Nat.lt_of_lt_of_le hVT (Nat.pow_le_pow_right (by decide) (by omega))
       have hd0:0<d:=by
        rcases d with _|d
        ·omega
        ·omega
       obtain ⟨d',rfl⟩:∃ d',d=d'+1:=⟨d-1,by omega⟩
       replace k9:=hB9.get0
       have f3:IntKind.u64.wrap (((d'+1:Nat):Int)-1)=(d':Int):=by rw [zbd _ (by omega)];omega
       generalize hD1:((d'+1:Nat):Int)=D1 at *
       refine zaf (by simp [go_sem];rfl) rfl ?_
       refine zzr fun K hK=>?_
       simp [go_sem,g9,k9,f3]
       refine zzs (b:=b9) (off:=0) [.int .u64 d'] rfl zcR hB9 (fun w17 hS17 hB17=>?_) (by simp [go_sem,Value.cells,g9,k9,f3])
       simp [zaw] at hB17
       replace hB:=hB.sto hS17 (by omega)
       replace hs:=hs.sto hS17 (by omega)
       replace hB2:=hB2.sto hS17 (by omega)
       replace hB3:=hB3.sto hS17 (by omega)
       replace hB5:=hB5.sto hS17 (by omega)
       replace hB6:=hB6.sto hS17 (by omega)
       replace hB7:=hB7.sto hS17 (by omega)
       replace hW:=hW.sto2 hS17 (by omega)
       simp [go_sem]
       apply hK;clear hK K
       have hD:Below w17.heap.size w17 w17.drew:=Below.drew1 _
       replace hB:=hB.keep hD
       replace hs:=hs.keep hD
       replace hB2:=hB2.keep hD
       replace hB3:=hB3.keep hD
       replace hB5:=hB5.keep hD
       replace hB6:=hB6.keep hD
       replace hB7:=hB7.keep hD
       replace hB17:=hB17.keep hD
       replace hW:=hW.keep hD
       replace k2:=hB2.get0
       replace k3:=hB3.get0
       replace k5:=hB5.get0
       replace k7:=hB7.get0
       have hEj2:E-j=us.length:=by omega
       refine zbE [(0,0),(1,0),(2,0),(3,0),(4,0),(5,0),(6,0),(7,0),(8,2)] (by kernel_rfl) (by kernel_rfl) (fun K hK=>?_)
       simp [go_sem,g2,g3,g5,g7,k2,k3,k5,k7,f0,f6,hEj2,hcj,q3,q3',q4,q4',za0]
       refine zzc rfl Tryz.call132 (fun R hR=>?_)
       simp [go_sem,g2,g3,g5,g7,k2,k3,k5,k7,f0,f6,hEj2,hcj,q3,q3',q4,q4',za0]
       refine (restore_any Z pre us post V b j (cu-j) a c _ hB husok hs.rd (hs.ne hneV) hplen (by omega) (by omega)).mono ?_
       rintro e w18 ⟨us2,cy,rfl,hus2l,hus2ok,hrest,hB18,hW18⟩
       refine ⟨_,rfl,hR _ _ ?_⟩
       clear hR R
       replace hs:=hs.wr hW18 (by omega)
       replace hB2:=hB2.wr hW18 (by omega)
       replace hB3:=hB3.wr hW18 (by omega)
       replace hB5:=hB5.wr hW18 (by omega)
       replace hB6:=hB6.wr hW18 (by omega)
       replace hB7:=hB7.wr hW18 (by omega)
       replace hB17:=hB17.wr hW18 (by omega)
       replace hW:=hW.trans hW18
       simp [go_sem]
       have hus2T:val us2<65536 ^ (n+1):=by rw [←hul,←husl,←hus2l];exact zck _ hus2ok
       rw [husl,hTe] at hrest
       obtain ⟨_,z1,z2⟩:=dig_back _ _ _ _ _ _ _ hsub husT hlast hrest hus2T hVT2
       rw [Nat.add_sub_cancel] at z1
       apply hK
       exact fin _ _ us2 d' (by simp [go_sem,g2]) (by simp [go_sem,g3]) (by simp [go_sem,g5]) (by simp [go_sem,g6]) (by simp [go_sem,g7]) (by simp [go_sem,g9]) hW hB18 hs hB2 hB3 hB5 hB6 hB7 hB17 (by omega) hus2ok (by omega) z1 z2
def shiftV (x:Nat) (n:Int):Nat:=if n < -1048576∨1048576<n then 0 else if n<0 then x / 2 ^ (-n).toNat else x*2 ^ n.toNat
theorem retN_of_O {w:World} {x:Nat} {e:Ending} {w':World} (h:RetO w x e w'):RetN w (lim x) e w':=by
 obtain ⟨v,rfl,hown,hE⟩:=h
 obtain ⟨a,c,rfl,hr⟩:=RD.of_own hown (zdM x)
 exact ⟨a,c,rfl,hr,hE⟩
theorem shr_any (l:List Nat) (a:Option Addr) (c m:Nat) (w:World) (hr:RD w a c l) (hl:l.length≤zcH) (hm:0<m) (hm2:m≤1048576) :
  Calls Tryz.prog 116 #[.slice a l.length c,.int .i64 (-(m:Int))] w (RetN w (lim (val l / 2 ^ m))):=by
 have hl':l.length≤100000000000:=hl
 have hn1:=zb8 l
 have i1:¬(-(m:Int)) < -1048576:=by omega
 have i2:¬(1048576:Int) < -(m:Int):=by omega
 have i3:(-(m:Int))<0:=by omega
 have i4:IntKind.i64.wrap (-(-(m:Int)))=(m:Int):=by rw [IntWalk.i64_in _ (by omega)];omega
 generalize hN:-(m:Int)=N at *
 refine za5 (args:=[.slice a l.length c,.int .i64 N]) (rs:=[.tmp 4]) (n:=78) Tryz.func116 rfl rfl rfl (by kernel_rfl) ?_
 refine zzr fun K hK=>?_
 simp [go_sem]
 apply hK;clear hK K
 refine zzr fun K hK=>?_
 simp [go_sem]
 refine zzc rfl Tryz.call108 (fun R hR=>?_)
 simp [go_sem]
 refine (zb6 l a c _ hr (by unfold zbZ;omega)).mono ?_
 rintro e w1 ⟨rfl,rfl⟩
 refine ⟨_,rfl,hR _ _ ?_⟩
 clear hR R
 simp [go_sem]
 apply hK;clear hK K
 have hvl:=zc4 l
 replace hr:=hr.nrm
 rw [←hvl]
 generalize nrm l=L at *
 clear hvl
 refine zab (fun K1 hK1=>?_)
 by_cases h0:L.length=0
 ·have e0:L=[]:=List.length_eq_zero_iff.1 h0
  subst e0
  refine zzr fun K hK=>?_
  simp [go_sem,i1,i2]
  apply hK;clear hK K
  refine zaf (by simp [go_sem,i1,i2];rfl) rfl ?_
  refine zzr fun K hK=>?_
  simp [go_sem]
  apply hK;clear hK K
  refine zad ?_
  repeat first|refine za3 ?_|refine za2 ?_
  have hz:lim (val [] / 2 ^ m)=[]:=by simp [val,zap]
  refine ⟨trivial,none,0,?_,?_,Below.refl _ _⟩
  ·rw [hz];simp [go_sem,zar,zam]
  ·rw [hz];exact RD.nil _ _ _
 ·have h0':¬(L.length:Int)=0:=by omega
  have h0'':¬L=[]:=by intro e;subst e;exact h0 rfl
  refine zzr fun K hK=>?_
  simp [go_sem,i1,i2,h0,h0',h0'']
  apply hK;clear hK K
  refine zaf (by simp [go_sem,i1,i2,h0,h0',h0''];rfl) rfl ?_
  refine za7 ?_
  apply hK1;clear hK1 K1
  refine zab (fun K1 hK1=>?_)
  refine zzr fun K hK=>?_
  simp [go_sem,i3]
  apply hK;clear hK K
  refine zaf (by simp [go_sem,i3];rfl) rfl ?_
  refine zzr fun K hK=>?_
  simp [go_sem,i4]
  refine zzc rfl Tryz.call129 (fun R hR=>?_)
  simp [go_sem,i4]
  refine (right_any L a c m _ hr (by unfold zbZ;omega) hm2).mono ?_
  rintro e w2 ⟨a2,c2,rfl,hr2,hE2⟩
  refine ⟨_,rfl,hR _ _ ?_⟩
  clear hR R
  simp [go_sem]
  apply hK;clear hK K
  refine zad ?_
  repeat first|refine za3 ?_|refine za2 ?_
  refine ⟨trivial,a2,c2,?_,hr2,hE2⟩
  simp [go_sem,zar,zam]
theorem shout_any (l:List Nat) (a:Option Addr) (c:Nat) (N:Int) (w:World) (hr:RD w a c l) (hl:l.length≤zcH) (hN:N < -1048576∨1048576<N) :
  Calls Tryz.prog 116 #[.slice a l.length c,.int .i64 N] w (RetN w []):=by
 have hl':l.length≤100000000000:=hl
 refine za5 (rs:=[.tmp 4]) (n:=78) Tryz.func116 rfl rfl rfl (by kernel_rfl) ?_
 refine zzr fun K hK=>?_
 simp [go_sem]
 apply hK;clear hK K
 refine zzr fun K hK=>?_
 simp [go_sem]
 refine zzc rfl Tryz.call108 (fun R hR=>?_)
 simp [go_sem]
 refine (zb6 l a c _ hr (by unfold zbZ;omega)).mono ?_
 rintro e w1 ⟨rfl,rfl⟩
 refine ⟨_,rfl,hR _ _ ?_⟩
 clear hR R
 simp [go_sem]
 apply hK;clear hK K
 replace hr:=hr.nrm
 generalize nrm l=L at *
 refine zab (fun K1 hK1=>?_)
 by_cases h1:N < -1048576
 ·refine zzr fun K hK=>?_
  simp [go_sem,h1]
  apply hK;clear hK K
  refine zaf (by simp [go_sem,h1];rfl) rfl ?_
  refine zzr fun K hK=>?_
  simp [go_sem]
  apply hK;clear hK K
  refine zad ?_
  repeat first|refine za3 ?_|refine za2 ?_
  exact ⟨trivial,none,0,by simp [go_sem,zar,zam],RD.nil _ _ _,Below.refl _ _⟩
 ·have h2:1048576<N:=by omega
  refine zzr fun K hK=>?_
  simp [go_sem,h1,h2]
  apply hK;clear hK K
  refine zaf (by simp [go_sem,h1,h2];rfl) rfl ?_
  refine zzr fun K hK=>?_
  simp [go_sem]
  apply hK;clear hK K
  refine zad ?_
  repeat first|refine za3 ?_|refine za2 ?_
  exact ⟨trivial,none,0,by simp [go_sem,zar,zam],RD.nil _ _ _,Below.refl _ _⟩
theorem shift_any (l:List Nat) (a:Option Addr) (c:Nat) (N:Int) (w:World) (hr:RD w a c l) (hl:l.length≤zcH) :
  Calls Tryz.prog 116 #[.slice a l.length c,.int .i64 N] w (RetN w (lim (shiftV (val l) N))):=by
 unfold shiftV
 by_cases h1:N < -1048576∨1048576<N
 ·rw [if_pos h1,zap];exact shout_any l a c N w hr hl h1
 ·rw [if_neg h1]
  by_cases h2:N<0
  ·rw [if_pos h2]
   obtain ⟨m,rfl⟩:∃ m:Nat,N = -(m:Int):=⟨(-N).toNat,by omega⟩
   have e:(- -(m:Int)).toNat=m:=by omega
   rw [e];exact shr_any l a c m w hr hl (by omega) (by omega)
  ·rw [if_neg h2]
   obtain ⟨m,rfl⟩:∃ m:Nat,N=(m:Int):=⟨N.toNat,by omega⟩
   have e:((m:Int)).toNat=m:=by omega
   rw [e];exact (shl_any l a c m w hr hl (by omega)).mono (fun _ _=>retN_of_O)
theorem lt_blen (n:Nat):n<2 ^ ze9 n:=by
 induction n using Nat.strongRecOn with
 | _ n ih =>
  by_cases h:n=0
  ·subst h;rw [blen_0];decide
  ·rw [zer n h,Nat.pow_succ]
   have:=ih (n / 2) (by omega)
   omega
theorem lim_length (x k:Nat) (h1:65536 ^ k≤x) (h2:x<65536 ^ (k+1)):(lim x).length=k+1:=by
 have a:=zbx (k+1) x h2
 rcases Nat.lt_or_ge (lim x).length (k+1) with h|h
 ·have b:=zck _ (zdM x)
  rw [zao] at b
  have c:65536 ^ (lim x).length≤65536 ^ k:=Nat.pow_le_pow_right (by decide) (by omega)
  omega
 ·omega
theorem lim_top (x k:Nat) (h:(lim x).length=k+1):lat (lim x) k≠0:=by
 have:=nrm_top (lim x) k (by rw [nrm_lim];exact h)
 rw [nrm_lim] at this
 exact this
theorem norm_div (M:List Nat) (k s:Nat) (hok:Ok M) (hM:nrm M=M) (hk:M.length=k+1) (hs:s+ze9 (lat M k)=16):65536 ^ k≤val M*2 ^ s∧val M*2 ^ s<65536 ^ (k+1)∧65536 ^ k≤val M:=by
 have a:=val_len M hok k (by rw [hM];exact hk)
 have e:val M=val (M.take k)+65536 ^ k*lat M k:=by
  have:=zba M k
  rw [List.take_of_length_le (by omega)] at this
  exact this
 have b:=zea M hok k
 have c:=lt_blen (lat M k)
 have d:(lat M k+1)*2 ^ s≤2 ^ ze9 (lat M k)*2 ^ s:=Nat.mul_le_mul_right _ c
 rw [←Nat.pow_add,Nat.add_comm (ze9 _) s,hs] at d
 refine ⟨Nat.le_trans a (Nat.le_mul_of_pos_right _ (Nat.pow_pos (by decide))),?_,a⟩
 have f:val M<65536 ^ k*(lat M k+1):=by rw [Nat.mul_add];omega
 have g:val M*2 ^ s<65536 ^ k*(lat M k+1)*2 ^ s:=Nat.mul_lt_mul_of_pos_right f (Nat.pow_pos (by decide))
 rw [Nat.mul_assoc] at g
 have h:65536 ^ k*((lat M k+1)*2 ^ s)≤65536 ^ k*65536:=Nat.mul_le_mul_left _ d
 rw [Nat.pow_succ]
 omega
theorem norm_num (A la s:Nat) (hA:A<65536 ^ la) (hl:65536 ^ la≤A*65536) (hs:s<16):∃ Lu r,lim (A*2 ^ s)++[0,0]=Lu++r∧Lu.length=la+1∧val Lu=A*2 ^ s∧Ok Lu:=by
 have p:2 ^ s≤2 ^ 15:=Nat.pow_le_pow_right (by decide) (by omega)
 have p1:1≤2 ^ s:=Nat.pow_pos (by decide)
 have a:A*2 ^ s<65536 ^ (la+1):=by
  have h1:A*2 ^ s≤A*65536:=Nat.mul_le_mul_left _ (by omega)
  have h2:A*65536<65536 ^ la*65536:=Nat.mul_lt_mul_of_pos_right hA (by decide)
  rw [Nat.pow_succ];omega
 have ok:Ok (lim (A*2 ^ s)++[0,0]):=(zdM _).app (Ok.cons (by decide) (Ok.cons (by decide) Ok.nil))
 have vv:val (lim (A*2 ^ s)++[0,0])=A*2 ^ s:=by
  rw [ze7,zao];simp [val]
 have len:la≤(lim (A*2 ^ s)).length+1:=by
  rcases Nat.lt_or_ge ((lim (A*2 ^ s)).length+1) la with h|h
  ·have b:=zck _ (zdM (A*2 ^ s))
   rw [zao] at b
   have c:A*1≤A*2 ^ s:=Nat.mul_le_mul_left _ p1
   have d:65536 ^ ((lim (A*2 ^ s)).length+1+1)≤65536 ^ la:=Nat.pow_le_pow_right (by decide) h
   rw [Nat.pow_succ,Nat.pow_succ] at d
   omega
  ·exact h
 refine ⟨(lim (A*2 ^ s)++[0,0]).take (la+1),(lim (A*2 ^ s)++[0,0]).drop (la+1),(List.take_append_drop _ _).symm,?_,?_,ok.take _⟩
 ·rw [List.length_take,List.length_append];simp;omega
 ·rw [val_take_full _ ok _ (by rw [vv];exact a),vv]
theorem top_small (A B la n s:Nat) (hA:A<65536 ^ la) (hB:65536 ^ n≤B) (hn:n≤la):A*2 ^ s / 65536 ^ (la-n)<B*2 ^ s:=by
 rw [Nat.div_lt_iff_lt_mul (Nat.pow_pos (by decide)),Nat.mul_right_comm]
 refine Nat.mul_lt_mul_of_pos_right (Nat.lt_of_lt_of_le hA ?_) (Nat.pow_pos (by decide))
 have:65536 ^ n*65536 ^ (la-n)≤B*65536 ^ (la-n):=Nat.mul_le_mul_right _ hB
 rw [←Nat.pow_add] at this
 have e:n+(la-n)=la:=by omega
 rw [e] at this;exact this
theorem own_block {w:World} {base n:Nat} {e:TypeId} {v:Value} {xs:List Value} (h:w.ownsRow base e 1 v n xs) (hn:0<n):∃ g cap Z,v = .slice (some ⟨g,0,none⟩) n cap∧base≤g∧Bx w g (xs++Z).toArray e∧n≤cap:=by
 rcases h.2 with ⟨_,h2⟩|⟨g,cap,cur,hv,hb,hg,hle,_,_,ht⟩
 ·omega
 ·refine ⟨g,cap,cur.toList.drop n,hv,hb,⟨?_⟩,hle⟩
  rw [Nat.mul_one] at ht
  rw [hg,←ht,List.take_append_drop]
theorem shiftV_neg (x s:Nat) (hs:s≤16):shiftV (x*2 ^ s) (-(s:Int))=x:=by
 unfold shiftV
 rw [if_neg (by omega)]
 by_cases h:(-(s:Int))<0
 ·rw [if_pos h]
  have e:(- -(s:Int)).toNat=s:=by omega
  rw [e,Nat.mul_div_cancel _ (Nat.pow_pos (by decide))]
 ·rw [if_neg h]
  have e:s=0:=by omega
  subst e
  simp
theorem divmod2_any (l m:List Nat) (a b:Option Addr) (c d:Nat) (w:World) (hr:RD w a c l) (hs:RD w b d m) (hl:l.length+1≤zcH) (hm:m.length≤zcH) (h2:2≤(nrm m).length) :
  Calls Tryz.prog 98 #[.slice a l.length c,.slice b m.length d] w (DivPost w (val l) (val m)):=by
 have hl':l.length+1≤100000000000:=hl
 have hm':m.length≤100000000000:=hm
 have hn1:=zb8 l
 have hn2:=zb8 m
 have hlB:l.length≤zbZ:=by unfold zbZ;omega
 have hmB:m.length≤zbZ:=by unfold zbZ;omega
 refine za5 (rs:=[.tmp 4,.tmp 5,.tmp 6]) (n:=71) Tryz.func98 rfl rfl rfl (by kernel_rfl) ?_
 refine zzr fun K hK=>?_
 simp [go_sem]
 apply hK;clear hK K
 refine zzr fun K hK=>?_
 simp [go_sem]
 refine zzc rfl Tryz.call108 (fun R hR=>?_)
 simp [go_sem]
 refine (zb6 l a c _ hr hlB).mono ?_
 rintro e w1 ⟨rfl,rfl⟩
 refine ⟨_,rfl,hR _ _ ?_⟩
 clear hR R
 simp [go_sem]
 refine zzc rfl Tryz.call108 (fun R hR=>?_)
 simp [go_sem]
 refine (zb6 m b d _ hs hmB).mono ?_
 rintro e w1 ⟨rfl,rfl⟩
 refine ⟨_,rfl,hR _ _ ?_⟩
 clear hR R
 simp [go_sem]
 apply hK;clear hK K
 replace hr:=hr.nrm
 replace hs:=hs.nrm
 have hvl:=zc4 l
 have hvm:=zc4 m
 have hll:=nrm_idem l
 have hmm:=nrm_idem m
 rw [←hvl,←hvm]
 generalize nrm l=L at *
 generalize nrm m=M at *
 have hLB:L.length≤zbZ:=by unfold zbZ;omega
 have hMB:M.length≤zbZ:=by unfold zbZ;omega
 refine zab (fun K1 hK1=>?_)
 refine zac ?_
 refine zzr fun K hK=>?_
 simp [go_sem]
 apply hK;clear hK K
 have h0:¬M.length=0:=by omega
 have h0':¬(M.length:Int)=0:=by omega
 have h0'':¬M=[]:=by intro e;subst e;exact h0 rfl
 obtain ⟨k,hk⟩:∃ k,M.length=k+2:=⟨M.length-2,by omega⟩
 have hBk:=val_len M hs.ok (k+1) (by rw [hmm];exact hk)
 have hv0:val M≠0:=by
  have:0<65536 ^ (k+1):=Nat.pow_pos (by decide)
  omega
 refine zaf (by simp [go_sem,h0,h0',h0''];rfl) rfl ?_
 refine zzr fun K hK=>?_
 simp [go_sem]
 refine zzc rfl Tryz.call113 (fun R hR=>?_)
 simp [go_sem]
 refine (cmp_any L M a b c d _ hr hs hLB hMB).mono ?_
 rintro e w2 ⟨rfl,hE2⟩
 refine ⟨_,rfl,hR _ _ ?_⟩
 clear hR R
 replace hr:=hr.ext hE2
 replace hs:=hs.ext hE2
 simp [go_sem]
 apply hK;clear hK K
 by_cases hlt:val L<val M
 ·have hc:=cmpV_lt hlt
  refine zaf (by simp [go_sem,hc];rfl) rfl ?_
  refine zzr fun K hK=>?_
  simp [go_sem]
  refine zzc rfl Tryz.call94 (fun R hR=>?_)
  simp [go_sem]
  refine (norm_any L a c _ hr hLB).mono ?_
  rintro e w3 ⟨a3,c3,rfl,hr3,hE3⟩
  refine ⟨_,rfl,hR _ _ ?_⟩
  clear hR R
  simp [go_sem]
  apply hK;clear hK K
  refine zad ?_
  repeat first|refine za3 ?_|refine za2 ?_
  refine ⟨trivial,.inr ⟨hv0,none,0,a3,c3,?_,?_,?_,hE2.next hE3⟩⟩
  ·rw [Nat.div_eq_of_lt hlt,Nat.mod_eq_of_lt hlt,zap,zaO L hr.ok]
   simp [go_sem,zar,zam]
  ·rw [Nat.div_eq_of_lt hlt,zap];exact RD.nil _ _ _
  ·rw [Nat.mod_eq_of_lt hlt,zaO L hr.ok];exact hr3
 ·have hc:¬cmpV (val L) (val M)<0:=by unfold cmpV;rw [if_neg hlt];split<;>omega
  have hML:M.length≤L.length:=by
   rcases Nat.lt_or_ge L.length M.length with h|h
   ·exact absurd (len_lt_val L M hr.ok hs.ok (by rw [hll,hmm];exact h)) hlt
   ·exact h
  have hM1:¬M.length=1:=by omega
  have hM1':¬(M.length:Int)=1:=by omega
  refine zaf (by simp [go_sem,hc];rfl) rfl ?_
  refine zzr fun K hK=>?_
  simp [go_sem]
  apply hK;clear hK K
  refine zaf (by simp [go_sem,hM1,hM1'];rfl) rfl ?_
  refine za7 ?_
  apply hK1;clear hK1 K1
  have htop:lat M (k+1)≠0:=by
   have:=nrm_top M (k+1) (by rw [hmm];exact hk)
   rw [hmm] at this;exact this
  have htx:=zb9 hs.ok (k+1)
  have hb16:=blen_le 16 (lat M (k+1)) (by omega)
  have hb1:1≤ze9 (lat M (k+1)):=by rw [zer _ htop];omega
  obtain ⟨s,hse⟩:∃ s,s=16-ze9 (lat M (k+1)):=⟨_,rfl⟩
  obtain ⟨nd1,nd2,nd3⟩:=norm_div M (k+1) s hs.ok hmm hk (by omega)
  obtain ⟨c1,c2⟩:=hs.at (i:=k+1) (by omega)
  have p1:IntKind.i64.wrap ((M.length:Int)-1)=((k+1:Nat):Int):=by rw [IntWalk.i64_in _ (by omega)];omega
  obtain ⟨k1,hk1⟩:∃ k1,k1=k+1:=⟨_,rfl⟩
  rw [←hk1] at c1 p1 htop htx hb16 hb1 hse nd1 nd2 nd3 hBk
  have p2:k1<M.length:=by omega
  have p2':(k1:Int)<M.length:=by omega
  generalize lat M k1=top at *
  refine zzr fun K hK=>?_
  simp [go_sem,c1,c2,p1,p2,p2']
  refine zzc rfl Tryz.call115 (fun R hR=>?_)
  simp [go_sem,c1,c2,p1,p2,p2']
  refine (lz16_any top _ htx).mono ?_
  rintro e w3 ⟨rfl,rfl⟩
  refine ⟨_,rfl,hR _ _ ?_⟩
  clear hR R
  rw [←hse]
  simp [go_sem]
  apply hK;clear hK K
  have hsl:s<16:=by omega
  have hLS:L.length≤zcH:=by omega
  have hMS:M.length≤zcH:=by omega
  have hAl:=zck L hr.ok
  obtain ⟨Lu,r,hLu1,hLu2,hLu3,hLu4⟩:=norm_num (val L) L.length s hAl (by
   rcases hl0:L.length with _|la
   ·omega
   ·have:=val_len L hr.ok la (by rw [hll];exact hl0)
    rw [Nat.pow_succ];omega) hsl
  have hlen2:(lim (val L*2 ^ s)).length+2=Lu.length+r.length:=by
   have:=congrArg List.length hLu1
   simpa using this
  have hlX:(lim (val L*2 ^ s)).length≤L.length+1:=by
   refine zbx _ _ ?_
   have h1:val L*2 ^ s≤val L*65536:=Nat.mul_le_mul_left _ (by
    have:2 ^ s≤2 ^ 16:=Nat.pow_le_pow_right (by decide) (by omega)
    omega)
   rw [Nat.pow_succ];omega
  refine zzr fun K hK=>?_
  simp [go_sem]
  refine zzc rfl Tryz.call116 (fun R hR=>?_)
  simp [go_sem]
  refine (shl_any L a c s _ hr hLS (by omega)).mono ?_
  rintro e w4 ⟨v4,rfl,hown4,hE4⟩
  refine ⟨_,rfl,hR _ _ ?_⟩
  clear hR R
  simp [go_sem]
  refine zak #[.int .u16 0,.int .u16 0] (by simp [go_sem]) rfl ty_slZ23 (by decide) [(0,.int .u16 0),(1,.int .u16 0)] (by simp [go_sem]) (by kernel_rfl) (fun w5 b5 hE5 hle5 hB5=>?_)
  have hown5:=own_keep hown4 hE5
  have hE:=hE4.next hE5
  simp [go_sem]
  refine zbv (v:=v4) (b:=b5) (len:=2) (c:=2) hB5 (by simp [go_sem]) rfl zaT zaK rfl (by decide) (by simp [go_sem]) (by simp [go_sem]) hown5 rfl (by simp [Value.oneCell']) (by unfold maxLen;omega) (by omega) (Nat.le_trans hE4.size hE5.size) (by decide) (fun v6 w6 hown6 hg6 _=>?_)
  replace hE:=hE.nextG hg6 (fun k e=>(hown5.lt k e).1)
  clear hown4 hown5 hE4 hE5 hB5 hg6
  obtain ⟨g6,cap,Z,rfl,hg6b,hB6,hcap⟩:=own_block hown6 (by omega)
  clear hown6
  have e1:lmC (lim (val L*2 ^ s))++(#[Value.int .u16 0,Value.int .u16 0]:Array Value).toList=lmC Lu++lmC r:=by
   rw [←lmC_app,←hLu1,lmC_app];rfl
  rw [e1,List.append_assoc] at hB6
  clear e1
  generalize lmC r++Z=Z' at *
  replace hr:=hr.ext hE
  replace hs:=hs.ext hE
  have p3:IntKind.i64.wrap ((L.length:Int)+1)=(Lu.length:Int):=by rw [IntWalk.i64_in _ (by omega)];omega
  have p4:Lu.length≤cap:=by omega
  have p4':(Lu.length:Int)≤cap:=by omega
  simp [go_sem,p3,p4,p4',za0]
  apply hK;clear hK K
  refine zzr fun K hK=>?_
  simp [go_sem]
  refine zzc rfl Tryz.call116 (fun R hR=>?_)
  simp [go_sem]
  refine (shl_any M b d s _ hs hMS (by omega)).mono ?_
  rintro e w7 ⟨v7,rfl,hown7,hE7⟩
  refine ⟨_,rfl,hR _ _ ?_⟩
  clear hR R
  have hVl:(lim (val M*2 ^ s)).length=k+2:=by rw [lim_length _ k1 nd1 nd2,hk1]
  have hVt:lat (lim (val M*2 ^ s)) (k+1)≠0:=lim_top _ _ hVl
  have hVv:=zao (val M*2 ^ s)
  have hVok:=zdM (val M*2 ^ s)
  obtain ⟨g7,cap7,Z7,rfl,hg7b,hB7,hcap7⟩:=own_block hown7 (by omega)
  have hg6l:=hB6.lt
  replace hB6:=hB6.keep hE7
  replace hE:=hE.next hE7
  have hV:RB w7 g7 (some ⟨g7,0,none⟩) cap7 (lim (val M*2 ^ s)):=⟨RD.of_bx hB7 hVok hcap7,fun ad ha _=>by injection ha with ha;subst ha;rfl⟩
  have hg7l:=hB7.lt
  clear hown7 hE7 hB7
  simp [go_sem]
  apply hK;clear hK K
  generalize lim (val M*2 ^ s)=V at *
  have htopz:val (Lu.drop (Lu.length-(k+2)))<val V:=by
   rw [zcl _ _ hLu4,hLu3,hVv]
   have e:Lu.length-(k+2)=L.length-k1:=by omega
   rw [e]
   exact top_small _ _ _ _ _ hAl nd3 (by omega)
  refine zzr fun K hK=>?_
  simp [go_sem]
  rw [show V.length=V.length from rfl]
  refine zzc rfl Tryz.call117 (fun R hR=>?_)
  simp [go_sem]
  refine (long_any Z' Lu V g6 cap g7 (k+2) k _ cap7 _ hB6 hLu4 hV (by omega) hg7l hVl rfl hVt (by omega) htopz (by unfold zcH;omega) p4).mono ?_
  rintro e w8 ⟨a8,c8,L',rfl,hr8,hL'l,hL'ok,hL'v,hB8,hW8⟩
  refine ⟨_,rfl,hR _ _ ?_⟩
  clear hR R
  replace hE:=hE.wr hW8 hg6b
  have hdiv:val Lu / val V=val L / val M:=by rw [hLu3,hVv,Nat.mul_div_mul_right _ _ (Nat.pow_pos (by decide))]
  have hmod:val L'=val L % val M*2 ^ s:=by rw [hL'v,hLu3,hVv,Nat.mul_mod_mul_right]
  rw [hdiv] at hr8
  rw [hdiv]
  simp [go_sem]
  apply hK;clear hK K
  have hr9:RD w8 (some ⟨g6,0,none⟩) cap L':=RD.of_bx hB8 hL'ok (by omega)
  have hshift:val (nrm L')=val L % val M*2 ^ s:=by rw [zc4,hmod]
  have hn9:=zb8 L'
  have hlB9:L'.length≤zbZ:=by unfold zbZ;omega
  have hlS9:(nrm L').length≤zcH:=by unfold zcH;omega
  rw [←hL'l]
  refine zzr fun K hK=>?_
  simp [go_sem]
  refine zzc rfl Tryz.call108 (fun R hR=>?_)
  simp [go_sem]
  refine (zb6 L' _ _ _ hr9 hlB9).mono ?_
  rintro e w9 ⟨rfl,rfl⟩
  refine ⟨_,rfl,hR _ _ ?_⟩
  clear hR R
  replace hr9:=hr9.nrm
  simp [go_sem]
  have hsv:=shiftV_neg (val L % val M) s (by omega)
  have p5:IntKind.i64.wrap (-(s:Int)) = -(s:Int):=IntWalk.i64_in _ (by omega)
  rw [←hshift] at hsv
  have hcall:=shift_any (nrm L') _ _ (-(s:Int)) _ hr9 hlS9
  rw [hsv] at hcall
  generalize -(s:Int)=ns at *
  simp [go_sem,p5]
  refine zzc rfl Tryz.call116 (fun R hR=>?_)
  simp [go_sem,p5]
  refine (hcall).mono ?_
  rintro e w10 ⟨a10,c10,rfl,hr10,hE10⟩
  refine ⟨_,rfl,hR _ _ ?_⟩
  clear hR R
  replace hr8:=hr8.ext hE10
  replace hE:=hE.next hE10
  simp [go_sem]
  apply hK;clear hK K
  refine zad ?_
  repeat first|refine za3 ?_|refine za2 ?_
  refine ⟨trivial,.inr ⟨hv0,a8,c8,a10,c10,?_,hr8,hr10,hE2.next hE⟩⟩
  simp [go_sem,zar,zam]
theorem divmod_any (l m:List Nat) (a b:Option Addr) (c d:Nat) (w:World) (hr:RD w a c l) (hs:RD w b d m) (hl:l.length+1≤zcH) (hm:m.length≤zcH) :
  Calls Tryz.prog 98 #[.slice a l.length c,.slice b m.length d] w (DivPost w (val l) (val m)):=by
 have hl':l.length+1≤100000000000:=hl
 have hm':m.length≤100000000000:=hm
 by_cases h:(nrm m).length≤1
 ·exact divmod1_any l m a b c d w hr hs (by unfold zbZ;omega) (by unfold zbZ;omega) h
 ·exact divmod2_any l m a b c d w hr hs hl hm (by omega)
end Go.Proofs.YtefhenfofomjhaaGreat
