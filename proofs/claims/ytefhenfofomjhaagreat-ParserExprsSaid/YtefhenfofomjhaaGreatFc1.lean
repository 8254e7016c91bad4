/- Facts: Arity, Right. -/
import Derived.Test.YtefhenfofomjhaaGreatRs2
import Derived.Lib.Bytealg
import Derived.Test.YtefhenfofomjhaaGreatPt4
import Derived.Test.YtefhenfofomjhaaGreatIn9
import Derived.ChangeSlices
import Derived.ChangeSame
import Derived.Test.YtefhenfofomjhaaGreatRa2
set_option linter.unusedSimpArgs false
set_option linter.unusedVariables false
namespace Go.Proofs.YtefhenfofomjhaaGreat
open Go Go.RowKit Go.V
set_option maxRecDepth 20000
def slk:List UInt8→Nat
 | []=>0
 | b::l=>if b=47 then 0 else slk l+1
theorem slk_le:∀ l:List UInt8,slk l≤l.length
 | []=>Nat.le_refl _
 | b::l=>by
  have:=slk_le l
  unfold slk
  split<;>simp<;>omega
theorem index_slk:∀ l:List UInt8,Lib.indexByte l 47=if slk l<l.length then (slk l:Int) else -1
 | []=>rfl
 | b::l=>by
  have ih:=index_slk l
  have h0:=slk_le l
  show (if (b == 47)=true then (0:Int) else if (Lib.indexByte l 47 == -1)=true then -1 else Lib.indexByte l 47+1)=if (if b=47 then 0 else slk l+1)<(b::l).length then ((if b=47 then 0 else slk l+1:Nat):Int) else -1
  by_cases hb:b=47
  ·subst hb;simp
  ·have hb':(b == 47)=false:=by simpa using hb
   by_cases h:slk l<l.length
   ·have e:Lib.indexByte l 47=slk l:=by rw [ih,if_pos h]
    have h1:((slk l:Int) == -1)=false:=by simp
    rw [hb',if_neg hb,e,h1]
    simp [h]
   ·have e:Lib.indexByte l 47 = -1:=by rw [ih,if_neg h]
    rw [hb',if_neg hb,e]
    simp [h]
theorem slk_at:∀ (l:List UInt8) (k:Nat),k<slk l→l.getD k 0≠47
 | [],k,h=>by simp [slk] at h
 | b::l,k,h=>by
  unfold slk at h
  split at h
  ·omega
  ·rename_i hb
   cases k with
   | zero=>simpa using hb
   | succ k=>simpa using slk_at l k (by omega)
theorem slk_hit:∀ (l:List UInt8),slk l<l.length→l.getD (slk l) 0=47
 | [],h=>by simp at h
 | b::l,h=>by
  unfold slk at h ⊢
  split
  ·rename_i hb;simpa using hb
  ·rename_i hb
   rw [if_neg hb] at h
   have:=slk_hit l (by simpa using h)
   simpa using this
theorem indexByte_any (s:ByteArray) (w:World):Calls Tryz.prog 86 #[.string s,.int .u8 47] w fun e w'=>e = .returned (.int .i64 (Lib.indexByte (bs s) 47))∧w'=w:=by
 refine za7 (args:=[.string s,.int .u8 47]) (rs:=[.tmp 4]) (n:=8) Tryz.func86 rfl rfl rfl (by kernel_rfl) ?_
 first|refine zzr fun K hK=>?_|refine zzt fun K hK=>?_
 simp [go_sem]
 refine hK _ _ ?_;clear hK K
 first|refine zzr fun K hK=>?_|refine zzt fun K hK=>?_
 simp [go_sem]
 refine hv_ext (by simp [go_sem]) rfl Tryz.func106 (by kernel_rfl) (by kernel_rfl) (by kernel_rfl) (e:=Extern.BytealgIndexByte.indexByte) (by kernel_rfl) (by simp [go_sem];exact Lib.run_indexByteString _ _ _) ?_
 simp [go_sem]
 refine hK _ _ ?_;clear hK K
 refine zaf ?_
 repeat (first|refine za3 ?_|refine za2 ?_)
 exact ⟨trivial,by simp [go_sem,zat,zas];rfl,rfl⟩
theorem sz47:(⟨#[47]⟩:ByteArray).size=1:=rfl
theorem at47:(za9 ⟨#[47]⟩ 0).toNat=47:=rfl
theorem bs47:bs ⟨#[47]⟩=[47]:=rfl
theorem index_any (s:ByteArray) (w:World):Calls Tryz.prog 128 #[.string s,.string ⟨#[47]⟩] w fun e w'=>e = .returned (.int .i64 (Lib.indexByte (bs s) 47))∧w'=w:=by
 refine za7 (args:=[.string s,.string ⟨#[47]⟩]) (rs:=[.tmp 4]) (n:=143) Tryz.func128 rfl rfl rfl (by kernel_rfl) ?_
 first|refine zzr fun K hK=>?_|refine zzt fun K hK=>?_
 simp [go_sem]
 refine hK _ _ ?_;clear hK K
 first|refine zzr fun K hK=>?_|refine zzt fun K hK=>?_
 simp [go_sem,sz47]
 refine hK _ _ ?_;clear hK K
 refine zac (fun K1 hK1=>?_)
 refine zae ?_
 by_cases hq:[47]=bs s
 ·first|refine zzr fun K hK=>?_|refine zzt fun K hK=>?_
  simp [go_sem,bs47,eq_true hq]
  refine hK _ _ ?_;clear hK K
  refine zai (t:=true) (by simp [go_sem]) rfl ?_
  first|refine zzr fun K hK=>?_|refine zzt fun K hK=>?_
  simp [go_sem]
  refine hK _ _ ?_;clear hK K
  refine zaf ?_
  repeat (first|refine za3 ?_|refine za2 ?_)
  refine ⟨trivial,?_,rfl⟩
  simp [go_sem,zat,zas,←hq];rfl
 ·first|refine zzr fun K hK=>?_|refine zzt fun K hK=>?_
  simp [go_sem,bs47,hq]
  refine hK _ _ ?_;clear hK K
  refine zai (t:=false) (by simp [go_sem]) rfl ?_
  first|refine zzr fun K hK=>?_|refine zzt fun K hK=>?_
  simp [go_sem]
  refine hK _ _ ?_;clear hK K
  refine zai (t:=true) (by simp [go_sem]) rfl ?_
  first|refine zzr fun K hK=>?_|refine zzt fun K hK=>?_
  simp [go_sem,at47]
  refine za5 (by simp [go_sem,at47]) rfl Tryz.call86 (fun R hR=>?_)
  simp [go_sem,at47]
  refine (indexByte_any s w).mono ?_
  rintro e w2 ⟨rfl,rfl⟩
  refine ⟨_,rfl,hR _ _ ?_⟩
  clear hR R
  simp [go_sem]
  refine hK _ _ ?_;clear hK K
  refine zaf ?_
  repeat (first|refine za3 ?_|refine za2 ?_)
  refine ⟨trivial,?_,rfl⟩
  simp [go_sem,zat,zas]
def slA (l:List UInt8):List UInt8:=l.take (slk l)
def slB (l:List UInt8):List UInt8:=l.drop (slk l+1)
def slH (l:List UInt8):Bool:=decide (slk l<l.length)
theorem slk_size (s:ByteArray):slk (bs s)≤s.size:=by rw [←zb9];exact slk_le _
theorem bs_ext (s:ByteArray) (a b:Nat):bs (s.extract a b)=((bs s).drop a).take (b-a):=by
 unfold bs
 rw [ByteArray.data_extract,Array.toList_extract,List.extract_eq_take_drop]
def cutV (l:List UInt8):Value:=.tuple #[.string ⟨(slA l).toArray⟩,.string ⟨(slB l).toArray⟩,.bool (slH l)]
theorem ba_of_bs {s:ByteArray} {l:List UInt8} (h:bs s=l):s=⟨l.toArray⟩:=bs_inj (by rw [h,bs_mk])
theorem cutI_any (s:ByteArray) (w:World) (hs:s.size<9223372036854775807):Calls Tryz.prog 107 #[.string s,.string ⟨#[47]⟩] w fun e w'=>e = .returned (cutV (bs s))∧Below w.heap.size w w':=by
 have h0:=slk_size s
 have hi:=index_slk (bs s)
 rw [zb9] at hi
 refine za7 (args:=[.string s,.string ⟨#[47]⟩]) (rs:=[.tmp 4,.tmp 5,.tmp 6]) (n:=23) Tryz.func107 rfl rfl rfl (by kernel_rfl) ?_
 first|refine zzr fun K hK=>?_|refine zzt fun K hK=>?_
 simp [go_sem]
 refine hK _ _ ?_;clear hK K
 refine zac (fun K1 hK1=>?_)
 first|refine zzr fun K hK=>?_|refine zzt fun K hK=>?_
 simp [go_sem]
 refine za5 (by simp [go_sem]) rfl Tryz.call128 (fun R hR=>?_)
 simp [go_sem]
 refine (index_any s w).mono ?_
 rintro e w2 ⟨rfl,rfl⟩
 refine ⟨_,rfl,hR _ _ ?_⟩
 clear hR R
 by_cases h:slk (bs s)<s.size
 ·rw [if_pos h] at hi
  rw [hi]
  obtain ⟨k,hk⟩:∃ k,k=slk (bs s):=⟨_,rfl⟩
  rw [←hk] at h h0 ⊢
  have hw1:IntKind.i64.wrap ((k:Int)+1)=(k:Int)+1:=IntWalk.i64_in _ (by omega)
  simp [go_sem]
  refine hK _ _ ?_;clear hK K
  first|refine zzr fun K hK=>?_|refine zzt fun K hK=>?_
  simp [go_sem]
  refine hK _ _ ?_;clear hK K
  have c0:(0:Int)≤k:=by omega
  refine zai (t:=true) (by simp [go_sem]) rfl ?_
  first|refine W_rd [(0,0),(1,0),(2,0),(3,0),(4,0),(5,0),(6,0),(7,0),(8,0),(9,0),(10,0),(11,0)] (by kernel_rfl) (by kernel_rfl) (fun K hK=>?_)|refine zbG [(0,0),(1,0),(2,0),(3,0),(4,0),(5,0),(6,0),(7,0),(8,0),(9,0),(10,0),(11,0)] (by kernel_rfl) (by kernel_rfl) (fun K hK=>?_)
  simp [go_sem,sz47,hw1,c0]
  refine ⟨h0,⟨by omega,by omega⟩,?_⟩
  refine hK _ _ ?_;clear hK K
  refine zaf ?_
  repeat (first|refine za3 ?_|refine za2 ?_)
  refine ⟨trivial,?_,Below.drew1 _⟩
  simp [go_sem,zat,zas,cutV]
  refine ⟨ba_of_bs ?_,ba_of_bs ?_,?_⟩
  ·rw [bs_ext,slA,←hk];simp
  ·rw [bs_ext,slB,←hk]
   refine List.take_of_length_le ?_
   rw [List.length_drop,zb9];omega
  ·unfold slH;rw [←hk,zb9];exact decide_eq_true h
 ·rw [if_neg h] at hi
  rw [hi]
  simp [go_sem]
  refine hK _ _ ?_;clear hK K
  first|refine zzr fun K hK=>?_|refine zzt fun K hK=>?_
  simp [go_sem]
  refine hK _ _ ?_;clear hK K
  refine zai (t:=false) (by simp [go_sem]) rfl ?_
  refine zaa ?_
  refine hK1 _ _ ?_
  first|refine zzr fun K hK=>?_|refine zzt fun K hK=>?_
  simp [go_sem]
  refine hK _ _ ?_;clear hK K
  refine zaf ?_
  repeat (first|refine za3 ?_|refine za2 ?_)
  refine ⟨trivial,?_,Below.refl _ _⟩
  simp [go_sem,zat,zas,cutV]
  refine ⟨ba_of_bs ?_,?_,?_⟩
  ·unfold slA;rw [List.take_of_length_le (by rw [zb9];omega)]
  ·unfold slB;exact List.drop_eq_nil_of_le (by rw [zb9];omega)
  ·unfold slH;rw [zb9];exact decide_eq_false h
theorem cut_any (s:ByteArray) (w:World) (hs:s.size<9223372036854775807):Calls Tryz.prog 87 #[.string s,.string ⟨#[47]⟩] w fun e w'=>e = .returned (cutV (bs s))∧Below w.heap.size w w':=by
 refine za7 (args:=[.string s,.string ⟨#[47]⟩]) (rs:=[.tmp 4,.tmp 5,.tmp 6]) (n:=13) Tryz.func87 rfl rfl rfl (by kernel_rfl) ?_
 first|refine zzr fun K hK=>?_|refine zzt fun K hK=>?_
 simp [go_sem]
 refine hK _ _ ?_;clear hK K
 first|refine zzr fun K hK=>?_|refine zzt fun K hK=>?_
 simp [go_sem]
 refine za5 (by simp [go_sem]) rfl Tryz.call107 (fun R hR=>?_)
 simp [go_sem]
 refine (cutI_any s w hs).mono ?_
 rintro e w2 ⟨rfl,hE⟩
 refine ⟨_,rfl,hR _ _ ?_⟩
 clear hR R
 simp [go_sem,cutV]
 refine hK _ _ ?_;clear hK K
 refine zaf ?_
 repeat (first|refine za3 ?_|refine za2 ?_)
 refine ⟨trivial,?_,hE⟩
 simp [go_sem,zat,zas,cutV]
def f_cut:List At→Option (List At)
 | [.s l,.s [47]]=>if l.length<9223372036854775807 then some [.s (slA l),.s (slB l),.b (slH l)] else none
 | _=>none
def ct_cut:Ct:={ args:=[[.s],[.s]],res:=[[.s],[.s],[.b]],F:=f_cut,L:=1000000000000,A:=0,B:=0 }
theorem ctF_cut:ct_cut.F=f_cut:=rfl
theorem ok_cut:ct_cut.ok Tryz.prog 87:=by
 intro s w vs als r hs hr hz hF
 obtain ⟨a1,a2,v,u,rfl,rfl,h1,h2⟩:=vs2 hr
 obtain ⟨l,rfl,rfl⟩:=repV_s.1 h1
 obtain ⟨m,rfl,rfl⟩:=repV_s.1 h2
 have hF':f_cut [.s l,.s m]=some r:=hF
 unfold f_cut at hF'
 split at hF'
 ·rename_i l' e1
  simp only [List.cons.injEq,At.s.injEq,and_true] at e1
  obtain ⟨rfl,rfl⟩:=e1
  split at hF'
  ·rename_i hl
   injection hF' with hF';subst hF'
   refine (cut_any ⟨l.toArray⟩ w (by rw [←zb9,bs_mk];exact hl)).mono ?_
   rintro e w' ⟨he,hE⟩
   rw [bs_mk] at he
   exact ret3 (r1:=[At.s _]) (r2:=[At.s _]) (r3:=[At.b _]) rfl he (repV_s.2 ⟨_,rfl,rfl⟩) (repV_s.2 ⟨_,rfl,rfl⟩) (repV_b.2 ⟨_,rfl,rfl⟩) (fun x hx=>by simp at hx;rcases hx with rfl|rfl|rfl<;>exact Nat.zero_le _) hE
  ·cases hF'
 ·cases hF'
theorem RD.nboxR {w:World} {a a1 a2:Option Addr} {c n1 c1 n2 c2 b:Nat} {l:List Nat} {neg:Bool} {t:TypeId} (h:RD w a c l) (hB:Bx w b #[.bool neg,.slice a1 n1 c1,.slice a2 n2 c2] t):∀ ad,a=some ad→l≠[]→ad.block≠b:=by
 intro ad ha hl e
 rcases h.sl with e0|⟨b',off,e1,hc⟩
 ·exact hl (List.map_eq_nil_iff.1 e0)
 ·rw [ha] at e1
  injection e1 with e1
  subst e1
  subst e
  obtain ⟨x,r,rfl⟩:∃ x r,l=x::r:=by
   cases l with
   | nil=>exact absurd rfl hl
   | cons x r=>exact ⟨x,r,rfl⟩
  have h1:=hc 0 (.int .u16 x) rfl
  rw [hB.cell] at h1
  rcases off with _|_|_|off
  ·cases h1
  ·cases h1
  ·cases h1
  ·cases h1
end Go.Proofs.YtefhenfofomjhaaGreat
namespace Go.Proofs.YtefhenfofomjhaaGreat
open Go Go.RowKit Go.V Go.ChangeMaps
set_option maxRecDepth 20000
def f_iread:List At→Option (List At)
 | [.s l]=>some [za (izV l),.n (izE l)]
 | _=>none
theorem izV_len (l:List UInt8):(lim (izV l).natAbs).length≤1001:=by
 unfold izV
 split
 ·rename_i h
  have h0:rdE (izd l)=0:=by
   unfold izE at h
   split at h
   ·rename_i h1;exact absurd h h1
   ·rename_i h1;exact Decidable.of_not_not h1
  have:=rdL_lenI (izd l)
  unfold rdL at this
  rw [if_pos h0] at this
  rw [zc3];omega
 ·rw [show ((0:Int).natAbs)=0 from rfl,zao];simp
theorem ok_read {P:Program} {f L:Nat} (h:∀ s w,Calls P f #[.string s] w (IReadPost w (bs s))):Ct.ok P f { args:=[[.s]],res:=[[.y],[.n]],F:=f_iread,L:=L,A:=0,B:=1001 }:=by
 intro s w vs als r hs hr hsz hF
 obtain ⟨v,rfl,h1⟩:=vs1 hr
 obtain ⟨l,rfl,rfl⟩:=repV_s.1 h1
 injection hF with hF;subst hF
 refine (h ⟨l.toArray⟩ w).mono ?_
 rintro e w' ⟨a,c,he,hr',hE⟩
 rw [bs_mk] at he hr'
 exact ret2 (r1:=[za (izV l)]) (r2:=[.n (izE l)]) rfl he (repV_y.2 ⟨_,_,a,c,rfl,rfl,hr'⟩) (repV_n.2 ⟨_,rfl,rfl⟩) (fun x hx=>by
  simp only [List.cons_append,List.nil_append,List.mem_cons,List.not_mem_nil,or_false] at hx
  rcases hx with rfl|rfl
  ·have:=izV_len l
   simp only [za,At.sz];omega
  ·simp [At.sz]) hE
def ct_iread:Ct:={ args:=[[.s]],res:=[[.y],[.n]],F:=f_iread,L:=1000000000000,A:=0,B:=1001 }
theorem ctF_iread:ct_iread.F=f_iread:=rfl
theorem ok_iread:ct_iread.ok Tryz.prog 88:=ok_read iRead_any
end Go.Proofs.YtefhenfofomjhaaGreat
namespace Go.Proofs.YtefhenfofomjhaaGreat
open Go Go.RowKit Go.V
set_option maxRecDepth 20000
def f_nread:List At→Option (List At)
 | [.s l]=>some [.u (rdL l),.n (rdE l)]
 | _=>none
def ct_nread:Ct:={ args:=[[.s]],res:=[[.u],[.n]],F:=f_nread,L:=1000000000000,A:=0,B:=1001 }
theorem ctF_nread:ct_nread.F=f_nread:=rfl
theorem ok_nread:ct_nread.ok Tryz.prog 90:=by
 intro s w vs als r hs hr hsz hF
 obtain ⟨v,rfl,h1⟩:=vs1 hr
 obtain ⟨l,rfl,rfl⟩:=repV_s.1 h1
 injection hF with hF;subst hF
 refine (read_any ⟨l.toArray⟩ w).mono ?_
 rintro e w' ⟨a,c,he,hr',hE⟩
 rw [bs_mk] at he hr'
 exact ret2 (r1:=[.u (rdL l)]) (r2:=[.n (rdE l)]) rfl he (zdn.2 ⟨_,a,c,rfl,rfl,hr'⟩) (repV_n.2 ⟨_,rfl,rfl⟩) (fun x hx=>by
  simp only [List.cons_append,List.nil_append,List.mem_cons,List.not_mem_nil,or_false] at hx
  rcases hx with rfl|rfl
  ·have:=rdL_lenI l
   show (rdL l).length≤0*s+1001
   omega
  ·simp [At.sz]) hE
def qrE (l:List UInt8):Int:=if izE (slA l)=0 then (if slH l=false then 0 else if rdE (slB l)=0 then (if dv (slB l)=0 then 3 else 0) else rdE (slB l)) else izE (slA l)
def qrV (l:List UInt8):Rat:=if slH l=false then (izV (slA l):Rat) else (izV (slA l):Rat) / (dv (slB l):Rat)
def qrR (l:List UInt8):At:=if qrE l=0 then qa (qrV l) else .r false [] []
def f_qread:List At→Option (List At)
 | [.s l]=>if l.length<9223372036854775807 then some [qrR l,.n (qrE l)] else none
 | _=>none
def GRd:Gam:=gamOf [(87,ct_cut),(88,ct_iread),(90,ct_nread),(81,ct_reduced),(89,ct_unit),(78,ct_qmake)]
theorem GRd_ok:GamOk Tryz.prog GRd:=gamOk_of ⟨ok_cut,ok_iread,ok_nread,ok_reduced,ok_unit,ok_qmake,trivial⟩
theorem GRd_cut:GRd 87=some ct_cut:=rfl
theorem GRd_iread:GRd 88=some ct_iread:=rfl
theorem GRd_nread:GRd 90=some ct_nread:=rfl
theorem zd2:GRd 81=some ct_reduced:=rfl
theorem GRd_unit:GRd 89=some ct_unit:=rfl
theorem GRd_qmake:GRd 78=some ct_qmake:=rfl
def tr_qread:Tr (List SA):=(.call 87 [(.s (.var 0)),(.s (.lit [47]))] 1 (.call 88 [(.s (.var 1))] 4 (.br (.not (.eq (.var 5) (.lit 0))) (.leaf [(.r (.lit false) .nil .nil),(.n (.var 5))]) (.br (.not (.var 3)) (.call 89 [] 6 (.call 81 [(.ob 4),(.u (.var 6 0))] 7 (.leaf [(.ob 7),(.n (.lit 0))]))) (.call 90 [(.s (.var 2))] 6 (.br (.not (.eq (.var 7) (.lit 0))) (.leaf [(.r (.lit false) .nil .nil),(.n (.var 7))]) (.call 78 [(.ob 4),(.y (.lit false) (.var 6 0))] 8 (.leaf [(.ob 8),(.n (.var 9))]))))))))
theorem ev_qread:Ct.ok Tryz.prog 75 { args:=[[.s]],res:=[[.r],[.n]],F:=fun als=>tr_qread.den GRd (zcX als),L:=1000,A:=0,B:=1005 } :=
 top_ok (by kernel_rfl) GRd_ok (plans:=planF) (lf:=60) (k:=20) (by kernel_rfl)
theorem qread_den (l:List UInt8) (h:l.length<9223372036854775807):tr_qread.den GRd (zcX [.s l])=some [qrR l,.n (qrE l)]:=by
 unfold qrR
 by_cases h1:izE (slA l)=0
 ·by_cases h2:slH l=false
  ·have e1:qrE l=0:=by unfold qrE;rw [if_pos h1,if_pos h2]
   have e2:qrV l=(izV (slA l):Rat):=if_pos h2
   rw [e1,if_pos rfl,e2]
   simp only [tr_qread,Tr.den,zbD,SA.ev,BE.ev,IE.ev,SE.ev,LE.ev,zcX,zb0,zcD,evN,evB,evS,zcb,zcr,zcn,At.len,At.bit,At.lst,op1,op2,op3,Nat.reduceLeDiff,Nat.reduceSub,Nat.reduceEqDiff,if_true,if_false,ite_true,ite_false,decide_true,decide_false,Bool.not_true,Bool.not_false,Nat.zero_le,Nat.sub_zero,List.getElem?_cons_zero,List.getElem?_cons_succ,List.getElem?_nil,GRd_cut,ctF_cut,GRd_iread,ctF_iread,GRd_nread,ctF_nread,zd2,zaA,GRd_unit,zaH,GRd_qmake,ctF_qmake,f_yur,f_un,f_uu,f_ub,f_yb,f_yn,f_yyn,f_yyy,f_uuu,f_yy,f_idiv,f_iof,f_nof,f_sqrt,f_uub,na,za,zcu,zb1,zbw,zcv,zcl,zcc,zap,zbE,zaI,decide_eq_true_eq,f_cut,if_pos h,f_iread,f_nread,eq_true h1,h2,Rat.mkRat_one]
  ·have h2':slH l=true:=by simpa using h2
   by_cases h3:rdE (slB l)=0
   ·by_cases h4:dv (slB l)=0
    ·have h4i:((dv (slB l):Nat):Int)=0:=by omega
     have e1:qrE l=3:=by unfold qrE;rw [if_pos h1,if_neg h2,if_pos h3,if_pos h4]
     rw [e1,if_neg (by decide)]
     have e3:rdL (slB l)=lim (dv (slB l)):=if_pos h3
     simp only [tr_qread,Tr.den,zbD,SA.ev,BE.ev,IE.ev,SE.ev,LE.ev,zcX,zb0,zcD,evN,evB,evS,zcb,zcr,zcn,At.len,At.bit,At.lst,op1,op2,op3,Nat.reduceLeDiff,Nat.reduceSub,Nat.reduceEqDiff,if_true,if_false,ite_true,ite_false,decide_true,decide_false,Bool.not_true,Bool.not_false,Nat.zero_le,Nat.sub_zero,List.getElem?_cons_zero,List.getElem?_cons_succ,List.getElem?_nil,GRd_cut,ctF_cut,GRd_iread,ctF_iread,GRd_nread,ctF_nread,zd2,zaA,GRd_unit,zaH,GRd_qmake,ctF_qmake,f_yur,f_un,f_uu,f_ub,f_yb,f_yn,f_yyn,f_yyy,f_uuu,f_yy,f_idiv,f_iof,f_nof,f_sqrt,f_uub,na,za,zcu,zb1,zbw,zcv,zcl,zcc,zap,zbE,zaI,decide_eq_true_eq,f_cut,if_pos h,f_iread,f_nread,f_qmake,eq_true h1,h2',eq_true h3,e3,eq_true h4i]
    ·have h4i:¬((dv (slB l):Nat):Int)=0:=by omega
     have e1:qrE l=0:=by unfold qrE;rw [if_pos h1,if_neg h2,if_pos h3,if_neg h4]
     have e2:qrV l=(izV (slA l):Rat) / (dv (slB l):Rat):=if_neg h2
     rw [e1,if_pos rfl,e2]
     have e3:rdL (slB l)=lim (dv (slB l)):=if_pos h3
     simp only [tr_qread,Tr.den,zbD,SA.ev,BE.ev,IE.ev,SE.ev,LE.ev,zcX,zb0,zcD,evN,evB,evS,zcb,zcr,zcn,At.len,At.bit,At.lst,op1,op2,op3,Nat.reduceLeDiff,Nat.reduceSub,Nat.reduceEqDiff,if_true,if_false,ite_true,ite_false,decide_true,decide_false,Bool.not_true,Bool.not_false,Nat.zero_le,Nat.sub_zero,List.getElem?_cons_zero,List.getElem?_cons_succ,List.getElem?_nil,GRd_cut,ctF_cut,GRd_iread,ctF_iread,GRd_nread,ctF_nread,zd2,zaA,GRd_unit,zaH,GRd_qmake,ctF_qmake,f_yur,f_un,f_uu,f_ub,f_yb,f_yn,f_yyn,f_yyy,f_uuu,f_yy,f_idiv,f_iof,f_nof,f_sqrt,f_uub,na,za,zcu,zb1,zbw,zcv,zcl,zcc,zap,zbE,zaI,decide_eq_true_eq,f_cut,if_pos h,f_iread,f_nread,f_qmake,eq_true h1,h2',eq_true h3,e3,h4i,Rat.intCast_natCast]
   ·have e1:qrE l=rdE (slB l):=by unfold qrE;rw [if_pos h1,if_neg h2,if_neg h3]
    rw [e1,if_neg h3]
    simp only [tr_qread,Tr.den,zbD,SA.ev,BE.ev,IE.ev,SE.ev,LE.ev,zcX,zb0,zcD,evN,evB,evS,zcb,zcr,zcn,At.len,At.bit,At.lst,op1,op2,op3,Nat.reduceLeDiff,Nat.reduceSub,Nat.reduceEqDiff,if_true,if_false,ite_true,ite_false,decide_true,decide_false,Bool.not_true,Bool.not_false,Nat.zero_le,Nat.sub_zero,List.getElem?_cons_zero,List.getElem?_cons_succ,List.getElem?_nil,GRd_cut,ctF_cut,GRd_iread,ctF_iread,GRd_nread,ctF_nread,zd2,zaA,GRd_unit,zaH,GRd_qmake,ctF_qmake,f_yur,f_un,f_uu,f_ub,f_yb,f_yn,f_yyn,f_yyy,f_uuu,f_yy,f_idiv,f_iof,f_nof,f_sqrt,f_uub,na,za,zcu,zb1,zbw,zcv,zcl,zcc,zap,zbE,zaI,decide_eq_true_eq,f_cut,if_pos h,f_iread,f_nread,f_qmake,eq_true h1,h2',h3]
 ·have e1:qrE l=izE (slA l):=by unfold qrE;rw [if_neg h1]
  rw [e1,if_neg h1]
  simp only [tr_qread,Tr.den,zbD,SA.ev,BE.ev,IE.ev,SE.ev,LE.ev,zcX,zb0,zcD,evN,evB,evS,zcb,zcr,zcn,At.len,At.bit,At.lst,op1,op2,op3,Nat.reduceLeDiff,Nat.reduceSub,Nat.reduceEqDiff,if_true,if_false,ite_true,ite_false,decide_true,decide_false,Bool.not_true,Bool.not_false,Nat.zero_le,Nat.sub_zero,List.getElem?_cons_zero,List.getElem?_cons_succ,List.getElem?_nil,GRd_cut,ctF_cut,GRd_iread,ctF_iread,GRd_nread,ctF_nread,zd2,zaA,GRd_unit,zaH,GRd_qmake,ctF_qmake,f_yur,f_un,f_uu,f_ub,f_yb,f_yn,f_yyn,f_yyy,f_uuu,f_yy,f_idiv,f_iof,f_nof,f_sqrt,f_uub,na,za,zcu,zb1,zbw,zcv,zcl,zcc,zap,zbE,zaI,decide_eq_true_eq,f_cut,if_pos h,f_iread,f_nread,f_qmake,h1]
def ct_qread:Ct:={ args:=[[.s]],res:=[[.r],[.n]],F:=f_qread,L:=1000,A:=0,B:=1005 }
theorem ok_qread:ct_qread.ok Tryz.prog 75:=by
 refine ev_qread.weaken fun als r h=>?_
 have h':=h
 unfold f_qread at h
 split at h
 ·split at h
  ·rename_i l hl
   injection h with h;subst h
   exact qread_den l hl
  ·cases h
 ·cases h
def QReadPost (w:World) (l:List UInt8) (e:Ending) (w':World):Prop:=∃ n x y a c b d,e = .returned (.tuple #[.agg #[.bool n,.slice a x.length c,.slice b y.length d],.int .i64 (qrE l)])∧RD w' a c x∧RD w' b d y∧At.r n x y=qrR l∧x.length≤1005∧y.length≤1005∧Below w.heap.size w w'
set_option maxHeartbeats 1000000 in
theorem qReadR_any (s:ByteArray) (w:World) (hs:s.size<9223372036854775807):Calls Tryz.prog 99 #[.string s] w (QReadPost w (bs s)):=by
 have hkl:=slk_le (bs s)
 rw [zb9] at hkl
 refine za7 (args:=[.string s]) (rs:=[.cell 2 27,.tmp 3]) (n:=57) Tryz.func99 rfl rfl rfl (by kernel_rfl) ?_
 first|refine zzr fun K hK=>?_|refine zzt fun K hK=>?_
 simp [go_sem]
 refine zam (by simp [go_sem]) rfl zb5 (fun w2 b2 hE2 hle2 hB2=>?_)
 simp [go_sem]
 refine hK _ _ ?_;clear hK K
 first|refine zzr fun K hK=>?_|refine zzt fun K hK=>?_
 simp [go_sem]
 refine hK _ _ ?_;clear hK K
 refine zac (fun K1 hK1=>?_)
 refine zae ?_
 refine zaE (fun m g w'=>w'=w2∧∃ k:Nat,k≤slk (bs s)∧m=slk (bs s)-k∧g 0 = .string s∧g 2 = .pointer (some ⟨b2,0,none⟩)∧g 4 = .int .i64 k) (slk (bs s)) ?_ ?_
 ·exact ⟨rfl,0,by omega,rfl,by simp [go_sem],by simp [go_sem],by simp [go_sem]⟩
 ·rintro m g w' ⟨rfl,k,hk,rfl,g0,g2,g4⟩
  refine zac (fun K2 hK2=>?_)
  by_cases hlt:k<slk (bs s)
  ·have c1:(k:Int)<s.size:=by omega
   have c2:k<s.size:=by omega
   have c3:=slk_at (bs s) k hlt
   have c4:¬((za9 s k).toNat:Int)=47:=by
    intro h
    refine c3 (UInt8.toNat_inj.1 ?_)
    show (za9 s k).toNat=47
    omega
   have hw1:IntKind.i64.wrap ((k:Int)+1)=(k:Int)+1:=IntWalk.i64_in _ (by omega)
   first|refine zzr fun K hK=>?_|refine zzt fun K hK=>?_
   simp [go_sem,g0,g4,c1,c2,c4]
   refine hK _ _ ?_;clear hK K
   refine zai (t:=true) (by simp [go_sem]) rfl ?_
   refine zaa ?_
   refine hK2 _ _ ?_
   refine zae ?_
   refine zzt fun K hK=>?_
   simp [go_sem,g4,hw1]
   refine hK _ _ ⟨slk (bs s)-(k+1),by omega,rfl,k+1,by omega,rfl,by simp [go_sem,g0],by simp [go_sem,g2],by simp [go_sem]⟩
  ·have hke:k=slk (bs s):=by omega
   clear hlt
   refine zei (fun g w5=>w5=w'∧g 0 = .string s∧g 2 = .pointer (some ⟨b2,0,none⟩)∧g 4 = .int .i64 k∧g 17 = .bool false) (by kernel_rfl) ?_ ?_
   ·by_cases hsz:k<s.size
    ·have c1:(k:Int)<s.size:=by omega
     have c3:=slk_hit (bs s) (by rw [zb9];omega)
     rw [←hke] at c3
     have c4:(za9 s k).toNat=47:=by
      unfold za9;rw [c3];rfl
     simp [go_sem,g0,g2,g4,c1,hsz,c4]
    ·have c1:¬(k:Int)<s.size:=by omega
     simp [go_sem,g0,g2,g4,c1,hsz]
   ·clear g0 g2 g4
    rintro g w5 ⟨rfl,g0,g2,g4,g17⟩
    refine zai g17 rfl ?_
    refine zaz ?_
    repeat (first|refine zag ?_|refine za8 rfl ?_|refine zab ?_)
    refine hK1 _ _ ?_
    have hA:bs (s.extract 0 k)=slA (bs s):=by rw [bs_ext,hke];simp [slA]
    have hcB:=iReadR_any (s.extract 0 k) w5
    rw [hA] at hcB
    unfold IReadPost at hcB
    obtain ⟨U,hU⟩:∃ U,U=izV (slA (bs s)):=⟨_,rfl⟩
    obtain ⟨V,hV⟩:∃ V,V=izE (slA (bs s)):=⟨_,rfl⟩
    have hUl:(lim U.natAbs).length≤1001:=by rw [hU];exact izV_len _
    rw [←hU,←hV] at hcB
    have hlt2:=hB2.lt
    first|refine zzr fun K hK=>?_|refine zzt fun K hK=>?_
    simp [go_sem,g0,g4,hkl]
    refine ⟨by omega,?_⟩
    refine za5 (by simp [go_sem,g0,g4]) rfl Tryz.call118 (fun R hR=>?_)
    simp [go_sem,g0,g4]
    refine (hcB).mono ?_
    rintro e w3 ⟨a3,c3,rfl,hr3,hE3⟩
    refine ⟨_,rfl,hR _ _ ?_⟩
    clear hR R
    replace hB2:=hB2.keep hE3
    have hE:=hE2.next hE3
    simp [go_sem]
    refine zam (by simp [go_sem]) rfl zbA (fun w5 b5 hE5 hle5 hB5=>?_)
    replace hr3:=hr3.keep hE5
    replace hB2:=hB2.keep hE5
    replace hE:=hE.next hE5
    have hb5:w.heap.size≤b5:=by have:=hE2.size;have:=hE3.size;omega
    have hne:b2≠b5:=by have:=hE3.size;omega
    simp [go_sem]
    refine za6 (b:=b5) (off:=0) [.bool (decide (U<0)),.slice a3 (lim U.natAbs).length c3] (by simp [go_sem,iR]) rfl (by simp [go_sem,iR]) (by simp [go_sem,Value.cells,iR]) zaJ hB5 (by simp) (by simp [Value.oneCell']) (by decide) (fun w6 hS6 hB6=>?_)
    simp [zaD] at hB6
    replace hr3:=hr3.sto hS6 (hr3.nbox hB5)
    replace hB2:=hB2.sto hS6 hne
    replace hE:=hE.nextS hS6 hb5
    obtain ⟨k0,k1⟩:=ibx hB6
    simp [go_sem]
    refine hK _ _ ?_;clear hK K
    refine zac (fun K3 hK3=>?_)
    first|refine zzr fun K hK=>?_|refine zzt fun K hK=>?_
    simp [go_sem]
    refine hK _ _ ?_;clear hK K
    have ret:∀ (g:G) (w9:World) (n:Bool) (x y:List Nat) (a b:Option Addr) (c d:Nat),Below w.heap.size w w9→Bx w9 b2 #[.bool n,.slice a x.length c,.slice b y.length d] 27→g 2 = .pointer (some ⟨b2,0,none⟩)→g 3 = .int .i64 (qrE (bs s))→RD w9 a c x→RD w9 b d y→At.r n x y=qrR (bs s)→x.length≤1005→y.length≤1005→fnQ Tryz.prog [.cell 2 27,.tmp 3] (QReadPost w (bs s)) .ret g w9:=by
     intro g w9 n x y a b c d hE hB g2 g3 r1 r2 hq l1 l2
     obtain ⟨q0,q1,q2⟩:=qbx hB
     refine ⟨by simp [go_sem,zaO,g2,q0,q1,q2,za0,za4,za1],n,x,y,a,c,b,d,?_,r1,r2,hq,l1,l2,hE⟩
     simp [go_sem,zat,zas,g2,g3,q0,q1,q2,za0,za4]
    by_cases h1:V=0
    ·refine zai (t:=false) (by simp [go_sem,h1]) rfl ?_
     refine zaa ?_
     refine hK3 _ _ ?_
     refine zac (fun K4 hK4=>?_)
     first|refine zzr fun K hK=>?_|refine zzt fun K hK=>?_
     simp [go_sem,g0,g4]
     refine hK _ _ ?_;clear hK K
     by_cases h2:k=s.size
     ·have c2:(k:Int)=s.size:=by omega
      refine zai (t:=true) (by simp [go_sem,c2]) rfl ?_
      have hD:Below w6.heap.size w6 w6.drew:=Below.drew1 _
      replace hr3:=hr3.keep hD
      replace hB2:=hB2.keep hD
      replace hB6:=hB6.keep hD
      replace hE:=hE.next hD
      obtain ⟨k0,k1⟩:=ibx hB6
      first|refine W_rd [(0,0),(1,1),(2,1),(3,2),(4,0)] (by kernel_rfl) (by kernel_rfl) (fun K hK=>?_)|refine zbG [(0,0),(1,1),(2,1),(3,2),(4,0)] (by kernel_rfl) (by kernel_rfl) (fun K hK=>?_)
      simp [go_sem,k0,k1,za0,za4,za1]
      refine za5 (by simp [go_sem,k0,k1,za0]) rfl Tryz.call119 (fun R hR=>?_)
      simp [go_sem,k0,k1,za0]
      refine (ofR_any 1 _ (by decide)).mono ?_
      rintro e w7 ⟨a7,c7,rfl,hr7,hE7⟩
      refine ⟨_,rfl,(by assumption),hR _ _ ?_⟩
      clear hR R
      replace hr3:=hr3.keep hE7
      replace hB2:=hB2.keep hE7
      replace hB6:=hB6.keep hE7
      replace hE:=hE.next hE7
      simp [go_sem]
      obtain ⟨X,hX⟩:∃ X,X=qv (decide (U<0)) (lim U.natAbs) (lim 1):=⟨_,rfl⟩
      have hX':X=(U:Rat):=by rw [hX,zcc,Rat.mkRat_one]
      have hcO:=over_any (decide (U<0)) (lim U.natAbs) (lim 1) a3 a7 c3 c7 1001 _ hr3 hr7 hUl (Nat.le_trans (zbv 1 1 (by decide)) (by decide)) (by decide)
      rw [←hX] at hcO
      refine za5 (by simp [go_sem]) rfl Tryz.call100 (fun R hR=>?_)
      simp [go_sem]
      refine (hcO).mono ?_
      rintro e w8 ⟨a8,c8,b8,d8,rfl,hr8,hs8,hz8,hy8,hE8⟩
      refine ⟨_,rfl,(by assumption),hR _ _ ?_⟩
      clear hR R
      replace hB2:=hB2.keep hE8
      replace hE:=hE.next hE8
      simp [go_sem,qR]
      refine za6 (b:=b2) (off:=0) [.bool (decide (X.num<0)),.slice a8 (lim X.num.natAbs).length c8,.slice b8 (lim X.den).length d8] (by simp [go_sem,g2]) rfl (by simp [go_sem,g2]) (by simp [go_sem,Value.cells,g2]) zax hB2 (by simp) (by simp [Value.oneCell']) (by decide) (fun w9 hS9 hB9=>?_)
      simp [zaD] at hB9
      replace hr8:=hr8.sto hS9 (hr8.nboxR hB2)
      replace hs8:=hs8.sto hS9 (hs8.nboxR hB2)
      replace hE:=hE.nextS hS9 hle2
      simp [go_sem]
      refine hK _ _ ?_;clear hK K
      refine zaf ?_
      repeat (first|refine za3 ?_|refine za2 ?_)
      have hf:slH (bs s)=false:=by unfold slH;rw [zb9,←hke];exact decide_eq_false (by omega)
      have hq:qrE (bs s)=0:=by unfold qrE;rw [←hV,if_pos h1,if_pos hf]
      refine ret _ _ _ _ _ _ _ _ _ hE hB9 (by simp [go_sem,g2]) (by simp [go_sem,hq]) hr8 hs8 ?_ (by omega) (by omega)
      unfold qrR
      rw [if_pos hq,qrV,if_pos hf,←hU,←hX'];rfl
     ·have c2:¬(k:Int)=s.size:=by omega
      have hks:k<s.size:=by omega
      have hf:¬slH (bs s)=false:=by unfold slH;rw [zb9,←hke,decide_eq_true hks];decide
      have hw1:IntKind.i64.wrap ((k:Int)+1)=(k:Int)+1:=IntWalk.i64_in _ (by omega)
      refine zai (t:=false) (by simp [go_sem,c2]) rfl ?_
      refine zaa ?_
      refine hK4 _ _ ?_
      have hA2:bs (s.extract (k+1) s.size)=slB (bs s):=by
       rw [bs_ext,slB,←hke]
       refine List.take_of_length_le ?_
       rw [List.length_drop,zb9];omega
      have hcB:=fun w=>readR_any (s.extract (k+1) s.size) w
      rw [hA2] at hcB
      unfold zdr at hcB
      obtain ⟨L,hL⟩:∃ L,L=rdL (slB (bs s)):=⟨_,rfl⟩
      obtain ⟨V2,hV2⟩:∃ V2,V2=rdE (slB (bs s)):=⟨_,rfl⟩
      have hLl:L.length≤1000:=by rw [hL];exact rdL_lenI _
      rw [←hL,←hV2] at hcB
      first|refine zzr fun K hK=>?_|refine zzt fun K hK=>?_
      simp [go_sem,g0,g4,hw1]
      refine ⟨by omega,?_⟩
      refine za5 (by simp [go_sem,g0,g4,hw1]) rfl Tryz.call120 (fun R hR=>?_)
      simp [go_sem,g0,g4,hw1]
      refine (hcB _).mono ?_
      rintro e w7 ⟨a7,c7,rfl,hr7,hE7⟩
      refine ⟨_,rfl,hR _ _ ?_⟩
      clear hR R
      replace hr3:=hr3.keep hE7
      replace hB2:=hB2.keep hE7
      replace hB6:=hB6.keep hE7
      replace hE:=hE.next hE7
      simp [go_sem]
      refine hK _ _ ?_;clear hK K
      refine zac (fun K5 hK5=>?_)
      first|refine zzr fun K hK=>?_|refine zzt fun K hK=>?_
      simp [go_sem]
      refine hK _ _ ?_;clear hK K
      by_cases h5:V2=0
      ·refine zai (t:=false) (by simp [go_sem,h5]) rfl ?_
       refine zaa ?_
       refine hK5 _ _ ?_
       refine zac (fun K6 hK6=>?_)
       first|refine zzr fun K hK=>?_|refine zzt fun K hK=>?_
       simp [go_sem]
       refine hK _ _ ?_;clear hK K
       have hLv:L=lim (dv (slB (bs s))):=by rw [hL];unfold rdL;rw [if_pos (by rw [←hV2];exact h5)]
       by_cases h6:L.length=0
       ·have c6:(L.length:Int)=0:=by omega
        have h7:dv (slB (bs s))=0:=by
         have:=List.length_eq_zero_iff.1 h6
         rw [this] at hLv
         have h8:=zap (dv (slB (bs s)))
         rw [←hLv] at h8
         exact h8.symm
        have hq:qrE (bs s)=3:=by unfold qrE;rw [←hV,if_pos h1,if_neg hf,←hV2,if_pos h5,if_pos h7]
        have hn:=List.length_eq_zero_iff.1 h6
        refine zai (t:=true) (by simp [go_sem,hn]) rfl ?_
        first|refine zzr fun K hK=>?_|refine zzt fun K hK=>?_
        simp [go_sem]
        refine zal #[.bool false,.slice none 0 0,.slice none 0 0] (by simp [go_sem]) rfl zd4 [] (by simp [go_sem]) rfl ?_
        simp [go_sem]
        refine za6 (b:=b2) (off:=0) [.bool false,.slice none 0 0,.slice none 0 0] (by simp [go_sem,g2]) rfl (by simp [go_sem,g2]) (by simp [go_sem,Value.cells,g2]) zax hB2 (by simp) (by simp [Value.oneCell']) (by decide) (fun w8 hS8 hB8=>?_)
        simp [zaD] at hB8
        simp [go_sem]
        refine hK _ _ ?_;clear hK K
        refine zaf ?_
        repeat (first|refine za3 ?_|refine za2 ?_)
        exact ret _ _ false [] [] none none 0 0 (hE.nextS hS8 hle2) hB8 (by simp [go_sem,g2]) (by simp [go_sem,hq]) (RD.nil _ _ _) (RD.nil _ _ _) (by unfold qrR;rw [if_neg (by rw [hq];decide)]) (by simp) (by simp)
       ·have c6:¬(L.length:Int)=0:=by omega
        have h7:¬dv (slB (bs s))=0:=by
         intro e
         rw [e,zao] at hLv
         rw [hLv] at h6;exact h6 rfl
        have hq:qrE (bs s)=0:=by unfold qrE;rw [←hV,if_pos h1,if_neg hf,←hV2,if_pos h5,if_neg h7]
        have hn:¬L=[]:=fun e=>h6 (by rw [e];rfl)
        refine zai (t:=false) (by simp [go_sem,hn]) rfl ?_
        refine zaa ?_
        refine hK6 _ _ ?_
        obtain ⟨k0,k1⟩:=ibx hB6
        obtain ⟨X,hX⟩:∃ X,X=qv (decide (U<0)) (lim U.natAbs) L:=⟨_,rfl⟩
        have hX':X=(U:Rat) / (dv (slB (bs s)):Rat):=by rw [hX,hLv,zcc,Rat.mkRat_eq_div]
        have hcO:=over_any (decide (U<0)) (lim U.natAbs) L a3 a7 c3 c7 1001 _ hr3 hr7 hUl (by omega) (by decide)
        rw [←hX] at hcO
        first|refine zzr fun K hK=>?_|refine zzt fun K hK=>?_
        simp [go_sem,k0,k1,za0,za4,za1]
        refine za5 (by simp [go_sem,k0,k1,za0,za4,za1]) rfl Tryz.call100 (fun R hR=>?_)
        simp [go_sem,k0,k1,za0,za4,za1]
        refine (hcO).mono ?_
        rintro e w8 ⟨a8,c8,b8,d8,rfl,hr8,hs8,hz8,hy8,hE8⟩
        refine ⟨_,rfl,hR _ _ ?_⟩
        clear hR R
        replace hB2:=hB2.keep hE8
        replace hE:=hE.next hE8
        simp [go_sem,qR]
        refine za6 (b:=b2) (off:=0) [.bool (decide (X.num<0)),.slice a8 (lim X.num.natAbs).length c8,.slice b8 (lim X.den).length d8] (by simp [go_sem,g2]) rfl (by simp [go_sem,g2]) (by simp [go_sem,Value.cells,g2]) zax hB2 (by simp) (by simp [Value.oneCell']) (by decide) (fun w9 hS9 hB9=>?_)
        simp [zaD] at hB9
        replace hr8:=hr8.sto hS9 (hr8.nboxR hB2)
        replace hs8:=hs8.sto hS9 (hs8.nboxR hB2)
        replace hE:=hE.nextS hS9 hle2
        simp [go_sem]
        refine hK _ _ ?_;clear hK K
        refine zaf ?_
        repeat (first|refine za3 ?_|refine za2 ?_)
        refine ret _ _ _ _ _ _ _ _ _ hE hB9 (by simp [go_sem,g2]) (by simp [go_sem,hq]) hr8 hs8 ?_ (by omega) (by omega)
        unfold qrR
        rw [if_pos hq,qrV,if_neg hf,←hU,←hX'];rfl
      ·have hq:qrE (bs s)=V2:=by unfold qrE;rw [←hV,if_pos h1,if_neg hf,←hV2,if_neg h5]
       refine zai (t:=true) (by simp [go_sem,h5]) rfl ?_
       first|refine zzr fun K hK=>?_|refine zzt fun K hK=>?_
       simp [go_sem]
       refine zal #[.bool false,.slice none 0 0,.slice none 0 0] (by simp [go_sem]) rfl zd4 [] (by simp [go_sem]) rfl ?_
       simp [go_sem]
       refine za6 (b:=b2) (off:=0) [.bool false,.slice none 0 0,.slice none 0 0] (by simp [go_sem,g2]) rfl (by simp [go_sem,g2]) (by simp [go_sem,Value.cells,g2]) zax hB2 (by simp) (by simp [Value.oneCell']) (by decide) (fun w8 hS8 hB8=>?_)
       simp [zaD] at hB8
       simp [go_sem]
       refine hK _ _ ?_;clear hK K
       refine zaf ?_
       repeat (first|refine za3 ?_|refine za2 ?_)
       exact ret _ _ false [] [] none none 0 0 (hE.nextS hS8 hle2) hB8 (by simp [go_sem,g2]) (by simp [go_sem,hq]) (RD.nil _ _ _) (RD.nil _ _ _) (by unfold qrR;rw [if_neg (by rw [hq];exact h5)]) (by simp) (by simp)
    ·have hq:qrE (bs s)=V:=by unfold qrE;rw [←hV,if_neg h1]
     refine zai (t:=true) (by simp [go_sem,h1]) rfl ?_
     first|refine zzr fun K hK=>?_|refine zzt fun K hK=>?_
     simp [go_sem]
     refine zal #[.bool false,.slice none 0 0,.slice none 0 0] (by simp [go_sem]) rfl zd4 [] (by simp [go_sem]) rfl ?_
     simp [go_sem]
     refine za6 (b:=b2) (off:=0) [.bool false,.slice none 0 0,.slice none 0 0] (by simp [go_sem,g2]) rfl (by simp [go_sem,g2]) (by simp [go_sem,Value.cells,g2]) zax hB2 (by simp) (by simp [Value.oneCell']) (by decide) (fun w7 hS7 hB7=>?_)
     simp [zaD] at hB7
     simp [go_sem]
     refine hK _ _ ?_;clear hK K
     refine zaf ?_
     repeat (first|refine za3 ?_|refine za2 ?_)
     exact ret _ _ false [] [] none none 0 0 (hE.nextS hS7 hle2) hB7 (by simp [go_sem,g2]) (by simp [go_sem,hq]) (RD.nil _ _ _) (RD.nil _ _ _) (by unfold qrR;rw [if_neg (by rw [hq];exact h1)]) (by simp) (by simp)
theorem sg_num (x:Rat):(sg x.num=0)=(x=0):=by
 apply propext
 rw [←Rat.num_eq_zero]
 unfold sg
 by_cases h:x.num=0
 ·simp [h]
 ·simp only [h,if_false,iff_false]
  split<;>decide
def isCan (a:Bool) (l m:List Nat):Prop:=a=decide ((qv a l m).num<0)∧l=lim (qv a l m).num.natAbs∧m=lim (qv a l m).den
instance (a:Bool) (l m:List Nat):Decidable (isCan a l m):=inferInstanceAs (Decidable (_∧_∧_))
theorem isCan_eq {a:Bool} {l m:List Nat} (h:isCan a l m):At.r a l m=qa (qv a l m):=by
 obtain ⟨h1,h2,h3⟩:=h
 unfold qa
 rw [←h1,←h2,←h3]
theorem isCan_qa (x:Rat):isCan (decide (x.num<0)) (lim x.num.natAbs) (lim x.den):=by
 unfold isCan
 rw [qv_qa]
 exact ⟨rfl,rfl,rfl⟩
theorem not_can_nil:¬isCan false [] []:=by
 rintro ⟨_,_,h⟩
 have h1:0<(lim (qv false [] []).den).length:=lim_ne (by have:=(qv false [] []).den_pos;omega)
 rw [←h] at h1
 exact absurd h1 (by decide)
inductive QA where
 | q (x:Rat)
 | z
 | b (x:Bool)
 | n (x:Int)
 | y (x:Int)
 | u (x:Nat)
 | s (x:List UInt8)
 | k (x:Int)
 | kb (x:Bool)
def QA.at:QA→At
 | .q x=>qa x
 | .z=>.r false [] []
 | .b x=>.b x
 | .n x=>.n x
 | .y x=>za x
 | .u x=>na x
 | .s x=>.s x
 | .k x=>.k x
 | .kb x=>.kb x
def toQ:At→Option QA
 | .r a l m=>if isCan a l m then some (.q (qv a l m)) else if a=false∧l=[]∧m=[] then some .z else none
 | .b x=>some (.b x)
 | .n x=>some (.n x)
 | .y a l=>if a=decide (vz a l<0)∧l=lim (vz a l).natAbs then some (.y (vz a l)) else none
 | .u l=>if l=lim (val l) then some (.u (val l)) else none
 | .s l=>some (.s l)
 | .w _=>none
 | .k x=>some (.k x)
 | .kb x=>some (.kb x)
theorem toQ_at (x:QA):toQ x.at=some x:=by
 cases x with
 | q x=>simp only [QA.at,qa,toQ,isCan_qa,if_true,qv_qa]
 | z=>simp only [QA.at,toQ,not_can_nil,if_false,and_self,if_true]
 | b x=>rfl
 | n x=>rfl
 | y x=>simp only [QA.at,za,toQ,zbw,and_self,if_true]
 | u x=>simp only [QA.at,na,toQ,zap,if_true]
 | s x=>rfl
 | k x=>rfl
 | kb x=>rfl
theorem toQ_some {a:At} {x:QA} (h:toQ a=some x):a=x.at:=by
 cases a with
 | r a l m =>
  simp only [toQ] at h
  split at h
  ·rename_i hc
   injection h with h;subst h
   exact isCan_eq hc
  ·split at h
   ·rename_i hc
    injection h with h;subst h
    obtain ⟨rfl,rfl,rfl⟩:=hc
    rfl
   ·cases h
 | b x=>injection h with h;subst h;rfl
 | n x=>injection h with h;subst h;rfl
 | y a l =>
  simp only [toQ] at h
  split at h
  ·rename_i hc
   injection h with h;subst h
   simp only [QA.at,za]
   rw [←hc.1,←hc.2]
  ·cases h
 | u l =>
  simp only [toQ] at h
  split at h
  ·rename_i hc
   injection h with h;subst h
   simp only [QA.at,na]
   rw [←hc]
  ·cases h
 | s l=>injection h with h;subst h;rfl
 | w z=>cases h
 | k x=>injection h with h;subst h;rfl
 | kb x=>injection h with h;subst h;rfl
def toQs:List At→Option (List QA)
 | []=>some []
 | a::r=>match toQ a,toQs r with
  | some x,some l=>some (x::l)
  | _,_=>none
theorem toQs_map:∀ l:List QA,toQs (l.map QA.at)=some l
 | []=>rfl
 | x::l=>by simp only [List.map_cons,toQs,toQ_at,toQs_map l]
theorem toQs_some:∀ {als:List At} {l:List QA},toQs als=some l→als=l.map QA.at
 | [],l,h=>by injection h with h;subst h;rfl
 | a::r,l,h=>by
  simp only [toQs] at h
  split at h
  ·rename_i x l' h1 h2
   injection h with h;subst h
   rw [toQ_some h1,toQs_some h2];rfl
  ·cases h
def outQ:Option (List QA)→Option (List At)
 | some r=>some (r.map QA.at)
 | none=>none
def cq (g:List QA→Option (List QA)) (als:List At):Option (List At):=match toQs als with
 | some l=>outQ (g l)
 | none=>none
theorem cq_map (g:List QA→Option (List QA)) (l:List QA):cq g (l.map QA.at)=outQ (g l):=by
 unfold cq;rw [toQs_map]
theorem of_cq {g:List QA→Option (List QA)} {F:List At→Option (List At)} (h:∀ l r,g l=some r→F (l.map QA.at)=some (r.map QA.at)) (als r:List At) (hc:cq g als=some r):F als=some r:=by
 unfold cq at hc
 split at hc
 ·rename_i l hl
  rw [toQs_some hl]
  unfold outQ at hc
  split at hc
  ·rename_i r' hr
   injection hc with hc
   rw [←hc]
   exact h _ _ hr
  ·cases hc
 ·cases hc
section
variable (g:List QA→Option (List QA)) (a b c d e f h i j k m o:QA)
theorem cq1:cq g [a.at]=outQ (g [a]):=cq_map g [a]
theorem cq2:cq g [a.at,b.at]=outQ (g [a,b]):=cq_map g [a,b]
end
def kQ1:Sh→QA→Option QA
 | .k z,.n z'=>if z=z' then some (.k z) else none
 | .kb x,.b x'=>if x=x' then some (.kb x) else none
 | .k _,_=>none
 | .kb _,_=>none
 | .sl _,_=>none
 | _,a=>some a
def kQ:List Sh→List QA→Option (List QA)
 | [],[]=>some []
 | sh::s,a::l=>op2 List.cons (kQ1 sh a) (kQ s l)
 | _,_=>none
def g_add:List QA→Option (List QA)
 | [.q x,.q y]=>some [.q (x+y)]
 | _=>none
def g_neg:List QA→Option (List QA)
 | [.q x]=>some [.q (-x)]
 | _=>none
def g_div:List QA→Option (List QA)
 | [.q x,.q y]=>some (if y=0 then [.z,.n 3] else [.q (x / y),.n 0])
 | _=>none
def qsg (x:Rat):Int:=sg x.num
def g_sign:List QA→Option (List QA)
 | [.q x]=>some [.n (qsg x)]
 | _=>none
theorem qsg_0 (x:Rat):(qsg x=0)=(x=0):=sg_num x
def ct_dneg:Ct:={ args:=[[.r]],res:=[[.r]],F:=cq g_neg,L:=100000000,A:=1,B:=4 }
theorem ok_dneg:ct_dneg.ok Tryz.prog 58:=Ct.ok.weaken ok_qneg (of_cq (g:=g_neg) fun l r h=>by
 unfold g_neg at h
 split at h<;>first|(injection h with h;subst h;simp only [ctF_qneg,List.map,QA.at,qa,za,na,f_qneg,qv_qa,zbw,zap];done)|cases h|skip)
def ct_drneg:Ct:={ args:=[[.r]],res:=[[.r]],F:=cq g_neg,L:=100000000,A:=1,B:=4 }
theorem ok_drneg:ct_drneg.ok Tryz.prog 84:=Ct.ok.weaken ok_rqneg (of_cq (g:=g_neg) fun l r h=>by
 unfold g_neg at h
 split at h<;>first|(injection h with h;subst h;simp only [ctF_rqneg,List.map,QA.at,qa,za,na,f_qneg,qv_qa,zbw,zap];done)|cases h|skip)
def ct_dsign:Ct:={ args:=[[.r]],res:=[[.n]],F:=cq g_sign,L:=100000000,A:=0,B:=0 }
theorem ok_dsign:ct_dsign.ok Tryz.prog 56:=Ct.ok.weaken ok_qsign (of_cq (g:=g_sign) fun l r h=>by
 unfold g_sign at h
 split at h<;>first|(injection h with h;subst h;simp only [ctF_qsign,List.map,QA.at,qa,za,na,f_qsign,qsg,qv_qa,zbw,zap];done)|cases h|skip)
theorem qdiv_Q (l r:List QA) (h:g_div l=some r):f_qdiv (l.map QA.at)=some (r.map QA.at):=by
 unfold g_div at h
 split at h
 ·injection h with h;subst h
  simp only [List.map,QA.at,qa,f_qdiv,qv_qa]
  split<;>rfl
 ·cases h
def ct_ddiv:Ct:={ args:=[[.r],[.r]],res:=[[.r],[.n]],F:=cq g_div,L:=100000000,A:=2,B:=4 }
theorem ok_ddiv:ct_ddiv.ok Tryz.prog 57:=Ct.ok.weaken ok_qdiv (of_cq qdiv_Q)
def ct_drdiv:Ct:={ args:=[[.r],[.r]],res:=[[.r],[.n]],F:=cq g_div,L:=100000000,A:=2,B:=20 }
theorem ok_drdiv:ct_drdiv.ok Tryz.prog 85:=Ct.ok.weaken ok_rqdiv (of_cq qdiv_Q)
end Go.Proofs.YtefhenfofomjhaaGreat
namespace Go.Proofs.YtefhenfofomjhaaGreat
end Go.Proofs.YtefhenfofomjhaaGreat
namespace Go.Proofs.YtefhenfofomjhaaGreat
open Go Go.RowKit Go.V
set_option maxRecDepth 20000
theorem ct_n {P:Program} {f s:Nat} {c:Ct} {w:World} {vs:List Value} {als:List At} {z:Int} (h:c.ok P f) (hres:c.res=[[.n]]) (hs:s≤c.L) (hr:zek w c.args als vs) (hz:∀ a∈als,a.sz≤s) (hF:c.F als=some [.n z]) :
  Calls P f vs.toArray w fun e w'=>e = .returned (.int .i64 z)∧Below w.heap.size w w':=by
 refine (h s w vs als _ hs hr hz hF).mono ?_
 rintro e w' ⟨rvs,he,hrv,_,hE⟩
 rw [hres] at hrv
 obtain ⟨v,rfl,h1⟩:=vs1 hrv
 obtain ⟨z',e1,rfl⟩:=repV_n.1 h1
 simp only [List.cons.injEq,At.n.injEq,and_true] at e1
 subst e1
 exact ⟨he,hE⟩
theorem ct_s {P:Program} {f s:Nat} {c:Ct} {w:World} {vs:List Value} {als:List At} {z:List UInt8} (h:c.ok P f) (hres:c.res=[[.s]]) (hs:s≤c.L) (hr:zek w c.args als vs) (hz:∀ a∈als,a.sz≤s) (hF:c.F als=some [.s z]) :
  Calls P f vs.toArray w fun e w'=>e = .returned (.string ⟨z.toArray⟩)∧Below w.heap.size w w':=by
 refine (h s w vs als _ hs hr hz hF).mono ?_
 rintro e w' ⟨rvs,he,hrv,_,hE⟩
 rw [hres] at hrv
 obtain ⟨v,rfl,h1⟩:=vs1 hrv
 obtain ⟨z',e1,rfl⟩:=repV_s.1 h1
 simp only [List.cons.injEq,At.s.injEq,and_true] at e1
 subst e1
 exact ⟨he,hE⟩
theorem ints1 {w:World} (k:Int):zek w [[.n]] [.n k] [.int .i64 k]:=⟨[_],[],_,_,rfl,rfl,repV_n.2 ⟨k,rfl,rfl⟩,rfl,rfl⟩
theorem zs1 (k:Int) (s:Nat):∀ a∈[At.n k],a.sz≤s:=fun a ha=>by rw [List.mem_singleton.1 ha];exact Nat.zero_le _
def intC (l:List Int):List Value:=l.map fun z=>.int .i64 z
theorem intC_at {l:List Int} {i:Nat} (h:i<l.length):(intC l).getD i undef = .int .i64 (l.getD i 0):=by
 unfold intC
 simp [List.getD_eq_getElem?_getD,h]
end Go.Proofs.YtefhenfofomjhaaGreat
