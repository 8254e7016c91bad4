/- The reference's table: what is read of it; names and kinds. -/
import Derived.Test.YtefhenfofomjhaaGreatRw1
import Derived.Test.YtefhenfofomjhaaGreatTk1
import Derived.Test.YtefhenfofomjhaaGreatLx3
set_option linter.unusedSimpArgs false
set_option linter.unusedVariables false
namespace Go.Proofs.YtefhenfofomjhaaGreat
open Go Go.RowKit Go.V
set_option maxRecDepth 20000
def rwSlots:List Nat:=[8,13,18,23,28,33,36,42,48,54,60,65,70,75,80,85,90,95,100,105,111,116,120,124,130,135,141,149,153,159]
def rwRow (j:Nat):RW:=.row (zak j).1 (zak j).2.1 ⟨(zak j).2.2.1.toArray⟩ j (zak j).2.2.2.length
def rwEnv0:Nat→RW:=rwSet (rwSet (rwSet (fun _=>.un) 1 (.int 1)) 2 (.int 2)) 3 (.int 3)
def rwT (L:List Oper):Bool:=match zdV 156 L rwEnv0 [] with
 | some (env',bs',_)=>decide (rwSlots.map env'=(List.range 30).map rwRow) && decide (bs'=KT.map fun r=>r.2.2.2)
 | none=>false
theorem rwRun_rest:∀ (n:Nat) (l:List Oper) (env:Nat→RW) (bs:List (List Int)) (env':Nat→RW) (bs':List (List Int)) (rest:List Oper),zdV n l env bs=some (env',bs',rest)→rest=l.drop n
 | 0,l,env,bs,env',bs',rest,h=>by
  simp only [zdV,Option.some.injEq,Prod.mk.injEq] at h
  exact h.2.2.symm
 | n+1,[],env,bs,env',bs',rest,h=>by simp [zdV] at h
 | n+1,⟨none,op,ty,pos,af,gd⟩::r,env,bs,env',bs',rest,h=>by simp [zdV] at h
 | n+1,⟨some d,op,ty,pos,af,some gd⟩::r,env,bs,env',bs',rest,h=>by simp [zdV] at h
 | n+1,⟨some d,op,ty,pos,af,none⟩::r,env,bs,env',bs',rest,h=>by
  rw [List.drop_succ_cons]
  cases op with
  | move x=>simp only [zdV] at h;exact rwRun_rest n r _ _ env' bs' rest h
  | buildSlice t m parts =>
   simp only [zdV] at h
   split at h
   ·split at h
    ·exact rwRun_rest n r _ _ env' bs' rest h
    ·cases h
   ·cases h
  | build t parts =>
   simp only [zdV] at h
   split at h
   ·split at h
    ·split at h
     ·exact rwRun_rest n r _ _ env' bs' rest h
     ·cases h
    ·cases h
   ·cases h
  | _=>simp [zdV] at h
def rowC (bl:Nat→Nat) (j:Nat):List Value:=[.int .i64 (zak j).1,.int .i64 (zak j).2.1,.string ⟨(zak j).2.2.1.toArray⟩,.slice (some ⟨bl j,0,none⟩) (zak j).2.2.2.length (zak j).2.2.2.length]
def rowsC (bl:Nat→Nat):List Value:=((List.range 30).map (rowC bl)).flatten
theorem rows_run {ops:Array Oper} {L:List Oper} (hT:rwT L=true) {g:G} {w:World} {K:G→World→Prop} (g1:g 1 = .int .i64 1) (g2:g 2 = .int .i64 2) (g3:g 3 = .int .i64 3)
  (hk:∀ (g':G) (w':World) (bl:Nat→Nat),(∀ j,j<30→g' (rwSlots.getD j 0) = .agg (rowC bl j).toArray)→(∀ j,j<30→Bx w' (bl j) (intC (zak j).2.2.2).toArray 3∧w.heap.size≤bl j)→Below w.heap.size w w'→zcp Tryz.prog ops (L.drop 156) g' w' K):zcp Tryz.prog ops L g w K:=by
 unfold rwT at hT
 split at hT
 ·rename_i env' bs' rest hr
  simp only [Bool.and_eq_true,decide_eq_true_eq] at hT
  obtain ⟨h1,h2⟩:=hT
  have h3:=rwRun_rest _ _ _ _ _ _ _ hr
  subst h3
  refine rw_sound (W0:=w.heap.size) 156 L _ [] env' bs' _ hr g w (fun _=>0) K ?_ (fun j p h=>by simp at h) (Nat.le_refl _) ?_ (fun g' w' bl q1 q2 q3=>hk g' w' bl ?_ ?_ q3)
  ·intro s hs
   unfold rwEnv0 rwSet at hs ⊢
   by_cases e3:s=3
   ·subst e3;exact g3
   ·rw [if_neg e3] at hs ⊢
    by_cases e2:s=2
    ·subst e2;exact g2
    ·rw [if_neg e2] at hs ⊢
     by_cases e1:s=1
     ·subst e1;exact g1
     ·rw [if_neg e1] at hs;exact absurd rfl hs
  ·intro s
   unfold rwEnv0 rwSet
   (repeat' split)<;>trivial
  ·intro j hj
   have h4:env' (rwSlots.getD j 0)=rwRow j:=by
    have h5:=congrArg (fun l=>l[j]?) h1
    simp only [List.getElem?_map] at h5
    have hj2:j<rwSlots.length:=hj
    rw [List.getElem?_eq_getElem hj2,List.getElem?_range hj] at h5
    simp only [Option.map_some,Option.some.injEq] at h5
    rw [List.getD_eq_getElem?_getD,List.getElem?_eq_getElem hj2]
    exact h5
   rw [q1 _ (by rw [h4];simp [rwRow]),h4]
   rfl
  ·intro j hj
   refine q2 j _ ?_
   rw [h2,List.getElem?_map]
   unfold zak
   have hj2:j<KT.length:=hj
   rw [List.getD_eq_getElem?_getD,List.getElem?_eq_getElem hj2]
   rfl
 ·cases hT
set_option maxHeartbeats 4000000 in
theorem rows_any (w:World):Calls Tryz.prog 60 #[] w fun e w'=>∃ (ad:Nat) (bl:Nat→Nat),e = .returned (.slice (some ⟨ad,0,none⟩) 30 30)∧Bx w' ad (rowsC bl).toArray 103∧(∀ j,j<30→Bx w' (bl j) (intC (zak j).2.2.2).toArray 3∧w.heap.size≤bl j)∧w.heap.size≤ad∧Below w.heap.size w w':=by
 refine za7 (args:=[]) (rs:=[.tmp 0]) (n:=161) Tryz.func60 rfl rfl rfl (by kernel_rfl) ?_
 first|refine zzr fun K hK=>?_|refine zzt fun K hK=>?_
 simp [go_sem]
 refine hK _ _ ?_;clear hK K
 first|refine zzr fun K hK=>?_|refine zzt fun K hK=>?_
 simp [go_sem]
 refine hK _ _ ?_;clear hK K
 refine W_rt (by kernel_rfl) (fun K hK=>?_)
 refine rows_run (by kernel_rfl) (by simp [go_sem]) (by simp [go_sem]) (by simp [go_sem]) (fun g' w' bl hg hb hE=>?_)
 have q0:g' 8 = .agg #[.int .i64 (zak 0).1,.int .i64 (zak 0).2.1,.string ⟨(zak 0).2.2.1.toArray⟩,.slice (some ⟨bl 0,0,none⟩) (zak 0).2.2.2.length (zak 0).2.2.2.length]:=hg 0 (by decide)
 have q1:g' 13 = .agg #[.int .i64 (zak 1).1,.int .i64 (zak 1).2.1,.string ⟨(zak 1).2.2.1.toArray⟩,.slice (some ⟨bl 1,0,none⟩) (zak 1).2.2.2.length (zak 1).2.2.2.length]:=hg 1 (by decide)
 have q2:g' 18 = .agg #[.int .i64 (zak 2).1,.int .i64 (zak 2).2.1,.string ⟨(zak 2).2.2.1.toArray⟩,.slice (some ⟨bl 2,0,none⟩) (zak 2).2.2.2.length (zak 2).2.2.2.length]:=hg 2 (by decide)
 have q3:g' 23 = .agg #[.int .i64 (zak 3).1,.int .i64 (zak 3).2.1,.string ⟨(zak 3).2.2.1.toArray⟩,.slice (some ⟨bl 3,0,none⟩) (zak 3).2.2.2.length (zak 3).2.2.2.length]:=hg 3 (by decide)
 have q4:g' 28 = .agg #[.int .i64 (zak 4).1,.int .i64 (zak 4).2.1,.string ⟨(zak 4).2.2.1.toArray⟩,.slice (some ⟨bl 4,0,none⟩) (zak 4).2.2.2.length (zak 4).2.2.2.length]:=hg 4 (by decide)
 have q5:g' 33 = .agg #[.int .i64 (zak 5).1,.int .i64 (zak 5).2.1,.string ⟨(zak 5).2.2.1.toArray⟩,.slice (some ⟨bl 5,0,none⟩) (zak 5).2.2.2.length (zak 5).2.2.2.length]:=hg 5 (by decide)
 have q6:g' 36 = .agg #[.int .i64 (zak 6).1,.int .i64 (zak 6).2.1,.string ⟨(zak 6).2.2.1.toArray⟩,.slice (some ⟨bl 6,0,none⟩) (zak 6).2.2.2.length (zak 6).2.2.2.length]:=hg 6 (by decide)
 have q7:g' 42 = .agg #[.int .i64 (zak 7).1,.int .i64 (zak 7).2.1,.string ⟨(zak 7).2.2.1.toArray⟩,.slice (some ⟨bl 7,0,none⟩) (zak 7).2.2.2.length (zak 7).2.2.2.length]:=hg 7 (by decide)
 have q8:g' 48 = .agg #[.int .i64 (zak 8).1,.int .i64 (zak 8).2.1,.string ⟨(zak 8).2.2.1.toArray⟩,.slice (some ⟨bl 8,0,none⟩) (zak 8).2.2.2.length (zak 8).2.2.2.length]:=hg 8 (by decide)
 have q9:g' 54 = .agg #[.int .i64 (zak 9).1,.int .i64 (zak 9).2.1,.string ⟨(zak 9).2.2.1.toArray⟩,.slice (some ⟨bl 9,0,none⟩) (zak 9).2.2.2.length (zak 9).2.2.2.length]:=hg 9 (by decide)
 have q10:g' 60 = .agg #[.int .i64 (zak 10).1,.int .i64 (zak 10).2.1,.string ⟨(zak 10).2.2.1.toArray⟩,.slice (some ⟨bl 10,0,none⟩) (zak 10).2.2.2.length (zak 10).2.2.2.length]:=hg 10 (by decide)
 have q11:g' 65 = .agg #[.int .i64 (zak 11).1,.int .i64 (zak 11).2.1,.string ⟨(zak 11).2.2.1.toArray⟩,.slice (some ⟨bl 11,0,none⟩) (zak 11).2.2.2.length (zak 11).2.2.2.length]:=hg 11 (by decide)
 have q12:g' 70 = .agg #[.int .i64 (zak 12).1,.int .i64 (zak 12).2.1,.string ⟨(zak 12).2.2.1.toArray⟩,.slice (some ⟨bl 12,0,none⟩) (zak 12).2.2.2.length (zak 12).2.2.2.length]:=hg 12 (by decide)
 have q13:g' 75 = .agg #[.int .i64 (zak 13).1,.int .i64 (zak 13).2.1,.string ⟨(zak 13).2.2.1.toArray⟩,.slice (some ⟨bl 13,0,none⟩) (zak 13).2.2.2.length (zak 13).2.2.2.length]:=hg 13 (by decide)
 have q14:g' 80 = .agg #[.int .i64 (zak 14).1,.int .i64 (zak 14).2.1,.string ⟨(zak 14).2.2.1.toArray⟩,.slice (some ⟨bl 14,0,none⟩) (zak 14).2.2.2.length (zak 14).2.2.2.length]:=hg 14 (by decide)
 have q15:g' 85 = .agg #[.int .i64 (zak 15).1,.int .i64 (zak 15).2.1,.string ⟨(zak 15).2.2.1.toArray⟩,.slice (some ⟨bl 15,0,none⟩) (zak 15).2.2.2.length (zak 15).2.2.2.length]:=hg 15 (by decide)
 have q16:g' 90 = .agg #[.int .i64 (zak 16).1,.int .i64 (zak 16).2.1,.string ⟨(zak 16).2.2.1.toArray⟩,.slice (some ⟨bl 16,0,none⟩) (zak 16).2.2.2.length (zak 16).2.2.2.length]:=hg 16 (by decide)
 have q17:g' 95 = .agg #[.int .i64 (zak 17).1,.int .i64 (zak 17).2.1,.string ⟨(zak 17).2.2.1.toArray⟩,.slice (some ⟨bl 17,0,none⟩) (zak 17).2.2.2.length (zak 17).2.2.2.length]:=hg 17 (by decide)
 have q18:g' 100 = .agg #[.int .i64 (zak 18).1,.int .i64 (zak 18).2.1,.string ⟨(zak 18).2.2.1.toArray⟩,.slice (some ⟨bl 18,0,none⟩) (zak 18).2.2.2.length (zak 18).2.2.2.length]:=hg 18 (by decide)
 have q19:g' 105 = .agg #[.int .i64 (zak 19).1,.int .i64 (zak 19).2.1,.string ⟨(zak 19).2.2.1.toArray⟩,.slice (some ⟨bl 19,0,none⟩) (zak 19).2.2.2.length (zak 19).2.2.2.length]:=hg 19 (by decide)
 have q20:g' 111 = .agg #[.int .i64 (zak 20).1,.int .i64 (zak 20).2.1,.string ⟨(zak 20).2.2.1.toArray⟩,.slice (some ⟨bl 20,0,none⟩) (zak 20).2.2.2.length (zak 20).2.2.2.length]:=hg 20 (by decide)
 have q21:g' 116 = .agg #[.int .i64 (zak 21).1,.int .i64 (zak 21).2.1,.string ⟨(zak 21).2.2.1.toArray⟩,.slice (some ⟨bl 21,0,none⟩) (zak 21).2.2.2.length (zak 21).2.2.2.length]:=hg 21 (by decide)
 have q22:g' 120 = .agg #[.int .i64 (zak 22).1,.int .i64 (zak 22).2.1,.string ⟨(zak 22).2.2.1.toArray⟩,.slice (some ⟨bl 22,0,none⟩) (zak 22).2.2.2.length (zak 22).2.2.2.length]:=hg 22 (by decide)
 have q23:g' 124 = .agg #[.int .i64 (zak 23).1,.int .i64 (zak 23).2.1,.string ⟨(zak 23).2.2.1.toArray⟩,.slice (some ⟨bl 23,0,none⟩) (zak 23).2.2.2.length (zak 23).2.2.2.length]:=hg 23 (by decide)
 have q24:g' 130 = .agg #[.int .i64 (zak 24).1,.int .i64 (zak 24).2.1,.string ⟨(zak 24).2.2.1.toArray⟩,.slice (some ⟨bl 24,0,none⟩) (zak 24).2.2.2.length (zak 24).2.2.2.length]:=hg 24 (by decide)
 have q25:g' 135 = .agg #[.int .i64 (zak 25).1,.int .i64 (zak 25).2.1,.string ⟨(zak 25).2.2.1.toArray⟩,.slice (some ⟨bl 25,0,none⟩) (zak 25).2.2.2.length (zak 25).2.2.2.length]:=hg 25 (by decide)
 have q26:g' 141 = .agg #[.int .i64 (zak 26).1,.int .i64 (zak 26).2.1,.string ⟨(zak 26).2.2.1.toArray⟩,.slice (some ⟨bl 26,0,none⟩) (zak 26).2.2.2.length (zak 26).2.2.2.length]:=hg 26 (by decide)
 have q27:g' 149 = .agg #[.int .i64 (zak 27).1,.int .i64 (zak 27).2.1,.string ⟨(zak 27).2.2.1.toArray⟩,.slice (some ⟨bl 27,0,none⟩) (zak 27).2.2.2.length (zak 27).2.2.2.length]:=hg 27 (by decide)
 have q28:g' 153 = .agg #[.int .i64 (zak 28).1,.int .i64 (zak 28).2.1,.string ⟨(zak 28).2.2.1.toArray⟩,.slice (some ⟨bl 28,0,none⟩) (zak 28).2.2.2.length (zak 28).2.2.2.length]:=hg 28 (by decide)
 have q29:g' 159 = .agg #[.int .i64 (zak 29).1,.int .i64 (zak 29).2.1,.string ⟨(zak 29).2.2.1.toArray⟩,.slice (some ⟨bl 29,0,none⟩) (zak 29).2.2.2.length (zak 29).2.2.2.length]:=hg 29 (by decide)
 simp only [List.append_eq,List.cons_append,List.nil_append,List.drop_succ_cons,List.drop_zero]
 simp [go_sem]
 refine zaq (rowsC bl).toArray (by simp [go_sem]) rfl ty_slZ100 (by decide) [(0,.agg #[.int .i64 (zak 0).1,.int .i64 (zak 0).2.1,.string ⟨(zak 0).2.2.1.toArray⟩,.slice (some ⟨bl 0,0,none⟩) (zak 0).2.2.2.length (zak 0).2.2.2.length]),(1,.agg #[.int .i64 (zak 1).1,.int .i64 (zak 1).2.1,.string ⟨(zak 1).2.2.1.toArray⟩,.slice (some ⟨bl 1,0,none⟩) (zak 1).2.2.2.length (zak 1).2.2.2.length]),(2,.agg #[.int .i64 (zak 2).1,.int .i64 (zak 2).2.1,.string ⟨(zak 2).2.2.1.toArray⟩,.slice (some ⟨bl 2,0,none⟩) (zak 2).2.2.2.length (zak 2).2.2.2.length]),(3,.agg #[.int .i64 (zak 3).1,.int .i64 (zak 3).2.1,.string ⟨(zak 3).2.2.1.toArray⟩,.slice (some ⟨bl 3,0,none⟩) (zak 3).2.2.2.length (zak 3).2.2.2.length]),(4,.agg #[.int .i64 (zak 4).1,.int .i64 (zak 4).2.1,.string ⟨(zak 4).2.2.1.toArray⟩,.slice (some ⟨bl 4,0,none⟩) (zak 4).2.2.2.length (zak 4).2.2.2.length]),(5,.agg #[.int .i64 (zak 5).1,.int .i64 (zak 5).2.1,.string ⟨(zak 5).2.2.1.toArray⟩,.slice (some ⟨bl 5,0,none⟩) (zak 5).2.2.2.length (zak 5).2.2.2.length]),(6,.agg #[.int .i64 (zak 6).1,.int .i64 (zak 6).2.1,.string ⟨(zak 6).2.2.1.toArray⟩,.slice (some ⟨bl 6,0,none⟩) (zak 6).2.2.2.length (zak 6).2.2.2.length]),(7,.agg #[.int .i64 (zak 7).1,.int .i64 (zak 7).2.1,.string ⟨(zak 7).2.2.1.toArray⟩,.slice (some ⟨bl 7,0,none⟩) (zak 7).2.2.2.length (zak 7).2.2.2.length]),(8,.agg #[.int .i64 (zak 8).1,.int .i64 (zak 8).2.1,.string ⟨(zak 8).2.2.1.toArray⟩,.slice (some ⟨bl 8,0,none⟩) (zak 8).2.2.2.length (zak 8).2.2.2.length]),(9,.agg #[.int .i64 (zak 9).1,.int .i64 (zak 9).2.1,.string ⟨(zak 9).2.2.1.toArray⟩,.slice (some ⟨bl 9,0,none⟩) (zak 9).2.2.2.length (zak 9).2.2.2.length]),(10,.agg #[.int .i64 (zak 10).1,.int .i64 (zak 10).2.1,.string ⟨(zak 10).2.2.1.toArray⟩,.slice (some ⟨bl 10,0,none⟩) (zak 10).2.2.2.length (zak 10).2.2.2.length]),(11,.agg #[.int .i64 (zak 11).1,.int .i64 (zak 11).2.1,.string ⟨(zak 11).2.2.1.toArray⟩,.slice (some ⟨bl 11,0,none⟩) (zak 11).2.2.2.length (zak 11).2.2.2.length]),(12,.agg #[.int .i64 (zak 12).1,.int .i64 (zak 12).2.1,.string ⟨(zak 12).2.2.1.toArray⟩,.slice (some ⟨bl 12,0,none⟩) (zak 12).2.2.2.length (zak 12).2.2.2.length]),(13,.agg #[.int .i64 (zak 13).1,.int .i64 (zak 13).2.1,.string ⟨(zak 13).2.2.1.toArray⟩,.slice (some ⟨bl 13,0,none⟩) (zak 13).2.2.2.length (zak 13).2.2.2.length]),(14,.agg #[.int .i64 (zak 14).1,.int .i64 (zak 14).2.1,.string ⟨(zak 14).2.2.1.toArray⟩,.slice (some ⟨bl 14,0,none⟩) (zak 14).2.2.2.length (zak 14).2.2.2.length]),(15,.agg #[.int .i64 (zak 15).1,.int .i64 (zak 15).2.1,.string ⟨(zak 15).2.2.1.toArray⟩,.slice (some ⟨bl 15,0,none⟩) (zak 15).2.2.2.length (zak 15).2.2.2.length]),(16,.agg #[.int .i64 (zak 16).1,.int .i64 (zak 16).2.1,.string ⟨(zak 16).2.2.1.toArray⟩,.slice (some ⟨bl 16,0,none⟩) (zak 16).2.2.2.length (zak 16).2.2.2.length]),(17,.agg #[.int .i64 (zak 17).1,.int .i64 (zak 17).2.1,.string ⟨(zak 17).2.2.1.toArray⟩,.slice (some ⟨bl 17,0,none⟩) (zak 17).2.2.2.length (zak 17).2.2.2.length]),(18,.agg #[.int .i64 (zak 18).1,.int .i64 (zak 18).2.1,.string ⟨(zak 18).2.2.1.toArray⟩,.slice (some ⟨bl 18,0,none⟩) (zak 18).2.2.2.length (zak 18).2.2.2.length]),(19,.agg #[.int .i64 (zak 19).1,.int .i64 (zak 19).2.1,.string ⟨(zak 19).2.2.1.toArray⟩,.slice (some ⟨bl 19,0,none⟩) (zak 19).2.2.2.length (zak 19).2.2.2.length]),(20,.agg #[.int .i64 (zak 20).1,.int .i64 (zak 20).2.1,.string ⟨(zak 20).2.2.1.toArray⟩,.slice (some ⟨bl 20,0,none⟩) (zak 20).2.2.2.length (zak 20).2.2.2.length]),(21,.agg #[.int .i64 (zak 21).1,.int .i64 (zak 21).2.1,.string ⟨(zak 21).2.2.1.toArray⟩,.slice (some ⟨bl 21,0,none⟩) (zak 21).2.2.2.length (zak 21).2.2.2.length]),(22,.agg #[.int .i64 (zak 22).1,.int .i64 (zak 22).2.1,.string ⟨(zak 22).2.2.1.toArray⟩,.slice (some ⟨bl 22,0,none⟩) (zak 22).2.2.2.length (zak 22).2.2.2.length]),(23,.agg #[.int .i64 (zak 23).1,.int .i64 (zak 23).2.1,.string ⟨(zak 23).2.2.1.toArray⟩,.slice (some ⟨bl 23,0,none⟩) (zak 23).2.2.2.length (zak 23).2.2.2.length]),(24,.agg #[.int .i64 (zak 24).1,.int .i64 (zak 24).2.1,.string ⟨(zak 24).2.2.1.toArray⟩,.slice (some ⟨bl 24,0,none⟩) (zak 24).2.2.2.length (zak 24).2.2.2.length]),(25,.agg #[.int .i64 (zak 25).1,.int .i64 (zak 25).2.1,.string ⟨(zak 25).2.2.1.toArray⟩,.slice (some ⟨bl 25,0,none⟩) (zak 25).2.2.2.length (zak 25).2.2.2.length]),(26,.agg #[.int .i64 (zak 26).1,.int .i64 (zak 26).2.1,.string ⟨(zak 26).2.2.1.toArray⟩,.slice (some ⟨bl 26,0,none⟩) (zak 26).2.2.2.length (zak 26).2.2.2.length]),(27,.agg #[.int .i64 (zak 27).1,.int .i64 (zak 27).2.1,.string ⟨(zak 27).2.2.1.toArray⟩,.slice (some ⟨bl 27,0,none⟩) (zak 27).2.2.2.length (zak 27).2.2.2.length]),(28,.agg #[.int .i64 (zak 28).1,.int .i64 (zak 28).2.1,.string ⟨(zak 28).2.2.1.toArray⟩,.slice (some ⟨bl 28,0,none⟩) (zak 28).2.2.2.length (zak 28).2.2.2.length]),(29,.agg #[.int .i64 (zak 29).1,.int .i64 (zak 29).2.1,.string ⟨(zak 29).2.2.1.toArray⟩,.slice (some ⟨bl 29,0,none⟩) (zak 29).2.2.2.length (zak 29).2.2.2.length])] (by simp [go_sem,q0,q1,q2,q3,q4,q5,q6,q7,q8,q9,q10,q11,q12,q13,q14,q15,q16,q17,q18,q19,q20,q21,q22,q23,q24,q25,q26,q27,q28,q29]) (by kernel_rfl) (fun w9 b9 hE9 hle9 hB9=>?_)
 simp [go_sem]
 refine hK _ _ ?_;clear hK K
 refine zaf ?_
 repeat (first|refine za3 ?_|refine za2 ?_)
 refine ⟨trivial,b9,bl,?_,hB9,fun j hj=>⟨(hb j hj).1.keep hE9,(hb j hj).2⟩,Nat.le_trans hE.size hle9,hE.next hE9⟩
 simp [go_sem,zat,zas]
theorem kIx_cases (k:Int):(kIx k=30∧¬(10≤k∧k≤24)∧¬(40≤k∧k≤43)∧¬(50≤k∧k≤51)∧¬(60≤k∧k≤68))∨(kIx k<30∧k=(zak (kIx k)).1):=by
 by_cases h1:10≤k∧k≤24
 ·right
  have h:k=10∨k=11∨k=12∨k=13∨k=14∨k=15∨k=16∨k=17∨k=18∨k=19∨k=20∨k=21∨k=22∨k=23∨k=24:=by omega
  rcases h with rfl|rfl|rfl|rfl|rfl|rfl|rfl|rfl|rfl|rfl|rfl|rfl|rfl|rfl|rfl<;>decide
 by_cases h2:40≤k∧k≤43
 ·right
  have h:k=40∨k=41∨k=42∨k=43:=by omega
  rcases h with rfl|rfl|rfl|rfl<;>decide
 by_cases h3:50≤k∧k≤51
 ·right
  have h:k=50∨k=51:=by omega
  rcases h with rfl|rfl<;>decide
 by_cases h4:60≤k∧k≤68
 ·right
  have h:k=60∨k=61∨k=62∨k=63∨k=64∨k=65∨k=66∨k=67∨k=68:=by omega
  rcases h with rfl|rfl|rfl|rfl|rfl|rfl|rfl|rfl|rfl<;>decide
 ·left
  refine ⟨?_,h1,h2,h3,h4⟩
  unfold kIx
  rw [if_neg h1,if_neg h2,if_neg h3,if_neg h4]
theorem kt_kind:∀ i,i<30→kIx (zak i).1=i:=by decide +kernel
theorem rows_row {w:World} {ad t:Nat} {bl:Nat→Nat} (h:Bx w ad (rowsC bl).toArray t) {j:Nat} (hj:j<30):za4 w ⟨ad,j*4,none⟩ 0 4=rowC bl j∧za1 w ⟨ad,j*4,none⟩ 0 4:=by
 have hs:=SL.whole h
 have hall:∀ R∈(List.range 30).map (rowC bl),R.length=4:=by
  intro R hR
  obtain ⟨i,_,rfl⟩:=List.mem_map.1 hR
  rfl
 have hlen:(rowsC bl).length=120:=by
  unfold rowsC;rw [zdL hall];simp
 obtain ⟨q1,q2,_⟩:=hs.row (j*4) 4 (by simp only [List.toList_toArray];rw [hlen];omega) (by decide)
 simp only [Option.getD_some,za0,Nat.zero_add,List.toList_toArray] at q1 q2
 refine ⟨?_,q2⟩
 rw [q1]
 unfold rowsC
 refine flatN_row hall ?_
 rw [List.getElem?_map,List.getElem?_range hj];rfl
def wsP (t:List UInt8) (sort:Int) (r:Int × Int × List UInt8 × List Int):Bool:=decide (r.2.2.1=t) && decide (r.2.1=sort)
def wsAt (t:List UInt8) (sort:Int) (j:Nat):Int:=match (KT.drop j).find? (wsP t sort) with
 | some r=>r.1
 | none=>0
theorem ws_0 (t:List UInt8) (sort:Int):wsAt t sort 0=wsS t sort:=rfl
theorem kt_drop {j:Nat} (h:j<30):KT.drop j=zak j::KT.drop (j+1):=by
 have hj:j<KT.length:=h
 rw [List.drop_eq_getElem_cons hj]
 unfold zak
 rw [List.getD_eq_getElem?_getD,List.getElem?_eq_getElem hj];rfl
theorem ws_step (t:List UInt8) (sort:Int) {j:Nat} (h:j<30):wsAt t sort j=if (zak j).2.2.1=t∧(zak j).2.1=sort then (zak j).1 else wsAt t sort (j+1):=by
 unfold wsAt
 rw [kt_drop h,List.find?_cons]
 by_cases hc:(zak j).2.2.1=t∧(zak j).2.1=sort
 ·rw [if_pos hc]
  simp [wsP,hc.1,hc.2]
 ·rw [if_neg hc]
  have:wsP t sort (zak j)=false:=by
   unfold wsP
   rw [Bool.and_eq_false_iff,decide_eq_false_iff_not,decide_eq_false_iff_not]
   by_cases h1:(zak j).2.2.1=t
   ·exact .inr fun h2=>hc ⟨h1,h2⟩
   ·exact .inl h1
  simp [this]
theorem ws_end (t:List UInt8) (sort:Int):wsAt t sort 30=0:=rfl
set_option maxHeartbeats 2000000 in
theorem withSort_any (t:List UInt8) (sort:Int) (w:World):Calls Tryz.prog 38 #[.string ⟨t.toArray⟩,.int .i64 sort] w fun e w'=>e = .returned (.int .i64 (wsS t sort))∧Below w.heap.size w w':=by
 obtain ⟨R0,hR0⟩:∃ R,R=wsS t sort:=⟨_,rfl⟩
 rw [←hR0]
 refine za7 (args:=[.string ⟨t.toArray⟩,.int .i64 sort]) (rs:=[.tmp 4]) (n:=26) Tryz.func38 rfl rfl rfl (by kernel_rfl) ?_
 have hA0:=Below.refl w.heap.size w
 first|refine zzr fun K hK=>?_|refine zzt fun K hK=>?_
 simp [go_sem,za0,za4,za1]
 refine hK _ _ ?_;clear hK K
 refine zac (fun K1 hK1=>?_)
 first|refine zzr fun K hK=>?_|refine zzt fun K hK=>?_
 simp [go_sem,za0,za4,za1]
 refine za5 (by simp [go_sem,za0,za4,za1]) rfl Tryz.call60 (fun R hR=>?_)
 simp [go_sem,za0,za4,za1]
 refine (rows_any _).mono ?_
 rintro e w1 ⟨b90,bl,rfl,hB90,hpr,hle90,hE1⟩
 refine ⟨_,rfl,hR _ _ ?_⟩
 clear hR R
 replace hA0:=hA0.next hE1
 simp [go_sem,za0,za4,za1]
 refine hK _ _ ?_;clear hK K
 refine zae ?_
 refine zaE (fun m' g w'=>Below w.heap.size w w'∧Bx w' b90 (rowsC bl).toArray 103∧∃ j:Nat,j≤30∧m'=30-j∧wsAt t sort j=R0∧g 0 = .string ⟨t.toArray⟩∧g 1 = .int .i64 sort∧g 7 = .slice (some ⟨b90,0,none⟩) 30 30∧g 8 = .int .i64 30∧g 9 = .int .i64 j) 30 ?_ ?_
 ·exact ⟨hA0,hB90,0,by omega,rfl,by rw [ws_0,hR0],by simp [go_sem],by simp [go_sem],by simp [go_sem],by simp [go_sem],by simp [go_sem]⟩
 clear hA0 hB90 hpr hle90
 rintro m' g w' ⟨hA0,hB90,j,hj,rfl,hR,g0,g1,g7,g8,g9⟩
 by_cases hlt:j<30
 ·have c1:(j:Int)<30:=by omega
  have hw1:IntKind.i64.wrap ((j:Int)+1)=(j+1:Nat):=by rw [IntWalk.i64_in _ (by omega)];omega
  obtain ⟨r1,r2⟩:=rows_row hB90 hlt
  rw [ws_step _ _ hlt] at hR
  first|refine zzr fun K hK=>?_|refine zzt fun K hK=>?_
  simp [go_sem,za0,za4,za1,g0,g1,g7,g8,g9, c1]
  refine hK _ _ ?_;clear hK K
  refine zac (fun K2 hK2=>?_)
  refine zai (t:=true) (by simp [go_sem,za0,za4,za1,g0,g1,g7,g8,g9,c1]) rfl ?_
  refine zaa ?_
  refine hK2 _ _ ?_
  refine zac (fun K3 hK3=>?_)
  refine zae ?_
  first|refine zzr fun K hK=>?_|refine zzt fun K hK=>?_
  simp [go_sem,za0,g0,g1,g7,g8,g9, c1,r1,r2]
  refine zam (by simp [go_sem,za0,g0,g1,g7,g8,g9]) rfl ty_zeroC103 (fun w10 b10 hE10 hle10 hB10=>?_)
  have hb10_0:=Nat.le_trans hA0.size hle10
  have hd90_10:b90≠b10:=Nat.ne_of_lt (Nat.lt_of_lt_of_le hB90.lt hle10)
  replace hA0:=hA0.next hE10
  replace hB90:=hB90.keep hE10
  simp [go_sem,za0,g0,g1,g7,g8,g9,hB10.cell]
  refine za6 (b:=b10) (off:=0) [.int .i64 (zak j).1,.int .i64 (zak j).2.1,.string ⟨(zak j).2.2.1.toArray⟩,.slice (some ⟨bl j,0,none⟩) (zak j).2.2.2.length (zak j).2.2.2.length] (by simp [go_sem,za0,g0,g1,g7,g8,g9,hB10.cell,c1,r1,r2,rowC]) rfl (by simp [go_sem,za0,g0,g1,g7,g8,g9,hB10.cell,c1,r1,r2,rowC]) (by simp [go_sem,Value.cells,za0,g0,g1,g7,g8,g9,hB10.cell,c1,r1,r2,rowC]) ty_size103 hB10 (by simp) (by simp [Value.oneCell']) (by decide) (fun w11 hS11 hB11=>?_)
  simp [zaD] at hB11
  replace hA0:=hA0.nextS hS11 (by first|exact hb10_0|omega)
  replace hB90:=hB90.sto hS11 (by first|exact hd90_10|exact (hd10_90).symm)
  simp [go_sem,za0,g0,g1,g7,g8,g9,hB11.cell,c1,r1,r2,rowC]
  refine hK _ _ ?_;clear hK K
  by_cases hw:(zak j).2.2.1=t
  ·by_cases hs:(zak j).2.1=sort
   ·rw [if_pos ⟨hw,hs⟩] at hR
    first|refine zzr fun K hK=>?_|refine zzt fun K hK=>?_
    simp [go_sem,za0,g0,g1,g7,g8,g9,hB11.cell,za4,za1, hw,hs]
    refine hK _ _ ?_;clear hK K
    refine zai (t:=true) (by simp [go_sem,za0,g0,g1,g7,g8,g9,hB11.cell,za4,za1,hw,hs]) rfl ?_
    first|refine zzr fun K hK=>?_|refine zzt fun K hK=>?_
    simp [go_sem,za0,g0,g1,g7,g8,g9,hB11.cell,za4,za1]
    refine hK _ _ ?_;clear hK K
    refine zaf ?_
    repeat (first|refine za3 ?_|refine za2 ?_)
    refine ⟨trivial,?_,hA0⟩
    simp [go_sem,zat,zas,hB11.cell,za0,hR]
   ·rw [if_neg (fun h=>hs h.2)] at hR
    first|refine zzr fun K hK=>?_|refine zzt fun K hK=>?_
    simp [go_sem,za0,g0,g1,g7,g8,g9,hB11.cell,za4,za1, hw,hs]
    refine hK _ _ ?_;clear hK K
    refine zai (t:=false) (by simp [go_sem,za0,g0,g1,g7,g8,g9,hB11.cell,za4,za1,hw,hs]) rfl ?_
    refine zaa ?_
    refine hK3 _ _ ?_
    refine zzt fun K hK=>?_
    simp [go_sem,g9,hw1]
    refine hK _ _ ⟨30-(j+1),by omega,hA0,hB90,j+1,by omega,rfl,hR,by simp [go_sem,g0],by simp [go_sem,g1],by simp [go_sem,g7],by simp [go_sem,g8],by simp [go_sem]⟩
  ·rw [if_neg (fun h=>hw h.1)] at hR
   first|refine zzr fun K hK=>?_|refine zzt fun K hK=>?_
   simp [go_sem,za0,g0,g1,g7,g8,g9,hB11.cell,za4,za1, hw]
   refine hK _ _ ?_;clear hK K
   refine zai (t:=false) (by simp [go_sem,za0,g0,g1,g7,g8,g9,hB11.cell,za4,za1,hw]) rfl ?_
   refine zaa ?_
   refine hK3 _ _ ?_
   refine zzt fun K hK=>?_
   simp [go_sem,g9,hw1]
   refine hK _ _ ⟨30-(j+1),by omega,hA0,hB90,j+1,by omega,rfl,hR,by simp [go_sem,g0],by simp [go_sem,g1],by simp [go_sem,g7],by simp [go_sem,g8],by simp [go_sem]⟩
 ·have hje:j=30:=by omega
  subst hje
  rw [ws_end] at hR
  first|refine zzr fun K hK=>?_|refine zzt fun K hK=>?_
  simp [go_sem,za0,za4,za1,g0,g1,g7,g8,g9]
  refine hK _ _ ?_;clear hK K
  refine zac (fun K2 hK2=>?_)
  refine zai (t:=false) (by simp [go_sem,za0,za4,za1,g0,g1,g7,g8,g9]) rfl ?_
  refine zaz ?_
  repeat (first|refine zag ?_|refine za8 rfl ?_|refine zab ?_)
  refine hK1 _ _ ?_
  first|refine zzr fun K hK=>?_|refine zzt fun K hK=>?_
  simp [go_sem,za0,za4,za1,g0,g1,g7,g8,g9]
  refine hK _ _ ?_;clear hK K
  refine zaf ?_
  repeat (first|refine za3 ?_|refine za2 ?_)
  refine ⟨trivial,?_,hA0⟩
  simp [go_sem,zat,zas,hR]
def FindPost (w:World) (k:Int) (e:Ending) (w':World):Prop:=∃ (a:Option Addr) (c:Nat),e = .returned (.agg #[.int .i64 (zak (kIx k)).1,.int .i64 (sortK k),.string ⟨(zej k).toArray⟩,.slice a (zbY k).length c])∧SL w' a (intC (zbY k))∧(∀ ad,a=some ad→w.heap.size≤ad.block)∧Below w.heap.size w w'
set_option maxHeartbeats 2000000 in
theorem find_any (k:Int) (w:World):Calls Tryz.prog 82 #[.int .i64 k] w (FindPost w k):=by
 refine za7 (args:=[.int .i64 k]) (rs:=[.cell 2 103]) (n:=18) Tryz.func82 rfl rfl rfl (by kernel_rfl) ?_
 have hA0:=Below.refl w.heap.size w
 first|refine zzr fun K hK=>?_|refine zzt fun K hK=>?_
 simp [go_sem,za0,za4,za1]
 refine zam (by simp [go_sem,za0,za4,za1]) rfl ty_zeroC103 (fun w20 b20 hE20 hle20 hB20=>?_)
 have hb20_0:=Nat.le_trans hA0.size hle20
 replace hA0:=hA0.next hE20
 simp [go_sem,za0,za4,za1,hB20.cell]
 refine hK _ _ ?_;clear hK K
 refine zac (fun K1 hK1=>?_)
 have hBZ:=hB20.lt
 first|refine zzr fun K hK=>?_|refine zzt fun K hK=>?_
 simp [go_sem,za0,za4,za1,hB20.cell]
 refine za5 (by simp [go_sem,za0,za4,za1,hB20.cell]) rfl Tryz.call60 (fun R hR=>?_)
 simp [go_sem,za0,za4,za1,hB20.cell]
 refine (rows_any _).mono ?_
 rintro e w21 ⟨b90,bl,rfl,hB90,hpr,hle90,hE21⟩
 refine ⟨_,rfl,hR _ _ ?_⟩
 clear hR R
 replace hA0:=hA0.next hE21
 replace hB20:=hB20.keep hE21
 have hle20':w.heap.size≤b20:=hle20
 have hne:b20≠b90:=Nat.ne_of_lt (Nat.lt_of_lt_of_le hBZ hle90)
 simp [go_sem,za0,za4,za1,hB20.cell]
 refine hK _ _ ?_;clear hK K
 refine zae ?_
 refine zaE (fun m' g w'=>Below w.heap.size w w'∧Bx w' b90 (rowsC bl).toArray 103∧Bx w' b20 #[.int .i64 0,.int .i64 0,.string ⟨#[]⟩,.slice none 0 0] 103∧(∀ j,j<30→Bx w' (bl j) (intC (zak j).2.2.2).toArray 3∧w.heap.size≤bl j∧bl j≠b20)∧∃ j:Nat,j≤30∧m'=30-j∧(∀ i,i<j→(zak i).1≠k)∧g 0 = .int .i64 k∧g 2 = .pointer (some ⟨b20,0,none⟩)∧g 5 = .slice (some ⟨b90,0,none⟩) 30 30∧g 6 = .int .i64 30∧g 7 = .int .i64 j) 30 ?_ ?_
 ·exact ⟨hA0,hB90,hB20,fun j hj=>⟨(hpr j hj).1,by have:=(hpr j hj).2;have:=hE20.size;omega,by have:=(hpr j hj).2;omega⟩,0,by omega,rfl,fun i hi=>by omega,by simp [go_sem],by simp [go_sem],by simp [go_sem],by simp [go_sem],by simp [go_sem]⟩
 clear hA0 hB90 hpr hle90 hBZ hB20
 rintro m' g w' ⟨hA0,hB90,hB20,hpr,j,hj,rfl,hno,g0,g2,g5,g6,g7⟩
 have hd90_20:b90≠b20:=hne.symm
 by_cases hlt:j<30
 ·have c1:(j:Int)<30:=by omega
  have hw1:IntKind.i64.wrap ((j:Int)+1)=(j+1:Nat):=by rw [IntWalk.i64_in _ (by omega)];omega
  obtain ⟨r1,r2⟩:=rows_row hB90 hlt
  first|refine zzr fun K hK=>?_|refine zzt fun K hK=>?_
  simp [go_sem,za0,za4,za1,hB20.cell,g0,g2,g5,g6,g7, c1]
  refine hK _ _ ?_;clear hK K
  refine zac (fun K2 hK2=>?_)
  refine zai (t:=true) (by simp [go_sem,za0,za4,za1,hB20.cell,g0,g2,g5,g6,g7,c1]) rfl ?_
  refine zaa ?_
  refine hK2 _ _ ?_
  refine zac (fun K3 hK3=>?_)
  refine zae ?_
  first|refine zzr fun K hK=>?_|refine zzt fun K hK=>?_
  simp [go_sem,za0,hB20.cell,g0,g2,g5,g6,g7, c1,r1,r2]
  refine zam (by simp [go_sem,za0,hB20.cell,g0,g2,g5,g6,g7]) rfl ty_zeroC103 (fun w10 b10 hE10 hle10 hB10=>?_)
  have hb10_0:=Nat.le_trans hA0.size hle10
  have hd90_10:b90≠b10:=Nat.ne_of_lt (Nat.lt_of_lt_of_le hB90.lt hle10)
  have hd20_10:b20≠b10:=Nat.ne_of_lt (Nat.lt_of_lt_of_le hB20.lt hle10)
  replace hA0:=hA0.next hE10
  replace hB90:=hB90.keep hE10
  replace hB20:=hB20.keep hE10
  simp [go_sem,za0,hB20.cell,g0,g2,g5,g6,g7,hB10.cell]
  have hprA:∀ j,j<30→Bx w10 (bl j) (intC (zak j).2.2.2).toArray 3∧w.heap.size≤bl j∧bl j≠b20∧bl j≠b10:=fun j hj=>⟨(hpr j hj).1.keep hE10,(hpr j hj).2.1,(hpr j hj).2.2,by have:=(hpr j hj).1.lt;omega⟩
  refine za6 (b:=b10) (off:=0) [.int .i64 (zak j).1,.int .i64 (zak j).2.1,.string ⟨(zak j).2.2.1.toArray⟩,.slice (some ⟨bl j,0,none⟩) (zak j).2.2.2.length (zak j).2.2.2.length] (by simp [go_sem,za0,hB20.cell,g0,g2,g5,g6,g7,hB10.cell,c1,r1,r2,rowC]) rfl (by simp [go_sem,za0,hB20.cell,g0,g2,g5,g6,g7,hB10.cell,c1,r1,r2,rowC]) (by simp [go_sem,Value.cells,za0,hB20.cell,g0,g2,g5,g6,g7,hB10.cell,c1,r1,r2,rowC]) ty_size103 hB10 (by simp) (by simp [Value.oneCell']) (by decide) (fun w11 hS11 hB11=>?_)
  simp [zaD] at hB11
  replace hA0:=hA0.nextS hS11 (by first|exact hb10_0|omega)
  replace hB90:=hB90.sto hS11 (by first|exact hd90_10|exact (hd10_90).symm)
  replace hB20:=hB20.sto hS11 (by first|exact hd20_10|exact (hd10_20).symm)
  simp [go_sem,za0,hB20.cell,g0,g2,g5,g6,g7,hB11.cell,c1,r1,r2,rowC]
  replace hpr:∀ j,j<30→Bx w11 (bl j) (intC (zak j).2.2.2).toArray 3∧w.heap.size≤bl j∧bl j≠b20:=fun j hj=>⟨(hprA j hj).1.sto hS11 (hprA j hj).2.2.2,(hprA j hj).2.1,(hprA j hj).2.2.1⟩
  refine hK _ _ ?_;clear hK K
  by_cases hk:(zak j).1=k
  ·have hix:kIx k=j:=by rw [←hk];exact kt_kind j hlt
   first|refine zzr fun K hK=>?_|refine zzt fun K hK=>?_
   simp [go_sem,za0,hB20.cell,g0,g2,g5,g6,g7,hB11.cell,za4,za1, hk]
   refine hK _ _ ?_;clear hK K
   refine zai (t:=true) (by simp [go_sem,za0,hB20.cell,g0,g2,g5,g6,g7,hB11.cell,za4,za1,hk]) rfl ?_
   first|refine zzr fun K hK=>?_|refine zzt fun K hK=>?_
   simp [go_sem,za0,hB20.cell,g0,g2,g5,g6,g7,hB11.cell,za4,za1]
   refine za6 (b:=b20) (off:=0) [.int .i64 (zak j).1,.int .i64 (zak j).2.1,.string ⟨(zak j).2.2.1.toArray⟩,.slice (some ⟨bl j,0,none⟩) (zak j).2.2.2.length (zak j).2.2.2.length] (by simp [go_sem,za0,hB20.cell,g0,g2,g5,g6,g7,hB11.cell,za4,za1,hk]) rfl (by simp [go_sem,za0,hB20.cell,g0,g2,g5,g6,g7,hB11.cell,za4,za1,hk]) (by simp [go_sem,Value.cells,za0,hB20.cell,g0,g2,g5,g6,g7,hB11.cell,za4,za1,hk]) ty_size103 hB20 (by simp) (by simp [Value.oneCell']) (by decide) (fun w12 hS12 hB12=>?_)
   simp [zaD] at hB12
   replace hA0:=hA0.nextS hS12 (by first|exact hb20_0|omega)
   replace hB90:=hB90.sto hS12 (by first|exact hd90_20|exact (hd20_90).symm)
   replace hB11:=hB11.sto hS12 (by first|exact hd10_20|exact (hd20_10).symm)
   simp [go_sem,za0,g0,g2,g5,g6,g7,hB11.cell,za4,za1,hB12.cell,hk]
   refine hK _ _ ?_;clear hK K
   refine zaf ?_
   repeat (first|refine za3 ?_|refine za2 ?_)
   refine ⟨by simp [go_sem,zaO,zas,za4,za1,za0,hB12.cell,g2],some ⟨bl j,0,none⟩,(zak j).2.2.2.length,?_,?_,fun ad ha=>by injection ha with ha;subst ha;exact (hpr j hlt).2.1,hA0⟩
   ·unfold sortK zej zbY
    rw [hix]
    simp [go_sem,zat,zas,hB12.cell,za0,g2,za4]
   ·unfold zbY
    rw [hix]
    have:=SL.whole ((hpr j hlt).1.sto hS12 (hpr j hlt).2.2)
    simpa using this
  ·first|refine zzr fun K hK=>?_|refine zzt fun K hK=>?_
   simp [go_sem,za0,hB20.cell,g0,g2,g5,g6,g7,hB11.cell,za4,za1, hk]
   refine hK _ _ ?_;clear hK K
   refine zai (t:=false) (by simp [go_sem,za0,hB20.cell,g0,g2,g5,g6,g7,hB11.cell,za4,za1,hk]) rfl ?_
   refine zaa ?_
   refine hK3 _ _ ?_
   refine zzt fun K hK=>?_
   simp [go_sem,g7,hw1]
   refine hK _ _ ⟨30-(j+1),by omega,hA0,hB90,hB20,hpr,j+1,by omega,rfl,fun i hi=>?_,by simp [go_sem,g0],by simp [go_sem,g2],by simp [go_sem,g5],by simp [go_sem,g6],by simp [go_sem]⟩
   by_cases hij:i=j
   ·rw [hij];exact hk
   ·exact hno i (by omega)
 ·have hje:j=30:=by omega
  subst hje
  have hix:kIx k=30:=by
   rcases kIx_cases k with ⟨h,_⟩|⟨h,h2⟩
   ·exact h
   ·exact absurd h2.symm (hno _ h)
  first|refine zzr fun K hK=>?_|refine zzt fun K hK=>?_
  simp [go_sem,za0,za4,za1,hB20.cell,g0,g2,g5,g6,g7]
  refine hK _ _ ?_;clear hK K
  refine zac (fun K2 hK2=>?_)
  refine zai (t:=false) (by simp [go_sem,za0,za4,za1,hB20.cell,g0,g2,g5,g6,g7]) rfl ?_
  refine zaz ?_
  repeat (first|refine zag ?_|refine za8 rfl ?_|refine zab ?_)
  refine hK1 _ _ ?_
  first|refine zzr fun K hK=>?_|refine zzt fun K hK=>?_
  simp [go_sem,za0,za4,za1,hB20.cell,g0,g2,g5,g6,g7]
  refine zal #[.int .i64 0,.int .i64 0,.string ⟨#[]⟩,.slice none 0 0] (by simp [go_sem]) rfl ty_stZ103 [] (by simp [go_sem]) rfl ?_
  simp [go_sem,za0]
  refine za6 (b:=b20) (off:=0) [.int .i64 0,.int .i64 0,.string ⟨#[]⟩,.slice none 0 0] (by simp [go_sem,za0,za4,za1,hB20.cell,g0,g2,g5,g6,g7]) rfl (by simp [go_sem,za0,za4,za1,hB20.cell,g0,g2,g5,g6,g7]) (by simp [go_sem,Value.cells,za0,za4,za1,hB20.cell,g0,g2,g5,g6,g7]) ty_size103 hB20 (by simp) (by simp [Value.oneCell']) (by decide) (fun w30 hS30 hB30=>?_)
  simp [zaD] at hB30
  replace hA0:=hA0.nextS hS30 (by first|exact hb20_0|omega)
  replace hB90:=hB90.sto hS30 (by first|exact hd90_20|exact (hd20_90).symm)
  simp [go_sem,za0,za4,za1,g0,g2,g5,g6,g7,hB30.cell]
  refine hK _ _ ?_;clear hK K
  refine zaf ?_
  repeat (first|refine za3 ?_|refine za2 ?_)
  refine ⟨by simp [go_sem,zaO,zas,za4,za1,za0,hB30.cell,g2],none,0,?_,?_,fun ad ha=>absurd ha (by simp),hA0⟩
  ·unfold sortK zej zbY
   rw [hix]
   simp [go_sem,zat,zas,hB30.cell,za0,g2,za4,zak,KT]
  ·unfold zbY
   rw [hix]
   exact SL.nil _ _
end Go.Proofs.YtefhenfofomjhaaGreat
