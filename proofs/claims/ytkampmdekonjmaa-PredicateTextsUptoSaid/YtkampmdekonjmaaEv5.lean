/- Symbolic evaluation: one operation, a region. -/
import Derived.Test.YtkampmdekonjmaaEv4
import Derived.Conc.MuLone
namespace Go.Proofs.Ytkampmdekonjmaa
open Go Go.RowKit Go.V
set_option linter.unusedSimpArgs false
set_option linter.unusedVariables false

theorem run_enter {P : Program} {f : FuncId} {fn : Func} {c : Code} (hf : P.funcs[f]? = some fn) (hname : (fn.name == "runtime.NumGoroutine") = false) (hb : fn.body = some c) (args : Array Value) (w : World) :
    (callFunc f args).run P w = .ok (.enter f args) w := by
  have h1 : fn.name ≠ "runtime.NumGoroutine" := by simpa using hname
  simp [callFunc, hf, h1, hb]
theorem enters_run {P : Program} {f : Nat} (h : enters P f = true) (args : Array Value) (w : World) : (callFunc f args).run P w = .ok (.enter f args) w := by
  unfold enters at h
  split at h
  · rename_i fn hf
    simp only [Bool.and_eq_true, Bool.not_eq_true'] at h
    obtain ⟨c, hc⟩ := Option.isSome_iff_exists.1 h.2
    exact run_enter hf h.1 hc args w
  · cases h
/-- what is asked of the calls that are looked into -/
def CallOk (P : Program) (Γ : Gam) (s : Nat) (call : Nat → List SV → SS → Tr (List S1 × SS)) : Prop :=
  ∀ (f : Nat) (xs : List SV) (S : SS) (E : En) (w : World) (vs : List Value) (R : Ending → World → Prop) (Q : List S1 × SS → Ev → Prop), SatM s E S.h S.sz w → denVs E xs = some vs → (call f xs S).sat Γ Q E.env →
    (∀ p E' w' rvs, Q p E'.env → SatM s E' p.2.h p.2.sz w' → denT E' p.1 = some rvs → Ext w.heap.size E w E' w' → R (.returned (pack rvs)) w') → Calls P f vs.toArray w R
theorem contractOk {P : Program} {Γ : Gam} {s L : Nat} {c : Ct} {f : Nat} (hΓ : GamOk P Γ) (hs : s ≤ L) (hc : Γ f = some c) {xs : List SV} {S : SS} {E : En} {w : World} {vs : List Value} {R : Ending → World → Prop} {Q : List S1 × SS → Ev → Prop} (H : SatM s E S.h S.sz w) (hx : denVs E xs = some vs) (hsat : (callS L c f xs S).sat Γ Q E.env)
    (himp : ∀ p E' w' rvs, Q p E'.env → SatM s E' p.2.h p.2.sz w' → denT E' p.1 = some rvs → Ext w.heap.size E w E' w' → R (.returned (pack rvs)) w') : Calls P (f % 8192) vs.toArray w R := by
  refine callS_ok hΓ hs hc H hx (sat_mono ?_ _ _ hsat)
  intro p e' hq E' w' rvs h1 h2 h3 h4
  exact himp p E' w' rvs (by rw [h2]; exact hq) h1 h3 h4
theorem pickC_some {Γ : Gam} {sz : Szs} {h : List (Option (List SC))} {als : List SV} {p : Nat × Ct} : ∀ {n f : Nat}, pickC Γ sz h als n f = some p → Γ p.1 = some p.2
  | 0, _, hp => by cases hp
  | n + 1, f, hp => by
    simp only [pickC] at hp
    split at hp
    · cases hp
    · rename_i c hc
      split at hp
      · injection hp with hp; subst hp; exact hc
      · exact pickC_some hp
theorem packS_den {E : En} {l : List S1} {vs : List Value} (h : denT E l = some vs) : denV E (packS l) = some (pack vs) := by
  match l, vs, h with
  | [], _, h => injection h with h; subst h; rfl
  | [x], _, h =>
    obtain ⟨a, b, h1, h2, rfl⟩ := op2_some h
    injection h2 with h2; subst h2
    exact h1
  | x :: y :: r, _, h =>
    have h' := h
    obtain ⟨a, b, h1, h2, rfl⟩ := op2_some h
    obtain ⟨a', b', h3, h4, rfl⟩ := op2_some h2
    show op1 _ (denT E (x :: y :: r)) = _
    rw [h']; rfl
theorem opnds_den {E : En} {l : List SV} {g : G} (H : SatG E l g) : ∀ {xs : List Operand} {vs : List SV}, opnds l xs = some vs → denVs E vs = some (xs.map (evG g))
  | [], _, h => by injection h with h; subst h; rfl
  | x :: r, _, h => by
    obtain ⟨a, b, h1, h2, rfl⟩ := op2_some h
    simp [denVs, opnd_den H h1, opnds_den H h2, op2]
theorem isFree_eq {S : SS} {nb : Nat} (h : isFree S nb = true) : S.h[nb]? = some none := by
  unfold isFree at h
  split at h
  · assumption
  · cases h
theorem zero_den {E : En} (z : Array Value) : denL E (z.toList.map .lit) = some z.toList := denL_lit _
theorem replS_den {E : En} (z : List Value) : ∀ n, ∃ vs, denL E (replS z n) = some vs ∧ vs.length = n * z.length ∧ ∀ i, i < n * z.length → vs[i]? = z[i % z.length]?
  | 0 => ⟨[], rfl, by simp, fun i h => by simp at h⟩
  | n + 1 => by
    obtain ⟨vs, h1, h2, h3⟩ := replS_den z n
    refine ⟨z ++ vs, denL_app (denL_lit z) h1, by simp [h2, Nat.succ_mul, Nat.add_comm], fun i hi => ?_⟩
    by_cases hlt : i < z.length
    · rw [List.getElem?_append_left hlt, Nat.mod_eq_of_lt hlt]
    · rw [List.getElem?_append_right (by omega), h3 _ (by rw [Nat.succ_mul] at hi; omega)]
      congr 1
      exact (Nat.mod_eq_sub_mod (by omega)).symm
theorem zeros_eq {E : En} {z : Array Value} {size len : Nat} (hz : z.size = size) : ∃ vs, denL E (replS z.toList len) = some vs ∧ (Array.range (len * size)).map ((if len * size = 0 then #[] else z)[· % (if len * size = 0 then #[] else z).size]!) = vs.toArray := by
  obtain ⟨vs, h1, h2, h3⟩ := replS_den (E := E) z.toList len
  refine ⟨vs, h1, ?_⟩
  simp only [Array.length_toList, hz] at h2 h3
  apply Array.ext
  · simp [h2]
  · intro i hi1 hi2
    simp only [Array.size_map, Array.size_range] at hi1
    have hne : ¬ len * size = 0 := by omega
    have hsz : 0 < size := by
      rcases Nat.eq_zero_or_pos size with h | h
      · rw [h] at hne; simp at hne
      · exact h
    have h4 := h3 i hi1
    have hm : i % size < z.size := by rw [hz]; exact Nat.mod_lt _ hsz
    simp only [Array.getElem_map, Array.getElem_range, hne, if_false, hz, List.getElem_toArray]
    rw [getElem!_pos z _ hm]
    rw [List.getElem?_eq_getElem (by simpa using hi2), Array.getElem?_toList, Array.getElem?_eq_getElem hm] at h4
    injection h4 with h4
    exact h4.symm
/-- the environment without the blocks from n0 on -/
def En.cut (E : En) (n0 : Nat) : En := { E with bl := fun b => if b < n0 then E.bl b else none }
theorem cut_some {E : En} {n0 b β : Nat} (h : (E.cut n0).bl b = some β) : b < n0 ∧ E.bl b = some β := by
  have k : (if b < n0 then E.bl b else none) = some β := h
  by_cases hb : b < n0
  · rw [if_pos hb] at k; exact ⟨hb, k⟩
  · rw [if_neg hb] at k; cases k
theorem denC_cut {E : En} {n0 : Nat} {c : SC} (h : noPtr n0 c = true) : denC (E.cut n0) c = denC E c := by
  cases c with
  | ptr b off =>
    have hb : b < n0 := by
      have h' : b + 1 ≤ n0 := by simpa [noPtr] using h
      omega
    show op1 _ (if b < n0 then E.bl b else none) = op1 _ (E.bl b)
    rw [if_pos hb]
  | sl b off n c =>
    have hb : b < n0 := by
      have h' : b + 1 ≤ n0 := by simpa [noPtr] using h
      omega
    show op1 _ (if b < n0 then E.bl b else none) = op1 _ (E.bl b)
    rw [if_pos hb]
  | sv b n =>
    have hb : b < n0 := by
      have h' : b + 1 ≤ n0 := by simpa [noPtr] using h
      omega
    show op1 _ (if b < n0 then E.bl b else none) = op1 _ (E.bl b)
    rw [if_pos hb]
    rfl
  | lit v => rfl
  | ob k j => rfl
  | ix e => rfl
  | bx e => rfl
theorem denL_cut {E : En} {n0 : Nat} : ∀ {l : List SC}, l.all (noPtr n0) = true → denL (E.cut n0) l = denL E l
  | [], _ => rfl
  | c :: r, h => by
    simp only [List.all_cons, Bool.and_eq_true] at h
    simp only [denL, denC_cut h.1, denL_cut h.2]
theorem denT_cut {E : En} {n0 : Nat} : ∀ {l : List S1}, l.all (noPtr1 n0) = true → denT (E.cut n0) l = denT E l
  | [], _ => rfl
  | c :: r, h => by
    simp only [List.all_cons, Bool.and_eq_true] at h
    have : den1 (E.cut n0) c = den1 E c := by
      cases c with
      | one c => exact denC_cut h.1
      | agg l => simp only [den1, denL_cut (show l.all (noPtr n0) = true from h.1)]
    simp only [denT, this, denT_cut h.2]
theorem gc_sound {s : Nat} {E E' : En} {S : SS} {p : List S1 × SS} {w w' : World} {rvs : List Value} {B : Nat} (HM : SatM s E S.h S.sz w) (hm : SatM s E' p.2.h p.2.sz w') (hd : denT E' p.1 = some rvs) (hx : Ext B E w E' w') :
    ∃ E2, SatM s E2 (gcS S.h.length p).h p.2.sz w' ∧ (gcS S.h.length p).sz = p.2.sz ∧ denT E2 p.1 = some rvs ∧ Ext B E w E2 w' ∧ E2.env = E'.env := by
  unfold gcS
  split
  · rename_i h
    simp only [Bool.and_eq_true] at h
    refine ⟨E'.cut S.h.length, ⟨fun b cs hb => ?_, fun b b' β hb hb' => ?_, fun b β hb => ?_, fun b β hb => ?_, hm.objs, hm.odom⟩, rfl, by rw [denT_cut h.1]; exact hd, ⟨⟨fun b β hb => ?_, hx.le.ob, hx.le.cv⟩, fun b β hb => ?_, hx.bel⟩, rfl⟩
    · have hb' : (p.2.h.take S.h.length)[b]? = some (some cs) := hb
      have hlt := (List.getElem?_eq_some_iff.1 hb').1
      rw [List.length_take] at hlt
      rw [List.getElem?_take_of_lt (by omega)] at hb'
      obtain ⟨β, t, vs, h1, h2, h3⟩ := hm.blocks b cs hb'
      have hall : cs.all (noPtr S.h.length) = true := (List.all_eq_true.1 h.2) (some cs) (List.mem_of_getElem? hb)
      refine ⟨β, t, vs, ?_, by rw [denL_cut hall]; exact h2, h3⟩
      show (if b < S.h.length then E'.bl b else none) = some β
      rw [if_pos (by omega)]; exact h1
    · exact hm.inj b b' β (cut_some hb).2 (cut_some hb').2
    · exact hm.dom b β (cut_some hb).2
    · obtain ⟨hlt, k1⟩ := cut_some hb
      obtain ⟨cs, hc⟩ := hm.hdom b β k1
      exact ⟨cs, by show (p.2.h.take S.h.length)[b]? = _; rw [List.getElem?_take_of_lt hlt]; exact hc⟩
    · obtain ⟨cs, hc⟩ := HM.hdom b β hb
      have hlt := (List.getElem?_eq_some_iff.1 hc).1
      show (if b < S.h.length then E'.bl b else none) = some β
      rw [if_pos hlt]; exact hx.le.bl b β hb
    · exact hx.new b β (cut_some hb).2
  · exact ⟨E', hm, rfl, hd, hx, rfl⟩
section
variable {P : Program} {Γ : Gam} {s L : Nat} {call : Nat → List SV → SS → Tr (List S1 × SS)} (hΓ : GamOk P Γ) (hs : s ≤ L) (hcall : CallOk P Γ s call)
variable {ops : Array Oper}
/-- a composite value of an array -/
theorem hv_buildA {k : Nat} {g : G} {w : World} {nx : G → World → Prop} {o : Oper} {t : TypeId} {a : Nat × TypeId × Nat} {z : Array Value} {parts : Array (Nat × Operand)} (cells : Array Value) (hw : wantO ops g o = true) (ho : o.op = .build t parts) (ha : arE P t = some a) (hz : zeroC P t = some z)
    (pl : List (Nat × Value)) (hp : (parts.toList.map fun x => (x.1, evG g x.2)) = pl) (hfill : Instr.fill (fun i => some (i * a.2.2, a.2.2)) z pl = some cells) (h : nx (updO g o.dst (.agg cells)) w) : hvX P ops o k nx g w := by
  obtain ⟨inf, hu, hi, hs⟩ := arE_some ha
  obtain ⟨v, hv, hc⟩ := zeroC_some hz w
  refine hv_run hw (v := .agg cells) (w' := w) ?_ (fun _ => Below.refl _ _) h
  have e1 : (underlying t).run P w = .ok (.array a.1 a.2.1) w := run_underlying hu w
  have e2 : (sizeOf a.2.1).run P w = .ok a.2.2 w := by simp [sizeOf, typeInfo, hi, hs]
  have e4 : (parts.map fun (i, x) => (i, evG g x)).toList = pl := by rw [Array.toList_map]; exact hp
  unfold execOp
  simp only [ho, Instr.build, Sem.run_bind, e1, Result.andThen_ok, hv, hc, e2, e4, hfill]
  simp
omit hΓ hs hcall in
/-- what is known of a store -/
def SI (E : En) (S : SS) (o : Oper) (w w' : World) : Prop := isStore o.op = true → ∃ t x y b off β, o.op = .store t x y ∧ one? (opnd S.g x) = some (.ptr b off) ∧ E.bl b = some β ∧ Sto w w' β
include hΓ hs hcall
theorem heavy_sound {lo B nb ob k : Nat} {S : SS} {o : Oper} {E : En} {g : G} {w : World} {Q : SS → Ev → Prop} {nx : G → World → Prop} (HG : SatG E S.g g) (HM : SatM s E S.h S.sz w) (Fr : ∀ b β, E.bl b = some β → lo ≤ b → B ≤ β) (hB : B ≤ w.heap.size)
    (hw : wantO ops g o = true) (hk : k = 0 → isStore o.op = false) (hsat : (heavyS P Γ L call lo nb ob S o).sat Γ Q E.env)
    (himp : ∀ S' E' g' w', Q S' E'.env → SatG E' S'.g g' → SatM s E' S'.h S'.sz w' → Ext (if isStore o.op = true then B else w.heap.size) E w E' w' → SI E S o w w' → nx g' w') : hvX P ops o k nx g w := by
  unfold heavyS at hsat
  split at hsat
  · rename_i t ho
    rw [ho] at himp
    have hsi : ∀ w', SI E S o w w' := fun w' h => by rw [ho] at h; cases h
    split at hsat
    · rename_i z hz
      split at hsat
      · rename_i hf
        refine hv_alloc hw ho hz fun w1 b hE hle hBx => ?_
        obtain ⟨E', h1, h2, h3, h4⟩ := HM.new (isFree_eq hf) hE hle (vs := z.toList) (by simpa using hBx) (zero_den z)
        refine himp _ E' _ w1 (h2 ▸ hsat) ?_ ?_ h4 (hsi _)
        · exact SatG.put (S := S.mem nb _) (HG.le h4.le) o.dst (by simp [denV, den1, denC, h3, op1])
        · rw [put_h, put_sz]; exact h1
      · exact hsat.elim
    · exact hsat.elim
  · rename_i t x ho
    rw [ho] at himp
    have hsi : ∀ w', SI E S o w w' := fun w' h => by rw [ho] at h; cases h
    split at hsat
    · rename_i cs hcs
      split at hsat
      · rename_i hf
        obtain ⟨vs, h5, h6⟩ := cellsV_den HM HG hcs
        refine hv_box vs.toArray hw ho h6 fun w1 b hE hle hBx => ?_
        obtain ⟨E', h1, h2, h3, h4⟩ := HM.new (isFree_eq hf) hE hle hBx h5
        refine himp _ E' _ w1 (h2 ▸ hsat) ?_ ?_ h4 (hsi _)
        · exact SatG.put (S := S.mem nb _) (HG.le h4.le) o.dst (by simp [denV, den1, denC, h3, op1])
        · rw [put_h, put_sz]; exact h1
      · exact hsat.elim
    · exact hsat.elim
  · rename_i t parts ho
    rw [ho] at himp
    have hsi : ∀ w', SI E S o w w' := fun w' h => by rw [ho] at h; cases h
    split at hsat
    · rename_i z l pl hz hpl
      split at hsat
      · rename_i cs hcs
        obtain ⟨us, h1, h2⟩ := fillS_den (zero_den z) (partsS_den HM HG hpl) hcs
        simp only [Array.toArray_toList] at h2
        refine hv_build us.toArray hw ho hz _ rfl h2 ?_
        refine himp _ E _ w hsat ?_ ?_ (Ext.refl _ _ _) (hsi _)
        · exact HG.put o.dst (by simp [denV, den1, h1, op1])
        · rw [put_h, put_sz]; exact HM
      · exact hsat.elim
    · rename_i pl hz hpl
      split at hsat
      · rename_i a z ha hzc
        split at hsat
        · rename_i cs hcs
          obtain ⟨us, h1, h2⟩ := fillS_den (zero_den z) (partsS_den HM HG hpl) hcs
          simp only [Array.toArray_toList] at h2
          refine hv_buildA us.toArray hw ho ha hzc _ rfl h2 ?_
          refine himp _ E _ w hsat ?_ ?_ (Ext.refl _ _ _) (hsi _)
          · exact HG.put o.dst (by simp [denV, den1, h1, op1])
          · rw [put_h, put_sz]; exact HM
        · exact hsat.elim
      · exact hsat.elim
    · exact hsat.elim
  · rename_i t len parts ho
    rw [ho] at himp
    have hsi : ∀ w', SI E S o w w' := fun w' h => by rw [ho] at h; cases h
    split at hsat
    · rename_i e size z pl hz hpl
      split at hsat
      · rename_i hc
        simp only [Bool.and_eq_true, Nat.beq_eq, Nat.ble_eq] at hc
        obtain ⟨⟨hc1, hc2⟩, hf⟩ := hc
        split at hsat
        · rename_i cs hcs
          obtain ⟨vs, h5, h6⟩ := zeros_eq (E := E) (len := len) hc1
          obtain ⟨us, h7, h8⟩ := fillS_den h5 (partsS_den HM HG hpl) hcs
          refine hv_buildSlice us.toArray hw ho hz hc2 _ rfl (by rw [h6]; exact h8) fun w1 b hE hle hBx => ?_
          split at hsat
          · rename_i n l hnl
            split at hsat
            · rename_i hlen
              have hlen' : l.length + 1 = len := by simpa using hlen
              split at hsat
              case' h_2 => exact hsat.elim
              rename_i sz' hpo
              obtain ⟨g1, g2⟩ := natLits_den hnl h7
              have hB2 : Bx w1 b (lmC (n :: l)).toArray e := by rw [g1] at hBx; exact hBx
              have hrd : RD w1 (some ⟨b, 0, none⟩) len (n :: l) := RD.of_lm hB2 g2 (by simp; omega)
              obtain ⟨E', k1, k2, k3, k4, k5⟩ := (HM.keep hE).objAt hpo (a := .u (n :: l)) (cs := [.slice (some ⟨b, 0, none⟩) (n :: l).length len]) (sh := .u) (A := 0) (B := len) rfl ⟨_, _, rfl, hrd⟩ (by simp [At.sz]; omega)
              refine himp _ E' _ w1 (by rw [k2]; exact hsat) ?_ ?_ ⟨k4, fun x β hx => .inl (by rw [k5] at hx; exact hx), hE⟩ (hsi _)
              · refine SatG.put (S := { S with sz := sz' }) (HG.le k4) o.dst ?_
                simp only [denV, den1, denC, k3, obC]
                simp [hlen']
              · rw [put_h, put_sz]; exact k1
            · exact hsat.elim
          · obtain ⟨E', h1, h2, h3, h4⟩ := HM.new (isFree_eq hf) hE hle hBx h7
            refine himp _ E' _ w1 (h2 ▸ hsat) ?_ ?_ h4 (hsi _)
            · exact SatG.put (S := S.mem nb _) (HG.le h4.le) o.dst (by simp [denV, den1, denC, h3, op1])
            · rw [put_h, put_sz]; exact h1
        · exact hsat.elim
      · exact hsat.elim
    · exact hsat.elim
  · rename_i t x y ho
    rw [ho] at himp
    split at hsat
    · rename_i b off vs n hx hy hn
      split at hsat
      · rename_i cs hcs
        split at hsat
        · rename_i hc
          simp only [Bool.and_eq_true, Nat.beq_eq, Nat.ble_eq] at hc
          obtain ⟨⟨⟨⟨c1, c2⟩, c3⟩, c4⟩, c5⟩ := hc
          obtain ⟨β, h1, h2⟩ := op1_some (one_den HG hx)
          obtain ⟨us, h3, h4⟩ := cellsV_den HM HG hy
          obtain ⟨β', tc, ws, h5, h6, h7⟩ := HM.blocks b cs hcs
          rw [h1] at h5; injection h5 with h5; subst h5
          have l1 := denL_len h3
          have l2 := denL_len h6
          have o1 := (cells_ok HM h3).1 c4
          have o2 := (cells_ok HM h6).2 c5
          replace h7 : Bx w β ws.toArray tc := h7.elim id fun ⟨cs0, vs0, e1, e2, _⟩ => by
            have := o2 (.int .u16 0) (by rw [e2]; simp)
            cases this
          have hk0 : k ≠ 0 := fun e => by have := hk e; rw [ho] at this; cases this
          refine hv_store us hw ho h2.symm h4 (by rw [hn, l1, c2]) h7 (by show off + us.length ≤ ws.length; omega) o1 hk0 fun w1 hS hB1 => ?_
          have hd := putS_den off h6 h3
          have HM' := HM.write hcs h1 h7 o2 hS (vs' := (putC ws.toArray off us).toList) (by simpa using hB1) hd
          refine himp _ E _ w1 hsat ?_ ?_ ⟨En.Le.refl E, fun _ _ h => .inl h, ?_⟩ (fun _ => ⟨t, x, y, b, off, β, ho, hx, h1, hS⟩)
          · exact SatG.und (S := S.mem b _) HG o.dst
          · rw [put_h, put_sz]; exact HM'
          · simp only [isStore, if_true]
            exact hS.below (Fr b β h1 c1)
        · exact hsat.elim
      · exact hsat.elim
    · exact hsat.elim
  · rename_i f args ts ho
    rw [ho] at himp
    have hsi : ∀ w', SI E S o w w' := fun w' h => by rw [ho] at h; cases h
    simp only [isStore, Bool.false_eq_true, if_false] at himp
    split at hsat
    · rename_i xs hxs
      split at hsat
      · rename_i hen
        rw [sat_bind] at hsat
        refine hv_call hw ho (fun a w => enters_run hen a w) fun R hR => ?_
        have hd := opnds_den HG hxs
        rw [show args.map (evG g) = (args.toList.map (evG g)).toArray from by apply Array.toList_inj.1; rw [Array.toList_map]]
        have fin : ∀ (p : List S1 × SS) (E' : En) (w' : World) (rvs : List Value), (Tr.leaf ({ gcS S.h.length p with g := S.g }.put o.dst (packS p.1)) : Tr SS).sat Γ Q E'.env → SatM s E' p.2.h p.2.sz w' → denT E' p.1 = some rvs → Ext w.heap.size E w E' w' →
            ∃ v, Ending.returned (pack rvs) = .returned v ∧ (k = 0 → Below w.heap.size w w') ∧ R v w' := by
          intro p E' w' rvs hq hm hdt hx
          obtain ⟨E2, hm2, hz2, hdt2, hx2, he2⟩ := gc_sound HM hm hdt hx
          refine ⟨_, rfl, fun _ => hx.bel, hR _ _ ?_⟩
          rw [← he2] at hq
          refine himp _ E2 _ w' hq ?_ ?_ hx2 (hsi _)
          · exact SatG.put (S := { gcS S.h.length p with g := S.g }) (HG.le hx2.le) o.dst (packS_den hdt2)
          · rw [put_h, put_sz]; rw [← hz2] at hm2; exact hm2
        split at hsat
        · rename_i p hp
          split at hsat
          · rename_i hb
            have hf := Nat.eq_of_beq_eq_true hb
            subst hf
            exact contractOk hΓ hs (pickC_some hp) HM hd hsat fin
          · exact hsat.elim
        · exact hcall f xs S E w _ _ _ HM hd hsat fin
      · exact hsat.elim
    · exact hsat.elim
  · exact hsat.elim
end
end Go.Proofs.Ytkampmdekonjmaa
