/- Rational numbers: structs compared; one, unit. -/
import Derived.Test.YtnfchljiicniiaaGreatIc2
import Derived.Laws.StructEq
namespace Go.Proofs.YtnfchljiicniiaaGreat
open Go Go.RowKit Go.V
set_option linter.unusedSimpArgs false
set_option linter.unusedVariables false
set_option maxRecDepth 20000

theorem tame_program {P : Program} (w : World) : tame P program w = some P := rfl
theorem tame_ite {P : Program} {w : World} {α : Type} (c : Prop) [Decidable c] (x y : Sem α) : tame P (if c then x else y) w = if c then tame P x w else tame P y w := by split <;> rfl
theorem tame_equalIn_struct {P : Program} {w : World} (d : Nat) (t : TypeId) (xs ys : Array Value) (ht : P.underlying t = some (.struct (P.fieldsOf t))) (hp : P.stoodInHeld t = false) :
    tame P (Op.equalIn (d + 1) t (.agg xs) (.agg ys)) w = tame P (Op.eqFields d xs ys (P.fieldsOf t).toList) w := by
  simp only [Op.equalIn, tame_bind', tame_underlying ht, Option.bind_some, tame_program, hp, Bool.false_eq_true, if_false]
  rw [← Array.forIn_toList]
  generalize (P.fieldsOf t).toList = fs
  clear ht
  induction fs with
  | nil => simp [Op.eqFields, tame_pure, tame_bind']
  | cons f fs ih =>
    simp only [List.forIn_cons, Op.eqFields, tame_bind', tame_ite]
    by_cases hn : f.name ≠ "_"
    · simp only [if_pos hn]
      cases tame P (part f.type xs f.offset) w with
      | none => rfl
      | some a =>
        cases h2 : tame P (part f.type ys f.offset) w with
        | none => simp [h2]
        | some b =>
          cases h3 : tame P (Op.equalIn d f.type a b) w with
          | none => simp [h2, h3]
          | some r =>
            cases r
            · simp [h2, h3, tame_pure]
            · simp only [h2, h3, Option.bind_some, tame_pure, Bool.not_true, Bool.false_eq_true, if_false]
              exact ih
    · simp only [if_neg hn, tame_pure, Option.bind_some]
      exact ih
theorem tame_part {P : Program} {w : World} {t : TypeId} {xs : Array Value} {j : Nat} {v : Value} (ha : tame P (isAgg t) w = some false) (hv : xs[j]? = some v) : tame P (part t xs j) w = some v := by
  simp only [part, tame_bind', ha, Option.bind_some, Bool.false_eq_true, if_false, hv, tame_pure]
theorem tame_eq_int {P : Program} {w : World} (d : Nat) {t : TypeId} {k k' : IntKind} (a b : Int) (h : P.underlying t = some (.int k')) : tame P (Op.equalIn (d + 1) t (.int k a) (.int k b)) w = some (decide (a = b)) := by
  simp [Op.equalIn, tame_bind', tame_underlying h, tame_pure, beq_dec]
theorem tame_eq_str {P : Program} {w : World} (d : Nat) {t : TypeId} (a b : ByteArray) (h : P.underlying t = some .string) : tame P (Op.equalIn (d + 1) t (.string a) (.string b)) w = some (decide (bs a = bs b)) := by
  simp [Op.equalIn, tame_bind', tame_underlying h, tame_pure, beq_toListBytes, toList_eq_iff]
theorem eqF_cons {P : Program} {w : World} (d : Nat) (xs ys : Array Value) (f : Field) (fs : List Field) {a b : Value} {r : Bool} (hn : f.name ≠ "_") (h1 : tame P (part f.type xs f.offset) w = some a) (h2 : tame P (part f.type ys f.offset) w = some b) (h3 : tame P (Op.equalIn d f.type a b) w = some r) :
    tame P (Op.eqFields d xs ys (f :: fs)) w = if r then tame P (Op.eqFields d xs ys fs) w else some false := by
  simp only [Op.eqFields, tame_ite, if_pos hn, tame_bind', h1, h2, h3, Option.bind_some, tame_pure]
  cases r <;> rfl
theorem guard_agg {P : Program} {w : World} (op : BinOp) (t : TypeId) (x y : Operand) (xs ys : Array Value) (hm : P.eqGuardType P.depth t = false) : tame P (eqGuard op t x y (.agg xs) (.agg ys)) w = some () := by
  cases op <;> simp [eqGuard, tame_bind', tame_program, hm, tame_pure, tame_ite]

/-- two ints of a struct -/
def isShp : Value → Bool
  | .agg ⟨[.int .i64 _, .int .u16 _]⟩ => true
  | _ => false
def eqShp : Value → Value → Value
  | .agg ⟨[.int .i64 a, .int .u16 b]⟩, .agg ⟨[.int .i64 a', .int .u16 b']⟩ => .bool (decide (a = a' ∧ b = b'))
  | _, _ => undef
@[go_sem] theorem isShp_mk (a b : Int) : isShp (.agg #[.int .i64 a, .int .u16 b]) = true := rfl
@[go_sem] theorem eqShp_mk (a b a' b' : Int) : eqShp (.agg #[.int .i64 a, .int .u16 b]) (.agg #[.int .i64 a', .int .u16 b']) = .bool (decide (a = a' ∧ b = b')) := rfl
theorem shp_eq (w : World) (d : Nat) (a b a' b' : Int) :
    tame Tryz.prog (Op.equalIn (d + 1 + 1) 98 (.agg #[.int .i64 a, .int .u16 b]) (.agg #[.int .i64 a', .int .u16 b'])) w = some (decide (a = a' ∧ b = b')) := by
  have hu : Tryz.prog.underlying 98 = some (.struct (Tryz.prog.fieldsOf 98)) := by kernel_rfl
  have hp : Tryz.prog.stoodInHeld 98 = false := by kernel_rfl
  have hf : (Tryz.prog.fieldsOf 98).toList = [⟨((Tryz.prog.fieldsOf 98).toList.getD 0 default).name, 3, 0, false, "", ((Tryz.prog.fieldsOf 98).toList.getD 0 default).pkgPath, 0⟩, ⟨((Tryz.prog.fieldsOf 98).toList.getD 1 default).name, 90, 1, false, "", ((Tryz.prog.fieldsOf 98).toList.getD 1 default).pkgPath, 8⟩] := by kernel_rfl
  have hn1 : ((Tryz.prog.fieldsOf 98).toList.getD 0 default).name ≠ "_" := of_decide_eq_false (by kernel_rfl)
  have hn2 : ((Tryz.prog.fieldsOf 98).toList.getD 1 default).name ≠ "_" := of_decide_eq_false (by kernel_rfl)
  rw [tame_equalIn_struct (d + 1) 98 _ _ hu hp, hf]
  have u3 : Tryz.prog.underlying 3 = some (.int .i64) := by kernel_rfl
  have u9 : Tryz.prog.underlying 90 = some (.int .u16) := by kernel_rfl
  rw [eqF_cons (d + 1) _ _ _ _ (by exact hn1) (tame_part (tame_isAgg u3 w) rfl) (tame_part (tame_isAgg u3 w) rfl) (tame_eq_int d a a' u3),
    eqF_cons (d + 1) _ _ _ _ (by exact hn2) (tame_part (tame_isAgg u9 w) rfl) (tame_part (tame_isAgg u9 w) rfl) (tame_eq_int d b b' u9)]
  by_cases h1 : a = a' <;> by_cases h2 : b = b' <;> simp [h1, h2, Op.eqFields, tame_pure]
theorem run_shp {w : World} {ev : Operand → Value} {ty : TypeId} {x y : Operand} {u : TypeId} {a b a' b' : Int} (hx : ev x = .agg #[.int .i64 a, .int .u16 b]) (hy : ev y = .agg #[.int .i64 a', .int .u16 b']) :
    run1 Tryz.prog w ev ty (.binOp .eql 98 x y u) = some (.value (.bool (decide (a = a' ∧ b = b')))) := by
  have hm : Tryz.prog.eqGuardType Tryz.prog.depth 98 = false := by kernel_rfl
  simp only [run1, execOp, hx, hy, Go.binOp, tame_bind', guard_agg _ _ _ _ _ _ hm, Option.bind_some, Op.equal, Op.maxDepth]
  rw [shp_eq w 9998]
  rfl
theorem isShp_of {v : Value} (h : isShp v = true) : ∃ a b, v = .agg #[.int .i64 a, .int .u16 b] := by
  unfold isShp at h
  split at h
  · exact ⟨_, _, rfl⟩
  · cases h
theorem any_shp {w : World} {ev : Operand → Value} {ty : TypeId} {x y : Operand} {u : TypeId} (hx : isShp (ev x) = true) (hy : isShp (ev y) = true) :
    anyV Tryz.prog w ev ty (.binOp .eql 98 x y u) = eqShp (ev x) (ev y) ∧ anyOk Tryz.prog w ev ty (.binOp .eql 98 x y u) := by
  obtain ⟨a, b, hx⟩ := isShp_of hx
  obtain ⟨a', b', hy⟩ := isShp_of hy
  have h := run_shp (w := w) (ty := ty) (u := u) hx hy
  refine ⟨?_, _, h⟩
  rw [hx, hy, eqShp_mk]
  simp [anyV, h]
@[go_sem] theorem any_shp_v {w : World} {ev : Operand → Value} {ty : TypeId} {x y : Operand} {u : TypeId} (hx : isShp (ev x) = true) (hy : isShp (ev y) = true) :
    anyV Tryz.prog w ev ty (.binOp .eql 98 x y u) = eqShp (ev x) (ev y) := (any_shp hx hy).1
@[go_sem] theorem any_shp_ok {w : World} {ev : Operand → Value} {ty : TypeId} {x y : Operand} {u : TypeId} (hx : isShp (ev x) = true) (hy : isShp (ev y) = true) :
    anyOk Tryz.prog w ev ty (.binOp .eql 98 x y u) = True := eq_true (any_shp hx hy).2
@[go_sem] theorem binC_agg {P : Program} (o : BinOp) (t : TypeId) (xs ys : Array Value) : binC P o t (.agg xs) (.agg ys) = none := by cases o <;> rfl
def isOne (l : List Nat) : Bool := decide (l = [1])
set_option maxHeartbeats 1000000 in
theorem one_any (l : List Nat) (a : Option Addr) (c : Nat) (w : World) (hr : RD w a c l) (hl : l.length ≤ lenB) :
    Calls Tryz.prog 79 #[.slice a l.length c] w fun e w' => e = .returned (.bool (isOne l)) ∧ Below w.heap.size w w' := by
  have hl' : l.length ≤ 1000000000000 := hl
  refine calls_of_W (args := [.slice a l.length c]) (rs := [.tmp 2]) (n := 17) Tryz.func79 rfl rfl rfl (by kernel_rfl) ?_
  first | refine W_rt (by kernel_rfl) (fun K hK => ?_) | refine W_text (by kernel_rfl) (fun K hK => ?_)
  simp [go_sem]
  refine hK _ _ ?_; clear hK K
  first | refine W_rt (by kernel_rfl) (fun K hK => ?_) | refine W_text (by kernel_rfl) (fun K hK => ?_)
  simp [go_sem]
  refine hv_build #[.int .i64 l.length, .int .u16 0] (by simp [go_sem]) rfl ty_stZ98 [(0, .int .i64 l.length)] (by simp [go_sem]) rfl ?_
  simp [go_sem]
  refine hv_alloc (by simp [go_sem]) rfl ty_zeroC98 (fun w3 b3 hE3 hle3 hB3 => ?_)
  have hnb := hr.below (b := b3) hle3
  replace hr := hr.keep hE3
  have hE := hE3
  simp [go_sem]
  refine hv_store (b := b3) (off := 0) [.int .i64 l.length, .int .u16 0] (by simp [go_sem]) rfl (by simp [go_sem]) (by simp [go_sem, Value.cells]) ty_size98 hB3 (by simp) (by simp [Value.oneCell']) (by decide) (fun w4 hS4 hB4 => ?_)
  simp [putC] at hB4
  replace hr := hr.sto hS4 hnb
  replace hE := hE.nextS hS4 hle3
  simp [go_sem]
  refine hK _ _ ?_; clear hK K
  refine W_seq (fun K1 hK1 => ?_)
  obtain ⟨n, hn⟩ : ∃ n, n = l.length := ⟨_, rfl⟩
  rw [← hn] at hB4 hl' ⊢
  by_cases h0 : n = 0
  · have hl0 : l = [] := List.length_eq_zero_iff.1 (by omega)
    have hne : isOne l = false := by rw [hl0]; rfl
    rw [hne]
    subst h0
    have k0 := hB4.cell 0
    have k1 := hB4.cell 1
    simp at k0 k1
    first | refine W_rt (by kernel_rfl) (fun K hK => ?_) | refine W_text (by kernel_rfl) (fun K hK => ?_)
    simp [go_sem]
    refine hK _ _ ?_; clear hK K
    refine W_if (by simp [go_sem]; rfl) rfl ?_
    refine W_skip ?_
    refine hK1 _ _ ?_; clear hK1 K1
    first | refine W_rt (by kernel_rfl) (fun K hK => ?_) | refine W_text (by kernel_rfl) (fun K hK => ?_)
    simp [go_sem, k0, k1, add_mk, rowV, rowOk]
    refine hv_build #[.int .i64 1, .int .u16 1] (by simp [go_sem]) rfl ty_stZ98 [(0, .int .i64 1), (1, .int .u16 1)] (by simp [go_sem]) rfl ?_
    simp [go_sem, k0, k1, add_mk, rowV, rowOk]
    refine hK _ _ ?_; clear hK K
    refine W_ret ?_
    repeat (first | refine thenG_ret ?_ | refine inBlock_ret ?_)
    refine ⟨trivial, ?_, hE⟩
    simp [go_sem, pack, resL, hne]
  · have q1 : 0 < n := by omega
    have q1' : (0 : Int) < n := by omega
    obtain ⟨c1, c2⟩ := hr.at (i := 0) (by omega)
    obtain ⟨x, hx⟩ : ∃ x, x = lat l 0 := ⟨_, rfl⟩
    rw [← hx] at c1
    have hone : isOne l = decide ((n : Int) = 1 ∧ (x : Int) = 1) := by
      unfold isOne
      rcases l with _ | ⟨y, t⟩
      · simp at hn; omega
      · have : y = x := by rw [hx]; rfl
        subst this
        rcases t with _ | ⟨z, t⟩
        · simp at hn; subst hn
          by_cases hy : y = 1
          · subst hy; rfl
          · have : ¬ (y : Int) = 1 := by omega
            simp [hy, this]
        · simp at hn
          have : ¬ (n : Int) = 1 := by omega
          simp [this]
    clear hx
    have c1' : w4.cell? (a.getD default) = some (.int .u16 x) := by
      have e0 : (a.getD default).add 0 = a.getD default := by unfold Addr.add; split <;> simp_all
      rw [e0] at c1; exact c1
    first | refine W_rt (by kernel_rfl) (fun K hK => ?_) | refine W_text (by kernel_rfl) (fun K hK => ?_)
    simp [go_sem, q1, q1']
    refine hK _ _ ?_; clear hK K
    refine W_if (by simp [go_sem]; rfl) rfl ?_
    first | refine W_rt (by kernel_rfl) (fun K hK => ?_) | refine W_text (by kernel_rfl) (fun K hK => ?_)
    simp [go_sem, q1, q1', c1', c2]
    refine hv_store (b := b3) (off := 1) [.int .u16 x] (by simp [go_sem]) rfl (by simp [go_sem]) (by simp [go_sem, Value.cells]) ty_size90 hB4 (by simp) (by simp [Value.oneCell']) (by decide) (fun w6 hS6 hB6 => ?_)
    simp [putC] at hB6
    replace hE := hE.nextS hS6 hle3
    have k0 := hB6.cell 0
    have k1 := hB6.cell 1
    simp at k0 k1
    simp [go_sem]
    refine hK _ _ ?_; clear hK K
    refine hK1 _ _ ?_; clear hK1 K1
    first | refine W_rt (by kernel_rfl) (fun K hK => ?_) | refine W_text (by kernel_rfl) (fun K hK => ?_)
    simp [go_sem, k0, k1, add_mk, rowV, rowOk]
    refine hv_build #[.int .i64 1, .int .u16 1] (by simp [go_sem]) rfl ty_stZ98 [(0, .int .i64 1), (1, .int .u16 1)] (by simp [go_sem]) rfl ?_
    simp [go_sem, k0, k1, add_mk, rowV, rowOk]
    refine hK _ _ ?_; clear hK K
    refine W_ret ?_
    repeat (first | refine thenG_ret ?_ | refine inBlock_ret ?_)
    refine ⟨trivial, ?_, hE⟩
    simp [go_sem, pack, resL, hone]
theorem unit_any (w : World) : Calls Tryz.prog 74 #[] w (RetN w (lim 1)) := by
  refine calls_of_W (args := []) (rs := [.tmp 0]) (n := 2) Tryz.func74 rfl rfl rfl (by kernel_rfl) ?_
  first | refine W_rt (by kernel_rfl) (fun K hK => ?_) | refine W_text (by kernel_rfl) (fun K hK => ?_)
  simp [go_sem]
  refine hK _ _ ?_; clear hK K
  first | refine W_rt (by kernel_rfl) (fun K hK => ?_) | refine W_text (by kernel_rfl) (fun K hK => ?_)
  simp [go_sem]
  refine hv_buildSlice #[.int .u16 1] (by simp [go_sem]) rfl ty_slZ23 (by decide) [(0, .int .u16 1)] (by simp [go_sem]) (by kernel_rfl) (fun w1 b1 hE1 hle1 hB1 => ?_)
  have hr := rd_one (x := 1) hB1 (by decide)
  simp [go_sem]
  refine hK _ _ ?_; clear hK K
  refine W_ret ?_
  repeat (first | refine thenG_ret ?_ | refine inBlock_ret ?_)
  refine ⟨trivial, ?_⟩
  rw [lim_1' 1 (by decide) (by decide)]
  exact ⟨some ⟨b1, 0, none⟩, 1, by simp [go_sem, pack, resL], hr, hE1⟩
def ct_one : Ct := { args := [[.u]], res := [[.b]], F := f_ub isOne, L := 100000000000, A := 0, B := 0 }
theorem ctF_one : ct_one.F = f_ub isOne := rfl
theorem ok_one : ct_one.ok Tryz.prog 79 := ok_ub (fun l a c w hr hl => one_any l a c w hr (by unfold lenB; omega))
def ct_unit : Ct := { args := [], res := [[.u]], F := fun _ => some [na 1], L := 100000000000000, A := 0, B := 1 }
theorem ctF_unit : ct_unit.F = fun _ => some [na 1] := rfl
theorem ok_unit : ct_unit.ok Tryz.prog 74 := by
  intro s w vs als r hs hr hsz hF
  obtain ⟨rfl, rfl⟩ := hr
  injection hF with hF; subst hF
  refine (unit_any w).mono ?_
  intro e w' hret
  obtain ⟨v, he, hv, hE⟩ := hret.rep
  exact ret1 rfl he hv (fun x hx => by simp at hx; subst hx; have := lim_len 1 1 (by decide); simp only [na, At.sz, ct_unit]; omega) hE
end Go.Proofs.YtnfchljiicniiaaGreat
