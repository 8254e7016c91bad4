/- strings.Builder: Grow, WriteString. -/
import Derived.Test.YtkampmdekonjmaaNu8
import Derived.Shelf.Strings.Builder2
import Derived.Lib.AppendStr
namespace Go.Proofs.Ytkampmdekonjmaa
open Go.RowKit Go.V Go.Shelf
set_option linter.unusedSimpArgs false
set_option linter.unusedVariables false
set_option maxRecDepth 20000
def Try.growRen0 : Go.Shelf.Ren := ⟨fun | 241 => 105 | 277 => 133 | n => n, fun | 70 => 99 | 0 => 0 | 72 => 102 | 37 => 100 | 3 => 3 | 5 => 5 | n => n, fun | n => n⟩
theorem Try.growRen : Go.Proofs.Lays.n241 Try.prog Try.growRen0 := {
  mixed := by kernel_rfl
  f241 := Try.func105.trans (congrArg some (by kernel_rfl))
  f277 := Try.func133.trans (congrArg some (by kernel_rfl))
  t0 := Try.underlying0
  a0 := Try.isAgg0
  z0 := Try.sizeOf0
  v0 := Try.zeroValue0
  t3 := Try.underlying3
  a3 := Try.isAgg3
  z3 := Try.sizeOf3
  v3 := Try.zeroValue3
  t37 := Try.underlying100
  a37 := Try.isAgg100
  z37 := Try.sizeOf100
  v37 := Try.zeroValue100
  t70 := Try.underlying99
  a70 := Try.isAgg99
  z70 := Try.sizeOf99
  v70 := Try.zeroValue99
  t72 := Try.underlying102
  a72 := Try.isAgg102
  z72 := Try.sizeOf102
  v72 := Try.zeroValue102 }
theorem Try.growExtra : Builder.Extra Try.prog Try.growRen0 := {
  sizeBuilder := by kernel_rfl
  liesBuilder := by kernel_rfl
  t5 := Try.underlying5
  a5 := Try.isAgg5
  z5 := Try.sizeOf5
  v5 := Try.zeroValue5
  infoByte := by kernel_rfl
  cellsByte := by kernel_rfl
  sizeByte := by kernel_rfl
  neB5 := by decide }
theorem growC (B b n : Nat) (w : World) (hB : B ≤ b) (hbx : Bx w b #[.pointer (some ⟨b, 0, none⟩), .slice none 0 0] 102) (hBw : B ≤ w.heap.size) (hn : n ≤ 281474976710656) :
    Calls Try.prog 105 #[.pointer (some ⟨b, 0, none⟩), .int .i64 n] w fun e w' => e = .returned (.tuple #[]) ∧ Bd B b [] w' ∧ Below B w w' :=
  (Any.Builder_grow_fresh Try.growRen Try.growExtra B b n w hB hbx.heap hBw hn).mono fun e w' ⟨h1, h2, h3⟩ => ⟨h1, .inr h2, h3⟩
set_option maxHeartbeats 1000000 in
theorem copyFresh_any (b : Nat) (w : World) (hbx : Bx w b #[.pointer none, .slice none 0 0] 102) :
    Calls Try.prog 104 #[.pointer (some ⟨b, 0, none⟩)] w fun e w' => e = .returned (.tuple #[]) ∧ Bx w' b #[.pointer (some ⟨b, 0, none⟩), .slice none 0 0] 102 ∧ Sto w w' b := by
  have hT := eqBuilder
  refine calls_of_W (args := [.pointer (some ⟨b, 0, none⟩)]) (rs := []) (n := 20) Try.func104 rfl rfl rfl (by kernel_rfl) ?_
  have k0 := hbx.cell 0
  have hsh : w.shape? b = some (102, 2) := by simp [World.shape?, hbx.heap]
  first | refine W_rt (by kernel_rfl) (fun K hK => ?_) | refine W_text (by kernel_rfl) (fun K hK => ?_)
  simp [go_sem, k0, hT, add_mk]
  refine hK _ _ ?_; clear hK K
  refine W_if (by simp [go_sem]; rfl) rfl ?_
  first | refine W_rt (by kernel_rfl) (fun K hK => ?_) | refine W_text (by kernel_rfl) (fun K hK => ?_)
  simp [go_sem, k0, add_mk]
  obtain ⟨j, hj, hjs⟩ := Option.map_eq_some_iff.1 ty_size102
  refine hv_conv (by simp [go_sem]) rfl (by simp [go_sem]; exact Lib.run_to_unsafe w ⟨b, 0, none⟩ Try.underlying99 Try.underlying146 hj (by rw [hjs]; decide) hsh (Nat.zero_lt_succ 1)) (fun e => absurd e (by decide)) ?_
  simp [go_sem]
  refine hv_ext (by simp [go_sem]) rfl Try.func132 (by kernel_rfl) (by kernel_rfl) (by kernel_rfl) (e := Extern.AbiNoEscape.same) (by kernel_rfl) (by simp [go_sem]; exact Lib.run_noEscape (P := Try.prog) w _) ?_
  simp [go_sem]
  refine hv_conv (by simp [go_sem]) rfl (by simp [go_sem]; exact Lib.run_from_unsafe w ⟨b, 0, none⟩ Try.underlying146 Try.underlying99 hj hsh (by kernel_rfl)) (fun e => absurd e (by decide)) ?_
  simp [go_sem, add_mk]
  refine hv_store (b := b) (off := 0) [.pointer (some ⟨b, 0, none⟩)] (by simp [go_sem]) rfl (by simp [go_sem]) (by simp [go_sem, Value.cells]) ty_size99 hbx (by simp) (by simp [Value.oneCell']) (by decide) (fun w1 hS1 hB1 => ?_)
  simp [putC] at hB1
  simp [go_sem]
  refine hK _ _ ?_
  refine ⟨trivial, ?_, hB1, hS1⟩
  simp [go_sem, pack, resL]
section
variable {P : Program} {w : World} {ev : Operand → Value} {ty : TypeId}
theorem lc_cap (x : Operand) (t : TypeId) : lc P w ev (.call { callee := .builtin .cap, args := #[x], argTypes := #[t] }) = none := rfl
theorem outV_none (d : Value) : outV d none = d := rfl
theorem cap_run {x : Operand} {t : TypeId} {a : Option Addr} {n c : Nat} (hx : ev x = .slice a n c) (h : (slE P t).isSome = true) : run1 P w ev ty (.call { callee := .builtin .cap, args := #[x], argTypes := #[t] }) = some (.value (.int .i64 c)) := by
  obtain ⟨m, hm⟩ := Option.isSome_iff_exists.1 h
  obtain ⟨e, i, hu, _, _⟩ := slE_some hm
  simp only [run1, execOp, resolve]
  simp [tame_bind', tame_map, tame_pure, tame_spure, invoke, builtin, Builtin.cap_, tame_underlying hu, goInt, hx]
theorem cap0_ok {x : Operand} {t : TypeId} (hx : ev x = .slice none 0 0) (h : (slE P t).isSome = true) : anyOk P w ev ty (.call { callee := .builtin .cap, args := #[x], argTypes := #[t] }) = True := eq_true ⟨_, cap_run hx h⟩
theorem cap0_v {x : Operand} {t : TypeId} (hx : ev x = .slice none 0 0) (h : (slE P t).isSome = true) : anyV P w ev ty (.call { callee := .builtin .cap, args := #[x], argTypes := #[t] }) = .int .i64 0 := by
  unfold anyV; rw [cap_run hx h]; rfl
end
set_option maxHeartbeats 1000000 in
theorem bdGrow_any (b n : Nat) (B : Nat) (w : World) (hB : B ≤ b) (hbx : Bx w b #[.pointer none, .slice none 0 0] 102) (hBw : B ≤ w.heap.size) (hn : n ≤ 281474976710656) :
    Calls Try.prog 70 #[.pointer (some ⟨b, 0, none⟩), .int .i64 n] w fun e w' => e = .returned (.tuple #[]) ∧ Bd B b [] w' ∧ Below B w w' := by
  refine calls_of_W (args := [.pointer (some ⟨b, 0, none⟩), .int .i64 n]) (rs := []) (n := 25) Try.func70 rfl rfl rfl (by kernel_rfl) ?_
  first | refine W_rt (by kernel_rfl) (fun K hK => ?_) | refine W_text (by kernel_rfl) (fun K hK => ?_)
  simp [go_sem]
  refine hv_call (by simp [go_sem]) rfl Try.call104 (fun R hR => ?_)
  simp [go_sem]
  refine (copyFresh_any b _ hbx).mono ?_
  rintro e w1 ⟨rfl, hbx1, hS1⟩
  refine ⟨_, rfl, hR _ _ ?_⟩
  clear hR R
  have hE1 := hS1.below hB
  simp [go_sem]
  refine hK _ _ ?_; clear hK K
  refine W_seq (fun K1 hK1 => ?_)
  have n0 : ¬ (n : Int) < 0 := by omega
  first | refine W_rt (by kernel_rfl) (fun K hK => ?_) | refine W_text (by kernel_rfl) (fun K hK => ?_)
  simp [go_sem, n0]
  refine hK _ _ ?_; clear hK K
  refine W_if (by simp [go_sem, n0]; rfl) rfl ?_
  refine W_skip ?_
  refine hK1 _ _ ?_
  have k1 := hbx1.cell 1
  have hD := Below.drew1 w1
  have hbx2 := hbx1.keep hD
  have k2 := hbx2.cell 1
  have hE2 : Below B w w1.drew := hE1.trans (hD.mono (Nat.le_trans hBw hE1.size))
  have hw0 : IntKind.i64.wrap 0 = 0 := by decide
  have hB2 : B ≤ w1.drew.heap.size := Nat.le_trans hBw (Nat.le_trans hE1.size hD.size)
  first | refine W_rd [(0, 0), (1, 0), (2, 0), (3, 0), (4, 0), (5, 0), (6, 0), (7, 0), (8, 0), (9, 0), (10, 0), (11, 0), (12, 0)] (by kernel_rfl) (by kernel_rfl) (fun K hK => ?_) | refine W_draw [(0, 0), (1, 0), (2, 0), (3, 0), (4, 0), (5, 0), (6, 0), (7, 0), (8, 0), (9, 0), (10, 0), (11, 0), (12, 0)] (by kernel_rfl) (by kernel_rfl) (fun K hK => ?_)
  simp [go_sem, k2, add_mk, lc_cap, outOk_none, outV_none, cap0_ok, cap0_v, hw0]
  refine hK _ _ ?_; clear hK K
  by_cases hn0 : n = 0
  · subst hn0
    refine W_if (by simp [go_sem]; rfl) rfl ?_
    refine W_skip ?_
    refine ⟨trivial, ?_, .inr ⟨hB, _, hbx2.heap, World.ownsRow_nil _ _ _ _, by simp [Value.ownBlock]⟩, hE2⟩
    simp [go_sem, pack, resL]
  · have h0 : 0 < n := by omega
    refine W_if (t := true) (by simp [go_sem, h0]) rfl ?_
    first | refine W_rt (by kernel_rfl) (fun K hK => ?_) | refine W_text (by kernel_rfl) (fun K hK => ?_)
    simp [go_sem]
    refine hv_call (by simp [go_sem]) rfl Try.call105 (fun R hR => ?_)
    simp [go_sem]
    refine (growC B b n _ hB hbx2 hB2 hn).mono ?_
    rintro e w2 ⟨rfl, h2, hE3⟩
    refine ⟨_, rfl, hR _ _ ?_⟩
    clear hR R
    simp [go_sem]
    refine hK _ _ ?_; clear hK K
    refine ⟨trivial, ?_, h2, hE2.trans hE3⟩
    simp [go_sem, pack, resL]
section
variable {P : Program} {ops : Array Oper} {o : Oper} {k : Nat} {nx : G → World → Prop} {g : G} {w : World}
theorem hv_appendStr {t u e : TypeId} {s x : Operand} {B : Nat} {v : Value} {m : Nat} {xs : List Value} {str : ByteArray} (hw : wantO ops g o = true)
    (ho : o.op = .call { callee := .builtin .append, args := #[s, x], argTypes := #[t, u] }) (ht : P.underlying t = some (.slice e)) (hu : P.underlying u = some .string) (hi : (P.info? e).map (fun i => (i.zero, i.size, i.bytes)) = some (some (.int .u8 0), 1, 1))
    (hs : evG g s = v) (hx : evG g x = .string str) (hown : w.ownsRow B e 1 v m xs) (hbytes : m + str.size ≤ 140737488355328) (hB : B ≤ w.heap.size) (hk : k ≠ 0)
    (h : ∀ v' w1, w1.ownsRow B e 1 v' (m + str.size) (xs ++ Lib.strCells str) → w.grownBy w1 v.ownBlock → nx (updO g o.dst v') w1) : hvX P ops o k nx g w := by
  obtain ⟨i, hi1, hi2⟩ := Option.map_eq_some_iff.1 hi
  simp only [Prod.mk.injEq] at hi2
  obtain ⟨hz, hsz, hby⟩ := hi2
  obtain ⟨v', w', hr, h2, h3, _⟩ := Lib.run_append_own_string (P := P) w B t u o.type e i ht hu hi1 hz hsz hby v m xs hown str (by unfold maxLen; omega) hbytes hB
  refine hv_run hw (v := v') (w' := w') ?_ (fun e => absurd e hk) (h _ _ h2 h3)
  unfold execOp
  simp only [ho, resolve, invoke, builtin, Sem.run_bind, Sem.run_pure, Result.andThen_ok, List.map_toArray, List.map_cons, List.map_nil, hs, hx, hr]
end
theorem strCells_bytes (l : List UInt8) : Lib.strCells ⟨l.toArray⟩ = Lib.byteCells l := by
  simp [Lib.strCells, Lib.byteCells]
set_option maxHeartbeats 1000000 in
theorem writeString_any (B b : Nat) (l s : List UInt8) (w : World) (h : Bd B b l w) (hlen : l.length + s.length ≤ 140737488355328) (hBw : B ≤ w.heap.size) :
    Calls Try.prog 71 #[.pointer (some ⟨b, 0, none⟩), .string ⟨s.toArray⟩] w fun e w' => e = .returned (.tuple #[.int .i64 s.length, .nilIface]) ∧ Bd B b (l ++ s) w' ∧ Below B w w' := by
  refine calls_of_W (args := [.pointer (some ⟨b, 0, none⟩), .string ⟨s.toArray⟩]) (rs := [.tmp 4, .tmp 5]) (n := 19) Try.func71 rfl rfl rfl (by kernel_rfl) ?_
  first | refine W_rt (by kernel_rfl) (fun K hK => ?_) | refine W_text (by kernel_rfl) (fun K hK => ?_)
  simp [go_sem]
  refine hK _ _ ?_; clear hK K
  first | refine W_rt (by kernel_rfl) (fun K hK => ?_) | refine W_text (by kernel_rfl) (fun K hK => ?_)
  simp [go_sem]
  refine hv_call (by simp [go_sem]) rfl Try.call104 (fun R hR => ?_)
  simp [go_sem]
  refine (copyCheck_any B b _ _ h).mono ?_
  rintro e w1 ⟨rfl, ⟨hB, v, hb, hown, hne⟩, hE1⟩
  refine ⟨_, rfl, hR _ _ ?_⟩
  clear hR R
  have hbx : Bx w1 b #[.pointer (some ⟨b, 0, none⟩), v] 102 := ⟨hb⟩
  have k1 : w1.cell? ⟨b, 1, none⟩ = some v := hbx.cell 1
  have hlB : B ≤ w1.heap.size := Nat.le_trans hBw hE1.size
  simp [go_sem]
  refine hK _ _ ?_; clear hK K
  first | refine W_rt (by kernel_rfl) (fun K hK => ?_) | refine W_text (by kernel_rfl) (fun K hK => ?_)
  simp [go_sem, k1, add_mk]
  refine hv_appendStr (v := v) (str := ⟨s.toArray⟩) (by simp [go_sem, k1]) rfl Try.underlying100 Try.underlying9 (by kernel_rfl) (by simp [go_sem, k1]) (by simp [go_sem]) hown (by rw [Lib.byteCells_length]; exact hlen) hlB (by decide) (fun v3 w3 hown3 hg3 => ?_)
  have hb3 : w3.heap[b]? = some (.cells #[.pointer (some ⟨b, 0, none⟩), v] 102 (0, 0)) := by
    rw [hg3.block b hbx.lt (fun e => hne e.symm)]; exact hbx.heap
  have hbx3 : Bx w3 b #[.pointer (some ⟨b, 0, none⟩), v] 102 := ⟨hb3⟩
  have hE3 : Below B w w3 := hE1.grown hg3 hlB (fun k e => (hown.lt k e).1)
  have hne3 := Lib.ownBlock_ne hown3 hb3 (by decide)
  simp [go_sem, add_mk]
  refine hv_store (b := b) (off := 1) [v3] (by simp [go_sem]) rfl (by simp [go_sem, add_mk]) (by simp [go_sem]; exact own_cells hown3) ty_size100 hbx3 (by simp) (by simp; exact own_one hown3) (by decide) (fun w4 hS4 hB4 => ?_)
  simp [putC] at hB4
  simp [go_sem]
  refine hK _ _ ?_; clear hK K
  first | refine W_rt (by kernel_rfl) (fun K hK => ?_) | refine W_text (by kernel_rfl) (fun K hK => ?_)
  simp [go_sem]
  refine hK _ _ ?_; clear hK K
  refine W_ret ?_
  repeat (first | refine thenG_ret ?_ | refine inBlock_ret ?_)
  have hown4 := own_sto2 hown3 hS4 hne3
  refine ⟨trivial, ?_, .inr ⟨hB, v3, hB4.heap, ?_, hne3⟩, hE3.trans (hS4.below hB)⟩
  · simp [go_sem, pack, resL]
  · have e1 : (Lib.byteCells (l ++ s)).length = (Lib.byteCells l).length + (⟨s.toArray⟩ : ByteArray).size := by simp [Lib.byteCells, ByteArray.size]
    have e2 : Lib.byteCells (l ++ s) = Lib.byteCells l ++ Lib.strCells ⟨s.toArray⟩ := by rw [strCells_bytes]; simp [Lib.byteCells]
    rw [e1, e2]
    exact hown4
end Go.Proofs.Ytkampmdekonjmaa
