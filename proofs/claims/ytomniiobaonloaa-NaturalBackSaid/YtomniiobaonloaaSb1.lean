/- strings.Builder. -/
import Derived.Test.YtomniiobaonloaaVD
import Derived.Test.YtomniiobaonloaaTy
import Derived.Shelf.Strings.Builder1
namespace Go.Proofs.Ytomniiobaonloaa
open Go.RowKit Go.V Go.Shelf
set_option linter.unusedSimpArgs false
set_option linter.unusedVariables false

theorem own_sto2 {w w' : World} {B e size n b : Nat} {v : Value} {xs : List Value} (h : w.ownsRow B e size v n xs) (hs : Sto w w' b) (hne : v.ownBlock ≠ some b) : w'.ownsRow B e size v n xs := by
  refine ⟨h.1, ?_⟩
  rcases h.2 with hn | ⟨g, cap, cur, hv, hg, hh, r⟩
  · exact .inl hn
  · refine .inr ⟨g, cap, cur, hv, hg, ?_, r⟩
    have : g ≠ b := fun e => hne (by rw [hv, e]; rfl)
    rw [hs.block g this]; exact hh
theorem own_keep' {w w' : World} {B e size n : Nat} {v : Value} {xs : List Value} (h : w.ownsRow B e size v n xs) (hb : Below w.heap.size w w') : w'.ownsRow B e size v n xs := by
  refine ⟨h.1, ?_⟩
  rcases h.2 with hn | ⟨g, cap, cur, hv, hg, hh, r⟩
  · exact .inl hn
  · exact .inr ⟨g, cap, cur, hv, hg, by rw [hb.block g (Array.getElem?_eq_some_iff.1 hh).1]; exact hh, r⟩
theorem own_slice {w : World} {B e size n : Nat} {v : Value} {xs : List Value} (h : w.ownsRow B e size v n xs) : ∃ a c, v = .slice a n c := by
  rcases h.2 with ⟨h1, h2⟩ | ⟨g, cap, cur, hv, _⟩
  · exact ⟨none, 0, by rw [h1, h2]⟩
  · exact ⟨_, _, hv⟩
theorem own_cells {w : World} {B e size n : Nat} {v : Value} {xs : List Value} (h : w.ownsRow B e size v n xs) : v.cells = #[v] := by
  obtain ⟨a, c, rfl⟩ := own_slice h; rfl
theorem own_one {w : World} {B e size n : Nat} {v : Value} {xs : List Value} (h : w.ownsRow B e size v n xs) : v.oneCell' = true := by
  obtain ⟨a, c, rfl⟩ := own_slice h; rfl
theorem eqBuilder : eqPtrT Try.prog 59 = true := by kernel_rfl
theorem Try.lenRen : Go.Proofs.Lays.n170 Try.prog ⟨fun | 170 => 51 | n => n, fun | 70 => 59 | 3 => 3 | 0 => 0 | 72 => 62 | 37 => 60 | 5 => 5 | n => n, fun | n => n⟩ := {
  mixed := by kernel_rfl
  f170 := Try.func51.trans (congrArg some (by kernel_rfl))
  t0 := Try.underlying0
  a0 := Try.isAgg0
  z0 := Try.sizeOf0
  v0 := Try.zeroValue0
  t3 := Try.underlying3
  a3 := Try.isAgg3
  z3 := Try.sizeOf3
  v3 := Try.zeroValue3
  t37 := Try.underlying60
  a37 := Try.isAgg60
  z37 := Try.sizeOf60
  v37 := Try.zeroValue60
  t70 := Try.underlying59
  a70 := Try.isAgg59
  z70 := Try.sizeOf59
  v70 := Try.zeroValue59
  t72 := Try.underlying62
  a72 := Try.isAgg62
  z72 := Try.sizeOf62
  v72 := Try.zeroValue62 }
/-- a builder of the call's own that holds these bytes -/
def Bd (B b : Nat) (l : List UInt8) (w : World) : Prop := Lib.IsBuilder 62 5 B b (Lib.byteCells l) w
theorem bdLen_any (B b : Nat) (l : List UInt8) (w : World) (h : Bd B b l w) :
    Calls Try.prog 51 #[.pointer (some ⟨b, 0, none⟩)] w fun e w' => e = .returned (.int .i64 l.length) ∧ w = w' := by
  have := Any.Builder_Len Try.lenRen B b (Lib.byteCells l) w h
  refine Calls.mono this ?_
  rintro e w' ⟨rfl, rfl⟩
  exact ⟨by rw [Lib.byteCells_length], rfl⟩
def Try.strRen0 : Go.Shelf.Ren := ⟨fun | 169 => 53 | n => n, fun | 70 => 59 | 9 => 9 | 0 => 0 | 72 => 62 | 37 => 60 | 127 => 70 | 3 => 3 | 5 => 5 | n => n, fun | n => n⟩
theorem Try.strRen : Go.Proofs.Lays.n169 Try.prog Try.strRen0 := {
  mixed := by kernel_rfl
  f169 := Try.func53.trans (congrArg some (by kernel_rfl))
  t0 := Try.underlying0
  a0 := Try.isAgg0
  z0 := Try.sizeOf0
  v0 := Try.zeroValue0
  t3 := Try.underlying3
  a3 := Try.isAgg3
  z3 := Try.sizeOf3
  v3 := Try.zeroValue3
  t9 := Try.underlying9
  a9 := Try.isAgg9
  z9 := Try.sizeOf9
  v9 := Try.zeroValue9
  t37 := Try.underlying60
  a37 := Try.isAgg60
  z37 := Try.sizeOf60
  v37 := Try.zeroValue60
  t70 := Try.underlying59
  a70 := Try.isAgg59
  z70 := Try.sizeOf59
  v70 := Try.zeroValue59
  t72 := Try.underlying62
  a72 := Try.isAgg62
  z72 := Try.sizeOf62
  v72 := Try.zeroValue62
  t127 := Try.underlying70
  a127 := Try.isAgg70
  z127 := Try.sizeOf70
  v127 := Try.zeroValue70 }
theorem Try.strExtra : Builder.Extra Try.prog Try.strRen0 := {
  sizeBuilder := by kernel_rfl
  liesBuilder := by kernel_rfl
  t5 := Try.underlying5
  a5 := Try.isAgg5
  z5 := Try.sizeOf5
  v5 := Try.zeroValue5
  infoByte := by kernel_rfl
  cellsByte := by kernel_rfl
  sizeByte := by kernel_rfl
  neB5 := by decide }
theorem bdString_any (B b : Nat) (l : List UInt8) (w : World) (h : Bd B b l w) (hBw : B ≤ w.heap.size) :
    Calls Try.prog 53 #[.pointer (some ⟨b, 0, none⟩)] w fun e w' => e = .returned (.string ⟨l.toArray⟩) ∧ Below B w w' := Any.Builder_String_any Try.strRen Try.strExtra B b l w h hBw
theorem bdNew {w w1 : World} {b : Nat} (hle : w.heap.size ≤ b) (h : Bx w1 b #[.pointer none, .slice none 0 0] 62) : Bd w.heap.size b [] w1 :=
  .inl ⟨hle, .slice none 0 0, h.heap, World.ownsRow_nil _ _ _ _, by simp [Value.ownBlock]⟩

set_option maxHeartbeats 1000000 in
theorem copyCheck_any (B b : Nat) (bs : List Value) (w : World) (h : Lib.IsBuilder 62 5 B b bs w) :
    Calls Try.prog 58 #[.pointer (some ⟨b, 0, none⟩)] w fun e w' => e = .returned (.tuple #[]) ∧ Lib.BuilderAt 62 5 B b (.pointer (some ⟨b, 0, none⟩)) bs w' ∧ Below B w w' := by
  have hT := eqBuilder
  refine calls_of_W (args := [.pointer (some ⟨b, 0, none⟩)]) (rs := []) (n := 20) Try.func58 rfl rfl rfl (by kernel_rfl) ?_
  rcases h with h | h
  · have k0 := h.cell0
    have hsh := h.shape
    obtain ⟨hB, v, hb, hown, hne⟩ := h
    have hbx : Bx w b #[.pointer none, v] 62 := ⟨hb⟩
    first | refine W_rt (by kernel_rfl) (fun K hK => ?_) | refine W_text (by kernel_rfl) (fun K hK => ?_)
    simp [go_sem, k0, hT, add_mk]
    refine hK _ _ ?_; clear hK K
    refine W_if (by simp [go_sem]; rfl) rfl ?_
    first | refine W_rt (by kernel_rfl) (fun K hK => ?_) | refine W_text (by kernel_rfl) (fun K hK => ?_)
    simp [go_sem, k0, add_mk]
    obtain ⟨j, hj, hjs⟩ := Option.map_eq_some_iff.1 ty_size62
    refine hv_conv (by simp [go_sem]) rfl (by simp [go_sem]; exact Lib.run_to_unsafe w ⟨b, 0, none⟩ Try.underlying59 Try.underlying71 hj (by rw [hjs]; decide) hsh (Nat.zero_lt_succ 1)) (fun e => absurd e (by decide)) ?_
    simp [go_sem]
    refine hv_ext (by simp [go_sem]) rfl Try.func59 (by kernel_rfl) (by kernel_rfl) (by kernel_rfl) (e := Extern.AbiNoEscape.same) (by kernel_rfl) (by simp [go_sem]; exact Lib.run_noEscape (P := Try.prog) w _) ?_
    simp [go_sem]
    refine hv_conv (by simp [go_sem]) rfl (by simp [go_sem]; exact Lib.run_from_unsafe w ⟨b, 0, none⟩ Try.underlying71 Try.underlying59 hj hsh (by kernel_rfl)) (fun e => absurd e (by decide)) ?_
    simp [go_sem, add_mk]
    refine hv_store (b := b) (off := 0) [.pointer (some ⟨b, 0, none⟩)] (by simp [go_sem]) rfl (by simp [go_sem]) (by simp [go_sem, Value.cells]) ty_size59 hbx (by simp) (by simp [Value.oneCell']) (by decide) (fun w1 hS1 hB1 => ?_)
    simp [putC] at hB1
    simp [go_sem]
    refine hK _ _ ?_
    refine ⟨trivial, ?_, ⟨hB, v, hB1.heap, own_sto2 hown hS1 hne, hne⟩, hS1.below hB⟩
    simp [go_sem, pack, resL]
  · have k0 := h.cell0
    first | refine W_rt (by kernel_rfl) (fun K hK => ?_) | refine W_text (by kernel_rfl) (fun K hK => ?_)
    simp [go_sem, k0, hT, add_mk]
    refine hK _ _ ?_; clear hK K
    refine W_if (by simp [go_sem]; rfl) rfl ?_
    first | refine W_rt (by kernel_rfl) (fun K hK => ?_) | refine W_text (by kernel_rfl) (fun K hK => ?_)
    simp [go_sem, k0, hT, add_mk]
    refine hK _ _ ?_; clear hK K
    refine W_if (by simp [go_sem]; rfl) rfl ?_
    refine W_skip ?_
    refine ⟨trivial, ?_, h, Below.refl _ _⟩
    simp [go_sem, pack, resL]

theorem byteCell_one (l : List UInt8) : ∀ u ∈ Lib.byteCells l, u.oneCell' = true := by
  intro u hu
  simp only [Lib.byteCells, List.mem_map] at hu
  obtain ⟨x, _, rfl⟩ := hu
  rfl
set_option maxHeartbeats 1000000 in
theorem writeByte_any (B b : Nat) (l : List UInt8) (c : UInt8) (w : World) (h : Bd B b l w) (hlen : l.length + 1 ≤ 140737488355328) (hBw : B ≤ w.heap.size) :
    Calls Try.prog 52 #[.pointer (some ⟨b, 0, none⟩), .int .u8 (c.toNat : Int)] w fun e w' => e = .returned .nilIface ∧ Bd B b (l ++ [c]) w' ∧ Below B w w' := by
  obtain ⟨cn, hcn⟩ : ∃ cn, cn = (c.toNat : Int) := ⟨_, rfl⟩
  rw [← hcn]
  refine calls_of_W (args := [.pointer (some ⟨b, 0, none⟩), .int .u8 cn]) (rs := [.tmp 4]) (n := 17) Try.func52 rfl rfl rfl (by kernel_rfl) ?_
  first | refine W_rt (by kernel_rfl) (fun K hK => ?_) | refine W_text (by kernel_rfl) (fun K hK => ?_)
  simp [go_sem]
  refine hK _ _ ?_; clear hK K
  first | refine W_rt (by kernel_rfl) (fun K hK => ?_) | refine W_text (by kernel_rfl) (fun K hK => ?_)
  simp [go_sem]
  refine hv_call (by simp [go_sem]) rfl Try.call58 (fun R hR => ?_)
  simp [go_sem]
  refine (copyCheck_any B b _ _ h).mono ?_
  rintro e w1 ⟨rfl, ⟨hB, v, hb, hown, hne⟩, hE1⟩
  refine ⟨_, rfl, hR _ _ ?_⟩
  clear hR R
  have hbx : Bx w1 b #[.pointer (some ⟨b, 0, none⟩), v] 62 := ⟨hb⟩
  have k1 : w1.cell? ⟨b, 1, none⟩ = some v := hbx.cell 1
  have hbl := hbx.lt
  simp [go_sem]
  refine hK _ _ ?_; clear hK K
  first | refine W_rt (by kernel_rfl) (fun K hK => ?_) | refine W_text (by kernel_rfl) (fun K hK => ?_)
  simp [go_sem, k1, add_mk]
  refine hv_buildSlice #[.int .u8 cn] (by simp [go_sem, k1, add_mk]) rfl ty_slZ60 (by decide) [(0, .int .u8 cn)] (by simp [go_sem, k1, add_mk]) (by kernel_rfl) (fun w2 b2 hE2 hle2 hB2 => ?_)
  have hown2 := own_keep' hown hE2
  replace hbx := hbx.keep hE2
  have hlB : B ≤ w2.heap.size := Nat.le_trans hBw (Nat.le_trans hE1.size hE2.size)
  simp [go_sem, k1, add_mk]
  refine hv_appendB (v := v) (b := b2) (len := 1) (c := 1) hB2 (by simp [go_sem, k1]) rfl ty_slZ60 ty_bytes5 rfl (by decide) (by simp [go_sem, k1]) (by simp [go_sem]) hown2 rfl (by simp [Value.oneCell']) (by rw [Lib.byteCells_length]; unfold maxLen; omega) (by rw [Lib.byteCells_length]; omega) hlB (by decide) (fun v3 w3 hown3 hg3 _ => ?_)
  have hb3 : w3.heap[b]? = some (.cells #[.pointer (some ⟨b, 0, none⟩), v] 62 (0, 0)) := by
    rw [hg3.block b hbx.lt (fun e => hne e.symm)]; exact hbx.heap
  have hbx3 : Bx w3 b #[.pointer (some ⟨b, 0, none⟩), v] 62 := ⟨hb3⟩
  have hE3 : Below B w w3 := ((hE1.trans (hE2.mono (by have := hE1.size; omega))).grown hg3 hlB (fun k e => (hown2.lt k e).1))
  have hne3 := Lib.ownBlock_ne hown3 hb3 (by decide)
  simp [go_sem, add_mk]
  refine hv_store (b := b) (off := 1) [v3] (by simp [go_sem]) rfl (by simp [go_sem, add_mk]) (by simp [go_sem]; exact own_cells hown3) ty_size60 hbx3 (by simp) (by simp; exact own_one hown3) (by decide) (fun w4 hS4 hB4 => ?_)
  simp [putC] at hB4
  simp [go_sem]
  refine hK _ _ ?_; clear hK K
  first | refine W_rt (by kernel_rfl) (fun K hK => ?_) | refine W_text (by kernel_rfl) (fun K hK => ?_)
  simp [go_sem]
  refine hK _ _ ?_; clear hK K
  refine W_ret ?_
  repeat (first | refine thenG_ret ?_ | refine inBlock_ret ?_)
  have hown4 := own_sto2 hown3 hS4 hne3
  refine ⟨trivial, ?_, .inr ⟨hB, v3, hB4.heap, ?_, hne3⟩, hE3.trans (hS4.below hB)⟩
  · simp [go_sem, pack, resL]
  · have e1 : (Lib.byteCells (l ++ [c])).length = (Lib.byteCells l).length + 1 := by simp [Lib.byteCells]
    have e2 : Lib.byteCells (l ++ [c]) = Lib.byteCells l ++ (#[Value.int .u8 cn] : Array Value).toList := by simp [Lib.byteCells, hcn]
    rw [e1, e2]
    exact hown4
end Go.Proofs.Ytomniiobaonloaa
