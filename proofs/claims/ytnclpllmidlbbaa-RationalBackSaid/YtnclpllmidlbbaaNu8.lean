/- Natural numbers: the specification's Read. -/
import Derived.Test.YtnclpllmidlbbaaNtV
import Derived.Test.YtnclpllmidlbbaaVE
import Derived.Test.YtnclpllmidlbbaaTy
import Derived.Shelf.Strings.Builder1
import Derived.Laws.BytesString
import Derived.Test.YtnclpllmidlbbaaNtH
namespace Go.Proofs.Ytnclpllmidlbbaa
open Go.RowKit Go.V
set_option linter.unusedSimpArgs false
set_option linter.unusedVariables false
set_option maxRecDepth 20000

/-- the digits of a number, none for 0 -/
def dgz (n : Nat) : List UInt8 := if h : n = 0 then [] else dgz (n / 10) ++ [UInt8.ofNat (48 + n % 10)]
termination_by n
decreasing_by omega
def txt (n : Nat) : List UInt8 := if n = 0 then [48] else dgz n
theorem dgz_0 : dgz 0 = [] := by rw [dgz, dif_pos rfl]
theorem dgz_s (n : Nat) (h : n ≠ 0) : dgz n = dgz (n / 10) ++ [UInt8.ofNat (48 + n % 10)] := by rw [dgz, dif_neg h]
theorem dgz_len : ∀ (k n : Nat), n < 2 ^ k → (dgz n).length ≤ k
  | 0, n, h => by
    have : n = 0 := by simpa using h
    subst this; rw [dgz_0]; simp
  | k + 1, n, h => by
    by_cases h0 : n = 0
    · subst h0; rw [dgz_0]; simp
    · rw [dgz_s n h0, List.length_append]
      have := dgz_len k (n / 10) (by rw [Nat.pow_succ] at h; omega)
      simp; omega
theorem dgz_nil {n : Nat} : dgz n = [] ↔ n = 0 := by
  constructor
  · intro h
    rcases Nat.eq_zero_or_pos n with h0 | h0
    · exact h0
    · rw [dgz_s n (by omega)] at h; simp at h
  · rintro rfl; exact dgz_0
theorem u8_48 (x : Nat) (h : x < 10) : ((UInt8.ofNat (48 + x)).toNat : Int) = ((48 + x : Nat) : Int) := by
  have : (UInt8.ofNat (48 + x)).toNat = (48 + x) % 256 := by simp
  rw [this, Nat.mod_eq_of_lt (by omega)]
/-- one digit of a group of four -/
theorem dgz_step (V prev gr m : Nat) (hV : V = prev * 10000 + gr) (hg : gr < 10000) (hm : m < 4) :
    (V / 10 ^ m = 0 ↔ V / 10 ^ (m + 1) = 0 ∧ ¬ 10 ^ m ≤ gr) ∧ (V / 10 ^ m) % 10 = gr / 10 ^ m % 10 ∧ V / 10 ^ m / 10 = V / 10 ^ (m + 1) := by
  have e0 : V / 10 ^ m / 10 = V / 10 ^ (m + 1) := by rw [Nat.div_div_eq_div_mul, Nat.pow_succ]
  refine ⟨?_, ?_, e0⟩
  · match m, hm with
    | 0, _ => omega
    | 1, _ => omega
    | 2, _ => omega
    | 3, _ => omega
  · match m, hm with
    | 0, _ => omega
    | 1, _ => omega
    | 2, _ => omega
    | 3, _ => omega
theorem grp_val (A i : Nat) : A / 10000 ^ i = A / 10000 ^ (i + 1) * 10000 + A / 10000 ^ i % 10000 := by
  rw [Nat.pow_succ, ← Nat.div_div_eq_div_mul, Nat.mul_comm, Nat.div_add_mod]
theorem grp_len {A k e : Nat} (h : A / 10000 ^ k ≠ 0) (hA : A < 2 ^ e) : k < e := by
  have h1 : 10000 ^ k ≤ A := by
    refine Nat.le_of_not_lt (fun hlt => h (Nat.div_eq_of_lt hlt))
  have h2 : 2 ^ k ≤ 10000 ^ k := Nat.pow_le_pow_left (by decide) k
  exact (Nat.pow_lt_pow_iff_right (a := 2) (by decide)).1 (by omega)
end Go.Proofs.Ytnclpllmidlbbaa
namespace Go.Proofs.Ytnclpllmidlbbaa
open Go.RowKit Go.V Go.Shelf
set_option linter.unusedSimpArgs false
set_option linter.unusedVariables false
set_option maxRecDepth 20000

theorem own_sto2 {w w' : World} {B e size n b : Nat} {v : Value} {xs : List Value} (h : w.ownsRow B e size v n xs) (hs : Sto w w' b) (hne : v.ownBlock ≠ some b) : w'.ownsRow B e size v n xs := by
  refine ⟨h.1, ?_⟩
  rcases h.2 with hn | ⟨g, cap, cur, hv, hg, hh, r⟩
  · exact .inl hn
  · refine .inr ⟨g, cap, cur, hv, hg, ?_, r⟩
    have : g ≠ b := fun e => hne (by rw [hv, e]; rfl)
    rw [hs.block g this]; exact hh
theorem own_keep' {w w' : World} {B e size n : Nat} {v : Value} {xs : List Value} (h : w.ownsRow B e size v n xs) (hb : Below w.heap.size w w') : w'.ownsRow B e size v n xs := by
  refine ⟨h.1, ?_⟩
  rcases h.2 with hn | ⟨g, cap, cur, hv, hg, hh, r⟩
  · exact .inl hn
  · exact .inr ⟨g, cap, cur, hv, hg, by rw [hb.block g (Array.getElem?_eq_some_iff.1 hh).1]; exact hh, r⟩
theorem own_slice {w : World} {B e size n : Nat} {v : Value} {xs : List Value} (h : w.ownsRow B e size v n xs) : ∃ a c, v = .slice a n c := by
  rcases h.2 with ⟨h1, h2⟩ | ⟨g, cap, cur, hv, _⟩
  · exact ⟨none, 0, by rw [h1, h2]⟩
  · exact ⟨_, _, hv⟩
theorem own_cells {w : World} {B e size n : Nat} {v : Value} {xs : List Value} (h : w.ownsRow B e size v n xs) : v.cells = #[v] := by
  obtain ⟨a, c, rfl⟩ := own_slice h; rfl
theorem own_one {w : World} {B e size n : Nat} {v : Value} {xs : List Value} (h : w.ownsRow B e size v n xs) : v.oneCell' = true := by
  obtain ⟨a, c, rfl⟩ := own_slice h; rfl
theorem eqBuilder : eqPtrT Try.prog 102 = true := by kernel_rfl
theorem Try.lenRen : Go.Proofs.Lays.n170 Try.prog ⟨fun | 170 => 114 | n => n, fun | 70 => 102 | 3 => 3 | 0 => 0 | 72 => 105 | 37 => 103 | 5 => 5 | n => n, fun | n => n⟩ := {
  mixed := by kernel_rfl
  f170 := Try.func114.trans (congrArg some (by kernel_rfl))
  t0 := Try.underlying0
  a0 := Try.isAgg0
  z0 := Try.sizeOf0
  v0 := Try.zeroValue0
  t3 := Try.underlying3
  a3 := Try.isAgg3
  z3 := Try.sizeOf3
  v3 := Try.zeroValue3
  t37 := Try.underlying103
  a37 := Try.isAgg103
  z37 := Try.sizeOf103
  v37 := Try.zeroValue103
  t70 := Try.underlying102
  a70 := Try.isAgg102
  z70 := Try.sizeOf102
  v70 := Try.zeroValue102
  t72 := Try.underlying105
  a72 := Try.isAgg105
  z72 := Try.sizeOf105
  v72 := Try.zeroValue105 }
/-- a builder of the call's own that holds these bytes -/
def Bd (B b : Nat) (l : List UInt8) (w : World) : Prop := Lib.IsBuilder 105 5 B b (Lib.byteCells l) w
theorem bdLen_any (B b : Nat) (l : List UInt8) (w : World) (h : Bd B b l w) :
    Calls Try.prog 114 #[.pointer (some ⟨b, 0, none⟩)] w fun e w' => e = .returned (.int .i64 l.length) ∧ w = w' := by
  have := Any.Builder_Len Try.lenRen B b (Lib.byteCells l) w h
  refine Calls.mono this ?_
  rintro e w' ⟨rfl, rfl⟩
  exact ⟨by rw [Lib.byteCells_length], rfl⟩
def Try.strRen0 : Go.Shelf.Ren := ⟨fun | 169 => 116 | n => n, fun | 70 => 102 | 9 => 9 | 0 => 0 | 72 => 105 | 37 => 103 | 127 => 115 | 3 => 3 | 5 => 5 | n => n, fun | n => n⟩
theorem Try.strRen : Go.Proofs.Lays.n169 Try.prog Try.strRen0 := {
  mixed := by kernel_rfl
  f169 := Try.func116.trans (congrArg some (by kernel_rfl))
  t0 := Try.underlying0
  a0 := Try.isAgg0
  z0 := Try.sizeOf0
  v0 := Try.zeroValue0
  t3 := Try.underlying3
  a3 := Try.isAgg3
  z3 := Try.sizeOf3
  v3 := Try.zeroValue3
  t9 := Try.underlying9
  a9 := Try.isAgg9
  z9 := Try.sizeOf9
  v9 := Try.zeroValue9
  t37 := Try.underlying103
  a37 := Try.isAgg103
  z37 := Try.sizeOf103
  v37 := Try.zeroValue103
  t70 := Try.underlying102
  a70 := Try.isAgg102
  z70 := Try.sizeOf102
  v70 := Try.zeroValue102
  t72 := Try.underlying105
  a72 := Try.isAgg105
  z72 := Try.sizeOf105
  v72 := Try.zeroValue105
  t127 := Try.underlying115
  a127 := Try.isAgg115
  z127 := Try.sizeOf115
  v127 := Try.zeroValue115 }
theorem Try.strExtra : Builder.Extra Try.prog Try.strRen0 := {
  sizeBuilder := by kernel_rfl
  liesBuilder := by kernel_rfl
  t5 := Try.underlying5
  a5 := Try.isAgg5
  z5 := Try.sizeOf5
  v5 := Try.zeroValue5
  infoByte := by kernel_rfl
  cellsByte := by kernel_rfl
  sizeByte := by kernel_rfl
  neB5 := by decide }
theorem bdString_any (B b : Nat) (l : List UInt8) (w : World) (h : Bd B b l w) (hBw : B ≤ w.heap.size) :
    Calls Try.prog 116 #[.pointer (some ⟨b, 0, none⟩)] w fun e w' => e = .returned (.string ⟨l.toArray⟩) ∧ Below B w w' := Any.Builder_String_any Try.strRen Try.strExtra B b l w h hBw
theorem bdNew {w w1 : World} {b : Nat} (hle : w.heap.size ≤ b) (h : Bx w1 b #[.pointer none, .slice none 0 0] 105) : Bd w.heap.size b [] w1 :=
  .inl ⟨hle, .slice none 0 0, h.heap, World.ownsRow_nil _ _ _ _, by simp [Value.ownBlock]⟩

set_option maxHeartbeats 1000000 in
theorem copyCheck_any (B b : Nat) (bs : List Value) (w : World) (h : Lib.IsBuilder 105 5 B b bs w) :
    Calls Try.prog 125 #[.pointer (some ⟨b, 0, none⟩)] w fun e w' => e = .returned (.tuple #[]) ∧ Lib.BuilderAt 105 5 B b (.pointer (some ⟨b, 0, none⟩)) bs w' ∧ Below B w w' := by
  have hT := eqBuilder
  refine calls_of_W (args := [.pointer (some ⟨b, 0, none⟩)]) (rs := []) (n := 20) Try.func125 rfl rfl rfl (by kernel_rfl) ?_
  rcases h with h | h
  · have k0 := h.cell0
    have hsh := h.shape
    obtain ⟨hB, v, hb, hown, hne⟩ := h
    have hbx : Bx w b #[.pointer none, v] 105 := ⟨hb⟩
    first | refine W_rt (by kernel_rfl) (fun K hK => ?_) | refine W_text (by kernel_rfl) (fun K hK => ?_)
    simp [go_sem, k0, hT, add_mk]
    refine hK _ _ ?_; clear hK K
    refine W_if (by simp [go_sem]; rfl) rfl ?_
    first | refine W_rt (by kernel_rfl) (fun K hK => ?_) | refine W_text (by kernel_rfl) (fun K hK => ?_)
    simp [go_sem, k0, add_mk]
    obtain ⟨j, hj, hjs⟩ := Option.map_eq_some_iff.1 ty_size105
    refine hv_conv (by simp [go_sem]) rfl (by simp [go_sem]; exact Lib.run_to_unsafe w ⟨b, 0, none⟩ Try.underlying102 Try.underlying120 hj (by rw [hjs]; decide) hsh (Nat.zero_lt_succ 1)) (fun e => absurd e (by decide)) ?_
    simp [go_sem]
    refine hv_ext (by simp [go_sem]) rfl Try.func133 (by kernel_rfl) (by kernel_rfl) (by kernel_rfl) (e := Extern.AbiNoEscape.same) (by kernel_rfl) (by simp [go_sem]; exact Lib.run_noEscape (P := Try.prog) w _) ?_
    simp [go_sem]
    refine hv_conv (by simp [go_sem]) rfl (by simp [go_sem]; exact Lib.run_from_unsafe w ⟨b, 0, none⟩ Try.underlying120 Try.underlying102 hj hsh (by kernel_rfl)) (fun e => absurd e (by decide)) ?_
    simp [go_sem, add_mk]
    refine hv_store (b := b) (off := 0) [.pointer (some ⟨b, 0, none⟩)] (by simp [go_sem]) rfl (by simp [go_sem]) (by simp [go_sem, Value.cells]) ty_size102 hbx (by simp) (by simp [Value.oneCell']) (by decide) (fun w1 hS1 hB1 => ?_)
    simp [putC] at hB1
    simp [go_sem]
    refine hK _ _ ?_
    refine ⟨trivial, ?_, ⟨hB, v, hB1.heap, own_sto2 hown hS1 hne, hne⟩, hS1.below hB⟩
    simp [go_sem, pack, resL]
  · have k0 := h.cell0
    first | refine W_rt (by kernel_rfl) (fun K hK => ?_) | refine W_text (by kernel_rfl) (fun K hK => ?_)
    simp [go_sem, k0, hT, add_mk]
    refine hK _ _ ?_; clear hK K
    refine W_if (by simp [go_sem]; rfl) rfl ?_
    first | refine W_rt (by kernel_rfl) (fun K hK => ?_) | refine W_text (by kernel_rfl) (fun K hK => ?_)
    simp [go_sem, k0, hT, add_mk]
    refine hK _ _ ?_; clear hK K
    refine W_if (by simp [go_sem]; rfl) rfl ?_
    refine W_skip ?_
    refine ⟨trivial, ?_, h, Below.refl _ _⟩
    simp [go_sem, pack, resL]

theorem byteCell_one (l : List UInt8) : ∀ u ∈ Lib.byteCells l, u.oneCell' = true := by
  intro u hu
  simp only [Lib.byteCells, List.mem_map] at hu
  obtain ⟨x, _, rfl⟩ := hu
  rfl
set_option maxHeartbeats 1000000 in
theorem writeByte_any (B b : Nat) (l : List UInt8) (c : UInt8) (w : World) (h : Bd B b l w) (hlen : l.length + 1 ≤ 140737488355328) (hBw : B ≤ w.heap.size) :
    Calls Try.prog 115 #[.pointer (some ⟨b, 0, none⟩), .int .u8 (c.toNat : Int)] w fun e w' => e = .returned .nilIface ∧ Bd B b (l ++ [c]) w' ∧ Below B w w' := by
  obtain ⟨cn, hcn⟩ : ∃ cn, cn = (c.toNat : Int) := ⟨_, rfl⟩
  rw [← hcn]
  refine calls_of_W (args := [.pointer (some ⟨b, 0, none⟩), .int .u8 cn]) (rs := [.tmp 4]) (n := 17) Try.func115 rfl rfl rfl (by kernel_rfl) ?_
  first | refine W_rt (by kernel_rfl) (fun K hK => ?_) | refine W_text (by kernel_rfl) (fun K hK => ?_)
  simp [go_sem]
  refine hK _ _ ?_; clear hK K
  first | refine W_rt (by kernel_rfl) (fun K hK => ?_) | refine W_text (by kernel_rfl) (fun K hK => ?_)
  simp [go_sem]
  refine hv_call (by simp [go_sem]) rfl Try.call125 (fun R hR => ?_)
  simp [go_sem]
  refine (copyCheck_any B b _ _ h).mono ?_
  rintro e w1 ⟨rfl, ⟨hB, v, hb, hown, hne⟩, hE1⟩
  refine ⟨_, rfl, hR _ _ ?_⟩
  clear hR R
  have hbx : Bx w1 b #[.pointer (some ⟨b, 0, none⟩), v] 105 := ⟨hb⟩
  have k1 : w1.cell? ⟨b, 1, none⟩ = some v := hbx.cell 1
  have hbl := hbx.lt
  simp [go_sem]
  refine hK _ _ ?_; clear hK K
  first | refine W_rt (by kernel_rfl) (fun K hK => ?_) | refine W_text (by kernel_rfl) (fun K hK => ?_)
  simp [go_sem, k1, add_mk]
  refine hv_buildSlice #[.int .u8 cn] (by simp [go_sem, k1, add_mk]) rfl ty_slZ103 (by decide) [(0, .int .u8 cn)] (by simp [go_sem, k1, add_mk]) (by kernel_rfl) (fun w2 b2 hE2 hle2 hB2 => ?_)
  have hown2 := own_keep' hown hE2
  replace hbx := hbx.keep hE2
  have hlB : B ≤ w2.heap.size := Nat.le_trans hBw (Nat.le_trans hE1.size hE2.size)
  simp [go_sem, k1, add_mk]
  refine hv_appendB (v := v) (b := b2) (len := 1) (c := 1) hB2 (by simp [go_sem, k1]) rfl ty_slZ103 ty_bytes5 rfl (by decide) (by simp [go_sem, k1]) (by simp [go_sem]) hown2 rfl (by simp [Value.oneCell']) (by rw [Lib.byteCells_length]; unfold maxLen; omega) (by rw [Lib.byteCells_length]; omega) hlB (by decide) (fun v3 w3 hown3 hg3 _ => ?_)
  have hb3 : w3.heap[b]? = some (.cells #[.pointer (some ⟨b, 0, none⟩), v] 105 (0, 0)) := by
    rw [hg3.block b hbx.lt (fun e => hne e.symm)]; exact hbx.heap
  have hbx3 : Bx w3 b #[.pointer (some ⟨b, 0, none⟩), v] 105 := ⟨hb3⟩
  have hE3 : Below B w w3 := ((hE1.trans (hE2.mono (by have := hE1.size; omega))).grown hg3 hlB (fun k e => (hown2.lt k e).1))
  have hne3 := Lib.ownBlock_ne hown3 hb3 (by decide)
  simp [go_sem, add_mk]
  refine hv_store (b := b) (off := 1) [v3] (by simp [go_sem]) rfl (by simp [go_sem, add_mk]) (by simp [go_sem]; exact own_cells hown3) ty_size103 hbx3 (by simp) (by simp; exact own_one hown3) (by decide) (fun w4 hS4 hB4 => ?_)
  simp [putC] at hB4
  simp [go_sem]
  refine hK _ _ ?_; clear hK K
  first | refine W_rt (by kernel_rfl) (fun K hK => ?_) | refine W_text (by kernel_rfl) (fun K hK => ?_)
  simp [go_sem]
  refine hK _ _ ?_; clear hK K
  refine W_ret ?_
  repeat (first | refine thenG_ret ?_ | refine inBlock_ret ?_)
  have hown4 := own_sto2 hown3 hS4 hne3
  refine ⟨trivial, ?_, .inr ⟨hB, v3, hB4.heap, ?_, hne3⟩, hE3.trans (hS4.below hB)⟩
  · simp [go_sem, pack, resL]
  · have e1 : (Lib.byteCells (l ++ [c])).length = (Lib.byteCells l).length + 1 := by simp [Lib.byteCells]
    have e2 : Lib.byteCells (l ++ [c]) = Lib.byteCells l ++ (#[Value.int .u8 cn] : Array Value).toList := by simp [Lib.byteCells, hcn]
    rw [e1, e2]
    exact hown4
end Go.Proofs.Ytnclpllmidlbbaa
namespace Go.Proofs.Ytnclpllmidlbbaa
open Go.RowKit Go.V
set_option linter.unusedSimpArgs false
set_option linter.unusedVariables false
set_option maxRecDepth 20000

/-- a function that returns this text -/
def RetS (w : World) (l : List UInt8) (e : Ending) (w' : World) : Prop := e = .returned (.string ⟨l.toArray⟩) ∧ Below w.heap.size w w'
theorem lat_snoc (GL : List Nat) (x i : Nat) : lat (GL ++ [x]) i = if i < GL.length then lat GL i else if i = GL.length then x else 0 := by
  unfold lat
  rw [List.getD_eq_getElem?_getD, List.getD_eq_getElem?_getD]
  by_cases h : i < GL.length
  · rw [if_pos h, List.getElem?_append_left h]
  · rw [if_neg h, List.getElem?_append_right (by omega)]
    by_cases h2 : i = GL.length
    · subst h2; simp
    · rw [if_neg h2, List.getElem?_eq_none (by simp; omega)]; rfl

theorem RD.grown2 {w w' : World} {a : Option Addr} {c : Nat} {l : List Nat} {row : Option Nat} (h : RD w a c l) (hg : w.grownBy w' row) (hne : ∀ ad, a = some ad → row ≠ some ad.block) : RD w' a c l := by
  refine ⟨?_, h.ok, h.cap⟩
  rcases h.sl with e | ⟨b', off, e, hc⟩
  · exact .inl e
  · by_cases hl : l = []
    · exact .inl (by rw [hl]; rfl)
    · refine .inr ⟨b', off, e, fun j v hv => ?_⟩
      have h1 := hc j v hv
      have h2 := World.block_lt_of_cell? w _ h1
      exact (World.cell?_of_block (w := w) (a := ⟨b', off + j, none⟩) (hg.block b' h2 (fun e' => hne _ e e'.symm))).trans h1

set_option maxHeartbeats 2000000 in
theorem text_any (l : List Nat) (a : Option Addr) (c : Nat) (w : World) (hr : RD w a c l) (hl : l.length ≤ 100000) :
    Calls Try.prog 85 #[.slice a l.length c] w (RetS w (txt (val l))) := by
  have hno := norm_any l a c w hr (by unfold lenB; omega)
  rw [← lim_val l hr.ok] at hno
  have hlt := val_lt l hr.ok
  have hlim : (lim (val l)).length ≤ l.length := by rw [lim_val l hr.ok]; exact nrm_len l
  rw [pow_16] at hlt
  generalize val l = A0 at *
  refine calls_of_W (args := [.slice a l.length c]) (rs := [.tmp 2]) (n := 59) Try.func85 rfl rfl rfl (by kernel_rfl) ?_
  first | refine W_rt (by kernel_rfl) (fun K hK => ?_) | refine W_text (by kernel_rfl) (fun K hK => ?_)
  simp [go_sem]
  refine hK _ _ ?_; clear hK K
  first | refine W_rt (by kernel_rfl) (fun K hK => ?_) | refine W_text (by kernel_rfl) (fun K hK => ?_)
  simp [go_sem]
  refine hv_call (by simp [go_sem]) rfl Try.call89 (fun R hR => ?_)
  simp [go_sem]
  refine (hno).mono ?_
  rintro e w1 ⟨a1, c1, rfl, hr1, hE1⟩
  refine ⟨_, rfl, hR _ _ ?_⟩
  clear hR R
  have hE := hE1
  clear hno hr
  simp [go_sem]
  refine hK _ _ ?_; clear hK K
  refine W_seq (fun K1 hK1 => ?_)
  by_cases h0 : A0 = 0
  · subst h0
    rw [lim_zero]
    first | refine W_rt (by kernel_rfl) (fun K hK => ?_) | refine W_text (by kernel_rfl) (fun K hK => ?_)
    simp [go_sem]
    refine hK _ _ ?_; clear hK K
    refine W_if (by simp [go_sem]; rfl) rfl ?_
    first | refine W_rt (by kernel_rfl) (fun K hK => ?_) | refine W_text (by kernel_rfl) (fun K hK => ?_)
    simp [go_sem]
    refine hK _ _ ?_; clear hK K
    refine W_ret ?_
    repeat (first | refine thenG_ret ?_ | refine inBlock_ret ?_)
    exact ⟨trivial, by simp [go_sem, pack, resL, txt], hE⟩
  · have hp : 0 < (lim A0).length := lim_ne h0
    have hp' : ¬ ((lim A0).length : Int) = 0 := by omega
    have hp'' : ¬ lim A0 = [] := by intro e; rw [e] at hp; simp at hp
    first | refine W_rt (by kernel_rfl) (fun K hK => ?_) | refine W_text (by kernel_rfl) (fun K hK => ?_)
    simp [go_sem, hp', hp'']
    refine hK _ _ ?_; clear hK K
    refine W_if (by simp [go_sem, hp', hp'']; rfl) rfl ?_
    refine W_skip ?_
    refine hK1 _ _ ?_; clear hK1 K1
    first | refine W_rt (by kernel_rfl) (fun K hK => ?_) | refine W_text (by kernel_rfl) (fun K hK => ?_)
    simp [go_sem]
    refine hK _ _ ?_; clear hK K
    refine W_seq (fun K1 hK1 => ?_)
    -- the groups
    refine W_block ?_
    refine W_loop (fun t g w' => Below w.heap.size w w' ∧ ∃ k a1 c1 v GL, t = A0 / 10000 ^ k ∧ g 0 = .slice a1 (lim t).length c1 ∧ RD w' a1 c1 (lim t) ∧ g 3 = v ∧ w'.ownsRow w.heap.size 50 1 v k (lmC GL) ∧ GL.length = k ∧ Ok GL ∧ k ≤ 16 * l.length ∧ (∀ i, i < k → lat GL i = A0 / 10000 ^ i % 10000)) A0 ?_ ?_
    · exact ⟨hE, 0, a1, c1, .slice none 0 0, [], by simp, by simp [go_sem], hr1, by simp [go_sem], World.ownsRow_nil _ _ _ _, rfl, Ok.nil, by omega, fun i hi => by omega⟩
    · clear hE hr1 hE1
      rintro A g w' ⟨hE, k, a1, c1, v, GL, rfl, g0, hrA, g3, hown, hGl, hGok, hk, hG⟩
      refine W_seq (fun K2 hK2 => ?_)
      by_cases hA0 : A0 / 10000 ^ k = 0
      · rw [hA0, lim_zero] at g0
        first | refine W_rt (by kernel_rfl) (fun K hK => ?_) | refine W_text (by kernel_rfl) (fun K hK => ?_)
        simp [go_sem, g0]
        refine hK _ _ ?_; clear hK K
        refine W_if (by simp [go_sem]; rfl) rfl ?_
        refine W_exit ?_
        repeat (first | refine thenG_exit ?_ | refine inBlock_other rfl ?_ | refine inBlock_same ?_)
        refine hK1 _ _ ?_; clear hK1 K1 hK2 K2
        obtain ⟨ag, cg, rfl, hGr⟩ := RD.of_own hown hGok
        rw [hGl] at g3
        first | refine W_rt (by kernel_rfl) (fun K hK => ?_) | refine W_text (by kernel_rfl) (fun K hK => ?_)
        simp [go_sem]
        refine hv_alloc (by simp [go_sem]) rfl ty_zeroC105 (fun w5 b5 hE5 hle5 hB5 => ?_)
        have hbd := bdNew hle5 hB5
        have hE9 := hE.next hE5
        simp [go_sem]
        refine hK _ _ ?_; clear hK K
        have hGw : RD w' ag cg GL := hGr
        have hE5' := hE5
        have hBd := hbd
        have hlen := fun n (h : n ≤ A0) => dgz_len (16 * l.length) n (by omega)
        have fk : IntKind.i64.wrap ((k : Int) - 1) = (k : Int) - 1 := IntWalk.i64_in _ (by omega)
        refine W_seq (fun K1 hK1 => ?_)
        first | refine W_rt (by kernel_rfl) (fun K hK => ?_) | refine W_text (by kernel_rfl) (fun K hK => ?_)
        simp [go_sem, g3, fk]
        refine hK _ _ ?_; clear hK K
        refine W_block ?_
        refine W_loop (fun t g wi => Below w'.heap.size w' wi ∧ t ≤ k ∧ g 3 = .slice ag k cg ∧ g 6 = .pointer (some ⟨b5, 0, none⟩) ∧ g 7 = .int .i64 ((t : Int) - 1) ∧ Bd w'.heap.size b5 (dgz (A0 / 10000 ^ t)) wi) k ?_ ?_
        · exact ⟨hE5, Nat.le_refl _, by simp [go_sem, g3], by simp [go_sem], by simp [go_sem], by rw [hA0, dgz_0]; exact hbd⟩
        · clear hE5 hbd hB5 hE5' hBd g3 hE9 g0 hown
          clear g
          rintro t g wi ⟨hEi, htk, g3, g6, g7, hbd⟩
          refine W_seq (fun K2 hK2 => ?_)
          rcases t with _ | i
          · have hbs := hEi.size
            first | refine W_rt (by kernel_rfl) (fun K hK => ?_) | refine W_text (by kernel_rfl) (fun K hK => ?_)
            simp [go_sem, g7]
            refine hK _ _ ?_; clear hK K
            refine W_if (by simp [go_sem]; rfl) rfl ?_
            refine W_exit ?_
            repeat (first | refine thenG_exit ?_ | refine inBlock_other rfl ?_ | refine inBlock_same ?_)
            refine hK1 _ _ ?_; clear hK1 K1 hK2 K2
            rw [Nat.pow_zero, Nat.div_one] at hbd
            first | refine W_rt (by kernel_rfl) (fun K hK => ?_) | refine W_text (by kernel_rfl) (fun K hK => ?_)
            simp [go_sem, g6]
            refine hv_call (by simp [go_sem, g6]) rfl Try.call116 (fun R hR => ?_)
            simp [go_sem, g6]
            refine (bdString_any _ _ _ _ hbd hbs).mono ?_
            rintro e w6 ⟨rfl, hE6⟩
            refine ⟨_, rfl, hR _ _ ?_⟩
            clear hR R
            simp [go_sem]
            refine hK _ _ ?_; clear hK K
            refine W_ret ?_
            repeat (first | refine thenG_ret ?_ | refine inBlock_ret ?_)
            refine ⟨trivial, ?_, hE.next (hEi.trans hE6)⟩
            simp [go_sem, pack, resL, txt, h0]
          · have ej : ((i + 1 : Nat) : Int) - 1 = (i : Int) := by omega
            rw [ej] at g7
            have p0 : (0 : Int) ≤ i := by omega
            have hgi := hG i (by omega)
            have hV := grp_val A0 i
            have hgm : A0 / 10000 ^ i % 10000 < 10000 := Nat.mod_lt _ (by decide)
            have hVA : A0 / 10000 ^ i ≤ A0 := Nat.div_le_self _ _
            rw [← hgi] at hV hgm
            obtain ⟨cc1, cc2⟩ := hGw.at (i := i) (by omega)
            have q1 : i < k := by omega
            have q1' : (i : Int) < k := by omega
            obtain ⟨gr, hgr⟩ : ∃ gr, gr = lat GL i := ⟨_, rfl⟩
            rw [← hgr] at hV hgm cc1
            obtain ⟨V, hVe⟩ : ∃ V, V = A0 / 10000 ^ i := ⟨_, rfl⟩
            rw [← hVe] at hV hVA
            have hstart : dgz (A0 / 10000 ^ (i + 1)) = dgz (V / 10 ^ 4) := by
              congr 1
              rw [hVe, Nat.pow_succ, Nat.div_div_eq_div_mul]
            rw [hstart] at hbd
            first | refine W_rt (by kernel_rfl) (fun K hK => ?_) | refine W_text (by kernel_rfl) (fun K hK => ?_)
            simp [go_sem, g7, p0]
            refine hK _ _ ?_; clear hK K
            refine W_if (by simp [go_sem, p0]; rfl) rfl ?_
            refine W_skip ?_
            refine hK2 _ _ ?_; clear hK2 K2
            refine W_seq (fun K2 hK2 => ?_)
            refine W_block ?_
            first | refine W_rt (by kernel_rfl) (fun K hK => ?_) | refine W_text (by kernel_rfl) (fun K hK => ?_)
            simp [go_sem]
            refine hK _ _ ?_; clear hK K
            refine W_block ?_
            refine W_loop (fun m g wi => Below w'.heap.size w' wi ∧ m ≤ 4 ∧ g 3 = .slice ag k cg ∧ g 6 = .pointer (some ⟨b5, 0, none⟩) ∧ g 7 = .int .i64 (i : Int) ∧ g 8 = .int .u16 ((10 ^ m / 10 : Nat) : Int) ∧ Bd w'.heap.size b5 (dgz (V / 10 ^ m)) wi) 4 ?_ ?_
            · exact ⟨hEi, by omega, by simp [go_sem, g3], by simp [go_sem, g6], by simp [go_sem, g7], by simp [go_sem], hbd⟩
            · clear hEi hbd g3 g6 g7
              clear g
              rintro m g wi ⟨hEi, hm4, g3, g6, g7, g8, hbd⟩
              have hbs := hEi.size
              refine W_seq (fun K3 hK3 => ?_)
              rcases m with _ | m
              · rw [Nat.pow_zero, Nat.div_one] at hbd
                first | refine W_rt (by kernel_rfl) (fun K hK => ?_) | refine W_text (by kernel_rfl) (fun K hK => ?_)
                simp [go_sem, g8]
                refine hK _ _ ?_; clear hK K
                refine W_if (by simp [go_sem]; rfl) rfl ?_
                refine W_exit ?_
                repeat (first | refine thenG_exit ?_ | refine inBlock_other rfl ?_ | refine inBlock_same ?_)
                refine hK2 _ _ ?_; clear hK2 K2 hK3 K3
                have f9 : IntKind.i64.wrap ((i : Int) - 1) = (i : Int) - 1 := IntWalk.i64_in _ (by omega)
                first | refine W_rt (by kernel_rfl) (fun K hK => ?_) | refine W_text (by kernel_rfl) (fun K hK => ?_)
                simp [go_sem, g7, f9]
                exact hK _ _ ⟨i, by omega, hEi, by omega, by simp [go_sem, g3], by simp [go_sem, g6], by simp [go_sem], by rw [← hVe]; exact hbd⟩
              · obtain ⟨s1, s2, s3⟩ := dgz_step V (A0 / 10000 ^ (i + 1)) gr m hV hgm (by omega)
                have hDe : 10 ^ (m + 1) / 10 = 10 ^ m := by rw [Nat.pow_succ]; exact Nat.mul_div_cancel _ (by decide)
                rw [hDe] at g8
                have hDb : 10 ^ m ≤ 1000 := Nat.pow_le_pow_right (by decide) (show m ≤ 3 by omega)
                have hD0 : 0 < 10 ^ m := Nat.pow_pos (by decide)
                obtain ⟨D, hD⟩ : ∃ D, D = 10 ^ m := ⟨_, rfl⟩
                rw [← hD] at g8 hDb hD0 s1 s2 s3
                have hD0' : (0 : Int) < D := by omega
                have hDn : ¬ (D : Int) = 0 := by omega
                have hDn' : ¬ D = 0 := by omega
                obtain ⟨Q, hQ⟩ : ∃ Q, Q = V / 10 ^ (m + 1) := ⟨_, rfl⟩
                rw [← hQ] at s1 s3 hbd
                have hQl := hlen Q (by rw [hQ]; exact Nat.le_trans (Nat.div_le_self _ _) hVA)
                obtain ⟨N, hN⟩ : ∃ N, N = V / D := ⟨_, rfl⟩
                rw [← hN] at s1 s2 s3
                have f10 : (D : Int).tdiv 10 = ((D / 10 : Nat) : Int) := rfl
                have f10' : IntKind.u16.wrap ((D / 10 : Nat) : Int) = ((D / 10 : Nat) : Int) := w16_in _ (by omega)
                obtain ⟨D1, hD1⟩ : ∃ D1, D1 = D / 10 := ⟨_, rfl⟩
                rw [← hD1] at f10 f10'
                first | refine W_rt (by kernel_rfl) (fun K hK => ?_) | refine W_text (by kernel_rfl) (fun K hK => ?_)
                simp [go_sem, g8, hD0, hD0']
                refine hK _ _ ?_; clear hK K
                refine W_if (by simp [go_sem, hD0, hD0']; rfl) rfl ?_
                refine W_skip ?_
                refine hK3 _ _ ?_; clear hK3 K3
                refine W_seq (fun K3 hK3 => ?_)
                refine W_block ?_
                replace hGr := hGw.ext hEi
                obtain ⟨cc1, cc2⟩ := hGr.at (i := i) (by omega)
                rw [← hgr] at cc1
                -- the last step
                have last : ∀ (g : G) (wi : World), Below w'.heap.size w' wi → g 3 = .slice ag k cg → g 6 = .pointer (some ⟨b5, 0, none⟩) → g 7 = .int .i64 (i : Int) → g 8 = .int .u16 (D : Int) → Bd w'.heap.size b5 (dgz N) wi → K3 g wi := by
                  clear g3 g6 g7 g8 hEi hbd cc1 cc2 hGr hbs
                  clear g
                  intro g wi hEi g3 g6 g7 g8 hbd
                  refine hK3 _ _ ?_; clear hK3 K3
                  first | refine W_rt (by kernel_rfl) (fun K hK => ?_) | refine W_text (by kernel_rfl) (fun K hK => ?_)
                  simp [go_sem, g8, f10, f10']
                  exact hK _ _ ⟨m, by omega, hEi, by omega, by simp [go_sem, g3], by simp [go_sem, g6], by simp [go_sem, g7], by simp [go_sem, hD1, hD], by rw [← hD, ← hN]; exact hbd⟩
                first | refine W_rt (by kernel_rfl) (fun K hK => ?_) | refine W_text (by kernel_rfl) (fun K hK => ?_)
                simp [go_sem, g6]
                refine hv_call (by simp [go_sem, g6]) rfl Try.call114 (fun R hR => ?_)
                simp [go_sem, g6]
                refine (bdLen_any _ _ _ _ hbd).mono ?_
                rintro e w8 ⟨rfl, rfl⟩
                refine ⟨_, rfl, hR _ _ ?_⟩
                clear hR R
                by_cases hq0 : Q = 0
                · have hl0 : (dgz Q).length = 0 := by rw [hq0, dgz_0]; rfl
                  by_cases hge : D ≤ gr
                  · have hge' : (D : Int) ≤ gr := by omega
                    have hcond : ¬ (Q = 0 ∧ ¬ D ≤ gr) := fun h => h.2 hge
                    simp [go_sem, g3, g7, g8, q1, q1', cc1, cc2, hl0, hge, hge']
                    refine hK _ _ ?_; clear hK K
                    refine W_if (by simp [go_sem, hge, hge']; rfl) rfl ?_
                    have hN0 : N ≠ 0 := by
                      intro e0
                      have := s1.1 e0
                      omega
                    have hx10 : gr / D % 10 < 10 := Nat.mod_lt _ (by decide)
                    obtain ⟨gd, hgd⟩ : ∃ gd, gd = gr / D := ⟨_, rfl⟩
                    have hgdl : gd ≤ gr := by rw [hgd]; exact Nat.div_le_self _ _
                    have e53 : (gr : Int).tdiv D = (gd : Int) := by rw [hgd]; rfl
                    have e53' : IntKind.u16.wrap (gd : Int) = (gd : Int) := w16_in _ (by omega)
                    obtain ⟨x, hx⟩ : ∃ x, x = gd % 10 := ⟨_, rfl⟩
                    have e54 : (gd : Int).tmod 10 = (x : Int) := by rw [hx]; rfl
                    rw [← hgd, ← hx] at s2 hx10
                    obtain ⟨Y, hY⟩ : ∃ Y, Y = 48 + x := ⟨_, rfl⟩
                    have e55 : IntKind.u16.wrap (48 + (x : Int)) = (Y : Int) := by rw [w16_in _ (by omega)]; omega
                    have e56 : IntKind.u8.wrap (Y : Int) = Y := w8_in _ (by omega)
                    have hwb := writeByte_any w'.heap.size b5 (dgz Q) (UInt8.ofNat (48 + x)) _ hbd (by omega) hbs
                    rw [u8_48 x hx10, ← hY] at hwb
                    have hdz : dgz N = dgz Q ++ [UInt8.ofNat Y] := by rw [dgz_s N hN0, s2, s3, hY]
                    rw [← hdz] at hwb
                    first | refine W_rt (by kernel_rfl) (fun K hK => ?_) | refine W_text (by kernel_rfl) (fun K hK => ?_)
                    simp [go_sem, g3, g6, g7, g8, q1, q1', cc1, cc2, hDn, hDn', e53, e53', e54, e55, e56]
                    refine hv_call (by simp [go_sem, g3, g6, g7, g8, q1, q1', cc1, cc2, hDn, hDn', e53, e53', e54, e55, e56]) rfl Try.call115 (fun R hR => ?_)
                    simp [go_sem, g3, g6, g7, g8, q1, q1', cc1, cc2, hDn, hDn', e53, e53', e54, e55, e56]
                    refine (hwb).mono ?_
                    rintro e w7 ⟨rfl, hbd7, hE7⟩
                    refine ⟨_, rfl, hR _ _ ?_⟩
                    clear hR R
                    simp [go_sem]
                    refine hK _ _ ?_
                    exact last _ _ (hEi.trans hE7) (by simp [go_sem, g3]) (by simp [go_sem, g6]) (by simp [go_sem, g7]) (by simp [go_sem, g8]) hbd7
                  · have hge' : ¬ (D : Int) ≤ gr := by omega
                    have hN0 : N = 0 := s1.2 ⟨hq0, hge⟩
                    simp [go_sem, g3, g7, g8, q1, q1', cc1, cc2, hl0, hge, hge']
                    refine hK _ _ ?_; clear hK K
                    refine W_if (by simp [go_sem, hge, hge']; rfl) rfl ?_
                    refine W_skip ?_
                    exact last _ _ hEi (by simp [go_sem, g3]) (by simp [go_sem, g6]) (by simp [go_sem, g7]) (by simp [go_sem, g8]) (by rw [hN0]; rw [hq0] at hbd; exact hbd)
                · have hlp : 0 < (dgz Q).length := by
                    rcases Nat.eq_zero_or_pos (dgz Q).length with h | h
                    · exact absurd (dgz_nil.1 (List.length_eq_zero_iff.1 h)) hq0
                    · exact h
                  have hlp' : (0 : Int) < (dgz Q).length := by omega
                  have hcond : ¬ (Q = 0 ∧ ¬ D ≤ gr) := fun h => hq0 h.1
                  simp [go_sem, hlp, hlp']
                  refine hK _ _ ?_; clear hK K
                  refine W_if (by simp [go_sem, hlp, hlp']; rfl) rfl ?_
                  have hN0 : N ≠ 0 := by
                    intro e0
                    have := s1.1 e0
                    omega
                  have hx10 : gr / D % 10 < 10 := Nat.mod_lt _ (by decide)
                  obtain ⟨gd, hgd⟩ : ∃ gd, gd = gr / D := ⟨_, rfl⟩
                  have hgdl : gd ≤ gr := by rw [hgd]; exact Nat.div_le_self _ _
                  have e53 : (gr : Int).tdiv D = (gd : Int) := by rw [hgd]; rfl
                  have e53' : IntKind.u16.wrap (gd : Int) = (gd : Int) := w16_in _ (by omega)
                  obtain ⟨x, hx⟩ : ∃ x, x = gd % 10 := ⟨_, rfl⟩
                  have e54 : (gd : Int).tmod 10 = (x : Int) := by rw [hx]; rfl
                  rw [← hgd, ← hx] at s2 hx10
                  obtain ⟨Y, hY⟩ : ∃ Y, Y = 48 + x := ⟨_, rfl⟩
                  have e55 : IntKind.u16.wrap (48 + (x : Int)) = (Y : Int) := by rw [w16_in _ (by omega)]; omega
                  have e56 : IntKind.u8.wrap (Y : Int) = Y := w8_in _ (by omega)
                  have hwb := writeByte_any w'.heap.size b5 (dgz Q) (UInt8.ofNat (48 + x)) _ hbd (by omega) hbs
                  rw [u8_48 x hx10, ← hY] at hwb
                  have hdz : dgz N = dgz Q ++ [UInt8.ofNat Y] := by rw [dgz_s N hN0, s2, s3, hY]
                  rw [← hdz] at hwb
                  first | refine W_rt (by kernel_rfl) (fun K hK => ?_) | refine W_text (by kernel_rfl) (fun K hK => ?_)
                  simp [go_sem, g3, g6, g7, g8, q1, q1', cc1, cc2, hDn, hDn', e53, e53', e54, e55, e56]
                  refine hv_call (by simp [go_sem, g3, g6, g7, g8, q1, q1', cc1, cc2, hDn, hDn', e53, e53', e54, e55, e56]) rfl Try.call115 (fun R hR => ?_)
                  simp [go_sem, g3, g6, g7, g8, q1, q1', cc1, cc2, hDn, hDn', e53, e53', e54, e55, e56]
                  refine (hwb).mono ?_
                  rintro e w7 ⟨rfl, hbd7, hE7⟩
                  refine ⟨_, rfl, hR _ _ ?_⟩
                  clear hR R
                  simp [go_sem]
                  refine hK _ _ ?_
                  exact last _ _ (hEi.trans hE7) (by simp [go_sem, g3]) (by simp [go_sem, g6]) (by simp [go_sem, g7]) (by simp [go_sem, g8]) hbd7
      · have hkb := grp_len hA0 hlt
        have hp : 0 < (lim (A0 / 10000 ^ k)).length := lim_ne hA0
        have hp' : (0 : Int) < (lim (A0 / 10000 ^ k)).length := by omega
        have hAl : (lim (A0 / 10000 ^ k)).length ≤ 100000 := lim_mono (Nat.div_le_self _ _) (by omega)
        first | refine W_rt (by kernel_rfl) (fun K hK => ?_) | refine W_text (by kernel_rfl) (fun K hK => ?_)
        simp [go_sem, g0, hp, hp']
        refine hK _ _ ?_; clear hK K
        refine W_if (by simp [go_sem, hp, hp']; rfl) rfl ?_
        refine W_skip ?_
        refine hK2 _ _ ?_; clear hK2 K2
        refine W_block ?_
        have hmod : A0 / 10000 ^ k % 10000 < 10000 := Nat.mod_lt _ (by decide)
        have hbl := byLimb_fresh (lim (A0 / 10000 ^ k)) a1 c1 10000 _ hrA (by unfold lenB; omega) (by decide) (by decide)
        rw [val_lim, Nat.div_div_eq_div_mul, ← Nat.pow_succ] at hbl
        obtain ⟨x, hx⟩ : ∃ x, x = A0 / 10000 ^ k % 10000 := ⟨_, rfl⟩
        rw [← hx] at hbl hmod
        first | refine W_rt (by kernel_rfl) (fun K hK => ?_) | refine W_text (by kernel_rfl) (fun K hK => ?_)
        simp [go_sem, g0]
        refine hv_call (by simp [go_sem, g0]) rfl Try.call113 (fun R hR => ?_)
        simp [go_sem, g0]
        refine (hbl).mono ?_
        rintro e w2 ⟨a2, c2, rfl, hr2, hE2, hfr⟩
        refine ⟨_, rfl, hR _ _ ?_⟩
        clear hR R
        have hlt2 := fun kk e => (hown.lt kk e).2
        replace hown := own_keep hown hE2
        replace hE := hE.next hE2
        simp [go_sem]
        refine hK _ _ ?_; clear hK K
        first | refine W_rt (by kernel_rfl) (fun K hK => ?_) | refine W_text (by kernel_rfl) (fun K hK => ?_)
        simp [go_sem, g3]
        refine hv_buildSlice #[.int .u16 x] (by simp [go_sem, g3]) rfl ty_slZ22 (by decide) [(0, .int .u16 x)] (by simp [go_sem, g3]) (by kernel_rfl) (fun w4 b4 hE4 hle4 hB4 => ?_)
        replace hr2 := hr2.ext hE4
        have hown4 := own_keep hown hE4
        replace hE := hE.next hE4
        simp [go_sem, g3]
        refine hv_appendB (v := v) (b := b4) (len := 1) (c := 1) hB4 (by simp [go_sem]) rfl ty_slZ22 ty_bytes50 rfl (by decide) (by simp [go_sem, g3]) (by simp [go_sem]) hown4 rfl (by simp [Value.oneCell']) (by unfold maxLen; omega) (by omega) hE.size (by decide) (fun v6 w6 hown6 hg6 _ => ?_)
        replace hE := hE.nextG hg6 (fun b e => (hown4.lt b e).1)
        replace hr2 := hr2.grown2 hg6 (fun ad ha e => by
          have h1 := hfr ad ha
          have h2 := hlt2 _ e
          omega)
        simp [go_sem]
        refine hK _ _ ?_; clear hK K
        first | refine W_rt (by kernel_rfl) (fun K hK => ?_) | refine W_text (by kernel_rfl) (fun K hK => ?_)
        simp [go_sem]
        refine hK _ _ ⟨A0 / 10000 ^ (k + 1), ?_, hE, k + 1, a2, c2, v6, GL ++ [x], rfl, by simp [go_sem], hr2, by simp [go_sem], ?_, by simp [hGl], hGok.app (Ok.cons (by omega) Ok.nil), by omega, ?_⟩
        · rw [Nat.pow_succ, ← Nat.div_div_eq_div_mul]
          exact Nat.div_lt_self (Nat.pos_of_ne_zero hA0) (by decide)
        · rw [lmC_snoc]; exact hown6
        · intro i hi
          rw [lat_snoc]
          by_cases h : i < k
          · rw [if_pos (by omega)]; exact hG i h
          · have e : i = k := by omega
            subst e
            rw [if_neg (by omega), if_pos (by omega)]; exact hx
end Go.Proofs.Ytnclpllmidlbbaa
namespace Go.Proofs.Ytnclpllmidlbbaa
open Go.RowKit Go.V
set_option linter.unusedSimpArgs false
set_option linter.unusedVariables false
set_option maxRecDepth 20000

/-- these bytes as a string -/
def sB (l : List UInt8) : ByteArray := ⟨l.toArray⟩
theorem sB_size (l : List UInt8) : (sB l).size = l.length := by show (l.toArray).size = _; simp
theorem sB_app (a b : List UInt8) : sB a ++ sB b = sB (a ++ b) := by
  apply ByteArray.ext
  simp [sB]
theorem b2s_one {P : Program} (w : World) (b : Nat) (n : Int) (h : w.cell? ⟨b, 0, none⟩ = some (.int .u8 n)) : (Conv.bytesToString (.slice (some ⟨b, 0, none⟩) 1 1)).run P w = .ok (.string (sB [UInt8.ofNat n.toNat])) w := by
  have hl : (loadCells ⟨b, 0, none⟩ 1).run P w = .ok ([n].map (Value.int .u8)).toArray w := by
    have := tame_run P _ w _ (tame_loadCellsFrom (P := P) (w := w) (a := ⟨b, 0, none⟩) 1 0 #[] ⟨by rw [Addr.add_zero']; rw [h]; rfl, trivial⟩)
    simp only [rowV, cellV, Addr.add_zero', h] at this
    exact this
  exact run_bytesToString w _ 1 1 [n] hl

set_option maxHeartbeats 600000 in
theorem textR_any (l : List Nat) (a : Option Addr) (c : Nat) (w : World) (hr : RD w a c l) (hl : l.length ≤ 100000) :
    Calls Try.prog 87 #[.slice a l.length c] w (RetS w (txt (val l))) := by
  have hno := normR_any l a c w hr (by unfold lenB; omega)
  rw [← lim_val l hr.ok] at hno
  have hlt := val_lt l hr.ok
  have hlim : (lim (val l)).length ≤ l.length := by rw [lim_val l hr.ok]; exact nrm_len l
  rw [pow_16] at hlt
  have s0 : (.string ⟨#[]⟩ : Value) = .string (sB []) := rfl
  generalize val l = A0 at *
  have hlen := dgz_len (16 * l.length) A0 hlt
  refine calls_of_W (args := [.slice a l.length c]) (rs := [.tmp 2]) (n := 32) Try.func87 rfl rfl rfl (by kernel_rfl) ?_
  first | refine W_rt (by kernel_rfl) (fun K hK => ?_) | refine W_text (by kernel_rfl) (fun K hK => ?_)
  simp [go_sem]
  refine hK _ _ ?_; clear hK K
  first | refine W_rt (by kernel_rfl) (fun K hK => ?_) | refine W_text (by kernel_rfl) (fun K hK => ?_)
  simp [go_sem]
  refine hv_call (by simp [go_sem]) rfl Try.call94 (fun R hR => ?_)
  simp [go_sem]
  refine (hno).mono ?_
  rintro e w1 ⟨a1, c1, rfl, hr1, hE1⟩
  refine ⟨_, rfl, hR _ _ ?_⟩
  clear hR R
  have hE := hE1
  clear hno hr
  simp [go_sem]
  refine hK _ _ ?_; clear hK K
  refine W_seq (fun K1 hK1 => ?_)
  by_cases h0 : A0 = 0
  · subst h0
    rw [lim_zero]
    first | refine W_rt (by kernel_rfl) (fun K hK => ?_) | refine W_text (by kernel_rfl) (fun K hK => ?_)
    simp [go_sem]
    refine hK _ _ ?_; clear hK K
    refine W_if (by simp [go_sem]; rfl) rfl ?_
    first | refine W_rt (by kernel_rfl) (fun K hK => ?_) | refine W_text (by kernel_rfl) (fun K hK => ?_)
    simp [go_sem]
    refine hK _ _ ?_; clear hK K
    refine W_ret ?_
    repeat (first | refine thenG_ret ?_ | refine inBlock_ret ?_)
    exact ⟨trivial, by simp [go_sem, pack, resL, txt], hE⟩
  · have hp : 0 < (lim A0).length := lim_ne h0
    have hp' : ¬ ((lim A0).length : Int) = 0 := by omega
    have hp'' : ¬ lim A0 = [] := by intro e; rw [e] at hp; simp at hp
    first | refine W_rt (by kernel_rfl) (fun K hK => ?_) | refine W_text (by kernel_rfl) (fun K hK => ?_)
    simp [go_sem, hp', hp'']
    refine hK _ _ ?_; clear hK K
    refine W_if (by simp [go_sem, hp', hp'']; rfl) rfl ?_
    refine W_skip ?_
    refine hK1 _ _ ?_; clear hK1 K1
    first | refine W_rt (by kernel_rfl) (fun K hK => ?_) | refine W_text (by kernel_rfl) (fun K hK => ?_)
    simp [go_sem]
    rw [s0]
    refine hK _ _ ?_; clear hK K
    refine W_seq (fun K1 hK1 => ?_)
    refine W_block ?_
    refine W_loop (fun t g w' => Below w.heap.size w w' ∧ ∃ a1 c1 acc, t ≤ A0 ∧ g 0 = .slice a1 (lim t).length c1 ∧ RD w' a1 c1 (lim t) ∧ g 3 = .string (sB acc) ∧ dgz t ++ acc = dgz A0) A0 ?_ ?_
    · exact ⟨hE, a1, c1, [], Nat.le_refl _, by simp [go_sem], hr1, by simp [go_sem], by simp⟩
    · clear hE hr1 hE1
      rintro A g w' ⟨hE, a1, c1, acc, hAle, g0, hrA, g3, hacc⟩
      refine W_seq (fun K2 hK2 => ?_)
      by_cases hA0 : A = 0
      · subst hA0
        rw [dgz_0, List.nil_append] at hacc
        rw [lim_zero] at g0
        first | refine W_rt (by kernel_rfl) (fun K hK => ?_) | refine W_text (by kernel_rfl) (fun K hK => ?_)
        simp [go_sem, g0]
        refine hK _ _ ?_; clear hK K
        refine W_if (by simp [go_sem]; rfl) rfl ?_
        refine W_exit ?_
        repeat (first | refine thenG_exit ?_ | refine inBlock_other rfl ?_ | refine inBlock_same ?_)
        refine hK1 _ _ ?_; clear hK1 K1 hK2 K2
        first | refine W_rt (by kernel_rfl) (fun K hK => ?_) | refine W_text (by kernel_rfl) (fun K hK => ?_)
        simp [go_sem, g3]
        refine hK _ _ ?_; clear hK K
        refine W_ret ?_
        repeat (first | refine thenG_ret ?_ | refine inBlock_ret ?_)
        refine ⟨trivial, ?_, hE⟩
        simp [go_sem, pack, resL, txt, h0, g3, hacc, sB]
      · have hp : 0 < (lim A).length := lim_ne hA0
        have hp' : (0 : Int) < (lim A).length := by omega
        have hAl : (lim A).length ≤ 100000 := lim_mono hAle (by omega)
        have hx : A % 10 < 10 := Nat.mod_lt _ (by decide)
        have hacl : acc.length ≤ 1600000 := by
          have := congrArg List.length hacc
          rw [List.length_append] at this
          omega
        rw [dgz_s A hA0, List.append_assoc] at hacc
        first | refine W_rt (by kernel_rfl) (fun K hK => ?_) | refine W_text (by kernel_rfl) (fun K hK => ?_)
        simp [go_sem, g0, hp, hp']
        refine hK _ _ ?_; clear hK K
        refine W_if (by simp [go_sem, hp, hp']; rfl) rfl ?_
        refine W_skip ?_
        refine hK2 _ _ ?_; clear hK2 K2
        refine W_block ?_
        first | refine W_rt (by kernel_rfl) (fun K hK => ?_) | refine W_text (by kernel_rfl) (fun K hK => ?_)
        simp [go_sem, g0]
        refine hv_call (by simp [go_sem, g0]) rfl Try.call56 (fun R hR => ?_)
        simp [go_sem, g0]
        refine (ofR_any 10 _ (by decide)).mono ?_
        rintro e w2 ⟨a2, c2, rfl, hr2, hE2⟩
        refine ⟨_, rfl, hR _ _ ?_⟩
        clear hR R
        replace hrA := hrA.ext hE2
        replace hE := hE.next hE2
        have hdm := divmodR_any (lim A) (lim 10) a1 a2 c1 c2 _ hrA hr2 (by unfold lenS; omega) (Nat.le_trans (Nat.succ_le_succ (lim_len 4 10 (by decide))) (by decide))
        rw [val_lim, val_lim] at hdm
        simp [go_sem, g0]
        refine hv_call (by simp [go_sem, g0]) rfl Try.call95 (fun R hR => ?_)
        simp [go_sem, g0]
        refine hdm.mono ?_
        rintro e w4 (⟨hbad, _⟩ | ⟨_, a4, c4, a5, c5, rfl, hr4, hr5, hE4⟩)
        · cases hbad
        refine ⟨_, rfl, hR _ _ ?_⟩
        clear hR R
        replace hE := hE.next hE4
        have hsh := short_any (lim (A % 10)) a5 c5 _ hr5 (lim_len 4 _ (by omega))
        rw [val_lim] at hsh
        obtain ⟨x, hxe⟩ : ∃ x, x = A % 10 := ⟨_, rfl⟩
        rw [← hxe] at hsh hx hacc ⊢
        obtain ⟨Y, hY⟩ : ∃ Y, Y = 48 + x := ⟨_, rfl⟩
        have e24 : IntKind.u64.wrap (48 + (x : Int)) = (Y : Int) := by rw [w64_in _ (by omega)]; omega
        have e25 : IntKind.u8.wrap (Y : Int) = Y := w8_in _ (by omega)
        simp [go_sem]
        refine hK _ _ ?_; clear hK K
        first | refine W_rt (by kernel_rfl) (fun K hK => ?_) | refine W_text (by kernel_rfl) (fun K hK => ?_)
        simp [go_sem]
        refine hv_call (by simp [go_sem]) rfl Try.call117 (fun R hR => ?_)
        simp [go_sem]
        refine (hsh).mono ?_
        rintro e w5 ⟨rfl, rfl⟩
        refine ⟨_, rfl, hR _ _ ?_⟩
        clear hR R
        simp [go_sem, e24, e25]
        refine hv_buildSlice #[.int .u8 Y] (by simp [go_sem, e24, e25]) rfl ty_slZ103 (by decide) [(0, .int .u8 Y)] (by simp [go_sem, e24, e25]) (by kernel_rfl) (fun w6 b6 hE6 hle6 hB6 => ?_)
        replace hr4 := hr4.ext hE6
        replace hE := hE.next hE6
        have kb := hB6.get0
        have hcv := b2s_one (P := Try.prog) w6 b6 (Y : Int) kb
        rw [← run_convert_bytes_string (P := Try.prog) w6 103 9 5 (some ⟨b6, 0, none⟩) 1 1 Try.underlying103 Try.underlying5 Try.underlying9, Int.toNat_natCast] at hcv
        simp [go_sem]
        refine hv_conv (by simp [go_sem]) rfl (by simp [go_sem]; exact hcv) (fun e => absurd e (by decide)) ?_
        have e29 : sB [UInt8.ofNat Y] ++ sB acc = sB (UInt8.ofNat Y :: acc) := sB_app _ _
        have e30 : (sB [UInt8.ofNat Y]).size + (sB acc).size ≤ 9223372036854775807 := by rw [sB_size, sB_size]; simp; omega
        simp [go_sem, g3, e29, e30]
        refine hK _ _ ?_; clear hK K
        first | refine W_rt (by kernel_rfl) (fun K hK => ?_) | refine W_text (by kernel_rfl) (fun K hK => ?_)
        simp [go_sem]
        refine hK _ _ ⟨A / 10, by omega, hE, a4, c4, UInt8.ofNat Y :: acc, by omega, by simp [go_sem], hr4, by simp [go_sem], ?_⟩
        rw [← hacc, hY]; rfl
end Go.Proofs.Ytnclpllmidlbbaa
namespace Go.Proofs.Ytnclpllmidlbbaa
open Go.RowKit Go.V
set_option linter.unusedSimpArgs false
set_option linter.unusedVariables false
set_option maxRecDepth 20000

/-- the integer square root -/
def isq : Nat → Nat
  | 0 => 0
  | n + 1 => if (isq n + 1) * (isq n + 1) ≤ n + 1 then isq n + 1 else isq n
theorem isq_spec (n : Nat) : isq n * isq n ≤ n ∧ n < (isq n + 1) * (isq n + 1) := by
  induction n with
  | zero => simp [isq]
  | succ n ih =>
    unfold isq
    split
    · rename_i h
      refine ⟨h, ?_⟩
      have : (isq n + 1 + 1) * (isq n + 1 + 1) = (isq n + 1) * (isq n + 1) + 2 * (isq n + 1) + 1 := by
        rw [Nat.add_mul, Nat.mul_add, Nat.one_mul, Nat.mul_one]; omega
      omega
    · omega
theorem sq_lt {a b : Nat} (h : a * a < b * b) : a < b := by
  rcases Nat.lt_or_ge a b with h' | h'
  · exact h'
  · exact absurd (Nat.mul_le_mul h' h') (by omega)
theorem isq_uniq {n r : Nat} (h1 : r * r ≤ n) (h2 : n < (r + 1) * (r + 1)) : r = isq n := by
  obtain ⟨a, b⟩ := isq_spec n
  have c := sq_lt (Nat.lt_of_le_of_lt h1 b)
  have d := sq_lt (Nat.lt_of_le_of_lt a h2)
  omega
/-- a step of the approximation stays above the root -/
theorem newton_ge (a x : Nat) (hx : isq a ≤ x) (hp : 0 < x) : isq a ≤ (x + a / x) / 2 := by
  obtain ⟨h1, _⟩ := isq_spec a
  refine Nat.le_of_not_lt (fun hlt => ?_)
  generalize isq a = s at *
  have h3 := Nat.lt_mul_div_succ a hp
  generalize a / x = q at *
  have h2 : x + q ≤ 2 * s - 1 := by omega
  have h4 : x * (q + 1) ≤ x * (2 * s - x) := Nat.mul_le_mul_left _ (by omega)
  obtain ⟨d, hd⟩ : ∃ d, x = s + d := ⟨x - s, by omega⟩
  obtain ⟨e, he⟩ : ∃ e, s = e + d := ⟨s - d, by omega⟩
  have e1 : 2 * s - x = e := by omega
  rw [e1] at h4
  have e2 : x = e + 2 * d := by omega
  have h5 : (e + 2 * d) * e ≤ (e + d) * (e + d) := by
    rw [Nat.add_mul, Nat.add_mul, Nat.mul_add, Nat.mul_add, Nat.mul_comm d e]
    have : 2 * d * e = e * d + e * d := by rw [Nat.mul_comm e d, Nat.mul_assoc]; omega
    omega
  rw [← e2, ← he] at h5
  omega
/-- where the step does not go down, the root is there -/
theorem newton_end (a x : Nat) (hx : isq a ≤ x) (hp : 0 < x) (h : x ≤ (x + a / x) / 2) : x = isq a := by
  obtain ⟨_, h2⟩ := isq_spec a
  refine Nat.le_antisymm (Nat.le_of_not_lt (fun hlt => ?_)) hx
  have h3 : (isq a + 1) * (isq a + 1) ≤ x * x := Nat.mul_le_mul hlt hlt
  have h4 : a / x < x := by rw [Nat.div_lt_iff_lt_mul hp]; omega
  omega
theorem newton_start (a : Nat) : isq a < 2 ^ ((blen a + 1) / 2) := by
  obtain ⟨h1, _⟩ := isq_spec a
  refine sq_lt (Nat.lt_of_le_of_lt h1 ?_)
  rw [← Nat.pow_add]
  exact Nat.lt_of_lt_of_le (lt_blen a) (Nat.pow_le_pow_right (by decide) (by omega))
/-- what a square root returns -/
def SqPost (w : World) (A : Nat) (e : Ending) (w' : World) : Prop := ∃ a c a' c', e = .returned (.tuple #[.slice a (lim (isq A)).length c, .slice a' (lim (A - isq A * isq A)).length c']) ∧ RD w' a c (lim (isq A)) ∧ RD w' a' c' (lim (A - isq A * isq A)) ∧ Below w.heap.size w w'
theorem lim_len2 (e k : Nat) (h : e < 16 * k) : (lim (2 ^ e)).length ≤ k := lim_len k _ (by rw [pow_16]; exact Nat.pow_lt_pow_right (by decide) h)

theorem lim_add_len {x y k : Nat} (hx : (lim x).length ≤ k) (hy : (lim y).length ≤ k) : (lim (x + y)).length ≤ k + 1 := by
  refine lim_len _ _ ?_
  have h1 := val_lt _ (lim_ok x)
  have h2 := val_lt _ (lim_ok y)
  rw [val_lim] at h1 h2
  have h3 : 65536 ^ (lim x).length ≤ 65536 ^ k := Nat.pow_le_pow_right (by decide) hx
  have h4 : 65536 ^ (lim y).length ≤ 65536 ^ k := Nat.pow_le_pow_right (by decide) hy
  rw [Nat.pow_succ]
  omega

set_option maxHeartbeats 4000000 in
theorem sqrt_any (l : List Nat) (a : Option Addr) (c : Nat) (w : World) (hr : RD w a c l) (hl : l.length ≤ 100000) :
    Calls Try.prog 58 #[.slice a l.length c] w (SqPost w (val l)) := by
  have hn1 := nrm_len l
  have hbb := blen_bound l hr.ok
  have hlB : l.length ≤ lenB := by unfold lenB; omega
  have hno := norm_any l a c w hr hlB
  rw [← lim_val l hr.ok] at hno hn1
  refine calls_of_W (args := [.slice a l.length c]) (rs := [.tmp 2, .tmp 3]) (n := 46) Try.func58 rfl rfl rfl (by kernel_rfl) ?_
  first | refine W_rt (by kernel_rfl) (fun K hK => ?_) | refine W_text (by kernel_rfl) (fun K hK => ?_)
  simp [go_sem]
  refine hK _ _ ?_; clear hK K
  first | refine W_rt (by kernel_rfl) (fun K hK => ?_) | refine W_text (by kernel_rfl) (fun K hK => ?_)
  simp [go_sem]
  refine hv_call (by simp [go_sem]) rfl Try.call89 (fun R hR => ?_)
  simp [go_sem]
  refine (hno).mono ?_
  rintro e w1 ⟨a1, c1, rfl, hr1, hE1⟩
  refine ⟨_, rfl, hR _ _ ?_⟩
  clear hR R
  simp [go_sem]
  refine hK _ _ ?_; clear hK K
  have hE := hE1
  clear hr hE1 hno
  generalize val l = A at *
  refine W_seq (fun K1 hK1 => ?_)
  by_cases h0 : A = 0
  · subst h0
    rw [lim_zero]
    first | refine W_rt (by kernel_rfl) (fun K hK => ?_) | refine W_text (by kernel_rfl) (fun K hK => ?_)
    simp [go_sem]
    refine hK _ _ ?_; clear hK K
    refine W_if (by simp [go_sem]; rfl) rfl ?_
    first | refine W_rt (by kernel_rfl) (fun K hK => ?_) | refine W_text (by kernel_rfl) (fun K hK => ?_)
    simp [go_sem]
    refine hK _ _ ?_; clear hK K
    refine W_ret ?_
    repeat (first | refine thenG_ret ?_ | refine inBlock_ret ?_)
    refine ⟨trivial, none, 0, none, 0, ?_, ?_, ?_, hE⟩
    · simp [isq, lim_zero, go_sem, pack, resL]
    · simp only [isq, lim_zero]; exact RD.nil _ _ _
    · show RD w1 none 0 (lim 0)
      rw [lim_zero]; exact RD.nil _ _ _
  · have hp : 0 < (lim A).length := lim_ne h0
    have hp' : ¬ ((lim A).length : Int) = 0 := by omega
    have hp'' : ¬ lim A = [] := by intro e; rw [e] at hp; simp at hp
    have hlA : (lim A).length ≤ 100000 := by omega
    have hst := newton_start A
    have hbits := fun {w} hr => bits_any (lim A) a1 c1 w hr (by unfold lenB; omega)
    rw [val_lim] at hbits
    obtain ⟨ee, hee⟩ : ∃ ee, ee = (blen A + 1) / 2 := ⟨_, rfl⟩
    rw [← hee] at hst
    have heb : ee ≤ 800001 := by omega
    have f1 : IntKind.i64.wrap ((blen A : Int) + 1) = ((blen A + 1 : Nat) : Int) := by rw [IntWalk.i64_in _ (by omega)]; omega
    have f2 : ((blen A + 1 : Nat) : Int).tdiv 2 = (ee : Int) := by rw [hee]; rfl
    have f3 : IntKind.i64.wrap (ee : Int) = (ee : Int) := IntWalk.i64_in _ (by omega)
    obtain ⟨bl1, hbl1⟩ : ∃ bl1, bl1 = blen A + 1 := ⟨_, rfl⟩
    rw [← hbl1] at f1 f2
    have hxl : (lim (2 ^ ee)).length ≤ 100001 := lim_len2 _ _ (by omega)
    first | refine W_rt (by kernel_rfl) (fun K hK => ?_) | refine W_text (by kernel_rfl) (fun K hK => ?_)
    simp [go_sem, hp', hp'']
    refine hK _ _ ?_; clear hK K
    refine W_if (by simp [go_sem, hp', hp'']; rfl) rfl ?_
    refine W_skip ?_
    refine hK1 _ _ ?_; clear hK1 K1
    first | refine W_rt (by kernel_rfl) (fun K hK => ?_) | refine W_text (by kernel_rfl) (fun K hK => ?_)
    simp [go_sem]
    refine hv_buildSlice #[.int .u16 1] (by simp [go_sem]) rfl ty_slZ22 (by decide) [(0, .int .u16 1)] (by simp [go_sem]) (by kernel_rfl) (fun w2 b2 hE2 hle2 hB2 => ?_)
    have hr2 : RD w2 (some ⟨b2, 0, none⟩) 1 [1] := RD.of_lm hB2 (Ok.cons (by decide) Ok.nil) (by decide)
    replace hr1 := hr1.ext hE2
    replace hE := hE.next hE2
    clear hE2 hB2
    simp [go_sem]
    refine hv_call (by simp [go_sem]) rfl Try.call88 (fun R hR => ?_)
    simp [go_sem]
    refine (hbits hr1).mono ?_
    rintro e w3 ⟨rfl, rfl⟩
    refine ⟨_, rfl, hR _ _ ?_⟩
    clear hR R
    have hsh := (shl_any [1] _ _ ee _ hr2 (by decide) (by omega)).mono (fun _ _ => retN_of_O)
    rw [show val [1] = 1 from rfl, Nat.one_mul] at hsh
    simp [go_sem, f1, f2, f3]
    refine hv_call (by simp [go_sem, f1, f2, f3]) rfl Try.call99 (fun R hR => ?_)
    simp [go_sem, f1, f2, f3]
    refine (hsh).mono ?_
    rintro e w3 ⟨a3, c3, rfl, hr3, hE3⟩
    refine ⟨_, rfl, hR _ _ ?_⟩
    clear hR R
    replace hr1 := hr1.ext hE3
    replace hE := hE.next hE3
    simp [go_sem]
    refine hK _ _ ?_; clear hK K
    refine W_seq (fun K1 hK1 => ?_)
    refine W_block ?_
    refine W_loop (fun t g w' => Below w.heap.size w w' ∧ RD w' a1 c1 (lim A) ∧ ∃ ax cx, g 0 = .slice a1 (lim A).length c1 ∧ g 4 = .slice ax (lim t).length cx ∧ RD w' ax cx (lim t) ∧ isq A ≤ t ∧ 0 < t ∧ (lim t).length ≤ 100001) (2 ^ ee) ?_ ?_
    · exact ⟨hE, hr1, a3, c3, by simp [go_sem], by simp [go_sem], hr3, by omega, by omega, hxl⟩
    · clear hE hr1 hr3 hE3 hr2 hxl hst f1 f2 f3 hee heb
      rintro x g w' ⟨hE, hr1, ax, cx, g0, g4, hrx, hge, hx0, hxl⟩
      refine W_block ?_
      have hdm := divmod_any (lim A) (lim x) a1 ax c1 cx _ hr1 hrx (by unfold lenS; omega) (by unfold lenS; omega)
      rw [val_lim, val_lim] at hdm
      have hnge := newton_ge A x hge hx0
      have hnend := newton_end A x hge hx0
      obtain ⟨y, hy⟩ : ∃ y, y = (x + A / x) / 2 := ⟨_, rfl⟩
      rw [← hy] at hnge hnend
      first | refine W_rt (by kernel_rfl) (fun K hK => ?_) | refine W_text (by kernel_rfl) (fun K hK => ?_)
      simp [go_sem, g0, g4]
      refine hv_call (by simp [go_sem, g0, g4]) rfl Try.call91 (fun R hR => ?_)
      simp [go_sem, g0, g4]
      refine hdm.mono ?_
      rintro e w4 (⟨hbad, _⟩ | ⟨_, a4, c4, a5, c5, rfl, hr4, hr5, hE4⟩)
      · omega
      refine ⟨_, rfl, hR _ _ ?_⟩
      clear hR R hr5
      replace hr1 := hr1.ext hE4
      replace hrx := hrx.ext hE4
      replace hE := hE.next hE4
      clear hE4
      simp [go_sem]
      refine hK _ _ ?_; clear hK K
      have hql : (lim (A / x)).length ≤ 100000 := lim_mono (Nat.div_le_self _ _) hlA
      have hsl : (lim (x + A / x)).length ≤ 100002 := lim_add_len hxl (by omega)
      first | refine W_rt (by kernel_rfl) (fun K hK => ?_) | refine W_text (by kernel_rfl) (fun K hK => ?_)
      simp [go_sem, g4]
      refine hv_call (by simp [go_sem, g4]) rfl Try.call100 (fun R hR => ?_)
      simp [go_sem, g4]
      refine (add_any _ _ _ _ _ _ _ hrx hr4 (by unfold lenB; omega) (by unfold lenB; omega)).mono ?_
      rintro e w6 ⟨a6, c6, rfl, hr6, hE6⟩
      refine ⟨_, rfl, hR _ _ ?_⟩
      clear hR R
      rw [val_lim, val_lim] at hr6
      rw [val_lim, val_lim]
      replace hr1 := hr1.ext hE6
      replace hrx := hrx.ext hE6
      replace hE := hE.next hE6
      clear hE6
      have hsh := shr_any _ _ _ 1 _ hr6 (by unfold lenS; omega) (by decide) (by decide)
      rw [val_lim, show (2 : Nat) ^ 1 = 2 from rfl, ← hy, show (-((1 : Nat) : Int)) = -1 from rfl] at hsh
      simp [go_sem]
      refine hv_call (by simp [go_sem]) rfl Try.call99 (fun R hR => ?_)
      simp [go_sem]
      refine (hsh).mono ?_
      rintro e w7 ⟨a7, c7, rfl, hr7, hE7⟩
      refine ⟨_, rfl, hR _ _ ?_⟩
      clear hR R
      replace hr1 := hr1.ext hE7
      replace hrx := hrx.ext hE7
      replace hE := hE.next hE7
      clear hE7 hr6 hr4
      simp [go_sem]
      refine hK _ _ ?_; clear hK K
      refine W_seq (fun K2 hK2 => ?_)
      have hyl : (lim y).length ≤ 100002 := lim_mono (by omega) hsl
      have hcm := fun {w} hr7 hrx => cmp_any (lim y) (lim x) a7 ax c7 cx w hr7 hrx (by unfold lenB; omega) (by unfold lenB; omega)
      rw [val_lim, val_lim] at hcm
      first | refine W_rt (by kernel_rfl) (fun K hK => ?_) | refine W_text (by kernel_rfl) (fun K hK => ?_)
      simp [go_sem, g4]
      refine hv_call (by simp [go_sem, g4]) rfl Try.call101 (fun R hR => ?_)
      simp [go_sem, g4]
      refine (hcm hr7 hrx).mono ?_
      rintro e w8 ⟨rfl, hE8⟩
      refine ⟨_, rfl, hR _ _ ?_⟩
      clear hR R
      replace hr1 := hr1.ext hE8
      replace hrx := hrx.ext hE8
      replace hr7 := hr7.ext hE8
      replace hE := hE.next hE8
      clear hE8
      simp [go_sem]
      refine hK _ _ ?_; clear hK K
      by_cases hyx : y < x
      · have cy : cmpV y x < 0 := by rw [cmpV_lt hyx]; decide
        have cy' : ¬ (0 : Int) ≤ cmpV y x := by omega
        refine W_if (by simp [go_sem, cy, cy']; rfl) rfl ?_
        refine W_skip ?_
        refine hK2 _ _ ?_; clear hK2 K2
        first | refine W_rt (by kernel_rfl) (fun K hK => ?_) | refine W_text (by kernel_rfl) (fun K hK => ?_)
        simp [go_sem]
        exact hK _ _ ⟨y, hyx, hE, hr1, a7, c7, by simp [go_sem, g0], by simp [go_sem], hr7, hnge, by
          obtain ⟨_, hi⟩ := isq_spec A
          rcases Nat.eq_zero_or_pos y with h | h
          · rw [h] at hnge
            have : isq A = 0 := by omega
            rw [this] at hi
            omega
          · exact h, lim_mono (Nat.le_of_lt hyx) hxl⟩
      · have cy : (0 : Int) ≤ cmpV y x := by unfold cmpV; rw [if_neg hyx]; split <;> omega
        have hxe := hnend (by omega)
        obtain ⟨hi, _⟩ := isq_spec A
        refine W_if (by simp [go_sem, cy]; rfl) rfl ?_
        refine W_exit ?_
        repeat (first | refine thenG_exit ?_ | refine inBlock_other rfl ?_ | refine inBlock_same ?_)
        refine hK1 _ _ ?_; clear hK1 K1 hK2 K2 hnend hnge hge
        have hmul : (lim (val (lim x) * val (lim x))).length ≤ lenB := by
          rw [val_lim]; exact lim_mono (B := A) (by rw [hxe]; exact hi) (by unfold lenB; omega)
        first | refine W_rt (by kernel_rfl) (fun K hK => ?_) | refine W_text (by kernel_rfl) (fun K hK => ?_)
        simp [go_sem, g0, g4]
        refine hv_call (by simp [go_sem, g0, g4]) rfl Try.call76 (fun R hR => ?_)
        simp [go_sem, g0, g4]
        refine (mul_any _ _ _ _ _ _ _ hrx hrx (by unfold lenS; omega) (by unfold lenS; omega)).mono ?_
        rintro e w9 ⟨a9, c9, rfl, hr9, hE9⟩
        refine ⟨_, rfl, hR _ _ ?_⟩
        clear hR R
        replace hr1 := hr1.ext hE9
        replace hrx := hrx.ext hE9
        replace hE := hE.next hE9
        have hsu := sub_any (lim A) _ a1 a9 c1 c9 _ hr1 hr9 (by unfold lenB; omega) hmul
        rw [val_lim A, val_lim (val (lim x) * val (lim x)), val_lim x] at hsu
        rw [val_lim x]
        simp [go_sem, g0, g4]
        refine hv_call (by simp [go_sem, g0, g4]) rfl Try.call102 (fun R hR => ?_)
        simp [go_sem, g0, g4]
        refine hsu.mono ?_
        rintro e w10 (⟨hbad, _⟩ | ⟨_, a10, c10, rfl, hr10, hE10⟩)
        · rw [hxe] at hbad; omega
        refine ⟨_, rfl, hR _ _ ?_⟩
        clear hR R
        replace hrx := hrx.ext hE10
        simp [go_sem]
        refine hK _ _ ?_; clear hK K
        first | refine W_rt (by kernel_rfl) (fun K hK => ?_) | refine W_text (by kernel_rfl) (fun K hK => ?_)
        simp [go_sem, g4]
        refine hK _ _ ?_; clear hK K
        refine W_ret ?_
        repeat (first | refine thenG_ret ?_ | refine inBlock_ret ?_)
        refine ⟨trivial, ax, cx, a10, c10, ?_, by rw [← hxe]; exact hrx, by rw [← hxe]; exact hr10, hE.next hE10⟩
        rw [← hxe]
        simp [go_sem, pack, resL]
end Go.Proofs.Ytnclpllmidlbbaa
namespace Go.Proofs.Ytnclpllmidlbbaa
open Go.RowKit Go.V
set_option linter.unusedSimpArgs false
set_option linter.unusedVariables false
set_option maxRecDepth 20000

theorem RD.drop {w : World} {a : Option Addr} {c : Nat} {l : List Nat} (h : RD w a c l) {k : Nat} (hk : k < l.length) : RD w (a.map (·.add k)) (c - k) (l.drop k) := by
  refine ⟨?_, h.ok.drop k, by have := h.cap; rw [List.length_drop]; omega⟩
  have := h.sl.sub k l.length
  rw [List.take_of_length_le (by rw [List.length_drop, lmC_len]; omega), ← lmC_drop] at this
  exact this
theorem shift_left_val (A k s n : Nat) (hn : n = 16 * k + s) : val (List.replicate k 0 ++ lim (A * 2 ^ s)) = A * 2 ^ n := by
  rw [val_app, val_zeros, val_lim, List.length_replicate, Nat.zero_add, pow_16, hn, Nat.pow_add, Nat.mul_left_comm]

set_option maxHeartbeats 1000000 in
theorem shiftR_any (l : List Nat) (a : Option Addr) (c : Nat) (N : Int) (w : World) (hr : RD w a c l) (hl : l.length + 1 ≤ lenS) :
    Calls Try.prog 104 #[.slice a l.length c, .int .i64 N] w (RetN w (lim (shiftV (val l) N))) := by
  have hl' : l.length + 1 ≤ 100000000000 := hl
  obtain ⟨X, hX⟩ : ∃ X, X = shiftV (val l) N := ⟨_, rfl⟩
  rw [← hX]
  unfold shiftV at hX
  refine calls_of_W (args := [.slice a l.length c, .int .i64 N]) (rs := [.tmp 4]) (n := 51) Try.func104 rfl rfl rfl (by kernel_rfl) ?_
  first | refine W_rt (by kernel_rfl) (fun K hK => ?_) | refine W_text (by kernel_rfl) (fun K hK => ?_)
  simp [go_sem]
  refine hK _ _ ?_; clear hK K
  refine W_seq (fun K1 hK1 => ?_)
  by_cases h1 : N < -1048576 ∨ 1048576 < N
  · rw [if_pos h1] at hX
    have hX0 : lim X = [] := by rw [hX, lim_zero]
    by_cases h2 : 1048576 < N
    · first | refine W_rt (by kernel_rfl) (fun K hK => ?_) | refine W_text (by kernel_rfl) (fun K hK => ?_)
      simp [go_sem, h2]
      refine hK _ _ ?_; clear hK K
      refine W_if (by simp [go_sem, h2]; rfl) rfl ?_
      first | refine W_rt (by kernel_rfl) (fun K hK => ?_) | refine W_text (by kernel_rfl) (fun K hK => ?_)
      simp [go_sem]
      refine hK _ _ ?_; clear hK K
      refine W_ret ?_
      repeat (first | refine thenG_ret ?_ | refine inBlock_ret ?_)
      rw [hX0]
      exact ⟨trivial, none, 0, by simp [go_sem, pack, resL], RD.nil _ _ _, Below.refl _ _⟩
    · have h3 : N < -1048576 := by omega
      first | refine W_rt (by kernel_rfl) (fun K hK => ?_) | refine W_text (by kernel_rfl) (fun K hK => ?_)
      simp [go_sem, h2, h3]
      refine hK _ _ ?_; clear hK K
      refine W_if (by simp [go_sem, h2, h3]; rfl) rfl ?_
      first | refine W_rt (by kernel_rfl) (fun K hK => ?_) | refine W_text (by kernel_rfl) (fun K hK => ?_)
      simp [go_sem]
      refine hK _ _ ?_; clear hK K
      refine W_ret ?_
      repeat (first | refine thenG_ret ?_ | refine inBlock_ret ?_)
      rw [hX0]
      exact ⟨trivial, none, 0, by simp [go_sem, pack, resL], RD.nil _ _ _, Below.refl _ _⟩
  · rw [if_neg h1] at hX
    have h2 : ¬ 1048576 < N := by omega
    have h3 : ¬ N < -1048576 := by omega
    first | refine W_rt (by kernel_rfl) (fun K hK => ?_) | refine W_text (by kernel_rfl) (fun K hK => ?_)
    simp [go_sem, h2, h3]
    refine hK _ _ ?_; clear hK K
    refine W_if (by simp [go_sem, h2, h3]; rfl) rfl ?_
    refine W_skip ?_
    refine hK1 _ _ ?_; clear hK1 K1
    refine W_seq (fun K1 hK1 => ?_)
    by_cases h4 : N < 0
    · obtain ⟨n, rfl⟩ : ∃ n : Nat, N = -(n : Int) := ⟨(-N).toNat, by omega⟩
      have en : (- -(n : Int)).toNat = n := by omega
      rw [if_pos h4, en] at hX
      have h4' : ¬ (0 : Int) ≤ -(n : Int) := by omega
      have f0 : IntKind.i64.wrap (- -(n : Int)) = (n : Int) := by rw [IntWalk.i64_in _ (by omega)]; omega
      have f1 : (n : Int).tdiv 16 = ((n / 16 : Nat) : Int) := rfl
      have f1' : IntKind.i64.wrap ((n / 16 : Nat) : Int) = ((n / 16 : Nat) : Int) := IntWalk.i64_in _ (by omega)
      have f2 : (n : Int).tmod 16 = ((n % 16 : Nat) : Int) := rfl
      have hks : n = 16 * (n / 16) + n % 16 := by omega
      have hs16 : n % 16 < 16 := by omega
      have hk0 : n / 16 ≤ 65536 := by omega
      generalize n / 16 = k at *
      generalize n % 16 = s at *
      have hV : val l / 2 ^ n = val (l.drop k) / 2 ^ s := by
        rw [val_drop_div k l hr.ok, Nat.div_div_eq_div_mul, pow_16, ← Nat.pow_add, ← hks]
      rw [hV] at hX
      generalize hNN : -(n : Int) = NN at *
      first | refine W_rt (by kernel_rfl) (fun K hK => ?_) | refine W_text (by kernel_rfl) (fun K hK => ?_)
      simp [go_sem, h4']
      refine hK _ _ ?_; clear hK K
      refine W_if (by simp [go_sem, h4']; rfl) rfl ?_
      refine W_skip ?_
      refine hK1 _ _ ?_; clear hK1 K1
      refine W_seq (fun K1 hK1 => ?_)
      by_cases hkl : l.length ≤ k
      · have hkl' : (l.length : Int) ≤ k := by omega
        have hz : lim (val (l.drop k) / 2 ^ s) = [] := by
          rw [List.drop_eq_nil_of_le hkl]; simp [val, lim_zero]
        first | refine W_rt (by kernel_rfl) (fun K hK => ?_) | refine W_text (by kernel_rfl) (fun K hK => ?_)
        simp [go_sem, f0, f1, f1', hkl, hkl']
        refine hK _ _ ?_; clear hK K
        refine W_if (by simp [go_sem, hkl, hkl']; rfl) rfl ?_
        first | refine W_rt (by kernel_rfl) (fun K hK => ?_) | refine W_text (by kernel_rfl) (fun K hK => ?_)
        simp [go_sem]
        refine hK _ _ ?_; clear hK K
        refine W_ret ?_
        repeat (first | refine thenG_ret ?_ | refine inBlock_ret ?_)
        rw [hX, hz]
        exact ⟨trivial, none, 0, by simp [go_sem, pack, resL], RD.nil _ _ _, Below.refl _ _⟩
      · have hkl' : ¬ (l.length : Int) ≤ k := by omega
        first | refine W_rt (by kernel_rfl) (fun K hK => ?_) | refine W_text (by kernel_rfl) (fun K hK => ?_)
        simp [go_sem, f0, f1, f1', hkl, hkl']
        refine hK _ _ ?_; clear hK K
        refine W_if (by simp [go_sem, hkl, hkl']; rfl) rfl ?_
        refine W_skip ?_
        refine hK1 _ _ ?_; clear hK1 K1
        have hD : Below w.heap.size w w.drew := Below.drew1 _
        have hrd := (hr.ext hD).drop (k := k) (by omega)
        have hcap := hr.cap
        have q1 : (0 : Int) ≤ k := by omega
        have q2 : ¬ c = k := by omega
        have q3 : (l.length : Int) ≤ c := by omega
        have q4 : (k : Int) ≤ l.length := by omega
        have q5 : k ≤ l.length := by omega
        have q6 : (0 : Int) ≤ s := by omega
        obtain ⟨T, hT⟩ : ∃ T, T = l.drop k := ⟨_, rfl⟩
        have hTl : l.length - k = T.length := by rw [hT, List.length_drop]
        have hTb : T.length + 1 ≤ lenS := by rw [← hTl]; omega
        rw [← hT] at hrd hX
        have p15 : 2 ^ s ≤ 2 ^ 15 := Nat.pow_le_pow_right (by decide) (by omega)
        have p0 : 0 < 2 ^ s := Nat.pow_pos (by decide)
        have f3 : shlI .u64 1 (s : Int) = ((2 ^ s : Nat) : Int) := by
          have := shl_nat .u64 1 s (by show s ≤ 64; omega)
          rw [Nat.one_mul] at this
          rw [show ((1 : Nat) : Int) = 1 from rfl] at this
          rw [this]; exact w64_in _ (by omega)
        obtain ⟨D, hDD⟩ : ∃ D, D = 2 ^ s := ⟨_, rfl⟩
        rw [← hDD] at f3 p15 p0 hX
        have hDl : (lim D).length + 1 ≤ lenS := Nat.le_trans (Nat.succ_le_succ (lim_len 4 D (by omega))) (by decide)
        first | refine W_rd [(0, 0), (1, 0), (2, 0), (3, 0), (4, 0), (5, 0), (6, 0), (7, 0), (8, 0), (9, 1), (10, 1), (11, 0), (12, 0), (13, 0), (14, 0), (15, 0), (16, 0), (17, 0)] (by kernel_rfl) (by kernel_rfl) (fun K hK => ?_) | refine W_draw [(0, 0), (1, 0), (2, 0), (3, 0), (4, 0), (5, 0), (6, 0), (7, 0), (8, 0), (9, 1), (10, 1), (11, 0), (12, 0), (13, 0), (14, 0), (15, 0), (16, 0), (17, 0)] (by kernel_rfl) (by kernel_rfl) (fun K hK => ?_)
        simp [go_sem, f0, f1, f1', f2, f3, q1, q2, q3, q4, q5, q6, hTl]
        refine hv_call (by simp [go_sem, f0, f1, f1', f2, f3, q1, q2, q3, q4, q5, q6, hTl]) rfl Try.call56 (fun R hR => ?_)
        simp [go_sem, f0, f1, f1', f2, f3, q1, q2, q3, q4, q5, q6, hTl]
        refine (ofR_any D _ (by omega)).mono ?_
        rintro e w2 ⟨a2, c2, rfl, hr2, hE2⟩
        refine ⟨_, rfl, hE2, hR _ _ ?_⟩
        clear hR R
        have hdm := divmodR_any T (lim D) (a.map (·.add k)) a2 (c - k) c2 _ (hrd.ext hE2) hr2 hTb hDl
        rw [val_lim] at hdm
        simp [go_sem, f0, f1, f1', f2, f3, q1, q2, q3, q4, q5, q6, hTl]
        refine hv_call (by simp [go_sem]) rfl Try.call95 (fun R hR => ?_)
        simp [go_sem]
        refine hdm.mono ?_
        rintro e w4 (⟨hbad, _⟩ | ⟨_, a4, c4, a5, c5, rfl, hr4, hr5, hE4⟩)
        · omega
        refine ⟨_, rfl, ?_, hR _ _ ?_⟩
        · exact hE4
        clear hR R
        simp [go_sem]
        refine hK _ _ ?_; clear hK K
        first | refine W_rt (by kernel_rfl) (fun K hK => ?_) | refine W_text (by kernel_rfl) (fun K hK => ?_)
        simp [go_sem]
        refine hK _ _ ?_; clear hK K
        refine W_ret ?_
        repeat (first | refine thenG_ret ?_ | refine inBlock_ret ?_)
        rw [hX]
        refine ⟨trivial, a4, c4, ?_, hr4, (hD.next hE2).next hE4⟩
        simp [go_sem, pack, resL]
    · obtain ⟨n, rfl⟩ : ∃ n : Nat, N = (n : Int) := ⟨N.toNat, by omega⟩
      have en : ((n : Int)).toNat = n := by omega
      rw [if_neg h4, en] at hX
      have h4' : (0 : Int) ≤ (n : Int) := by omega
      have f1 : (n : Int).tdiv 16 = ((n / 16 : Nat) : Int) := rfl
      have f1' : IntKind.i64.wrap ((n / 16 : Nat) : Int) = ((n / 16 : Nat) : Int) := IntWalk.i64_in _ (by omega)
      have f2 : (n : Int).tmod 16 = ((n % 16 : Nat) : Int) := rfl
      have hks : n = 16 * (n / 16) + n % 16 := by omega
      have hs16 : n % 16 < 16 := by omega
      have hk0 : n / 16 ≤ 65536 := by omega
      generalize n / 16 = k at *
      generalize n % 16 = s at *
      have q6 : (0 : Int) ≤ s := by omega
      have p15 : 2 ^ s ≤ 2 ^ 15 := Nat.pow_le_pow_right (by decide) (by omega)
      have p0 : 0 < 2 ^ s := Nat.pow_pos (by decide)
      have f3 : shlI .u64 1 (s : Int) = ((2 ^ s : Nat) : Int) := by
        have := shl_nat .u64 1 s (by show s ≤ 64; omega)
        rw [Nat.one_mul] at this
        rw [show ((1 : Nat) : Int) = 1 from rfl] at this
        rw [this]; exact w64_in _ (by omega)
      have hsv := shift_left_val (val l) k s n hks
      obtain ⟨D, hDD⟩ : ∃ D, D = 2 ^ s := ⟨_, rfl⟩
      rw [← hDD] at f3 p15 p0 hsv
      have hDl : (lim D).length ≤ lenS := Nat.le_trans (lim_len 4 D (by omega)) (by decide)
      have hprod : (lim (val l * D)).length ≤ l.length + 1 := by
        refine lim_len _ _ ?_
        rw [Nat.pow_succ]
        exact Nat.mul_lt_mul'' (val_lt l hr.ok) (by omega)
      first | refine W_rt (by kernel_rfl) (fun K hK => ?_) | refine W_text (by kernel_rfl) (fun K hK => ?_)
      simp [go_sem, h4']
      refine hK _ _ ?_; clear hK K
      refine W_if (by simp [go_sem, h4']; rfl) rfl ?_
      first | refine W_rt (by kernel_rfl) (fun K hK => ?_) | refine W_text (by kernel_rfl) (fun K hK => ?_)
      simp [go_sem, f1, f1']
      refine hv_make (kl := .i64) (kc := .i64) k k (by simp [go_sem, f1, f1']) rfl ty_slZ22 ty_bytes50 (by simp [go_sem, f1, f1']) (by simp [go_sem, f1, f1']) (by omega) (by omega) (by omega) (fun w2 b2 hE2 hle2 hB2 => ?_)
      rw [Nat.mul_one, madeCells_one, lm_zeros] at hB2
      replace hr := hr.ext hE2
      have hown2 : w2.ownsRow w.heap.size 50 1 (.slice (some ⟨b2, 0, none⟩) k k) k (lmC (List.replicate k 0)) := own_of_bx (xs := lmC (List.replicate k 0)) hB2 hle2 (by simp [lmC_len]) (by unfold maxLen; omega)
      simp [go_sem]
      refine hK _ _ ?_; clear hK K
      first | refine W_rt (by kernel_rfl) (fun K hK => ?_) | refine W_text (by kernel_rfl) (fun K hK => ?_)
      simp [go_sem, f2, f3, q6]
      refine hv_call (by simp [go_sem, f2, f3, q6]) rfl Try.call56 (fun R hR => ?_)
      simp [go_sem, f2, f3, q6]
      refine (ofR_any D _ (by omega)).mono ?_
      rintro e w3 ⟨a3, c3, rfl, hr3, hE3⟩
      refine ⟨_, rfl, hR _ _ ?_⟩
      clear hR R
      replace hr := hr.ext hE3
      simp [go_sem]
      refine hv_call (by simp [go_sem]) rfl Try.call78 (fun R hR => ?_)
      simp [go_sem]
      refine (mulR_any l (lim D) a a3 c c3 _ hr hr3 (by omega) hDl).mono ?_
      rintro e w4 ⟨a4, c4, rfl, hr4, hE4⟩
      refine ⟨_, rfl, hR _ _ ?_⟩
      clear hR R
      rw [val_lim] at hr4
      rw [val_lim]
      have hown4 := own_keep (own_keep hown2 hE3) hE4
      have hE := (hE2.next hE3).next hE4
      simp [go_sem]
      refine hv_appendL (a := a4) (c := c4) (len := (lim (val l * D)).length) (lmC (lim (val l * D))) (by simp [go_sem]) rfl ty_slZ22 ty_bytes50 rfl (by simp [go_sem]) (by simp [go_sem]) hown4 (lmC_len _) hr4.sl (lmC_one _) (by unfold maxLen; omega) (by omega) hE.size (by decide) (fun v5 w5 hown5 hg5 => ?_)
      rw [← lmC_app] at hown5
      replace hE := hE.nextG hg5 (fun k e => (hown4.lt k e).1)
      have hok5 : Ok (List.replicate k 0 ++ lim (val l * D)) := (Ok.zeros k).app (lim_ok _)
      obtain ⟨a5, c5, rfl, hr5⟩ := RD.of_own hown5 hok5
      have hl5 : (List.replicate k 0 ++ lim (val l * D)).length ≤ lenB := by
        rw [List.length_append, List.length_replicate]; unfold lenB; omega
      have hno := normR_any _ a5 c5 _ hr5 hl5
      rw [← lim_val _ hok5, hsv, ← hX] at hno
      generalize (List.replicate k 0 ++ lim (val l * D)).length = len5 at *
      simp [go_sem]
      refine hv_call (by simp [go_sem]) rfl Try.call94 (fun R hR => ?_)
      simp [go_sem]
      refine (hno).mono ?_
      rintro e w6 ⟨a6, c6, rfl, hr6, hE6⟩
      refine ⟨_, rfl, hR _ _ ?_⟩
      clear hR R
      simp [go_sem]
      refine hK _ _ ?_; clear hK K
      refine W_ret ?_
      repeat (first | refine thenG_ret ?_ | refine inBlock_ret ?_)
      refine ⟨trivial, a6, c6, ?_, hr6, hE.next hE6⟩
      simp [go_sem, pack, resL]
end Go.Proofs.Ytnclpllmidlbbaa
namespace Go.Proofs.Ytnclpllmidlbbaa
open Go.RowKit Go.V
set_option linter.unusedSimpArgs false
set_option linter.unusedVariables false
set_option maxRecDepth 20000

theorem shiftV_one (j : Nat) (hj : j ≤ 1048576) : shiftV 1 (j : Int) = 2 ^ j := by
  unfold shiftV
  rw [if_neg (by omega), if_neg (by omega), Int.toNat_natCast, Nat.one_mul]
theorem sq_self_le {r A : Nat} (h : r * r ≤ A) : r ≤ A := by
  rcases r with _ | r
  · omega
  · exact Nat.le_trans (Nat.le_mul_of_pos_left _ (by omega)) h
theorem sqrt_first (A t : Nat) (ht : t = (blen A - 1) / 2 + 1) : A < (0 + 2 ^ t) * (0 + 2 ^ t) := by
  rw [Nat.zero_add, ← Nat.pow_add]
  exact Nat.lt_of_lt_of_le (lt_blen A) (Nat.pow_le_pow_right (by decide) (by omega))
theorem lim_mul_len {x y k m : Nat} (hx : (lim x).length ≤ k) (hy : (lim y).length ≤ m) : (lim (x * y)).length ≤ k + m := by
  refine lim_len _ _ ?_
  have h1 := val_lt _ (lim_ok x)
  have h2 := val_lt _ (lim_ok y)
  rw [val_lim] at h1 h2
  have h3 : 65536 ^ (lim x).length ≤ 65536 ^ k := Nat.pow_le_pow_right (by decide) hx
  have h4 : 65536 ^ (lim y).length ≤ 65536 ^ m := Nat.pow_le_pow_right (by decide) hy
  rw [Nat.pow_add]
  exact Nat.mul_lt_mul'' (by omega) (by omega)
theorem sq_expand (r p : Nat) : r + 2 * p = r + p + p := by omega

set_option maxHeartbeats 2000000 in
theorem sqrtR_any (l : List Nat) (a : Option Addr) (c : Nat) (w : World) (hr : RD w a c l) (hl : l.length ≤ 100000) :
    Calls Try.prog 61 #[.slice a l.length c] w (SqPost w (val l)) := by
  have hbb := blen_bound l hr.ok
  have hAl : (lim (val l)).length ≤ 100000 := by rw [lim_val l hr.ok]; exact Nat.le_trans (nrm_len l) hl
  have hfirst := sqrt_first (val l)
  obtain ⟨A, hA⟩ : ∃ A, A = val l := ⟨_, rfl⟩
  rw [← hA] at hAl hfirst hbb ⊢
  obtain ⟨T0, hT0⟩ : ∃ T0, T0 = (blen A - 1) / 2 + 1 := ⟨_, rfl⟩
  replace hfirst := hfirst T0 hT0
  have hbi := bitsR_any l a c w hr (by unfold lenB; omega)
  rw [← hA] at hbi
  have f1 : IntKind.i64.wrap ((blen A : Int) - 1) = (blen A : Int) - 1 := IntWalk.i64_in _ (by omega)
  have f2 : IntKind.i64.wrap (((blen A : Int) - 1).tdiv 2) = (T0 : Int) - 1 := by
    rcases hb : blen A with _ | b
    · rw [hb] at hT0; subst hT0; decide
    · have e : ((b + 1 : Nat) : Int) - 1 = (b : Int) := by omega
      have e2 : (b : Int).tdiv 2 = ((b / 2 : Nat) : Int) := rfl
      rw [e, e2, IntWalk.i64_in _ (by omega)]; omega
  refine calls_of_W (args := [.slice a l.length c]) (rs := [.tmp 2, .tmp 3]) (n := 39) Try.func61 rfl rfl rfl (by kernel_rfl) ?_
  first | refine W_rt (by kernel_rfl) (fun K hK => ?_) | refine W_text (by kernel_rfl) (fun K hK => ?_)
  simp [go_sem]
  refine hK _ _ ?_; clear hK K
  first | refine W_rt (by kernel_rfl) (fun K hK => ?_) | refine W_text (by kernel_rfl) (fun K hK => ?_)
  simp [go_sem]
  refine hK _ _ ?_; clear hK K
  refine W_seq (fun K1 hK1 => ?_)
  first | refine W_rt (by kernel_rfl) (fun K hK => ?_) | refine W_text (by kernel_rfl) (fun K hK => ?_)
  simp [go_sem]
  refine hv_call (by simp [go_sem]) rfl Try.call103 (fun R hR => ?_)
  simp [go_sem]
  refine (hbi).mono ?_
  rintro e w1 ⟨rfl, hE1⟩
  refine ⟨_, rfl, hR _ _ ?_⟩
  clear hR R
  replace hr := hr.ext hE1
  have hE := hE1
  simp [go_sem, f1, f2]
  refine hK _ _ ?_; clear hK K
  have hTb : T0 ≤ 800001 := by omega
  clear hE1 hbi f1 f2 hT0 hbb
  refine W_block ?_
  refine W_loop (fun t g w' => Below w.heap.size w w' ∧ RD w' a c l ∧ ∃ root ar cr, t ≤ T0 ∧ g 0 = .slice a l.length c ∧ g 4 = .slice ar (lim root).length cr ∧ RD w' ar cr (lim root) ∧ g 5 = .int .i64 ((t : Int) - 1) ∧ root * root ≤ A ∧ A < (root + 2 ^ t) * (root + 2 ^ t)) T0 ?_ ?_
  · refine ⟨hE, hr, 0, none, 0, by omega, by simp [go_sem], ?_, ?_, by simp [go_sem], by omega, hfirst⟩
    · rw [lim_zero]; simp [go_sem]
    · rw [lim_zero]; exact RD.nil _ _ _
  · clear hE hr hfirst
    rintro t g w' ⟨hE, hr, root, ar, cr, htT, g0, g4, hrr, g5, h1, h2⟩
    have hrl : (lim root).length ≤ 100000 := lim_mono (sq_self_le h1) hAl
    refine W_seq (fun K2 hK2 => ?_)
    rcases t with _ | j
    · have hroot : root = isq A := isq_uniq h1 (by simpa using h2)
      first | refine W_rt (by kernel_rfl) (fun K hK => ?_) | refine W_text (by kernel_rfl) (fun K hK => ?_)
      simp [go_sem, g5]
      refine hK _ _ ?_; clear hK K
      refine W_if (by simp [go_sem]; rfl) rfl ?_
      refine W_exit ?_
      repeat (first | refine thenG_exit ?_ | refine inBlock_other rfl ?_ | refine inBlock_same ?_)
      refine hK1 _ _ ?_; clear hK1 K1 hK2 K2
      have hmul : (lim (root * root)).length ≤ lenB := lim_mono h1 (by unfold lenB; omega)
      first | refine W_rt (by kernel_rfl) (fun K hK => ?_) | refine W_text (by kernel_rfl) (fun K hK => ?_)
      simp [go_sem, g0, g4]
      refine hv_call (by simp [go_sem, g0, g4]) rfl Try.call78 (fun R hR => ?_)
      simp [go_sem, g0, g4]
      refine (mulR_any _ _ _ _ _ _ _ hrr hrr (by unfold lenS; omega) (by unfold lenS; omega)).mono ?_
      rintro e w2 ⟨a2, c2, rfl, hr2, hE2⟩
      refine ⟨_, rfl, hR _ _ ?_⟩
      clear hR R
      rw [val_lim] at hr2
      rw [val_lim]
      replace hr := hr.ext hE2
      replace hrr := hrr.ext hE2
      replace hE := hE.next hE2
      have hsu := subR_any l _ a a2 c c2 _ hr hr2 (by unfold lenB; omega) hmul
      rw [← hA, val_lim] at hsu
      simp [go_sem, g0, g4]
      refine hv_call (by simp [go_sem, g0, g4]) rfl Try.call106 (fun R hR => ?_)
      simp [go_sem, g0, g4]
      refine hsu.mono ?_
      rintro e w10 (⟨hbad, _⟩ | ⟨_, a10, c10, rfl, hr10, hE10⟩)
      · omega
      refine ⟨_, rfl, hR _ _ ?_⟩
      clear hR R
      replace hrr := hrr.ext hE10
      simp [go_sem]
      refine hK _ _ ?_; clear hK K
      first | refine W_rt (by kernel_rfl) (fun K hK => ?_) | refine W_text (by kernel_rfl) (fun K hK => ?_)
      simp [go_sem, g4]
      refine hK _ _ ?_; clear hK K
      refine W_ret ?_
      repeat (first | refine thenG_ret ?_ | refine inBlock_ret ?_)
      refine ⟨trivial, ar, cr, a10, c10, ?_, by rw [← hroot]; exact hrr, by rw [← hroot]; exact hr10, hE.next hE10⟩
      rw [← hroot]
      simp [go_sem, pack, resL]
    · have ej : ((j + 1 : Nat) : Int) - 1 = (j : Int) := by omega
      rw [ej] at g5
      have p0 : (0 : Int) ≤ j := by omega
      have hpl : (lim (2 ^ j)).length ≤ 100001 := lim_len2 _ _ (by omega)
      have hpow : (2 : Nat) ^ (j + 1) = 2 * 2 ^ j := by rw [Nat.pow_succ, Nat.mul_comm]
      rw [hpow, sq_expand] at h2
      have hsv := shiftV_one j (by omega)
      obtain ⟨p, hp⟩ : ∃ p, p = 2 ^ j := ⟨_, rfl⟩
      rw [← hp] at hpl h2 hsv
      have hnl : (lim (root + p)).length ≤ 100002 := lim_add_len (by omega) hpl
      have hml : (lim ((root + p) * (root + p))).length ≤ 100002 + 100002 := lim_mul_len hnl hnl
      first | refine W_rt (by kernel_rfl) (fun K hK => ?_) | refine W_text (by kernel_rfl) (fun K hK => ?_)
      simp [go_sem, g5, p0]
      refine hK _ _ ?_; clear hK K
      refine W_if (by simp [go_sem, p0]; rfl) rfl ?_
      refine W_skip ?_
      refine hK2 _ _ ?_; clear hK2 K2
      refine W_seq (fun K2 hK2 => ?_)
      refine W_block ?_
      first | refine W_rt (by kernel_rfl) (fun K hK => ?_) | refine W_text (by kernel_rfl) (fun K hK => ?_)
      simp [go_sem, g4, g5]
      refine hv_call (by simp [go_sem, g4, g5]) rfl Try.call56 (fun R hR => ?_)
      simp [go_sem, g4, g5]
      refine (ofR_any 1 _ (by decide)).mono ?_
      rintro e w2 ⟨a2, c2, rfl, hr2, hE2⟩
      refine ⟨_, rfl, hR _ _ ?_⟩
      clear hR R
      have hsh := shiftR_any (lim 1) a2 c2 (j : Int) _ hr2 (Nat.le_trans (Nat.succ_le_succ (lim_len 4 1 (by decide))) (by decide))
      rw [val_lim, hsv] at hsh
      simp [go_sem, g4, g5]
      refine hv_call (by simp [go_sem, g4, g5]) rfl Try.call104 (fun R hR => ?_)
      simp [go_sem, g4, g5]
      refine (hsh).mono ?_
      rintro e w3 ⟨a3, c3, rfl, hr3, hE3⟩
      refine ⟨_, rfl, hR _ _ ?_⟩
      clear hR R
      have hE23 := hE2.next hE3
      replace hr := hr.ext hE23
      replace hrr := hrr.ext hE23
      replace hE := hE.next hE23
      have had := addR_any (lim root) (lim p) ar a3 cr c3 _ hrr hr3 (by unfold lenS; omega) (by unfold lenS; omega)
      rw [val_lim, val_lim] at had
      simp [go_sem, g4, g5]
      refine hv_call (by simp [go_sem, g4, g5]) rfl Try.call98 (fun R hR => ?_)
      simp [go_sem, g4, g5]
      refine (had).mono ?_
      rintro e w4 ⟨a4, c4, rfl, hr4, hE4⟩
      refine ⟨_, rfl, hR _ _ ?_⟩
      clear hR R
      replace hr := hr.ext hE4
      replace hrr := hrr.ext hE4
      replace hE := hE.next hE4
      simp [go_sem]
      refine hK _ _ ?_; clear hK K
      have hmu := mulR_any (lim (root + p)) (lim (root + p)) a4 a4 c4 c4 _ hr4 hr4 (by unfold lenS; omega) (by unfold lenS; omega)
      rw [val_lim] at hmu
      first | refine W_rt (by kernel_rfl) (fun K hK => ?_) | refine W_text (by kernel_rfl) (fun K hK => ?_)
      simp [go_sem, g0]
      refine hv_call (by simp [go_sem, g0]) rfl Try.call78 (fun R hR => ?_)
      simp [go_sem, g0]
      refine (hmu).mono ?_
      rintro e w5 ⟨a5, c5, rfl, hr5, hE5⟩
      refine ⟨_, rfl, hR _ _ ?_⟩
      clear hR R
      replace hr := hr.ext hE5
      replace hrr := hrr.ext hE5
      replace hr4 := hr4.ext hE5
      replace hE := hE.next hE5
      have hcm := cmpR_any _ l a5 a c5 c _ hr5 hr (by unfold lenB; omega) (by unfold lenB; omega)
      rw [val_lim, ← hA] at hcm
      simp [go_sem, g0]
      refine hv_call (by simp [go_sem, g0]) rfl Try.call105 (fun R hR => ?_)
      simp [go_sem, g0]
      refine (hcm).mono ?_
      rintro e w6 ⟨rfl, rfl⟩
      refine ⟨_, rfl, hR _ _ ?_⟩
      clear hR R
      simp [go_sem]
      refine hK _ _ ?_; clear hK K
      have f5 : IntKind.i64.wrap ((j : Int) - 1) = (j : Int) - 1 := IntWalk.i64_in _ (by omega)
      by_cases hle : (root + p) * (root + p) ≤ A
      · have hc := cmpV_le hle
        refine W_if (by simp [go_sem, hc]; rfl) rfl ?_
        first | refine W_rt (by kernel_rfl) (fun K hK => ?_) | refine W_text (by kernel_rfl) (fun K hK => ?_)
        simp [go_sem]
        refine hK _ _ ?_; clear hK K
        refine hK2 _ _ ?_; clear hK2 K2
        first | refine W_rt (by kernel_rfl) (fun K hK => ?_) | refine W_text (by kernel_rfl) (fun K hK => ?_)
        simp [go_sem, g5, f5]
        exact hK _ _ ⟨j, by omega, hE, hr, root + p, a4, c4, by omega, by simp [go_sem, g0], by simp [go_sem], hr4, by simp [go_sem], hle, by rw [← hp]; exact h2⟩
      · have hc := cmpV_nle hle
        refine W_if (by simp [go_sem, hc]; rfl) rfl ?_
        refine W_skip ?_
        refine hK2 _ _ ?_; clear hK2 K2
        first | refine W_rt (by kernel_rfl) (fun K hK => ?_) | refine W_text (by kernel_rfl) (fun K hK => ?_)
        simp [go_sem, g5, f5]
        exact hK _ _ ⟨j, by omega, hE, hr, root, ar, cr, by omega, by simp [go_sem, g0], by simp [go_sem, g4], hrr, by simp [go_sem], h1, by rw [← hp]; omega⟩
end Go.Proofs.Ytnclpllmidlbbaa
namespace Go.Proofs.Ytnclpllmidlbbaa
open Go.RowKit Go.V
set_option linter.unusedSimpArgs false
set_option linter.unusedVariables false
set_option maxRecDepth 20000

def isD (c : UInt8) : Bool := decide (48 ≤ c.toNat) && decide (c.toNat ≤ 57)
/-- the number that digits say -/
def dv (l : List UInt8) : Nat := l.foldl (fun n c => n * 10 + (c.toNat - 48)) 0
def rdBad (l : List UInt8) : Bool := (decide (1 < l.length) && decide (l.getD 0 0 = 48)) || l.any (fun c => !isD c)
/-- what Read answers: the error, the limbs -/
def rdE (l : List UInt8) : Int := if l = [] then 10 else if 1000 < l.length then 4 else if rdBad l = true then 9 else 0
def rdL (l : List UInt8) : List Nat := if rdE l = 0 then lim (dv l) else []
def ReadPost (w : World) (l : List UInt8) (e : Ending) (w' : World) : Prop := ∃ a c, e = .returned (.tuple #[.slice a (rdL l).length c, .int .i64 (rdE l)]) ∧ RD w' a c (rdL l) ∧ Below w.heap.size w w'
theorem readErr {w w' : World} {l : List UInt8} {e : Ending} {n : Int} (hn : rdE l = n) (h0 : n ≠ 0) (he : e = .returned (.tuple #[.slice none 0 0, .int .i64 n])) (hE : Below w.heap.size w w') : ReadPost w l e w' := by
  have hL : rdL l = [] := by unfold rdL; rw [if_neg (by rw [hn]; exact h0)]
  refine ⟨none, 0, ?_, by rw [hL]; exact RD.nil _ _ _, hE⟩
  rw [hL, hn, he]; rfl
def ch (l : List UInt8) (k : Nat) : UInt8 := l.getD k 0
theorem dv_take (l : List UInt8) (i : Nat) (h : i < l.length) : dv (l.take (i + 1)) = dv (l.take i) * 10 + ((l.getD i 0).toNat - 48) := by
  unfold dv
  rw [List.take_succ_eq_append_getElem h, List.foldl_append]
  simp [List.getD_eq_getElem?_getD, List.getElem?_eq_getElem h]
theorem dv_lt (l : List UInt8) : ∀ i, i ≤ l.length → (∀ k, k < i → isD (l.getD k 0) = true) → dv (l.take i) < 10 ^ i
  | 0, _, _ => by simp [dv]
  | i + 1, h, hd => by
    have ih := dv_lt l i (by omega) (fun k hk => hd k (by omega))
    have hi := hd i (by omega)
    unfold isD at hi
    simp only [Bool.and_eq_true, decide_eq_true_eq] at hi
    rw [dv_take l i (by omega), Nat.pow_succ]
    omega
theorem dv_len (l : List UInt8) (i : Nat) (h : i ≤ l.length) (hd : ∀ k, k < i → isD (l.getD k 0) = true) : (lim (dv (l.take i))).length ≤ i := by
  refine lim_len _ _ (Nat.lt_of_lt_of_le (dv_lt l i h hd) (Nat.pow_le_pow_left (by decide) i))
theorem bad_at {l : List UInt8} {i : Nat} (h : i < l.length) (hb : isD (l.getD i 0) = false) : rdBad l = true := by
  unfold rdBad
  have : l.any (fun c => !isD c) = true := by
    rw [List.any_eq_true]
    refine ⟨l.getD i 0, ?_, by rw [hb]; rfl⟩
    rw [List.getD_eq_getElem?_getD, List.getElem?_eq_getElem h, Option.getD_some]
    exact List.getElem_mem h
  rw [this, Bool.or_true]
theorem bad_none {l : List UInt8} (h0 : ¬ (1 < l.length ∧ l.getD 0 0 = 48)) (hd : ∀ k, k < l.length → isD (l.getD k 0) = true) : rdBad l = false := by
  unfold rdBad
  have h1 : l.any (fun c => !isD c) = false := by
    rw [List.any_eq_false]
    intro c hc
    obtain ⟨k, hk, rfl⟩ := List.mem_iff_getElem.1 hc
    have := hd k hk
    rw [List.getD_eq_getElem?_getD, List.getElem?_eq_getElem hk, Option.getD_some] at this
    simp [this]
  rw [h1, Bool.or_false, Bool.and_eq_false_iff]
  by_cases h : 1 < l.length
  · right; exact decide_eq_false (fun h' => h0 ⟨h, h'⟩)
  · left; exact decide_eq_false h
theorem own_block2 {w : World} {base n : Nat} {e : TypeId} {v : Value} {xs : List Value} (h : w.ownsRow base e 1 v n xs) (hn : 0 < n) : ∃ g cap Z, v = .slice (some ⟨g, 0, none⟩) n cap ∧ base ≤ g ∧ Bx w g (xs ++ Z).toArray e ∧ cap ≤ maxLen ∧ n + Z.length = cap := by
  have hl := h.1
  rcases h.2 with ⟨_, h2⟩ | ⟨g, cap, cur, hv, hb, hg, hle, hm, hsz, ht⟩
  · omega
  · rw [Nat.mul_one] at ht hsz
    refine ⟨g, cap, cur.toList.drop n, hv, hb, ⟨?_⟩, hm, ?_⟩
    · rw [hg, ← ht, List.take_append_drop]
    · rw [List.length_drop]; simp [hsz]; omega
theorem own_of_blk {w : World} {base n g cap : Nat} {e : TypeId} {xs Z : List Value} (hB : Bx w g (xs ++ Z).toArray e) (hl : xs.length = n) (hc : n + Z.length = cap) (hm : cap ≤ maxLen) (hb : base ≤ g) : w.ownsRow base e 1 (.slice (some ⟨g, 0, none⟩) n cap) n xs := by
  refine ⟨by rw [Nat.mul_one]; exact hl, .inr ⟨g, cap, _, rfl, hb, hB.heap, by omega, hm, by simp; omega, ?_⟩⟩
  rw [Nat.mul_one, ← hl]
  simp
theorem read_step (ws O : List Nat) (k dg cy s : Nat) (hw : ws.length = k) (h : val ws + 65536 ^ k * cy = 10 * val (O.take k) + dg) (hs : s = cy + 10 * lat O k) : val (ws ++ [s % 65536]) + 65536 ^ (k + 1) * (s / 65536) = 10 * val (O.take (k + 1)) + dg := by
  rw [val_app, val_take' O k, hw, Nat.pow_succ]
  simp only [val, Nat.mul_zero, Nat.add_zero]
  generalize 65536 ^ k = P at *
  have e1 : P * (s % 65536) + P * 65536 * (s / 65536) = P * s := by rw [Nat.mul_assoc, ← Nat.mul_add, Nat.mod_add_div]
  have e2 : P * s = P * cy + P * (10 * lat O k) := by rw [hs, Nat.mul_add]
  have e3 : 10 * (val (O.take k) + P * lat O k) = 10 * val (O.take k) + P * (10 * lat O k) := by rw [Nat.mul_add, Nat.mul_left_comm]
  omega
theorem read_end (ws : List Nat) (N N' cy : Nat) (hok : Ok ws) (hw : ws.length = (lim N).length) (hcy : cy < 65536) (h : val ws + 65536 ^ (lim N).length * cy = N') (hN : N ≤ N') : lim N' = if cy = 0 then ws else ws ++ [cy] := by
  split
  · rename_i h0
    subst h0
    rw [Nat.mul_zero, Nat.add_zero] at h
    rw [← h, lim_val ws hok]
    rcases hl : (lim N).length with _ | k
    · have : ws = [] := List.length_eq_zero_iff.1 (by omega)
      subst this; rfl
    · refine nrm_full ws hok k (by omega) ?_
      have := val_len (lim N) (lim_ok N) k (by rw [nrm_lim]; exact hl)
      rw [val_lim] at this
      omega
  · rename_i h0
    have e : val (ws ++ [cy]) = N' := by rw [val_app, hw, ← h]; simp [val]
    rw [← e, lim_val _ (hok.app (Ok.cons hcy Ok.nil)), nrm_snoc _ _ h0]
theorem set_drop (ws O : List Nat) (k x : Nat) (hw : ws.length = k) (hk : k < O.length) : (ws ++ O.drop k).set k x = (ws ++ [x]) ++ O.drop (k + 1) := by
  have := set_win [] ws O [] k x hw hk
  simpa using this
theorem lat_drop2 (ws O : List Nat) (k : Nat) (hw : ws.length = k) (hk : k < O.length) : lat (ws ++ O.drop k) k = lat O k := by
  have := lat_win [] ws O [] k hw hk
  simpa using this

set_option maxHeartbeats 1000000 in
theorem read_any (s : ByteArray) (w : World) : Calls Try.prog 81 #[.string s] w (ReadPost w (bs s)) := by
  have hsz := bs_len s
  have hbe : bs ⟨#[]⟩ = [] := rfl
  obtain ⟨l, hl⟩ : ∃ l, l = bs s := ⟨_, rfl⟩
  rw [← hl] at hsz ⊢
  have hba : ∀ k, byteAt s k = ch l k := fun k => by rw [hl]; rfl
  refine calls_of_W (args := [.string s]) (rs := [.tmp 2, .tmp 3]) (n := 74) Try.func81 rfl rfl rfl (by kernel_rfl) ?_
  first | refine W_rt (by kernel_rfl) (fun K hK => ?_) | refine W_text (by kernel_rfl) (fun K hK => ?_)
  simp [go_sem]
  refine hK _ _ ?_; clear hK K
  refine W_seq (fun K1 hK1 => ?_)
  refine W_block ?_
  by_cases h0 : l = []
  · first | refine W_rt (by kernel_rfl) (fun K hK => ?_) | refine W_text (by kernel_rfl) (fun K hK => ?_)
    simp [go_sem, ← hl, hbe, h0]
    refine hK _ _ ?_; clear hK K
    refine W_if (by simp [go_sem, h0]; rfl) rfl ?_
    first | refine W_rt (by kernel_rfl) (fun K hK => ?_) | refine W_text (by kernel_rfl) (fun K hK => ?_)
    simp [go_sem]
    refine hK _ _ ?_; clear hK K
    refine W_ret ?_
    repeat (first | refine thenG_ret ?_ | refine inBlock_ret ?_)
    refine ⟨trivial, readErr (n := 10) (by unfold rdE; rw [if_pos h0]) (by decide) ?_ (Below.refl _ _)⟩
    simp [go_sem, pack, resL]
  · first | refine W_rt (by kernel_rfl) (fun K hK => ?_) | refine W_text (by kernel_rfl) (fun K hK => ?_)
    simp [go_sem, ← hl, hbe, h0]
    refine hK _ _ ?_; clear hK K
    refine W_if (by simp [go_sem, h0]; rfl) rfl ?_
    by_cases h1 : 1000 < l.length
    · have h1' : (1000 : Int) < l.length := by omega
      first | refine W_rt (by kernel_rfl) (fun K hK => ?_) | refine W_text (by kernel_rfl) (fun K hK => ?_)
      simp [go_sem, ← hsz, h1, h1']
      refine hK _ _ ?_; clear hK K
      refine W_if (by simp [go_sem, h1, h1']; rfl) rfl ?_
      first | refine W_rt (by kernel_rfl) (fun K hK => ?_) | refine W_text (by kernel_rfl) (fun K hK => ?_)
      simp [go_sem]
      refine hK _ _ ?_; clear hK K
      refine W_ret ?_
      repeat (first | refine thenG_ret ?_ | refine inBlock_ret ?_)
      refine ⟨trivial, readErr (n := 4) (by unfold rdE; rw [if_neg h0, if_pos h1]) (by decide) ?_ (Below.refl _ _)⟩
      simp [go_sem, pack, resL]
    · have h1' : ¬ (1000 : Int) < l.length := by omega
      have hE9 : rdBad l = true → rdE l = 9 := fun hb => by unfold rdE; rw [if_neg h0, if_neg h1, if_pos hb]
      first | refine W_rt (by kernel_rfl) (fun K hK => ?_) | refine W_text (by kernel_rfl) (fun K hK => ?_)
      simp [go_sem, ← hsz, h1, h1']
      refine hK _ _ ?_; clear hK K
      refine W_if (by simp [go_sem, h1, h1']; rfl) rfl ?_
      have main : ¬ (1 < l.length ∧ ch l 0 = 48) → ∀ g : G, g 0 = .string s → K1 g w := by
        intro hz g g0
        refine hK1 _ _ ?_; clear hK1 K1
        first | refine W_rt (by kernel_rfl) (fun K hK => ?_) | refine W_text (by kernel_rfl) (fun K hK => ?_)
        simp [go_sem]
        refine hK _ _ ?_; clear hK K
        refine W_seq (fun K1 hK1 => ?_)
        first | refine W_rt (by kernel_rfl) (fun K hK => ?_) | refine W_text (by kernel_rfl) (fun K hK => ?_)
        simp [go_sem, g0, ← hsz]
        refine hK _ _ ?_; clear hK K
        refine W_block ?_
        refine W_loop (fun t g w' => Below w.heap.size w w' ∧ ∃ (i : Nat) (a : Option Addr) (c : Nat), i ≤ l.length ∧ t = l.length - i ∧ g 0 = .string s ∧ g 25 = .int .i64 l.length ∧ g 26 = .int .i64 i ∧ g 4 = .slice a (lim (dv (l.take i))).length c ∧
          w'.ownsRow w.heap.size 50 1 (.slice a (lim (dv (l.take i))).length c) (lim (dv (l.take i))).length (lmC (lim (dv (l.take i)))) ∧ (∀ k, k < i → isD (ch l k) = true)) l.length ?_ ?_
        · have e : lim (dv (l.take 0)) = [] := by simp [dv, lim_zero]
          refine ⟨Below.refl _ _, 0, none, 0, by omega, rfl, by simp [go_sem, g0], by simp [go_sem], by simp [go_sem], ?_, ?_, fun k hk => by omega⟩
          · rw [e]; simp [go_sem]
          · rw [e]; exact World.ownsRow_nil _ _ _ _
        · clear g0
          clear g
          rintro t g w' ⟨hE, i, a, c, hi, rfl, g0, g25, g26, g4, hown, hdig⟩
          have hNl := dv_len l i hi hdig
          obtain ⟨N, hN⟩ : ∃ N, N = dv (l.take i) := ⟨_, rfl⟩
          rw [← hN] at g4 hown hNl
          obtain ⟨n, hn⟩ : ∃ n, n = (lim N).length := ⟨_, rfl⟩
          rw [← hn] at g4 hown hNl
          first | refine W_rt (by kernel_rfl) (fun K hK => ?_) | refine W_text (by kernel_rfl) (fun K hK => ?_)
          simp [go_sem, g25, g26]
          refine hK _ _ ?_; clear hK K
          refine W_seq (fun K2 hK2 => ?_)
          by_cases hlt : i < l.length
          · have hlt' : (i : Int) < l.length := by omega
            have hdvt := dv_take l i hlt
            rw [← hN] at hdvt
            have hbi := hba i
            have hbad := bad_at hlt
            have hdgn : isD (ch l i) = true ↔ 48 ≤ (ch l i).toNat ∧ (ch l i).toNat ≤ 57 := by unfold isD; simp
            have hdvt' : dv (l.take (i + 1)) = N * 10 + ((ch l i).toNat - 48) := hdvt
            have hbad' : isD (ch l i) = false → rdBad l = true := hbad
            obtain ⟨cn, hcn⟩ : ∃ cn, cn = (ch l i).toNat := ⟨_, rfl⟩
            have hcc : (byteAt s i).toNat = cn := by rw [hbi, hcn]
            rw [← hcn] at hdgn hdvt'
            have hw1 : IntKind.i64.wrap (↑i + 1) = (i : Int) + 1 := IntWalk.i64_in _ (by omega)
            refine W_if (by simp [go_sem, hlt, hlt']; rfl) rfl ?_
            refine W_skip ?_
            refine hK2 _ _ ?_; clear hK2 K2
            refine W_seq (fun K2 hK2 => ?_)
            refine W_block ?_
            first | refine W_rt (by kernel_rfl) (fun K hK => ?_) | refine W_text (by kernel_rfl) (fun K hK => ?_)
            simp [go_sem, g26]
            refine hK _ _ ?_; clear hK K
            refine W_seq (fun K3 hK3 => ?_)
            by_cases hd : isD (ch l i) = true
            · obtain ⟨d1, d2⟩ := hdgn.1 hd
              have d1' : ¬ (cn : Int) < 48 := by omega
              have d2' : ¬ (57 : Int) < cn := by omega
              have d1'' : ¬ cn < 48 := by omega
              have d2'' : ¬ 57 < cn := by omega
              obtain ⟨dg, hdg⟩ : ∃ dg, dg = cn - 48 := ⟨_, rfl⟩
              rw [← hdg] at hdvt'
              have f1 : IntKind.u8.wrap ((cn : Int) - 48) = (dg : Int) := by rw [w8_in _ (by omega)]; omega
              have f2 : IntKind.u32.wrap (dg : Int) = dg := w32_in _ (by omega)
              first | refine W_rt (by kernel_rfl) (fun K hK => ?_) | refine W_text (by kernel_rfl) (fun K hK => ?_)
              simp [go_sem, g0, ← hsz, hlt, hlt', hcc, d1', d2', d1'', d2'']
              refine hK _ _ ?_; clear hK K
              refine W_if (by simp [go_sem, d1', d2', d1'', d2'']; rfl) rfl ?_
              refine W_skip ?_
              refine hK3 _ _ ?_; clear hK3 K3
              first | refine W_rt (by kernel_rfl) (fun K hK => ?_) | refine W_text (by kernel_rfl) (fun K hK => ?_)
              simp [go_sem, g0, ← hsz, hlt, hlt', hcc, f1, f2]
              refine hK _ _ ?_; clear hK K
              refine W_seq (fun K3 hK3 => ?_)
              first | refine W_rt (by kernel_rfl) (fun K hK => ?_) | refine W_text (by kernel_rfl) (fun K hK => ?_)
              simp [go_sem, g4]
              refine hK _ _ ?_; clear hK K
              refine W_block ?_
              refine W_loop (fun t g w' => Below w.heap.size w w' ∧ ∃ (k cy : Nat) (ws : List Nat) (a : Option Addr) (c : Nat), k ≤ n ∧ t = n - k ∧ g 0 = .string s ∧ g 25 = .int .i64 l.length ∧ g 26 = .int .i64 i ∧ g 4 = .slice a n c ∧ w'.ownsRow w.heap.size 50 1 (.slice a n c) n (lmC (ws ++ (lim N).drop k)) ∧ ws.length = k ∧ Ok ws ∧ g 6 = .int .u32 cy ∧ cy ≤ 9 ∧ g 45 = .int .i64 n ∧ g 46 = .int .i64 k ∧ val ws + 65536 ^ k * cy = 10 * val ((lim N).take k) + dg) n ?_ ?_
              · exact ⟨hE, 0, dg, [], a, c, by omega, rfl, by simp [go_sem, g0], by simp [go_sem, g25], by simp [go_sem, g26], by simp [go_sem, g4], by simpa using hown, rfl, Ok.nil, by simp [go_sem], by omega, by simp [go_sem], by simp [go_sem], by simp [val]⟩
              · clear hE hown g0 g25 g26 g4
                clear g
                rintro t g w' ⟨hE, k, cy, ws, a, c, hk, rfl, g0, g25, g26, g4, hown, hwl, hwok, g6, hcy, g45, g46, hval⟩
                first | refine W_rt (by kernel_rfl) (fun K hK => ?_) | refine W_text (by kernel_rfl) (fun K hK => ?_)
                simp [go_sem, g45, g46]
                refine hK _ _ ?_; clear hK K
                refine W_seq (fun K4 hK4 => ?_)
                by_cases hkn : k < n
                · have hkn' : (k : Int) < n := by omega
                  have hkN : k < (lim N).length := by omega
                  obtain ⟨gb, cap, Z, hveq, hgb, hB, hcm, hcz⟩ := own_block2 hown (by omega)
                  injection hveq with ha1 ha2 ha3
                  subst ha1
                  subst ha3
                  have hx := lat_lt (lim_ok N) k
                  have hread : w'.cell? ⟨gb, k, none⟩ = some (.int .u16 (lat (lim N) k)) := by
                    rw [bx_atZ hB (by rw [List.length_append, List.length_drop]; omega), lat_drop2 ws _ k hwl hkN]
                  obtain ⟨S, hS⟩ : ∃ S, S = cy + 10 * lat (lim N) k := ⟨_, rfl⟩
                  have hstep := read_step ws (lim N) k dg cy S hwl hval hS
                  have r1 : IntKind.u32.wrap (lat (lim N) k : Int) = lat (lim N) k := w32_in _ (by omega)
                  have r2 : IntKind.u32.wrap (10 * (lat (lim N) k : Int)) = ((10 * lat (lim N) k : Nat) : Int) := by rw [w32_in _ (by omega)]; omega
                  obtain ⟨X, hX⟩ : ∃ X, X = 10 * lat (lim N) k := ⟨_, rfl⟩
                  rw [← hX] at r2 hS
                  have r3 : IntKind.u32.wrap ((cy : Int) + X) = (S : Int) := by rw [w32_in _ (by omega)]; omega
                  have r4 : IntKind.u16.wrap (S : Int) = ((S % 65536 : Nat) : Int) := w16 _
                  have r5 : shrI .u32 (S : Int) 16 = ((S / 65536 : Nat) : Int) := shr_nat .u32 S 16 (by decide)
                  have hlo : S % 65536 < 65536 := Nat.mod_lt _ (by decide)
                  have hhi : S / 65536 ≤ 9 := by omega
                  obtain ⟨lo, hloe⟩ : ∃ lo, lo = S % 65536 := ⟨_, rfl⟩
                  obtain ⟨C, hCe⟩ : ∃ C, C = S / 65536 := ⟨_, rfl⟩
                  rw [← hloe] at r4 hlo hstep
                  rw [← hCe] at r5 hhi hstep
                  have hw2 : IntKind.i64.wrap (↑k + 1) = (k : Int) + 1 := IntWalk.i64_in _ (by omega)
                  refine W_if (by simp [go_sem, hkn, hkn']; rfl) rfl ?_
                  refine W_skip ?_
                  refine hK4 _ _ ?_; clear hK4 K4
                  refine W_seq (fun K4 hK4 => ?_)
                  refine W_block ?_
                  first | refine W_rt (by kernel_rfl) (fun K hK => ?_) | refine W_text (by kernel_rfl) (fun K hK => ?_)
                  simp [go_sem, g46]
                  refine hK _ _ ?_; clear hK K
                  first | refine W_rt (by kernel_rfl) (fun K hK => ?_) | refine W_text (by kernel_rfl) (fun K hK => ?_)
                  simp [go_sem, g4, g6, hkn, hkn', add_mk, hread, r1, r2, r3]
                  refine hK _ _ ?_; clear hK K
                  first | refine W_rt (by kernel_rfl) (fun K hK => ?_) | refine W_text (by kernel_rfl) (fun K hK => ?_)
                  simp [go_sem, g4, hkn, hkn', add_mk, r4]
                  refine hv_store (b := gb) (off := k) [.int .u16 lo] (by simp [go_sem]) rfl (by simp [go_sem]) (by simp [go_sem, Value.cells]) ty_size50 hB (by simp [lmC_len] <;> omega) (by simp [Value.oneCell']) (by decide) (fun w5 hS5 hB5 => ?_)
                  rw [putC_lmZ _ _ _ _ (by rw [List.length_append, List.length_drop]; omega), set_drop ws _ k lo hwl hkN] at hB5
                  have hown5 : w5.ownsRow w.heap.size 50 1 (.slice (some ⟨gb, 0, none⟩) n c) n (lmC ((ws ++ [lo]) ++ (lim N).drop (k + 1))) :=
                    own_of_blk hB5 (by rw [lmC_len]; simp; omega) hcz hcm hgb
                  replace hE := hE.nextS hS5 hgb
                  simp [go_sem]
                  refine hK _ _ ?_; clear hK K
                  refine W_text (by kernel_rfl) (fun K hK => ?_)
                  simp [go_sem, r5]
                  refine hK _ _ ?_; clear hK K
                  refine hK4 _ _ ?_; clear hK4 K4
                  first | refine W_rt (by kernel_rfl) (fun K hK => ?_) | refine W_text (by kernel_rfl) (fun K hK => ?_)
                  simp [go_sem, g46, hw2]
                  exact hK _ _ ⟨n - (k + 1), by omega, hE, k + 1, C, ws ++ [lo], _, c, by omega, rfl, by simp [go_sem, g0], by simp [go_sem, g25], by simp [go_sem, g26], by simp [go_sem, g4], hown5, by simp [hwl], hwok.app (Ok.cons hlo Ok.nil), by simp [go_sem], hhi, by simp [go_sem, g45], by simp [go_sem], hstep⟩
                · have hkn2 : k = n := by omega
                  subst hkn2
                  rw [List.take_of_length_le (by omega), val_lim, hn] at hval
                  rw [List.drop_eq_nil_of_le (by omega), List.append_nil] at hown
                  have hN' : 10 * N + dg = dv (l.take (i + 1)) := by rw [hdvt']; omega
                  rw [hN'] at hval
                  have hend := read_end ws N _ cy hwok (by omega) (by omega) hval (by omega)
                  have hdig2 : ∀ k, k < i + 1 → isD (ch l k) = true := by
                    intro k hk
                    by_cases h : k < i
                    · exact hdig k h
                    · have : k = i := by omega
                      subst this; exact hd
                  refine W_if (by simp [go_sem, hkn]; rfl) rfl ?_
                  refine W_exit ?_
                  repeat (first | refine thenG_exit ?_ | refine inBlock_other rfl ?_ | refine inBlock_same ?_)
                  refine hK3 _ _ ?_; clear hK3 K3 hK4 K4
                  first | refine W_rt (by kernel_rfl) (fun K hK => ?_) | refine W_text (by kernel_rfl) (fun K hK => ?_)
                  simp [go_sem, g6]
                  refine hK _ _ ?_; clear hK K
                  by_cases hc0 : cy = 0
                  · rw [if_pos hc0] at hend
                    subst hc0
                    refine W_if (by simp [go_sem]; rfl) rfl ?_
                    refine W_skip ?_
                    refine hK2 _ _ ?_; clear hK2 K2
                    first | refine W_rt (by kernel_rfl) (fun K hK => ?_) | refine W_text (by kernel_rfl) (fun K hK => ?_)
                    simp [go_sem, g26, hw1]
                    exact hK _ _ ⟨l.length - (i + 1), by omega, hE, i + 1, a, c, by omega, rfl, by simp [go_sem, g0], by simp [go_sem, g25], by simp [go_sem], by rw [hend, hwl]; simp [go_sem, g4], by rw [hend, hwl]; exact hown, hdig2⟩
                  · rw [if_neg hc0] at hend
                    have hcp : 0 < cy := by omega
                    have hcp' : (0 : Int) < cy := by omega
                    have r6 : IntKind.u16.wrap (cy : Int) = cy := w16_in _ (by omega)
                    refine W_if (by simp [go_sem, hcp, hcp']; rfl) rfl ?_
                    first | refine W_rt (by kernel_rfl) (fun K hK => ?_) | refine W_text (by kernel_rfl) (fun K hK => ?_)
                    simp [go_sem, g4, g6, r6]
                    refine hv_buildSlice #[.int .u16 cy] (by simp [go_sem, g4, g6, r6]) rfl ty_slZ22 (by decide) [(0, .int .u16 cy)] (by simp [go_sem, g4, g6, r6]) (by kernel_rfl) (fun w8 b8 hE8 hle8 hB8 => ?_)
                    have hown8 := own_keep hown hE8
                    replace hE := hE.next hE8
                    simp [go_sem, g4]
                    refine hv_appendB (v := .slice a k c) (b := b8) (len := 1) (c := 1) hB8 (by simp [go_sem, g4]) rfl ty_slZ22 ty_bytes50 rfl (by decide) (by simp [go_sem, g4, hn]) (by simp [go_sem]) hown8 rfl (by simp [Value.oneCell']) (by unfold maxLen; omega) (by omega) hE.size (by decide) (fun v9 w9 hown9 hg9 _ => ?_)
                    replace hE := hE.nextG hg9 (fun b e => (hown8.lt b e).1)
                    obtain ⟨a9, c9, rfl⟩ := own_slice hown9
                    simp [go_sem]
                    refine hK _ _ ?_; clear hK K
                    refine hK2 _ _ ?_; clear hK2 K2
                    have hll : (lim (dv (l.take (i + 1)))).length = k + 1 := by rw [hend]; simp [hwl]
                    first | refine W_rt (by kernel_rfl) (fun K hK => ?_) | refine W_text (by kernel_rfl) (fun K hK => ?_)
                    simp [go_sem, g26, hw1]
                    refine hK _ _ ⟨l.length - (i + 1), by omega, hE, i + 1, a9, c9, by omega, rfl, by simp [go_sem, g0], by simp [go_sem, g25], by simp [go_sem], by rw [hll]; simp [go_sem], ?_, hdig2⟩
                    rw [hll, hend, lmC_snoc]
                    exact hown9
            · have hd0 : isD (ch l i) = false := by simpa using hd
              have hrb := hE9 (hbad' hd0)
              have hfin : ∀ e : Ending, e = .returned (.tuple #[.slice none 0 0, .int .i64 9]) → ReadPost w l e w' := fun e he => readErr hrb (by decide) he hE
              by_cases d1 : cn < 48
              · have d1' : (cn : Int) < 48 := by omega
                first | refine W_rt (by kernel_rfl) (fun K hK => ?_) | refine W_text (by kernel_rfl) (fun K hK => ?_)
                simp [go_sem, g0, ← hsz, hlt, hlt', hcc, d1, d1']
                refine hK _ _ ?_; clear hK K
                refine W_if (by simp [go_sem, d1, d1']; rfl) rfl ?_
                first | refine W_rt (by kernel_rfl) (fun K hK => ?_) | refine W_text (by kernel_rfl) (fun K hK => ?_)
                simp [go_sem]
                refine hK _ _ ?_; clear hK K
                refine W_ret ?_
                repeat (first | refine thenG_ret ?_ | refine inBlock_ret ?_)
                refine ⟨trivial, hfin _ ?_⟩
                simp [go_sem, pack, resL]
              · have d2 : 57 < cn := by
                  rcases Nat.lt_or_ge 57 cn with h | h
                  · exact h
                  · exact absurd (hdgn.2 ⟨by omega, h⟩) hd
                have d1' : ¬ (cn : Int) < 48 := by omega
                have d2' : (57 : Int) < cn := by omega
                first | refine W_rt (by kernel_rfl) (fun K hK => ?_) | refine W_text (by kernel_rfl) (fun K hK => ?_)
                simp [go_sem, g0, ← hsz, hlt, hlt', hcc, d1, d1', d2, d2']
                refine hK _ _ ?_; clear hK K
                refine W_if (by simp [go_sem, d1, d1', d2, d2']; rfl) rfl ?_
                first | refine W_rt (by kernel_rfl) (fun K hK => ?_) | refine W_text (by kernel_rfl) (fun K hK => ?_)
                simp [go_sem]
                refine hK _ _ ?_; clear hK K
                refine W_ret ?_
                repeat (first | refine thenG_ret ?_ | refine inBlock_ret ?_)
                refine ⟨trivial, hfin _ ?_⟩
                simp [go_sem, pack, resL]
          · have him : i = l.length := by omega
            subst him
            rw [List.take_length] at hN
            have hE0 : rdE l = 0 := by
              unfold rdE
              rw [if_neg h0, if_neg h1, if_neg]
              rw [bad_none hz hdig]; decide
            have hL : rdL l = lim N := by unfold rdL; rw [if_pos hE0, hN]
            obtain ⟨a7, c7, hv7, hr7⟩ := RD.of_own (hn ▸ hown) (lim_ok N)
            injection hv7 with h71 h72 h73
            subst h71
            subst h73
            refine W_if (by simp [go_sem, hlt]; rfl) rfl ?_
            refine W_exit ?_
            repeat (first | refine thenG_exit ?_ | refine inBlock_other rfl ?_ | refine inBlock_same ?_)
            refine hK1 _ _ ?_; clear hK1 K1 hK2 K2
            first | refine W_rt (by kernel_rfl) (fun K hK => ?_) | refine W_text (by kernel_rfl) (fun K hK => ?_)
            simp [go_sem, g4]
            refine hK _ _ ?_; clear hK K
            refine W_ret ?_
            repeat (first | refine thenG_ret ?_ | refine inBlock_ret ?_)
            refine ⟨trivial, a, c, ?_, by rw [hL]; exact hr7, hE⟩
            rw [hL, hE0, ← hn]
            simp [go_sem, pack, resL, g4]
      by_cases h2 : 1 < l.length
      · have h2' : (1 : Int) < l.length := by omega
        have h20 : 0 < l.length := by omega
        have h20' : (0 : Int) < l.length := by omega
        have hb0 := hba 0
        obtain ⟨cn, hcn⟩ : ∃ cn, cn = (ch l 0).toNat := ⟨_, rfl⟩
        have hcc : (byteAt s 0).toNat = cn := by rw [hb0, hcn]
        by_cases h3 : ch l 0 = 48
        · have hc48 : cn = 48 := by rw [hcn, h3]; rfl
          have hrb : rdE l = 9 := hE9 (by unfold rdBad; simp [h2]; left; exact h3)
          subst hc48
          first | refine W_rt (by kernel_rfl) (fun K hK => ?_) | refine W_text (by kernel_rfl) (fun K hK => ?_)
          simp [go_sem, ← hsz, h2, h2', hcc, h20, h20']
          refine hK _ _ ?_; clear hK K
          refine W_if (by simp [go_sem, h2, h2']; rfl) rfl ?_
          first | refine W_rt (by kernel_rfl) (fun K hK => ?_) | refine W_text (by kernel_rfl) (fun K hK => ?_)
          simp [go_sem]
          refine hK _ _ ?_; clear hK K
          refine W_ret ?_
          repeat (first | refine thenG_ret ?_ | refine inBlock_ret ?_)
          refine ⟨trivial, readErr hrb (by decide) ?_ (Below.refl _ _)⟩
          simp [go_sem, pack, resL]
        · have hc48 : ¬ cn = 48 := by
            intro e
            apply h3
            apply UInt8.toNat_inj.1
            rw [← hcn, e]; rfl
          have hc48' : ¬ (cn : Int) = 48 := by omega
          first | refine W_rt (by kernel_rfl) (fun K hK => ?_) | refine W_text (by kernel_rfl) (fun K hK => ?_)
          simp [go_sem, ← hsz, h2, h2', hcc, h20, h20', hc48, hc48']
          refine hK _ _ ?_; clear hK K
          refine W_if (by simp [go_sem, h2, h2', hc48, hc48']; rfl) rfl ?_
          refine W_skip ?_
          exact main (fun h => h3 h.2) _ (by simp [go_sem])
      · have h2' : ¬ (1 : Int) < l.length := by omega
        first | refine W_rt (by kernel_rfl) (fun K hK => ?_) | refine W_text (by kernel_rfl) (fun K hK => ?_)
        simp [go_sem, ← hsz, h2, h2']
        refine hK _ _ ?_; clear hK K
        refine W_if (by simp [go_sem, h2, h2']; rfl) rfl ?_
        refine W_skip ?_
        exact main (fun h => h2 h.1) _ (by simp [go_sem])
end Go.Proofs.Ytnclpllmidlbbaa
namespace Go.Proofs.Ytnclpllmidlbbaa
open Go.RowKit Go.V
set_option linter.unusedSimpArgs false
set_option linter.unusedVariables false
set_option maxRecDepth 20000

set_option maxHeartbeats 1000000 in
theorem readR_any (s : ByteArray) (w : World) : Calls Try.prog 83 #[.string s] w (ReadPost w (bs s)) := by
  have hsz := bs_len s
  have hbe : bs ⟨#[]⟩ = [] := rfl
  obtain ⟨l, hl⟩ : ∃ l, l = bs s := ⟨_, rfl⟩
  rw [← hl] at hsz ⊢
  have hba : ∀ k, byteAt s k = ch l k := fun k => by rw [hl]; rfl
  refine calls_of_W (args := [.string s]) (rs := [.tmp 2, .tmp 3]) (n := 47) Try.func83 rfl rfl rfl (by kernel_rfl) ?_
  first | refine W_rt (by kernel_rfl) (fun K hK => ?_) | refine W_text (by kernel_rfl) (fun K hK => ?_)
  simp [go_sem]
  refine hK _ _ ?_; clear hK K
  refine W_seq (fun K1 hK1 => ?_)
  by_cases h0 : l = []
  · first | refine W_rt (by kernel_rfl) (fun K hK => ?_) | refine W_text (by kernel_rfl) (fun K hK => ?_)
    simp [go_sem, ← hl, hbe, h0]
    refine hK _ _ ?_; clear hK K
    refine W_if (by simp [go_sem, h0]; rfl) rfl ?_
    first | refine W_rt (by kernel_rfl) (fun K hK => ?_) | refine W_text (by kernel_rfl) (fun K hK => ?_)
    simp [go_sem]
    refine hK _ _ ?_; clear hK K
    refine W_ret ?_
    repeat (first | refine thenG_ret ?_ | refine inBlock_ret ?_)
    refine ⟨trivial, readErr (n := 10) (by unfold rdE; rw [if_pos h0]) (by decide) ?_ (Below.refl _ _)⟩
    simp [go_sem, pack, resL]
  · first | refine W_rt (by kernel_rfl) (fun K hK => ?_) | refine W_text (by kernel_rfl) (fun K hK => ?_)
    simp [go_sem, ← hl, hbe, h0]
    refine hK _ _ ?_; clear hK K
    refine W_if (by simp [go_sem, h0]; rfl) rfl ?_
    refine W_skip ?_
    refine hK1 _ _ ?_; clear hK1 K1
    refine W_seq (fun K1 hK1 => ?_)
    by_cases h1 : 1000 < l.length
    · have h1' : (1000 : Int) < l.length := by omega
      first | refine W_rt (by kernel_rfl) (fun K hK => ?_) | refine W_text (by kernel_rfl) (fun K hK => ?_)
      simp [go_sem, ← hsz, h1, h1']
      refine hK _ _ ?_; clear hK K
      refine W_if (by simp [go_sem, h1, h1']; rfl) rfl ?_
      first | refine W_rt (by kernel_rfl) (fun K hK => ?_) | refine W_text (by kernel_rfl) (fun K hK => ?_)
      simp [go_sem]
      refine hK _ _ ?_; clear hK K
      refine W_ret ?_
      repeat (first | refine thenG_ret ?_ | refine inBlock_ret ?_)
      refine ⟨trivial, readErr (n := 4) (by unfold rdE; rw [if_neg h0, if_pos h1]) (by decide) ?_ (Below.refl _ _)⟩
      simp [go_sem, pack, resL]
    · have h1' : ¬ (1000 : Int) < l.length := by omega
      have hE9 : rdBad l = true → rdE l = 9 := fun hb => by unfold rdE; rw [if_neg h0, if_neg h1, if_pos hb]
      first | refine W_rt (by kernel_rfl) (fun K hK => ?_) | refine W_text (by kernel_rfl) (fun K hK => ?_)
      simp [go_sem, ← hsz, h1, h1']
      refine hK _ _ ?_; clear hK K
      refine W_if (by simp [go_sem, h1, h1']; rfl) rfl ?_
      refine W_skip ?_
      refine hK1 _ _ ?_; clear hK1 K1
      first | refine W_rt (by kernel_rfl) (fun K hK => ?_) | refine W_text (by kernel_rfl) (fun K hK => ?_)
      simp [go_sem]
      refine hK _ _ ?_; clear hK K
      refine W_seq (fun K1 hK1 => ?_)
      first | refine W_rt (by kernel_rfl) (fun K hK => ?_) | refine W_text (by kernel_rfl) (fun K hK => ?_)
      simp [go_sem]
      refine hK _ _ ?_; clear hK K
      refine W_block ?_
      refine W_loop (fun t g w' => Below w.heap.size w w' ∧ ∃ (i : Nat) (a : Option Addr) (c : Nat), i ≤ l.length ∧ t = l.length - i ∧ g 0 = .string s ∧ g 5 = .int .i64 i ∧ g 4 = .slice a (lim (dv (l.take i))).length c ∧
        RD w' a c (lim (dv (l.take i))) ∧ (∀ k, k < i → isD (ch l k) = true) ∧ (2 ≤ i → ch l 0 ≠ 48)) l.length ?_ ?_
      · have e : lim (dv (l.take 0)) = [] := by simp [dv, lim_zero]
        refine ⟨Below.refl _ _, 0, none, 0, by omega, rfl, by simp [go_sem], by simp [go_sem], ?_, ?_, fun k hk => by omega, by omega⟩
        · rw [e]; simp [go_sem]
        · rw [e]; exact RD.nil _ _ _
      · rintro t g w' ⟨hE, i, a, c, hi, rfl, g0, g5, g4, hr, hdig, hz⟩
        have hNl := dv_len l i hi hdig
        obtain ⟨N, hN⟩ : ∃ N, N = dv (l.take i) := ⟨_, rfl⟩
        rw [← hN] at g4 hr hNl
        refine W_seq (fun K2 hK2 => ?_)
        by_cases hlt : i < l.length
        · have hlt' : (i : Int) < l.length := by omega
          have hdvt := dv_take l i hlt
          rw [← hN] at hdvt
          have hbi := hba i
          have hbad := bad_at hlt
          have hdgn : isD (ch l i) = true ↔ 48 ≤ (ch l i).toNat ∧ (ch l i).toNat ≤ 57 := by unfold isD; simp
          have hdvt' : dv (l.take (i + 1)) = N * 10 + ((ch l i).toNat - 48) := hdvt
          have hbad' : isD (ch l i) = false → rdBad l = true := hbad
          obtain ⟨cn, hcn⟩ : ∃ cn, cn = (ch l i).toNat := ⟨_, rfl⟩
          have hcc : (byteAt s i).toNat = cn := by rw [hbi, hcn]
          rw [← hcn] at hdgn hdvt'
          have hb0 := hba 0
          obtain ⟨cz, hcz⟩ : ∃ cz, cz = (ch l 0).toNat := ⟨_, rfl⟩
          have hcc0 : (byteAt s 0).toNat = cz := by rw [hb0, hcz]
          have hw1 : IntKind.i64.wrap (↑i + 1) = (i : Int) + 1 := IntWalk.i64_in _ (by omega)
          have hp0 : 0 < l.length := by omega
          have hp0' : (0 : Int) < l.length := by omega
          have hfin : rdE l = 9 → ∀ e : Ending, e = .returned (.tuple #[.slice none 0 0, .int .i64 9]) → ReadPost w l e w' := fun hrb e he => readErr hrb (by decide) he hE
          first | refine W_rt (by kernel_rfl) (fun K hK => ?_) | refine W_text (by kernel_rfl) (fun K hK => ?_)
          simp [go_sem, g0, g5, ← hsz, hlt, hlt']
          refine hK _ _ ?_; clear hK K
          refine W_if (by simp [go_sem, hlt, hlt']; rfl) rfl ?_
          refine W_skip ?_
          refine hK2 _ _ ?_; clear hK2 K2
          refine W_seq (fun K2 hK2 => ?_)
          refine W_block ?_
          refine W_seq (fun K3 hK3 => ?_)
          by_cases hd : isD (ch l i) = true
          · obtain ⟨d1, d2⟩ := hdgn.1 hd
            have d1' : ¬ (cn : Int) < 48 := by omega
            have d2' : ¬ (57 : Int) < cn := by omega
            have d1'' : ¬ cn < 48 := by omega
            have d2'' : ¬ 57 < cn := by omega
            have go : (i = 1 → ch l 0 ≠ 48) → ∀ g : G, g 0 = .string s → g 5 = .int .i64 i → g 4 = .slice a (lim N).length c → K3 g w' := by
              clear g0 g5 g4
              clear g
              intro hz1 g g0 g5 g4
              refine hK3 _ _ ?_; clear hK3 K3
              obtain ⟨dg, hdg⟩ : ∃ dg, dg = cn - 48 := ⟨_, rfl⟩
              rw [← hdg] at hdvt'
              have f1 : IntKind.u8.wrap ((cn : Int) - 48) = (dg : Int) := by rw [w8_in _ (by omega)]; omega
              have f2 : IntKind.u64.wrap (dg : Int) = dg := w64_in _ (by omega)
              have hD : Below w'.heap.size w' w'.drew := Below.drew1 _
              have hr' := hr.ext hD
              have h10 : (lim 10).length ≤ lenS := Nat.le_trans (lim_len 4 10 (by decide)) (by decide)
              have hdl : (lim dg).length ≤ 4 := lim_len 4 _ (by omega)
              first | refine W_rd [(0, 0), (3, 0), (4, 0), (5, 0), (6, 0), (7, 0), (1, 1), (2, 1), (8, 1), (9, 1), (10, 0)] (by kernel_rfl) (by kernel_rfl) (fun K hK => ?_) | refine W_draw [(0, 0), (3, 0), (4, 0), (5, 0), (6, 0), (7, 0), (1, 1), (2, 1), (8, 1), (9, 1), (10, 0)] (by kernel_rfl) (by kernel_rfl) (fun K hK => ?_)
              simp [go_sem, g0, g4, g5, ← hsz, hlt, hlt', hcc, f1, f2]
              refine hv_call (by simp [go_sem, g0, g4, g5, ← hsz, hlt, hlt', hcc, f1, f2]) rfl Try.call56 (fun R hR => ?_)
              simp [go_sem, g0, g4, g5, ← hsz, hlt, hlt', hcc, f1, f2]
              refine (ofR_any 10 _ (by decide)).mono ?_
              rintro e w2 ⟨a2, c2, rfl, hr2, hE2⟩
              refine ⟨_, rfl, hE2, hR _ _ ?_⟩
              clear hR R
              replace hr' := hr'.ext hE2
              have hE' := hD.next hE2
              have hmu := mulR_any (lim N) (lim 10) a a2 c c2 _ hr' hr2 (by unfold lenS; omega) h10
              rw [val_lim, val_lim] at hmu
              simp [go_sem, g0, g4, g5, ← hsz, hlt, hlt', hcc, f1, f2]
              refine hv_call (by simp [go_sem, g0, g4, g5, ← hsz, hlt, hlt', hcc, f1, f2]) rfl Try.call78 (fun R hR => ?_)
              simp [go_sem, g0, g4, g5, ← hsz, hlt, hlt', hcc, f1, f2]
              refine (hmu).mono ?_
              rintro e w3 ⟨a3, c3, rfl, hr3, hE3⟩
              refine ⟨_, rfl, hE3, hR _ _ ?_⟩
              clear hR R
              replace hE' := hE'.next hE3
              have hml : (lim (N * 10)).length ≤ 1001 + 4 := lim_mul_len (by omega) (lim_len 4 10 (by decide))
              simp [go_sem, g0, g4, g5, ← hsz, hlt, hlt', hcc, f1, f2]
              refine hv_call (by simp [go_sem, g0, g4, g5, ← hsz, hlt, hlt', hcc, f1, f2]) rfl Try.call56 (fun R hR => ?_)
              simp [go_sem, g0, g4, g5, ← hsz, hlt, hlt', hcc, f1, f2]
              refine (ofR_any dg _ (by omega)).mono ?_
              rintro e w4 ⟨a4, c4, rfl, hr4, hE4⟩
              refine ⟨_, rfl, hE4, hR _ _ ?_⟩
              clear hR R
              replace hr3 := hr3.ext hE4
              replace hE' := hE'.next hE4
              have had := addR_any (lim (N * 10)) (lim dg) a3 a4 c3 c4 _ hr3 hr4 (by unfold lenS; omega) (by unfold lenS; omega)
              rw [val_lim, val_lim, ← hdvt'] at had
              simp [go_sem, g0, g4, g5, ← hsz, hlt, hlt', hcc, f1, f2]
              refine hv_call (by simp [go_sem, g0, g4, g5, ← hsz, hlt, hlt', hcc, f1, f2]) rfl Try.call98 (fun R hR => ?_)
              simp [go_sem, g0, g4, g5, ← hsz, hlt, hlt', hcc, f1, f2]
              refine (had).mono ?_
              rintro e w5 ⟨a5, c5, rfl, hr5, hE5⟩
              refine ⟨_, rfl, hE5, hR _ _ ?_⟩
              clear hR R
              replace hE' := hE'.next hE5
              have hdig2 : ∀ k, k < i + 1 → isD (ch l k) = true := by
                intro k hk
                by_cases h : k < i
                · exact hdig k h
                · have : k = i := by omega
                  subst this; exact hd
              simp [go_sem]
              refine hK _ _ ?_; clear hK K
              refine hK2 _ _ ?_; clear hK2 K2
              first | refine W_rt (by kernel_rfl) (fun K hK => ?_) | refine W_text (by kernel_rfl) (fun K hK => ?_)
              simp [go_sem, g5, hw1]
              exact hK _ _ ⟨l.length - (i + 1), by omega, hE.next hE', i + 1, a5, c5, by omega, rfl, by simp [go_sem, g0], by simp [go_sem], by simp [go_sem], hr5, hdig2, fun h2 => by
                by_cases h : i = 1
                · exact hz1 h
                · exact hz (by omega)⟩
            by_cases hi1 : i = 1
            · subst hi1
              have hl1 : (1 : Int) < l.length := by omega
              have go1 : ((1 : Nat) : Int) = 1 := rfl
              rw [go1] at g5
              by_cases hz0 : cz = 48
              · have h3 : ch l 0 = 48 := by apply UInt8.toNat_inj.1; rw [← hcz, hz0]; rfl
                have hrb : rdE l = 9 := hE9 (by
                  unfold rdBad
                  simp [hlt]; left; exact h3)
                subst hz0
                first | refine W_rt (by kernel_rfl) (fun K hK => ?_) | refine W_text (by kernel_rfl) (fun K hK => ?_)
                simp [go_sem, g0, g5, ← hsz, hlt, hl1, hcc, hcc0, d1', d2', d1'', d2'', hp0, hp0']
                refine hK _ _ ?_; clear hK K
                refine W_if (by simp [go_sem, d1', d2', d1'', d2'']; rfl) rfl ?_
                first | refine W_rt (by kernel_rfl) (fun K hK => ?_) | refine W_text (by kernel_rfl) (fun K hK => ?_)
                simp [go_sem]
                refine hK _ _ ?_; clear hK K
                refine W_ret ?_
                repeat (first | refine thenG_ret ?_ | refine inBlock_ret ?_)
                refine ⟨trivial, hfin hrb _ ?_⟩
                simp [go_sem, pack, resL]
              · have hz0' : ¬ (cz : Int) = 48 := by omega
                have h3 : ch l 0 ≠ 48 := fun e => hz0 (by rw [hcz, e]; rfl)
                first | refine W_rt (by kernel_rfl) (fun K hK => ?_) | refine W_text (by kernel_rfl) (fun K hK => ?_)
                simp [go_sem, g0, g5, ← hsz, hlt, hl1, hcc, hcc0, d1', d2', d1'', d2'', hz0, hz0', hp0, hp0']
                refine hK _ _ ?_; clear hK K
                refine W_if (by simp [go_sem, d1', d2', d1'', d2'', hz0, hz0']; rfl) rfl ?_
                refine W_skip ?_
                exact go (fun _ => h3) _ (by simp [go_sem, g0]) (by simp [go_sem, g5]) (by simp [go_sem, g4])
            · have hi1' : ¬ (i : Int) = 1 := by omega
              first | refine W_rt (by kernel_rfl) (fun K hK => ?_) | refine W_text (by kernel_rfl) (fun K hK => ?_)
              simp [go_sem, g0, g5, ← hsz, hlt, hlt', hcc, d1', d2', d1'', d2'', hi1, hi1']
              refine hK _ _ ?_; clear hK K
              refine W_if (by simp [go_sem, d1', d2', d1'', d2'', hi1, hi1']; rfl) rfl ?_
              refine W_skip ?_
              exact go (fun h => absurd h hi1) _ (by simp [go_sem, g0]) (by simp [go_sem, g5]) (by simp [go_sem, g4])
          · have hd0 : isD (ch l i) = false := by simpa using hd
            have hrb := hE9 (hbad' hd0)
            by_cases d1 : cn < 48
            · have d1' : (cn : Int) < 48 := by omega
              first | refine W_rt (by kernel_rfl) (fun K hK => ?_) | refine W_text (by kernel_rfl) (fun K hK => ?_)
              simp [go_sem, g0, g5, ← hsz, hlt, hlt', hcc, d1, d1']
              refine hK _ _ ?_; clear hK K
              refine W_if (by simp [go_sem, d1, d1']; rfl) rfl ?_
              first | refine W_rt (by kernel_rfl) (fun K hK => ?_) | refine W_text (by kernel_rfl) (fun K hK => ?_)
              simp [go_sem]
              refine hK _ _ ?_; clear hK K
              refine W_ret ?_
              repeat (first | refine thenG_ret ?_ | refine inBlock_ret ?_)
              refine ⟨trivial, hfin hrb _ ?_⟩
              simp [go_sem, pack, resL]
            · have d2 : 57 < cn := by
                rcases Nat.lt_or_ge 57 cn with h | h
                · exact h
                · exact absurd (hdgn.2 ⟨by omega, h⟩) hd
              have d1' : ¬ (cn : Int) < 48 := by omega
              have d2' : (57 : Int) < cn := by omega
              first | refine W_rt (by kernel_rfl) (fun K hK => ?_) | refine W_text (by kernel_rfl) (fun K hK => ?_)
              simp [go_sem, g0, g5, ← hsz, hlt, hlt', hcc, d1, d1', d2, d2']
              refine hK _ _ ?_; clear hK K
              refine W_if (by simp [go_sem, d1, d1', d2, d2']; rfl) rfl ?_
              first | refine W_rt (by kernel_rfl) (fun K hK => ?_) | refine W_text (by kernel_rfl) (fun K hK => ?_)
              simp [go_sem]
              refine hK _ _ ?_; clear hK K
              refine W_ret ?_
              repeat (first | refine thenG_ret ?_ | refine inBlock_ret ?_)
              refine ⟨trivial, hfin hrb _ ?_⟩
              simp [go_sem, pack, resL]
        · have hlt' : ¬ (i : Int) < l.length := by omega
          have him : i = l.length := by omega
          have hE0 : rdE l = 0 := by
            unfold rdE
            rw [if_neg h0, if_neg h1, if_neg]
            rw [bad_none (fun h => hz (by omega) h.2) (by rw [← him]; exact hdig)]; decide
          have hL : rdL l = lim N := by unfold rdL; rw [if_pos hE0, hN, him, List.take_length]
          first | refine W_rt (by kernel_rfl) (fun K hK => ?_) | refine W_text (by kernel_rfl) (fun K hK => ?_)
          simp [go_sem, g0, g5, ← hsz, hlt, hlt']
          refine hK _ _ ?_; clear hK K
          refine W_if (by simp [go_sem, hlt, hlt']; rfl) rfl ?_
          refine W_exit ?_
          repeat (first | refine thenG_exit ?_ | refine inBlock_other rfl ?_ | refine inBlock_same ?_)
          refine hK1 _ _ ?_; clear hK1 K1 hK2 K2
          first | refine W_rt (by kernel_rfl) (fun K hK => ?_) | refine W_text (by kernel_rfl) (fun K hK => ?_)
          simp [go_sem, g4]
          refine hK _ _ ?_; clear hK K
          refine W_ret ?_
          repeat (first | refine thenG_ret ?_ | refine inBlock_ret ?_)
          refine ⟨trivial, a, c, ?_, by rw [hL]; exact hr, hE⟩
          rw [hL, hE0]
          simp [go_sem, pack, resL, g4]
end Go.Proofs.Ytnclpllmidlbbaa
