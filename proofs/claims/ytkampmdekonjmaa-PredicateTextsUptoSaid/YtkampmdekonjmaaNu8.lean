/- Natural numbers: the specification's Read. -/
import Derived.Test.YtkampmdekonjmaaNtV
import Derived.Test.YtkampmdekonjmaaVE
import Derived.Test.YtkampmdekonjmaaTy
import Derived.Shelf.Strings.Builder1
import Derived.Laws.BytesString
import Derived.Test.YtkampmdekonjmaaNtH
namespace Go.Proofs.Ytkampmdekonjmaa
open Go.RowKit Go.V
set_option linter.unusedSimpArgs false
set_option linter.unusedVariables false
set_option maxRecDepth 20000

/-- the digits of a number, none for 0 -/
def dgz (n : Nat) : List UInt8 := if h : n = 0 then [] else dgz (n / 10) ++ [UInt8.ofNat (48 + n % 10)]
termination_by n
decreasing_by omega
def txt (n : Nat) : List UInt8 := if n = 0 then [48] else dgz n
theorem dgz_0 : dgz 0 = [] := by rw [dgz, dif_pos rfl]
theorem dgz_s (n : Nat) (h : n ≠ 0) : dgz n = dgz (n / 10) ++ [UInt8.ofNat (48 + n % 10)] := by rw [dgz, dif_neg h]
theorem dgz_len : ∀ (k n : Nat), n < 2 ^ k → (dgz n).length ≤ k
  | 0, n, h => by
    have : n = 0 := by simpa using h
    subst this; rw [dgz_0]; simp
  | k + 1, n, h => by
    by_cases h0 : n = 0
    · subst h0; rw [dgz_0]; simp
    · rw [dgz_s n h0, List.length_append]
      have := dgz_len k (n / 10) (by rw [Nat.pow_succ] at h; omega)
      simp; omega
theorem dgz_nil {n : Nat} : dgz n = [] ↔ n = 0 := by
  constructor
  · intro h
    rcases Nat.eq_zero_or_pos n with h0 | h0
    · exact h0
    · rw [dgz_s n (by omega)] at h; simp at h
  · rintro rfl; exact dgz_0
theorem u8_48 (x : Nat) (h : x < 10) : ((UInt8.ofNat (48 + x)).toNat : Int) = ((48 + x : Nat) : Int) := by
  have : (UInt8.ofNat (48 + x)).toNat = (48 + x) % 256 := by simp
  rw [this, Nat.mod_eq_of_lt (by omega)]
/-- one digit of a group of four -/
theorem dgz_step (V prev gr m : Nat) (hV : V = prev * 10000 + gr) (hg : gr < 10000) (hm : m < 4) :
    (V / 10 ^ m = 0 ↔ V / 10 ^ (m + 1) = 0 ∧ ¬ 10 ^ m ≤ gr) ∧ (V / 10 ^ m) % 10 = gr / 10 ^ m % 10 ∧ V / 10 ^ m / 10 = V / 10 ^ (m + 1) := by
  have e0 : V / 10 ^ m / 10 = V / 10 ^ (m + 1) := by rw [Nat.div_div_eq_div_mul, Nat.pow_succ]
  refine ⟨?_, ?_, e0⟩
  · match m, hm with
    | 0, _ => omega
    | 1, _ => omega
    | 2, _ => omega
    | 3, _ => omega
  · match m, hm with
    | 0, _ => omega
    | 1, _ => omega
    | 2, _ => omega
    | 3, _ => omega
theorem grp_val (A i : Nat) : A / 10000 ^ i = A / 10000 ^ (i + 1) * 10000 + A / 10000 ^ i % 10000 := by
  rw [Nat.pow_succ, ← Nat.div_div_eq_div_mul, Nat.mul_comm, Nat.div_add_mod]
theorem grp_len {A k e : Nat} (h : A / 10000 ^ k ≠ 0) (hA : A < 2 ^ e) : k < e := by
  have h1 : 10000 ^ k ≤ A := by
    refine Nat.le_of_not_lt (fun hlt => h (Nat.div_eq_of_lt hlt))
  have h2 : 2 ^ k ≤ 10000 ^ k := Nat.pow_le_pow_left (by decide) k
  exact (Nat.pow_lt_pow_iff_right (a := 2) (by decide)).1 (by omega)
end Go.Proofs.Ytkampmdekonjmaa
namespace Go.Proofs.Ytkampmdekonjmaa
open Go.RowKit Go.V Go.Shelf
set_option linter.unusedSimpArgs false
set_option linter.unusedVariables false
set_option maxRecDepth 20000

theorem own_sto2 {w w' : World} {B e size n b : Nat} {v : Value} {xs : List Value} (h : w.ownsRow B e size v n xs) (hs : Sto w w' b) (hne : v.ownBlock ≠ some b) : w'.ownsRow B e size v n xs := by
  refine ⟨h.1, ?_⟩
  rcases h.2 with hn | ⟨g, cap, cur, hv, hg, hh, r⟩
  · exact .inl hn
  · refine .inr ⟨g, cap, cur, hv, hg, ?_, r⟩
    have : g ≠ b := fun e => hne (by rw [hv, e]; rfl)
    rw [hs.block g this]; exact hh
theorem own_keep' {w w' : World} {B e size n : Nat} {v : Value} {xs : List Value} (h : w.ownsRow B e size v n xs) (hb : Below w.heap.size w w') : w'.ownsRow B e size v n xs := by
  refine ⟨h.1, ?_⟩
  rcases h.2 with hn | ⟨g, cap, cur, hv, hg, hh, r⟩
  · exact .inl hn
  · exact .inr ⟨g, cap, cur, hv, hg, by rw [hb.block g (Array.getElem?_eq_some_iff.1 hh).1]; exact hh, r⟩
theorem own_slice {w : World} {B e size n : Nat} {v : Value} {xs : List Value} (h : w.ownsRow B e size v n xs) : ∃ a c, v = .slice a n c := by
  rcases h.2 with ⟨h1, h2⟩ | ⟨g, cap, cur, hv, _⟩
  · exact ⟨none, 0, by rw [h1, h2]⟩
  · exact ⟨_, _, hv⟩
theorem own_cells {w : World} {B e size n : Nat} {v : Value} {xs : List Value} (h : w.ownsRow B e size v n xs) : v.cells = #[v] := by
  obtain ⟨a, c, rfl⟩ := own_slice h; rfl
theorem own_one {w : World} {B e size n : Nat} {v : Value} {xs : List Value} (h : w.ownsRow B e size v n xs) : v.oneCell' = true := by
  obtain ⟨a, c, rfl⟩ := own_slice h; rfl
theorem eqBuilder : eqPtrT Try.prog 99 = true := by kernel_rfl
theorem Try.lenRen : Go.Proofs.Lays.n170 Try.prog ⟨fun | 170 => 102 | n => n, fun | 70 => 99 | 3 => 3 | 0 => 0 | 72 => 102 | 37 => 100 | 5 => 5 | n => n, fun | n => n⟩ := {
  mixed := by kernel_rfl
  f170 := Try.func102.trans (congrArg some (by kernel_rfl))
  t0 := Try.underlying0
  a0 := Try.isAgg0
  z0 := Try.sizeOf0
  v0 := Try.zeroValue0
  t3 := Try.underlying3
  a3 := Try.isAgg3
  z3 := Try.sizeOf3
  v3 := Try.zeroValue3
  t37 := Try.underlying100
  a37 := Try.isAgg100
  z37 := Try.sizeOf100
  v37 := Try.zeroValue100
  t70 := Try.underlying99
  a70 := Try.isAgg99
  z70 := Try.sizeOf99
  v70 := Try.zeroValue99
  t72 := Try.underlying102
  a72 := Try.isAgg102
  z72 := Try.sizeOf102
  v72 := Try.zeroValue102 }
/-- a builder of the call's own that holds these bytes -/
def Bd (B b : Nat) (l : List UInt8) (w : World) : Prop := Lib.IsBuilder 102 5 B b (Lib.byteCells l) w
theorem bdLen_any (B b : Nat) (l : List UInt8) (w : World) (h : Bd B b l w) :
    Calls Try.prog 102 #[.pointer (some ⟨b, 0, none⟩)] w fun e w' => e = .returned (.int .i64 l.length) ∧ w = w' := by
  have := Any.Builder_Len Try.lenRen B b (Lib.byteCells l) w h
  refine Calls.mono this ?_
  rintro e w' ⟨rfl, rfl⟩
  exact ⟨by rw [Lib.byteCells_length], rfl⟩
def Try.strRen0 : Go.Shelf.Ren := ⟨fun | 169 => 72 | n => n, fun | 70 => 99 | 9 => 9 | 0 => 0 | 72 => 102 | 37 => 100 | 127 => 128 | 3 => 3 | 5 => 5 | n => n, fun | n => n⟩
theorem Try.strRen : Go.Proofs.Lays.n169 Try.prog Try.strRen0 := {
  mixed := by kernel_rfl
  f169 := Try.func72.trans (congrArg some (by kernel_rfl))
  t0 := Try.underlying0
  a0 := Try.isAgg0
  z0 := Try.sizeOf0
  v0 := Try.zeroValue0
  t3 := Try.underlying3
  a3 := Try.isAgg3
  z3 := Try.sizeOf3
  v3 := Try.zeroValue3
  t9 := Try.underlying9
  a9 := Try.isAgg9
  z9 := Try.sizeOf9
  v9 := Try.zeroValue9
  t37 := Try.underlying100
  a37 := Try.isAgg100
  z37 := Try.sizeOf100
  v37 := Try.zeroValue100
  t70 := Try.underlying99
  a70 := Try.isAgg99
  z70 := Try.sizeOf99
  v70 := Try.zeroValue99
  t72 := Try.underlying102
  a72 := Try.isAgg102
  z72 := Try.sizeOf102
  v72 := Try.zeroValue102
  t127 := Try.underlying128
  a127 := Try.isAgg128
  z127 := Try.sizeOf128
  v127 := Try.zeroValue128 }
theorem Try.strExtra : Builder.Extra Try.prog Try.strRen0 := {
  sizeBuilder := by kernel_rfl
  liesBuilder := by kernel_rfl
  t5 := Try.underlying5
  a5 := Try.isAgg5
  z5 := Try.sizeOf5
  v5 := Try.zeroValue5
  infoByte := by kernel_rfl
  cellsByte := by kernel_rfl
  sizeByte := by kernel_rfl
  neB5 := by decide }
theorem bdString_any (B b : Nat) (l : List UInt8) (w : World) (h : Bd B b l w) (hBw : B ≤ w.heap.size) :
    Calls Try.prog 72 #[.pointer (some ⟨b, 0, none⟩)] w fun e w' => e = .returned (.string ⟨l.toArray⟩) ∧ Below B w w' := Any.Builder_String_any Try.strRen Try.strExtra B b l w h hBw
theorem bdNew {w w1 : World} {b : Nat} (hle : w.heap.size ≤ b) (h : Bx w1 b #[.pointer none, .slice none 0 0] 102) : Bd w.heap.size b [] w1 :=
  .inl ⟨hle, .slice none 0 0, h.heap, World.ownsRow_nil _ _ _ _, by simp [Value.ownBlock]⟩

set_option maxHeartbeats 1000000 in
theorem copyCheck_any (B b : Nat) (bs : List Value) (w : World) (h : Lib.IsBuilder 102 5 B b bs w) :
    Calls Try.prog 104 #[.pointer (some ⟨b, 0, none⟩)] w fun e w' => e = .returned (.tuple #[]) ∧ Lib.BuilderAt 102 5 B b (.pointer (some ⟨b, 0, none⟩)) bs w' ∧ Below B w w' := by
  have hT := eqBuilder
  refine calls_of_W (args := [.pointer (some ⟨b, 0, none⟩)]) (rs := []) (n := 20) Try.func104 rfl rfl rfl (by kernel_rfl) ?_
  rcases h with h | h
  · have k0 := h.cell0
    have hsh := h.shape
    obtain ⟨hB, v, hb, hown, hne⟩ := h
    have hbx : Bx w b #[.pointer none, v] 102 := ⟨hb⟩
    first | refine W_rt (by kernel_rfl) (fun K hK => ?_) | refine W_text (by kernel_rfl) (fun K hK => ?_)
    simp [go_sem, k0, hT, add_mk]
    refine hK _ _ ?_; clear hK K
    refine W_if (by simp [go_sem]; rfl) rfl ?_
    first | refine W_rt (by kernel_rfl) (fun K hK => ?_) | refine W_text (by kernel_rfl) (fun K hK => ?_)
    simp [go_sem, k0, add_mk]
    obtain ⟨j, hj, hjs⟩ := Option.map_eq_some_iff.1 ty_size102
    refine hv_conv (by simp [go_sem]) rfl (by simp [go_sem]; exact Lib.run_to_unsafe w ⟨b, 0, none⟩ Try.underlying99 Try.underlying146 hj (by rw [hjs]; decide) hsh (Nat.zero_lt_succ 1)) (fun e => absurd e (by decide)) ?_
    simp [go_sem]
    refine hv_ext (by simp [go_sem]) rfl Try.func132 (by kernel_rfl) (by kernel_rfl) (by kernel_rfl) (e := Extern.AbiNoEscape.same) (by kernel_rfl) (by simp [go_sem]; exact Lib.run_noEscape (P := Try.prog) w _) ?_
    simp [go_sem]
    refine hv_conv (by simp [go_sem]) rfl (by simp [go_sem]; exact Lib.run_from_unsafe w ⟨b, 0, none⟩ Try.underlying146 Try.underlying99 hj hsh (by kernel_rfl)) (fun e => absurd e (by decide)) ?_
    simp [go_sem, add_mk]
    refine hv_store (b := b) (off := 0) [.pointer (some ⟨b, 0, none⟩)] (by simp [go_sem]) rfl (by simp [go_sem]) (by simp [go_sem, Value.cells]) ty_size99 hbx (by simp) (by simp [Value.oneCell']) (by decide) (fun w1 hS1 hB1 => ?_)
    simp [putC] at hB1
    simp [go_sem]
    refine hK _ _ ?_
    refine ⟨trivial, ?_, ⟨hB, v, hB1.heap, own_sto2 hown hS1 hne, hne⟩, hS1.below hB⟩
    simp [go_sem, pack, resL]
  · have k0 := h.cell0
    first | refine W_rt (by kernel_rfl) (fun K hK => ?_) | refine W_text (by kernel_rfl) (fun K hK => ?_)
    simp [go_sem, k0, hT, add_mk]
    refine hK _ _ ?_; clear hK K
    refine W_if (by simp [go_sem]; rfl) rfl ?_
    first | refine W_rt (by kernel_rfl) (fun K hK => ?_) | refine W_text (by kernel_rfl) (fun K hK => ?_)
    simp [go_sem, k0, hT, add_mk]
    refine hK _ _ ?_; clear hK K
    refine W_if (by simp [go_sem]; rfl) rfl ?_
    refine W_skip ?_
    refine ⟨trivial, ?_, h, Below.refl _ _⟩
    simp [go_sem, pack, resL]

theorem byteCell_one (l : List UInt8) : ∀ u ∈ Lib.byteCells l, u.oneCell' = true := by
  intro u hu
  simp only [Lib.byteCells, List.mem_map] at hu
  obtain ⟨x, _, rfl⟩ := hu
  rfl
set_option maxHeartbeats 1000000 in
theorem writeByte_any (B b : Nat) (l : List UInt8) (c : UInt8) (w : World) (h : Bd B b l w) (hlen : l.length + 1 ≤ 140737488355328) (hBw : B ≤ w.heap.size) :
    Calls Try.prog 103 #[.pointer (some ⟨b, 0, none⟩), .int .u8 (c.toNat : Int)] w fun e w' => e = .returned .nilIface ∧ Bd B b (l ++ [c]) w' ∧ Below B w w' := by
  obtain ⟨cn, hcn⟩ : ∃ cn, cn = (c.toNat : Int) := ⟨_, rfl⟩
  rw [← hcn]
  refine calls_of_W (args := [.pointer (some ⟨b, 0, none⟩), .int .u8 cn]) (rs := [.tmp 4]) (n := 17) Try.func103 rfl rfl rfl (by kernel_rfl) ?_
  first | refine W_rt (by kernel_rfl) (fun K hK => ?_) | refine W_text (by kernel_rfl) (fun K hK => ?_)
  simp [go_sem]
  refine hK _ _ ?_; clear hK K
  first | refine W_rt (by kernel_rfl) (fun K hK => ?_) | refine W_text (by kernel_rfl) (fun K hK => ?_)
  simp [go_sem]
  refine hv_call (by simp [go_sem]) rfl Try.call104 (fun R hR => ?_)
  simp [go_sem]
  refine (copyCheck_any B b _ _ h).mono ?_
  rintro e w1 ⟨rfl, ⟨hB, v, hb, hown, hne⟩, hE1⟩
  refine ⟨_, rfl, hR _ _ ?_⟩
  clear hR R
  have hbx : Bx w1 b #[.pointer (some ⟨b, 0, none⟩), v] 102 := ⟨hb⟩
  have k1 : w1.cell? ⟨b, 1, none⟩ = some v := hbx.cell 1
  have hbl := hbx.lt
  simp [go_sem]
  refine hK _ _ ?_; clear hK K
  first | refine W_rt (by kernel_rfl) (fun K hK => ?_) | refine W_text (by kernel_rfl) (fun K hK => ?_)
  simp [go_sem, k1, add_mk]
  refine hv_buildSlice #[.int .u8 cn] (by simp [go_sem, k1, add_mk]) rfl ty_slZ100 (by decide) [(0, .int .u8 cn)] (by simp [go_sem, k1, add_mk]) (by kernel_rfl) (fun w2 b2 hE2 hle2 hB2 => ?_)
  have hown2 := own_keep' hown hE2
  replace hbx := hbx.keep hE2
  have hlB : B ≤ w2.heap.size := Nat.le_trans hBw (Nat.le_trans hE1.size hE2.size)
  simp [go_sem, k1, add_mk]
  refine hv_appendB (v := v) (b := b2) (len := 1) (c := 1) hB2 (by simp [go_sem, k1]) rfl ty_slZ100 ty_bytes5 rfl (by decide) (by simp [go_sem, k1]) (by simp [go_sem]) hown2 rfl (by simp [Value.oneCell']) (by rw [Lib.byteCells_length]; unfold maxLen; omega) (by rw [Lib.byteCells_length]; omega) hlB (by decide) (fun v3 w3 hown3 hg3 _ => ?_)
  have hb3 : w3.heap[b]? = some (.cells #[.pointer (some ⟨b, 0, none⟩), v] 102 (0, 0)) := by
    rw [hg3.block b hbx.lt (fun e => hne e.symm)]; exact hbx.heap
  have hbx3 : Bx w3 b #[.pointer (some ⟨b, 0, none⟩), v] 102 := ⟨hb3⟩
  have hE3 : Below B w w3 := ((hE1.trans (hE2.mono (by have := hE1.size; omega))).grown hg3 hlB (fun k e => (hown2.lt k e).1))
  have hne3 := Lib.ownBlock_ne hown3 hb3 (by decide)
  simp [go_sem, add_mk]
  refine hv_store (b := b) (off := 1) [v3] (by simp [go_sem]) rfl (by simp [go_sem, add_mk]) (by simp [go_sem]; exact own_cells hown3) ty_size100 hbx3 (by simp) (by simp; exact own_one hown3) (by decide) (fun w4 hS4 hB4 => ?_)
  simp [putC] at hB4
  simp [go_sem]
  refine hK _ _ ?_; clear hK K
  first | refine W_rt (by kernel_rfl) (fun K hK => ?_) | refine W_text (by kernel_rfl) (fun K hK => ?_)
  simp [go_sem]
  refine hK _ _ ?_; clear hK K
  refine W_ret ?_
  repeat (first | refine thenG_ret ?_ | refine inBlock_ret ?_)
  have hown4 := own_sto2 hown3 hS4 hne3
  refine ⟨trivial, ?_, .inr ⟨hB, v3, hB4.heap, ?_, hne3⟩, hE3.trans (hS4.below hB)⟩
  · simp [go_sem, pack, resL]
  · have e1 : (Lib.byteCells (l ++ [c])).length = (Lib.byteCells l).length + 1 := by simp [Lib.byteCells]
    have e2 : Lib.byteCells (l ++ [c]) = Lib.byteCells l ++ (#[Value.int .u8 cn] : Array Value).toList := by simp [Lib.byteCells, hcn]
    rw [e1, e2]
    exact hown4
end Go.Proofs.Ytkampmdekonjmaa
namespace Go.Proofs.Ytkampmdekonjmaa
open Go.RowKit Go.V
set_option linter.unusedSimpArgs false
set_option linter.unusedVariables false
set_option maxRecDepth 20000

/-- a function that returns this text -/
def RetS (w : World) (l : List UInt8) (e : Ending) (w' : World) : Prop := e = .returned (.string ⟨l.toArray⟩) ∧ Below w.heap.size w w'
theorem lat_snoc (GL : List Nat) (x i : Nat) : lat (GL ++ [x]) i = if i < GL.length then lat GL i else if i = GL.length then x else 0 := by
  unfold lat
  rw [List.getD_eq_getElem?_getD, List.getD_eq_getElem?_getD]
  by_cases h : i < GL.length
  · rw [if_pos h, List.getElem?_append_left h]
  · rw [if_neg h, List.getElem?_append_right (by omega)]
    by_cases h2 : i = GL.length
    · subst h2; simp
    · rw [if_neg h2, List.getElem?_eq_none (by simp; omega)]; rfl

theorem RD.grown2 {w w' : World} {a : Option Addr} {c : Nat} {l : List Nat} {row : Option Nat} (h : RD w a c l) (hg : w.grownBy w' row) (hne : ∀ ad, a = some ad → row ≠ some ad.block) : RD w' a c l := by
  refine ⟨?_, h.ok, h.cap⟩
  rcases h.sl with e | ⟨b', off, e, hc⟩
  · exact .inl e
  · by_cases hl : l = []
    · exact .inl (by rw [hl]; rfl)
    · refine .inr ⟨b', off, e, fun j v hv => ?_⟩
      have h1 := hc j v hv
      have h2 := World.block_lt_of_cell? w _ h1
      exact (World.cell?_of_block (w := w) (a := ⟨b', off + j, none⟩) (hg.block b' h2 (fun e' => hne _ e e'.symm))).trans h1

set_option maxHeartbeats 2000000 in
theorem text_any (l : List Nat) (a : Option Addr) (c : Nat) (w : World) (hr : RD w a c l) (hl : l.length ≤ 100000) :
    Calls Try.prog 69 #[.slice a l.length c] w (RetS w (txt (val l))) := by
  have hno := norm_any l a c w hr (by unfold lenB; omega)
  rw [← lim_val l hr.ok] at hno
  have hlt := val_lt l hr.ok
  have hlim : (lim (val l)).length ≤ l.length := by rw [lim_val l hr.ok]; exact nrm_len l
  rw [pow_16] at hlt
  generalize val l = A0 at *
  refine calls_of_W (args := [.slice a l.length c]) (rs := [.tmp 2]) (n := 59) Try.func69 rfl rfl rfl (by kernel_rfl) ?_
  first | refine W_rt (by kernel_rfl) (fun K hK => ?_) | refine W_text (by kernel_rfl) (fun K hK => ?_)
  simp [go_sem]
  refine hK _ _ ?_; clear hK K
  first | refine W_rt (by kernel_rfl) (fun K hK => ?_) | refine W_text (by kernel_rfl) (fun K hK => ?_)
  simp [go_sem]
  refine hv_call (by simp [go_sem]) rfl Try.call93 (fun R hR => ?_)
  simp [go_sem]
  refine (hno).mono ?_
  rintro e w1 ⟨a1, c1, rfl, hr1, hE1⟩
  refine ⟨_, rfl, hR _ _ ?_⟩
  clear hR R
  have hE := hE1
  clear hno hr
  simp [go_sem]
  refine hK _ _ ?_; clear hK K
  refine W_seq (fun K1 hK1 => ?_)
  by_cases h0 : A0 = 0
  · subst h0
    rw [lim_zero]
    first | refine W_rt (by kernel_rfl) (fun K hK => ?_) | refine W_text (by kernel_rfl) (fun K hK => ?_)
    simp [go_sem]
    refine hK _ _ ?_; clear hK K
    refine W_if (by simp [go_sem]; rfl) rfl ?_
    first | refine W_rt (by kernel_rfl) (fun K hK => ?_) | refine W_text (by kernel_rfl) (fun K hK => ?_)
    simp [go_sem]
    refine hK _ _ ?_; clear hK K
    refine W_ret ?_
    repeat (first | refine thenG_ret ?_ | refine inBlock_ret ?_)
    exact ⟨trivial, by simp [go_sem, pack, resL, txt], hE⟩
  · have hp : 0 < (lim A0).length := lim_ne h0
    have hp' : ¬ ((lim A0).length : Int) = 0 := by omega
    have hp'' : ¬ lim A0 = [] := by intro e; rw [e] at hp; simp at hp
    first | refine W_rt (by kernel_rfl) (fun K hK => ?_) | refine W_text (by kernel_rfl) (fun K hK => ?_)
    simp [go_sem, hp', hp'']
    refine hK _ _ ?_; clear hK K
    refine W_if (by simp [go_sem, hp', hp'']; rfl) rfl ?_
    refine W_skip ?_
    refine hK1 _ _ ?_; clear hK1 K1
    first | refine W_rt (by kernel_rfl) (fun K hK => ?_) | refine W_text (by kernel_rfl) (fun K hK => ?_)
    simp [go_sem]
    refine hK _ _ ?_; clear hK K
    refine W_seq (fun K1 hK1 => ?_)
    -- the groups
    refine W_block ?_
    refine W_loop (fun t g w' => Below w.heap.size w w' ∧ ∃ k a1 c1 v GL, t = A0 / 10000 ^ k ∧ g 0 = .slice a1 (lim t).length c1 ∧ RD w' a1 c1 (lim t) ∧ g 3 = v ∧ w'.ownsRow w.heap.size 88 1 v k (lmC GL) ∧ GL.length = k ∧ Ok GL ∧ k ≤ 16 * l.length ∧ (∀ i, i < k → lat GL i = A0 / 10000 ^ i % 10000)) A0 ?_ ?_
    · exact ⟨hE, 0, a1, c1, .slice none 0 0, [], by simp, by simp [go_sem], hr1, by simp [go_sem], World.ownsRow_nil _ _ _ _, rfl, Ok.nil, by omega, fun i hi => by omega⟩
    · clear hE hr1 hE1
      rintro A g w' ⟨hE, k, a1, c1, v, GL, rfl, g0, hrA, g3, hown, hGl, hGok, hk, hG⟩
      refine W_seq (fun K2 hK2 => ?_)
      by_cases hA0 : A0 / 10000 ^ k = 0
      · rw [hA0, lim_zero] at g0
        first | refine W_rt (by kernel_rfl) (fun K hK => ?_) | refine W_text (by kernel_rfl) (fun K hK => ?_)
        simp [go_sem, g0]
        refine hK _ _ ?_; clear hK K
        refine W_if (by simp [go_sem]; rfl) rfl ?_
        refine W_exit ?_
        repeat (first | refine thenG_exit ?_ | refine inBlock_other rfl ?_ | refine inBlock_same ?_)
        refine hK1 _ _ ?_; clear hK1 K1 hK2 K2
        obtain ⟨ag, cg, rfl, hGr⟩ := RD.of_own hown hGok
        rw [hGl] at g3
        first | refine W_rt (by kernel_rfl) (fun K hK => ?_) | refine W_text (by kernel_rfl) (fun K hK => ?_)
        simp [go_sem]
        refine hv_alloc (by simp [go_sem]) rfl ty_zeroC102 (fun w5 b5 hE5 hle5 hB5 => ?_)
        have hbd := bdNew hle5 hB5
        have hE9 := hE.next hE5
        simp [go_sem]
        refine hK _ _ ?_; clear hK K
        have hGw : RD w' ag cg GL := hGr
        have hE5' := hE5
        have hBd := hbd
        have hlen := fun n (h : n ≤ A0) => dgz_len (16 * l.length) n (by omega)
        have fk : IntKind.i64.wrap ((k : Int) - 1) = (k : Int) - 1 := IntWalk.i64_in _ (by omega)
        refine W_seq (fun K1 hK1 => ?_)
        first | refine W_rt (by kernel_rfl) (fun K hK => ?_) | refine W_text (by kernel_rfl) (fun K hK => ?_)
        simp [go_sem, g3, fk]
        refine hK _ _ ?_; clear hK K
        refine W_block ?_
        refine W_loop (fun t g wi => Below w'.heap.size w' wi ∧ t ≤ k ∧ g 3 = .slice ag k cg ∧ g 6 = .pointer (some ⟨b5, 0, none⟩) ∧ g 7 = .int .i64 ((t : Int) - 1) ∧ Bd w'.heap.size b5 (dgz (A0 / 10000 ^ t)) wi) k ?_ ?_
        · exact ⟨hE5, Nat.le_refl _, by simp [go_sem, g3], by simp [go_sem], by simp [go_sem], by rw [hA0, dgz_0]; exact hbd⟩
        · clear hE5 hbd hB5 hE5' hBd g3 hE9 g0 hown
          clear g
          rintro t g wi ⟨hEi, htk, g3, g6, g7, hbd⟩
          refine W_seq (fun K2 hK2 => ?_)
          rcases t with _ | i
          · have hbs := hEi.size
            first | refine W_rt (by kernel_rfl) (fun K hK => ?_) | refine W_text (by kernel_rfl) (fun K hK => ?_)
            simp [go_sem, g7]
            refine hK _ _ ?_; clear hK K
            refine W_if (by simp [go_sem]; rfl) rfl ?_
            refine W_exit ?_
            repeat (first | refine thenG_exit ?_ | refine inBlock_other rfl ?_ | refine inBlock_same ?_)
            refine hK1 _ _ ?_; clear hK1 K1 hK2 K2
            rw [Nat.pow_zero, Nat.div_one] at hbd
            first | refine W_rt (by kernel_rfl) (fun K hK => ?_) | refine W_text (by kernel_rfl) (fun K hK => ?_)
            simp [go_sem, g6]
            refine hv_call (by simp [go_sem, g6]) rfl Try.call72 (fun R hR => ?_)
            simp [go_sem, g6]
            refine (bdString_any _ _ _ _ hbd hbs).mono ?_
            rintro e w6 ⟨rfl, hE6⟩
            refine ⟨_, rfl, hR _ _ ?_⟩
            clear hR R
            simp [go_sem]
            refine hK _ _ ?_; clear hK K
            refine W_ret ?_
            repeat (first | refine thenG_ret ?_ | refine inBlock_ret ?_)
            refine ⟨trivial, ?_, hE.next (hEi.trans hE6)⟩
            simp [go_sem, pack, resL, txt, h0]
          · have ej : ((i + 1 : Nat) : Int) - 1 = (i : Int) := by omega
            rw [ej] at g7
            have p0 : (0 : Int) ≤ i := by omega
            have hgi := hG i (by omega)
            have hV := grp_val A0 i
            have hgm : A0 / 10000 ^ i % 10000 < 10000 := Nat.mod_lt _ (by decide)
            have hVA : A0 / 10000 ^ i ≤ A0 := Nat.div_le_self _ _
            rw [← hgi] at hV hgm
            obtain ⟨cc1, cc2⟩ := hGw.at (i := i) (by omega)
            have q1 : i < k := by omega
            have q1' : (i : Int) < k := by omega
            obtain ⟨gr, hgr⟩ : ∃ gr, gr = lat GL i := ⟨_, rfl⟩
            rw [← hgr] at hV hgm cc1
            obtain ⟨V, hVe⟩ : ∃ V, V = A0 / 10000 ^ i := ⟨_, rfl⟩
            rw [← hVe] at hV hVA
            have hstart : dgz (A0 / 10000 ^ (i + 1)) = dgz (V / 10 ^ 4) := by
              congr 1
              rw [hVe, Nat.pow_succ, Nat.div_div_eq_div_mul]
            rw [hstart] at hbd
            first | refine W_rt (by kernel_rfl) (fun K hK => ?_) | refine W_text (by kernel_rfl) (fun K hK => ?_)
            simp [go_sem, g7, p0]
            refine hK _ _ ?_; clear hK K
            refine W_if (by simp [go_sem, p0]; rfl) rfl ?_
            refine W_skip ?_
            refine hK2 _ _ ?_; clear hK2 K2
            refine W_seq (fun K2 hK2 => ?_)
            refine W_block ?_
            first | refine W_rt (by kernel_rfl) (fun K hK => ?_) | refine W_text (by kernel_rfl) (fun K hK => ?_)
            simp [go_sem]
            refine hK _ _ ?_; clear hK K
            refine W_block ?_
            refine W_loop (fun m g wi => Below w'.heap.size w' wi ∧ m ≤ 4 ∧ g 3 = .slice ag k cg ∧ g 6 = .pointer (some ⟨b5, 0, none⟩) ∧ g 7 = .int .i64 (i : Int) ∧ g 8 = .int .u16 ((10 ^ m / 10 : Nat) : Int) ∧ Bd w'.heap.size b5 (dgz (V / 10 ^ m)) wi) 4 ?_ ?_
            · exact ⟨hEi, by omega, by simp [go_sem, g3], by simp [go_sem, g6], by simp [go_sem, g7], by simp [go_sem], hbd⟩
            · clear hEi hbd g3 g6 g7
              clear g
              rintro m g wi ⟨hEi, hm4, g3, g6, g7, g8, hbd⟩
              have hbs := hEi.size
              refine W_seq (fun K3 hK3 => ?_)
              rcases m with _ | m
              · rw [Nat.pow_zero, Nat.div_one] at hbd
                first | refine W_rt (by kernel_rfl) (fun K hK => ?_) | refine W_text (by kernel_rfl) (fun K hK => ?_)
                simp [go_sem, g8]
                refine hK _ _ ?_; clear hK K
                refine W_if (by simp [go_sem]; rfl) rfl ?_
                refine W_exit ?_
                repeat (first | refine thenG_exit ?_ | refine inBlock_other rfl ?_ | refine inBlock_same ?_)
                refine hK2 _ _ ?_; clear hK2 K2 hK3 K3
                have f9 : IntKind.i64.wrap ((i : Int) - 1) = (i : Int) - 1 := IntWalk.i64_in _ (by omega)
                first | refine W_rt (by kernel_rfl) (fun K hK => ?_) | refine W_text (by kernel_rfl) (fun K hK => ?_)
                simp [go_sem, g7, f9]
                exact hK _ _ ⟨i, by omega, hEi, by omega, by simp [go_sem, g3], by simp [go_sem, g6], by simp [go_sem], by rw [← hVe]; exact hbd⟩
              · obtain ⟨s1, s2, s3⟩ := dgz_step V (A0 / 10000 ^ (i + 1)) gr m hV hgm (by omega)
                have hDe : 10 ^ (m + 1) / 10 = 10 ^ m := by rw [Nat.pow_succ]; exact Nat.mul_div_cancel _ (by decide)
                rw [hDe] at g8
                have hDb : 10 ^ m ≤ 1000 := Nat.pow_le_pow_right (by decide) (show m ≤ 3 by omega)
                have hD0 : 0 < 10 ^ m := Nat.pow_pos (by decide)
                obtain ⟨D, hD⟩ : ∃ D, D = 10 ^ m := ⟨_, rfl⟩
                rw [← hD] at g8 hDb hD0 s1 s2 s3
                have hD0' : (0 : Int) < D := by omega
                have hDn : ¬ (D : Int) = 0 := by omega
                have hDn' : ¬ D = 0 := by omega
                obtain ⟨Q, hQ⟩ : ∃ Q, Q = V / 10 ^ (m + 1) := ⟨_, rfl⟩
                rw [← hQ] at s1 s3 hbd
                have hQl := hlen Q (by rw [hQ]; exact Nat.le_trans (Nat.div_le_self _ _) hVA)
                obtain ⟨N, hN⟩ : ∃ N, N = V / D := ⟨_, rfl⟩
                rw [← hN] at s1 s2 s3
                have f10 : (D : Int).tdiv 10 = ((D / 10 : Nat) : Int) := rfl
                have f10' : IntKind.u16.wrap ((D / 10 : Nat) : Int) = ((D / 10 : Nat) : Int) := w16_in _ (by omega)
                obtain ⟨D1, hD1⟩ : ∃ D1, D1 = D / 10 := ⟨_, rfl⟩
                rw [← hD1] at f10 f10'
                first | refine W_rt (by kernel_rfl) (fun K hK => ?_) | refine W_text (by kernel_rfl) (fun K hK => ?_)
                simp [go_sem, g8, hD0, hD0']
                refine hK _ _ ?_; clear hK K
                refine W_if (by simp [go_sem, hD0, hD0']; rfl) rfl ?_
                refine W_skip ?_
                refine hK3 _ _ ?_; clear hK3 K3
                refine W_seq (fun K3 hK3 => ?_)
                refine W_block ?_
                replace hGr := hGw.ext hEi
                obtain ⟨cc1, cc2⟩ := hGr.at (i := i) (by omega)
                rw [← hgr] at cc1
                -- the last step
                have last : ∀ (g : G) (wi : World), Below w'.heap.size w' wi → g 3 = .slice ag k cg → g 6 = .pointer (some ⟨b5, 0, none⟩) → g 7 = .int .i64 (i : Int) → g 8 = .int .u16 (D : Int) → Bd w'.heap.size b5 (dgz N) wi → K3 g wi := by
                  clear g3 g6 g7 g8 hEi hbd cc1 cc2 hGr hbs
                  clear g
                  intro g wi hEi g3 g6 g7 g8 hbd
                  refine hK3 _ _ ?_; clear hK3 K3
                  first | refine W_rt (by kernel_rfl) (fun K hK => ?_) | refine W_text (by kernel_rfl) (fun K hK => ?_)
                  simp [go_sem, g8, f10, f10']
                  exact hK _ _ ⟨m, by omega, hEi, by omega, by simp [go_sem, g3], by simp [go_sem, g6], by simp [go_sem, g7], by simp [go_sem, hD1, hD], by rw [← hD, ← hN]; exact hbd⟩
                first | refine W_rt (by kernel_rfl) (fun K hK => ?_) | refine W_text (by kernel_rfl) (fun K hK => ?_)
                simp [go_sem, g6]
                refine hv_call (by simp [go_sem, g6]) rfl Try.call102 (fun R hR => ?_)
                simp [go_sem, g6]
                refine (bdLen_any _ _ _ _ hbd).mono ?_
                rintro e w8 ⟨rfl, rfl⟩
                refine ⟨_, rfl, hR _ _ ?_⟩
                clear hR R
                by_cases hq0 : Q = 0
                · have hl0 : (dgz Q).length = 0 := by rw [hq0, dgz_0]; rfl
                  by_cases hge : D ≤ gr
                  · have hge' : (D : Int) ≤ gr := by omega
                    have hcond : ¬ (Q = 0 ∧ ¬ D ≤ gr) := fun h => h.2 hge
                    simp [go_sem, g3, g7, g8, q1, q1', cc1, cc2, hl0, hge, hge']
                    refine hK _ _ ?_; clear hK K
                    refine W_if (by simp [go_sem, hge, hge']; rfl) rfl ?_
                    have hN0 : N ≠ 0 := by
                      intro e0
                      have := s1.1 e0
                      omega
                    have hx10 : gr / D % 10 < 10 := Nat.mod_lt _ (by decide)
                    obtain ⟨gd, hgd⟩ : ∃ gd, gd = gr / D := ⟨_, rfl⟩
                    have hgdl : gd ≤ gr := by rw [hgd]; exact Nat.div_le_self _ _
                    have e53 : (gr : Int).tdiv D = (gd : Int) := by rw [hgd]; rfl
                    have e53' : IntKind.u16.wrap (gd : Int) = (gd : Int) := w16_in _ (by omega)
                    obtain ⟨x, hx⟩ : ∃ x, x = gd % 10 := ⟨_, rfl⟩
                    have e54 : (gd : Int).tmod 10 = (x : Int) := by rw [hx]; rfl
                    rw [← hgd, ← hx] at s2 hx10
                    obtain ⟨Y, hY⟩ : ∃ Y, Y = 48 + x := ⟨_, rfl⟩
                    have e55 : IntKind.u16.wrap (48 + (x : Int)) = (Y : Int) := by rw [w16_in _ (by omega)]; omega
                    have e56 : IntKind.u8.wrap (Y : Int) = Y := w8_in _ (by omega)
                    have hwb := writeByte_any w'.heap.size b5 (dgz Q) (UInt8.ofNat (48 + x)) _ hbd (by omega) hbs
                    rw [u8_48 x hx10, ← hY] at hwb
                    have hdz : dgz N = dgz Q ++ [UInt8.ofNat Y] := by rw [dgz_s N hN0, s2, s3, hY]
                    rw [← hdz] at hwb
                    first | refine W_rt (by kernel_rfl) (fun K hK => ?_) | refine W_text (by kernel_rfl) (fun K hK => ?_)
                    simp [go_sem, g3, g6, g7, g8, q1, q1', cc1, cc2, hDn, hDn', e53, e53', e54, e55, e56]
                    refine hv_call (by simp [go_sem, g3, g6, g7, g8, q1, q1', cc1, cc2, hDn, hDn', e53, e53', e54, e55, e56]) rfl Try.call103 (fun R hR => ?_)
                    simp [go_sem, g3, g6, g7, g8, q1, q1', cc1, cc2, hDn, hDn', e53, e53', e54, e55, e56]
                    refine (hwb).mono ?_
                    rintro e w7 ⟨rfl, hbd7, hE7⟩
                    refine ⟨_, rfl, hR _ _ ?_⟩
                    clear hR R
                    simp [go_sem]
                    refine hK _ _ ?_
                    exact last _ _ (hEi.trans hE7) (by simp [go_sem, g3]) (by simp [go_sem, g6]) (by simp [go_sem, g7]) (by simp [go_sem, g8]) hbd7
                  · have hge' : ¬ (D : Int) ≤ gr := by omega
                    have hN0 : N = 0 := s1.2 ⟨hq0, hge⟩
                    simp [go_sem, g3, g7, g8, q1, q1', cc1, cc2, hl0, hge, hge']
                    refine hK _ _ ?_; clear hK K
                    refine W_if (by simp [go_sem, hge, hge']; rfl) rfl ?_
                    refine W_skip ?_
                    exact last _ _ hEi (by simp [go_sem, g3]) (by simp [go_sem, g6]) (by simp [go_sem, g7]) (by simp [go_sem, g8]) (by rw [hN0]; rw [hq0] at hbd; exact hbd)
                · have hlp : 0 < (dgz Q).length := by
                    rcases Nat.eq_zero_or_pos (dgz Q).length with h | h
                    · exact absurd (dgz_nil.1 (List.length_eq_zero_iff.1 h)) hq0
                    · exact h
                  have hlp' : (0 : Int) < (dgz Q).length := by omega
                  have hcond : ¬ (Q = 0 ∧ ¬ D ≤ gr) := fun h => hq0 h.1
                  simp [go_sem, hlp, hlp']
                  refine hK _ _ ?_; clear hK K
                  refine W_if (by simp [go_sem, hlp, hlp']; rfl) rfl ?_
                  have hN0 : N ≠ 0 := by
                    intro e0
                    have := s1.1 e0
                    omega
                  have hx10 : gr / D % 10 < 10 := Nat.mod_lt _ (by decide)
                  obtain ⟨gd, hgd⟩ : ∃ gd, gd = gr / D := ⟨_, rfl⟩
                  have hgdl : gd ≤ gr := by rw [hgd]; exact Nat.div_le_self _ _
                  have e53 : (gr : Int).tdiv D = (gd : Int) := by rw [hgd]; rfl
                  have e53' : IntKind.u16.wrap (gd : Int) = (gd : Int) := w16_in _ (by omega)
                  obtain ⟨x, hx⟩ : ∃ x, x = gd % 10 := ⟨_, rfl⟩
                  have e54 : (gd : Int).tmod 10 = (x : Int) := by rw [hx]; rfl
                  rw [← hgd, ← hx] at s2 hx10
                  obtain ⟨Y, hY⟩ : ∃ Y, Y = 48 + x := ⟨_, rfl⟩
                  have e55 : IntKind.u16.wrap (48 + (x : Int)) = (Y : Int) := by rw [w16_in _ (by omega)]; omega
                  have e56 : IntKind.u8.wrap (Y : Int) = Y := w8_in _ (by omega)
                  have hwb := writeByte_any w'.heap.size b5 (dgz Q) (UInt8.ofNat (48 + x)) _ hbd (by omega) hbs
                  rw [u8_48 x hx10, ← hY] at hwb
                  have hdz : dgz N = dgz Q ++ [UInt8.ofNat Y] := by rw [dgz_s N hN0, s2, s3, hY]
                  rw [← hdz] at hwb
                  first | refine W_rt (by kernel_rfl) (fun K hK => ?_) | refine W_text (by kernel_rfl) (fun K hK => ?_)
                  simp [go_sem, g3, g6, g7, g8, q1, q1', cc1, cc2, hDn, hDn', e53, e53', e54, e55, e56]
                  refine hv_call (by simp [go_sem, g3, g6, g7, g8, q1, q1', cc1, cc2, hDn, hDn', e53, e53', e54, e55, e56]) rfl Try.call103 (fun R hR => ?_)
                  simp [go_sem, g3, g6, g7, g8, q1, q1', cc1, cc2, hDn, hDn', e53, e53', e54, e55, e56]
                  refine (hwb).mono ?_
                  rintro e w7 ⟨rfl, hbd7, hE7⟩
                  refine ⟨_, rfl, hR _ _ ?_⟩
                  clear hR R
                  simp [go_sem]
                  refine hK _ _ ?_
                  exact last _ _ (hEi.trans hE7) (by simp [go_sem, g3]) (by simp [go_sem, g6]) (by simp [go_sem, g7]) (by simp [go_sem, g8]) hbd7
      · have hkb := grp_len hA0 hlt
        have hp : 0 < (lim (A0 / 10000 ^ k)).length := lim_ne hA0
        have hp' : (0 : Int) < (lim (A0 / 10000 ^ k)).length := by omega
        have hAl : (lim (A0 / 10000 ^ k)).length ≤ 100000 := lim_mono (Nat.div_le_self _ _) (by omega)
        first | refine W_rt (by kernel_rfl) (fun K hK => ?_) | refine W_text (by kernel_rfl) (fun K hK => ?_)
        simp [go_sem, g0, hp, hp']
        refine hK _ _ ?_; clear hK K
        refine W_if (by simp [go_sem, hp, hp']; rfl) rfl ?_
        refine W_skip ?_
        refine hK2 _ _ ?_; clear hK2 K2
        refine W_block ?_
        have hmod : A0 / 10000 ^ k % 10000 < 10000 := Nat.mod_lt _ (by decide)
        have hbl := byLimb_fresh (lim (A0 / 10000 ^ k)) a1 c1 10000 _ hrA (by unfold lenB; omega) (by decide) (by decide)
        rw [val_lim, Nat.div_div_eq_div_mul, ← Nat.pow_succ] at hbl
        obtain ⟨x, hx⟩ : ∃ x, x = A0 / 10000 ^ k % 10000 := ⟨_, rfl⟩
        rw [← hx] at hbl hmod
        first | refine W_rt (by kernel_rfl) (fun K hK => ?_) | refine W_text (by kernel_rfl) (fun K hK => ?_)
        simp [go_sem, g0]
        refine hv_call (by simp [go_sem, g0]) rfl Try.call101 (fun R hR => ?_)
        simp [go_sem, g0]
        refine (hbl).mono ?_
        rintro e w2 ⟨a2, c2, rfl, hr2, hE2, hfr⟩
        refine ⟨_, rfl, hR _ _ ?_⟩
        clear hR R
        have hlt2 := fun kk e => (hown.lt kk e).2
        replace hown := own_keep hown hE2
        replace hE := hE.next hE2
        simp [go_sem]
        refine hK _ _ ?_; clear hK K
        first | refine W_rt (by kernel_rfl) (fun K hK => ?_) | refine W_text (by kernel_rfl) (fun K hK => ?_)
        simp [go_sem, g3]
        refine hv_buildSlice #[.int .u16 x] (by simp [go_sem, g3]) rfl ty_slZ23 (by decide) [(0, .int .u16 x)] (by simp [go_sem, g3]) (by kernel_rfl) (fun w4 b4 hE4 hle4 hB4 => ?_)
        replace hr2 := hr2.ext hE4
        have hown4 := own_keep hown hE4
        replace hE := hE.next hE4
        simp [go_sem, g3]
        refine hv_appendB (v := v) (b := b4) (len := 1) (c := 1) hB4 (by simp [go_sem]) rfl ty_slZ23 ty_bytes88 rfl (by decide) (by simp [go_sem, g3]) (by simp [go_sem]) hown4 rfl (by simp [Value.oneCell']) (by unfold maxLen; omega) (by omega) hE.size (by decide) (fun v6 w6 hown6 hg6 _ => ?_)
        replace hE := hE.nextG hg6 (fun b e => (hown4.lt b e).1)
        replace hr2 := hr2.grown2 hg6 (fun ad ha e => by
          have h1 := hfr ad ha
          have h2 := hlt2 _ e
          omega)
        simp [go_sem]
        refine hK _ _ ?_; clear hK K
        first | refine W_rt (by kernel_rfl) (fun K hK => ?_) | refine W_text (by kernel_rfl) (fun K hK => ?_)
        simp [go_sem]
        refine hK _ _ ⟨A0 / 10000 ^ (k + 1), ?_, hE, k + 1, a2, c2, v6, GL ++ [x], rfl, by simp [go_sem], hr2, by simp [go_sem], ?_, by simp [hGl], hGok.app (Ok.cons (by omega) Ok.nil), by omega, ?_⟩
        · rw [Nat.pow_succ, ← Nat.div_div_eq_div_mul]
          exact Nat.div_lt_self (Nat.pos_of_ne_zero hA0) (by decide)
        · rw [lmC_snoc]; exact hown6
        · intro i hi
          rw [lat_snoc]
          by_cases h : i < k
          · rw [if_pos (by omega)]; exact hG i h
          · have e : i = k := by omega
            subst e
            rw [if_neg (by omega), if_pos (by omega)]; exact hx
end Go.Proofs.Ytkampmdekonjmaa
namespace Go.Proofs.Ytkampmdekonjmaa
open Go.RowKit Go.V
set_option linter.unusedSimpArgs false
set_option linter.unusedVariables false
set_option maxRecDepth 20000

/-- these bytes as a string -/
def sB (l : List UInt8) : ByteArray := ⟨l.toArray⟩
theorem sB_size (l : List UInt8) : (sB l).size = l.length := by show (l.toArray).size = _; simp
theorem sB_app (a b : List UInt8) : sB a ++ sB b = sB (a ++ b) := by
  apply ByteArray.ext
  simp [sB]
theorem b2s_one {P : Program} (w : World) (b : Nat) (n : Int) (h : w.cell? ⟨b, 0, none⟩ = some (.int .u8 n)) : (Conv.bytesToString (.slice (some ⟨b, 0, none⟩) 1 1)).run P w = .ok (.string (sB [UInt8.ofNat n.toNat])) w := by
  have hl : (loadCells ⟨b, 0, none⟩ 1).run P w = .ok ([n].map (Value.int .u8)).toArray w := by
    have := tame_run P _ w _ (tame_loadCellsFrom (P := P) (w := w) (a := ⟨b, 0, none⟩) 1 0 #[] ⟨by rw [Addr.add_zero']; rw [h]; rfl, trivial⟩)
    simp only [rowV, cellV, Addr.add_zero', h] at this
    exact this
  exact run_bytesToString w _ 1 1 [n] hl

set_option maxHeartbeats 600000 in
theorem textR_any (l : List Nat) (a : Option Addr) (c : Nat) (w : World) (hr : RD w a c l) (hl : l.length ≤ 100000) :
    Calls Try.prog 74 #[.slice a l.length c] w (RetS w (txt (val l))) := by
  have hno := normR_any l a c w hr (by unfold lenB; omega)
  rw [← lim_val l hr.ok] at hno
  have hlt := val_lt l hr.ok
  have hlim : (lim (val l)).length ≤ l.length := by rw [lim_val l hr.ok]; exact nrm_len l
  rw [pow_16] at hlt
  have s0 : (.string ⟨#[]⟩ : Value) = .string (sB []) := rfl
  generalize val l = A0 at *
  have hlen := dgz_len (16 * l.length) A0 hlt
  refine calls_of_W (args := [.slice a l.length c]) (rs := [.tmp 2]) (n := 32) Try.func74 rfl rfl rfl (by kernel_rfl) ?_
  first | refine W_rt (by kernel_rfl) (fun K hK => ?_) | refine W_text (by kernel_rfl) (fun K hK => ?_)
  simp [go_sem]
  refine hK _ _ ?_; clear hK K
  first | refine W_rt (by kernel_rfl) (fun K hK => ?_) | refine W_text (by kernel_rfl) (fun K hK => ?_)
  simp [go_sem]
  refine hv_call (by simp [go_sem]) rfl Try.call97 (fun R hR => ?_)
  simp [go_sem]
  refine (hno).mono ?_
  rintro e w1 ⟨a1, c1, rfl, hr1, hE1⟩
  refine ⟨_, rfl, hR _ _ ?_⟩
  clear hR R
  have hE := hE1
  clear hno hr
  simp [go_sem]
  refine hK _ _ ?_; clear hK K
  refine W_seq (fun K1 hK1 => ?_)
  by_cases h0 : A0 = 0
  · subst h0
    rw [lim_zero]
    first | refine W_rt (by kernel_rfl) (fun K hK => ?_) | refine W_text (by kernel_rfl) (fun K hK => ?_)
    simp [go_sem]
    refine hK _ _ ?_; clear hK K
    refine W_if (by simp [go_sem]; rfl) rfl ?_
    first | refine W_rt (by kernel_rfl) (fun K hK => ?_) | refine W_text (by kernel_rfl) (fun K hK => ?_)
    simp [go_sem]
    refine hK _ _ ?_; clear hK K
    refine W_ret ?_
    repeat (first | refine thenG_ret ?_ | refine inBlock_ret ?_)
    exact ⟨trivial, by simp [go_sem, pack, resL, txt], hE⟩
  · have hp : 0 < (lim A0).length := lim_ne h0
    have hp' : ¬ ((lim A0).length : Int) = 0 := by omega
    have hp'' : ¬ lim A0 = [] := by intro e; rw [e] at hp; simp at hp
    first | refine W_rt (by kernel_rfl) (fun K hK => ?_) | refine W_text (by kernel_rfl) (fun K hK => ?_)
    simp [go_sem, hp', hp'']
    refine hK _ _ ?_; clear hK K
    refine W_if (by simp [go_sem, hp', hp'']; rfl) rfl ?_
    refine W_skip ?_
    refine hK1 _ _ ?_; clear hK1 K1
    first | refine W_rt (by kernel_rfl) (fun K hK => ?_) | refine W_text (by kernel_rfl) (fun K hK => ?_)
    simp [go_sem]
    rw [s0]
    refine hK _ _ ?_; clear hK K
    refine W_seq (fun K1 hK1 => ?_)
    refine W_block ?_
    refine W_loop (fun t g w' => Below w.heap.size w w' ∧ ∃ a1 c1 acc, t ≤ A0 ∧ g 0 = .slice a1 (lim t).length c1 ∧ RD w' a1 c1 (lim t) ∧ g 3 = .string (sB acc) ∧ dgz t ++ acc = dgz A0) A0 ?_ ?_
    · exact ⟨hE, a1, c1, [], Nat.le_refl _, by simp [go_sem], hr1, by simp [go_sem], by simp⟩
    · clear hE hr1 hE1
      rintro A g w' ⟨hE, a1, c1, acc, hAle, g0, hrA, g3, hacc⟩
      refine W_seq (fun K2 hK2 => ?_)
      by_cases hA0 : A = 0
      · subst hA0
        rw [dgz_0, List.nil_append] at hacc
        rw [lim_zero] at g0
        first | refine W_rt (by kernel_rfl) (fun K hK => ?_) | refine W_text (by kernel_rfl) (fun K hK => ?_)
        simp [go_sem, g0]
        refine hK _ _ ?_; clear hK K
        refine W_if (by simp [go_sem]; rfl) rfl ?_
        refine W_exit ?_
        repeat (first | refine thenG_exit ?_ | refine inBlock_other rfl ?_ | refine inBlock_same ?_)
        refine hK1 _ _ ?_; clear hK1 K1 hK2 K2
        first | refine W_rt (by kernel_rfl) (fun K hK => ?_) | refine W_text (by kernel_rfl) (fun K hK => ?_)
        simp [go_sem, g3]
        refine hK _ _ ?_; clear hK K
        refine W_ret ?_
        repeat (first | refine thenG_ret ?_ | refine inBlock_ret ?_)
        refine ⟨trivial, ?_, hE⟩
        simp [go_sem, pack, resL, txt, h0, g3, hacc, sB]
      · have hp : 0 < (lim A).length := lim_ne hA0
        have hp' : (0 : Int) < (lim A).length := by omega
        have hAl : (lim A).length ≤ 100000 := lim_mono hAle (by omega)
        have hx : A % 10 < 10 := Nat.mod_lt _ (by decide)
        have hacl : acc.length ≤ 1600000 := by
          have := congrArg List.length hacc
          rw [List.length_append] at this
          omega
        rw [dgz_s A hA0, List.append_assoc] at hacc
        first | refine W_rt (by kernel_rfl) (fun K hK => ?_) | refine W_text (by kernel_rfl) (fun K hK => ?_)
        simp [go_sem, g0, hp, hp']
        refine hK _ _ ?_; clear hK K
        refine W_if (by simp [go_sem, hp, hp']; rfl) rfl ?_
        refine W_skip ?_
        refine hK2 _ _ ?_; clear hK2 K2
        refine W_block ?_
        first | refine W_rt (by kernel_rfl) (fun K hK => ?_) | refine W_text (by kernel_rfl) (fun K hK => ?_)
        simp [go_sem, g0]
        refine hv_call (by simp [go_sem, g0]) rfl Try.call65 (fun R hR => ?_)
        simp [go_sem, g0]
        refine (ofR_any 10 _ (by decide)).mono ?_
        rintro e w2 ⟨a2, c2, rfl, hr2, hE2⟩
        refine ⟨_, rfl, hR _ _ ?_⟩
        clear hR R
        replace hrA := hrA.ext hE2
        replace hE := hE.next hE2
        have hdm := divmodR_any (lim A) (lim 10) a1 a2 c1 c2 _ hrA hr2 (by unfold lenS; omega) (Nat.le_trans (Nat.succ_le_succ (lim_len 4 10 (by decide))) (by decide))
        rw [val_lim, val_lim] at hdm
        simp [go_sem, g0]
        refine hv_call (by simp [go_sem, g0]) rfl Try.call98 (fun R hR => ?_)
        simp [go_sem, g0]
        refine hdm.mono ?_
        rintro e w4 (⟨hbad, _⟩ | ⟨_, a4, c4, a5, c5, rfl, hr4, hr5, hE4⟩)
        · cases hbad
        refine ⟨_, rfl, hR _ _ ?_⟩
        clear hR R
        replace hE := hE.next hE4
        have hsh := short_any (lim (A % 10)) a5 c5 _ hr5 (lim_len 4 _ (by omega))
        rw [val_lim] at hsh
        obtain ⟨x, hxe⟩ : ∃ x, x = A % 10 := ⟨_, rfl⟩
        rw [← hxe] at hsh hx hacc ⊢
        obtain ⟨Y, hY⟩ : ∃ Y, Y = 48 + x := ⟨_, rfl⟩
        have e24 : IntKind.u64.wrap (48 + (x : Int)) = (Y : Int) := by rw [w64_in _ (by omega)]; omega
        have e25 : IntKind.u8.wrap (Y : Int) = Y := w8_in _ (by omega)
        simp [go_sem]
        refine hK _ _ ?_; clear hK K
        first | refine W_rt (by kernel_rfl) (fun K hK => ?_) | refine W_text (by kernel_rfl) (fun K hK => ?_)
        simp [go_sem]
        refine hv_call (by simp [go_sem]) rfl Try.call106 (fun R hR => ?_)
        simp [go_sem]
        refine (hsh).mono ?_
        rintro e w5 ⟨rfl, rfl⟩
        refine ⟨_, rfl, hR _ _ ?_⟩
        clear hR R
        simp [go_sem, e24, e25]
        refine hv_buildSlice #[.int .u8 Y] (by simp [go_sem, e24, e25]) rfl ty_slZ100 (by decide) [(0, .int .u8 Y)] (by simp [go_sem, e24, e25]) (by kernel_rfl) (fun w6 b6 hE6 hle6 hB6 => ?_)
        replace hr4 := hr4.ext hE6
        replace hE := hE.next hE6
        have kb := hB6.get0
        have hcv := b2s_one (P := Try.prog) w6 b6 (Y : Int) kb
        rw [← run_convert_bytes_string (P := Try.prog) w6 100 9 5 (some ⟨b6, 0, none⟩) 1 1 Try.underlying100 Try.underlying5 Try.underlying9, Int.toNat_natCast] at hcv
        simp [go_sem]
        refine hv_conv (by simp [go_sem]) rfl (by simp [go_sem]; exact hcv) (fun e => absurd e (by decide)) ?_
        have e29 : sB [UInt8.ofNat Y] ++ sB acc = sB (UInt8.ofNat Y :: acc) := sB_app _ _
        have e30 : (sB [UInt8.ofNat Y]).size + (sB acc).size ≤ 9223372036854775807 := by rw [sB_size, sB_size]; simp; omega
        simp [go_sem, g3, e29, e30]
        refine hK _ _ ?_; clear hK K
        first | refine W_rt (by kernel_rfl) (fun K hK => ?_) | refine W_text (by kernel_rfl) (fun K hK => ?_)
        simp [go_sem]
        refine hK _ _ ⟨A / 10, by omega, hE, a4, c4, UInt8.ofNat Y :: acc, by omega, by simp [go_sem], hr4, by simp [go_sem], ?_⟩
        rw [← hacc, hY]; rfl
end Go.Proofs.Ytkampmdekonjmaa
namespace Go.Proofs.Ytkampmdekonjmaa
open Go.RowKit Go.V
set_option linter.unusedSimpArgs false
set_option linter.unusedVariables false
set_option maxRecDepth 20000

/-- the integer square root -/
def isq : Nat → Nat
  | 0 => 0
  | n + 1 => if (isq n + 1) * (isq n + 1) ≤ n + 1 then isq n + 1 else isq n
theorem isq_spec (n : Nat) : isq n * isq n ≤ n ∧ n < (isq n + 1) * (isq n + 1) := by
  induction n with
  | zero => simp [isq]
  | succ n ih =>
    unfold isq
    split
    · rename_i h
      refine ⟨h, ?_⟩
      have : (isq n + 1 + 1) * (isq n + 1 + 1) = (isq n + 1) * (isq n + 1) + 2 * (isq n + 1) + 1 := by
        rw [Nat.add_mul, Nat.mul_add, Nat.one_mul, Nat.mul_one]; omega
      omega
    · omega
theorem sq_lt {a b : Nat} (h : a * a < b * b) : a < b := by
  rcases Nat.lt_or_ge a b with h' | h'
  · exact h'
  · exact absurd (Nat.mul_le_mul h' h') (by omega)
theorem isq_uniq {n r : Nat} (h1 : r * r ≤ n) (h2 : n < (r + 1) * (r + 1)) : r = isq n := by
  obtain ⟨a, b⟩ := isq_spec n
  have c := sq_lt (Nat.lt_of_le_of_lt h1 b)
  have d := sq_lt (Nat.lt_of_le_of_lt a h2)
  omega
/-- a step of the approximation stays above the root -/
theorem newton_ge (a x : Nat) (hx : isq a ≤ x) (hp : 0 < x) : isq a ≤ (x + a / x) / 2 := by
  obtain ⟨h1, _⟩ := isq_spec a
  refine Nat.le_of_not_lt (fun hlt => ?_)
  generalize isq a = s at *
  have h3 := Nat.lt_mul_div_succ a hp
  generalize a / x = q at *
  have h2 : x + q ≤ 2 * s - 1 := by omega
  have h4 : x * (q + 1) ≤ x * (2 * s - x) := Nat.mul_le_mul_left _ (by omega)
  obtain ⟨d, hd⟩ : ∃ d, x = s + d := ⟨x - s, by omega⟩
  obtain ⟨e, he⟩ : ∃ e, s = e + d := ⟨s - d, by omega⟩
  have e1 : 2 * s - x = e := by omega
  rw [e1] at h4
  have e2 : x = e + 2 * d := by omega
  have h5 : (e + 2 * d) * e ≤ (e + d) * (e + d) := by
    rw [Nat.add_mul, Nat.add_mul, Nat.mul_add, Nat.mul_add, Nat.mul_comm d e]
    have : 2 * d * e = e * d + e * d := by rw [Nat.mul_comm e d, Nat.mul_assoc]; omega
    omega
  rw [← e2, ← he] at h5
  omega
/-- where the step does not go down, the root is there -/
theorem newton_end (a x : Nat) (hx : isq a ≤ x) (hp : 0 < x) (h : x ≤ (x + a / x) / 2) : x = isq a := by
  obtain ⟨_, h2⟩ := isq_spec a
  refine Nat.le_antisymm (Nat.le_of_not_lt (fun hlt => ?_)) hx
  have h3 : (isq a + 1) * (isq a + 1) ≤ x * x := Nat.mul_le_mul hlt hlt
  have h4 : a / x < x := by rw [Nat.div_lt_iff_lt_mul hp]; omega
  omega
theorem newton_start (a : Nat) : isq a < 2 ^ ((blen a + 1) / 2) := by
  obtain ⟨h1, _⟩ := isq_spec a
  refine sq_lt (Nat.lt_of_le_of_lt h1 ?_)
  rw [← Nat.pow_add]
  exact Nat.lt_of_lt_of_le (lt_blen a) (Nat.pow_le_pow_right (by decide) (by omega))
/-- what a square root returns -/
def SqPost (w : World) (A : Nat) (e : Ending) (w' : World) : Prop := ∃ a c a' c', e = .returned (.tuple #[.slice a (lim (isq A)).length c, .slice a' (lim (A - isq A * isq A)).length c']) ∧ RD w' a c (lim (isq A)) ∧ RD w' a' c' (lim (A - isq A * isq A)) ∧ Below w.heap.size w w'
theorem lim_len2 (e k : Nat) (h : e < 16 * k) : (lim (2 ^ e)).length ≤ k := lim_len k _ (by rw [pow_16]; exact Nat.pow_lt_pow_right (by decide) h)

theorem lim_add_len {x y k : Nat} (hx : (lim x).length ≤ k) (hy : (lim y).length ≤ k) : (lim (x + y)).length ≤ k + 1 := by
  refine lim_len _ _ ?_
  have h1 := val_lt _ (lim_ok x)
  have h2 := val_lt _ (lim_ok y)
  rw [val_lim] at h1 h2
  have h3 : 65536 ^ (lim x).length ≤ 65536 ^ k := Nat.pow_le_pow_right (by decide) hx
  have h4 : 65536 ^ (lim y).length ≤ 65536 ^ k := Nat.pow_le_pow_right (by decide) hy
  rw [Nat.pow_succ]
  omega

end Go.Proofs.Ytkampmdekonjmaa
namespace Go.Proofs.Ytkampmdekonjmaa
open Go.RowKit Go.V
set_option linter.unusedSimpArgs false
set_option linter.unusedVariables false
set_option maxRecDepth 20000

theorem RD.drop {w : World} {a : Option Addr} {c : Nat} {l : List Nat} (h : RD w a c l) {k : Nat} (hk : k < l.length) : RD w (a.map (·.add k)) (c - k) (l.drop k) := by
  refine ⟨?_, h.ok.drop k, by have := h.cap; rw [List.length_drop]; omega⟩
  have := h.sl.sub k l.length
  rw [List.take_of_length_le (by rw [List.length_drop, lmC_len]; omega), ← lmC_drop] at this
  exact this
theorem shift_left_val (A k s n : Nat) (hn : n = 16 * k + s) : val (List.replicate k 0 ++ lim (A * 2 ^ s)) = A * 2 ^ n := by
  rw [val_app, val_zeros, val_lim, List.length_replicate, Nat.zero_add, pow_16, hn, Nat.pow_add, Nat.mul_left_comm]

end Go.Proofs.Ytkampmdekonjmaa
namespace Go.Proofs.Ytkampmdekonjmaa
open Go.RowKit Go.V
set_option linter.unusedSimpArgs false
set_option linter.unusedVariables false
set_option maxRecDepth 20000

theorem shiftV_one (j : Nat) (hj : j ≤ 1048576) : shiftV 1 (j : Int) = 2 ^ j := by
  unfold shiftV
  rw [if_neg (by omega), if_neg (by omega), Int.toNat_natCast, Nat.one_mul]
theorem sq_self_le {r A : Nat} (h : r * r ≤ A) : r ≤ A := by
  rcases r with _ | r
  · omega
  · exact Nat.le_trans (Nat.le_mul_of_pos_left _ (by omega)) h
theorem sqrt_first (A t : Nat) (ht : t = (blen A - 1) / 2 + 1) : A < (0 + 2 ^ t) * (0 + 2 ^ t) := by
  rw [Nat.zero_add, ← Nat.pow_add]
  exact Nat.lt_of_lt_of_le (lt_blen A) (Nat.pow_le_pow_right (by decide) (by omega))
theorem lim_mul_len {x y k m : Nat} (hx : (lim x).length ≤ k) (hy : (lim y).length ≤ m) : (lim (x * y)).length ≤ k + m := by
  refine lim_len _ _ ?_
  have h1 := val_lt _ (lim_ok x)
  have h2 := val_lt _ (lim_ok y)
  rw [val_lim] at h1 h2
  have h3 : 65536 ^ (lim x).length ≤ 65536 ^ k := Nat.pow_le_pow_right (by decide) hx
  have h4 : 65536 ^ (lim y).length ≤ 65536 ^ m := Nat.pow_le_pow_right (by decide) hy
  rw [Nat.pow_add]
  exact Nat.mul_lt_mul'' (by omega) (by omega)
theorem sq_expand (r p : Nat) : r + 2 * p = r + p + p := by omega

end Go.Proofs.Ytkampmdekonjmaa
namespace Go.Proofs.Ytkampmdekonjmaa
open Go.RowKit Go.V
set_option linter.unusedSimpArgs false
set_option linter.unusedVariables false
set_option maxRecDepth 20000

def isD (c : UInt8) : Bool := decide (48 ≤ c.toNat) && decide (c.toNat ≤ 57)
/-- the number that digits say -/
def dv (l : List UInt8) : Nat := l.foldl (fun n c => n * 10 + (c.toNat - 48)) 0
def rdBad (l : List UInt8) : Bool := (decide (1 < l.length) && decide (l.getD 0 0 = 48)) || l.any (fun c => !isD c)
/-- what Read answers: the error, the limbs -/
def rdE (l : List UInt8) : Int := if l = [] then 10 else if 1000 < l.length then 4 else if rdBad l = true then 9 else 0
def rdL (l : List UInt8) : List Nat := if rdE l = 0 then lim (dv l) else []
def ReadPost (w : World) (l : List UInt8) (e : Ending) (w' : World) : Prop := ∃ a c, e = .returned (.tuple #[.slice a (rdL l).length c, .int .i64 (rdE l)]) ∧ RD w' a c (rdL l) ∧ Below w.heap.size w w'
theorem readErr {w w' : World} {l : List UInt8} {e : Ending} {n : Int} (hn : rdE l = n) (h0 : n ≠ 0) (he : e = .returned (.tuple #[.slice none 0 0, .int .i64 n])) (hE : Below w.heap.size w w') : ReadPost w l e w' := by
  have hL : rdL l = [] := by unfold rdL; rw [if_neg (by rw [hn]; exact h0)]
  refine ⟨none, 0, ?_, by rw [hL]; exact RD.nil _ _ _, hE⟩
  rw [hL, hn, he]; rfl
def ch (l : List UInt8) (k : Nat) : UInt8 := l.getD k 0
theorem dv_take (l : List UInt8) (i : Nat) (h : i < l.length) : dv (l.take (i + 1)) = dv (l.take i) * 10 + ((l.getD i 0).toNat - 48) := by
  unfold dv
  rw [List.take_succ_eq_append_getElem h, List.foldl_append]
  simp [List.getD_eq_getElem?_getD, List.getElem?_eq_getElem h]
theorem dv_lt (l : List UInt8) : ∀ i, i ≤ l.length → (∀ k, k < i → isD (l.getD k 0) = true) → dv (l.take i) < 10 ^ i
  | 0, _, _ => by simp [dv]
  | i + 1, h, hd => by
    have ih := dv_lt l i (by omega) (fun k hk => hd k (by omega))
    have hi := hd i (by omega)
    unfold isD at hi
    simp only [Bool.and_eq_true, decide_eq_true_eq] at hi
    rw [dv_take l i (by omega), Nat.pow_succ]
    omega
theorem dv_len (l : List UInt8) (i : Nat) (h : i ≤ l.length) (hd : ∀ k, k < i → isD (l.getD k 0) = true) : (lim (dv (l.take i))).length ≤ i := by
  refine lim_len _ _ (Nat.lt_of_lt_of_le (dv_lt l i h hd) (Nat.pow_le_pow_left (by decide) i))
theorem bad_at {l : List UInt8} {i : Nat} (h : i < l.length) (hb : isD (l.getD i 0) = false) : rdBad l = true := by
  unfold rdBad
  have : l.any (fun c => !isD c) = true := by
    rw [List.any_eq_true]
    refine ⟨l.getD i 0, ?_, by rw [hb]; rfl⟩
    rw [List.getD_eq_getElem?_getD, List.getElem?_eq_getElem h, Option.getD_some]
    exact List.getElem_mem h
  rw [this, Bool.or_true]
theorem bad_none {l : List UInt8} (h0 : ¬ (1 < l.length ∧ l.getD 0 0 = 48)) (hd : ∀ k, k < l.length → isD (l.getD k 0) = true) : rdBad l = false := by
  unfold rdBad
  have h1 : l.any (fun c => !isD c) = false := by
    rw [List.any_eq_false]
    intro c hc
    obtain ⟨k, hk, rfl⟩ := List.mem_iff_getElem.1 hc
    have := hd k hk
    rw [List.getD_eq_getElem?_getD, List.getElem?_eq_getElem hk, Option.getD_some] at this
    simp [this]
  rw [h1, Bool.or_false, Bool.and_eq_false_iff]
  by_cases h : 1 < l.length
  · right; exact decide_eq_false (fun h' => h0 ⟨h, h'⟩)
  · left; exact decide_eq_false h
theorem own_block2 {w : World} {base n : Nat} {e : TypeId} {v : Value} {xs : List Value} (h : w.ownsRow base e 1 v n xs) (hn : 0 < n) : ∃ g cap Z, v = .slice (some ⟨g, 0, none⟩) n cap ∧ base ≤ g ∧ Bx w g (xs ++ Z).toArray e ∧ cap ≤ maxLen ∧ n + Z.length = cap := by
  have hl := h.1
  rcases h.2 with ⟨_, h2⟩ | ⟨g, cap, cur, hv, hb, hg, hle, hm, hsz, ht⟩
  · omega
  · rw [Nat.mul_one] at ht hsz
    refine ⟨g, cap, cur.toList.drop n, hv, hb, ⟨?_⟩, hm, ?_⟩
    · rw [hg, ← ht, List.take_append_drop]
    · rw [List.length_drop]; simp [hsz]; omega
theorem own_of_blk {w : World} {base n g cap : Nat} {e : TypeId} {xs Z : List Value} (hB : Bx w g (xs ++ Z).toArray e) (hl : xs.length = n) (hc : n + Z.length = cap) (hm : cap ≤ maxLen) (hb : base ≤ g) : w.ownsRow base e 1 (.slice (some ⟨g, 0, none⟩) n cap) n xs := by
  refine ⟨by rw [Nat.mul_one]; exact hl, .inr ⟨g, cap, _, rfl, hb, hB.heap, by omega, hm, by simp; omega, ?_⟩⟩
  rw [Nat.mul_one, ← hl]
  simp
theorem read_step (ws O : List Nat) (k dg cy s : Nat) (hw : ws.length = k) (h : val ws + 65536 ^ k * cy = 10 * val (O.take k) + dg) (hs : s = cy + 10 * lat O k) : val (ws ++ [s % 65536]) + 65536 ^ (k + 1) * (s / 65536) = 10 * val (O.take (k + 1)) + dg := by
  rw [val_app, val_take' O k, hw, Nat.pow_succ]
  simp only [val, Nat.mul_zero, Nat.add_zero]
  generalize 65536 ^ k = P at *
  have e1 : P * (s % 65536) + P * 65536 * (s / 65536) = P * s := by rw [Nat.mul_assoc, ← Nat.mul_add, Nat.mod_add_div]
  have e2 : P * s = P * cy + P * (10 * lat O k) := by rw [hs, Nat.mul_add]
  have e3 : 10 * (val (O.take k) + P * lat O k) = 10 * val (O.take k) + P * (10 * lat O k) := by rw [Nat.mul_add, Nat.mul_left_comm]
  omega
theorem read_end (ws : List Nat) (N N' cy : Nat) (hok : Ok ws) (hw : ws.length = (lim N).length) (hcy : cy < 65536) (h : val ws + 65536 ^ (lim N).length * cy = N') (hN : N ≤ N') : lim N' = if cy = 0 then ws else ws ++ [cy] := by
  split
  · rename_i h0
    subst h0
    rw [Nat.mul_zero, Nat.add_zero] at h
    rw [← h, lim_val ws hok]
    rcases hl : (lim N).length with _ | k
    · have : ws = [] := List.length_eq_zero_iff.1 (by omega)
      subst this; rfl
    · refine nrm_full ws hok k (by omega) ?_
      have := val_len (lim N) (lim_ok N) k (by rw [nrm_lim]; exact hl)
      rw [val_lim] at this
      omega
  · rename_i h0
    have e : val (ws ++ [cy]) = N' := by rw [val_app, hw, ← h]; simp [val]
    rw [← e, lim_val _ (hok.app (Ok.cons hcy Ok.nil)), nrm_snoc _ _ h0]
theorem set_drop (ws O : List Nat) (k x : Nat) (hw : ws.length = k) (hk : k < O.length) : (ws ++ O.drop k).set k x = (ws ++ [x]) ++ O.drop (k + 1) := by
  have := set_win [] ws O [] k x hw hk
  simpa using this
theorem lat_drop2 (ws O : List Nat) (k : Nat) (hw : ws.length = k) (hk : k < O.length) : lat (ws ++ O.drop k) k = lat O k := by
  have := lat_win [] ws O [] k hw hk
  simpa using this

end Go.Proofs.Ytkampmdekonjmaa
namespace Go.Proofs.Ytkampmdekonjmaa
open Go.RowKit Go.V
set_option linter.unusedSimpArgs false
set_option linter.unusedVariables false
set_option maxRecDepth 20000

end Go.Proofs.Ytkampmdekonjmaa
