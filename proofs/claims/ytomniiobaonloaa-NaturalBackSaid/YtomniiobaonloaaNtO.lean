/- Natural numbers: subtract and restore, the two steps of a long division. -/
import Derived.Test.YtomniiobaonloaaNtN
import Derived.Test.YtomniiobaonloaaVD
namespace Go.Proofs.Ytomniiobaonloaa
open Go.RowKit Go.V
set_option linter.unusedSimpArgs false
set_option linter.unusedVariables false

theorem RD.wr {w w' : World} {a : Option Addr} {c : Nat} {l : List Nat} {b : Nat} (h : RD w a c l) (hw : Wr w w' b) (hne : ∀ ad, a = some ad → l ≠ [] → ad.block ≠ b) : RD w' a c l :=
  ⟨h.sl.wr hw (fun ad ha hn => hne ad ha (by intro e; subst e; exact hn rfl)), h.ok, h.cap⟩

theorem bx_atZ {w : World} {b : Nat} {t : TypeId} {l : List Nat} {Z : List Value} (h : Bx w b (lmC l ++ Z).toArray t) {j : Nat} (hj : j < l.length) : w.cell? ⟨b, j, none⟩ = some (.int .u16 (lat l j)) := by
  rw [h.cell, List.getElem?_toArray, List.getElem?_append_left (by rw [lmC_len]; exact hj), lmC_get, List.getElem?_eq_getElem hj]
  simp [lat, List.getD_eq_getElem?_getD, List.getElem?_eq_getElem hj]
theorem putC_lmZ (l : List Nat) (Z : List Value) (i x : Nat) (hi : i < l.length) : putC (lmC l ++ Z).toArray i [.int .u16 x] = (lmC (l.set i x) ++ Z).toArray := by
  simp only [putC, List.setIfInBounds_toArray]
  rw [List.set_append_left _ _ (by rw [lmC_len]; exact hi)]
  simp [lmC, List.map_set]
theorem set_win (pre us u post : List Nat) (i x : Nat) (hw : us.length = i) (hi : i < u.length) : (pre ++ (us ++ u.drop i) ++ post).set (pre.length + i) x = pre ++ ((us ++ [x]) ++ u.drop (i + 1)) ++ post := by
  rw [List.drop_eq_getElem_cons hi, List.append_assoc, List.append_assoc, List.set_append_right _ _ (by omega), List.set_append_right _ _ (by omega)]
  have e : pre.length + i - pre.length - us.length = 0 := by omega
  rw [e]
  simp only [List.cons_append, List.set_cons_zero, List.append_assoc, List.nil_append]
theorem lat_win (pre us u post : List Nat) (i : Nat) (hw : us.length = i) (hi : i < u.length) : lat (pre ++ (us ++ u.drop i) ++ post) (pre.length + i) = lat u i := by
  unfold lat
  rw [List.getD_eq_getElem?_getD, List.getD_eq_getElem?_getD, List.append_assoc, List.append_assoc, List.getElem?_append_right (by omega), List.getElem?_append_right (by omega)]
  have e : pre.length + i - pre.length - us.length = 0 := by omega
  rw [e, List.getElem?_append_left (by rw [List.length_drop]; omega), List.getElem?_drop, Nat.add_zero]
theorem subm_step (us u V : List Nat) (i dg cy bo x bo' : Nat) (hw : us.length = i) (h : val us + dg * val (V.take i) = val (u.take i) + 65536 ^ i * (cy + bo)) (hs : x + (cy + dg * lat V i) % 65536 + bo = lat u i + 65536 * bo') :
    val (us ++ [x]) + dg * val (V.take (i + 1)) = val (u.take (i + 1)) + 65536 ^ (i + 1) * ((cy + dg * lat V i) / 65536 + bo') := by
  rw [val_app, val_take' V i, val_take' u i, hw, Nat.pow_succ, Nat.mul_add, Nat.mul_add, Nat.mul_left_comm dg]
  simp only [val, Nat.mul_zero, Nat.add_zero]
  generalize 65536 ^ i = P at *
  have e1 : P * x + P * ((cy + dg * lat V i) % 65536) + P * bo = P * lat u i + P * (65536 * bo') := by rw [← Nat.mul_add, ← Nat.mul_add, ← Nat.mul_add, hs]
  have e2 : P * ((cy + dg * lat V i) % 65536) + P * 65536 * ((cy + dg * lat V i) / 65536) = P * cy + P * (dg * lat V i) := by rw [Nat.mul_assoc, ← Nat.mul_add, Nat.mod_add_div, Nat.mul_add]
  rw [Nat.mul_add] at h
  rw [Nat.mul_assoc P 65536 bo']
  omega

set_option maxHeartbeats 4000000 in
theorem subtract_any (Z : List Value) (pre u post V : List Nat) (b off cu : Nat) (a : Option Addr) (c dg : Nat) (w : World) (hB : Bx w b (lmC (pre ++ u ++ post) ++ Z).toArray 39) (hok : Ok u) (hs : RD w a c V) (hne : ∀ ad, a = some ad → V ≠ [] → ad.block ≠ b)
    (ho : pre.length = off) (hlen : u.length = V.length + 1) (hl : u.length ≤ lenB) (hd : dg < 65536) :
    Calls Try.prog 56 #[.slice (some ⟨b, off, none⟩) u.length cu, .slice a V.length c, .int .u32 dg] w fun e w' => ∃ us bo, e = .returned (.bool (decide (0 < bo))) ∧ us.length = u.length ∧ Ok us ∧ bo ≤ 1 ∧ val us + dg * val V = val u + 65536 ^ u.length * bo ∧
      Bx w' b (lmC (pre ++ us ++ post) ++ Z).toArray 39 ∧ Wr w w' b := by
  have hl' : u.length ≤ 1000000000000 := hl
  subst ho
  refine calls_of_W (args := [.slice (some ⟨b, pre.length, none⟩) u.length cu, .slice a V.length c, .int .u32 dg]) (rs := [.tmp 6]) (n := 54) Try.func56 rfl rfl rfl (by kernel_rfl) ?_
  first | refine W_rt (by kernel_rfl) (fun K hK => ?_) | refine W_text (by kernel_rfl) (fun K hK => ?_)
  simp [go_sem]
  refine hK _ _ ?_; clear hK K
  first | refine W_rt (by kernel_rfl) (fun K hK => ?_) | refine W_text (by kernel_rfl) (fun K hK => ?_)
  simp [go_sem]
  refine hK _ _ ?_; clear hK K
  first | refine W_rt (by kernel_rfl) (fun K hK => ?_) | refine W_text (by kernel_rfl) (fun K hK => ?_)
  simp [go_sem]
  refine hK _ _ ?_; clear hK K
  refine W_seq (fun K1 hK1 => ?_)
  first | refine W_rt (by kernel_rfl) (fun K hK => ?_) | refine W_text (by kernel_rfl) (fun K hK => ?_)
  simp [go_sem]
  refine hK _ _ ?_; clear hK K
  refine W_block ?_
  refine W_loop (fun t g w' => Wr w w' b ∧ RD w' a c V ∧ ∃ (i cy bo : Nat) (us : List Nat), i ≤ u.length ∧ t = u.length - i ∧ g 0 = .slice (some ⟨b, pre.length, none⟩) u.length cu ∧ g 1 = .slice a V.length c ∧ g 2 = .int .u32 dg ∧ g 7 = .int .u32 cy ∧ g 8 = .int .i32 bo ∧ g 12 = .int .i64 u.length ∧ g 13 = .int .i64 i ∧
    Bx w' b (lmC (pre ++ (us ++ u.drop i) ++ post) ++ Z).toArray 39 ∧ us.length = i ∧ Ok us ∧ cy < 65536 ∧ bo ≤ 1 ∧ (i = V.length + 1 → cy = 0) ∧ val us + dg * val (V.take i) = val (u.take i) + 65536 ^ i * (cy + bo)) u.length ?_ ?_
  · exact ⟨.refl _ _, hs, 0, 0, 0, [], by omega, rfl, by simp [go_sem], by simp [go_sem], by simp [go_sem], by simp [go_sem], by simp [go_sem], by simp [go_sem], by simp [go_sem], by simpa using hB, rfl, Ok.nil, by decide, by decide, by omega, by simp [val]⟩
  · clear hs hB
    rintro t g w' ⟨hW, hs, i, cy, bo, us, hi, rfl, g0, g1, g2, g7, g8, g12, g13, hB, hwl, husok, hcy, hbo, hend, hval⟩
    first | refine W_rt (by kernel_rfl) (fun K hK => ?_) | refine W_text (by kernel_rfl) (fun K hK => ?_)
    simp [go_sem, g12, g13]
    refine hK _ _ ?_; clear hK K
    refine W_seq (fun K2 hK2 => ?_)
    by_cases hlt : i < u.length
    · have hlt' : (i : Int) < u.length := by omega
      have hux := lat_lt hok i
      have hvx := lat_lt hs.ok i
      have hread : w'.cell? ⟨b, pre.length + i, none⟩ = some (.int .u16 (lat u i)) := by
        rw [bx_atZ hB (by simp; omega), lat_win _ _ _ _ _ hwl hlt]
      obtain ⟨DV, hDV⟩ : ∃ DV, DV = dg * lat V i := ⟨_, rfl⟩
      have hDVb : DV ≤ 65535 * 65535 := by rw [hDV]; exact Nat.mul_le_mul (by omega) (by omega)
      obtain ⟨S, hS⟩ : ∃ S, S = cy + DV := ⟨_, rfl⟩
      have hw1 : IntKind.i64.wrap (↑i + 1) = (i : Int) + 1 := IntWalk.i64_in _ (by omega)
      have hstep := fun x bo' => subm_step us u V i dg cy bo x bo' hwl hval
      rw [← hDV, ← hS] at hstep
      refine W_if (by simp [go_sem, hlt, hlt']; rfl) rfl ?_
      refine W_skip ?_
      refine hK2 _ _ ?_; clear hK2 K2
      refine W_seq (fun K2 hK2 => ?_)
      refine W_block ?_
      first | refine W_rt (by kernel_rfl) (fun K hK => ?_) | refine W_text (by kernel_rfl) (fun K hK => ?_)
      simp [go_sem, g13]
      refine hK _ _ ?_; clear hK K
      refine W_seq (fun K3 hK3 => ?_)
      -- behind the carry
      have rest : ∀ g : G, g 0 = .slice (some ⟨b, pre.length, none⟩) u.length cu → g 1 = .slice a V.length c → g 2 = .int .u32 dg → g 7 = .int .u32 S → g 8 = .int .i32 bo → g 9 = .int .i64 i → g 12 = .int .i64 u.length → g 13 = .int .i64 i → K3 g w' := by
        clear g0 g1 g2 g7 g8 g12 g13 g
        intro g g0 g1 g2 g7 g8 g9 g12 g13
        refine hK3 _ _ ?_; clear hK3 K3
        have e1 : IntKind.i32.wrap (lat u i : Int) = lat u i := i32_in _ (by omega)
        have e2 : IntKind.u16.wrap (S : Int) = ((S % 65536 : Nat) : Int) := w16 _
        have hlow : S % 65536 < 65536 := Nat.mod_lt _ (by decide)
        have e7 : shrI .u32 (S : Int) 16 = ((S / 65536 : Nat) : Int) := shr_nat .u32 S 16 (by decide)
        have hC : S / 65536 < 65536 := by omega
        have hC0 : i + 1 = V.length + 1 → S / 65536 = 0 := by
          intro e
          have z : lat V i = 0 := lat_out (by omega)
          rw [z, Nat.mul_zero] at hDV
          omega
        obtain ⟨lo, hlo⟩ : ∃ lo, lo = S % 65536 := ⟨_, rfl⟩
        obtain ⟨C, hCe⟩ : ∃ C, C = S / 65536 := ⟨_, rfl⟩
        rw [← hlo] at e2 hlow
        rw [← hCe] at e7 hC hC0
        have e3 : IntKind.i32.wrap (lo : Int) = lo := i32_in _ (by omega)
        have e4 : IntKind.i32.wrap ((lat u i : Int) - lo) = (lat u i : Int) - lo := i32_in _ (by omega)
        have e5 : IntKind.i32.wrap ((lat u i : Int) - lo - bo) = (lat u i : Int) - lo - bo := i32_in _ (by omega)
        first | refine W_rt (by kernel_rfl) (fun K hK => ?_) | refine W_text (by kernel_rfl) (fun K hK => ?_)
        simp [go_sem, g0, g7, g8, g9, hlt, hlt', add_mk, hread, e1, e2, e3, e4, e5]
        refine hK _ _ ?_; clear hK K
        first | refine W_rt (by kernel_rfl) (fun K hK => ?_) | refine W_text (by kernel_rfl) (fun K hK => ?_)
        simp [go_sem, g7, e7]
        refine hK _ _ ?_; clear hK K
        first | refine W_rt (by kernel_rfl) (fun K hK => ?_) | refine W_text (by kernel_rfl) (fun K hK => ?_)
        simp [go_sem]
        refine hK _ _ ?_; clear hK K
        refine W_seq (fun K3 hK3 => ?_)
        first | refine W_rt (by kernel_rfl) (fun K hK => ?_) | refine W_text (by kernel_rfl) (fun K hK => ?_)
        simp [go_sem]
        refine hK _ _ ?_; clear hK K
        have fin : ∀ (g : G) (x bo' : Nat), x < 65536 → bo' ≤ 1 → x + lo + bo = lat u i + 65536 * bo' → g 0 = .slice (some ⟨b, pre.length, none⟩) u.length cu → g 1 = .slice a V.length c → g 2 = .int .u32 dg → g 7 = .int .u32 C → g 8 = .int .i32 bo' → g 9 = .int .i64 i → g 10 = .int .i32 x → g 12 = .int .i64 u.length → g 13 = .int .i64 i → K3 g w' := by
          clear g0 g1 g2 g7 g8 g9 g12 g13 g
          intro g x bo' hx hbo' hsum g0 g1 g2 g7 g8 g9 g10 g12 g13
          refine hK3 _ _ ?_; clear hK3 K3
          have q1 : IntKind.u16.wrap (x : Int) = x := w16_in _ (by omega)
          first | refine W_rt (by kernel_rfl) (fun K hK => ?_) | refine W_text (by kernel_rfl) (fun K hK => ?_)
          simp [go_sem, g0, g9, g10, hlt, hlt', add_mk, q1]
          refine hv_store (b := b) (off := pre.length + i) [.int .u16 x] (by simp [go_sem]) rfl (by simp [go_sem]) (by simp [go_sem, Value.cells]) ty_size39 hB (by simp [lmC_len] <;> omega) (by simp [Value.oneCell']) (by decide) (fun w3 hS3 hB3 => ?_)
          rw [putC_lmZ _ _ _ _ (by simp; omega), set_win _ _ _ _ _ _ hwl hlt] at hB3
          replace hs := hs.sto hS3 hne
          replace hW := hW.sto hS3
          simp [go_sem]
          refine hK _ _ ?_; clear hK K
          refine hK2 _ _ ?_; clear hK2 K2
          refine W_text (by kernel_rfl) (fun K hK => ?_)
          simp [go_sem, g13, hw1]
          refine hK _ _ ⟨u.length - (i + 1), by omega, hW, hs, i + 1, C, bo', us ++ [x], by omega, rfl, by simp [go_sem, g0], by simp [go_sem, g1], by simp [go_sem, g2], by simp [go_sem, g7], by simp [go_sem, g8], by simp [go_sem, g12], by simp [go_sem], hB3, by simp [hwl], husok.app (Ok.cons hx Ok.nil), hC, hbo', hC0, ?_⟩
          have := hstep x bo' (by rw [← hlo]; exact hsum)
          rw [← hCe] at this
          exact this
        by_cases hneg : (lat u i : Int) - lo - bo < 0
        · have e6 : IntKind.i32.wrap ((lat u i : Int) - lo - bo + 65536) = ((lat u i + 65536 - lo - bo : Nat) : Int) := by rw [i32_in _ (by omega)]; omega
          refine W_if (by simp [go_sem, hneg]; rfl) rfl ?_
          first | refine W_rt (by kernel_rfl) (fun K hK => ?_) | refine W_text (by kernel_rfl) (fun K hK => ?_)
          simp [go_sem, e6]
          refine hK _ _ ?_; clear hK K
          refine W_text (by kernel_rfl) (fun K hK => ?_)
          simp [go_sem]
          refine hK _ _ ?_
          exact fin _ (lat u i + 65536 - lo - bo) 1 (by omega) (by omega) (by omega) (by simp [go_sem, g0]) (by simp [go_sem, g1]) (by simp [go_sem, g2]) (by simp [go_sem]) (by simp [go_sem]) (by simp [go_sem, g9]) (by simp [go_sem]) (by simp [go_sem, g12]) (by simp [go_sem, g13])
        · refine W_if (by simp [go_sem, hneg]; rfl) rfl ?_
          refine W_skip ?_
          exact fin _ (lat u i - lo - bo) 0 (by omega) (by omega) (by omega) (by simp [go_sem, g0]) (by simp [go_sem, g1]) (by simp [go_sem, g2]) (by simp [go_sem]) (by simp [go_sem]) (by simp [go_sem, g9]) (by simp [go_sem]; omega) (by simp [go_sem, g12]) (by simp [go_sem, g13])
      by_cases hv : i < V.length
      · have hv' : (i : Int) < V.length := by omega
        obtain ⟨c1, c2⟩ := hs.at hv
        have f1 : IntKind.u32.wrap (lat V i : Int) = lat V i := w32_in _ (by omega)
        have f2 : (dg : Int) * (lat V i : Int) = (DV : Int) := by rw [hDV]; simp
        have f3 : IntKind.u32.wrap (DV : Int) = DV := w32_in _ (by omega)
        have f4 : IntKind.u32.wrap ((cy : Int) + DV) = (S : Int) := by rw [w32_in _ (by omega)]; omega
        first | refine W_rt (by kernel_rfl) (fun K hK => ?_) | refine W_text (by kernel_rfl) (fun K hK => ?_)
        simp [go_sem, g1, g13]
        refine hK _ _ ?_; clear hK K
        refine W_if (by simp [go_sem, hv, hv']; rfl) rfl ?_
        refine W_text (by kernel_rfl) (fun K hK => ?_)
        simp [go_sem, g1, g2, g7, g13, hv, hv', c1, c2, f1, f2, f3, f4]
        refine hK _ _ ?_
        exact rest _ (by simp [go_sem, g0]) (by simp [go_sem, g1]) (by simp [go_sem, g2]) (by simp [go_sem]) (by simp [go_sem, g8]) (by simp [go_sem]) (by simp [go_sem, g12]) (by simp [go_sem, g13])
      · have hv' : ¬ (i : Int) < V.length := by omega
        have z : lat V i = 0 := lat_out (by omega)
        have hSc : S = cy := by rw [z, Nat.mul_zero] at hDV; omega
        first | refine W_rt (by kernel_rfl) (fun K hK => ?_) | refine W_text (by kernel_rfl) (fun K hK => ?_)
        simp [go_sem, g1, g13]
        refine hK _ _ ?_; clear hK K
        refine W_if (by simp [go_sem, hv, hv']; rfl) rfl ?_
        refine W_skip ?_
        exact rest _ (by simp [go_sem, g0]) (by simp [go_sem, g1]) (by simp [go_sem, g2]) (by simp [go_sem, g7, hSc]) (by simp [go_sem, g8]) (by simp [go_sem]) (by simp [go_sem, g12]) (by simp [go_sem, g13])
    · have him : i = u.length := by omega
      subst him
      have hc0 := hend hlen
      subst hc0
      rw [List.take_length, List.take_of_length_le (by omega), Nat.zero_add] at hval
      rw [List.drop_length, List.append_nil] at hB
      refine W_if (by simp [go_sem, hlt]; rfl) rfl ?_
      refine W_exit ?_
      repeat (first | refine thenG_exit ?_ | refine inBlock_other rfl ?_ | refine inBlock_same ?_)
      refine hK1 _ _ ?_; clear hK1 K1 hK2 K2
      first | refine W_rt (by kernel_rfl) (fun K hK => ?_) | refine W_text (by kernel_rfl) (fun K hK => ?_)
      simp [go_sem, g8]
      refine hK _ _ ?_; clear hK K
      refine W_ret ?_
      repeat (first | refine thenG_ret ?_ | refine inBlock_ret ?_)
      refine ⟨trivial, us, bo, ?_, hwl, husok, hbo, hval, hB, hW⟩
      simp [go_sem, pack, resL]

set_option maxHeartbeats 4000000 in
theorem restore_any (Z : List Value) (pre u post V : List Nat) (b off cu : Nat) (a : Option Addr) (c : Nat) (w : World) (hB : Bx w b (lmC (pre ++ u ++ post) ++ Z).toArray 39) (hok : Ok u) (hs : RD w a c V) (hne : ∀ ad, a = some ad → V ≠ [] → ad.block ≠ b)
    (ho : pre.length = off) (hlen : u.length = V.length + 1) (hl : u.length ≤ lenB) :
    Calls Try.prog 57 #[.slice (some ⟨b, off, none⟩) u.length cu, .slice a V.length c] w fun e w' => ∃ us cy, e = .returned (.tuple #[]) ∧ us.length = u.length ∧ Ok us ∧ val us + 65536 ^ u.length * cy = val u + val V ∧
      Bx w' b (lmC (pre ++ us ++ post) ++ Z).toArray 39 ∧ Wr w w' b := by
  have hl' : u.length ≤ 1000000000000 := hl
  subst ho
  refine calls_of_W (args := [.slice (some ⟨b, pre.length, none⟩) u.length cu, .slice a V.length c]) (rs := []) (n := 37) Try.func57 rfl rfl rfl (by kernel_rfl) ?_
  first | refine W_rt (by kernel_rfl) (fun K hK => ?_) | refine W_text (by kernel_rfl) (fun K hK => ?_)
  simp [go_sem]
  refine hK _ _ ?_; clear hK K
  first | refine W_rt (by kernel_rfl) (fun K hK => ?_) | refine W_text (by kernel_rfl) (fun K hK => ?_)
  simp [go_sem]
  refine hK _ _ ?_; clear hK K
  refine W_block ?_
  refine W_loop (fun t g w' => Wr w w' b ∧ RD w' a c V ∧ ∃ (i cy : Nat) (us : List Nat), i ≤ u.length ∧ t = u.length - i ∧ g 0 = .slice (some ⟨b, pre.length, none⟩) u.length cu ∧ g 1 = .slice a V.length c ∧ g 4 = .int .u32 cy ∧ g 7 = .int .i64 u.length ∧ g 8 = .int .i64 i ∧
    Bx w' b (lmC (pre ++ (us ++ u.drop i) ++ post) ++ Z).toArray 39 ∧ us.length = i ∧ Ok us ∧ cy ≤ 1 ∧ val us + 65536 ^ i * cy = val (u.take i) + val (V.take i)) u.length ?_ ?_
  · exact ⟨.refl _ _, hs, 0, 0, [], by omega, rfl, by simp [go_sem], by simp [go_sem], by simp [go_sem], by simp [go_sem], by simp [go_sem], by simpa using hB, rfl, Ok.nil, by decide, by simp [val]⟩
  · clear hs hB
    rintro t g w' ⟨hW, hs, i, cy, us, hi, rfl, g0, g1, g4, g7, g8, hB, hwl, husok, hcy, hval⟩
    first | refine W_rt (by kernel_rfl) (fun K hK => ?_) | refine W_text (by kernel_rfl) (fun K hK => ?_)
    simp [go_sem, g7, g8]
    refine hK _ _ ?_; clear hK K
    refine W_seq (fun K2 hK2 => ?_)
    by_cases hlt : i < u.length
    · have hlt' : (i : Int) < u.length := by omega
      have hux := lat_lt hok i
      have hvx := lat_lt hs.ok i
      have hread : w'.cell? ⟨b, pre.length + i, none⟩ = some (.int .u16 (lat u i)) := by
        rw [bx_atZ hB (by simp; omega), lat_win _ _ _ _ _ hwl hlt]
      obtain ⟨S, hS⟩ : ∃ S, S = cy + lat u i + lat V i := ⟨_, rfl⟩
      have hstep := add_step us u V i cy S hwl hval hS
      have hw1 : IntKind.i64.wrap (↑i + 1) = (i : Int) + 1 := IntWalk.i64_in _ (by omega)
      have f1 : IntKind.u32.wrap (lat u i : Int) = lat u i := w32_in _ (by omega)
      have f2 : IntKind.u32.wrap ((cy : Int) + lat u i) = (cy : Int) + lat u i := w32_in _ (by omega)
      refine W_if (by simp [go_sem, hlt, hlt']; rfl) rfl ?_
      refine W_skip ?_
      refine hK2 _ _ ?_; clear hK2 K2
      refine W_seq (fun K2 hK2 => ?_)
      refine W_block ?_
      first | refine W_rt (by kernel_rfl) (fun K hK => ?_) | refine W_text (by kernel_rfl) (fun K hK => ?_)
      simp [go_sem, g8]
      refine hK _ _ ?_; clear hK K
      first | refine W_rt (by kernel_rfl) (fun K hK => ?_) | refine W_text (by kernel_rfl) (fun K hK => ?_)
      simp [go_sem, g0, g4, hlt, hlt', add_mk, hread, f1, f2]
      refine hK _ _ ?_; clear hK K
      refine W_seq (fun K3 hK3 => ?_)
      have rest : ∀ g : G, g 0 = .slice (some ⟨b, pre.length, none⟩) u.length cu → g 1 = .slice a V.length c → g 4 = .int .u32 S → g 5 = .int .i64 i → g 7 = .int .i64 u.length → g 8 = .int .i64 i → K3 g w' := by
        clear g0 g1 g4 g7 g8 g
        intro g g0 g1 g4 g5 g7 g8
        refine hK3 _ _ ?_; clear hK3 K3
        have e2 : IntKind.u16.wrap (S : Int) = ((S % 65536 : Nat) : Int) := w16 _
        have hlow : S % 65536 < 65536 := Nat.mod_lt _ (by decide)
        have e7 : shrI .u32 (S : Int) 16 = ((S / 65536 : Nat) : Int) := shr_nat .u32 S 16 (by decide)
        have hC : S / 65536 ≤ 1 := by omega
        generalize S % 65536 = lo at *
        generalize S / 65536 = C at *
        first | refine W_rt (by kernel_rfl) (fun K hK => ?_) | refine W_text (by kernel_rfl) (fun K hK => ?_)
        simp [go_sem, g0, g4, g5, hlt, hlt', add_mk, e2]
        refine hv_store (b := b) (off := pre.length + i) [.int .u16 lo] (by simp [go_sem]) rfl (by simp [go_sem]) (by simp [go_sem, Value.cells]) ty_size39 hB (by simp [lmC_len] <;> omega) (by simp [Value.oneCell']) (by decide) (fun w3 hS3 hB3 => ?_)
        rw [putC_lmZ _ _ _ _ (by simp; omega), set_win _ _ _ _ _ _ hwl hlt] at hB3
        replace hs := hs.sto hS3 hne
        replace hW := hW.sto hS3
        simp [go_sem]
        refine hK _ _ ?_; clear hK K
        refine W_text (by kernel_rfl) (fun K hK => ?_)
        simp [go_sem, g4, e7]
        refine hK _ _ ?_; clear hK K
        refine hK2 _ _ ?_; clear hK2 K2
        refine W_text (by kernel_rfl) (fun K hK => ?_)
        simp [go_sem, g8, hw1]
        exact hK _ _ ⟨u.length - (i + 1), by omega, hW, hs, i + 1, C, us ++ [lo], by omega, rfl, by simp [go_sem, g0], by simp [go_sem, g1], by simp [go_sem], by simp [go_sem, g7], by simp [go_sem], hB3, by simp [hwl], husok.app (Ok.cons hlow Ok.nil), hC, hstep⟩
      by_cases hv : i < V.length
      · have hv' : (i : Int) < V.length := by omega
        obtain ⟨c1, c2⟩ := hs.at hv
        have f3 : IntKind.u32.wrap (lat V i : Int) = lat V i := w32_in _ (by omega)
        have f4 : IntKind.u32.wrap ((cy : Int) + lat u i + lat V i) = (S : Int) := by rw [w32_in _ (by omega)]; omega
        first | refine W_rt (by kernel_rfl) (fun K hK => ?_) | refine W_text (by kernel_rfl) (fun K hK => ?_)
        simp [go_sem, g1, g8]
        refine hK _ _ ?_; clear hK K
        refine W_if (by simp [go_sem, hv, hv']; rfl) rfl ?_
        refine W_text (by kernel_rfl) (fun K hK => ?_)
        simp [go_sem, g1, g8, hv, hv', c1, c2, f3, f4]
        refine hK _ _ ?_
        exact rest _ (by simp [go_sem, g0]) (by simp [go_sem, g1]) (by simp [go_sem]) (by simp [go_sem]) (by simp [go_sem, g7]) (by simp [go_sem, g8])
      · have hv' : ¬ (i : Int) < V.length := by omega
        have z : lat V i = 0 := lat_out (by omega)
        first | refine W_rt (by kernel_rfl) (fun K hK => ?_) | refine W_text (by kernel_rfl) (fun K hK => ?_)
        simp [go_sem, g1, g8]
        refine hK _ _ ?_; clear hK K
        refine W_if (by simp [go_sem, hv, hv']; rfl) rfl ?_
        refine W_skip ?_
        exact rest _ (by simp [go_sem, g0]) (by simp [go_sem, g1]) (by simp [go_sem]; omega) (by simp [go_sem]) (by simp [go_sem, g7]) (by simp [go_sem, g8])
    · have him : i = u.length := by omega
      subst him
      rw [List.take_length, List.take_of_length_le (by omega)] at hval
      rw [List.drop_length, List.append_nil] at hB
      refine W_if (by simp [go_sem, hlt]; rfl) rfl ?_
      refine W_exit ?_
      repeat (first | refine thenG_exit ?_ | refine inBlock_other rfl ?_ | refine inBlock_same ?_)
      refine ⟨trivial, us, cy, ?_, hwl, husok, hval, hB, hW⟩
      simp [go_sem, pack, resL]
end Go.Proofs.Ytomniiobaonloaa
