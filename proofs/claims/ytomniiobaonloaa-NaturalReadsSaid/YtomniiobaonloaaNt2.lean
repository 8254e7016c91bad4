/- Natural numbers, second part: trim, Norm, Same, limb. -/
import Derived.Test.YtomniiobaonloaaNt1
namespace Go.Proofs.Ytomniiobaonloaa
open Go.RowKit Go.V
set_option linter.unusedSimpArgs false
set_option linter.unusedVariables false

def lat (l : List Nat) (i : Nat) : Nat := l.getD i 0
theorem lat_lt {l : List Nat} (h : Ok l) (i : Nat) : lat l i < 65536 := h.getD i
theorem lat_out {l : List Nat} {i : Nat} (h : l.length ≤ i) : lat l i = 0 := by
  unfold lat; rw [List.getD_eq_getElem?_getD, List.getElem?_eq_none h]; rfl
theorem RD.at {w : World} {a : Option Addr} {c : Nat} {l : List Nat} (h : RD w a c l) {i : Nat} (hi : i < l.length) : w.cell? ((a.getD default).add i) = some (.int .u16 (lat l i)) ∧ a.isSome = true := h.get hi
theorem take_lat {l : List Nat} {j : Nat} (h : j < l.length) : l.take (j + 1) = l.take j ++ [lat l j] := by
  rw [List.take_succ_eq_append_getElem h]
  simp [lat, List.getD_eq_getElem?_getD, List.getElem?_eq_getElem h]
theorem drop_lat {l : List Nat} {j : Nat} (h : j < l.length) : l.drop j = lat l j :: l.drop (j + 1) := by
  rw [List.drop_eq_getElem_cons h]
  simp [lat, List.getD_eq_getElem?_getD, List.getElem?_eq_getElem h]
theorem add0 (a : Option Addr) : a.map (·.add 0) = a := by
  cases a with
  | none => rfl
  | some a => cases a; simp [Addr.add]
abbrev lenB : Nat := 1000000000000

set_option maxHeartbeats 1000000 in
theorem trim_big (l : List Nat) (a : Option Addr) (c : Nat) (w : World) (hr : RD w a c l) (hl : l.length ≤ 9223372036854775807) :
    Calls Try.prog 43 #[.slice a l.length c] w fun e w' => e = .returned (.slice a (nrm l).length c) ∧ w = w' := by
  have hcap := hr.cap
  have hl' : l.length ≤ 9223372036854775807 := hl
  refine calls_of_W (args := [.slice a l.length c]) (rs := [.tmp 2]) (n := 21) Try.func43 rfl rfl rfl (by kernel_rfl) ?_
  first | refine W_rt (by kernel_rfl) (fun K hK => ?_) | refine W_text (by kernel_rfl) (fun K hK => ?_)
  simp [go_sem]
  refine hK _ _ ?_; clear hK K
  first | refine W_rt (by kernel_rfl) (fun K hK => ?_) | refine W_text (by kernel_rfl) (fun K hK => ?_)
  simp [go_sem]
  refine hK _ _ ?_; clear hK K
  refine W_seq (fun K1 hK1 => ?_)
  refine W_block ?_
  refine W_loop (fun m g w' => w' = w ∧ ∃ k : Nat, k ≤ l.length ∧ m = k ∧ g 0 = .slice a l.length c ∧ g 3 = .int .i64 k ∧ nrm l = nrm (l.take k)) l.length ?_ ?_
  · exact ⟨rfl, l.length, Nat.le_refl _, rfl, rfl, rfl, by rw [List.take_length]⟩
  · rintro m g w' ⟨rfl, k, hk, rfl, g0, g3, hN⟩
    refine W_seq (fun K2 hK2 => ?_)
    rcases m with _ | j
    · first | refine W_rt (by kernel_rfl) (fun K hK => ?_) | refine W_text (by kernel_rfl) (fun K hK => ?_)
      simp [go_sem, g0, g3]
      refine hK _ _ ?_; clear hK K
      refine W_if (by simp [go_sem]; rfl) rfl ?_
      refine W_exit ?_
      repeat (first | refine thenG_exit ?_ | refine inBlock_other rfl ?_ | refine inBlock_same ?_)
      refine hK1 _ _ ?_; clear hK1 K1 hK2 K2
      have e0 : nrm l = [] := by rw [hN]; rfl
      first | refine W_rt (by kernel_rfl) (fun K hK => ?_) | refine W_text (by kernel_rfl) (fun K hK => ?_)
      simp [go_sem, g0, g3, add0]
      refine hK _ _ ?_; clear hK K
      refine W_ret ?_
      repeat (first | refine thenG_ret ?_ | refine inBlock_ret ?_)
      refine ⟨trivial, ?_, rfl⟩
      simp [go_sem, pack, resL, e0]
    · have hj : j < l.length := by omega
      obtain ⟨c1, c2⟩ := hr.at hj
      have hw1 : IntKind.i64.wrap (((j + 1 : Nat) : Int) - 1) = (j : Int) := by rw [IntWalk.i64_in _ (by omega)]; omega
      have p1 : (0 : Int) < ((j + 1 : Nat) : Int) := by omega
      have p2 : (j : Int) < l.length := by omega
      rw [take_lat hj] at hN
      generalize hjk : ((j + 1 : Nat) : Int) = jk at *
      by_cases h0 : lat l j = 0
      · have h0' : (lat l j : Int) = 0 := by omega
        rw [h0, nrm_snoc0] at hN
        first | refine W_rt (by kernel_rfl) (fun K hK => ?_) | refine W_text (by kernel_rfl) (fun K hK => ?_)
        simp [go_sem, g0, g3, hw1, p1, p2, hj, c1, c2, h0, h0']
        refine hK _ _ ?_; clear hK K
        refine W_if (by simp [go_sem, h0, h0']; rfl) rfl ?_
        refine W_skip ?_
        refine hK2 _ _ ?_; clear hK2 K2
        refine W_block ?_
        refine W_text (by kernel_rfl) (fun K hK => ?_)
        simp [go_sem, g3, hw1]
        refine hK _ _ ⟨j, by omega, rfl, j, by omega, rfl, by simp [go_sem, g0], by simp [go_sem], hN⟩
      · have h0' : ¬ (lat l j : Int) = 0 := by omega
        rw [nrm_snoc _ _ h0, ← take_lat hj] at hN
        have hlen : (nrm l).length = j + 1 := by rw [hN, List.length_take]; omega
        first | refine W_rt (by kernel_rfl) (fun K hK => ?_) | refine W_text (by kernel_rfl) (fun K hK => ?_)
        simp [go_sem, g0, g3, hw1, p1, p2, hj, c1, c2, h0, h0']
        refine hK _ _ ?_; clear hK K
        refine W_if (by simp [go_sem, h0, h0']; rfl) rfl ?_
        refine W_exit ?_
        repeat (first | refine thenG_exit ?_ | refine inBlock_other rfl ?_ | refine inBlock_same ?_)
        refine hK1 _ _ ?_; clear hK1 K1 hK2 K2
        have q1 : (0 : Int) ≤ jk := by omega
        have q2 : jk ≤ c := by omega
        have q3 : jk.toNat = j + 1 := by omega
        first | refine W_rt (by kernel_rfl) (fun K hK => ?_) | refine W_text (by kernel_rfl) (fun K hK => ?_)
        simp [go_sem, g0, g3, add0, q1, q2, q3]
        refine hK _ _ ?_; clear hK K
        refine W_ret ?_
        repeat (first | refine thenG_ret ?_ | refine inBlock_ret ?_)
        refine ⟨trivial, ?_, rfl⟩
        simp [go_sem, pack, resL, hlen]

theorem trim_any (l : List Nat) (a : Option Addr) (c : Nat) (w : World) (hr : RD w a c l) (hl : l.length ≤ lenB) :
    Calls Try.prog 43 #[.slice a l.length c] w fun e w' => e = .returned (.slice a (nrm l).length c) ∧ w = w' :=
  trim_big l a c w hr (Nat.le_trans hl (by decide))

theorem own_keep {w w' : World} {B e size n : Nat} {v : Value} {xs : List Value} (h : w.ownsRow B e size v n xs) (hb : Below w.heap.size w w') : w'.ownsRow B e size v n xs := by
  refine ⟨h.1, ?_⟩
  rcases h.2 with hn | ⟨g, cap, cur, hv, hg, hh, r⟩
  · exact .inl hn
  · exact .inr ⟨g, cap, cur, hv, hg, by rw [hb.block g (Array.getElem?_eq_some_iff.1 hh).1]; exact hh, r⟩
theorem own_sto {w w' : World} {B e size n b : Nat} {v : Value} {xs : List Value} (h : w.ownsRow B e size v n xs) (hs : Sto w w' b) (hne : v.ownBlock ≠ some b) : w'.ownsRow B e size v n xs := by
  refine ⟨h.1, ?_⟩
  rcases h.2 with hn | ⟨g, cap, cur, hv, hg, hh, r⟩
  · exact .inl hn
  · refine .inr ⟨g, cap, cur, hv, hg, ?_, r⟩
    have : g ≠ b := fun e => hne (by rw [hv, e]; rfl)
    rw [hs.block g this]; exact hh
/-- a function that returns a number -/
def RetN (w : World) (l : List Nat) (e : Ending) (w' : World) : Prop := ∃ a c, e = .returned (.slice a l.length c) ∧ RD w' a c l ∧ Below w.heap.size w w'
theorem RD.news {w : World} {a : Addr} {c : Nat} {l : List Nat} (h : RD w (some a) c l) : ∀ j u, (lmC l)[j]? = some u → w.cell? (a.add j) = some u := by
  intro j u hu
  have hj : j < l.length := by
    have := (List.getElem?_eq_some_iff.1 hu).1
    rwa [lmC_len] at this
  have h1 := (h.get hj).1
  rw [lmC_get, List.getElem?_eq_getElem hj] at hu
  simp only [Option.map_some, Option.some.injEq] at hu
  subst hu
  simpa [List.getD_eq_getElem?_getD, List.getElem?_eq_getElem hj] using h1
theorem RD.of_bx {w : World} {b : Nat} {t : TypeId} {l : List Nat} {r : List Value} {c : Nat} (h : Bx w b (lmC l ++ r).toArray t) (hok : Ok l) (hc : l.length ≤ c) : RD w (some ⟨b, 0, none⟩) c l := by
  refine ⟨SL.of_bx h 0 (fun j v hv => ?_), hok, hc⟩
  have hj := (List.getElem?_eq_some_iff.1 hv).1
  simp only [Nat.zero_add, List.getElem?_toArray]
  rw [List.getElem?_append_left hj]; exact hv
theorem RD.of_own {w : World} {B n : Nat} {e : TypeId} {v : Value} {l : List Nat} (h : w.ownsRow B e 1 v n (lmC l)) (hok : Ok l) : ∃ a c, v = .slice a l.length c ∧ RD w a c l := by
  have hn : n = l.length := by have := h.1; rw [lmC_len] at this; omega
  rcases h.2 with ⟨h1, h2⟩ | ⟨g, cap, cur, hv, hb, hg, hle, _⟩
  · have e : l = [] := List.length_eq_zero_iff.1 (by omega)
    subst e
    exact ⟨none, 0, h1, RD.nil _ _ _⟩
  · subst hv
    subst hn
    exact ⟨_, _, rfl, ownsRow_SL h, hok, hle⟩

set_option maxHeartbeats 1000000 in
theorem norm_any (l : List Nat) (a : Option Addr) (c : Nat) (w : World) (hr : RD w a c l) (hl : l.length ≤ lenB) :
    Calls Try.prog 17 #[.slice a l.length c] w (RetN w (nrm l)) := by
  have hl' : l.length ≤ 1000000000000 := hl
  have hn := nrm_len l
  refine calls_of_W (args := [.slice a l.length c]) (rs := [.tmp 2]) (n := 16) Try.func17 rfl rfl rfl (by kernel_rfl) ?_
  first | refine W_rt (by kernel_rfl) (fun K hK => ?_) | refine W_text (by kernel_rfl) (fun K hK => ?_)
  simp [go_sem]
  refine hK _ _ ?_; clear hK K
  first | refine W_rt (by kernel_rfl) (fun K hK => ?_) | refine W_text (by kernel_rfl) (fun K hK => ?_)
  simp [go_sem]
  refine hv_call (by simp [go_sem]) rfl Try.call43 (fun R hR => ?_)
  simp [go_sem]
  refine (trim_any l a c _ hr hl).mono ?_
  rintro e w1 ⟨rfl, rfl⟩
  refine ⟨_, rfl, hR _ _ ?_⟩
  clear hR R
  simp [go_sem]
  refine hK _ _ ?_; clear hK K
  have hr2 := hr.nrm
  have hok := nrm_ok l hr.ok
  generalize nrm l = m at *
  refine W_seq (fun K1 hK1 => ?_)
  first | refine W_rt (by kernel_rfl) (fun K hK => ?_) | refine W_text (by kernel_rfl) (fun K hK => ?_)
  simp [go_sem]
  refine hK _ _ ?_; clear hK K
  by_cases h0 : m.length = 0
  · have h0' : (m.length : Int) = 0 := by omega
    have e0 : m = [] := List.length_eq_zero_iff.1 h0
    subst e0
    refine W_if (by simp [go_sem]; rfl) rfl ?_
    first | refine W_rt (by kernel_rfl) (fun K hK => ?_) | refine W_text (by kernel_rfl) (fun K hK => ?_)
    simp [go_sem]
    refine hK _ _ ?_; clear hK K
    refine W_ret ?_
    repeat (first | refine thenG_ret ?_ | refine inBlock_ret ?_)
    refine ⟨trivial, none, 0, ?_, RD.nil _ _ _, Below.refl _ _⟩
    simp [go_sem, pack, resL]
  · have h0' : ¬ (m.length : Int) = 0 := by omega
    have h0'' : ¬ m = [] := by intro e; subst e; exact h0 rfl
    refine W_if (by simp [go_sem, h0, h0', h0'']; rfl) rfl ?_
    refine W_skip ?_
    refine hK1 _ _ ?_; clear hK1 K1
    first | refine W_rt (by kernel_rfl) (fun K hK => ?_) | refine W_text (by kernel_rfl) (fun K hK => ?_)
    simp [go_sem]
    refine hv_make (kl := .i64) (kc := .i64) m.length m.length (by simp [go_sem]) rfl ty_slZ22 ty_bytes39 (by simp [go_sem]) (by simp [go_sem]) (Nat.le_refl _) (by omega) (by omega) (fun w2 b2 hE2 hle2 hB2 => ?_)
    rw [Nat.mul_one, madeCells_one] at hB2
    simp [go_sem]
    refine hK _ _ ?_; clear hK K
    have hr3 := hr2.ext hE2
    obtain ⟨ad, rfl⟩ : ∃ ad, a = some ad := by
      have := (hr3.get (i := 0) (by omega)).2
      exact Option.isSome_iff_exists.1 this
    first | refine W_rt (by kernel_rfl) (fun K hK => ?_) | refine W_text (by kernel_rfl) (fun K hK => ?_)
    simp [go_sem]
    refine hv_copy (b := b2) (dl := m.length) (dc := m.length) (a := ad) (sl := m.length) (sc := c) (lmC m) (by simp [go_sem]) rfl Try.underlying22 ty_size39 (by simp [go_sem]) (by simp [go_sem]) hB2 (by rw [lmC_len]; simp) hr3.news (by rw [lmC_len]; simp) (lmC_one _) (by decide) (fun w3 hS3 hB3 => ?_)
    simp [go_sem]
    refine hK _ _ ?_; clear hK K
    first | refine W_rt (by kernel_rfl) (fun K hK => ?_) | refine W_text (by kernel_rfl) (fun K hK => ?_)
    simp [go_sem]
    refine hK _ _ ?_; clear hK K
    refine W_ret ?_
    repeat (first | refine thenG_ret ?_ | refine inBlock_ret ?_)
    refine ⟨trivial, some ⟨b2, 0, none⟩, m.length, ?_, RD.of_bx hB3 hok (Nat.le_refl _), hE2.nextS hS3 hle2⟩
    simp [go_sem, pack, resL]

set_option maxHeartbeats 1000000 in
theorem normR_any (l : List Nat) (a : Option Addr) (c : Nat) (w : World) (hr : RD w a c l) (hl : l.length ≤ lenB) :
    Calls Try.prog 18 #[.slice a l.length c] w (RetN w (nrm l)) := by
  have hcap := hr.cap
  have hl' : l.length ≤ 1000000000000 := hl
  have hn := nrm_len l
  have hr2 := hr.nrm
  have hok := nrm_ok l hr.ok
  refine calls_of_W (args := [.slice a l.length c]) (rs := [.tmp 2]) (n := 24) Try.func18 rfl rfl rfl (by kernel_rfl) ?_
  first | refine W_rt (by kernel_rfl) (fun K hK => ?_) | refine W_text (by kernel_rfl) (fun K hK => ?_)
  simp [go_sem]
  refine hK _ _ ?_; clear hK K
  first | refine W_rt (by kernel_rfl) (fun K hK => ?_) | refine W_text (by kernel_rfl) (fun K hK => ?_)
  simp [go_sem]
  refine hK _ _ ?_; clear hK K
  refine W_seq (fun K1 hK1 => ?_)
  have fin : ∀ (g : G), g 0 = .slice a l.length c → g 3 = .int .i64 (nrm l).length → K1 g w := by
    intro g g0 g3
    refine hK1 _ _ ?_; clear hK1 K1
    have q2 : ((nrm l).length : Int) ≤ c := by omega
    first | refine W_rt (by kernel_rfl) (fun K hK => ?_) | refine W_text (by kernel_rfl) (fun K hK => ?_)
    simp [go_sem]
    refine hK _ _ ?_; clear hK K
    first | refine W_rt (by kernel_rfl) (fun K hK => ?_) | refine W_text (by kernel_rfl) (fun K hK => ?_)
    simp [go_sem, g0, g3, q2, add0]
    by_cases h0 : (nrm l).length = 0
    · refine hv_append0 (a := a) (c := c) (by simp [go_sem]) rfl ty_slZ22 (by simp [go_sem]) (by simp [go_sem, h0]) ?_
      simp [go_sem]
      refine hK _ _ ?_; clear hK K
      refine W_ret ?_
      repeat (first | refine thenG_ret ?_ | refine inBlock_ret ?_)
      have e0 : nrm l = [] := List.length_eq_zero_iff.1 h0
      refine ⟨trivial, none, 0, ?_, by rw [e0]; exact RD.nil _ _ _, Below.refl _ _⟩
      simp [go_sem, pack, resL, e0]
    · obtain ⟨ad, rfl⟩ : ∃ ad, a = some ad := by
        have := (hr2.get (i := 0) (by omega)).2
        exact Option.isSome_iff_exists.1 this
      refine hv_append (v := .slice none 0 0) (B := w.heap.size) (xs := []) (m := 0) (a := ad) (len := (nrm l).length) (c := c) (lmC (nrm l)) (by simp [go_sem]) rfl ty_slZ22 ty_bytes39 rfl (by decide) (by simp [go_sem]) (by simp [go_sem]) (World.ownsRow_nil _ _ _ _) (by rw [lmC_len, Nat.mul_one]) hr2.news (lmC_one _) (by unfold maxLen; omega) (by omega) (Nat.le_refl _) (by decide) (fun v' w1 hown hg _ => ?_)
      obtain ⟨a', c', rfl, hr3⟩ := RD.of_own (l := nrm l) hown hok
      simp [go_sem]
      refine hK _ _ ?_; clear hK K
      refine W_ret ?_
      repeat (first | refine thenG_ret ?_ | refine inBlock_ret ?_)
      refine ⟨trivial, a', c', ?_, hr3, (Below.refl _ _).nextG hg (fun k hk => by cases hk)⟩
      simp [go_sem, pack, resL]
  refine W_block ?_
  refine W_loop (fun m g w' => w' = w ∧ ∃ k : Nat, k ≤ l.length ∧ m = k ∧ g 0 = .slice a l.length c ∧ g 3 = .int .i64 k ∧ nrm l = nrm (l.take k)) l.length ?_ ?_
  · exact ⟨rfl, l.length, Nat.le_refl _, rfl, rfl, rfl, by rw [List.take_length]⟩
  · rintro m g w' ⟨rfl, k, hk, rfl, g0, g3, hN⟩
    refine W_seq (fun K2 hK2 => ?_)
    rcases m with _ | j
    · first | refine W_rt (by kernel_rfl) (fun K hK => ?_) | refine W_text (by kernel_rfl) (fun K hK => ?_)
      simp [go_sem, g0, g3]
      refine hK _ _ ?_; clear hK K
      refine W_if (by simp [go_sem]; rfl) rfl ?_
      refine W_exit ?_
      repeat (first | refine thenG_exit ?_ | refine inBlock_other rfl ?_ | refine inBlock_same ?_)
      have e0 : nrm l = [] := by rw [hN]; rfl
      exact fin _ (by simp [go_sem, g0]) (by simp [go_sem, g3, e0])
    · have hj : j < l.length := by omega
      obtain ⟨c1, c2⟩ := hr.at hj
      have hw1 : IntKind.i64.wrap (((j + 1 : Nat) : Int) - 1) = (j : Int) := by rw [IntWalk.i64_in _ (by omega)]; omega
      have p1 : (0 : Int) < ((j + 1 : Nat) : Int) := by omega
      have p2 : (j : Int) < l.length := by omega
      rw [take_lat hj] at hN
      generalize hjk : ((j + 1 : Nat) : Int) = jk at *
      by_cases h0 : lat l j = 0
      · have h0' : (lat l j : Int) = 0 := by omega
        rw [h0, nrm_snoc0] at hN
        first | refine W_rt (by kernel_rfl) (fun K hK => ?_) | refine W_text (by kernel_rfl) (fun K hK => ?_)
        simp [go_sem, g0, g3, hw1, p1, p2, hj, c1, c2, h0, h0']
        refine hK _ _ ?_; clear hK K
        refine W_if (by simp [go_sem, h0, h0']; rfl) rfl ?_
        refine W_skip ?_
        refine hK2 _ _ ?_; clear hK2 K2
        refine W_block ?_
        refine W_text (by kernel_rfl) (fun K hK => ?_)
        simp [go_sem, g3, hw1]
        refine hK _ _ ⟨j, by omega, rfl, j, by omega, rfl, by simp [go_sem, g0], by simp [go_sem], hN⟩
      · have h0' : ¬ (lat l j : Int) = 0 := by omega
        rw [nrm_snoc _ _ h0, ← take_lat hj] at hN
        have hlen : (nrm l).length = j + 1 := by rw [hN, List.length_take]; omega
        first | refine W_rt (by kernel_rfl) (fun K hK => ?_) | refine W_text (by kernel_rfl) (fun K hK => ?_)
        simp [go_sem, g0, g3, hw1, p1, p2, hj, c1, c2, h0, h0']
        refine hK _ _ ?_; clear hK K
        refine W_if (by simp [go_sem, h0, h0']; rfl) rfl ?_
        refine W_exit ?_
        repeat (first | refine thenG_exit ?_ | refine inBlock_other rfl ?_ | refine inBlock_same ?_)
        exact fin _ (by simp [go_sem, g0]) (by simp [go_sem, g3, hlen]; omega)
end Go.Proofs.Ytomniiobaonloaa
