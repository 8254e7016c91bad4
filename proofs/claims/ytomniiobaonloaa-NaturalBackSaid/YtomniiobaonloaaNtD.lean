/- Natural numbers: the specification's Add. -/
import Derived.Test.YtomniiobaonloaaNtC
namespace Go.Proofs.Ytomniiobaonloaa
open Go.RowKit Go.V
set_option linter.unusedSimpArgs false
set_option linter.unusedVariables false

/-- a smaller bound, for what grows -/
abbrev lenS : Nat := 100000000000
theorem RD.lt {w : World} {a : Option Addr} {c : Nat} {l : List Nat} (h : RD w a c l) : ∀ ad, a = some ad → l ≠ [] → ad.block < w.heap.size := by
  intro ad ha hn
  obtain ⟨b', off, e, hlt⟩ := h.sl.lt (by intro e; exact hn (List.map_eq_nil_iff.1 e))
  rw [ha] at e; injection e with e; subst e
  exact hlt
theorem RD.grown {w w' : World} {a : Option Addr} {c : Nat} {l : List Nat} {row : Option Nat} (h : RD w a c l) (hg : w.grownBy w' row) (hne : ∀ ad, a = some ad → l ≠ [] → some ad.block ≠ row) : RD w' a c l := by
  refine ⟨?_, h.ok, h.cap⟩
  rcases h.sl with h' | ⟨b, off, e, h'⟩
  · exact .inl h'
  · by_cases hx : l = []
    · exact .inl (by subst hx; rfl)
    · exact .inr ⟨b, off, e, fun j v hv => hg.cell (h' j v hv) (show some b ≠ row from hne ⟨b, off, none⟩ e hx)⟩
theorem own_ne {w0 w : World} {e size n : Nat} {v : Value} {xs : List Value} {a : Option Addr} {l : List Nat} (hown : w.ownsRow w0.heap.size e size v n xs) (h : ∀ ad, a = some ad → l ≠ [] → ad.block < w0.heap.size) : ∀ ad, a = some ad → l ≠ [] → some ad.block ≠ v.ownBlock := by
  intro ad ha hn e
  have h1 := h ad ha hn
  have h2 := (hown.lt _ e.symm).1
  omega

set_option maxHeartbeats 2000000 in
theorem addR_any (l m : List Nat) (a b : Option Addr) (c d : Nat) (w : World) (hr : RD w a c l) (hs : RD w b d m) (hl : l.length ≤ lenS) (hm : m.length ≤ lenS) :
    Calls Try.prog 33 #[.slice a l.length c, .slice b m.length d] w (RetN w (lim (val l + val m))) := by
  have hl' : l.length ≤ 100000000000 := hl
  have hm' : m.length ≤ 100000000000 := hm
  obtain ⟨N, hN1, hN2, hN3, hN4⟩ : ∃ N, l.length ≤ N ∧ m.length ≤ N ∧ N ≤ 100000000000 ∧ (N = l.length ∨ N = m.length) := by
    by_cases h : l.length ≤ m.length
    · exact ⟨m.length, h, Nat.le_refl _, hm', .inr rfl⟩
    · exact ⟨l.length, Nat.le_refl _, by omega, hl', .inl rfl⟩
  have hba := hr.lt
  have hbb := hs.lt
  refine calls_of_W (args := [.slice a l.length c, .slice b m.length d]) (rs := [.tmp 4]) (n := 44) Try.func33 rfl rfl rfl (by kernel_rfl) ?_
  refine W_rt (by kernel_rfl) (fun K hK => ?_)
  simp [go_sem]
  refine hK _ _ ?_; clear hK K
  refine W_rt (by kernel_rfl) (fun K hK => ?_)
  simp [go_sem]
  refine hK _ _ ?_; clear hK K
  refine W_rt (by kernel_rfl) (fun K hK => ?_)
  simp [go_sem]
  refine hK _ _ ?_; clear hK K
  refine W_seq (fun K1 hK1 => ?_)
  refine W_rt (by kernel_rfl) (fun K hK => ?_)
  simp [go_sem]
  refine hK _ _ ?_; clear hK K
  refine W_block ?_
  refine W_loop (fun k g w' => Below w.heap.size w w' ∧ RD w' a c l ∧ RD w' b d m ∧ ∃ (i cy : Nat) (ws : List Nat) (v : Value), i ≤ N + 1 ∧ k = N + 1 - i ∧ g 0 = .slice a l.length c ∧ g 1 = .slice b m.length d ∧ g 5 = v ∧ g 6 = .int .i64 cy ∧ g 7 = .int .i64 i ∧
    w'.ownsRow w.heap.size 39 1 v i (lmC ws) ∧ ws.length = i ∧ Ok ws ∧ cy ≤ 1 ∧ (i = N + 1 → cy = 0) ∧ val ws + 65536 ^ i * cy = val (l.take i) + val (m.take i)) (N + 1) ?_ ?_
  · exact ⟨Below.refl _ _, hr, hs, 0, 0, [], .slice none 0 0, by omega, rfl, by simp [go_sem], by simp [go_sem], by simp [go_sem], by simp [go_sem], by simp [go_sem], World.ownsRow_nil _ _ _ _, rfl, Ok.nil, by omega, by omega, by simp [val]⟩
  · clear hr hs
    rintro k g w' ⟨hE, hr, hs, i, cy, ws, v, hi, rfl, g0, g1, g5, g6, g7, hown, hwl, hwok, hcy, hlast, hval⟩
    refine W_seq (fun K2 hK2 => ?_)
    refine W_rtJ (fun g' w1 => w1 = w' ∧ g' 0 = .slice a l.length c ∧ g' 1 = .slice b m.length d ∧ g' 5 = v ∧ g' 6 = .int .i64 cy ∧ g' 7 = .int .i64 i ∧ g' 22 = .bool (decide (i < l.length) || (decide (i < m.length) || decide (0 < cy)))) (by kernel_rfl) ?_ ?_
    · by_cases h1 : i < l.length
      · have h1' : (i : Int) < l.length := by omega
        simp [go_sem, g0, g1, g5, g6, g7, h1, h1']
      · have h1' : ¬ (i : Int) < l.length := by omega
        by_cases h2 : i < m.length
        · have h2' : (i : Int) < m.length := by omega
          simp [go_sem, g0, g1, g5, g6, g7, h1, h1', h2, h2']
        · have h2' : ¬ (i : Int) < m.length := by omega
          simp [go_sem, g0, g1, g5, g6, g7, h1, h1', h2, h2']
    · clear g0 g1 g5 g6 g7
      rintro g' w1 ⟨rfl, g0, g1, g5, g6, g7, g22⟩
      refine W_if g22 rfl ?_
      by_cases hgo : i < l.length ∨ i < m.length ∨ 0 < cy
      · have hgb : (decide (i < l.length) || (decide (i < m.length) || decide (0 < cy))) = true := by simpa using hgo
        have hiN : i ≤ N := by
          by_cases e : i = N + 1
          · have := hlast e; omega
          · omega
        have hx := lat_lt hr.ok i
        have hy := lat_lt hs.ok i
        obtain ⟨sm, hsm⟩ : ∃ sm, sm = cy + lat l i + lat m i := ⟨_, rfl⟩
        have hstep := add_step ws l m i cy sm hwl hval hsm
        have hlast' : i + 1 = N + 1 → sm / 65536 = 0 := by
          intro e
          have z1 : lat l i = 0 := lat_out (by omega)
          have z2 : lat m i = 0 := lat_out (by omega)
          omega
        have e3 : IntKind.i64.wrap ((lat l i : Int) + lat m i) = (lat l i : Int) + lat m i := IntWalk.i64_in _ (by omega)
        have e4 : IntKind.i64.wrap ((lat l i : Int) + lat m i + cy) = (sm : Int) := by rw [IntWalk.i64_in _ (by omega)]; omega
        have e5 : (sm : Int).tmod 65536 = ((sm % 65536 : Nat) : Int) := rfl
        have e5' : IntKind.u16.wrap ((sm % 65536 : Nat) : Int) = ((sm % 65536 : Nat) : Int) := w16_in _ (by omega)
        have e6 : (sm : Int).tdiv 65536 = ((sm / 65536 : Nat) : Int) := rfl
        have e6' : IntKind.i64.wrap ((sm / 65536 : Nat) : Int) = ((sm / 65536 : Nat) : Int) := IntWalk.i64_in _ (by omega)
        have hw1 : IntKind.i64.wrap (↑i + 1) = (i : Int) + 1 := IntWalk.i64_in _ (by omega)
        have hQ' : sm % 65536 < 65536 := by omega
        have hC' : sm / 65536 ≤ 1 := by omega
        generalize hQ : sm % 65536 = Q at *
        generalize hC : sm / 65536 = C at *
        simp only [hgb]
        refine W_skip ?_
        refine hK2 _ _ ?_; clear hK2 K2
        refine W_seq (fun K2 hK2 => ?_)
        refine W_block ?_
        refine W_rt (by kernel_rfl) (fun K hK => ?_)
        simp [go_sem, g0, g1, g7]
        refine hv_call (by simp [go_sem, g0, g1, g7]) rfl Try.call46 (fun R hR => ?_)
        simp [go_sem, g0, g1, g7]
        refine (limb_any l a c i _ hr).mono ?_
        rintro e w2 ⟨rfl, rfl⟩
        refine ⟨_, rfl, hR _ _ ?_⟩
        clear hR R
        simp [go_sem, g0, g1, g7]
        refine hv_call (by simp [go_sem, g0, g1, g7]) rfl Try.call46 (fun R hR => ?_)
        simp [go_sem, g0, g1, g7]
        refine (limb_any m b d i _ hs).mono ?_
        rintro e w2 ⟨rfl, rfl⟩
        refine ⟨_, rfl, hR _ _ ?_⟩
        clear hR R
        simp [go_sem, g6, e3, e4]
        refine hK _ _ ?_; clear hK K
        refine W_rt (by kernel_rfl) (fun K hK => ?_)
        simp [go_sem, g5, e5, e5']
        refine hv_buildSlice #[.int .u16 Q] (by simp [go_sem, e5, e5']) rfl ty_slZ22 (by decide) [(0, .int .u16 Q)] (by simp [go_sem, e5, e5']) (by kernel_rfl) (fun w8 b8 hE8 hle8 hB8 => ?_)
        have hown8 := own_keep hown hE8
        replace hr := hr.ext hE8
        replace hs := hs.ext hE8
        replace hE := hE.next hE8
        simp [go_sem]
        refine hv_appendB (v := v) (b := b8) (len := 1) (c := 1) hB8 (by simp [go_sem]) rfl ty_slZ22 ty_bytes39 rfl (by decide) (by simp [go_sem, g5]) (by simp [go_sem]) hown8 rfl (by simp [Value.oneCell']) (by unfold maxLen; omega) (by omega) hE.size (by decide) (fun v' w9 hown9 hg9 _ => ?_)
        have hn1 := own_ne hown8 hba
        have hn2 := own_ne hown8 hbb
        replace hr := hr.grown hg9 hn1
        replace hs := hs.grown hg9 hn2
        replace hE := hE.nextG hg9 (fun b e => (hown8.lt b e).1)
        clear hn1 hn2 hown hown8 hE8 hB8 hg9
        simp [go_sem]
        refine hK _ _ ?_; clear hK K
        refine W_text (by kernel_rfl) (fun K hK => ?_)
        simp [go_sem, e6, e6']
        refine hK _ _ ?_; clear hK K
        refine hK2 _ _ ?_; clear hK2 K2
        refine W_text (by kernel_rfl) (fun K hK => ?_)
        simp [go_sem, g7, hw1]
        refine hK _ _ ⟨N + 1 - (i + 1), by omega, hE, hr, hs, i + 1, C, ws ++ [Q], v', by omega, rfl, by simp [go_sem, g0], by simp [go_sem, g1], by simp [go_sem], by simp [go_sem], by simp [go_sem], ?_, by simp [hwl], hwok.app (Ok.cons hQ' Ok.nil), hC', hlast', hstep⟩
        rw [lmC_snoc]; exact hown9
      · have hgb : (decide (i < l.length) || (decide (i < m.length) || decide (0 < cy))) = false := by
          simp only [not_or] at hgo
          simp [hgo.1, hgo.2.1]; omega
        have hc0 : cy = 0 := by omega
        subst hc0
        rw [List.take_of_length_le (by omega), List.take_of_length_le (by omega), Nat.mul_zero, Nat.add_zero] at hval
        have hres : lim (val l + val m) = nrm ws := by rw [← hval, lim_val ws hwok]
        obtain ⟨a9, c9, rfl, hr9⟩ := RD.of_own hown hwok
        simp only [hgb]
        refine W_exit ?_
        repeat (first | refine thenG_exit ?_ | refine inBlock_other rfl ?_ | refine inBlock_same ?_)
        refine hK1 _ _ ?_; clear hK1 K1 hK2 K2
        rw [hres]
        refine W_rt (by kernel_rfl) (fun K hK => ?_)
        simp [go_sem, g5]
        refine hv_call (by simp [go_sem, g5]) rfl Try.call18 (fun R hR => ?_)
        simp [go_sem, g5]
        refine (normR_any ws a9 c9 _ hr9 (by unfold lenB; omega)).mono ?_
        rintro e w2 ⟨a2, c2, rfl, hr2, hE2⟩
        refine ⟨_, rfl, hR _ _ ?_⟩
        clear hR R
        simp [go_sem]
        refine hK _ _ ?_; clear hK K
        refine W_ret ?_
        repeat (first | refine thenG_ret ?_ | refine inBlock_ret ?_)
        refine ⟨trivial, a2, c2, ?_, hr2, hE.next hE2⟩
        simp [go_sem, pack, resL]
end Go.Proofs.Ytomniiobaonloaa
