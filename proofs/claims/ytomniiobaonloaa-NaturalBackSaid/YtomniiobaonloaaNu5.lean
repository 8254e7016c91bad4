/- Natural numbers: Text. -/
import Derived.Test.YtomniiobaonloaaNu4
import Derived.Test.YtomniiobaonloaaSb1
namespace Go.Proofs.Ytomniiobaonloaa
open Go.RowKit Go.V
set_option linter.unusedSimpArgs false
set_option linter.unusedVariables false

/-- a function that returns this text -/
def RetS (w : World) (l : List UInt8) (e : Ending) (w' : World) : Prop := e = .returned (.string ⟨l.toArray⟩) ∧ Below w.heap.size w w'
theorem lat_snoc (GL : List Nat) (x i : Nat) : lat (GL ++ [x]) i = if i < GL.length then lat GL i else if i = GL.length then x else 0 := by
  unfold lat
  rw [List.getD_eq_getElem?_getD, List.getD_eq_getElem?_getD]
  by_cases h : i < GL.length
  · rw [if_pos h, List.getElem?_append_left h]
  · rw [if_neg h, List.getElem?_append_right (by omega)]
    by_cases h2 : i = GL.length
    · subst h2; simp
    · rw [if_neg h2, List.getElem?_eq_none (by simp; omega)]; rfl

theorem RD.grown2 {w w' : World} {a : Option Addr} {c : Nat} {l : List Nat} {row : Option Nat} (h : RD w a c l) (hg : w.grownBy w' row) (hne : ∀ ad, a = some ad → row ≠ some ad.block) : RD w' a c l := by
  refine ⟨?_, h.ok, h.cap⟩
  rcases h.sl with e | ⟨b', off, e, hc⟩
  · exact .inl e
  · by_cases hl : l = []
    · exact .inl (by rw [hl]; rfl)
    · refine .inr ⟨b', off, e, fun j v hv => ?_⟩
      have h1 := hc j v hv
      have h2 := World.block_lt_of_cell? w _ h1
      exact (World.cell?_of_block (w := w) (a := ⟨b', off + j, none⟩) (hg.block b' h2 (fun e' => hne _ e e'.symm))).trans h1

set_option maxHeartbeats 2000000 in
theorem text_any (l : List Nat) (a : Option Addr) (c : Nat) (w : World) (hr : RD w a c l) (hl : l.length ≤ 100000) :
    Calls Try.prog 37 #[.slice a l.length c] w (RetS w (txt (val l))) := by
  have hno := norm_any l a c w hr (by unfold lenB; omega)
  rw [← lim_val l hr.ok] at hno
  have hlt := val_lt l hr.ok
  have hlim : (lim (val l)).length ≤ l.length := by rw [lim_val l hr.ok]; exact nrm_len l
  rw [pow_16] at hlt
  generalize val l = A0 at *
  refine calls_of_W (args := [.slice a l.length c]) (rs := [.tmp 2]) (n := 59) Try.func37 rfl rfl rfl (by kernel_rfl) ?_
  first | refine W_rt (by kernel_rfl) (fun K hK => ?_) | refine W_text (by kernel_rfl) (fun K hK => ?_)
  simp [go_sem]
  refine hK _ _ ?_; clear hK K
  first | refine W_rt (by kernel_rfl) (fun K hK => ?_) | refine W_text (by kernel_rfl) (fun K hK => ?_)
  simp [go_sem]
  refine hv_call (by simp [go_sem]) rfl Try.call17 (fun R hR => ?_)
  simp [go_sem]
  refine (hno).mono ?_
  rintro e w1 ⟨a1, c1, rfl, hr1, hE1⟩
  refine ⟨_, rfl, hR _ _ ?_⟩
  clear hR R
  have hE := hE1
  clear hno hr
  simp [go_sem]
  refine hK _ _ ?_; clear hK K
  refine W_seq (fun K1 hK1 => ?_)
  by_cases h0 : A0 = 0
  · subst h0
    rw [lim_zero]
    first | refine W_rt (by kernel_rfl) (fun K hK => ?_) | refine W_text (by kernel_rfl) (fun K hK => ?_)
    simp [go_sem]
    refine hK _ _ ?_; clear hK K
    refine W_if (by simp [go_sem]; rfl) rfl ?_
    first | refine W_rt (by kernel_rfl) (fun K hK => ?_) | refine W_text (by kernel_rfl) (fun K hK => ?_)
    simp [go_sem]
    refine hK _ _ ?_; clear hK K
    refine W_ret ?_
    repeat (first | refine thenG_ret ?_ | refine inBlock_ret ?_)
    exact ⟨trivial, by simp [go_sem, pack, resL, txt], hE⟩
  · have hp : 0 < (lim A0).length := lim_ne h0
    have hp' : ¬ ((lim A0).length : Int) = 0 := by omega
    have hp'' : ¬ lim A0 = [] := by intro e; rw [e] at hp; simp at hp
    first | refine W_rt (by kernel_rfl) (fun K hK => ?_) | refine W_text (by kernel_rfl) (fun K hK => ?_)
    simp [go_sem, hp', hp'']
    refine hK _ _ ?_; clear hK K
    refine W_if (by simp [go_sem, hp', hp'']; rfl) rfl ?_
    refine W_skip ?_
    refine hK1 _ _ ?_; clear hK1 K1
    first | refine W_rt (by kernel_rfl) (fun K hK => ?_) | refine W_text (by kernel_rfl) (fun K hK => ?_)
    simp [go_sem]
    refine hK _ _ ?_; clear hK K
    refine W_seq (fun K1 hK1 => ?_)
    -- the groups
    refine W_block ?_
    refine W_loop (fun t g w' => Below w.heap.size w w' ∧ ∃ k a1 c1 v GL, t = A0 / 10000 ^ k ∧ g 0 = .slice a1 (lim t).length c1 ∧ RD w' a1 c1 (lim t) ∧ g 3 = v ∧ w'.ownsRow w.heap.size 39 1 v k (lmC GL) ∧ GL.length = k ∧ Ok GL ∧ k ≤ 16 * l.length ∧ (∀ i, i < k → lat GL i = A0 / 10000 ^ i % 10000)) A0 ?_ ?_
    · exact ⟨hE, 0, a1, c1, .slice none 0 0, [], by simp, by simp [go_sem], hr1, by simp [go_sem], World.ownsRow_nil _ _ _ _, rfl, Ok.nil, by omega, fun i hi => by omega⟩
    · clear hE hr1 hE1
      rintro A g w' ⟨hE, k, a1, c1, v, GL, rfl, g0, hrA, g3, hown, hGl, hGok, hk, hG⟩
      refine W_seq (fun K2 hK2 => ?_)
      by_cases hA0 : A0 / 10000 ^ k = 0
      · rw [hA0, lim_zero] at g0
        first | refine W_rt (by kernel_rfl) (fun K hK => ?_) | refine W_text (by kernel_rfl) (fun K hK => ?_)
        simp [go_sem, g0]
        refine hK _ _ ?_; clear hK K
        refine W_if (by simp [go_sem]; rfl) rfl ?_
        refine W_exit ?_
        repeat (first | refine thenG_exit ?_ | refine inBlock_other rfl ?_ | refine inBlock_same ?_)
        refine hK1 _ _ ?_; clear hK1 K1 hK2 K2
        obtain ⟨ag, cg, rfl, hGr⟩ := RD.of_own hown hGok
        rw [hGl] at g3
        first | refine W_rt (by kernel_rfl) (fun K hK => ?_) | refine W_text (by kernel_rfl) (fun K hK => ?_)
        simp [go_sem]
        refine hv_alloc (by simp [go_sem]) rfl ty_zeroC62 (fun w5 b5 hE5 hle5 hB5 => ?_)
        have hbd := bdNew hle5 hB5
        have hE9 := hE.next hE5
        simp [go_sem]
        refine hK _ _ ?_; clear hK K
        have hGw : RD w' ag cg GL := hGr
        have hE5' := hE5
        have hBd := hbd
        have hlen := fun n (h : n ≤ A0) => dgz_len (16 * l.length) n (by omega)
        have fk : IntKind.i64.wrap ((k : Int) - 1) = (k : Int) - 1 := IntWalk.i64_in _ (by omega)
        refine W_seq (fun K1 hK1 => ?_)
        first | refine W_rt (by kernel_rfl) (fun K hK => ?_) | refine W_text (by kernel_rfl) (fun K hK => ?_)
        simp [go_sem, g3, fk]
        refine hK _ _ ?_; clear hK K
        refine W_block ?_
        refine W_loop (fun t g wi => Below w'.heap.size w' wi ∧ t ≤ k ∧ g 3 = .slice ag k cg ∧ g 6 = .pointer (some ⟨b5, 0, none⟩) ∧ g 7 = .int .i64 ((t : Int) - 1) ∧ Bd w'.heap.size b5 (dgz (A0 / 10000 ^ t)) wi) k ?_ ?_
        · exact ⟨hE5, Nat.le_refl _, by simp [go_sem, g3], by simp [go_sem], by simp [go_sem], by rw [hA0, dgz_0]; exact hbd⟩
        · clear hE5 hbd hB5 hE5' hBd g3 hE9 g0 hown
          clear g
          rintro t g wi ⟨hEi, htk, g3, g6, g7, hbd⟩
          refine W_seq (fun K2 hK2 => ?_)
          rcases t with _ | i
          · have hbs := hEi.size
            first | refine W_rt (by kernel_rfl) (fun K hK => ?_) | refine W_text (by kernel_rfl) (fun K hK => ?_)
            simp [go_sem, g7]
            refine hK _ _ ?_; clear hK K
            refine W_if (by simp [go_sem]; rfl) rfl ?_
            refine W_exit ?_
            repeat (first | refine thenG_exit ?_ | refine inBlock_other rfl ?_ | refine inBlock_same ?_)
            refine hK1 _ _ ?_; clear hK1 K1 hK2 K2
            rw [Nat.pow_zero, Nat.div_one] at hbd
            first | refine W_rt (by kernel_rfl) (fun K hK => ?_) | refine W_text (by kernel_rfl) (fun K hK => ?_)
            simp [go_sem, g6]
            refine hv_call (by simp [go_sem, g6]) rfl Try.call53 (fun R hR => ?_)
            simp [go_sem, g6]
            refine (bdString_any _ _ _ _ hbd hbs).mono ?_
            rintro e w6 ⟨rfl, hE6⟩
            refine ⟨_, rfl, hR _ _ ?_⟩
            clear hR R
            simp [go_sem]
            refine hK _ _ ?_; clear hK K
            refine W_ret ?_
            repeat (first | refine thenG_ret ?_ | refine inBlock_ret ?_)
            refine ⟨trivial, ?_, hE.next (hEi.trans hE6)⟩
            simp [go_sem, pack, resL, txt, h0]
          · have ej : ((i + 1 : Nat) : Int) - 1 = (i : Int) := by omega
            rw [ej] at g7
            have p0 : (0 : Int) ≤ i := by omega
            have hgi := hG i (by omega)
            have hV := grp_val A0 i
            have hgm : A0 / 10000 ^ i % 10000 < 10000 := Nat.mod_lt _ (by decide)
            have hVA : A0 / 10000 ^ i ≤ A0 := Nat.div_le_self _ _
            rw [← hgi] at hV hgm
            obtain ⟨cc1, cc2⟩ := hGw.at (i := i) (by omega)
            have q1 : i < k := by omega
            have q1' : (i : Int) < k := by omega
            obtain ⟨gr, hgr⟩ : ∃ gr, gr = lat GL i := ⟨_, rfl⟩
            rw [← hgr] at hV hgm cc1
            obtain ⟨V, hVe⟩ : ∃ V, V = A0 / 10000 ^ i := ⟨_, rfl⟩
            rw [← hVe] at hV hVA
            have hstart : dgz (A0 / 10000 ^ (i + 1)) = dgz (V / 10 ^ 4) := by
              congr 1
              rw [hVe, Nat.pow_succ, Nat.div_div_eq_div_mul]
            rw [hstart] at hbd
            first | refine W_rt (by kernel_rfl) (fun K hK => ?_) | refine W_text (by kernel_rfl) (fun K hK => ?_)
            simp [go_sem, g7, p0]
            refine hK _ _ ?_; clear hK K
            refine W_if (by simp [go_sem, p0]; rfl) rfl ?_
            refine W_skip ?_
            refine hK2 _ _ ?_; clear hK2 K2
            refine W_seq (fun K2 hK2 => ?_)
            refine W_block ?_
            first | refine W_rt (by kernel_rfl) (fun K hK => ?_) | refine W_text (by kernel_rfl) (fun K hK => ?_)
            simp [go_sem]
            refine hK _ _ ?_; clear hK K
            refine W_block ?_
            refine W_loop (fun m g wi => Below w'.heap.size w' wi ∧ m ≤ 4 ∧ g 3 = .slice ag k cg ∧ g 6 = .pointer (some ⟨b5, 0, none⟩) ∧ g 7 = .int .i64 (i : Int) ∧ g 8 = .int .u16 ((10 ^ m / 10 : Nat) : Int) ∧ Bd w'.heap.size b5 (dgz (V / 10 ^ m)) wi) 4 ?_ ?_
            · exact ⟨hEi, by omega, by simp [go_sem, g3], by simp [go_sem, g6], by simp [go_sem, g7], by simp [go_sem], hbd⟩
            · clear hEi hbd g3 g6 g7
              clear g
              rintro m g wi ⟨hEi, hm4, g3, g6, g7, g8, hbd⟩
              have hbs := hEi.size
              refine W_seq (fun K3 hK3 => ?_)
              rcases m with _ | m
              · rw [Nat.pow_zero, Nat.div_one] at hbd
                first | refine W_rt (by kernel_rfl) (fun K hK => ?_) | refine W_text (by kernel_rfl) (fun K hK => ?_)
                simp [go_sem, g8]
                refine hK _ _ ?_; clear hK K
                refine W_if (by simp [go_sem]; rfl) rfl ?_
                refine W_exit ?_
                repeat (first | refine thenG_exit ?_ | refine inBlock_other rfl ?_ | refine inBlock_same ?_)
                refine hK2 _ _ ?_; clear hK2 K2 hK3 K3
                have f9 : IntKind.i64.wrap ((i : Int) - 1) = (i : Int) - 1 := IntWalk.i64_in _ (by omega)
                first | refine W_rt (by kernel_rfl) (fun K hK => ?_) | refine W_text (by kernel_rfl) (fun K hK => ?_)
                simp [go_sem, g7, f9]
                exact hK _ _ ⟨i, by omega, hEi, by omega, by simp [go_sem, g3], by simp [go_sem, g6], by simp [go_sem], by rw [← hVe]; exact hbd⟩
              · obtain ⟨s1, s2, s3⟩ := dgz_step V (A0 / 10000 ^ (i + 1)) gr m hV hgm (by omega)
                have hDe : 10 ^ (m + 1) / 10 = 10 ^ m := by rw [Nat.pow_succ]; exact Nat.mul_div_cancel _ (by decide)
                rw [hDe] at g8
                have hDb : 10 ^ m ≤ 1000 := Nat.pow_le_pow_right (by decide) (show m ≤ 3 by omega)
                have hD0 : 0 < 10 ^ m := Nat.pow_pos (by decide)
                obtain ⟨D, hD⟩ : ∃ D, D = 10 ^ m := ⟨_, rfl⟩
                rw [← hD] at g8 hDb hD0 s1 s2 s3
                have hD0' : (0 : Int) < D := by omega
                have hDn : ¬ (D : Int) = 0 := by omega
                have hDn' : ¬ D = 0 := by omega
                obtain ⟨Q, hQ⟩ : ∃ Q, Q = V / 10 ^ (m + 1) := ⟨_, rfl⟩
                rw [← hQ] at s1 s3 hbd
                have hQl := hlen Q (by rw [hQ]; exact Nat.le_trans (Nat.div_le_self _ _) hVA)
                obtain ⟨N, hN⟩ : ∃ N, N = V / D := ⟨_, rfl⟩
                rw [← hN] at s1 s2 s3
                have f10 : (D : Int).tdiv 10 = ((D / 10 : Nat) : Int) := rfl
                have f10' : IntKind.u16.wrap ((D / 10 : Nat) : Int) = ((D / 10 : Nat) : Int) := w16_in _ (by omega)
                obtain ⟨D1, hD1⟩ : ∃ D1, D1 = D / 10 := ⟨_, rfl⟩
                rw [← hD1] at f10 f10'
                first | refine W_rt (by kernel_rfl) (fun K hK => ?_) | refine W_text (by kernel_rfl) (fun K hK => ?_)
                simp [go_sem, g8, hD0, hD0']
                refine hK _ _ ?_; clear hK K
                refine W_if (by simp [go_sem, hD0, hD0']; rfl) rfl ?_
                refine W_skip ?_
                refine hK3 _ _ ?_; clear hK3 K3
                refine W_seq (fun K3 hK3 => ?_)
                refine W_block ?_
                replace hGr := hGw.ext hEi
                obtain ⟨cc1, cc2⟩ := hGr.at (i := i) (by omega)
                rw [← hgr] at cc1
                -- the last step
                have last : ∀ (g : G) (wi : World), Below w'.heap.size w' wi → g 3 = .slice ag k cg → g 6 = .pointer (some ⟨b5, 0, none⟩) → g 7 = .int .i64 (i : Int) → g 8 = .int .u16 (D : Int) → Bd w'.heap.size b5 (dgz N) wi → K3 g wi := by
                  clear g3 g6 g7 g8 hEi hbd cc1 cc2 hGr hbs
                  clear g
                  intro g wi hEi g3 g6 g7 g8 hbd
                  refine hK3 _ _ ?_; clear hK3 K3
                  first | refine W_rt (by kernel_rfl) (fun K hK => ?_) | refine W_text (by kernel_rfl) (fun K hK => ?_)
                  simp [go_sem, g8, f10, f10']
                  exact hK _ _ ⟨m, by omega, hEi, by omega, by simp [go_sem, g3], by simp [go_sem, g6], by simp [go_sem, g7], by simp [go_sem, hD1, hD], by rw [← hD, ← hN]; exact hbd⟩
                first | refine W_rt (by kernel_rfl) (fun K hK => ?_) | refine W_text (by kernel_rfl) (fun K hK => ?_)
                simp [go_sem, g6]
                refine hv_call (by simp [go_sem, g6]) rfl Try.call51 (fun R hR => ?_)
                simp [go_sem, g6]
                refine (bdLen_any _ _ _ _ hbd).mono ?_
                rintro e w8 ⟨rfl, rfl⟩
                refine ⟨_, rfl, hR _ _ ?_⟩
                clear hR R
                by_cases hq0 : Q = 0
                · have hl0 : (dgz Q).length = 0 := by rw [hq0, dgz_0]; rfl
                  by_cases hge : D ≤ gr
                  · have hge' : (D : Int) ≤ gr := by omega
                    have hcond : ¬ (Q = 0 ∧ ¬ D ≤ gr) := fun h => h.2 hge
                    simp [go_sem, g3, g7, g8, q1, q1', cc1, cc2, hl0, hge, hge']
                    refine hK _ _ ?_; clear hK K
                    refine W_if (by simp [go_sem, hge, hge']; rfl) rfl ?_
                    have hN0 : N ≠ 0 := by
                      intro e0
                      have := s1.1 e0
                      omega
                    have hx10 : gr / D % 10 < 10 := Nat.mod_lt _ (by decide)
                    obtain ⟨gd, hgd⟩ : ∃ gd, gd = gr / D := ⟨_, rfl⟩
                    have hgdl : gd ≤ gr := by rw [hgd]; exact Nat.div_le_self _ _
                    have e53 : (gr : Int).tdiv D = (gd : Int) := by rw [hgd]; rfl
                    have e53' : IntKind.u16.wrap (gd : Int) = (gd : Int) := w16_in _ (by omega)
                    obtain ⟨x, hx⟩ : ∃ x, x = gd % 10 := ⟨_, rfl⟩
                    have e54 : (gd : Int).tmod 10 = (x : Int) := by rw [hx]; rfl
                    rw [← hgd, ← hx] at s2 hx10
                    obtain ⟨Y, hY⟩ : ∃ Y, Y = 48 + x := ⟨_, rfl⟩
                    have e55 : IntKind.u16.wrap (48 + (x : Int)) = (Y : Int) := by rw [w16_in _ (by omega)]; omega
                    have e56 : IntKind.u8.wrap (Y : Int) = Y := w8_in _ (by omega)
                    have hwb := writeByte_any w'.heap.size b5 (dgz Q) (UInt8.ofNat (48 + x)) _ hbd (by omega) hbs
                    rw [u8_48 x hx10, ← hY] at hwb
                    have hdz : dgz N = dgz Q ++ [UInt8.ofNat Y] := by rw [dgz_s N hN0, s2, s3, hY]
                    rw [← hdz] at hwb
                    first | refine W_rt (by kernel_rfl) (fun K hK => ?_) | refine W_text (by kernel_rfl) (fun K hK => ?_)
                    simp [go_sem, g3, g6, g7, g8, q1, q1', cc1, cc2, hDn, hDn', e53, e53', e54, e55, e56]
                    refine hv_call (by simp [go_sem, g3, g6, g7, g8, q1, q1', cc1, cc2, hDn, hDn', e53, e53', e54, e55, e56]) rfl Try.call52 (fun R hR => ?_)
                    simp [go_sem, g3, g6, g7, g8, q1, q1', cc1, cc2, hDn, hDn', e53, e53', e54, e55, e56]
                    refine (hwb).mono ?_
                    rintro e w7 ⟨rfl, hbd7, hE7⟩
                    refine ⟨_, rfl, hR _ _ ?_⟩
                    clear hR R
                    simp [go_sem]
                    refine hK _ _ ?_
                    exact last _ _ (hEi.trans hE7) (by simp [go_sem, g3]) (by simp [go_sem, g6]) (by simp [go_sem, g7]) (by simp [go_sem, g8]) hbd7
                  · have hge' : ¬ (D : Int) ≤ gr := by omega
                    have hN0 : N = 0 := s1.2 ⟨hq0, hge⟩
                    simp [go_sem, g3, g7, g8, q1, q1', cc1, cc2, hl0, hge, hge']
                    refine hK _ _ ?_; clear hK K
                    refine W_if (by simp [go_sem, hge, hge']; rfl) rfl ?_
                    refine W_skip ?_
                    exact last _ _ hEi (by simp [go_sem, g3]) (by simp [go_sem, g6]) (by simp [go_sem, g7]) (by simp [go_sem, g8]) (by rw [hN0]; rw [hq0] at hbd; exact hbd)
                · have hlp : 0 < (dgz Q).length := by
                    rcases Nat.eq_zero_or_pos (dgz Q).length with h | h
                    · exact absurd (dgz_nil.1 (List.length_eq_zero_iff.1 h)) hq0
                    · exact h
                  have hlp' : (0 : Int) < (dgz Q).length := by omega
                  have hcond : ¬ (Q = 0 ∧ ¬ D ≤ gr) := fun h => hq0 h.1
                  simp [go_sem, hlp, hlp']
                  refine hK _ _ ?_; clear hK K
                  refine W_if (by simp [go_sem, hlp, hlp']; rfl) rfl ?_
                  have hN0 : N ≠ 0 := by
                    intro e0
                    have := s1.1 e0
                    omega
                  have hx10 : gr / D % 10 < 10 := Nat.mod_lt _ (by decide)
                  obtain ⟨gd, hgd⟩ : ∃ gd, gd = gr / D := ⟨_, rfl⟩
                  have hgdl : gd ≤ gr := by rw [hgd]; exact Nat.div_le_self _ _
                  have e53 : (gr : Int).tdiv D = (gd : Int) := by rw [hgd]; rfl
                  have e53' : IntKind.u16.wrap (gd : Int) = (gd : Int) := w16_in _ (by omega)
                  obtain ⟨x, hx⟩ : ∃ x, x = gd % 10 := ⟨_, rfl⟩
                  have e54 : (gd : Int).tmod 10 = (x : Int) := by rw [hx]; rfl
                  rw [← hgd, ← hx] at s2 hx10
                  obtain ⟨Y, hY⟩ : ∃ Y, Y = 48 + x := ⟨_, rfl⟩
                  have e55 : IntKind.u16.wrap (48 + (x : Int)) = (Y : Int) := by rw [w16_in _ (by omega)]; omega
                  have e56 : IntKind.u8.wrap (Y : Int) = Y := w8_in _ (by omega)
                  have hwb := writeByte_any w'.heap.size b5 (dgz Q) (UInt8.ofNat (48 + x)) _ hbd (by omega) hbs
                  rw [u8_48 x hx10, ← hY] at hwb
                  have hdz : dgz N = dgz Q ++ [UInt8.ofNat Y] := by rw [dgz_s N hN0, s2, s3, hY]
                  rw [← hdz] at hwb
                  first | refine W_rt (by kernel_rfl) (fun K hK => ?_) | refine W_text (by kernel_rfl) (fun K hK => ?_)
                  simp [go_sem, g3, g6, g7, g8, q1, q1', cc1, cc2, hDn, hDn', e53, e53', e54, e55, e56]
                  refine hv_call (by simp [go_sem, g3, g6, g7, g8, q1, q1', cc1, cc2, hDn, hDn', e53, e53', e54, e55, e56]) rfl Try.call52 (fun R hR => ?_)
                  simp [go_sem, g3, g6, g7, g8, q1, q1', cc1, cc2, hDn, hDn', e53, e53', e54, e55, e56]
                  refine (hwb).mono ?_
                  rintro e w7 ⟨rfl, hbd7, hE7⟩
                  refine ⟨_, rfl, hR _ _ ?_⟩
                  clear hR R
                  simp [go_sem]
                  refine hK _ _ ?_
                  exact last _ _ (hEi.trans hE7) (by simp [go_sem, g3]) (by simp [go_sem, g6]) (by simp [go_sem, g7]) (by simp [go_sem, g8]) hbd7
      · have hkb := grp_len hA0 hlt
        have hp : 0 < (lim (A0 / 10000 ^ k)).length := lim_ne hA0
        have hp' : (0 : Int) < (lim (A0 / 10000 ^ k)).length := by omega
        have hAl : (lim (A0 / 10000 ^ k)).length ≤ 100000 := lim_mono (Nat.div_le_self _ _) (by omega)
        first | refine W_rt (by kernel_rfl) (fun K hK => ?_) | refine W_text (by kernel_rfl) (fun K hK => ?_)
        simp [go_sem, g0, hp, hp']
        refine hK _ _ ?_; clear hK K
        refine W_if (by simp [go_sem, hp, hp']; rfl) rfl ?_
        refine W_skip ?_
        refine hK2 _ _ ?_; clear hK2 K2
        refine W_block ?_
        have hmod : A0 / 10000 ^ k % 10000 < 10000 := Nat.mod_lt _ (by decide)
        have hbl := byLimb_fresh (lim (A0 / 10000 ^ k)) a1 c1 10000 _ hrA (by unfold lenB; omega) (by decide) (by decide)
        rw [val_lim, Nat.div_div_eq_div_mul, ← Nat.pow_succ] at hbl
        obtain ⟨x, hx⟩ : ∃ x, x = A0 / 10000 ^ k % 10000 := ⟨_, rfl⟩
        rw [← hx] at hbl hmod
        first | refine W_rt (by kernel_rfl) (fun K hK => ?_) | refine W_text (by kernel_rfl) (fun K hK => ?_)
        simp [go_sem, g0]
        refine hv_call (by simp [go_sem, g0]) rfl Try.call47 (fun R hR => ?_)
        simp [go_sem, g0]
        refine (hbl).mono ?_
        rintro e w2 ⟨a2, c2, rfl, hr2, hE2, hfr⟩
        refine ⟨_, rfl, hR _ _ ?_⟩
        clear hR R
        have hlt2 := fun kk e => (hown.lt kk e).2
        replace hown := own_keep hown hE2
        replace hE := hE.next hE2
        simp [go_sem]
        refine hK _ _ ?_; clear hK K
        first | refine W_rt (by kernel_rfl) (fun K hK => ?_) | refine W_text (by kernel_rfl) (fun K hK => ?_)
        simp [go_sem, g3]
        refine hv_buildSlice #[.int .u16 x] (by simp [go_sem, g3]) rfl ty_slZ22 (by decide) [(0, .int .u16 x)] (by simp [go_sem, g3]) (by kernel_rfl) (fun w4 b4 hE4 hle4 hB4 => ?_)
        replace hr2 := hr2.ext hE4
        have hown4 := own_keep hown hE4
        replace hE := hE.next hE4
        simp [go_sem, g3]
        refine hv_appendB (v := v) (b := b4) (len := 1) (c := 1) hB4 (by simp [go_sem]) rfl ty_slZ22 ty_bytes39 rfl (by decide) (by simp [go_sem, g3]) (by simp [go_sem]) hown4 rfl (by simp [Value.oneCell']) (by unfold maxLen; omega) (by omega) hE.size (by decide) (fun v6 w6 hown6 hg6 _ => ?_)
        replace hE := hE.nextG hg6 (fun b e => (hown4.lt b e).1)
        replace hr2 := hr2.grown2 hg6 (fun ad ha e => by
          have h1 := hfr ad ha
          have h2 := hlt2 _ e
          omega)
        simp [go_sem]
        refine hK _ _ ?_; clear hK K
        first | refine W_rt (by kernel_rfl) (fun K hK => ?_) | refine W_text (by kernel_rfl) (fun K hK => ?_)
        simp [go_sem]
        refine hK _ _ ⟨A0 / 10000 ^ (k + 1), ?_, hE, k + 1, a2, c2, v6, GL ++ [x], rfl, by simp [go_sem], hr2, by simp [go_sem], ?_, by simp [hGl], hGok.app (Ok.cons (by omega) Ok.nil), by omega, ?_⟩
        · rw [Nat.pow_succ, ← Nat.div_div_eq_div_mul]
          exact Nat.div_lt_self (Nat.pos_of_ne_zero hA0) (by decide)
        · rw [lmC_snoc]; exact hown6
        · intro i hi
          rw [lat_snoc]
          by_cases h : i < k
          · rw [if_pos (by omega)]; exact hG i h
          · have e : i = k := by omega
            subst e
            rw [if_neg (by omega), if_pos (by omega)]; exact hx
end Go.Proofs.Ytomniiobaonloaa
