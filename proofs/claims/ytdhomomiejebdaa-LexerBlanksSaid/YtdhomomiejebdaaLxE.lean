/- LexerBlanks: the texts of tokens, separated by other blanks and comments, are the same tokens. -/
import Derived.Test.YtdhomomiejebdaaLxD
namespace Go.Proofs.Ytdhomomiejebdaa
open Go.RowKit Go.V Go.ChangeMaps
set_option linter.unusedSimpArgs false
set_option linter.unusedVariables false

theorem joinT_step (s : ByteArray) (n i : Nat) (l : List Tk) (t : Tk) (h : l[i]? = some t) : joinT s n i (l.drop i) = txt s t ++ (btAt (n + i) ++ joinT s n (i + 1) (l.drop (i + 1))) := by
  obtain ⟨hi, he⟩ := List.getElem?_eq_some_iff.1 h
  rw [List.drop_eq_getElem_cons hi, joinT, he]
theorem bs_mk' (l : List UInt8) : bs ⟨l.toArray⟩ = l := by simp [bs]
theorem sl_cells (s : ByteArray) {w : World} {a : Option Addr} {l : List Tk} (h : SL w a (tksC s l)) {i : Nat} {t : Tk} (hi : l[i]? = some t) :
    ∃ b off, a = some ⟨b, off, none⟩ ∧ w.cell? ⟨b, off + i * 4, none⟩ = some (.int .i64 t.1) ∧ w.cell? ⟨b, off + i * 4 + 3, none⟩ = some (.string (s.extract t.2.1 t.2.2)) := by
  have hr := tksC_row s l i t hi
  have hlt := (List.getElem?_eq_some_iff.1 hi).1
  have hx : ∀ j, j < 4 → (tksC s l)[i * 4 + j]? = (tokC s t)[j]? := by
    intro j hj
    rw [← hr, List.getElem?_take_of_lt hj, List.getElem?_drop]
  rcases h with h | ⟨b, off, rfl, h⟩
  · have := congrArg List.length h; rw [tksC_len] at this; simp at this; omega
  · refine ⟨b, off, rfl, ?_, ?_⟩
    · exact h (i * 4) _ (hx 0 (by omega))
    · rw [Nat.add_assoc]; exact h (i * 4 + 3) _ (by rw [hx 3 (by omega)]; rfl)

set_option maxHeartbeats 2000000 in
theorem lexerBlanks_any (s : ByteArray) (n : Nat) (w : World) (hs : s.size ≤ maxLen) (hn : n < 256) :
    Calls Try.prog 6 #[.string s, .int .u8 n] w fun e w' => e = .returned (.bool true) ∧ Below w.heap.size w w' := by
  refine calls_of_W (args := [.string s, .int .u8 n]) (rs := [.tmp 4]) (n := 112) Try.func6 rfl rfl rfl (by kernel_rfl) ?_
  refine W_rt (by kernel_rfl) (fun K hK => ?_)
  simp [go_sem]
  refine hK _ _ ?_; clear hK K
  refine W_rt (by kernel_rfl) (fun K hK => ?_)
  simp [go_sem]
  refine hv_call (by simp [go_sem]) rfl Try.call12 (fun R hR => ?_)
  simp [go_sem]
  refine (all_any s _ hs).mono ?_
  rintro e w1 ⟨a, c, rfl, hsl, hE⟩
  refine ⟨_, rfl, hR _ _ ?_⟩
  clear hR R
  simp [go_sem]
  refine hK _ _ ?_; clear hK K
  have haw : allR s = ([], 0, 4) ∨ (∃ p e, p < s.size ∧ e ≠ 0 ∧ allR s = ([], p, e)) ∨ (∃ l, allR s = (l, 0, 0) ∧ Lexed s 0 l) := by
    rcases allR_cases s with ⟨l, hR, hl⟩ | hR | ⟨p, e, hp, he, hR, l, hP⟩
    · exact .inr (.inr ⟨l, hR, hl⟩)
    · exact .inl hR
    · exact .inr (.inl ⟨p, e, hp, he, hR⟩)
  rcases haw with hR | ⟨p, e, hp, he, hR⟩ | ⟨l, hR, hl⟩
  · simp only [hR]
    refine W_seq (fun K1 hK1 => ?_)
    refine W_rt (by kernel_rfl) (fun K hK => ?_)
    simp [go_sem]
    refine hK _ _ ?_; clear hK K
    refine W_if (by simp [go_sem]; rfl) rfl ?_
    refine W_rt (by kernel_rfl) (fun K hK => ?_)
    simp [go_sem]
    refine hv_call (by simp [go_sem]) rfl Try.call16 (fun R hR => ?_)
    simp [go_sem]
    refine (awake_any _).mono ?_
    rintro e w2 ⟨rfl, hE2⟩
    refine ⟨_, rfl, hR _ _ ?_⟩
    clear hR R
    simp [go_sem]
    refine hK _ _ ?_; clear hK K
    refine W_ret ?_
    repeat (first | refine thenG_ret ?_ | refine inBlock_ret ?_)
    refine ⟨trivial, ?_, hE.next hE2⟩
    simp [go_sem, pack, resL]
  · simp only [hR]
    have he' : ¬ (e : Int) = 0 := by omega
    refine W_seq (fun K1 hK1 => ?_)
    refine W_rt (by kernel_rfl) (fun K hK => ?_)
    simp [go_sem, he, he']
    refine hK _ _ ?_; clear hK K
    refine W_if (by simp [go_sem, he, he']; rfl) rfl ?_
    refine W_rt (by kernel_rfl) (fun K hK => ?_)
    simp [go_sem]
    refine hv_call (by simp [go_sem]) rfl Try.call16 (fun R hR => ?_)
    simp [go_sem]
    refine (awake_any _).mono ?_
    rintro e w2 ⟨rfl, hE2⟩
    refine ⟨_, rfl, hR _ _ ?_⟩
    clear hR R
    simp [go_sem]
    refine hK _ _ ?_; clear hK K
    refine W_ret ?_
    repeat (first | refine thenG_ret ?_ | refine inBlock_ret ?_)
    refine ⟨trivial, ?_, hE.next hE2⟩
    simp [go_sem, pack, resL]
  · simp only [hR] at hsl ⊢
    by_cases hbig : s.size ≤ 4000
    · have hbig' : ¬ (4000 : Int) < s.size := by omega
      obtain ⟨l1, l2⟩ := lexed_len s 0 l hl (by omega)
      have hwn : IntKind.i64.wrap (n : Int) = n := IntWalk.i64_in _ (by omega)
      have hm0 := md5_int n
      have hm1 : (md5 n : Int) < 5 := by have := md5_lt n; omega
      refine W_seq (fun K1 hK1 => ?_)
      refine W_rt (by kernel_rfl) (fun K hK => ?_)
      simp [go_sem, hbig']
      refine hK _ _ ?_; clear hK K
      refine W_if (by simp [go_sem, hbig']; rfl) rfl ?_
      refine W_skip ?_
      refine hK1 _ _ ?_; clear hK1 K1
      refine W_rt (by kernel_rfl) (fun K hK => ?_)
      simp [go_sem]
      refine hv_buildSlice #[.string ⟨#[32]⟩, .string ⟨#[10]⟩, .string ⟨#[9, 13, 32]⟩, .string ⟨#[35, 10]⟩, .string ⟨#[32, 35, 32, 97, 32, 58, 61, 32, 40, 32, 10, 10]⟩] (by simp [go_sem]) rfl ty_slZ22 (by decide) [(0, .string ⟨#[32]⟩), (1, .string ⟨#[10]⟩), (2, .string ⟨#[9, 13, 32]⟩), (3, .string ⟨#[35, 10]⟩), (4, .string ⟨#[32, 35, 32, 97, 32, 58, 61, 32, 40, 32, 10, 10]⟩)] (by simp [go_sem]) (by kernel_rfl) (fun w2 b2 hE2 hle2 hB2 => ?_)
      replace hB2 : Bx w2 b2 BTC 9 := hB2
      replace hsl := hsl.ext hE2
      replace hE := hE.next hE2
      clear hE2
      simp [go_sem]
      refine hK _ _ ?_; clear hK K
      have hc := (hB2.cell (md5 n)).trans (BTC_get n)
      unfold strV at hc
      refine W_rt (by kernel_rfl) (fun K hK => ?_)
      simp [go_sem, hwn, hm0, hm1, hc]
      refine hK _ _ ?_; clear hK K
      refine W_seq (fun K1 hK1 => ?_)
      refine W_rt (by kernel_rfl) (fun K hK => ?_)
      simp [go_sem]
      refine hK _ _ ?_; clear hK K
      refine W_block ?_
      refine W_loop (fun m g w' => Below w.heap.size w w' ∧ SL w' a (tksC s l) ∧ Bx w' b2 BTC 9 ∧ ∃ (i : Nat) (U : ByteArray), i ≤ l.length ∧ m = l.length - i ∧ g 0 = .string s ∧ g 1 = .int .u8 n ∧ g 5 = .slice a l.length c ∧ g 8 = .slice (some ⟨b2, 0, none⟩) 5 5 ∧ g 9 = .string U ∧ g 39 = .int .i64 l.length ∧ g 40 = .int .i64 i ∧ U.size ≤ 12 + i * 4012 ∧ bs U ++ joinT s n i (l.drop i) = btAt n ++ joinT s n 0 l) l.length ?_ ?_
      · refine ⟨hE, hsl, hB2, 0, ⟨(btAt n).toArray⟩, by omega, rfl, by simp [go_sem], by simp [go_sem], by simp [go_sem], by simp [go_sem], by simp [go_sem], by simp [go_sem], by simp [go_sem], ?_, ?_⟩
        · have := (bt_ok n).2.1
          simp [ByteArray.size]; omega
        · rw [bs_mk']; rfl
      · rintro m g w' ⟨hE, hsl, hB2, i, U, hi, rfl, g0, g1, g5, g8, g9, g39, g40, hU, hJ⟩
        refine W_rt (by kernel_rfl) (fun K hK => ?_)
        simp [go_sem, g39, g40]
        refine hK _ _ ?_; clear hK K
        refine W_seq (fun K2 hK2 => ?_)
        by_cases hlt : i < l.length
        · have hlt' : (i : Int) < l.length := by omega
          have hw1 : IntKind.i64.wrap (↑i + 1) = (i : Int) + 1 := IntWalk.i64_in _ (by omega)
          have hw2 : IntKind.i64.wrap ((n : Int) + ↑i) = ((n + i : Nat) : Int) := by rw [IntWalk.i64_in _ (by omega)]; simp
          have hm := md5_int (n + i)
          have hm' : (md5 (n + i) : Int) < 5 := by have := md5_lt (n + i); omega
          obtain ⟨t, ht⟩ : ∃ t, l[i]? = some t := ⟨_, List.getElem?_eq_getElem hlt⟩
          obtain ⟨b, off, rfl, _, c2⟩ := sl_cells s hsl ht
          have hj := joinT_step s n i l t ht
          have hX : bs (s.extract t.2.1 t.2.2) = txt s t := rfl
          have hXs : (s.extract t.2.1 t.2.2).size ≤ 4000 := by rw [← bs_len, bs_extract, List.length_take, List.length_drop, bs_len]; omega
          generalize s.extract t.2.1 t.2.2 = X at c2 hX hXs
          have c3 := (hB2.cell (md5 (n + i))).trans (BTC_get (n + i))
          have hYl := (bt_ok (n + i)).2.1
          have hY : bs ⟨(btAt (n + i)).toArray⟩ = btAt (n + i) := bs_mk' _
          have hYs : (⟨(btAt (n + i)).toArray⟩ : ByteArray).size ≤ 12 := by rw [← bs_len, hY]; exact hYl
          unfold strV at c3
          generalize (⟨(btAt (n + i)).toArray⟩ : ByteArray) = Y at c3 hY hYs
          have z1 : X.size + Y.size ≤ 9223372036854775807 := by omega
          have z2 : U.size + (X.size + Y.size) ≤ 9223372036854775807 := by omega
          generalize hgen : n + i = ni at *
          refine W_if (by simp [go_sem, hlt, hlt']; rfl) rfl ?_
          refine W_skip ?_
          refine hK2 _ _ ?_; clear hK2 K2
          refine W_seq (fun K2 hK2 => ?_)
          refine W_block ?_
          refine W_rt (by kernel_rfl) (fun K hK => ?_)
          simp [go_sem, g40]
          refine hK _ _ ?_; clear hK K
          have hD : Below w'.heap.size w' w'.drew := Below.drew1 _
          refine W_draw [(0, 0), (1, 0), (2, 0), (3, 0), (4, 0), (5, 0), (6, 0), (7, 0), (8, 0), (9, 0), (10, 0), (11, 0), (12, 0), (13, 0), (14, 0), (15, 0), (16, 0), (17, 0), (18, 0)] (by kernel_rfl) (by kernel_rfl) (fun K hK => ?_)
          simp [go_sem, g0, g1, g5, g8, g9, hlt, hlt', hwn, hw2, hm, hm', add_mk, c2, c3, z1, z2]
          refine hK _ _ ?_; clear hK K
          refine hK2 _ _ ?_; clear hK2 K2
          refine W_text (by kernel_rfl) (fun K hK => ?_)
          simp [go_sem, g40, hw1]
          refine hK _ _ ⟨l.length - (i + 1), by omega, hE.next hD, hsl.ext hD, hB2.keep hD, i + 1, U ++ (X ++ Y), by omega, rfl, by simp [go_sem, g0], by simp [go_sem, g1], by simp [go_sem, g5], by simp [go_sem, g8], by simp [go_sem], by simp [go_sem, g39], by simp [go_sem], ?_, ?_⟩
          · rw [ByteArray.size_append, ByteArray.size_append]; omega
          · rw [← hJ, hj, ← hX, ← hY]
            simp [bs]
        · have hil : i = l.length := by omega
          subst hil
          have hU' : bs U = btAt n ++ joinT s n 0 l := by
            rw [← hJ]; simp [joinT]
          refine W_if (by simp [go_sem, hlt]; rfl) rfl ?_
          refine W_exit ?_
          repeat (first | refine thenG_exit ?_ | refine inBlock_other rfl ?_ | refine inBlock_same ?_)
          refine hK1 _ _ ?_; clear hK1 K1 hK2 K2
          refine W_seq (fun K1 hK1 => ?_)
          refine W_rt (by kernel_rfl) (fun K hK => ?_)
          simp [go_sem, g9]
          refine hK _ _ ?_; clear hK K
          by_cases hub : U.size ≤ 20000
          · have hub' : ¬ (20000 : Int) < U.size := by omega
            obtain ⟨m, hm2, hml, hmx⟩ := lexed_join s U n 0 l hl 0 n 0 (by omega) (by rw [List.drop_zero]; exact hU') (by omega)
            have hRU : allR U = (m, 0, 0) := by
              unfold allR
              rw [if_pos hub, lexed_all U 0 m hm2 [] (by omega)]; rfl
            refine W_if (by simp [go_sem, hub']; rfl) rfl ?_
            refine W_skip ?_
            refine hK1 _ _ ?_; clear hK1 K1
            refine W_rt (by kernel_rfl) (fun K hK => ?_)
            simp [go_sem, g9]
            refine hv_call (by simp [go_sem, g9]) rfl Try.call12 (fun R hR => ?_)
            simp [go_sem, g9]
            refine (all_any U _ (by unfold maxLen; omega)).mono ?_
            rintro e w3 ⟨a2, c2, rfl, hsl2, hE3⟩
            refine ⟨_, rfl, hR _ _ ?_⟩
            clear hR R
            simp only [hRU] at hsl2 ⊢
            replace hsl := hsl.ext hE3
            replace hE := hE.next hE3
            clear hE3 hB2
            simp [go_sem]
            refine hK _ _ ?_; clear hK K
            refine W_seq (fun K1 hK1 => ?_)
            refine W_rt (by kernel_rfl) (fun K hK => ?_)
            simp [go_sem, g5, hml]
            refine hK _ _ ?_; clear hK K
            refine W_if (by simp [go_sem, hml]; rfl) rfl ?_
            refine W_skip ?_
            refine hK1 _ _ ?_; clear hK1 K1
            refine W_seq (fun K1 hK1 => ?_)
            refine W_rt (by kernel_rfl) (fun K hK => ?_)
            simp [go_sem, g5]
            refine hK _ _ ?_; clear hK K
            refine W_block ?_
            refine W_loop (fun m' g w' => Below w.heap.size w w' ∧ SL w' a (tksC s l) ∧ SL w' a2 (tksC U m) ∧ ∃ i : Nat, i ≤ l.length ∧ m' = l.length - i ∧ g 5 = .slice a l.length c ∧ g 11 = .slice a2 l.length c2 ∧ g 82 = .int .i64 l.length ∧ g 83 = .int .i64 i) l.length ?_ ?_
            · exact ⟨hE, hsl, hsl2, 0, by omega, rfl, by simp [go_sem, g5], by simp [go_sem, hml], by simp [go_sem], by simp [go_sem]⟩
            · clear g0 g1 g5 g8 g9 g39 g40 hE hsl hsl2
              rintro m' g w' ⟨hE, hsl, hsl2, i, hi, rfl, g5, g11, g82, g83⟩
              refine W_rt (by kernel_rfl) (fun K hK => ?_)
              simp [go_sem, g82, g83]
              refine hK _ _ ?_; clear hK K
              refine W_seq (fun K2 hK2 => ?_)
              by_cases hlt : i < l.length
              · have hlt' : (i : Int) < l.length := by omega
                have hw1 : IntKind.i64.wrap (↑i + 1) = (i : Int) + 1 := IntWalk.i64_in _ (by omega)
                obtain ⟨t, ht⟩ : ∃ t, l[i]? = some t := ⟨_, List.getElem?_eq_getElem hlt⟩
                obtain ⟨t', ht', q1, q2⟩ := hmx i t ht
                obtain ⟨b, off, rfl, c3, c4⟩ := sl_cells s hsl ht
                obtain ⟨b', off', rfl, c5, c6⟩ := sl_cells U hsl2 ht'
                unfold txt at q2
                refine W_if (by simp [go_sem, hlt, hlt']; rfl) rfl ?_
                refine W_skip ?_
                refine hK2 _ _ ?_; clear hK2 K2
                refine W_seq (fun K2 hK2 => ?_)
                refine W_block ?_
                refine W_rt (by kernel_rfl) (fun K hK => ?_)
                simp [go_sem, g83]
                refine hK _ _ ?_; clear hK K
                have hD : Below w'.heap.size w' w'.drew := Below.drew1 _
                refine W_rd [(0, 0), (1, 0), (2, 0), (3, 0), (4, 0), (5, 0), (6, 0), (7, 0), (8, 0), (9, 0), (10, 0), (11, 0), (12, 0), (13, 0), (14, 0), (15, 0), (16, 0), (17, 0), (18, 0), (19, 0), (20, 0), (21, 0), (22, 0), (23, 0)] (by kernel_rfl) (by kernel_rfl) (fun K hK => ?_)
                simp [go_sem, g5, g11, hlt, hlt', add_mk, c3, c4, c5, c6, q1, q2]
                refine hK _ _ ?_; clear hK K
                refine W_if (by simp [go_sem, q1, q2]; rfl) rfl ?_
                refine W_skip ?_
                refine hK2 _ _ ?_; clear hK2 K2
                refine W_text (by kernel_rfl) (fun K hK => ?_)
                simp [go_sem, g83, hw1]
                refine hK _ _ ⟨l.length - (i + 1), by omega, hE.next hD, hsl.ext hD, hsl2.ext hD, i + 1, by omega, rfl, by simp [go_sem, g5], by simp [go_sem, g11], by simp [go_sem, g82], by simp [go_sem]⟩
              · refine W_if (by simp [go_sem, hlt]; rfl) rfl ?_
                refine W_exit ?_
                repeat (first | refine thenG_exit ?_ | refine inBlock_other rfl ?_ | refine inBlock_same ?_)
                refine hK1 _ _ ?_; clear hK1 K1 hK2 K2
                refine W_rt (by kernel_rfl) (fun K hK => ?_)
                simp [go_sem]
                refine hv_call (by simp [go_sem]) rfl Try.call16 (fun R hR => ?_)
                simp [go_sem]
                refine (awake_any _).mono ?_
                rintro e w4 ⟨rfl, hE4⟩
                refine ⟨_, rfl, hR _ _ ?_⟩
                clear hR R
                simp [go_sem]
                refine hK _ _ ?_; clear hK K
                refine W_ret ?_
                repeat (first | refine thenG_ret ?_ | refine inBlock_ret ?_)
                refine ⟨trivial, ?_, hE.next hE4⟩
                simp [go_sem, pack, resL]
          · have hub' : (20000 : Int) < U.size := by omega
            refine W_if (by simp [go_sem, hub']; rfl) rfl ?_
            refine W_rt (by kernel_rfl) (fun K hK => ?_)
            simp [go_sem]
            refine hv_call (by simp [go_sem]) rfl Try.call16 (fun R hR => ?_)
            simp [go_sem]
            refine (awake_any _).mono ?_
            rintro e w4 ⟨rfl, hE4⟩
            refine ⟨_, rfl, hR _ _ ?_⟩
            clear hR R
            simp [go_sem]
            refine hK _ _ ?_; clear hK K
            refine W_ret ?_
            repeat (first | refine thenG_ret ?_ | refine inBlock_ret ?_)
            refine ⟨trivial, ?_, hE.next hE4⟩
            simp [go_sem, pack, resL]
    · have hbig' : (4000 : Int) < s.size := by omega
      refine W_seq (fun K1 hK1 => ?_)
      refine W_rt (by kernel_rfl) (fun K hK => ?_)
      simp [go_sem, hbig']
      refine hK _ _ ?_; clear hK K
      refine W_if (by simp [go_sem, hbig']; rfl) rfl ?_
      refine W_rt (by kernel_rfl) (fun K hK => ?_)
      simp [go_sem]
      refine hv_call (by simp [go_sem]) rfl Try.call16 (fun R hR => ?_)
      simp [go_sem]
      refine (awake_any _).mono ?_
      rintro e w4 ⟨rfl, hE4⟩
      refine ⟨_, rfl, hR _ _ ?_⟩
      clear hR R
      simp [go_sem]
      refine hK _ _ ?_; clear hK K
      refine W_ret ?_
      repeat (first | refine thenG_ret ?_ | refine inBlock_ret ?_)
      refine ⟨trivial, ?_, hE.next hE4⟩
      simp [go_sem, pack, resL]
theorem blanks_arg (s : ByteArray) (n : Int) (w : World) (hs : s.size ≤ maxLen) (hn : (Lit.int .u8 n).wf = true) :
    Calls Try.prog 6 #[.string s, .int .u8 n] w fun e w' => e = .returned (.bool true) ∧ Below w.heap.size w w' := by
  obtain ⟨h1, h2⟩ : 0 ≤ n ∧ n < 256 := by
    simp only [Lit.wf, Bool.and_eq_true, decide_eq_true_eq] at hn
    have e1 : IntKind.u8.min = 0 := by decide
    have e2 : IntKind.u8.max = 255 := by decide
    omega
  obtain ⟨k, rfl⟩ : ∃ k : Nat, n = k := ⟨n.toNat, by omega⟩
  exact lexerBlanks_any s k w hs (by omega)
set_option maxRecDepth 100000 in
theorem lexerBlanks_lifted (os : Os) (started : os.Started) (H : Type) (enc : TypeId × Value → H) :
    ReturnsInHanded {} Try.checked os 6 .any (Rows.lexerBlanksSpec.pre6 enc Try.prog Try.f6 Rows.lexerBlanksRow.domain false) (Rows.lexerBlanksSpec.post enc Try.prog Try.f6 false true false false) := by
  refine law_lifted (C := Try.checked) (s := Rows.lexerBlanksSpec) Try.own Try.laidOut (by kernel_rfl) Try.func6 rfl 4 rfl Try.underlying4 (by kernel_rfl) enc ?_ ?_ os started
    (ChangeSpec.witness6 (enc := enc) (C := Try.checked) false ⟨#[], #[.string ⟨#[]⟩, .int .u8 0], []⟩ 8 (by kernel_rfl) (by kernel_rfl) (by kernel_rfl) (by kernel_rfl))
  · intro ds hl
    match ds, hl with
    | [d0, d1], _ => rfl
  · intro W base args ds ps hval hA hlt _
    have hA' : DataW.TrodAll enc Try.prog W 0 (fun _ => true) true [9, 5] args.toList ds ps := hA
    have hval' : ∀ (j : Nat) t v, Try.f6.params[j]? = some t → args[j]? = some v → Value.okWide Try.prog W .any base t v := hval
    obtain ⟨v0, v1, d0, d1, p0, p1, rfl, rfl, rfl, h0, h1⟩ := Go.ChangeShapes.trodAll_two hA'
    obtain ⟨s, rfl, rfl, rfl, hs_s⟩ := Go.ChangeMaps.open_string Try.underlying9 (hval' 0 9 v0 rfl rfl) h0
    obtain ⟨n, rfl, rfl, rfl, hs_n⟩ := Go.ChangeShapes.open_int Try.underlying5 (hval' 1 5 v1 rfl rfl) h1
    exact blanks_arg s n W hs_s hs_n

theorem lexerBlanks_holds : Rows.LexerBlanksSaid :=
  OpenClaim.holds_of_wide 6 Try.f6 rfl rfl rfl rfl rfl rfl rfl ⟨rfl, rfl, rfl, rfl, rfl⟩ rfl rfl rfl rfl rfl (by kernel_rfl) Try.func6 (by kernel_rfl)
    (of_decide_eq_true (by kernel_rfl)) (by unfold Func.isWrapper; first | (rw [if_pos (by decide +kernel)]; kernel_rfl) | (rw [if_neg (by decide +kernel)]; exact ⟨rfl, rfl⟩))
    (fun os started H enc _ => lexerBlanks_lifted os started H enc)
end Go.Proofs.Ytdhomomiejebdaa
