/- Natural numbers: Add. -/
import Derived.Test.YtomniiobaonloaaNtA
namespace Go.Proofs.Ytomniiobaonloaa
open Go.RowKit Go.V
set_option linter.unusedSimpArgs false
set_option linter.unusedVariables false

theorem val_take' (l : List Nat) (i : Nat) : val (l.take (i + 1)) = val (l.take i) + 65536 ^ i * lat l i := by
  by_cases h : i < l.length
  · exact val_take l i h
  · rw [List.take_of_length_le (by omega), List.take_of_length_le (by omega), lat_out (by omega)]; omega
theorem nrm_full (l : List Nat) (hok : Ok l) (k : Nat) (hk : l.length = k + 1) (h : 65536 ^ k ≤ val l) : nrm l = l := by
  have h1 := nrm_len l
  have h2 := val_lt (nrm l) (nrm_ok l hok)
  rw [val_nrm] at h2
  have h3 : (nrm l).length = l.length := by
    by_cases e : (nrm l).length ≤ k
    · have : 65536 ^ (nrm l).length ≤ 65536 ^ k := Nat.pow_le_pow_right (by decide) e
      omega
    · omega
  rw [nrm_pre, h3, List.take_length]
theorem add_step (ws A B : List Nat) (i cy s : Nat) (hw : ws.length = i) (h : val ws + 65536 ^ i * cy = val (A.take i) + val (B.take i)) (hs : s = cy + lat A i + lat B i) :
    val (ws ++ [s % 65536]) + 65536 ^ (i + 1) * (s / 65536) = val (A.take (i + 1)) + val (B.take (i + 1)) := by
  rw [val_app, hw, val_take' A i, val_take' B i, Nat.pow_succ]
  generalize 65536 ^ i = P at *
  have e1 : P * (s % 65536) + P * 65536 * (s / 65536) = P * s := by rw [Nat.mul_assoc, ← Nat.mul_add, Nat.mod_add_div]
  have e2 : P * s = P * cy + P * lat A i + P * lat B i := by rw [hs, Nat.mul_add, Nat.mul_add]
  simp only [val, Nat.mul_zero, Nat.add_zero]
  omega
theorem set_next (ws : List Nat) (i n x : Nat) (hw : ws.length = i) : (ws ++ List.replicate (n + 1) 0).set i x = (ws ++ [x]) ++ List.replicate n 0 := by
  rw [List.set_append_right _ _ (by omega), hw, Nat.sub_self, List.replicate_succ, List.set_cons_zero, List.append_assoc]; rfl

set_option maxHeartbeats 2000000 in
theorem add_any (l m : List Nat) (a b : Option Addr) (c d : Nat) (w : World) (hr : RD w a c l) (hs : RD w b d m) (hl : l.length ≤ lenB) (hm : m.length ≤ lenB) :
    Calls Try.prog 29 #[.slice a l.length c, .slice b m.length d] w (RetN w (lim (val l + val m))) := by
  have hl' : l.length ≤ 1000000000000 := hl
  have hm' : m.length ≤ 1000000000000 := hm
  have hn1 := nrm_len l
  have hn2 := nrm_len m
  refine calls_of_W (args := [.slice a l.length c, .slice b m.length d]) (rs := [.tmp 4]) (n := 64) Try.func29 rfl rfl rfl (by kernel_rfl) ?_
  refine W_rt (by kernel_rfl) (fun K hK => ?_)
  simp [go_sem]
  refine hK _ _ ?_; clear hK K
  refine W_rt (by kernel_rfl) (fun K hK => ?_)
  simp [go_sem]
  refine hv_call (by simp [go_sem]) rfl Try.call43 (fun R hR => ?_)
  simp [go_sem]
  refine (trim_any l a c _ hr hl).mono ?_
  rintro e w1 ⟨rfl, rfl⟩
  refine ⟨_, rfl, hR _ _ ?_⟩
  clear hR R
  simp [go_sem]
  refine hv_call (by simp [go_sem]) rfl Try.call43 (fun R hR => ?_)
  simp [go_sem]
  refine (trim_any m b d _ hs hm).mono ?_
  rintro e w1 ⟨rfl, rfl⟩
  refine ⟨_, rfl, hR _ _ ?_⟩
  clear hR R
  simp [go_sem]
  refine hK _ _ ?_; clear hK K
  have hvl := val_nrm l
  have hvm := val_nrm m
  have hlo := fun k hk => val_len l hr.ok k hk
  have hmo := fun k hk => val_len m hs.ok k hk
  replace hr := hr.nrm
  replace hs := hs.nrm
  rw [← hvl] at hlo ⊢
  rw [← hvm] at hmo ⊢
  generalize nrm l = L at *
  generalize nrm m = M at *
  refine W_seq (fun K1 hK1 => ?_)
  refine W_rt (by kernel_rfl) (fun K hK => ?_)
  simp [go_sem]
  refine hK _ _ ?_; clear hK K
  have main : ∀ (A B : List Nat) (a b : Option Addr) (c d : Nat) (g : G), RD w a c A → RD w b d B → A.length ≤ 1000000000000 → B.length ≤ A.length → (∀ k, A.length = k + 1 → 65536 ^ k ≤ val A) → val A + val B = val L + val M →
      g 0 = .slice a A.length c → g 1 = .slice b B.length d → K1 g w := by
    clear hlo hmo hvl hvm hr hs
    intro A B a b c d g hr hs hA hBA htop hsum g0 g1
    refine hK1 _ _ ?_; clear hK1 K1
    have hw0 : IntKind.i64.wrap (↑A.length + 1) = ((A.length + 1 : Nat) : Int) := by rw [IntWalk.i64_in _ (by omega)]; simp
    have hbr := fun b (hb : w.heap.size ≤ b) => hr.below hb
    have hbs := fun b (hb : w.heap.size ≤ b) => hs.below hb
    refine W_rt (by kernel_rfl) (fun K hK => ?_)
    simp [go_sem, g0, hw0]
    refine hv_make (kl := .i64) (kc := .i64) A.length (A.length + 1) (by simp [go_sem]) rfl ty_slZ22 ty_bytes39 (by simp [go_sem]) (by simp [go_sem, hw0]) (by omega) (by omega) (by omega) (fun w2 b2 hE2 hle2 hB2 => ?_)
    rw [Nat.mul_one, madeCells_one, lm_zeros] at hB2
    replace hr := hr.ext hE2
    replace hs := hs.ext hE2
    have hne1 := hbr b2 hle2
    have hne2 := hbs b2 hle2
    clear hbr hbs
    simp [go_sem]
    refine hK _ _ ?_; clear hK K
    refine W_rt (by kernel_rfl) (fun K hK => ?_)
    simp [go_sem]
    refine hK _ _ ?_; clear hK K
    refine W_seq (fun K1 hK1 => ?_)
    refine W_rt (by kernel_rfl) (fun K hK => ?_)
    simp [go_sem, g0]
    refine hK _ _ ?_; clear hK K
    refine W_block ?_
    refine W_loop (fun k g w' => Below w.heap.size w w' ∧ RD w' a c A ∧ RD w' b d B ∧ ∃ (i cy : Nat) (ws : List Nat), i ≤ A.length ∧ k = A.length - i ∧ g 1 = .slice b B.length d ∧ g 5 = .slice (some ⟨b2, 0, none⟩) A.length (A.length + 1) ∧ g 6 = .int .u32 cy ∧
      g 26 = .slice a A.length c ∧ g 27 = .int .i64 A.length ∧ g 28 = .int .i64 i ∧ Bx w' b2 (lmC (ws ++ List.replicate (A.length + 1 - i) 0)).toArray 39 ∧ ws.length = i ∧ Ok ws ∧ cy ≤ 1 ∧ val ws + 65536 ^ i * cy = val (A.take i) + val (B.take i)) A.length ?_ ?_
    · exact ⟨hE2, hr, hs, 0, 0, [], by omega, rfl, by simp [go_sem, g1], by simp [go_sem], by simp [go_sem], by simp [go_sem], by simp [go_sem], by simp [go_sem], hB2, rfl, Ok.nil, by omega, by simp [val]⟩
    · clear hr hs hE2 hB2 g0 g1
      rintro k g w' ⟨hE, hr, hs, i, cy, ws, hi, rfl, g1, g5, g6, g26, g27, g28, hB, hwl, hwok, hcy, hval⟩
      refine W_rt (by kernel_rfl) (fun K hK => ?_)
      simp [go_sem, g27, g28]
      refine hK _ _ ?_; clear hK K
      refine W_seq (fun K2 hK2 => ?_)
      by_cases hlt : i < A.length
      · have hlt' : (i : Int) < A.length := by omega
        obtain ⟨c1, c2⟩ := hr.at hlt
        have hx := lat_lt hr.ok i
        have hy := lat_lt hs.ok i
        obtain ⟨sm, hsm⟩ : ∃ sm, sm = cy + lat A i + lat B i := ⟨_, rfl⟩
        have hstep := add_step ws A B i cy sm hwl hval hsm
        have e1 : IntKind.u32.wrap (lat A i : Int) = lat A i := w32_in _ (by omega)
        have e2 : IntKind.u32.wrap (lat B i : Int) = lat B i := w32_in _ (by omega)
        have e3 : IntKind.u32.wrap ((cy : Int) + lat A i) = (cy : Int) + lat A i := w32_in _ (by omega)
        have e4 : IntKind.u32.wrap ((cy : Int) + lat A i + lat B i) = (sm : Int) := by rw [w32_in _ (by omega)]; omega
        have e5 : IntKind.u16.wrap (sm : Int) = ((sm % 65536 : Nat) : Int) := w16 sm
        have e6 : shrI .u32 (sm : Int) 16 = ((sm / 65536 : Nat) : Int) := shr_nat .u32 sm 16 (by decide)
        have hw1 : IntKind.i64.wrap (↑i + 1) = (i : Int) + 1 := IntWalk.i64_in _ (by omega)
        generalize hQ : sm % 65536 = Q at *
        generalize hC : sm / 65536 = C at *
        refine W_if (by simp [go_sem, hlt, hlt']; rfl) rfl ?_
        refine W_skip ?_
        refine hK2 _ _ ?_; clear hK2 K2
        refine W_seq (fun K2 hK2 => ?_)
        refine W_block ?_
        refine W_rt (by kernel_rfl) (fun K hK => ?_)
        simp [go_sem, g26, g28, hlt, hlt', c1, c2]
        refine hK _ _ ?_; clear hK K
        refine W_rt (by kernel_rfl) (fun K hK => ?_)
        simp [go_sem, g6, e1, e3]
        refine hK _ _ ?_; clear hK K
        refine W_seq (fun K3 hK3 => ?_)
        refine W_rt (by kernel_rfl) (fun K hK => ?_)
        simp [go_sem, g1]
        refine hK _ _ ?_; clear hK K
        have next : ∀ g' : G, g' 1 = .slice b B.length d → g' 5 = .slice (some ⟨b2, 0, none⟩) A.length (A.length + 1) → g' 6 = .int .u32 sm → g' 7 = .int .i64 i → g' 26 = .slice a A.length c → g' 27 = .int .i64 A.length → g' 28 = .int .i64 i → K3 g' w' := by
          intro g' g1 g5 g6 g7 g26 g27 g28
          refine hK3 _ _ ?_; clear hK3 K3
          refine W_rt (by kernel_rfl) (fun K hK => ?_)
          simp [go_sem, g5, g6, g7, e5, hlt, hlt', add_mk]
          refine hv_store (b := b2) (off := i) [.int .u16 Q] (by simp [go_sem]) rfl (by simp [go_sem]) (by simp [go_sem, Value.cells]) ty_size39 hB (by simp [lmC_len] <;> omega) (by simp [Value.oneCell']) (by decide) (fun w3 hS3 hB3 => ?_)
          rw [putC_lm] at hB3
          have hrep : A.length + 1 - i = (A.length - i) + 1 := by omega
          rw [hrep, set_next ws i _ Q hwl] at hB3
          replace hr := hr.sto hS3 hne1
          replace hs := hs.sto hS3 hne2
          replace hE := hE.nextS hS3 hle2
          simp [go_sem]
          refine hK _ _ ?_; clear hK K
          refine W_text (by kernel_rfl) (fun K hK => ?_)
          simp [go_sem, g6, e6]
          refine hK _ _ ?_; clear hK K
          refine hK2 _ _ ?_; clear hK2 K2
          refine W_text (by kernel_rfl) (fun K hK => ?_)
          simp [go_sem, g28, hw1]
          refine hK _ _ ⟨A.length - (i + 1), by omega, hE, hr, hs, i + 1, C, ws ++ [Q], by omega, rfl, by simp [go_sem, g1], by simp [go_sem, g5], by simp [go_sem], by simp [go_sem, g26], by simp [go_sem, g27], by simp [go_sem], ?_, by simp [hwl], hwok.app (Ok.cons (by omega) Ok.nil), by omega, hstep⟩
          have : A.length + 1 - (i + 1) = A.length - i := by omega
          rw [this]; exact hB3
        by_cases hb : i < B.length
        · have hb' : (i : Int) < B.length := by omega
          obtain ⟨c3, c4⟩ := hs.at hb
          refine W_if (by simp [go_sem, hb, hb']; rfl) rfl ?_
          refine W_text (by kernel_rfl) (fun K hK => ?_)
          simp [go_sem, g1, hb, hb', c3, c4, e2, e4]
          refine hK _ _ ?_; clear hK K
          exact next _ (by simp [go_sem, g1]) (by simp [go_sem, g5]) (by simp [go_sem]) (by simp [go_sem]) (by simp [go_sem, g26]) (by simp [go_sem, g27]) (by simp [go_sem, g28])
        · have hb' : ¬ (i : Int) < B.length := by omega
          have hz : lat B i = 0 := lat_out (by omega)
          have hsm' : ((cy : Int) + lat A i) = sm := by omega
          refine W_if (by simp [go_sem, hb, hb']; rfl) rfl ?_
          refine W_skip ?_
          exact next _ (by simp [go_sem, g1]) (by simp [go_sem, g5]) (by simp [go_sem, hsm']) (by simp [go_sem]) (by simp [go_sem, g26]) (by simp [go_sem, g27]) (by simp [go_sem, g28])
      · have him : i = A.length := by omega
        subst him
        rw [List.take_length, List.take_of_length_le hBA] at hval
        have hrep : A.length + 1 - A.length = 1 := by omega
        rw [hrep] at hB
        refine W_if (by simp [go_sem, hlt]; rfl) rfl ?_
        refine W_exit ?_
        repeat (first | refine thenG_exit ?_ | refine inBlock_other rfl ?_ | refine inBlock_same ?_)
        refine hK1 _ _ ?_; clear hK1 K1 hK2 K2
        refine W_seq (fun K1 hK1 => ?_)
        refine W_rt (by kernel_rfl) (fun K hK => ?_)
        simp [go_sem, g6]
        refine hK _ _ ?_; clear hK K
        by_cases hc : cy = 0
        · subst hc
          have hres : lim (val A + val B) = ws := by
            rw [← hval, Nat.mul_zero, Nat.add_zero, lim_val ws hwok]
            by_cases h0 : A.length = 0
            · have : ws = [] := List.length_eq_zero_iff.1 (by omega)
              subst this; rfl
            · have h1 := htop (A.length - 1) (by omega)
              exact nrm_full ws hwok (A.length - 1) (by omega) (by omega)
          rw [hsum] at hres
          refine W_if (by simp [go_sem]; rfl) rfl ?_
          refine W_skip ?_
          refine hK1 _ _ ?_; clear hK1 K1
          refine W_rt (by kernel_rfl) (fun K hK => ?_)
          simp [go_sem, g5]
          refine hK _ _ ?_; clear hK K
          refine W_ret ?_
          repeat (first | refine thenG_ret ?_ | refine inBlock_ret ?_)
          rw [hres]
          refine ⟨trivial, some ⟨b2, 0, none⟩, A.length + 1, ?_, ?_, hE⟩
          · simp [go_sem, pack, resL, hwl]
          · rw [lmC_app] at hB
            exact RD.of_bx hB hwok (by omega)
        · have hc1 : cy = 1 := by omega
          subst hc1
          have hres : lim (val A + val B) = ws ++ [1] := by
            have h1 : val (ws ++ [1]) = val A + val B := by rw [val_app, hwl, ← hval]; rfl
            rw [← h1, lim_val _ (hwok.app (Ok.cons (by decide) Ok.nil)), nrm_snoc _ _ (by decide)]
          rw [hsum] at hres
          have hown : w'.ownsRow w.heap.size 39 1 (.slice (some ⟨b2, 0, none⟩) A.length (A.length + 1)) A.length (lmC ws) := by
            refine ⟨by rw [lmC_len, hwl, Nat.mul_one], .inr ⟨b2, _, _, rfl, hle2, hB.heap, by omega, by unfold maxLen; omega, by simp [lmC_len, hwl], ?_⟩⟩
            rw [lmC_app, Nat.mul_one, ← hwl, ← lmC_len ws]
            simp
          have hw16 : IntKind.u16.wrap (1 : Int) = 1 := by decide
          refine W_if (by simp [go_sem]; rfl) rfl ?_
          refine W_text (by kernel_rfl) (fun K hK => ?_)
          simp [go_sem, g5, g6, hw16]
          refine hv_buildSlice #[.int .u16 1] (by simp [go_sem, g6, hw16]) rfl ty_slZ22 (by decide) [(0, .int .u16 1)] (by simp [go_sem, g6, hw16]) (by kernel_rfl) (fun w8 b8 hE8 hle8 hB8 => ?_)
          have hown8 := own_keep hown hE8
          replace hE := hE.next hE8
          simp [go_sem]
          refine hv_appendB (v := .slice (some ⟨b2, 0, none⟩) A.length (A.length + 1)) (b := b8) (len := 1) (c := 1) hB8 (by simp [go_sem]) rfl ty_slZ22 ty_bytes39 rfl (by decide) (by simp [go_sem, g5]) (by simp [go_sem]) hown8 rfl (by simp [Value.oneCell']) (by unfold maxLen; omega) (by omega) hE.size (by decide) (fun v' w9 hown9 hg9 _ => ?_)
          replace hE := hE.nextG hg9 (fun b e => (hown8.lt b e).1)
          obtain ⟨a9, c9, rfl, hr9⟩ := RD.of_own (l := ws ++ [1]) (by rw [lmC_app]; exact hown9) (hwok.app (Ok.cons (by decide) Ok.nil))
          simp [go_sem]
          refine hK _ _ ?_; clear hK K
          refine hK1 _ _ ?_; clear hK1 K1
          refine W_rt (by kernel_rfl) (fun K hK => ?_)
          simp [go_sem]
          refine hK _ _ ?_; clear hK K
          refine W_ret ?_
          repeat (first | refine thenG_ret ?_ | refine inBlock_ret ?_)
          rw [hres]
          refine ⟨trivial, a9, c9, ?_, hr9, hE⟩
          simp [go_sem, pack, resL]
  by_cases hsw : L.length < M.length
  · have hsw' : (L.length : Int) < M.length := by omega
    refine W_if (by simp [go_sem, hsw, hsw']; rfl) rfl ?_
    refine W_text (by kernel_rfl) (fun K hK => ?_)
    simp [go_sem]
    refine hK _ _ ?_; clear hK K
    exact main M L b a d c _ hs hr (by omega) (by omega) hmo (by omega) (by simp [go_sem]) (by simp [go_sem])
  · have hsw' : ¬ (L.length : Int) < M.length := by omega
    refine W_if (by simp [go_sem, hsw, hsw']; rfl) rfl ?_
    refine W_skip ?_
    exact main L M a b c d _ hr hs (by omega) (by omega) hlo rfl (by simp [go_sem]) (by simp [go_sem])
end Go.Proofs.Ytomniiobaonloaa
