/- Natural numbers: Sub. -/
import Derived.Test.YtomniiobaonloaaNtD
namespace Go.Proofs.Ytomniiobaonloaa
open Go.RowKit Go.V
set_option linter.unusedSimpArgs false
set_option linter.unusedVariables false

/-- what Sub returns -/
def SubPost (w : World) (A B : Nat) (e : Ending) (w' : World) : Prop :=
  (A < B ∧ e = .returned (.tuple #[.slice none 0 0, .int .i64 2]) ∧ Below w.heap.size w w') ∨
  (B ≤ A ∧ ∃ a c, e = .returned (.tuple #[.slice a (lim (A - B)).length c, .int .i64 0]) ∧ RD w' a c (lim (A - B)) ∧ Below w.heap.size w w')
theorem sub_step (ws A B : List Nat) (i bo bo' Q : Nat) (hw : ws.length = i) (h : val ws + val (B.take i) = val (A.take i) + 65536 ^ i * bo) (hs : lat A i + 65536 * bo' = Q + bo + lat B i) :
    val (ws ++ [Q]) + val (B.take (i + 1)) = val (A.take (i + 1)) + 65536 ^ (i + 1) * bo' := by
  rw [val_app, hw, val_take' A i, val_take' B i, Nat.pow_succ]
  generalize 65536 ^ i = P at *
  have e1 : P * (lat A i + 65536 * bo') = P * (Q + bo + lat B i) := by rw [hs]
  rw [Nat.mul_add, Nat.mul_add, Nat.mul_add, ← Nat.mul_assoc] at e1
  simp only [val, Nat.mul_zero, Nat.add_zero]
  omega
theorem sub_end (ws A B : List Nat) (bo : Nat) (hok : Ok ws) (hw : ws.length = A.length) (h : val ws + val B = val A + 65536 ^ A.length * bo) (hle : val B ≤ val A) : lim (val A - val B) = nrm ws := by
  have h1 := val_lt ws hok
  rw [hw] at h1
  have hb : bo = 0 := by
    rcases bo with _ | n
    · rfl
    · exfalso
      have : 65536 ^ A.length * 1 ≤ 65536 ^ A.length * (n + 1) := Nat.mul_le_mul_left _ (by omega)
      omega
  subst hb
  rw [← lim_val ws hok]
  congr 1
  omega

set_option maxHeartbeats 2000000 in
theorem sub_any (l m : List Nat) (a b : Option Addr) (c d : Nat) (w : World) (hr : RD w a c l) (hs : RD w b d m) (hl : l.length ≤ lenB) (hm : m.length ≤ lenB) :
    Calls Try.prog 31 #[.slice a l.length c, .slice b m.length d] w (SubPost w (val l) (val m)) := by
  have hl' : l.length ≤ 1000000000000 := hl
  have hm' : m.length ≤ 1000000000000 := hm
  have hn1 := nrm_len l
  have hn2 := nrm_len m
  have hll := len_lt_val l m hr.ok hs.ok
  refine calls_of_W (args := [.slice a l.length c, .slice b m.length d]) (rs := [.tmp 4, .tmp 5]) (n := 56) Try.func31 rfl rfl rfl (by kernel_rfl) ?_
  refine W_rt (by kernel_rfl) (fun K hK => ?_)
  simp [go_sem]
  refine hK _ _ ?_; clear hK K
  refine W_seq (fun K1 hK1 => ?_)
  refine W_rt (by kernel_rfl) (fun K hK => ?_)
  simp [go_sem]
  refine hv_call (by simp [go_sem]) rfl Try.call21 (fun R hR => ?_)
  simp [go_sem]
  refine (cmp_any l m a b c d _ hr hs hl hm).mono ?_
  rintro e w2 ⟨rfl, hE⟩
  refine ⟨_, rfl, hR _ _ ?_⟩
  clear hR R
  replace hr := hr.ext hE
  replace hs := hs.ext hE
  simp [go_sem]
  refine hK _ _ ?_; clear hK K
  by_cases hlt : val l < val m
  · have hc := cmpV_lt hlt
    refine W_if (by simp [go_sem, hc]; rfl) rfl ?_
    refine W_rt (by kernel_rfl) (fun K hK => ?_)
    simp [go_sem]
    refine hK _ _ ?_; clear hK K
    refine W_ret ?_
    repeat (first | refine thenG_ret ?_ | refine inBlock_ret ?_)
    refine ⟨trivial, .inl ⟨hlt, ?_, hE⟩⟩
    simp [go_sem, pack, resL]
  · have hc : ¬ cmpV (val l) (val m) < 0 := by unfold cmpV; rw [if_neg hlt]; split <;> omega
    refine W_if (by simp [go_sem, hc]; rfl) rfl ?_
    refine W_skip ?_
    refine hK1 _ _ ?_; clear hK1 K1
    refine W_rt (by kernel_rfl) (fun K hK => ?_)
    simp [go_sem]
    refine hv_call (by simp [go_sem]) rfl Try.call43 (fun R hR => ?_)
    simp [go_sem]
    refine (trim_any l a c _ hr hl).mono ?_
    rintro e w1 ⟨rfl, rfl⟩
    refine ⟨_, rfl, hR _ _ ?_⟩
    clear hR R
    simp [go_sem]
    refine hv_call (by simp [go_sem]) rfl Try.call43 (fun R hR => ?_)
    simp [go_sem]
    refine (trim_any m b d _ hs hm).mono ?_
    rintro e w1 ⟨rfl, rfl⟩
    refine ⟨_, rfl, hR _ _ ?_⟩
    clear hR R
    simp [go_sem]
    refine hK _ _ ?_; clear hK K
    have hvl := val_nrm l
    have hvm := val_nrm m
    have hlen : (nrm m).length ≤ (nrm l).length := by
      by_cases h : (nrm m).length ≤ (nrm l).length
      · exact h
      · exfalso
        have := len_lt_val l m hr.ok hs.ok (by omega)
        omega
    replace hr := hr.nrm
    replace hs := hs.nrm
    have hle : val (nrm m) ≤ val (nrm l) := by omega
    have hpost : ∀ e w', (∃ a c, e = .returned (.tuple #[.slice a (lim (val (nrm l) - val (nrm m))).length c, .int .i64 0]) ∧ RD w' a c (lim (val (nrm l) - val (nrm m))) ∧ Below w.heap.size w w') → SubPost w (val l) (val m) e w' := by
      rw [hvl, hvm]
      intro e w' h; exact .inr ⟨by omega, h⟩
    clear hvl hvm hll hlt hc
    generalize nrm l = A at *
    generalize nrm m = B at *
    have hbr := fun b (hb : w2.heap.size ≤ b) => hr.below hb
    have hbs := fun b (hb : w2.heap.size ≤ b) => hs.below hb
    refine W_rt (by kernel_rfl) (fun K hK => ?_)
    simp [go_sem]
    refine hv_make (kl := .i64) (kc := .i64) A.length A.length (by simp [go_sem]) rfl ty_slZ22 ty_bytes39 (by simp [go_sem]) (by simp [go_sem]) (by omega) (by omega) (by omega) (fun w3 b2 hE3 hle3 hB3 => ?_)
    rw [Nat.mul_one, madeCells_one, lm_zeros] at hB3
    replace hr := hr.ext hE3
    replace hs := hs.ext hE3
    have hne1 := hbr b2 hle3
    have hne2 := hbs b2 hle3
    have hle2 : w.heap.size ≤ b2 := by have := hE.size; omega
    replace hE := hE.next hE3
    clear hbr hbs hE3
    simp [go_sem]
    refine hK _ _ ?_; clear hK K
    refine W_rt (by kernel_rfl) (fun K hK => ?_)
    simp [go_sem]
    refine hK _ _ ?_; clear hK K
    refine W_seq (fun K1 hK1 => ?_)
    refine W_rt (by kernel_rfl) (fun K hK => ?_)
    simp [go_sem]
    refine hK _ _ ?_; clear hK K
    refine W_block ?_
    refine W_loop (fun k g w' => Below w.heap.size w w' ∧ RD w' a c A ∧ RD w' b d B ∧ ∃ (i bo : Nat) (ws : List Nat), i ≤ A.length ∧ k = A.length - i ∧ g 1 = .slice b B.length d ∧ g 6 = .slice (some ⟨b2, 0, none⟩) A.length A.length ∧ g 7 = .int .i32 bo ∧
      g 22 = .slice a A.length c ∧ g 23 = .int .i64 A.length ∧ g 24 = .int .i64 i ∧ Bx w' b2 (lmC (ws ++ List.replicate (A.length - i) 0)).toArray 39 ∧ ws.length = i ∧ Ok ws ∧ bo ≤ 1 ∧ val ws + val (B.take i) = val (A.take i) + 65536 ^ i * bo) A.length ?_ ?_
    · exact ⟨hE, hr, hs, 0, 0, [], by omega, rfl, by simp [go_sem], by simp [go_sem], by simp [go_sem], by simp [go_sem], by simp [go_sem], by simp [go_sem], hB3, rfl, Ok.nil, by omega, by simp [val]⟩
    · clear hr hs hE hB3
      rintro k g w' ⟨hE, hr, hs, i, bo, ws, hi, rfl, g1, g6, g7, g22, g23, g24, hB, hwl, hwok, hbo, hval⟩
      refine W_rt (by kernel_rfl) (fun K hK => ?_)
      simp [go_sem, g23, g24]
      refine hK _ _ ?_; clear hK K
      refine W_seq (fun K2 hK2 => ?_)
      by_cases hlt : i < A.length
      · have hlt' : (i : Int) < A.length := by omega
        obtain ⟨c1, c2⟩ := hr.at hlt
        have hx := lat_lt hr.ok i
        have hy := lat_lt hs.ok i
        have e1 : IntKind.i32.wrap (lat A i : Int) = lat A i := i32_in _ (by omega)
        have e2 : IntKind.i32.wrap (lat B i : Int) = lat B i := i32_in _ (by omega)
        have e3 : IntKind.i32.wrap ((lat A i : Int) - bo) = (lat A i : Int) - bo := i32_in _ (by omega)
        have e4 : IntKind.i32.wrap ((lat A i : Int) - bo - lat B i) = (lat A i : Int) - bo - lat B i := i32_in _ (by omega)
        have hw1 : IntKind.i64.wrap (↑i + 1) = (i : Int) + 1 := IntWalk.i64_in _ (by omega)
        obtain ⟨D, hD⟩ : ∃ D : Int, D = (lat A i : Int) - bo - lat B i := ⟨_, rfl⟩
        rw [← hD] at e4
        refine W_if (by simp [go_sem, hlt, hlt']; rfl) rfl ?_
        refine W_skip ?_
        refine hK2 _ _ ?_; clear hK2 K2
        refine W_seq (fun K2 hK2 => ?_)
        refine W_block ?_
        refine W_rt (by kernel_rfl) (fun K hK => ?_)
        simp [go_sem, g22, g24, hlt, hlt', c1, c2]
        refine hK _ _ ?_; clear hK K
        refine W_rt (by kernel_rfl) (fun K hK => ?_)
        simp [go_sem, g7, e1, e3]
        refine hK _ _ ?_; clear hK K
        refine W_seq (fun K3 hK3 => ?_)
        refine W_rt (by kernel_rfl) (fun K hK => ?_)
        simp [go_sem, g1]
        refine hK _ _ ?_; clear hK K
        have next : ∀ g' : G, g' 1 = .slice b B.length d → g' 6 = .slice (some ⟨b2, 0, none⟩) A.length A.length → g' 8 = .int .i64 i → g' 10 = .int .i32 D → g' 22 = .slice a A.length c → g' 23 = .int .i64 A.length → g' 24 = .int .i64 i → K3 g' w' := by
          intro g' g1 g6 g8 g10 g22 g23 g24
          refine hK3 _ _ ?_; clear hK3 K3
          refine W_rt (by kernel_rfl) (fun K hK => ?_)
          simp [go_sem]
          refine hK _ _ ?_; clear hK K
          refine W_seq (fun K3 hK3 => ?_)
          refine W_rt (by kernel_rfl) (fun K hK => ?_)
          simp [go_sem, g10]
          refine hK _ _ ?_; clear hK K
          have store : ∀ (g' : G) (bo' Q : Nat), Q < 65536 → bo' ≤ 1 → lat A i + 65536 * bo' = Q + bo + lat B i → g' 1 = .slice b B.length d → g' 6 = .slice (some ⟨b2, 0, none⟩) A.length A.length → g' 7 = .int .i32 bo' → g' 8 = .int .i64 i → g' 10 = .int .i32 Q → g' 22 = .slice a A.length c → g' 23 = .int .i64 A.length → g' 24 = .int .i64 i → K3 g' w' := by
            clear g1 g6 g8 g10 g22 g23 g24
            intro g' bo' Q hQ hbo' heq g1 g6 g7 g8 g10 g22 g23 g24
            refine hK3 _ _ ?_; clear hK3 K3
            have e5 : IntKind.u16.wrap (Q : Int) = Q := w16_in _ (by omega)
            have hstep := sub_step ws A B i bo bo' Q hwl hval heq
            refine W_text (by kernel_rfl) (fun K hK => ?_)
            simp [go_sem, g6, g8, g10, e5, hlt, hlt', add_mk]
            refine hv_store (b := b2) (off := i) [.int .u16 Q] (by simp [go_sem]) rfl (by simp [go_sem]) (by simp [go_sem, Value.cells]) ty_size39 hB (by simp [lmC_len] <;> omega) (by simp [Value.oneCell']) (by decide) (fun w4 hS4 hB4 => ?_)
            rw [putC_lm] at hB4
            have hrep : A.length - i = (A.length - (i + 1)) + 1 := by omega
            rw [hrep, set_next ws i _ Q hwl] at hB4
            replace hr := hr.sto hS4 hne1
            replace hs := hs.sto hS4 hne2
            replace hE := hE.nextS hS4 hle2
            simp [go_sem]
            refine hK _ _ ?_; clear hK K
            refine hK2 _ _ ?_; clear hK2 K2
            refine W_text (by kernel_rfl) (fun K hK => ?_)
            simp [go_sem, g24, hw1]
            refine hK _ _ ⟨A.length - (i + 1), by omega, hE, hr, hs, i + 1, bo', ws ++ [Q], by omega, rfl, by simp [go_sem, g1], by simp [go_sem, g6], by simp [go_sem, g7], by simp [go_sem, g22], by simp [go_sem, g23], by simp [go_sem], hB4, by simp [hwl], hwok.app (Ok.cons hQ Ok.nil), hbo', hstep⟩
          by_cases hneg : D < 0
          · have e6 : IntKind.i32.wrap (D + 65536) = D + 65536 := i32_in _ (by omega)
            obtain ⟨Q, hQ⟩ : ∃ Q : Nat, D + 65536 = Q := ⟨(D + 65536).toNat, by omega⟩
            rw [hQ] at e6
            refine W_if (by simp [go_sem, hneg]; rfl) rfl ?_
            refine W_rt (by kernel_rfl) (fun K hK => ?_)
            simp [go_sem, g10, e6, hQ]
            refine hK _ _ ?_; clear hK K
            refine W_text (by kernel_rfl) (fun K hK => ?_)
            simp [go_sem]
            refine hK _ _ ?_; clear hK K
            exact store _ 1 Q (by omega) (by omega) (by omega) (by simp [go_sem, g1]) (by simp [go_sem, g6]) (by simp [go_sem]) (by simp [go_sem, g8]) (by simp [go_sem]) (by simp [go_sem, g22]) (by simp [go_sem, g23]) (by simp [go_sem, g24])
          · obtain ⟨Q, hQ⟩ : ∃ Q : Nat, D = Q := ⟨D.toNat, by omega⟩
            refine W_if (by simp [go_sem, hneg]; rfl) rfl ?_
            refine W_skip ?_
            exact store _ 0 Q (by omega) (by omega) (by omega) (by simp [go_sem, g1]) (by simp [go_sem, g6]) (by simp [go_sem]) (by simp [go_sem, g8]) (by simp [go_sem, g10, hQ]) (by simp [go_sem, g22]) (by simp [go_sem, g23]) (by simp [go_sem, g24])
        by_cases hb : i < B.length
        · have hb' : (i : Int) < B.length := by omega
          obtain ⟨c3, c4⟩ := hs.at hb
          rw [hD] at e4
          refine W_if (by simp [go_sem, hb, hb']; rfl) rfl ?_
          refine W_text (by kernel_rfl) (fun K hK => ?_)
          simp [go_sem, g1, hb, hb', c3, c4, e2, e4]
          refine hK _ _ ?_; clear hK K
          exact next _ (by simp [go_sem, g1]) (by simp [go_sem, g6]) (by simp [go_sem]) (by simp [go_sem, hD]) (by simp [go_sem, g22]) (by simp [go_sem, g23]) (by simp [go_sem, g24])
        · have hb' : ¬ (i : Int) < B.length := by omega
          have hz : lat B i = 0 := lat_out (by omega)
          have hD' : (lat A i : Int) - bo = D := by omega
          refine W_if (by simp [go_sem, hb, hb']; rfl) rfl ?_
          refine W_skip ?_
          exact next _ (by simp [go_sem, g1]) (by simp [go_sem, g6]) (by simp [go_sem]) (by simp [go_sem, hD']) (by simp [go_sem, g22]) (by simp [go_sem, g23]) (by simp [go_sem, g24])
      · have him : i = A.length := by omega
        subst him
        rw [List.take_length, List.take_of_length_le hlen] at hval
        have hrep : A.length - A.length = 0 := by omega
        rw [hrep, List.replicate_zero, List.append_nil] at hB
        have hres := sub_end ws A B bo hwok hwl hval hle
        have hrw := RD.of_lm hB hwok (c := A.length) (by omega)
        rw [← hwl] at g6 hrw
        refine W_if (by simp [go_sem, hlt]; rfl) rfl ?_
        refine W_exit ?_
        repeat (first | refine thenG_exit ?_ | refine inBlock_other rfl ?_ | refine inBlock_same ?_)
        refine hK1 _ _ ?_; clear hK1 K1 hK2 K2
        refine W_rt (by kernel_rfl) (fun K hK => ?_)
        simp [go_sem, g6]
        refine hv_call (by simp [go_sem, g6]) rfl Try.call43 (fun R hR => ?_)
        simp [go_sem, g6]
        refine (trim_any ws _ _ _ hrw (by omega)).mono ?_
        rintro e w4 ⟨rfl, rfl⟩
        refine ⟨_, rfl, hR _ _ ?_⟩
        clear hR R
        simp [go_sem]
        refine hK _ _ ?_; clear hK K
        refine W_ret ?_
        repeat (first | refine thenG_ret ?_ | refine inBlock_ret ?_)
        refine ⟨trivial, hpost _ _ ⟨some ⟨b2, 0, none⟩, ws.length, ?_, ?_, hE⟩⟩
        · rw [hres]; simp [go_sem, pack, resL]
        · rw [hres]; exact hrw.nrm
end Go.Proofs.Ytomniiobaonloaa
