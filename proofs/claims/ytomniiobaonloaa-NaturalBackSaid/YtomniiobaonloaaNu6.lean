/- Natural numbers: the specification's Text. -/
import Derived.Test.YtomniiobaonloaaNu5
import Derived.Laws.BytesString
namespace Go.Proofs.Ytomniiobaonloaa
open Go.RowKit Go.V
set_option linter.unusedSimpArgs false
set_option linter.unusedVariables false

/-- these bytes as a string -/
def sB (l : List UInt8) : ByteArray := ⟨l.toArray⟩
theorem sB_size (l : List UInt8) : (sB l).size = l.length := by show (l.toArray).size = _; simp
theorem sB_app (a b : List UInt8) : sB a ++ sB b = sB (a ++ b) := by
  apply ByteArray.ext
  simp [sB]
theorem b2s_one {P : Program} (w : World) (b : Nat) (n : Int) (h : w.cell? ⟨b, 0, none⟩ = some (.int .u8 n)) : (Conv.bytesToString (.slice (some ⟨b, 0, none⟩) 1 1)).run P w = .ok (.string (sB [UInt8.ofNat n.toNat])) w := by
  have hl : (loadCells ⟨b, 0, none⟩ 1).run P w = .ok ([n].map (Value.int .u8)).toArray w := by
    have := tame_run P _ w _ (tame_loadCellsFrom (P := P) (w := w) (a := ⟨b, 0, none⟩) 1 0 #[] ⟨by rw [Addr.add_zero']; rw [h]; rfl, trivial⟩)
    simp only [rowV, cellV, Addr.add_zero', h] at this
    exact this
  exact run_bytesToString w _ 1 1 [n] hl

set_option maxHeartbeats 600000 in
theorem textR_any (l : List Nat) (a : Option Addr) (c : Nat) (w : World) (hr : RD w a c l) (hl : l.length ≤ 100000) :
    Calls Try.prog 38 #[.slice a l.length c] w (RetS w (txt (val l))) := by
  have hno := normR_any l a c w hr (by unfold lenB; omega)
  rw [← lim_val l hr.ok] at hno
  have hlt := val_lt l hr.ok
  have hlim : (lim (val l)).length ≤ l.length := by rw [lim_val l hr.ok]; exact nrm_len l
  rw [pow_16] at hlt
  have s0 : (.string ⟨#[]⟩ : Value) = .string (sB []) := rfl
  generalize val l = A0 at *
  have hlen := dgz_len (16 * l.length) A0 hlt
  refine calls_of_W (args := [.slice a l.length c]) (rs := [.tmp 2]) (n := 32) Try.func38 rfl rfl rfl (by kernel_rfl) ?_
  first | refine W_rt (by kernel_rfl) (fun K hK => ?_) | refine W_text (by kernel_rfl) (fun K hK => ?_)
  simp [go_sem]
  refine hK _ _ ?_; clear hK K
  first | refine W_rt (by kernel_rfl) (fun K hK => ?_) | refine W_text (by kernel_rfl) (fun K hK => ?_)
  simp [go_sem]
  refine hv_call (by simp [go_sem]) rfl Try.call18 (fun R hR => ?_)
  simp [go_sem]
  refine (hno).mono ?_
  rintro e w1 ⟨a1, c1, rfl, hr1, hE1⟩
  refine ⟨_, rfl, hR _ _ ?_⟩
  clear hR R
  have hE := hE1
  clear hno hr
  simp [go_sem]
  refine hK _ _ ?_; clear hK K
  refine W_seq (fun K1 hK1 => ?_)
  by_cases h0 : A0 = 0
  · subst h0
    rw [lim_zero]
    first | refine W_rt (by kernel_rfl) (fun K hK => ?_) | refine W_text (by kernel_rfl) (fun K hK => ?_)
    simp [go_sem]
    refine hK _ _ ?_; clear hK K
    refine W_if (by simp [go_sem]; rfl) rfl ?_
    first | refine W_rt (by kernel_rfl) (fun K hK => ?_) | refine W_text (by kernel_rfl) (fun K hK => ?_)
    simp [go_sem]
    refine hK _ _ ?_; clear hK K
    refine W_ret ?_
    repeat (first | refine thenG_ret ?_ | refine inBlock_ret ?_)
    exact ⟨trivial, by simp [go_sem, pack, resL, txt], hE⟩
  · have hp : 0 < (lim A0).length := lim_ne h0
    have hp' : ¬ ((lim A0).length : Int) = 0 := by omega
    have hp'' : ¬ lim A0 = [] := by intro e; rw [e] at hp; simp at hp
    first | refine W_rt (by kernel_rfl) (fun K hK => ?_) | refine W_text (by kernel_rfl) (fun K hK => ?_)
    simp [go_sem, hp', hp'']
    refine hK _ _ ?_; clear hK K
    refine W_if (by simp [go_sem, hp', hp'']; rfl) rfl ?_
    refine W_skip ?_
    refine hK1 _ _ ?_; clear hK1 K1
    first | refine W_rt (by kernel_rfl) (fun K hK => ?_) | refine W_text (by kernel_rfl) (fun K hK => ?_)
    simp [go_sem]
    rw [s0]
    refine hK _ _ ?_; clear hK K
    refine W_seq (fun K1 hK1 => ?_)
    refine W_block ?_
    refine W_loop (fun t g w' => Below w.heap.size w w' ∧ ∃ a1 c1 acc, t ≤ A0 ∧ g 0 = .slice a1 (lim t).length c1 ∧ RD w' a1 c1 (lim t) ∧ g 3 = .string (sB acc) ∧ dgz t ++ acc = dgz A0) A0 ?_ ?_
    · exact ⟨hE, a1, c1, [], Nat.le_refl _, by simp [go_sem], hr1, by simp [go_sem], by simp⟩
    · clear hE hr1 hE1
      rintro A g w' ⟨hE, a1, c1, acc, hAle, g0, hrA, g3, hacc⟩
      refine W_seq (fun K2 hK2 => ?_)
      by_cases hA0 : A = 0
      · subst hA0
        rw [dgz_0, List.nil_append] at hacc
        rw [lim_zero] at g0
        first | refine W_rt (by kernel_rfl) (fun K hK => ?_) | refine W_text (by kernel_rfl) (fun K hK => ?_)
        simp [go_sem, g0]
        refine hK _ _ ?_; clear hK K
        refine W_if (by simp [go_sem]; rfl) rfl ?_
        refine W_exit ?_
        repeat (first | refine thenG_exit ?_ | refine inBlock_other rfl ?_ | refine inBlock_same ?_)
        refine hK1 _ _ ?_; clear hK1 K1 hK2 K2
        first | refine W_rt (by kernel_rfl) (fun K hK => ?_) | refine W_text (by kernel_rfl) (fun K hK => ?_)
        simp [go_sem, g3]
        refine hK _ _ ?_; clear hK K
        refine W_ret ?_
        repeat (first | refine thenG_ret ?_ | refine inBlock_ret ?_)
        refine ⟨trivial, ?_, hE⟩
        simp [go_sem, pack, resL, txt, h0, g3, hacc, sB]
      · have hp : 0 < (lim A).length := lim_ne hA0
        have hp' : (0 : Int) < (lim A).length := by omega
        have hAl : (lim A).length ≤ 100000 := lim_mono hAle (by omega)
        have hx : A % 10 < 10 := Nat.mod_lt _ (by decide)
        have hacl : acc.length ≤ 1600000 := by
          have := congrArg List.length hacc
          rw [List.length_append] at this
          omega
        rw [dgz_s A hA0, List.append_assoc] at hacc
        first | refine W_rt (by kernel_rfl) (fun K hK => ?_) | refine W_text (by kernel_rfl) (fun K hK => ?_)
        simp [go_sem, g0, hp, hp']
        refine hK _ _ ?_; clear hK K
        refine W_if (by simp [go_sem, hp, hp']; rfl) rfl ?_
        refine W_skip ?_
        refine hK2 _ _ ?_; clear hK2 K2
        refine W_block ?_
        first | refine W_rt (by kernel_rfl) (fun K hK => ?_) | refine W_text (by kernel_rfl) (fun K hK => ?_)
        simp [go_sem, g0]
        refine hv_call (by simp [go_sem, g0]) rfl Try.call24 (fun R hR => ?_)
        simp [go_sem, g0]
        refine (ofR_any 10 _ (by decide)).mono ?_
        rintro e w2 ⟨a2, c2, rfl, hr2, hE2⟩
        refine ⟨_, rfl, hR _ _ ?_⟩
        clear hR R
        replace hrA := hrA.ext hE2
        replace hE := hE.next hE2
        have hdm := divmodR_any (lim A) (lim 10) a1 a2 c1 c2 _ hrA hr2 (by unfold lenS; omega) (Nat.le_trans (Nat.succ_le_succ (lim_len 4 10 (by decide))) (by decide))
        rw [val_lim, val_lim] at hdm
        simp [go_sem, g0]
        refine hv_call (by simp [go_sem, g0]) rfl Try.call26 (fun R hR => ?_)
        simp [go_sem, g0]
        refine hdm.mono ?_
        rintro e w4 (⟨hbad, _⟩ | ⟨_, a4, c4, a5, c5, rfl, hr4, hr5, hE4⟩)
        · cases hbad
        refine ⟨_, rfl, hR _ _ ?_⟩
        clear hR R
        replace hE := hE.next hE4
        have hsh := short_any (lim (A % 10)) a5 c5 _ hr5 (lim_len 4 _ (by omega))
        rw [val_lim] at hsh
        obtain ⟨x, hxe⟩ : ∃ x, x = A % 10 := ⟨_, rfl⟩
        rw [← hxe] at hsh hx hacc ⊢
        obtain ⟨Y, hY⟩ : ∃ Y, Y = 48 + x := ⟨_, rfl⟩
        have e24 : IntKind.u64.wrap (48 + (x : Int)) = (Y : Int) := by rw [w64_in _ (by omega)]; omega
        have e25 : IntKind.u8.wrap (Y : Int) = Y := w8_in _ (by omega)
        simp [go_sem]
        refine hK _ _ ?_; clear hK K
        first | refine W_rt (by kernel_rfl) (fun K hK => ?_) | refine W_text (by kernel_rfl) (fun K hK => ?_)
        simp [go_sem]
        refine hv_call (by simp [go_sem]) rfl Try.call44 (fun R hR => ?_)
        simp [go_sem]
        refine (hsh).mono ?_
        rintro e w5 ⟨rfl, rfl⟩
        refine ⟨_, rfl, hR _ _ ?_⟩
        clear hR R
        simp [go_sem, e24, e25]
        refine hv_buildSlice #[.int .u8 Y] (by simp [go_sem, e24, e25]) rfl ty_slZ60 (by decide) [(0, .int .u8 Y)] (by simp [go_sem, e24, e25]) (by kernel_rfl) (fun w6 b6 hE6 hle6 hB6 => ?_)
        replace hr4 := hr4.ext hE6
        replace hE := hE.next hE6
        have kb := hB6.get0
        have hcv := b2s_one (P := Try.prog) w6 b6 (Y : Int) kb
        rw [← run_convert_bytes_string (P := Try.prog) w6 60 9 5 (some ⟨b6, 0, none⟩) 1 1 Try.underlying60 Try.underlying5 Try.underlying9, Int.toNat_natCast] at hcv
        simp [go_sem]
        refine hv_conv (by simp [go_sem]) rfl (by simp [go_sem]; exact hcv) (fun e => absurd e (by decide)) ?_
        have e29 : sB [UInt8.ofNat Y] ++ sB acc = sB (UInt8.ofNat Y :: acc) := sB_app _ _
        have e30 : (sB [UInt8.ofNat Y]).size + (sB acc).size ≤ 9223372036854775807 := by rw [sB_size, sB_size]; simp; omega
        simp [go_sem, g3, e29, e30]
        refine hK _ _ ?_; clear hK K
        first | refine W_rt (by kernel_rfl) (fun K hK => ?_) | refine W_text (by kernel_rfl) (fun K hK => ?_)
        simp [go_sem]
        refine hK _ _ ⟨A / 10, by omega, hE, a4, c4, UInt8.ofNat Y :: acc, by omega, by simp [go_sem], hr4, by simp [go_sem], ?_⟩
        rw [← hacc, hY]; rfl
end Go.Proofs.Ytomniiobaonloaa
