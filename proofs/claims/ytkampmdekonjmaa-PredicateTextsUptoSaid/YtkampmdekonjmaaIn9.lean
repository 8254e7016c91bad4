/- Integers: the numerals. -/
import Derived.Test.YtkampmdekonjmaaIn6
import Derived.Test.YtkampmdekonjmaaIn4
namespace Go.Proofs.Ytkampmdekonjmaa
open Go.RowKit Go.V
set_option linter.unusedSimpArgs false
set_option linter.unusedVariables false
set_option maxRecDepth 20000
theorem ba_cons2 (l : List UInt8) : (⟨#[45]⟩ : ByteArray) ++ ⟨#[]⟩ ++ ⟨l.toArray⟩ = ⟨(45 :: l).toArray⟩ := by
  apply ByteArray.ext
  rw [ByteArray.data_append, ByteArray.data_append]
  simp
def itxt (z : Int) : List UInt8 := if z < 0 then 45 :: txt z.natAbs else txt z.natAbs
theorem ba_cons (l : List UInt8) : (⟨#[45]⟩ : ByteArray) ++ ⟨l.toArray⟩ = ⟨(45 :: l).toArray⟩ := by
  apply ByteArray.ext
  rw [ByteArray.data_append]
  simp
theorem txt_len (l : List Nat) (h : Ok l) (hl : l.length ≤ 100000) : (txt (val l)).length ≤ 1600001 := by
  unfold txt
  split
  · simp
  · have h2 : val l < 2 ^ (16 * l.length) := by rw [Nat.pow_mul]; exact val_lt l h
    have := dgz_len (16 * l.length) (val l) h2
    omega
set_option maxHeartbeats 400000 in
theorem iText_any (neg : Bool) (l : List Nat) (a : Option Addr) (c : Nat) (w : World) (hr : RD w a c l) (hl : l.length ≤ 100000) :
    Calls Try.prog 68 #[.agg #[.bool neg, .slice a l.length c]] w (RetS w (itxt (iv neg (val l)))) := by
  obtain ⟨Z, hZ⟩ : ∃ Z, Z = iv neg (val l) := ⟨_, rfl⟩
  have hzn : Z.natAbs = val l := by rw [hZ, iv_abs]
  have hs1 := fun {w} hr => iSign_any neg l a c w hr (by unfold lenB; omega)
  have ht1 := fun {w} hr => text_any l a c w hr hl
  rw [← hZ] at hs1 ⊢
  unfold RetS at ht1
  rw [← hzn] at ht1
  have hXl := txt_len l hr.ok hl
  rw [← hzn] at hXl
  generalize hX : txt Z.natAbs = X at ht1 hXl
  refine calls_of_W (args := [.agg #[.bool neg, .slice a l.length c]]) (rs := [.tmp 2]) (n := 13) Try.func68 rfl rfl rfl (by kernel_rfl) ?_
  first | refine W_rt (by kernel_rfl) (fun K hK => ?_) | refine W_text (by kernel_rfl) (fun K hK => ?_)
  simp [go_sem]
  refine hv_box #[.bool neg, .slice a l.length c] (by simp [go_sem]) rfl (by simp [go_sem, Value.cells]) (fun w1 b1 hE1 hle1 hB1 => ?_)
  replace hr := hr.keep hE1
  have hE := hE1
  obtain ⟨k0, k1⟩ := ibx hB1
  simp [go_sem]
  refine hK _ _ ?_; clear hK K
  refine W_seq (fun K1 hK1 => ?_)
  first | refine W_rt (by kernel_rfl) (fun K hK => ?_) | refine W_text (by kernel_rfl) (fun K hK => ?_)
  simp [go_sem, k0, k1, add_mk, rowV, rowOk]
  refine hv_call (by simp [go_sem, k0, k1, add_mk, rowV, rowOk]) rfl Try.call82 (fun R hR => ?_)
  simp [go_sem, k0, k1, add_mk, rowV, rowOk]
  refine (hs1 hr).mono ?_
  rintro e w2 ⟨rfl, hE2⟩
  refine ⟨_, rfl, hR _ _ ?_⟩
  clear hR R
  replace hr := hr.keep hE2
  replace hB1 := hB1.keep hE2
  replace hE := hE.next hE2
  obtain ⟨k0, k1⟩ := ibx hB1
  simp [go_sem]
  refine hK _ _ ?_; clear hK K
  by_cases hz : sg Z < 0
  · have hz' := sg_lt0.1 hz
    refine W_if (by simp [go_sem, hz]; rfl) rfl ?_
    first | refine W_rt (by kernel_rfl) (fun K hK => ?_) | refine W_text (by kernel_rfl) (fun K hK => ?_)
    simp [go_sem, k0, k1, add_mk]
    refine hv_call (by simp [go_sem, k0, k1, add_mk]) rfl Try.call69 (fun R hR => ?_)
    simp [go_sem, k0, k1, add_mk]
    refine (ht1 hr).mono ?_
    rintro e w3 ⟨rfl, hE3⟩
    refine ⟨_, rfl, hR _ _ ?_⟩
    clear hR R
    simp [go_sem]
    refine ⟨by omega, ?_⟩
    refine hK _ _ ?_; clear hK K
    refine W_ret ?_
    repeat (first | refine thenG_ret ?_ | refine inBlock_ret ?_)
    refine ⟨trivial, ?_, hE.next hE3⟩
    unfold itxt
    rw [if_pos hz', hX]
    simp [go_sem, pack, resL]
    first | done | exact ba_cons X | exact ba_cons2 X | (rw [← ba_cons X]; rfl) | (rw [← ba_cons2 X]; rfl)
  · have hz' : ¬ Z < 0 := fun h => hz (sg_lt0.2 h)
    refine W_if (by simp [go_sem, hz]; rfl) rfl ?_
    refine W_skip ?_
    refine hK1 _ _ ?_; clear hK1 K1
    first | refine W_rt (by kernel_rfl) (fun K hK => ?_) | refine W_text (by kernel_rfl) (fun K hK => ?_)
    simp [go_sem, k0, k1, add_mk]
    refine hv_call (by simp [go_sem, k0, k1, add_mk]) rfl Try.call69 (fun R hR => ?_)
    simp [go_sem, k0, k1, add_mk]
    refine (ht1 hr).mono ?_
    rintro e w3 ⟨rfl, hE3⟩
    refine ⟨_, rfl, hR _ _ ?_⟩
    clear hR R
    simp [go_sem]
    refine hK _ _ ?_; clear hK K
    refine W_ret ?_
    repeat (first | refine thenG_ret ?_ | refine inBlock_ret ?_)
    refine ⟨trivial, ?_, hE.next hE3⟩
    unfold itxt
    rw [if_neg hz', hX]
    simp [go_sem, pack, resL]
set_option maxHeartbeats 400000 in
theorem iTextR_any (neg : Bool) (l : List Nat) (a : Option Addr) (c : Nat) (w : World) (hr : RD w a c l) (hl : l.length ≤ 100000) :
    Calls Try.prog 73 #[.agg #[.bool neg, .slice a l.length c]] w (RetS w (itxt (iv neg (val l)))) := by
  obtain ⟨Z, hZ⟩ : ∃ Z, Z = iv neg (val l) := ⟨_, rfl⟩
  have hzn : Z.natAbs = val l := by rw [hZ, iv_abs]
  have hzl : (lim Z.natAbs).length ≤ 100000 := by rw [hzn]; exact lim_of_len hr.ok hl
  have hs1 := fun {w} hr => iNormR_any neg l a c w hr (by unfold lenB; omega)
  rw [← hZ] at hs1 ⊢
  have hXl := txt_len l hr.ok hl
  rw [← hzn] at hXl
  refine calls_of_W (args := [.agg #[.bool neg, .slice a l.length c]]) (rs := [.tmp 2]) (n := 14) Try.func73 rfl rfl rfl (by kernel_rfl) ?_
  first | refine W_rt (by kernel_rfl) (fun K hK => ?_) | refine W_text (by kernel_rfl) (fun K hK => ?_)
  simp [go_sem]
  refine hv_box #[.bool neg, .slice a l.length c] (by simp [go_sem]) rfl (by simp [go_sem, Value.cells]) (fun w1 b1 hE1 hle1 hB1 => ?_)
  replace hr := hr.keep hE1
  have hE := hE1
  obtain ⟨k0, k1⟩ := ibx hB1
  simp [go_sem]
  refine hK _ _ ?_; clear hK K
  first | refine W_rt (by kernel_rfl) (fun K hK => ?_) | refine W_text (by kernel_rfl) (fun K hK => ?_)
  simp [go_sem, k0, k1, add_mk, rowV, rowOk]
  refine hv_call (by simp [go_sem, k0, k1, add_mk, rowV, rowOk]) rfl Try.call75 (fun R hR => ?_)
  simp [go_sem, k0, k1, add_mk, rowV, rowOk]
  refine (hs1 hr).mono ?_
  rintro e w6 ⟨a6, c6, rfl, hr6, hE6⟩
  refine ⟨_, rfl, hR _ _ ?_⟩
  clear hR R
  replace hB1 := hB1.keep hE6
  replace hE := hE.next hE6
  have ht1 := fun {w} hr => textR_any (lim Z.natAbs) a6 c6 w hr hzl
  unfold RetS at ht1
  rw [val_lim] at ht1
  generalize hX : txt Z.natAbs = X at ht1 hXl
  simp [go_sem]
  refine hv_store (b := b1) (off := 0) [.bool (decide (Z < 0)), .slice a6 (lim Z.natAbs).length c6] (by simp [go_sem, iR]) rfl (by simp [go_sem, iR]) (by simp [go_sem, Value.cells, iR]) ty_size26 hB1 (by simp) (by simp [Value.oneCell']) (by decide) (fun w9 hS9 hB9 => ?_)
  simp [putC] at hB9
  replace hr6 := hr6.sto hS9 (hr6.nbox hB1)
  replace hE := hE.nextS hS9 hle1
  obtain ⟨k0, k1⟩ := ibx hB9
  simp [go_sem]
  refine hK _ _ ?_; clear hK K
  refine W_seq (fun K1 hK1 => ?_)
  by_cases hz : Z < 0
  · first | refine W_rt (by kernel_rfl) (fun K hK => ?_) | refine W_text (by kernel_rfl) (fun K hK => ?_)
    simp [go_sem, k0, k1, add_mk, hz]
    refine hK _ _ ?_; clear hK K
    refine W_if (by simp [go_sem]; rfl) rfl ?_
    first | refine W_rt (by kernel_rfl) (fun K hK => ?_) | refine W_text (by kernel_rfl) (fun K hK => ?_)
    simp [go_sem, k0, k1, add_mk]
    refine hv_call (by simp [go_sem, k0, k1, add_mk]) rfl Try.call74 (fun R hR => ?_)
    simp [go_sem, k0, k1, add_mk]
    refine (ht1 hr6).mono ?_
    rintro e w3 ⟨rfl, hE3⟩
    refine ⟨_, rfl, hR _ _ ?_⟩
    clear hR R
    simp [go_sem]
    refine ⟨by omega, ?_⟩
    refine hK _ _ ?_; clear hK K
    refine W_ret ?_
    repeat (first | refine thenG_ret ?_ | refine inBlock_ret ?_)
    refine ⟨trivial, ?_, hE.next hE3⟩
    unfold itxt
    rw [if_pos hz, hX]
    simp [go_sem, pack, resL]
    first | done | exact ba_cons X | exact ba_cons2 X | (rw [← ba_cons X]; rfl) | (rw [← ba_cons2 X]; rfl)
  · first | refine W_rt (by kernel_rfl) (fun K hK => ?_) | refine W_text (by kernel_rfl) (fun K hK => ?_)
    simp [go_sem, k0, k1, add_mk, hz]
    refine hK _ _ ?_; clear hK K
    refine W_if (by simp [go_sem]; rfl) rfl ?_
    refine W_skip ?_
    refine hK1 _ _ ?_; clear hK1 K1
    first | refine W_rt (by kernel_rfl) (fun K hK => ?_) | refine W_text (by kernel_rfl) (fun K hK => ?_)
    simp [go_sem, k0, k1, add_mk]
    refine hv_call (by simp [go_sem, k0, k1, add_mk]) rfl Try.call74 (fun R hR => ?_)
    simp [go_sem, k0, k1, add_mk]
    refine (ht1 hr6).mono ?_
    rintro e w3 ⟨rfl, hE3⟩
    refine ⟨_, rfl, hR _ _ ?_⟩
    clear hR R
    simp [go_sem]
    refine hK _ _ ?_; clear hK K
    refine W_ret ?_
    repeat (first | refine thenG_ret ?_ | refine inBlock_ret ?_)
    refine ⟨trivial, ?_, hE.next hE3⟩
    unfold itxt
    rw [if_neg hz, hX]
    simp [go_sem, pack, resL]
end Go.Proofs.Ytkampmdekonjmaa
