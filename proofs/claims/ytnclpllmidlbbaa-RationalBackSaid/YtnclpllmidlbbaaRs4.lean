/- Rational numbers: a string, cut at its first slash. -/
import Derived.Test.YtnclpllmidlbbaaRs2
import Derived.Lib.Bytealg
namespace Go.Proofs.Ytnclpllmidlbbaa
open Go Go.RowKit Go.V
set_option linter.unusedSimpArgs false
set_option linter.unusedVariables false
set_option maxRecDepth 20000
/-- where the first slash stands (or the length) -/
def slk : List UInt8 → Nat
  | [] => 0
  | b :: l => if b = 47 then 0 else slk l + 1
theorem slk_le : ∀ l : List UInt8, slk l ≤ l.length
  | [] => Nat.le_refl _
  | b :: l => by
    have := slk_le l
    unfold slk
    split <;> simp <;> omega
theorem index_slk : ∀ l : List UInt8, Lib.indexByte l 47 = if slk l < l.length then (slk l : Int) else -1
  | [] => rfl
  | b :: l => by
    have ih := index_slk l
    have h0 := slk_le l
    show (if (b == 47) = true then (0 : Int) else if (Lib.indexByte l 47 == -1) = true then -1 else Lib.indexByte l 47 + 1) = if (if b = 47 then 0 else slk l + 1) < (b :: l).length then ((if b = 47 then 0 else slk l + 1 : Nat) : Int) else -1
    by_cases hb : b = 47
    · subst hb; simp
    · have hb' : (b == 47) = false := by simpa using hb
      by_cases h : slk l < l.length
      · have e : Lib.indexByte l 47 = slk l := by rw [ih, if_pos h]
        have h1 : ((slk l : Int) == -1) = false := by simp
        rw [hb', if_neg hb, e, h1]
        simp [h]
      · have e : Lib.indexByte l 47 = -1 := by rw [ih, if_neg h]
        rw [hb', if_neg hb, e]
        simp [h]
theorem slk_at : ∀ (l : List UInt8) (k : Nat), k < slk l → l.getD k 0 ≠ 47
  | [], k, h => by simp [slk] at h
  | b :: l, k, h => by
    unfold slk at h
    split at h
    · omega
    · rename_i hb
      cases k with
      | zero => simpa using hb
      | succ k => simpa using slk_at l k (by omega)
theorem slk_hit : ∀ (l : List UInt8), slk l < l.length → l.getD (slk l) 0 = 47
  | [], h => by simp at h
  | b :: l, h => by
    unfold slk at h ⊢
    split
    · rename_i hb; simpa using hb
    · rename_i hb
      rw [if_neg hb] at h
      have := slk_hit l (by simpa using h)
      simpa using this
theorem indexByte_any (s : ByteArray) (w : World) : Calls Try.prog 129 #[.string s, .int .u8 47] w fun e w' => e = .returned (.int .i64 (Lib.indexByte (bs s) 47)) ∧ w' = w := by
  refine calls_of_W (args := [.string s, .int .u8 47]) (rs := [.tmp 4]) (n := 8) Try.func129 rfl rfl rfl (by kernel_rfl) ?_
  first | refine W_rt (by kernel_rfl) (fun K hK => ?_) | refine W_text (by kernel_rfl) (fun K hK => ?_)
  simp [go_sem]
  refine hK _ _ ?_; clear hK K
  first | refine W_rt (by kernel_rfl) (fun K hK => ?_) | refine W_text (by kernel_rfl) (fun K hK => ?_)
  simp [go_sem]
  refine hv_ext (by simp [go_sem]) rfl Try.func134 (by kernel_rfl) (by kernel_rfl) (by kernel_rfl) (e := Extern.BytealgIndexByte.indexByte) (by kernel_rfl) (by simp [go_sem]; exact Lib.run_indexByteString _ _ _) ?_
  simp [go_sem]
  refine hK _ _ ?_; clear hK K
  refine W_ret ?_
  repeat (first | refine thenG_ret ?_ | refine inBlock_ret ?_)
  exact ⟨trivial, by simp [go_sem, pack, resL]; rfl, rfl⟩
theorem sz47 : (⟨#[47]⟩ : ByteArray).size = 1 := rfl
theorem at47 : (byteAt ⟨#[47]⟩ 0).toNat = 47 := rfl
theorem bs47 : bs ⟨#[47]⟩ = [47] := rfl
theorem index_any (s : ByteArray) (w : World) : Calls Try.prog 124 #[.string s, .string ⟨#[47]⟩] w fun e w' => e = .returned (.int .i64 (Lib.indexByte (bs s) 47)) ∧ w' = w := by
  refine calls_of_W (args := [.string s, .string ⟨#[47]⟩]) (rs := [.tmp 4]) (n := 143) Try.func124 rfl rfl rfl (by kernel_rfl) ?_
  first | refine W_rt (by kernel_rfl) (fun K hK => ?_) | refine W_text (by kernel_rfl) (fun K hK => ?_)
  simp [go_sem]
  refine hK _ _ ?_; clear hK K
  first | refine W_rt (by kernel_rfl) (fun K hK => ?_) | refine W_text (by kernel_rfl) (fun K hK => ?_)
  simp [go_sem, sz47]
  refine hK _ _ ?_; clear hK K
  refine W_seq (fun K1 hK1 => ?_)
  refine W_block ?_
  by_cases hq : [47] = bs s
  · first | refine W_rt (by kernel_rfl) (fun K hK => ?_) | refine W_text (by kernel_rfl) (fun K hK => ?_)
    simp [go_sem, bs47, eq_true hq]
    refine hK _ _ ?_; clear hK K
    refine W_if (t := true) (by simp [go_sem]) rfl ?_
    first | refine W_rt (by kernel_rfl) (fun K hK => ?_) | refine W_text (by kernel_rfl) (fun K hK => ?_)
    simp [go_sem]
    refine hK _ _ ?_; clear hK K
    refine W_ret ?_
    repeat (first | refine thenG_ret ?_ | refine inBlock_ret ?_)
    refine ⟨trivial, ?_, rfl⟩
    simp [go_sem, pack, resL, ← hq]; rfl
  · first | refine W_rt (by kernel_rfl) (fun K hK => ?_) | refine W_text (by kernel_rfl) (fun K hK => ?_)
    simp [go_sem, bs47, hq]
    refine hK _ _ ?_; clear hK K
    refine W_if (t := false) (by simp [go_sem]) rfl ?_
    first | refine W_rt (by kernel_rfl) (fun K hK => ?_) | refine W_text (by kernel_rfl) (fun K hK => ?_)
    simp [go_sem]
    refine hK _ _ ?_; clear hK K
    refine W_if (t := true) (by simp [go_sem]) rfl ?_
    first | refine W_rt (by kernel_rfl) (fun K hK => ?_) | refine W_text (by kernel_rfl) (fun K hK => ?_)
    simp [go_sem, at47]
    refine hv_call (by simp [go_sem, at47]) rfl Try.call129 (fun R hR => ?_)
    simp [go_sem, at47]
    refine (indexByte_any s w).mono ?_
    rintro e w2 ⟨rfl, rfl⟩
    refine ⟨_, rfl, hR _ _ ?_⟩
    clear hR R
    simp [go_sem]
    refine hK _ _ ?_; clear hK K
    refine W_ret ?_
    repeat (first | refine thenG_ret ?_ | refine inBlock_ret ?_)
    refine ⟨trivial, ?_, rfl⟩
    simp [go_sem, pack, resL]
/-- the text ahead of the slash, and behind it -/
def slA (l : List UInt8) : List UInt8 := l.take (slk l)
def slB (l : List UInt8) : List UInt8 := l.drop (slk l + 1)
def slH (l : List UInt8) : Bool := decide (slk l < l.length)
theorem slk_size (s : ByteArray) : slk (bs s) ≤ s.size := by rw [← bs_len]; exact slk_le _
theorem bs_ext (s : ByteArray) (a b : Nat) : bs (s.extract a b) = ((bs s).drop a).take (b - a) := by
  unfold bs
  rw [ByteArray.data_extract, Array.toList_extract, List.extract_eq_take_drop]
def cutV (l : List UInt8) : Value := .tuple #[.string ⟨(slA l).toArray⟩, .string ⟨(slB l).toArray⟩, .bool (slH l)]
theorem ba_of_bs {s : ByteArray} {l : List UInt8} (h : bs s = l) : s = ⟨l.toArray⟩ := bs_inj (by rw [h, bs_mk])
theorem cutI_any (s : ByteArray) (w : World) (hs : s.size < 9223372036854775807) : Calls Try.prog 112 #[.string s, .string ⟨#[47]⟩] w fun e w' => e = .returned (cutV (bs s)) ∧ Below w.heap.size w w' := by
  have h0 := slk_size s
  have hi := index_slk (bs s)
  rw [bs_len] at hi
  refine calls_of_W (args := [.string s, .string ⟨#[47]⟩]) (rs := [.tmp 4, .tmp 5, .tmp 6]) (n := 23) Try.func112 rfl rfl rfl (by kernel_rfl) ?_
  first | refine W_rt (by kernel_rfl) (fun K hK => ?_) | refine W_text (by kernel_rfl) (fun K hK => ?_)
  simp [go_sem]
  refine hK _ _ ?_; clear hK K
  refine W_seq (fun K1 hK1 => ?_)
  first | refine W_rt (by kernel_rfl) (fun K hK => ?_) | refine W_text (by kernel_rfl) (fun K hK => ?_)
  simp [go_sem]
  refine hv_call (by simp [go_sem]) rfl Try.call124 (fun R hR => ?_)
  simp [go_sem]
  refine (index_any s w).mono ?_
  rintro e w2 ⟨rfl, rfl⟩
  refine ⟨_, rfl, hR _ _ ?_⟩
  clear hR R
  by_cases h : slk (bs s) < s.size
  · rw [if_pos h] at hi
    rw [hi]
    obtain ⟨k, hk⟩ : ∃ k, k = slk (bs s) := ⟨_, rfl⟩
    rw [← hk] at h h0 ⊢
    have hw1 : IntKind.i64.wrap ((k : Int) + 1) = (k : Int) + 1 := IntWalk.i64_in _ (by omega)
    simp [go_sem]
    refine hK _ _ ?_; clear hK K
    first | refine W_rt (by kernel_rfl) (fun K hK => ?_) | refine W_text (by kernel_rfl) (fun K hK => ?_)
    simp [go_sem]
    refine hK _ _ ?_; clear hK K
    have c0 : (0 : Int) ≤ k := by omega
    refine W_if (t := true) (by simp [go_sem]) rfl ?_
    first | refine W_rd [(0, 0), (1, 0), (2, 0), (3, 0), (4, 0), (5, 0), (6, 0), (7, 0), (8, 0), (9, 0), (10, 0), (11, 0)] (by kernel_rfl) (by kernel_rfl) (fun K hK => ?_) | refine W_draw [(0, 0), (1, 0), (2, 0), (3, 0), (4, 0), (5, 0), (6, 0), (7, 0), (8, 0), (9, 0), (10, 0), (11, 0)] (by kernel_rfl) (by kernel_rfl) (fun K hK => ?_)
    simp [go_sem, sz47, hw1, c0]
    refine ⟨h0, ⟨by omega, by omega⟩, ?_⟩
    refine hK _ _ ?_; clear hK K
    refine W_ret ?_
    repeat (first | refine thenG_ret ?_ | refine inBlock_ret ?_)
    refine ⟨trivial, ?_, Below.drew1 _⟩
    simp [go_sem, pack, resL, cutV]
    refine ⟨ba_of_bs ?_, ba_of_bs ?_, ?_⟩
    · rw [bs_ext, slA, ← hk]; simp
    · rw [bs_ext, slB, ← hk]
      refine List.take_of_length_le ?_
      rw [List.length_drop, bs_len]; omega
    · unfold slH; rw [← hk, bs_len]; exact decide_eq_true h
  · rw [if_neg h] at hi
    rw [hi]
    simp [go_sem]
    refine hK _ _ ?_; clear hK K
    first | refine W_rt (by kernel_rfl) (fun K hK => ?_) | refine W_text (by kernel_rfl) (fun K hK => ?_)
    simp [go_sem]
    refine hK _ _ ?_; clear hK K
    refine W_if (t := false) (by simp [go_sem]) rfl ?_
    refine W_skip ?_
    refine hK1 _ _ ?_
    first | refine W_rt (by kernel_rfl) (fun K hK => ?_) | refine W_text (by kernel_rfl) (fun K hK => ?_)
    simp [go_sem]
    refine hK _ _ ?_; clear hK K
    refine W_ret ?_
    repeat (first | refine thenG_ret ?_ | refine inBlock_ret ?_)
    refine ⟨trivial, ?_, Below.refl _ _⟩
    simp [go_sem, pack, resL, cutV]
    refine ⟨ba_of_bs ?_, ?_, ?_⟩
    · unfold slA; rw [List.take_of_length_le (by rw [bs_len]; omega)]
    · unfold slB; exact List.drop_eq_nil_of_le (by rw [bs_len]; omega)
    · unfold slH; rw [bs_len]; exact decide_eq_false h
theorem cut_any (s : ByteArray) (w : World) (hs : s.size < 9223372036854775807) : Calls Try.prog 79 #[.string s, .string ⟨#[47]⟩] w fun e w' => e = .returned (cutV (bs s)) ∧ Below w.heap.size w w' := by
  refine calls_of_W (args := [.string s, .string ⟨#[47]⟩]) (rs := [.tmp 4, .tmp 5, .tmp 6]) (n := 13) Try.func79 rfl rfl rfl (by kernel_rfl) ?_
  first | refine W_rt (by kernel_rfl) (fun K hK => ?_) | refine W_text (by kernel_rfl) (fun K hK => ?_)
  simp [go_sem]
  refine hK _ _ ?_; clear hK K
  first | refine W_rt (by kernel_rfl) (fun K hK => ?_) | refine W_text (by kernel_rfl) (fun K hK => ?_)
  simp [go_sem]
  refine hv_call (by simp [go_sem]) rfl Try.call112 (fun R hR => ?_)
  simp [go_sem]
  refine (cutI_any s w hs).mono ?_
  rintro e w2 ⟨rfl, hE⟩
  refine ⟨_, rfl, hR _ _ ?_⟩
  clear hR R
  simp [go_sem, cutV]
  refine hK _ _ ?_; clear hK K
  refine W_ret ?_
  repeat (first | refine thenG_ret ?_ | refine inBlock_ret ?_)
  refine ⟨trivial, ?_, hE⟩
  simp [go_sem, pack, resL, cutV]
def f_cut : List At → Option (List At)
  | [.s l, .s [47]] => if l.length < 9223372036854775807 then some [.s (slA l), .s (slB l), .b (slH l)] else none
  | _ => none
def ct_cut : Ct := { args := [[.s], [.s]], res := [[.s], [.s], [.b]], F := f_cut, L := 1000000000000, A := 0, B := 0 }
theorem ctF_cut : ct_cut.F = f_cut := rfl
theorem ok_cut : ct_cut.ok Try.prog 79 := by
  intro s w vs als r hs hr hz hF
  obtain ⟨a1, a2, v, u, rfl, rfl, h1, h2⟩ := vs2 hr
  obtain ⟨l, rfl, rfl⟩ := repV_s.1 h1
  obtain ⟨m, rfl, rfl⟩ := repV_s.1 h2
  have hF' : f_cut [.s l, .s m] = some r := hF
  unfold f_cut at hF'
  split at hF'
  · rename_i l' e1
    simp only [List.cons.injEq, At.s.injEq, and_true] at e1
    obtain ⟨rfl, rfl⟩ := e1
    split at hF'
    · rename_i hl
      injection hF' with hF'; subst hF'
      refine (cut_any ⟨l.toArray⟩ w (by rw [← bs_len, bs_mk]; exact hl)).mono ?_
      rintro e w' ⟨he, hE⟩
      rw [bs_mk] at he
      exact ret3 (r1 := [At.s _]) (r2 := [At.s _]) (r3 := [At.b _]) rfl he (repV_s.2 ⟨_, rfl, rfl⟩) (repV_s.2 ⟨_, rfl, rfl⟩) (repV_b.2 ⟨_, rfl, rfl⟩) (fun x hx => by simp at hx; rcases hx with rfl | rfl | rfl <;> exact Nat.zero_le _) hE
    · cases hF'
  · cases hF'
end Go.Proofs.Ytnclpllmidlbbaa
