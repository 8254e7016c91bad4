/- The lexer, fourth part: what the tokens are; the program's comment and token. -/
import Derived.Test.YtdhomomiejebdaaLx3
namespace Go.Proofs.Ytdhomomiejebdaa
open Go.RowKit Go.V
set_option linter.unusedSimpArgs false
set_option linter.unusedVariables false

/-- the bytes before the next line feed -/
def comN : List UInt8 → Nat
  | [] => 0
  | c :: l => if c = 10 then 0 else comN l + 1
def blkB (c : Int) : Bool := decide (c = 32 ∨ c = 9 ∨ c = 13 ∨ c = 10)
/-- the bytes of blanks and comments -/
def skipN : Bool → List UInt8 → Nat
  | _, [] => 0
  | true, c :: l => if c = 10 then skipN false l + 1 else skipN true l + 1
  | false, c :: l => if blkB c.toNat = true then skipN false l + 1 else if c = 35 then skipN true l + 1 else 0
def sgnB (c : Int) : Bool := decide (c = 40 ∨ c = 41 ∨ c = 44 ∨ c = 59 ∨ c = 47 ∨ c = 45)
theorem kind_blank (c : Int) : decide (kindI c = 1) = blkB c := by
  unfold kindI blkB
  rw [decide_eq_decide]
  (repeat' split) <;> omega
theorem kind_sign (c : Int) : decide (kindI c = 4) = sgnB c := by
  unfold kindI sgnB
  rw [decide_eq_decide]
  (repeat' split) <;> omega
theorem kind_colon (c : Int) : decide (kindI c = 5) = decide (c = 58) := by
  unfold kindI
  rw [decide_eq_decide]
  (repeat' split) <;> omega
theorem kind_hash (c : Int) : decide (kindI c = 6) = decide (c = 35) := by
  unfold kindI
  rw [decide_eq_decide]
  (repeat' split) <;> omega
theorem byte_eq (c : UInt8) (n : Nat) (h : n < 256) : decide (c = UInt8.ofNat n) = decide ((c.toNat : Int) = n) := by
  rw [decide_eq_decide]
  constructor
  · intro e; subst e; simp; omega
  · intro e
    apply UInt8.toNat_inj.1
    simp; omega

/-- where the run that begins at a place ends -/
def runEnd (L : Bool) (s : ByteArray) (at' : Nat) : Nat := at' + endN L ((bs s).drop at')
/-- the token at a place: its error (0: none), kind and end -/
def tokE (s : ByteArray) (at' : Nat) : Nat :=
  if letB (byteAt s at').toNat = true then (if 20 < runEnd true s at' - at' then 4 else 0)
  else if digB (byteAt s at').toNat = true then (if 1 < runEnd false s at' - at' ∧ (byteAt s at').toNat = 48 then 5 else if 1000 < runEnd false s at' - at' then 4 else 0)
  else if sgnB (byteAt s at').toNat = true then 0
  else if (byteAt s at').toNat = 58 then (if at' + 1 < s.size ∧ (byteAt s (at' + 1)).toNat = 61 then 0 else 5)
  else 5
def tokK (s : ByteArray) (at' : Nat) : Nat :=
  if letB (byteAt s at').toNat = true then 1 else if digB (byteAt s at').toNat = true then 2 else 3
def tokZ (s : ByteArray) (at' : Nat) : Nat :=
  if letB (byteAt s at').toNat = true then runEnd true s at'
  else if digB (byteAt s at').toNat = true then runEnd false s at'
  else if (byteAt s at').toNat = 58 then at' + 2 else at' + 1
/-- a token's cells -/
def tokC (s : ByteArray) (t : Nat × Nat × Nat) : List Value := [.int .i64 t.1, .int .i64 t.2.1, .int .i64 t.2.2, .string (s.extract t.2.1 t.2.2)]

theorem com_step (s : ByteArray) (k : Nat) : comN ((bs s).drop k) = if (decide (k < s.size) && !decide (byteAt s k = 10)) = true then comN ((bs s).drop (k + 1)) + 1 else 0 := by
  by_cases h : k < s.size
  · rw [drop_byte s k h]
    by_cases h2 : byteAt s k = 10 <;> simp [comN, h, h2]
  · rw [drop_end s k h]; simp [comN, h]

set_option maxHeartbeats 1000000 in
theorem blank_any (c : Int) (w : World) :
    Calls Try.prog 26 #[.int .u8 c] w fun e w' => e = .returned (.bool (blkB c)) ∧ w = w' := by
  go_enter Try.func26, Try.ntmps26
  go_wp2
  all_goals go_ret
  all_goals (refine ⟨ret_bool ?_, rfl⟩; unfold blkB; (try rw [Bool.eq_iff_iff]); simp; try omega)

set_option maxHeartbeats 1000000 in
theorem comment_any (s : ByteArray) (n : Nat) (w : World) (hs : s.size ≤ maxLen) (hn : n ≤ s.size) :
    Calls Try.prog 21 #[.string s, .int .i64 n] w fun e w' => e = .returned (.int .i64 ↑(n + comN ((bs s).drop n))) ∧ w = w' := by
  unfold maxLen at hs
  refine calls_of_W (args := [.string s, .int .i64 n]) (rs := [.tmp 4]) (n := 18) Try.func21 rfl rfl rfl (by kernel_rfl) ?_
  refine W_rt (by kernel_rfl) (fun K hK => ?_)
  simp [go_sem]
  refine hK _ _ ?_; clear hK K
  refine W_seq (fun K1 hK1 => ?_)
  refine W_block ?_
  refine W_loop (fun m g w' => w' = w ∧ ∃ k : Nat, n ≤ k ∧ k ≤ s.size ∧ m = s.size - k ∧ g 0 = .string s ∧ g 1 = .int .i64 k ∧ k + comN ((bs s).drop k) = n + comN ((bs s).drop n)) (s.size - n) ?_ ?_
  · exact ⟨rfl, n, Nat.le_refl _, hn, rfl, rfl, rfl, rfl⟩
  · rintro m g w' ⟨rfl, k, h1, h2, rfl, g0, g1, hk⟩
    have hb10 := byte_eq (byteAt s k) 10 (by omega)
    refine W_seq (fun K2 hK2 => ?_)
    refine W_rtJ (fun g' w1 => w1 = w' ∧ g' 0 = .string s ∧ g' 1 = .int .i64 k ∧ g' 14 = .bool (decide (k < s.size) && !decide (byteAt s k = 10))) (by kernel_rfl) ?_ ?_
    · by_cases hlt : k < s.size
      · by_cases h10 : ((byteAt s k).toNat : Int) = 10
        · have e : byteAt s k = 10 := by simpa [h10] using hb10
          simp [go_sem, g0, g1, hlt, h10, e]
        · have e : ¬ byteAt s k = 10 := by simpa [h10] using hb10
          simp [go_sem, g0, g1, hlt, h10, e]
      · simp [go_sem, g0, g1, hlt]
    · rintro g' w1 ⟨rfl, g0, g1, g27⟩
      refine W_if g27 rfl ?_
      rw [com_step] at hk
      cases hb : (decide (k < s.size) && !decide (byteAt s k = 10)) with
      | true =>
        rw [hb, if_pos rfl] at hk
        have hlt : k < s.size := by simp at hb; exact hb.1
        refine W_skip (hK2 _ _ ?_); clear hK2 K2
        refine W_block ?_
        refine W_text (by kernel_rfl) (fun K hK => ?_)
        simp [go_sem, g0, g1]
        refine hK _ _ ⟨s.size - (k + 1), by omega, rfl, k + 1, by omega, by omega, rfl, ?_, ?_, by omega⟩
        all_goals simp (disch := omega) [go_sem, g0, g1, IntWalk.i64_in]
      | false =>
        rw [hb, if_neg (by simp)] at hk
        refine W_exit ?_
        repeat (first | refine thenG_exit ?_ | refine inBlock_other rfl ?_ | refine inBlock_same ?_)
        refine hK1 _ _ ?_; clear hK1 K1 hK2 K2
        refine W_rt (by kernel_rfl) (fun K hK => ?_)
        simp [go_sem, g0, g1]
        refine hK _ _ ?_; clear hK K
        refine W_ret ⟨trivial, ?_, rfl⟩
        simp [go_sem, pack, resL]
        omega

def tok0 : List Value := [.int .i64 0, .int .i64 0, .int .i64 0, .string ⟨#[]⟩]
/-- what the program's token returns -/
def tokR (s : ByteArray) (at' : Nat) : List Value := if tokE s at' = 0 then tokC s (tokK s at', at', tokZ s at') else tok0

theorem run_bound (L : Bool) (s : ByteArray) (k : Nat) (h : k ≤ s.size) : runEnd L s k ≤ s.size ∧ k ≤ runEnd L s k := by
  have := endN_le L ((bs s).drop k)
  rw [List.length_drop, bs_len] at this
  unfold runEnd; omega

theorem endR_any (s : ByteArray) (n : Nat) (L : Bool) (w : World) (hs : s.size ≤ maxLen) (hn : n ≤ s.size) :
    Calls Try.prog 18 #[.string s, .int .i64 n, .bool L] w fun e w' => e = .returned (.int .i64 ↑(runEnd L s n)) ∧ w = w' := end_any s n L w hs hn

set_option maxHeartbeats 1000000 in
theorem token_any (s : ByteArray) (n : Nat) (w : World) (hs : s.size ≤ 20000) (hn : n < s.size) :
    Calls Try.prog 22 #[.string s, .int .i64 n] w fun e w' => e = .returned (.tuple #[.agg (tokR s n).toArray, .int .i64 (tokE s n)]) ∧ Below w.heap.size w w' := by
  have hs' : s.size ≤ maxLen := by unfold maxLen; omega
  refine calls_of_W (args := [.string s, .int .i64 n]) (rs := [.cell 4 31, .tmp 5]) (n := 83) Try.func22 rfl rfl rfl (by kernel_rfl) ?_
  refine W_rt (by kernel_rfl) (fun K hK => ?_)
  simp [go_sem]
  refine hv_alloc (by simp [go_sem]) rfl ty_zeroC31 (fun w1 b1 hE1 hle1 hB1 => ?_)
  simp [go_sem]
  refine hK _ _ ?_; clear hK K
  have hX1 := hE1
  refine W_rt (by kernel_rfl) (fun K hK => ?_)
  simp [go_sem]
  refine hv_build #[.int .i64 0, .int .i64 n, .int .i64 (IntKind.i64.wrap (↑n + 1)), .string ⟨#[]⟩] (by simp [go_sem]) rfl ty_stZ31 [(1, .int .i64 n), (2, .int .i64 (IntKind.i64.wrap (↑n + 1)))] (by simp [go_sem]) rfl ?_
  simp [go_sem]
  refine hv_alloc (by simp [go_sem]) rfl ty_zeroC31 (fun w2 b2 hE2 hle2 hB2 => ?_)
  simp [go_sem]
  have hw1 : IntKind.i64.wrap (↑n + 1) = (n : Int) + 1 := IntWalk.i64_in _ (by omega)
  rw [hw1]
  refine hv_store (b := b2) (off := 0) [.int .i64 0, .int .i64 n, .int .i64 (↑n + 1), .string ⟨#[]⟩] (by simp [go_sem, hw1]) rfl (by simp [go_sem, hw1]) (by simp [go_sem, Value.cells, hw1]) ty_size31 hB2 (by simp) (by simp [Value.oneCell']) (by decide) (fun w3 hS3 hB3 => ?_)
  simp [putC] at hB3
  have hne : b1 ≠ b2 := by have := hB1.lt; omega
  have hb1 : w.heap.size ≤ b1 := hle1
  have hX : Below w.heap.size w w3 := (hE1.next hE2).nextS hS3 (by have := hE1.size; omega)
  have hA : Bx w3 b1 #[.int .i64 0, .int .i64 0, .int .i64 0, .string ⟨#[]⟩] 31 := (hB1.keep hE2).sto hS3 hne
  have hb2 : w.heap.size ≤ b2 := by have := hE1.size; omega
  clear hX1 hE1 hE2 hB1 hB2 hS3
  simp [go_sem]
  refine hK _ _ ?_; clear hK K
  have hlt' : (n : Int) < s.size := by omega
  refine W_seq (fun K1 hK1 => ?_)
  refine W_rt (by kernel_rfl) (fun K hK => ?_)
  simp [go_sem, hlt']
  refine hv_call (by simp [go_sem]) rfl Try.call17 (fun R hR => ?_)
  simp [go_sem]
  refine (kind_any _ _).mono ?_
  rintro e w4 ⟨rfl, rfl⟩
  refine ⟨_, rfl, hR _ _ ?_⟩
  clear hR R
  simp [go_sem]
  refine hK _ _ ?_; clear hK K
  -- what stands behind the switch
  have tail : ∀ (g : G) (w5 : World), Below w.heap.size w w5 → Bx w5 b1 #[.int .i64 0, .int .i64 0, .int .i64 0, .string ⟨#[]⟩] 31 → g 0 = .string s → g 1 = .int .i64 n → g 4 = .pointer (some ⟨b1, 0, none⟩) → g 6 = .pointer (some ⟨b2, 0, none⟩) →
      Bx w5 b2 #[.int .i64 (tokK s n), .int .i64 n, .int .i64 (tokZ s n), .string ⟨#[]⟩] 31 → tokE s n = 0 → n ≤ tokZ s n → tokZ s n ≤ s.size → K1 g w5 := by
    intro g w5 hX hA g0 g1 g4 g6 hB he hz1 hz2
    refine hK1 _ _ ?_
    have hz1' : (n : Int) ≤ tokZ s n := by omega
    have hz2' : (tokZ s n : Int) ≤ s.size := by omega
    have hb := hB.cell
    refine W_rt (by kernel_rfl) (fun K hK => ?_)
    simp [go_sem, g0, g1, g4, g6, hb, hz1', hz2']
    refine hv_store (b := b2) (off := 3) [.string (s.extract n (tokZ s n))] (by simp [go_sem, g0, g1, g4, g6, hb]) rfl (by simp [go_sem, g0, g1, g4, g6, hb]) (by simp [go_sem, Value.cells, g0, g1, g4, g6, hb]) ty_size9 hB (by simp) (by simp [Value.oneCell']) (by decide) (fun w6 hS6 hB6 => ?_)
    simp [putC] at hB6
    replace hA := hA.sto hS6 hne
    replace hX := hX.nextS hS6 hb2
    have hb := hB6.cell
    simp [go_sem]
    refine hK _ _ ?_; clear hK K
    refine W_rt (by kernel_rfl) (fun K hK => ?_)
    simp [go_sem, g6, hb, rowV, rowOk]
    refine hv_store (b := b1) (off := 0) [.int .i64 (tokK s n), .int .i64 n, .int .i64 (tokZ s n), .string (s.extract n (tokZ s n))] (by simp [go_sem, g4]) rfl (by simp [go_sem, g4]) (by simp [go_sem, Value.cells, g4]) ty_size31 hA (by simp) (by simp [Value.oneCell']) (by decide) (fun w7 hS7 hB7 => ?_)
    simp [putC] at hB7
    have ha := hB7.cell
    simp [go_sem]
    refine hK _ _ ?_; clear hK K
    refine W_ret ?_
    repeat (first | refine thenG_ret ?_ | refine inBlock_ret ?_)
    refine ⟨by simp [resOk, go_sem, rowOk, ha, g4], ?_, hX.nextS hS7 hb1⟩
    simp [go_sem, pack, resL, rowV, ha, g4, tokR, tokC, he]
  -- what an error returns
  have bad : ∀ (g : G) (w5 : World) (c : Int), Below w.heap.size w w5 → Bx w5 b1 #[.int .i64 0, .int .i64 0, .int .i64 0, .string ⟨#[]⟩] 31 → g 4 = .pointer (some ⟨b1, 0, none⟩) → g 5 = .int .i64 c → (tokE s n : Int) = c → tokE s n ≠ 0 →
      fnQ Try.prog [.cell 4 31, .tmp 5] (fun e w' => e = .returned (.tuple #[.agg (tokR s n).toArray, .int .i64 (tokE s n)]) ∧ Below w.heap.size w w') .ret g w5 := by
    intro g w5 c hX hA g4 g5 he hne0
    have ha := hA.cell
    refine ⟨by simp [resOk, go_sem, rowOk, ha, g4, tok0], ?_, hX⟩
    simp [go_sem, pack, resL, rowV, ha, g4, g5, tokR, tok0, he, hne0]
  refine W_block ?_
  refine W_rt (by kernel_rfl) (fun K hK => ?_)
  simp [go_sem]
  refine hK _ _ ?_; clear hK K
  have hkl := kind_letter (byteAt s n).toNat
  have hkd := kind_digit (byteAt s n).toNat
  have hks := kind_sign (byteAt s n).toNat
  have hkc := kind_colon (byteAt s n).toNat
  by_cases k2 : kindI ↑(byteAt s n).toNat = 2
  · have hlet : letB (byteAt s n).toNat = true := by rw [← hkl]; simp [k2]
    obtain ⟨hr1, hr2⟩ := run_bound true s n (by omega)
    have hwz : IntKind.i64.wrap (↑(runEnd true s n) - ↑n) = (runEnd true s n : Int) - n := IntWalk.i64_in _ (by omega)
    refine W_if (by simp [go_sem, k2]; rfl) rfl ?_
    refine W_rt (by kernel_rfl) (fun K hK => ?_)
    simp [go_sem]
    refine hv_call (by simp [go_sem]) rfl Try.call18 (fun R hR => ?_)
    simp [go_sem]
    refine (endR_any s n true _ hs' (by omega)).mono ?_
    rintro e w5 ⟨rfl, rfl⟩
    refine ⟨_, rfl, hR _ _ ?_⟩
    clear hR R
    simp [go_sem]
    refine hv_store (b := b2) (off := 0) [.int .i64 1] (by simp [go_sem]) rfl (by simp [go_sem]) (by simp [go_sem, Value.cells]) ty_size3 hB3 (by simp) (by simp [Value.oneCell']) (by decide) (fun w5 hS5 hB5 => ?_)
    simp [putC] at hB5
    replace hA := hA.sto hS5 hne
    replace hX := hX.nextS hS5 hb2
    simp [go_sem]
    refine hv_store (b := b2) (off := 2) [.int .i64 (runEnd true s n)] (by simp [go_sem]) rfl (by simp [go_sem]) (by simp [go_sem, Value.cells]) ty_size3 hB5 (by simp) (by simp [Value.oneCell']) (by decide) (fun w6 hS6 hB6 => ?_)
    simp [putC] at hB6
    replace hA := hA.sto hS6 hne
    replace hX := hX.nextS hS6 hb2
    have hb := hB6.cell
    simp [go_sem]
    refine hK _ _ ?_; clear hK K
    refine W_rt (by kernel_rfl) (fun K hK => ?_)
    simp [go_sem, hb]
    refine hK _ _ ?_; clear hK K
    by_cases hbig : 20 < runEnd true s n - n
    · have hbig' : (20 : Int) < ↑(runEnd true s n) - ↑n := by omega
      refine W_if (by simp [go_sem, hwz, hbig']; rfl) rfl ?_
      refine W_rt (by kernel_rfl) (fun K hK => ?_)
      simp [go_sem]
      refine hv_build #[.int .i64 0, .int .i64 0, .int .i64 0, .string ⟨#[]⟩] (by simp [go_sem]) rfl ty_stZ31 [] (by simp [go_sem]) rfl ?_
      simp [go_sem]
      refine hv_store (b := b1) (off := 0) [.int .i64 0, .int .i64 0, .int .i64 0, .string ⟨#[]⟩] (by simp [go_sem]) rfl (by simp [go_sem]) (by simp [go_sem, Value.cells]) ty_size31 hA (by simp) (by simp [Value.oneCell']) (by decide) (fun w7 hS7 hB7 => ?_)
      simp [putC] at hB7
      simp [go_sem]
      refine hK _ _ ?_; clear hK K
      refine W_ret ?_
      repeat (first | refine thenG_ret ?_ | refine inBlock_ret ?_)
      exact bad _ _ 4 (hX.nextS hS7 hb1) hB7 (by simp [go_sem]) (by simp [go_sem]) (by simp [tokE, hlet, hbig]) (by simp [tokE, hlet, hbig])
    · have hbig' : ¬ (20 : Int) < ↑(runEnd true s n) - ↑n := by omega
      refine W_if (by simp [go_sem, hwz, hbig']; rfl) rfl ?_
      refine W_skip ?_
      refine tail _ _ hX hA (by simp [go_sem]) (by simp [go_sem]) (by simp [go_sem]) (by simp [go_sem]) ?_ (by simp [tokE, hlet, hbig]) (by simp [tokZ, hlet]; omega) (by simp [tokZ, hlet]; omega)
      simpa [tokK, tokZ, hlet] using hB6
  · have hlet : letB (byteAt s n).toNat = false := by rw [← hkl]; simp [k2]
    refine W_if (by simp [go_sem, k2]; rfl) rfl ?_
    refine W_rt (by kernel_rfl) (fun K hK => ?_)
    simp [go_sem]
    refine hK _ _ ?_; clear hK K
    by_cases k3 : kindI ↑(byteAt s n).toNat = 3
    · have hdig : digB (byteAt s n).toNat = true := by rw [← hkd]; simp [k3]
      obtain ⟨hr1, hr2⟩ := run_bound false s n (by omega)
      have hwz : IntKind.i64.wrap (↑(runEnd false s n) - ↑n) = (runEnd false s n : Int) - n := IntWalk.i64_in _ (by omega)
      refine W_if (by simp [go_sem, k3]; rfl) rfl ?_
      refine W_rt (by kernel_rfl) (fun K hK => ?_)
      simp [go_sem]
      refine hv_call (by simp [go_sem]) rfl Try.call18 (fun R hR => ?_)
      simp [go_sem]
      refine (endR_any s n false _ hs' (by omega)).mono ?_
      rintro e w5 ⟨rfl, rfl⟩
      refine ⟨_, rfl, hR _ _ ?_⟩
      clear hR R
      simp [go_sem]
      refine hv_store (b := b2) (off := 0) [.int .i64 2] (by simp [go_sem]) rfl (by simp [go_sem]) (by simp [go_sem, Value.cells]) ty_size3 hB3 (by simp) (by simp [Value.oneCell']) (by decide) (fun w5 hS5 hB5 => ?_)
      simp [putC] at hB5
      replace hA := hA.sto hS5 hne
      replace hX := hX.nextS hS5 hb2
      simp [go_sem]
      refine hv_store (b := b2) (off := 2) [.int .i64 (runEnd false s n)] (by simp [go_sem]) rfl (by simp [go_sem]) (by simp [go_sem, Value.cells]) ty_size3 hB5 (by simp) (by simp [Value.oneCell']) (by decide) (fun w6 hS6 hB6 => ?_)
      simp [putC] at hB6
      replace hA := hA.sto hS6 hne
      replace hX := hX.nextS hS6 hb2
      have hb := hB6.cell
      simp [go_sem]
      refine hK _ _ ?_; clear hK K
      have h48 : decide (byteAt s n = 48) = decide ((byteAt s n).toNat = 48) := by
        rw [decide_eq_decide]
        constructor
        · intro e; rw [e]; rfl
        · intro e; exact UInt8.toNat_inj.1 e
      refine W_seq (fun K2 hK2 => ?_)
      refine W_rtJ (fun g w6' => w6' = w6 ∧ g 0 = .string s ∧ g 1 = .int .i64 n ∧ g 4 = .pointer (some ⟨b1, 0, none⟩) ∧ g 6 = .pointer (some ⟨b2, 0, none⟩) ∧ g 46 = .bool (decide (1 < runEnd false s n - n) && decide ((byteAt s n).toNat = 48))) (by kernel_rfl) ?_ ?_
      · by_cases h1 : 1 < runEnd false s n - n
        · have h1' : (1 : Int) < ↑(runEnd false s n) - ↑n := by omega
          simp [go_sem, hb, hwz, h1', h1, hlt']
          omega
        · have h1' : ¬ (1 : Int) < ↑(runEnd false s n) - ↑n := by omega
          simp [go_sem, hb, hwz, h1', h1]
      · rintro g w6' ⟨rfl, g0, g1, g4, g6, g46⟩
        refine W_if g46 rfl ?_
        cases hz : (decide (1 < runEnd false s n - n) && decide ((byteAt s n).toNat = 48)) with
        | true =>
          have he : tokE s n = 5 := by simp [tokE, hlet, hdig]; simp at hz; simp [hz]
          refine W_rt (by kernel_rfl) (fun K hK => ?_)
          simp [go_sem]
          refine hv_build #[.int .i64 0, .int .i64 0, .int .i64 0, .string ⟨#[]⟩] (by simp [go_sem]) rfl ty_stZ31 [] (by simp [go_sem]) rfl ?_
          simp [go_sem]
          refine hv_store (b := b1) (off := 0) [.int .i64 0, .int .i64 0, .int .i64 0, .string ⟨#[]⟩] (by simp [go_sem, g4]) rfl (by simp [go_sem, g4]) (by simp [go_sem, Value.cells, g4]) ty_size31 hA (by simp) (by simp [Value.oneCell']) (by decide) (fun w7 hS7 hB7 => ?_)
          simp [putC] at hB7
          simp [go_sem]
          refine hK _ _ ?_; clear hK K
          refine W_ret ?_
          repeat (first | refine thenG_ret ?_ | refine inBlock_ret ?_)
          exact bad _ _ 5 (hX.nextS hS7 hb1) hB7 (by simp [go_sem, g4]) (by simp [go_sem]) (by rw [he]; rfl) (by rw [he]; decide)
        | false =>
          refine W_skip (hK2 _ _ ?_)
          refine W_rt (by kernel_rfl) (fun K hK => ?_)
          simp [go_sem, g1, g6, hb]
          refine hK _ _ ?_; clear hK K
          have hz' : ¬ (1 < runEnd false s n - n ∧ (byteAt s n).toNat = 48) := by simp at hz; intro ⟨a, b⟩; exact hz a b
          by_cases hbig : 1000 < runEnd false s n - n
          · have he : tokE s n = 4 := by simp [tokE, hlet, hdig, hz', hbig]
            have hbig' : (1000 : Int) < ↑(runEnd false s n) - ↑n := by omega
            refine W_if (by simp [go_sem, hwz, hbig']; rfl) rfl ?_
            refine W_rt (by kernel_rfl) (fun K hK => ?_)
            simp [go_sem]
            refine hv_build #[.int .i64 0, .int .i64 0, .int .i64 0, .string ⟨#[]⟩] (by simp [go_sem]) rfl ty_stZ31 [] (by simp [go_sem]) rfl ?_
            simp [go_sem]
            refine hv_store (b := b1) (off := 0) [.int .i64 0, .int .i64 0, .int .i64 0, .string ⟨#[]⟩] (by simp [go_sem, g4]) rfl (by simp [go_sem, g4]) (by simp [go_sem, Value.cells, g4]) ty_size31 hA (by simp) (by simp [Value.oneCell']) (by decide) (fun w7 hS7 hB7 => ?_)
            simp [putC] at hB7
            simp [go_sem]
            refine hK _ _ ?_; clear hK K
            refine W_ret ?_
            repeat (first | refine thenG_ret ?_ | refine inBlock_ret ?_)
            exact bad _ _ 4 (hX.nextS hS7 hb1) hB7 (by simp [go_sem, g4]) (by simp [go_sem]) (by rw [he]; rfl) (by rw [he]; decide)
          · have he : tokE s n = 0 := by simp [tokE, hlet, hdig, hz', hbig]
            have hbig' : ¬ (1000 : Int) < ↑(runEnd false s n) - ↑n := by omega
            refine W_if (by simp [go_sem, hwz, hbig']; rfl) rfl ?_
            refine W_skip ?_
            refine tail _ _ hX hA (by simp [go_sem, g0]) (by simp [go_sem, g1]) (by simp [go_sem, g4]) (by simp [go_sem, g6]) ?_ he (by simp [tokZ, hlet, hdig]; omega) (by simp [tokZ, hlet, hdig]; omega)
            simpa [tokK, tokZ, hlet, hdig] using hB6
    · have hdig : digB (byteAt s n).toNat = false := by rw [← hkd]; simp [k3]
      refine W_if (by simp [go_sem, k3]; rfl) rfl ?_
      refine W_rt (by kernel_rfl) (fun K hK => ?_)
      simp [go_sem]
      refine hK _ _ ?_; clear hK K
      by_cases k4 : kindI ↑(byteAt s n).toNat = 4
      · have hsg : sgnB (byteAt s n).toNat = true := by rw [← hks]; simp [k4]
        have h58 : (byteAt s n).toNat ≠ 58 := by
          intro e
          rw [e] at k4
          exact absurd k4 (by decide)
        refine W_if (by simp [go_sem, k4]; rfl) rfl ?_
        refine W_text (by kernel_rfl) (fun K hK => ?_)
        simp [go_sem]
        refine hv_store (b := b2) (off := 0) [.int .i64 3] (by simp [go_sem]) rfl (by simp [go_sem]) (by simp [go_sem, Value.cells]) ty_size3 hB3 (by simp) (by simp [Value.oneCell']) (by decide) (fun w5 hS5 hB5 => ?_)
        simp [putC] at hB5
        replace hA := hA.sto hS5 hne
        replace hX := hX.nextS hS5 hb2
        simp [go_sem]
        refine hK _ _ ?_; clear hK K
        refine tail _ _ hX hA (by simp [go_sem]) (by simp [go_sem]) (by simp [go_sem]) (by simp [go_sem]) ?_ (by simp [tokE, hlet, hdig, hsg]) (by simp [tokZ, hlet, hdig, h58]) (by simp [tokZ, hlet, hdig, h58]; omega)
        simpa [tokK, tokZ, hlet, hdig, h58] using hB5
      · have hsg : sgnB (byteAt s n).toNat = false := by rw [← hks]; simp [k4]
        refine W_if (by simp [go_sem, k4]; rfl) rfl ?_
        refine W_rt (by kernel_rfl) (fun K hK => ?_)
        simp [go_sem]
        refine hK _ _ ?_; clear hK K
        by_cases k5 : kindI ↑(byteAt s n).toNat = 5
        · have h58 : (byteAt s n).toNat = 58 := by
            have : decide (((byteAt s n).toNat : Int) = 58) = true := by rw [← hkc]; simp [k5]
            simp at this; omega
          have hw2 : IntKind.i64.wrap (↑n + 2) = (n : Int) + 2 := IntWalk.i64_in _ (by omega)
          have hn2 : ((n : Int) + 1).toNat = n + 1 := by omega
          refine W_if (by simp [go_sem, k5]; rfl) rfl ?_
          refine W_rt (by kernel_rfl) (fun K hK => ?_)
          simp [go_sem, hw2]
          refine hv_store (b := b2) (off := 0) [.int .i64 3] (by simp [go_sem]) rfl (by simp [go_sem]) (by simp [go_sem, Value.cells]) ty_size3 hB3 (by simp) (by simp [Value.oneCell']) (by decide) (fun w5 hS5 hB5 => ?_)
          simp [putC] at hB5
          replace hA := hA.sto hS5 hne
          replace hX := hX.nextS hS5 hb2
          simp [go_sem]
          refine hv_store (b := b2) (off := 2) [.int .i64 (↑n + 2)] (by simp [go_sem]) rfl (by simp [go_sem]) (by simp [go_sem, Value.cells]) ty_size3 hB5 (by simp) (by simp [Value.oneCell']) (by decide) (fun w6 hS6 hB6 => ?_)
          simp [putC] at hB6
          replace hA := hA.sto hS6 hne
          replace hX := hX.nextS hS6 hb2
          simp [go_sem]
          refine hK _ _ ?_; clear hK K
          have h61 : decide (byteAt s (n + 1) = 61) = decide ((byteAt s (n + 1)).toNat = 61) := by
            rw [decide_eq_decide]
            constructor
            · intro e; rw [e]; rfl
            · intro e; exact UInt8.toNat_inj.1 e
          refine W_rtJ (fun g w6' => w6' = w6 ∧ g 0 = .string s ∧ g 1 = .int .i64 n ∧ g 4 = .pointer (some ⟨b1, 0, none⟩) ∧ g 6 = .pointer (some ⟨b2, 0, none⟩) ∧ g 74 = .bool (!(decide (n + 1 < s.size) && decide ((byteAt s (n + 1)).toNat = 61)))) (by kernel_rfl) ?_ ?_
          · by_cases h1 : n + 1 < s.size
            · have h1' : ¬ (s.size : Int) ≤ ↑n + 1 := by omega
              have h1'' : (n : Int) + 1 < s.size := by omega
              have h0' : (0 : Int) ≤ n + 1 := by omega
              simp [go_sem, hw1, h1', h1, h1'', hn2, h0']
              omega
            · have h1' : (s.size : Int) ≤ ↑n + 1 := by omega
              simp [go_sem, hw1, h1', h1]
          · rintro g w6' ⟨rfl, g0, g1, g4, g6, g74⟩
            refine W_if g74 rfl ?_
            cases hz : (decide (n + 1 < s.size) && decide ((byteAt s (n + 1)).toNat = 61)) with
            | false =>
              have hz' : ¬ (n + 1 < s.size ∧ (byteAt s (n + 1)).toNat = 61) := by simp at hz; intro ⟨a, b⟩; exact hz a b
              have he : tokE s n = 5 := by simp only [tokE, hlet, hdig, hsg, Bool.false_eq_true, if_false]; rw [if_pos h58]; simp [hz']
              refine W_rt (by kernel_rfl) (fun K hK => ?_)
              simp [go_sem]
              refine hv_build #[.int .i64 0, .int .i64 0, .int .i64 0, .string ⟨#[]⟩] (by simp [go_sem]) rfl ty_stZ31 [] (by simp [go_sem]) rfl ?_
              simp [go_sem]
              refine hv_store (b := b1) (off := 0) [.int .i64 0, .int .i64 0, .int .i64 0, .string ⟨#[]⟩] (by simp [go_sem, g4]) rfl (by simp [go_sem, g4]) (by simp [go_sem, Value.cells, g4]) ty_size31 hA (by simp) (by simp [Value.oneCell']) (by decide) (fun w7 hS7 hB7 => ?_)
              simp [putC] at hB7
              simp [go_sem]
              refine hK _ _ ?_; clear hK K
              refine W_ret ?_
              repeat (first | refine thenG_ret ?_ | refine inBlock_ret ?_)
              exact bad _ _ 5 (hX.nextS hS7 hb1) hB7 (by simp [go_sem, g4]) (by simp [go_sem]) (by rw [he]; rfl) (by rw [he]; decide)
            | true =>
              have hz' : n + 1 < s.size ∧ (byteAt s (n + 1)).toNat = 61 := by simpa using hz
              have he : tokE s n = 0 := by simp only [tokE, hlet, hdig, hsg, Bool.false_eq_true, if_false]; rw [if_pos h58]; simp [hz']
              have hzz : tokZ s n = n + 2 := by simp only [tokZ, hlet, hdig, Bool.false_eq_true, if_false]; rw [if_pos h58]
              have hkk : tokK s n = 3 := by simp only [tokK, hlet, hdig, Bool.false_eq_true, if_false]
              refine W_skip ?_
              refine tail _ _ hX hA g0 g1 g4 g6 ?_ he (by rw [hzz]; omega) (by rw [hzz]; omega)
              rw [hzz, hkk]; simpa using hB6
        · have h58 : ¬ (byteAt s n).toNat = 58 := by
            intro e
            rw [e] at k5
            exact absurd rfl k5
          have he : tokE s n = 5 := by simp [tokE, hlet, hdig, hsg, h58]
          refine W_if (by simp [go_sem, k5]; rfl) rfl ?_
          refine W_rt (by kernel_rfl) (fun K hK => ?_)
          simp [go_sem]
          refine hv_build #[.int .i64 0, .int .i64 0, .int .i64 0, .string ⟨#[]⟩] (by simp [go_sem]) rfl ty_stZ31 [] (by simp [go_sem]) rfl ?_
          simp [go_sem]
          refine hv_store (b := b1) (off := 0) [.int .i64 0, .int .i64 0, .int .i64 0, .string ⟨#[]⟩] (by simp [go_sem]) rfl (by simp [go_sem]) (by simp [go_sem, Value.cells]) ty_size31 hA (by simp) (by simp [Value.oneCell']) (by decide) (fun w7 hS7 hB7 => ?_)
          simp [putC] at hB7
          simp [go_sem]
          refine hK _ _ ?_; clear hK K
          refine W_ret ?_
          repeat (first | refine thenG_ret ?_ | refine inBlock_ret ?_)
          exact bad _ _ 5 (hX.nextS hS7 hb1) hB7 (by simp [go_sem]) (by simp [go_sem]) (by rw [he]; rfl) (by rw [he]; decide)
end Go.Proofs.Ytdhomomiejebdaa
