/- The lexer's specification: word and sign. -/
import Derived.Test.YtdhomomiejebdaaLxF
namespace Go.Proofs.Ytdhomomiejebdaa
open Go.RowKit Go.V Go.ChangeMaps
set_option linter.unusedSimpArgs false
set_option linter.unusedVariables false

/-- the error of a sign -/
def sgnE (s : ByteArray) (q : Nat) : Nat :=
  if sgnB (byteAt s q).toNat = true then 0 else if (byteAt s q).toNat = 58 then (if q + 1 < s.size ∧ (byteAt s (q + 1)).toNat = 61 then 0 else 5) else 5
def sgnZ (s : ByteArray) (q : Nat) : Nat := if (byteAt s q).toNat = 58 then q + 2 else q + 1
def TokP (s : ByteArray) (w : World) (K q z : Nat) (er : Nat) (e : Ending) (w' : World) : Prop :=
  ∃ cs : List Value, e = .returned (.tuple #[.agg cs.toArray, .int .i64 er]) ∧ cs.length = 4 ∧ (∀ v ∈ cs, v.oneCell' = true) ∧ (er = 0 → cs = tokC s (K, q, z)) ∧ Below w.heap.size w w'

theorem nat_succ (n : Nat) : ((n : Int) + 1).toNat = n + 1 := by omega
set_option maxHeartbeats 2000000 in
theorem sign_any (s : ByteArray) (n : Nat) (w : World) (hs : s.size ≤ 20000) (hn : n < s.size) :
    Calls Try.prog 24 #[.string s, .int .i64 n] w (TokP s w 3 n (sgnZ s n) (sgnE s n)) := by
  have hs' : s.size ≤ maxLen := by unfold maxLen; omega
  refine calls_of_W (args := [.string s, .int .i64 n]) (rs := [.cell 4 31, .tmp 5]) (n := 48) Try.func24 rfl rfl rfl (by kernel_rfl) ?_
  refine W_rt (by kernel_rfl) (fun K hK => ?_)
  simp [go_sem]
  refine hv_alloc (by simp [go_sem]) rfl ty_zeroC31 (fun w1 b1 hE1 hle1 hB1 => ?_)
  simp [go_sem]
  refine hK _ _ ?_; clear hK K
  refine W_rt (by kernel_rfl) (fun K hK => ?_)
  simp [go_sem]
  refine hv_build #[.int .i64 3, .int .i64 n, .int .i64 (IntKind.i64.wrap (↑n + 1)), .string ⟨#[]⟩] (by simp [go_sem]) rfl ty_stZ31 [(0, .int .i64 3), (1, .int .i64 n), (2, .int .i64 (IntKind.i64.wrap (↑n + 1)))] (by simp [go_sem]) rfl ?_
  simp [go_sem]
  refine hv_alloc (by simp [go_sem]) rfl ty_zeroC31 (fun w2 b2 hE2 hle2 hB2 => ?_)
  simp [go_sem]
  have hw1 : IntKind.i64.wrap (↑n + 1) = (n : Int) + 1 := IntWalk.i64_in _ (by omega)
  rw [hw1]
  refine hv_store (b := b2) (off := 0) [.int .i64 3, .int .i64 n, .int .i64 (↑n + 1), .string ⟨#[]⟩] (by simp [go_sem, hw1]) rfl (by simp [go_sem, hw1]) (by simp [go_sem, Value.cells, hw1]) ty_size31 hB2 (by simp) (by simp [Value.oneCell']) (by decide) (fun w3 hS3 hB3 => ?_)
  simp [putC] at hB3
  have hne : b1 ≠ b2 := by have := hB1.lt; omega
  have hb1 : w.heap.size ≤ b1 := hle1
  have hX : Below w.heap.size w w3 := (hE1.next hE2).nextS hS3 (by have := hE1.size; omega)
  have hA : Bx w3 b1 #[.int .i64 0, .int .i64 0, .int .i64 0, .string ⟨#[]⟩] 31 := (hB1.keep hE2).sto hS3 hne
  have hb2 : w.heap.size ≤ b2 := by have := hE1.size; omega
  clear hE1 hE2 hB1 hB2 hS3
  simp [go_sem]
  refine hK _ _ ?_; clear hK K
  have hlt' : (n : Int) < s.size := by omega
  refine W_seq (fun K1 hK1 => ?_)
  refine W_rt (by kernel_rfl) (fun K hK => ?_)
  simp [go_sem, hn, hlt']
  refine hK _ _ ?_; clear hK K
  -- an error: what stands in the block is returned
  have bad : ∀ (g : G) (w5 : World) (z : Int), Below w.heap.size w w5 → Bx w5 b1 #[.int .i64 0, .int .i64 0, .int .i64 0, .string ⟨#[]⟩] 31 → Bx w5 b2 #[.int .i64 3, .int .i64 n, .int .i64 z, .string ⟨#[]⟩] 31 →
      g 4 = .pointer (some ⟨b1, 0, none⟩) → g 6 = .pointer (some ⟨b2, 0, none⟩) → sgnE s n = 5 →
      ∀ (K : G → World → Prop), (∀ (g' : G) (w6 : World), Below w.heap.size w w6 → Bx w6 b1 #[.int .i64 3, .int .i64 n, .int .i64 z, .string ⟨#[]⟩] 31 → g' 4 = .pointer (some ⟨b1, 0, none⟩) → g' 5 = .int .i64 5 → K g' w6) → True := fun _ _ _ _ _ _ _ _ _ _ _ => trivial
  have ret : ∀ (g : G) (w5 : World) (K z : Int) (t : ByteArray) (er : Nat), Below w.heap.size w w5 → Bx w5 b1 #[.int .i64 K, .int .i64 n, .int .i64 z, .string t] 31 → g 4 = .pointer (some ⟨b1, 0, none⟩) → g 5 = .int .i64 er → er = sgnE s n →
      (er = 0 → K = 3 ∧ z = sgnZ s n ∧ t = s.extract n (sgnZ s n)) →
      fnQ Try.prog [.cell 4 31, .tmp 5] (TokP s w 3 n (sgnZ s n) (sgnE s n)) .ret g w5 := by
    intro g w5 K z t er hX hA g4 g5 he h0
    have ha := hA.cell
    refine ⟨by simp [resOk, go_sem, rowOk, ha, g4], [.int .i64 K, .int .i64 n, .int .i64 z, .string t], ?_, rfl, ?_, ?_, hX⟩
    · simp [go_sem, pack, resL, rowV, ha, g4, g5, he]
    · intro v hv; simp at hv; rcases hv with rfl | rfl | rfl | rfl <;> rfl
    · intro h; obtain ⟨rfl, rfl, rfl⟩ := h0 (he.trans h); rfl
  clear bad
  -- what stands behind the switch
  have tail : ∀ (g : G) (w5 : World), Below w.heap.size w w5 → Bx w5 b1 #[.int .i64 0, .int .i64 0, .int .i64 0, .string ⟨#[]⟩] 31 → g 0 = .string s → g 1 = .int .i64 n → g 4 = .pointer (some ⟨b1, 0, none⟩) → g 6 = .pointer (some ⟨b2, 0, none⟩) →
      Bx w5 b2 #[.int .i64 3, .int .i64 n, .int .i64 (sgnZ s n), .string ⟨#[]⟩] 31 → sgnE s n = 0 → n ≤ sgnZ s n → sgnZ s n ≤ s.size → K1 g w5 := by
    intro g w5 hX hA g0 g1 g4 g6 hB he hz1 hz2
    refine hK1 _ _ ?_
    have hz1' : (n : Int) ≤ sgnZ s n := by omega
    have hz2' : (sgnZ s n : Int) ≤ s.size := by omega
    have hb := hB.cell
    refine W_rt (by kernel_rfl) (fun K hK => ?_)
    simp [go_sem, g0, g1, g4, g6, hb, hz1', hz2']
    refine hv_store (b := b2) (off := 3) [.string (s.extract n (sgnZ s n))] (by simp [go_sem, g0, g1, g4, g6, hb]) rfl (by simp [go_sem, g0, g1, g4, g6, hb]) (by simp [go_sem, Value.cells, g0, g1, g4, g6, hb]) ty_size9 hB (by simp) (by simp [Value.oneCell']) (by decide) (fun w6 hS6 hB6 => ?_)
    simp [putC] at hB6
    replace hA := hA.sto hS6 hne
    replace hX := hX.nextS hS6 hb2
    have hb := hB6.cell
    simp [go_sem]
    refine hK _ _ ?_; clear hK K
    refine W_rt (by kernel_rfl) (fun K hK => ?_)
    simp [go_sem, g6, hb, rowV, rowOk]
    refine hv_store (b := b1) (off := 0) [.int .i64 3, .int .i64 n, .int .i64 (sgnZ s n), .string (s.extract n (sgnZ s n))] (by simp [go_sem, g4]) rfl (by simp [go_sem, g4]) (by simp [go_sem, Value.cells, g4]) ty_size31 hA (by simp) (by simp [Value.oneCell']) (by decide) (fun w7 hS7 hB7 => ?_)
    simp [putC] at hB7
    simp [go_sem]
    refine hK _ _ ?_; clear hK K
    refine W_ret ?_
    repeat (first | refine thenG_ret ?_ | refine inBlock_ret ?_)
    refine ret _ _ 3 (sgnZ s n) (s.extract n (sgnZ s n)) 0 (hX.nextS hS7 hb1) hB7 (by simp [go_sem, g4]) (by simp [go_sem]) he.symm (fun _ => ⟨rfl, rfl, rfl⟩)
  refine W_block ?_
  refine W_seq (fun K2 hK2 => ?_)
  have join : ∀ (g' : G) (w5 : World), w5 = w3 → g' 0 = .string s → g' 1 = .int .i64 n → g' 4 = .pointer (some ⟨b1, 0, none⟩) → g' 6 = .pointer (some ⟨b2, 0, none⟩) → g' 13 = .int .u8 (byteAt s n).toNat → g' 15 = .bool (sgnB (byteAt s n).toNat) → K2 g' w5 := by
    rintro g' w5 rfl g0 g1 g4 g6 g13 g15
    refine hK2 _ _ ?_; clear hK2 K2
    refine W_if g15 rfl ?_
    cases hsg : sgnB (byteAt s n).toNat with
    | true =>
      have n58 := sgn_58 _ hsg
      have ez : sgnZ s n = n + 1 := by unfold sgnZ; rw [if_neg n58]
      have ee : sgnE s n = 0 := by unfold sgnE; rw [if_pos hsg]
      refine W_skip ?_
      refine tail _ _ hX hA g0 g1 g4 g6 ?_ ee (by omega) (by omega)
      rw [ez]; exact hB3
    | false =>
      refine W_rt (by kernel_rfl) (fun K hK => ?_)
      simp [go_sem, g13]
      refine hK _ _ ?_; clear hK K
      by_cases n58 : ((byteAt s n).toNat : Int) = 58
      · have m58 : (byteAt s n).toNat = 58 := by omega
        have ez : sgnZ s n = n + 2 := by unfold sgnZ; rw [if_pos m58]
        have hw2 : IntKind.i64.wrap (↑n + 2) = (n : Int) + 2 := IntWalk.i64_in _ (by omega)
        refine W_if (by simp [go_sem, n58, m58]; rfl) rfl ?_
        refine W_rt (by kernel_rfl) (fun K hK => ?_)
        simp [go_sem, g1, g6]
        rw [hw2]
        refine hv_store (b := b2) (off := 2) [.int .i64 (↑n + 2)] (by simp [go_sem, g1, g6, hw2]) rfl (by simp [go_sem, g1, g6, hw2]) (by simp [go_sem, Value.cells, g1, g6, hw2]) ty_size3 hB3 (by simp) (by simp [Value.oneCell']) (by decide) (fun w5 hS5 hB5 => ?_)
        simp [putC] at hB5
        replace hA := hA.sto hS5 hne
        replace hX := hX.nextS hS5 hb2
        have hb := hB5.cell
        simp [go_sem]
        refine hK _ _ ?_; clear hK K
        have sz : (s.size : Int) < ↑n + 2 ↔ ¬ n + 1 < s.size := by omega
        refine W_rtJ (fun g w6' => w6' = w5 ∧ g 0 = .string s ∧ g 1 = .int .i64 n ∧ g 4 = .pointer (some ⟨b1, 0, none⟩) ∧ g 6 = .pointer (some ⟨b2, 0, none⟩) ∧ g 38 = .bool (!decide (n + 1 < s.size ∧ (byteAt s (n + 1)).toNat = 61))) (by kernel_rfl) ?_ ?_
        · by_cases h1 : n + 1 < s.size
          · have h1' : ¬ (s.size : Int) < ↑n + 2 := by omega
            have h2' : (n : Int) + 1 < s.size := by omega
            have h3' : (0 : Int) ≤ ↑n + 1 := by omega
            by_cases n61 : ((byteAt s (n + 1)).toNat : Int) = 61
            · have m61 : (byteAt s (n + 1)).toNat = 61 := by omega
              simp [go_sem, g0, g1, g4, g6, hb, h1, h1', h2', h3', hw1, hw2, n61, m61, nat_succ]
            · have m61 : ¬ (byteAt s (n + 1)).toNat = 61 := by omega
              simp [go_sem, g0, g1, g4, g6, hb, h1, h1', h2', h3', hw1, hw2, n61, m61, nat_succ]
          · have h1' : (s.size : Int) < ↑n + 2 := by omega
            simp [go_sem, g0, g1, g4, g6, hb, h1, h1', hw2]
        · clear g0 g1 g4 g6 g13 g15
          rintro g' w6' ⟨rfl, g0, g1, g4, g6, g38⟩
          refine W_if g38 rfl ?_
          by_cases hc : n + 1 < s.size ∧ (byteAt s (n + 1)).toNat = 61
          · have ee : sgnE s n = 0 := by simp only [sgnE, hsg, Bool.false_eq_true, if_false]; rw [if_pos m58, if_pos hc]
            simp only [decide_eq_true hc, Bool.not_true]
            refine W_skip ?_
            refine tail _ _ hX hA g0 g1 g4 g6 ?_ ee (by omega) (by omega)
            rw [ez]; exact hB5
          · have ee : sgnE s n = 5 := by simp only [sgnE, hsg, Bool.false_eq_true, if_false]; rw [if_pos m58, if_neg hc]
            simp only [decide_eq_false hc, Bool.not_false]
            refine W_rt (by kernel_rfl) (fun K hK => ?_)
            simp [go_sem, g6, hb, rowV, rowOk]
            refine hv_store (b := b1) (off := 0) [.int .i64 3, .int .i64 n, .int .i64 (↑n + 2), .string ⟨#[]⟩] (by simp [go_sem, g4]) rfl (by simp [go_sem, g4]) (by simp [go_sem, Value.cells, g4]) ty_size31 hA (by simp) (by simp [Value.oneCell']) (by decide) (fun w7 hS7 hB7 => ?_)
            simp [putC] at hB7
            simp [go_sem]
            refine hK _ _ ?_; clear hK K
            refine W_ret ?_
            repeat (first | refine thenG_ret ?_ | refine inBlock_ret ?_)
            exact ret _ _ 3 (↑n + 2) ⟨#[]⟩ 5 (hX.nextS hS7 hb1) hB7 (by simp [go_sem, g4]) (by simp [go_sem]) ee.symm (by intro h; cases h)
      · have m58 : ¬ (byteAt s n).toNat = 58 := by omega
        have ee : sgnE s n = 5 := by simp only [sgnE, hsg, Bool.false_eq_true, if_false]; rw [if_neg m58]
        have hb := hB3.cell
        refine W_if (by simp [go_sem, n58, m58]; rfl) rfl ?_
        refine W_rt (by kernel_rfl) (fun K hK => ?_)
        simp [go_sem, g6, hb, rowV, rowOk]
        refine hv_store (b := b1) (off := 0) [.int .i64 3, .int .i64 n, .int .i64 (↑n + 1), .string ⟨#[]⟩] (by simp [go_sem, g4]) rfl (by simp [go_sem, g4]) (by simp [go_sem, Value.cells, g4]) ty_size31 hA (by simp) (by simp [Value.oneCell']) (by decide) (fun w7 hS7 hB7 => ?_)
        simp [putC] at hB7
        simp [go_sem]
        refine hK _ _ ?_; clear hK K
        refine W_ret ?_
        repeat (first | refine thenG_ret ?_ | refine inBlock_ret ?_)
        exact ret _ _ 3 (↑n + 1) ⟨#[]⟩ 5 (hX.nextS hS7 hb1) hB7 (by simp [go_sem, g4]) (by simp [go_sem]) ee.symm (by intro h; cases h)
  clear hK2
  refine W_rt (by kernel_rfl) (fun K hK => ?_)
  simp [go_sem]
  refine hK _ _ ?_; clear hK K
  by_cases n40 : ((byteAt s n).toNat : Int) = 40
  · have m40 : (byteAt s n).toNat = 40 := by omega
    refine W_if (by simp [go_sem, n40, m40]; rfl) rfl ?_
    refine W_skip ?_
    refine join _ _ rfl (by simp [go_sem]) (by simp [go_sem]) (by simp [go_sem]) (by simp [go_sem]) (by simp [go_sem]) ?_
    simp [go_sem, sgnB, n40, m40]
  · have m40 : ¬ (byteAt s n).toNat = 40 := by omega
    refine W_if (by simp [go_sem, n40, m40]; rfl) rfl ?_
    refine W_rt (by kernel_rfl) (fun K hK => ?_)
    simp [go_sem, n40, m40]
    refine hK _ _ ?_; clear hK K
    by_cases n41 : ((byteAt s n).toNat : Int) = 41
    · have m41 : (byteAt s n).toNat = 41 := by omega
      refine W_if (by simp [go_sem, n41, m41]; rfl) rfl ?_
      refine W_skip ?_
      refine join _ _ rfl (by simp [go_sem]) (by simp [go_sem]) (by simp [go_sem]) (by simp [go_sem]) (by simp [go_sem]) ?_
      simp [go_sem, sgnB, n41, m41]
    · have m41 : ¬ (byteAt s n).toNat = 41 := by omega
      refine W_if (by simp [go_sem, n41, m41]; rfl) rfl ?_
      refine W_rt (by kernel_rfl) (fun K hK => ?_)
      simp [go_sem, n40, m40, n41, m41]
      refine hK _ _ ?_; clear hK K
      by_cases n44 : ((byteAt s n).toNat : Int) = 44
      · have m44 : (byteAt s n).toNat = 44 := by omega
        refine W_if (by simp [go_sem, n44, m44]; rfl) rfl ?_
        refine W_skip ?_
        refine join _ _ rfl (by simp [go_sem]) (by simp [go_sem]) (by simp [go_sem]) (by simp [go_sem]) (by simp [go_sem]) ?_
        simp [go_sem, sgnB, n44, m44]
      · have m44 : ¬ (byteAt s n).toNat = 44 := by omega
        refine W_if (by simp [go_sem, n44, m44]; rfl) rfl ?_
        refine W_rt (by kernel_rfl) (fun K hK => ?_)
        simp [go_sem, n40, m40, n41, m41, n44, m44]
        refine hK _ _ ?_; clear hK K
        by_cases n59 : ((byteAt s n).toNat : Int) = 59
        · have m59 : (byteAt s n).toNat = 59 := by omega
          refine W_if (by simp [go_sem, n59, m59]; rfl) rfl ?_
          refine W_skip ?_
          refine join _ _ rfl (by simp [go_sem]) (by simp [go_sem]) (by simp [go_sem]) (by simp [go_sem]) (by simp [go_sem]) ?_
          simp [go_sem, sgnB, n59, m59]
        · have m59 : ¬ (byteAt s n).toNat = 59 := by omega
          refine W_if (by simp [go_sem, n59, m59]; rfl) rfl ?_
          refine W_rt (by kernel_rfl) (fun K hK => ?_)
          simp [go_sem, n40, m40, n41, m41, n44, m44, n59, m59]
          refine hK _ _ ?_; clear hK K
          by_cases n47 : ((byteAt s n).toNat : Int) = 47
          · have m47 : (byteAt s n).toNat = 47 := by omega
            refine W_if (by simp [go_sem, n47, m47]; rfl) rfl ?_
            refine W_skip ?_
            refine join _ _ rfl (by simp [go_sem]) (by simp [go_sem]) (by simp [go_sem]) (by simp [go_sem]) (by simp [go_sem]) ?_
            simp [go_sem, sgnB, n47, m47]
          · have m47 : ¬ (byteAt s n).toNat = 47 := by omega
            refine W_if (by simp [go_sem, n47, m47]; rfl) rfl ?_
            refine W_text (by kernel_rfl) (fun K hK => ?_)
            simp [go_sem, n40, m40, n41, m41, n44, m44, n59, m59, n47, m47]
            refine hK _ _ ?_; clear hK K
            refine join _ _ rfl (by simp [go_sem]) (by simp [go_sem]) (by simp [go_sem]) (by simp [go_sem]) (by simp [go_sem]) ?_
            simp [go_sem, sgnB, n40, m40, n41, m41, n44, m44, n59, m59, n47, m47]
end Go.Proofs.Ytdhomomiejebdaa
