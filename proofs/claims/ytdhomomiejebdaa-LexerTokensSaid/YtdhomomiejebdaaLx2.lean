/- The lexer, second part: the keywords, and whether a string is a name. -/
import Derived.Test.YtdhomomiejebdaaLx1
namespace Go.Proofs.Ytdhomomiejebdaa
open Go.RowKit Go.V
set_option linter.unusedSimpArgs false
set_option linter.unusedVariables false

/-- the keywords -/
def KW : List (List UInt8) := [[97, 110, 103, 108, 101],
  [97, 112, 101, 120],
  [98, 105, 115, 101, 99, 116, 111, 114],
  [99, 101, 110, 116, 101, 114],
  [99, 105, 114, 99, 108, 101],
  [99, 105, 114, 99, 117, 109],
  [99, 111, 108, 108, 105, 110, 101, 97, 114],
  [99, 111, 109, 109, 111, 110],
  [99, 111, 110, 99, 121, 99, 108, 105, 99],
  [99, 111, 110, 103, 114, 117, 101, 110, 116],
  [99, 114, 111, 115, 115],
  [99, 117, 116],
  [100, 105, 118, 105, 100, 101],
  [102, 111, 111, 116],
  [108, 105, 110, 101],
  [109, 101, 101, 116],
  [109, 105, 100, 112, 111, 105, 110, 116],
  [109, 105, 114, 114, 111, 114],
  [111, 110],
  [111, 116, 104, 101, 114],
  [112, 97, 114, 97, 108, 108, 101, 108],
  [112, 101, 114, 112, 101, 110, 100, 105, 99, 117, 108, 97, 114],
  [112, 111, 105, 110, 116, 115],
  [112, 114, 111, 118, 101],
  [114, 97, 116, 105, 111],
  [114, 101, 102, 108, 101, 99, 116],
  [115, 97, 109, 101],
  [115, 104, 105, 102, 116],
  [116, 117, 114, 110]]
def strV (l : List UInt8) : Value := .string ⟨l.toArray⟩
def KWC : Array Value := (KW.map strV).toArray
def kwAt (k : Nat) : List UInt8 := KW.getD k []
def isKw (l : List UInt8) : Bool := KW.contains l
theorem KW_len : KW.length = 29 := rfl
theorem KWC_size : KWC.size = 29 := rfl

theorem kw_any (w : World) : Calls Try.prog 9 #[] w fun e w' => ∃ b, e = .returned (.slice (some ⟨b, 0, none⟩) 29 29) ∧ Below w.heap.size w w' ∧ w.heap.size ≤ b ∧ Bx w' b KWC 9 := by
  refine calls_of_W (args := []) (rs := [.tmp 0]) (n := 2) Try.func9 rfl rfl rfl (by kernel_rfl) ?_
  refine W_rt (by kernel_rfl) (fun K hK => ?_)
  simp [go_sem]
  refine hK _ _ ?_; clear hK K
  refine W_rt (by kernel_rfl) (fun K hK => ?_)
  simp [go_sem]
  refine hv_buildSlice KWC (by simp [go_sem]) rfl ty_slZ22 (by decide) _ rfl (by kernel_rfl) (fun w1 b hb hle hbx => ?_)
  simp [go_sem]
  refine hK _ _ ?_; clear hK K
  refine W_ret ⟨trivial, b, ?_, hb, hle, hbx⟩
  simp [go_sem, pack, resL]
theorem kwr_any (w : World) : Calls Try.prog 8 #[] w fun e w' => ∃ b, e = .returned (.slice (some ⟨b, 0, none⟩) 29 29) ∧ Below w.heap.size w w' ∧ w.heap.size ≤ b ∧ Bx w' b KWC 9 := by
  refine calls_of_W (args := []) (rs := [.tmp 0]) (n := 2) Try.func8 rfl rfl rfl (by kernel_rfl) ?_
  refine W_rt (by kernel_rfl) (fun K hK => ?_)
  simp [go_sem]
  refine hK _ _ ?_; clear hK K
  refine W_rt (by kernel_rfl) (fun K hK => ?_)
  simp [go_sem]
  refine hv_buildSlice KWC (by simp [go_sem]) rfl ty_slZ22 (by decide) _ rfl (by kernel_rfl) (fun w1 b hb hle hbx => ?_)
  simp [go_sem]
  refine hK _ _ ?_; clear hK K
  refine W_ret ⟨trivial, b, ?_, hb, hle, hbx⟩
  simp [go_sem, pack, resL]

/-- whether a list of bytes is a name, but for the keywords -/
def preB (l : List UInt8) : Bool := !l.isEmpty && decide (l.length ≤ 20) && decide (kindI (l.getD 0 0).toNat = 2) && l.all (goOn true)
def nameB (l : List UInt8) : Bool := preB l && !(isKw l)
theorem preB_s (s : ByteArray) : preB (bs s) = (decide (0 < s.size) && decide (s.size ≤ 20) && decide (kindI (byteAt s 0).toNat = 2) && (bs s).all (goOn true)) := by
  unfold preB byteAt
  rw [bs_len]
  congr 3
  rw [← bs_len]
  cases bs s <;> simp

theorem KWC_get (k : Nat) (hk : k < 29) : KWC[k]? = some (strV (kwAt k)) := by
  have h : k < KW.length := hk
  simp [kwAt, KWC, List.getD_eq_getElem?_getD, List.getElem?_eq_getElem h]
theorem KW_mem (l : List UInt8) (h : ∀ i, i < 29 → kwAt i ≠ l) : isKw l = false := by
  cases hc : isKw l with
  | false => rfl
  | true =>
    unfold isKw at hc
    rw [List.contains_iff_mem] at hc
    obtain ⟨i, hi, he⟩ := List.getElem_of_mem hc
    refine absurd ?_ (h i hi)
    rw [kwAt, List.getD_eq_getElem?_getD, List.getElem?_eq_getElem hi, Option.getD_some, he]
theorem KW_hit (l : List UInt8) (i : Nat) (hi : i < 29) (h : kwAt i = l) : isKw l = true := by
  have hi' : i < KW.length := hi
  unfold isKw
  rw [List.contains_iff_mem, ← h, kwAt, List.getD_eq_getElem?_getD, List.getElem?_eq_getElem hi', Option.getD_some]
  exact List.getElem_mem hi'

theorem endN_lt (s : ByteArray) : decide (((endN true (bs s) : Nat) : Int) < ((s.size : Nat) : Int)) = !((bs s).all (goOn true)) := by
  have h1 := endN_le true (bs s)
  have h2 := endN_all true (bs s)
  rw [bs_len] at h1 h2
  cases hb : (bs s).all (goOn true) with
  | true =>
    have : endN true (bs s) = s.size := by rw [h2, hb]
    simp [this]
  | false =>
    have : endN true (bs s) ≠ s.size := by rw [Ne, h2, hb]; simp
    simp; omega

set_option maxHeartbeats 1000000 in
theorem isName_any (s : ByteArray) (w : World) (hs : s.size ≤ maxLen) :
    Calls Try.prog 10 #[.string s] w fun e w' => e = .returned (.bool (nameB (bs s))) ∧ Below w.heap.size w w' := by
  have hl := bs_len s
  have hpre := preB_s s
  refine calls_of_W (args := [.string s]) (rs := [.tmp 2]) (n := 35) Try.func10 rfl rfl rfl (by kernel_rfl) ?_
  refine W_rt (by kernel_rfl) (fun K hK => ?_)
  simp [go_sem]
  refine hK _ _ ?_; clear hK K
  refine W_seq (fun K1 hK1 => ?_)
  refine W_rtJ (fun g w1 => w1 = w ∧ g 0 = .string s ∧ g 24 = .bool (!preB (bs s))) (by kernel_rfl) ?_ ?_
  · by_cases h0 : s.size = 0
    · have e : bs s = [] := List.length_eq_zero_iff.1 (by rw [bs_len]; exact h0)
      have hp : preB (bs s) = false := by rw [e]; rfl
      have e2 : bs ⟨#[]⟩ = [] := rfl
      have e3 : preB [] = false := rfl
      simp [go_sem, e, e3, e2]
    · have hpos : 0 < s.size := by omega
      have e : ¬ bs s = [] := fun h => h0 (by rw [← bs_len, h]; rfl)
      have e2 : bs ⟨#[]⟩ = [] := rfl
      by_cases h20 : s.size ≤ 20
      · have h20' : ¬ (20 : Int) < s.size := by omega
        simp [go_sem, e, e2, h20', hpos]
        refine hv_call (by simp [go_sem, h20']) rfl Try.call17 (fun R hR => ?_)
        simp [go_sem, h20']
        refine (kind_any _ _).mono ?_
        rintro e w1 ⟨rfl, rfl⟩
        refine ⟨_, rfl, hR _ _ ?_⟩
        clear hR R
        by_cases h2 : kindI ↑(byteAt s 0).toNat = 2
        · simp [go_sem, h2, h20']
          refine hv_call (by simp [go_sem, h2, h20']) rfl Try.call18 (fun R hR => ?_)
          simp [go_sem, h2, h20']
          refine (end_any s 0 true _ hs (by omega)).mono ?_
          rintro e w1 ⟨rfl, rfl⟩
          refine ⟨_, rfl, hR _ _ ?_⟩
          clear hR R
          have e3 := endN_lt s
          simp [go_sem, h2, h20', hpre, hpos, h20] at e3 ⊢
          exact e3
        · simp [go_sem, h2, h20', hpre]
      · have h20' : (20 : Int) < s.size := by omega
        simp [go_sem, e, e2, h20', hpos, hpre, h20]
  · rintro g w1 ⟨rfl, g0, g24⟩
    refine W_if g24 rfl ?_
    cases hb : preB (bs s) with
    | false =>
      refine W_rt (by kernel_rfl) (fun K hK => ?_)
      simp [go_sem]
      refine hK _ _ ?_; clear hK K
      refine W_ret ?_
      repeat (first | refine thenG_ret ?_ | refine inBlock_ret ?_)
      refine ⟨trivial, ?_, Below.refl _ _⟩
      simp [go_sem, pack, resL, nameB, hb]
    | true =>
      refine W_skip (hK1 _ _ ?_); clear hK1 K1
      refine W_seq (fun K1 hK1 => ?_)
      refine W_rt (by kernel_rfl) (fun K hK => ?_)
      simp [go_sem]
      refine hv_call (by simp [go_sem]) rfl Try.call9 (fun R hR => ?_)
      simp [go_sem]
      refine (kw_any _).mono ?_
      rintro e w2 ⟨b, rfl, hE, hle, hbx⟩
      refine ⟨_, rfl, hR _ _ ?_⟩
      clear hR R
      simp [go_sem]
      refine hK _ _ ?_; clear hK K
      refine W_block ?_
      refine W_loop (fun m g w' => w' = w2 ∧ ∃ k : Nat, k ≤ 29 ∧ m = 29 - k ∧ g 0 = .string s ∧ g 25 = .slice (some ⟨b, 0, none⟩) 29 29 ∧ g 26 = .int .i64 29 ∧ g 27 = .int .i64 k ∧ ∀ i, i < k → kwAt i ≠ bs s) 29 ?_ ?_
      · exact ⟨rfl, 0, by omega, rfl, by simp [go_sem, g0], rfl, rfl, rfl, fun i hi => by omega⟩
      · rintro m g w' ⟨rfl, k, h1, rfl, g0, g25, g26, g27, hk⟩
        by_cases hlt : k < 29
        · have hlt' : (k : Int) < 29 := by omega
          refine W_rt (by kernel_rfl) (fun K hK => ?_)
          simp [go_sem, g26, g27, hlt']
          refine hK _ _ ?_; clear hK K
          refine W_seq (fun K2 hK2 => ?_)
          refine W_if (by simp [go_sem]; rfl) rfl ?_
          refine W_skip (hK2 _ _ ?_); clear hK2 K2
          refine W_seq (fun K2 hK2 => ?_)
          refine W_block ?_
          have hc := hbx.cell k
          rw [KWC_get k hlt] at hc
          refine W_rt (by kernel_rfl) (fun K hK => ?_)
          simp [go_sem, g25, g27, hc, hlt']
          refine hK _ _ ?_; clear hK K
          have ek : bs ⟨(kwAt k).toArray⟩ = kwAt k := bs_mk _
          refine W_rt (by kernel_rfl) (fun K hK => ?_)
          simp [go_sem, g0, strV]
          by_cases heq : kwAt k = bs s
          · refine hK _ _ ?_; clear hK K
            refine W_if (by simp [go_sem, ek, heq]; rfl) rfl ?_
            refine W_rt (by kernel_rfl) (fun K hK => ?_)
            simp [go_sem]
            refine hK _ _ ?_; clear hK K
            refine W_ret ?_
            repeat (first | refine thenG_ret ?_ | refine inBlock_ret ?_)
            refine ⟨trivial, ?_, hE⟩
            simp [go_sem, pack, resL, nameB, hb, KW_hit _ k hlt heq]
          · refine hK _ _ ?_; clear hK K
            refine W_if (by simp [go_sem, ek, heq]; rfl) rfl ?_
            refine W_skip ?_
            refine hK2 _ _ ?_; clear hK2 K2
            refine W_text (by kernel_rfl) (fun K hK => ?_)
            simp [go_sem, g27]
            refine hK _ _ ⟨29 - (k + 1), by omega, rfl, k + 1, by omega, rfl, ?_, ?_, ?_, ?_, ?_⟩
            · simp [go_sem, g0]
            · simp [go_sem, g25]
            · simp [go_sem, g26]
            · simp (disch := omega) [go_sem, IntWalk.i64_in]
            · intro i hi
              by_cases h : i = k
              · rw [h]; exact heq
              · exact hk i (by omega)
        · have hlt' : ¬ (k : Int) < 29 := by omega
          refine W_rt (by kernel_rfl) (fun K hK => ?_)
          simp [go_sem, g26, g27, hlt']
          refine hK _ _ ?_; clear hK K
          refine W_seq (fun K2 hK2 => ?_)
          refine W_if (by simp [go_sem]; rfl) rfl ?_
          refine W_exit ?_
          repeat (first | refine thenG_exit ?_ | refine inBlock_other rfl ?_ | refine inBlock_same ?_)
          refine hK1 _ _ ?_
          refine W_rt (by kernel_rfl) (fun K hK => ?_)
          simp [go_sem]
          refine hK _ _ ?_; clear hK K
          refine W_ret ⟨trivial, ?_, hE⟩
          have := KW_mem (bs s) (fun i hi => hk i (by omega))
          simp [go_sem, pack, resL, nameB, hb, this]
          
end Go.Proofs.Ytdhomomiejebdaa
