/- Integers: numerals read and written, in numbers; the laws. -/
import Derived.Test.YtnclpllmidlbbaaInF
import Derived.Test.YtnclpllmidlbbaaIc2
import Derived.Test.YtnclpllmidlbbaaRt1
namespace Go.Proofs.Ytnclpllmidlbbaa
open Go Go.RowKit Go.V Go.ChangeMaps
set_option linter.unusedSimpArgs false
set_option linter.unusedVariables false
set_option maxRecDepth 20000
def f_iread : List At → Option (List At)
  | [.s l] => some [za (izV l), .n (izE l)]
  | _ => none
theorem izV_len (l : List UInt8) : (lim (izV l).natAbs).length ≤ 1001 := by
  unfold izV
  split
  · rename_i h
    have h0 : rdE (izd l) = 0 := by
      unfold izE at h
      split at h
      · rename_i h1; exact absurd h h1
      · rename_i h1; exact Decidable.of_not_not h1
    have := rdL_lenI (izd l)
    unfold rdL at this
    rw [if_pos h0] at this
    rw [iv_abs]; omega
  · rw [show ((0 : Int).natAbs) = 0 from rfl, lim_zero]; simp
theorem ok_read {P : Program} {f L : Nat} (h : ∀ s w, Calls P f #[.string s] w (IReadPost w (bs s))) : Ct.ok P f { args := [[.s]], res := [[.y], [.n]], F := f_iread, L := L, A := 0, B := 1001 } := by
  intro s w vs als r hs hr hsz hF
  obtain ⟨v, rfl, h1⟩ := vs1 hr
  obtain ⟨l, rfl, rfl⟩ := repV_s.1 h1
  injection hF with hF; subst hF
  refine (h ⟨l.toArray⟩ w).mono ?_
  rintro e w' ⟨a, c, he, hr', hE⟩
  rw [bs_mk] at he hr'
  exact ret2 (r1 := [za (izV l)]) (r2 := [.n (izE l)]) rfl he (repV_y.2 ⟨_, _, a, c, rfl, rfl, hr'⟩) (repV_n.2 ⟨_, rfl, rfl⟩) (fun x hx => by
    simp only [List.cons_append, List.nil_append, List.mem_cons, List.not_mem_nil, or_false] at hx
    rcases hx with rfl | rfl
    · have := izV_len l
      simp only [za, At.sz]; omega
    · simp [At.sz]) hE
def ct_iread : Ct := { args := [[.s]], res := [[.y], [.n]], F := f_iread, L := 1000000000000, A := 0, B := 1001 }
theorem ctF_iread : ct_iread.F = f_iread := rfl
theorem ok_iread : ct_iread.ok Try.prog 80 := ok_read iRead_any
def ct_riread : Ct := { args := [[.s]], res := [[.y], [.n]], F := f_iread, L := 1000000000000, A := 0, B := 1001 }
theorem ctF_riread : ct_riread.F = f_iread := rfl
theorem ok_riread : ct_riread.ok Try.prog 82 := ok_read iReadR_any
/-! ### What is written is read -/
theorem dgz_props (n : Nat) : dv (dgz n) = n ∧ (∀ c ∈ dgz n, isD c = true) ∧ (dgz n).getD 0 0 ≠ 48 := by
  have dv_snoc : ∀ (l : List UInt8) (c : UInt8), dv (l ++ [c]) = dv l * 10 + (c.toNat - 48) := fun l c => by unfold dv; rw [List.foldl_append]; rfl
  induction n using Nat.strongRecOn with
  | _ n ih =>
    by_cases h : n = 0
    · subst h
      rw [dgz_0]
      refine ⟨rfl, ?_, by decide⟩
      intro c hc
      cases hc
    · obtain ⟨h1, h2, h3⟩ := ih (n / 10) (by omega)
      have hc : (UInt8.ofNat (48 + n % 10)).toNat = 48 + n % 10 := by
        have := u8_48 (n % 10) (Nat.mod_lt _ (by decide))
        omega
      rw [dgz_s n h]
      refine ⟨?_, ?_, ?_⟩
      · rw [dv_snoc, h1, hc]; omega
      · intro c hm
        rcases List.mem_append.1 hm with hm | hm
        · exact h2 c hm
        · have : c = UInt8.ofNat (48 + n % 10) := by simpa using hm
          subst this
          unfold isD
          rw [hc]
          simp; omega
      · by_cases h10 : n / 10 = 0
        · rw [h10, dgz_0, List.nil_append, List.getD_cons_zero]
          intro e
          rw [e] at hc
          have : (48 : UInt8).toNat = 48 := rfl
          omega
        · have hne : dgz (n / 10) ≠ [] := fun e => h10 (dgz_nil.1 e)
          rw [List.getD_eq_getElem?_getD] at h3 ⊢
          rw [List.getElem?_append_left (List.length_pos_iff.2 hne)]
          exact h3
theorem read_txtI (A : Nat) (hA : (txt A).length ≤ 1000) : rdE (txt A) = 0 ∧ rdL (txt A) = lim A ∧ dv (txt A) = A ∧ ((ch (txt A) 0).toNat : Int) ≠ 45 := by
  obtain ⟨h1, h2, h3⟩ := dgz_props A
  have hd : dv (txt A) = A := by
    unfold txt
    split
    · rename_i h; subst h; rfl
    · exact h1
  have hE : rdE (txt A) = 0 := by
    unfold rdE
    rw [if_neg, if_neg (by omega), if_neg]
    · have : rdBad (txt A) = false := by
        unfold txt at hA ⊢
        by_cases h : A = 0
        · rw [if_pos h]; decide
        · rw [if_neg h]
          refine bad_none (fun hh => h3 hh.2) (fun k hk => ?_)
          refine h2 _ ?_
          rw [List.getD_eq_getElem?_getD, List.getElem?_eq_getElem hk, Option.getD_some]
          exact List.getElem_mem hk
      rw [this]; decide
    · unfold txt
      split
      · simp
      · rename_i h
        exact fun e => h (dgz_nil.1 e)
  refine ⟨hE, ?_, hd, ?_⟩
  · unfold rdL
    rw [if_pos hE, hd]
  · unfold txt
    split
    · decide
    · rename_i h
      have hne : dgz A ≠ [] := fun e => h (dgz_nil.1 e)
      have hm : ch (dgz A) 0 ∈ dgz A := by
        unfold ch
        rw [List.getD_eq_getElem?_getD, List.getElem?_eq_getElem (List.length_pos_iff.2 hne), Option.getD_some]
        exact List.getElem_mem _
      have := h2 _ hm
      unfold isD at this
      simp only [Bool.and_eq_true, decide_eq_true_eq] at this
      omega
theorem read_itxt (z : Int) (hz : (txt z.natAbs).length ≤ 1000) : izE (itxt z) = 0 ∧ izV (itxt z) = z := by
  obtain ⟨h1, h2, h3, h4⟩ := read_txtI z.natAbs hz
  by_cases h : z < 0
  · have hn : izn (itxt z) = true := by unfold itxt izn; rw [if_pos h]; rfl
    have hd : izd (itxt z) = txt z.natAbs := by unfold izd; rw [if_pos hn]; unfold itxt; rw [if_pos h]; rfl
    have hE : izE (itxt z) = 0 := by
      unfold izE
      rw [hd, h1, h2, if_neg (by simp), if_neg]
      rintro ⟨_, h0⟩
      have := lim_ne (B := z.natAbs) (by omega)
      omega
    refine ⟨hE, ?_⟩
    unfold izV
    rw [if_pos hE, hd, hn, h3]
    unfold iv
    simp; omega
  · have hn : izn (itxt z) = false := by
      unfold itxt izn
      rw [if_neg h]
      exact decide_eq_false (fun hh => h4 hh.2)
    have hd : izd (itxt z) = txt z.natAbs := by unfold izd; rw [hn]; unfold itxt; rw [if_neg h]; rfl
    have hE : izE (itxt z) = 0 := by
      unfold izE
      rw [hd, h1, if_neg (by simp), if_neg]
      rintro ⟨h0, _⟩
      rw [hn] at h0; cases h0
    refine ⟨hE, ?_⟩
    unfold izV
    rw [if_pos hE, hd, hn, h3]
    unfold iv
    simp; omega
theorem txt_24 {l : List Nat} (h : Ok l) (hl : l.length ≤ 24) : (txt (val l)).length ≤ 1000 := by
  unfold txt
  split
  · simp
  · have h2 : val l < 2 ^ (16 * l.length) := by rw [Nat.pow_mul]; exact val_lt l h
    have := dgz_len (16 * l.length) (val l) h2
    omega
theorem str_eq (s : ByteArray) : s = ⟨(bs s).toArray⟩ := by
  apply ByteArray.ext
  simp [bs]
def GH1 : Gam := gamOf [(80, ct_iread), (82, ct_riread), (84, ct_itextp), (86, ct_ritext), (22, ct_isame)]
theorem GH1_ok : GamOk Try.prog GH1 := gamOk_of ⟨ok_iread, ok_riread, ok_itextp, ok_ritext, ok_isame, trivial⟩
theorem GH1_iread : GH1 80 = some ct_iread := rfl
theorem GH1_riread : GH1 82 = some ct_riread := rfl
theorem GH1_itextp : GH1 84 = some ct_itextp := rfl
theorem GH1_ritext : GH1 86 = some ct_ritext := rfl
theorem GH1_isame : GH1 22 = some ct_isame := rfl
def GH0 : Gam := gamOf []
theorem GH0_ok : GamOk Try.prog GH0 := gamOk_of trivial
end Go.Proofs.Ytnclpllmidlbbaa
