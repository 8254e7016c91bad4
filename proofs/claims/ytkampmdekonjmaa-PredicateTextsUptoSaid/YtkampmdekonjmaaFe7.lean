/- Texts of facts: words, names. -/
import Derived.Test.YtkampmdekonjmaaFc1
import Derived.Test.YtkampmdekonjmaaFc2
import Derived.Test.YtkampmdekonjmaaFc3
import Derived.Test.YtkampmdekonjmaaRs5
import Derived.Test.YtkampmdekonjmaaSj1
import Derived.SliceStrings
namespace Go.Proofs.Ytkampmdekonjmaa
open Go Go.RowKit Go.V Go.ChangeMaps
set_option linter.unusedSimpArgs false
set_option linter.unusedVariables false
set_option maxRecDepth 20000
def wordB (k : Int) : List UInt8 :=
  if k = 1 then [99, 111, 108, 108, 105, 110, 101, 97, 114] else if k = 2 then [112, 97, 114, 97, 108, 108, 101, 108] else if k = 3 then [112, 101, 114, 112, 101, 110, 100, 105, 99, 117, 108, 97, 114] else
  if k = 4 then [99, 111, 110, 103, 114, 117, 101, 110, 116] else if k = 5 then [109, 105, 100, 112, 111, 105, 110, 116] else if k = 6 then [99, 111, 110, 99, 121, 99, 108, 105, 99] else
  if k = 7 then [97, 110, 103, 108, 101] else if k = 8 then [115, 97, 109, 101] else [114, 97, 116, 105, 111]
theorem fAr_cases {k : Int} (h : fAr k ≠ 0) : k = 1 ∨ k = 2 ∨ k = 3 ∨ k = 4 ∨ k = 5 ∨ k = 6 ∨ k = 7 ∨ k = 8 ∨ k = 9 := by
  unfold fAr at h
  by_cases h8 : k = 8 <;> by_cases h1 : k = 1 <;> by_cases h5 : k = 5 <;> by_cases h2 : k = 2 <;> by_cases h3 : k = 3 <;> by_cases h4 : k = 4 <;> by_cases h6 : k = 6 <;> by_cases h9 : k = 9 <;> by_cases h7 : k = 7 <;> first | omega | simp_all
def GWd : Gam := gamOf []
theorem GWd_ok : GamOk Try.prog GWd := gamOk_of trivial
def tr_pword : Tr (List SA) := (.br (.eq (.var 0) (.lit 1)) (.leaf [(.s (.lit [99, 111, 108, 108, 105, 110, 101, 97, 114]))]) (.br (.eq (.var 0) (.lit 2)) (.leaf [(.s (.lit [112, 97, 114, 97, 108, 108, 101, 108]))]) (.br (.eq (.var 0) (.lit 3)) (.leaf [(.s (.lit [112, 101, 114, 112, 101, 110, 100, 105, 99, 117, 108, 97, 114]))]) (.br (.eq (.var 0) (.lit 4)) (.leaf [(.s (.lit [99, 111, 110, 103, 114, 117, 101, 110, 116]))]) (.br (.eq (.var 0) (.lit 5)) (.leaf [(.s (.lit [109, 105, 100, 112, 111, 105, 110, 116]))]) (.br (.eq (.var 0) (.lit 6)) (.leaf [(.s (.lit [99, 111, 110, 99, 121, 99, 108, 105, 99]))]) (.br (.eq (.var 0) (.lit 7)) (.leaf [(.s (.lit [97, 110, 103, 108, 101]))]) (.br (.eq (.var 0) (.lit 8)) (.leaf [(.s (.lit [115, 97, 109, 101]))]) (.leaf [(.s (.lit [114, 97, 116, 105, 111]))])))))))))
theorem ev_pword : Ct.ok Try.prog 33 { args := [[.n]], res := [[.s]], F := fun als => tr_pword.den GWd (env0 als), L := 1000, A := 0, B := 0 } :=
  top_ok (by kernel_rfl) GWd_ok (plans := planF) (lf := 60) (k := 20) (by kernel_rfl)
theorem pword_den (k : Int) (h : fAr k ≠ 0) : tr_pword.den GWd (env0 [.n k]) = some [.s (wordB k)] := by
  rcases fAr_cases h with rfl | rfl | rfl | rfl | rfl | rfl | rfl | rfl | rfl
  all_goals kernel_rfl
theorem wordP_any (k : Int) (w : World) (h : fAr k ≠ 0) : Calls Try.prog 33 #[.int .i64 k] w fun e w' => e = .returned (.string ⟨(wordB k).toArray⟩) ∧ Below w.heap.size w w' :=
  ct_s ev_pword rfl (Nat.zero_le _) (ints1 k) (zs1 k 0) (pword_den k h)
set_option maxHeartbeats 1000000 in
theorem wordR_any (k : Int) (w : World) (h : fAr k ≠ 0) : Calls Try.prog 35 #[.int .i64 k] w fun e w' => e = .returned (.string ⟨(wordB k).toArray⟩) ∧ Below w.heap.size w w' := by
  have hk := fAr_cases h
  have k1 : ¬ k < 1 := by omega
  have k10 : ¬ 10 ≤ k := by omega
  have k0 : 0 ≤ k := by omega
  have k11 : k < 10 := by omega
  have q : (#[.string ⟨#[]⟩, .string ⟨#[99, 111, 108, 108, 105, 110, 101, 97, 114]⟩, .string ⟨#[112, 97, 114, 97, 108, 108, 101, 108]⟩, .string ⟨#[112, 101, 114, 112, 101, 110, 100, 105, 99, 117, 108, 97, 114]⟩, .string ⟨#[99, 111, 110, 103, 114, 117, 101, 110, 116]⟩, .string ⟨#[109, 105, 100, 112, 111, 105, 110, 116]⟩, .string ⟨#[99, 111, 110, 99, 121, 99, 108, 105, 99]⟩, .string ⟨#[97, 110, 103, 108, 101]⟩, .string ⟨#[115, 97, 109, 101]⟩, .string ⟨#[114, 97, 116, 105, 111]⟩] : Array Value)[k.toNat]? = some (.string ⟨(wordB k).toArray⟩) := by
    rcases hk with rfl | rfl | rfl | rfl | rfl | rfl | rfl | rfl | rfl <;> rfl
  refine calls_of_W (args := [.int .i64 k]) (rs := [.tmp 2]) (n := 17) Try.func35 rfl rfl rfl (by kernel_rfl) ?_
  have hA0 := Below.refl w.heap.size w
  first | refine W_rt (by kernel_rfl) (fun K hK => ?_) | refine W_text (by kernel_rfl) (fun K hK => ?_)
  simp [go_sem, add_mk, rowV, rowOk]
  refine hK _ _ ?_; clear hK K
  first | refine W_rt (by kernel_rfl) (fun K hK => ?_) | refine W_text (by kernel_rfl) (fun K hK => ?_)
  simp [go_sem, add_mk, rowV, rowOk]
  refine hv_buildSlice #[.string ⟨#[]⟩, .string ⟨#[99, 111, 108, 108, 105, 110, 101, 97, 114]⟩, .string ⟨#[112, 97, 114, 97, 108, 108, 101, 108]⟩, .string ⟨#[112, 101, 114, 112, 101, 110, 100, 105, 99, 117, 108, 97, 114]⟩, .string ⟨#[99, 111, 110, 103, 114, 117, 101, 110, 116]⟩, .string ⟨#[109, 105, 100, 112, 111, 105, 110, 116]⟩, .string ⟨#[99, 111, 110, 99, 121, 99, 108, 105, 99]⟩, .string ⟨#[97, 110, 103, 108, 101]⟩, .string ⟨#[115, 97, 109, 101]⟩, .string ⟨#[114, 97, 116, 105, 111]⟩] (by simp [go_sem, add_mk, rowV, rowOk]) rfl ty_slZ35 (by decide) [(0, .string ⟨#[]⟩), (1, .string ⟨#[99, 111, 108, 108, 105, 110, 101, 97, 114]⟩), (2, .string ⟨#[112, 97, 114, 97, 108, 108, 101, 108]⟩), (3, .string ⟨#[112, 101, 114, 112, 101, 110, 100, 105, 99, 117, 108, 97, 114]⟩), (4, .string ⟨#[99, 111, 110, 103, 114, 117, 101, 110, 116]⟩), (5, .string ⟨#[109, 105, 100, 112, 111, 105, 110, 116]⟩), (6, .string ⟨#[99, 111, 110, 99, 121, 99, 108, 105, 99]⟩), (7, .string ⟨#[97, 110, 103, 108, 101]⟩), (8, .string ⟨#[115, 97, 109, 101]⟩), (9, .string ⟨#[114, 97, 116, 105, 111]⟩)] (by simp [go_sem, add_mk, rowV, rowOk]) (by kernel_rfl) (fun w1 b1 hE1 hle1 hB1 => ?_)
  have hb1_0 := Nat.le_trans hA0.size hle1
  replace hA0 := hA0.next hE1
  simp [go_sem, add_mk, rowV, rowOk, hB1.cell]
  refine hK _ _ ?_; clear hK K
  refine W_seq (fun K1 hK1 => ?_)
  first | refine W_rt (by kernel_rfl) (fun K hK => ?_) | refine W_text (by kernel_rfl) (fun K hK => ?_)
  simp [go_sem, add_mk, rowV, rowOk, hB1.cell,  k1, k10]
  refine hK _ _ ?_; clear hK K
  refine W_if (t := false) (by simp [go_sem, add_mk, rowV, rowOk, hB1.cell, k1, k10]) rfl ?_
  refine W_skip ?_
  refine hK1 _ _ ?_
  first | refine W_rt (by kernel_rfl) (fun K hK => ?_) | refine W_text (by kernel_rfl) (fun K hK => ?_)
  simp [go_sem, add_mk, rowV, rowOk, hB1.cell,  k0, k11, q]
  refine hK _ _ ?_; clear hK K
  refine W_ret ?_
  repeat (first | refine thenG_ret ?_ | refine inBlock_ret ?_)
  refine ⟨trivial, ?_, hA0⟩
  simp [go_sem, pack, resL, q]
  rcases hk with rfl | rfl | rfl | rfl | rfl | rfl | rfl | rfl | rfl <;> rfl
/-! ### Names -/
/-- names, as a slice's value -/
def NamesV (W : World) (v : Value) (B : Nat) : Prop := ∃ (xs : List (List UInt8)) (a : Option Addr) (cap : Nat), v = .slice a xs.length cap ∧ SL W a (strC xs) ∧ xs.length ≤ maxLen ∧ ∀ x ∈ xs, x.length ≤ B
theorem open_Names {H : Type} {enc : TypeId × Value → H} {W : World} {r : Reach} {base : Nat} {v : Value} {d : DataW H} {ps : List MemPlace}
    (hval : Value.okWide Try.prog W r base 35 v) (hd : DataW.Trod enc Try.prog W 0 (fun _ => true) true 35 v d ps) : ∃ (_ _ : Unit), NamesV W v (Rows.uptoBulk d) := by
  obtain ⟨a, n, c, rfl⟩ := Go.WideShapes.okWide_slice Try.underlying35 hval
  obtain ⟨fuel, hf⟩ := hd
  refine ⟨(), (), ?_⟩
  rcases Go.ChangeShapes.open_strings Try.underlying35 Try.underlying9 (by kernel_rfl) hf with ⟨h, hx⟩ | ⟨ad, len, cap, ss, h, _, hle, hmax, hz, hx, hcell, hwf⟩
  · refine ⟨[], none, 0, ?_, SL.nil _ _, Nat.zero_le _, fun x h => by cases h⟩
    simpa [Value.cells] using h
  · simp only [if_true] at hz
    have hlen : (ss.take len).length = len := by rw [List.length_take]; omega
    refine ⟨(ss.take len).map bs, some ad, cap, ?_, ?_, by rw [List.length_map, hlen]; omega, ?_⟩
    · rw [List.length_map, hlen]; simpa [Value.cells] using h
    · by_cases h0 : len = 0
      · subst h0; exact .inl (by simp [strC])
      · have g0 := hcell 0 (by omega)
        obtain ⟨b, off, spot⟩ := ad
        have hspot : spot = none := by simpa [Addr.add] using World.cell?_spot g0
        subst hspot
        refine .inr ⟨b, off, rfl, fun j u hu => ?_⟩
        have hj : j < len := by
          have := (List.getElem?_eq_some_iff.1 hu).1
          rw [strC_len, List.length_map, hlen] at this
          exact this
        have g := hcell j (by omega)
        rw [add_mk] at g
        rw [g]
        have hjz : j < ss.length := by omega
        unfold strC at hu
        rw [List.map_map, List.getElem?_map, List.getElem?_take_of_lt hj, List.getElem?_eq_getElem hjz] at hu
        simp only [Option.map_some, Option.some.injEq, Function.comp_apply] at hu
        rw [← hu, List.getD_eq_getElem?_getD, List.getElem?_eq_getElem hjz]
        simp [bs]
    · intro y hy
      obtain ⟨z, hz1, rfl⟩ := List.mem_map.1 hy
      have h3 : (DataW.lit (.string z.data.toList) : DataW H) ∈ Go.ChangeShapes.strs (H := H) (ss.take len) := by
        unfold Go.ChangeShapes.strs
        exact List.mem_map.2 ⟨z, hz1, rfl⟩
      have h4 := bulk_part h3
      have hx' := congrArg Prod.fst hx
      simp only at hx'
      rw [hx']
      simp only [Rows.uptoBulk] at h4 ⊢
      have h5 : (bs z).length = z.data.toList.length := rfl
      omega
end Go.Proofs.Ytkampmdekonjmaa
