/- The lexer, sixth part: the program's All. -/
import Derived.Test.YtdhomomiejebdaaLx5
namespace Go.Proofs.Ytdhomomiejebdaa
open Go.RowKit Go.V
set_option linter.unusedSimpArgs false
set_option linter.unusedVariables false

theorem own_keep {w w' : World} {B e size n : Nat} {v : Value} {xs : List Value} (h : w.ownsRow B e size v n xs) (hb : Below w.heap.size w w') : w'.ownsRow B e size v n xs := by
  refine ⟨h.1, ?_⟩
  rcases h.2 with hn | ⟨g, cap, cur, hv, hg, hh, r⟩
  · exact .inl hn
  · exact .inr ⟨g, cap, cur, hv, hg, by rw [hb.block g (Array.getElem?_eq_some_iff.1 hh).1]; exact hh, r⟩
theorem own_sto {w w' : World} {B e size n b : Nat} {v : Value} {xs : List Value} (h : w.ownsRow B e size v n xs) (hs : Sto w w' b) (hne : v.ownBlock ≠ some b) : w'.ownsRow B e size v n xs := by
  refine ⟨h.1, ?_⟩
  rcases h.2 with hn | ⟨g, cap, cur, hv, hg, hh, r⟩
  · exact .inl hn
  · refine .inr ⟨g, cap, cur, hv, hg, ?_, r⟩
    have : g ≠ b := fun e => hne (by rw [hv, e]; rfl)
    rw [hs.block g this]; exact hh
theorem own_slice {w : World} {B e size n : Nat} {v : Value} {xs : List Value} (h : w.ownsRow B e size v n xs) : ∃ a c, v = .slice a n c := by
  rcases h.2 with ⟨h1, h2⟩ | ⟨g, cap, cur, hv, _⟩
  · subst h2; exact ⟨none, 0, h1⟩
  · exact ⟨_, _, hv⟩
theorem tokR_len (s : ByteArray) (k : Nat) : (tokR s k).length = 4 := by unfold tokR; split <;> rfl
theorem tokR_one (s : ByteArray) (k : Nat) : ∀ v ∈ tokR s k, v.oneCell' = true := by
  intro v hv
  unfold tokR at hv
  split at hv
  · simp [tokC] at hv; rcases hv with rfl | rfl | rfl | rfl <;> rfl
  · simp [tok0] at hv; rcases hv with rfl | rfl <;> rfl
theorem putC_all (c : Array Value) (vs : List Value) (h : c.size = vs.length) : putC c 0 vs = vs.toArray := by
  rw [← putC_toList vs c 0 (by omega)]
  have : c.toList.drop vs.length = [] := List.drop_eq_nil_of_le (by simp; omega)
  simp [this]
/-- what All returns -/
def AllPost (s : ByteArray) (w : World) (e : Ending) (w' : World) : Prop :=
  ∃ a c, e = .returned (.tuple #[.slice a (allR s).1.length c, .int .i64 (allR s).2.1, .int .i64 (allR s).2.2]) ∧ SL w' a (tksC s (allR s).1) ∧ Below w.heap.size w w'

set_option maxHeartbeats 1000000 in
theorem all_any (s : ByteArray) (w : World) (hs : s.size ≤ maxLen) :
    Calls Try.prog 12 #[.string s] w (AllPost s w) := by
  refine calls_of_W (args := [.string s]) (rs := [.tmp 2, .tmp 3, .tmp 4]) (n := 51) Try.func12 rfl rfl rfl (by kernel_rfl) ?_
  refine W_rt (by kernel_rfl) (fun K hK => ?_)
  simp [go_sem]
  refine hK _ _ ?_; clear hK K
  refine W_seq (fun K1 hK1 => ?_)
  refine W_rt (by kernel_rfl) (fun K hK => ?_)
  simp [go_sem]
  refine hK _ _ ?_; clear hK K
  by_cases hbig : s.size ≤ 20000
  · have hbig' : ¬ (20000 : Int) < s.size := by omega
    have hR : allR s = allAt s 0 [] := by unfold allR; rw [if_pos hbig]
    refine W_if (by simp [go_sem, hbig']; rfl) rfl ?_
    refine W_skip ?_
    refine hK1 _ _ ?_; clear hK1 K1
    refine W_seq (fun K1 hK1 => ?_)
    refine W_block ?_
    refine W_loop (fun m g w' => Below w.heap.size w w' ∧ ∃ (k : Nat) (v : Value) (acc : List Tk), k ≤ s.size ∧ m = s.size - k ∧ g 0 = .string s ∧ g 2 = v ∧ g 3 = .int .i64 k ∧ w'.ownsRow w.heap.size 31 4 v acc.length (tksC s acc) ∧ acc.length ≤ k ∧ allAt s k acc = allAt s 0 []) s.size ?_ ?_
    · exact ⟨Below.refl _ _, 0, .slice none 0 0, [], Nat.zero_le _, rfl, rfl, rfl, rfl, World.ownsRow_nil _ _ _ _, Nat.le_refl _, rfl⟩
    · rintro m g w' ⟨hE, k, v, acc, hk, rfl, g0, g2, g3, hown, hacc, hall⟩
      refine W_seq (fun K2 hK2 => ?_)
      refine W_rt (by kernel_rfl) (fun K hK => ?_)
      simp [go_sem, g0, g3]
      refine hK _ _ ?_; clear hK K
      by_cases hlt : k < s.size
      · have hlt' : (k : Int) < s.size := by omega
        have hw1 : IntKind.i64.wrap (↑k + 1) = (k : Int) + 1 := IntWalk.i64_in _ (by omega)
        refine W_if (by simp [go_sem, hlt, hlt']; rfl) rfl ?_
        refine W_skip ?_
        refine hK2 _ _ ?_; clear hK2 K2
        refine W_block ?_
        refine W_seq (fun K3 hK3 => ?_)
        refine W_rt (by kernel_rfl) (fun K hK => ?_)
        simp [go_sem, g0, g3, hlt', hw1]
        refine hv_call (by simp [go_sem]) rfl Try.call17 (fun R hR => ?_)
        simp [go_sem]
        refine (kind_any _ _).mono ?_
        rintro e w4 ⟨rfl, rfl⟩
        refine ⟨_, rfl, hR _ _ ?_⟩
        clear hR R
        simp [go_sem]
        refine hK _ _ ?_; clear hK K
        refine W_block ?_
        refine W_rt (by kernel_rfl) (fun K hK => ?_)
        simp [go_sem]
        refine hK _ _ ?_; clear hK K
        have hkb := kind_blank (byteAt s k).toNat
        have hkh := kind_hash (byteAt s k).toNat
        by_cases k1 : kindI ↑(byteAt s k).toNat = 1
        · have hblk : blkB (byteAt s k).toNat = true := by rw [← hkb]; simp [k1]
          refine W_if (by simp [go_sem, k1]; rfl) rfl ?_
          refine W_rt (by kernel_rfl) (fun K hK => ?_)
          simp [go_sem, g3, hw1]
          refine hK _ _ ?_; clear hK K
          refine W_exit ?_
          repeat (first | refine thenG_exit ?_ | refine inBlock_other rfl ?_ | refine inBlock_same ?_)
          refine ⟨s.size - (k + 1), by omega, hE, k + 1, v, acc, by omega, rfl, by simp [go_sem, g0], by simp [go_sem, g2], by simp [go_sem], hown, by omega, ?_⟩
          rw [← hall]
          exact (allAt_skip s k (k + 1) acc hk (by omega) (nxt_blank s k hlt hblk)).symm
        · have hblk : blkB (byteAt s k).toNat = false := by rw [← hkb]; simp [k1]
          refine W_if (by simp [go_sem, k1]; rfl) rfl ?_
          refine W_rt (by kernel_rfl) (fun K hK => ?_)
          simp [go_sem]
          refine hK _ _ ?_; clear hK K
          by_cases k6 : kindI ↑(byteAt s k).toNat = 6
          · have h35 : byteAt s k = 35 := by
              have : decide (((byteAt s k).toNat : Int) = 35) = true := by rw [← hkh]; simp [k6]
              apply UInt8.toNat_inj.1
              simp at this; simp; omega
            obtain ⟨hn1, hn2, hn3⟩ := nxt_hash s k hlt h35
            refine W_if (by simp [go_sem, k6]; rfl) rfl ?_
            refine W_rt (by kernel_rfl) (fun K hK => ?_)
            simp [go_sem, g0, g3]
            refine hv_call (by simp [go_sem]) rfl Try.call21 (fun R hR => ?_)
            simp [go_sem]
            refine (comment_any s k _ hs hk).mono ?_
            rintro e w5 ⟨rfl, rfl⟩
            refine ⟨_, rfl, hR _ _ ?_⟩
            clear hR R
            simp [go_sem]
            refine hK _ _ ?_; clear hK K
            refine W_exit ?_
            repeat (first | refine thenG_exit ?_ | refine inBlock_other rfl ?_ | refine inBlock_same ?_)
            refine ⟨s.size - (k + comN ((bs s).drop k)), by omega, hE, k + comN ((bs s).drop k), v, acc, by omega, rfl, by simp [go_sem, g0], by simp [go_sem, g2], by simp [go_sem], hown, by omega, ?_⟩
            rw [← hall]
            exact (allAt_skip s k _ acc hk hn3 hn1).symm
          · have h35 : byteAt s k ≠ 35 := by
              intro e
              rw [e] at k6
              exact absurd rfl k6
            have hnx := nxt_here s k hlt hblk h35
            have hae := allAt_eq s k acc hk
            rw [hnx, if_pos hlt, hall] at hae
            refine W_if (by simp [go_sem, k6]; rfl) rfl ?_
            refine W_skip ?_
            refine hK3 _ _ ?_; clear hK3 K3
            refine W_rt (by kernel_rfl) (fun K hK => ?_)
            simp [go_sem, g0, g3]
            refine hv_call (by simp [go_sem]) rfl Try.call22 (fun R hR => ?_)
            simp [go_sem]
            refine (token_any s k _ hbig hlt).mono ?_
            rintro e w5 ⟨rfl, hE5⟩
            refine ⟨_, rfl, hR _ _ ?_⟩
            clear hR R
            have hown5 : w5.ownsRow w.heap.size 31 4 v acc.length (tksC s acc) := own_keep hown hE5
            replace hE := hE.next hE5
            simp [go_sem]
            refine hv_alloc (by simp [go_sem]) rfl ty_zeroC31 (fun w6 b6 hE6 hle6 hB6 => ?_)
            simp [go_sem]
            refine hv_store (b := b6) (off := 0) (tokR s k) (by simp [go_sem]) rfl (by simp [go_sem]) (by simp [go_sem, Value.cells]) (by rw [tokR_len]; exact ty_size31) hB6 (by rw [tokR_len]; simp) (tokR_one s k) (by decide) (fun w7 hS7 hB7 => ?_)
            rw [putC_all _ _ (by simp [tokR_len])] at hB7
            have hb6 : w.heap.size ≤ b6 := by have := hE.size; omega
            have hne : v.ownBlock ≠ some b6 := fun e => by have := (hown5.lt b6 e).2; omega
            have hown7 : w7.ownsRow w.heap.size 31 4 v acc.length (tksC s acc) := own_sto (own_keep hown5 hE6) hS7 hne
            replace hE := (hE.next hE6).nextS hS7 hb6
            clear hown hown5 hE5 hE6 hS7 hB6
            simp [go_sem]
            refine hK _ _ ?_; clear hK K
            refine W_seq (fun K2 hK2 => ?_)
            refine W_rt (by kernel_rfl) (fun K hK => ?_)
            simp [go_sem]
            refine hK _ _ ?_; clear hK K
            by_cases he : tokE s k = 0
            · have he' : (tokE s k : Int) = 0 := by omega
              rw [if_pos he] at hae
              obtain ⟨ht1, ht2⟩ := tok_step s k hlt he
              have e1 : tokR s k = [.int .i64 (tokK s k), .int .i64 k, .int .i64 (tokZ s k), .string (s.extract k (tokZ s k))] := by simp [tokR, he, tokC]
              rw [e1] at hB7
              have hb := hB7.cell
              refine W_if (by simp [go_sem, he, he']; rfl) rfl ?_
              refine W_skip ?_
              refine hK2 _ _ ?_; clear hK2 K2
              refine W_rt (by kernel_rfl) (fun K hK => ?_)
              simp [go_sem, g2, hb, rowV, rowOk]
              refine hv_buildSlice #[.int .i64 (tokK s k), .int .i64 k, .int .i64 (tokZ s k), .string (s.extract k (tokZ s k))] (by simp [go_sem]) rfl ty_slZ25 (by decide) [(0, .agg #[.int .i64 (tokK s k), .int .i64 k, .int .i64 (tokZ s k), .string (s.extract k (tokZ s k))])] (by simp [go_sem]) (by kernel_rfl) (fun w8 b8 hE8 hle8 hB8 => ?_)
              have hown8 : w8.ownsRow w.heap.size 31 4 v acc.length (tksC s acc) := own_keep hown7 hE8
              replace hB7 := hB7.keep hE8
              replace hE := hE.next hE8
              clear hown7 hE8
              simp [go_sem]
              refine hv_appendB (v := v) (b := b8) (len := 1) (c := 1) hB8 (by simp [go_sem]) rfl ty_slZ25 ty_bytes31 rfl (by decide) (by simp [go_sem, g2]) (by simp [go_sem]) hown8 rfl (by simp [Value.oneCell']) (by unfold maxLen; omega) (by omega) hE.size (by decide) (fun v' w9 hown9 hg9 _ => ?_)
              replace hB7 := hB7.grown hg9 (fun e => hne e.symm)
              replace hE := hE.nextG hg9 (fun b e => (hown8.lt b e).1)
              have hb := hB7.cell
              have hown10 : w9.ownsRow w.heap.size 31 4 v' (acc ++ [(tokK s k, k, tokZ s k)]).length (tksC s (acc ++ [(tokK s k, k, tokZ s k)])) := by
                rw [tksC_app, List.length_append]; exact hown9
              simp [go_sem]
              refine hK _ _ ?_; clear hK K
              refine W_text (by kernel_rfl) (fun K hK => ?_)
              simp [go_sem, hb]
              refine hK _ _ ⟨s.size - tokZ s k, by omega, hE, tokZ s k, v', acc ++ [(tokK s k, k, tokZ s k)], ht2, rfl, by simp [go_sem, g0], by simp [go_sem], by simp [go_sem], hown10, by simp; omega, hae.symm⟩
            · have he' : ¬ (tokE s k : Int) = 0 := by omega
              rw [if_neg he] at hae
              have hR' : allR s = ([], k, tokE s k) := by rw [hR, hae]
              refine W_if (by simp [go_sem, he, he']; rfl) rfl ?_
              refine W_rt (by kernel_rfl) (fun K hK => ?_)
              simp [go_sem, g3]
              refine hK _ _ ?_; clear hK K
              refine W_ret ?_
              repeat (first | refine thenG_ret ?_ | refine inBlock_ret ?_)
              refine ⟨trivial, none, 0, ?_, by rw [hR']; exact SL.nil _ _, hE⟩
              simp [go_sem, pack, resL, hR']
      · have hk' : k = s.size := by omega
        have hae := allAt_eq s k acc hk
        rw [nxt_end s k hlt, if_neg hlt, hall] at hae
        have hR' : allR s = (acc ++ [(0, s.size, s.size)], 0, 0) := by rw [hR, hae]
        refine W_if (by simp [go_sem, hlt]; rfl) rfl ?_
        refine W_exit ?_
        repeat (first | refine thenG_exit ?_ | refine inBlock_other rfl ?_ | refine inBlock_same ?_)
        refine hK1 _ _ ?_; clear hK1 K1 hK2 K2
        refine W_rt (by kernel_rfl) (fun K hK => ?_)
        simp [go_sem, g0, g2]
        refine hv_build #[.int .i64 0, .int .i64 s.size, .int .i64 s.size, .string ⟨#[]⟩] (by simp [go_sem]) rfl ty_stZ31 [(0, .int .i64 0), (1, .int .i64 s.size), (2, .int .i64 s.size)] (by simp [go_sem]) rfl ?_
        simp [go_sem]
        refine hv_buildSlice #[.int .i64 0, .int .i64 s.size, .int .i64 s.size, .string ⟨#[]⟩] (by simp [go_sem]) rfl ty_slZ25 (by decide) [(0, .agg #[.int .i64 0, .int .i64 s.size, .int .i64 s.size, .string ⟨#[]⟩])] (by simp [go_sem]) (by kernel_rfl) (fun w8 b8 hE8 hle8 hB8 => ?_)
        have hown8 : w8.ownsRow w.heap.size 31 4 v acc.length (tksC s acc) := own_keep hown hE8
        replace hE := hE.next hE8
        simp [go_sem]
        refine hv_appendB (v := v) (b := b8) (len := 1) (c := 1) hB8 (by simp [go_sem]) rfl ty_slZ25 ty_bytes31 rfl (by decide) (by simp [go_sem, g2]) (by simp [go_sem]) hown8 rfl (by simp [Value.oneCell']) (by unfold maxLen; omega) (by omega) hE.size (by decide) (fun v' w9 hown9 hg9 _ => ?_)
        replace hE := hE.nextG hg9 (fun b e => (hown8.lt b e).1)
        simp [go_sem]
        refine hK _ _ ?_; clear hK K
        obtain ⟨a, c, rfl⟩ := own_slice hown9
        refine W_ret ?_
        repeat (first | refine thenG_ret ?_ | refine inBlock_ret ?_)
        refine ⟨trivial, a, c, ?_, ?_, hE⟩
        · simp [go_sem, pack, resL, hR']
        · rw [hR']
          show SL _ a (tksC s (acc ++ [(0, s.size, s.size)]))
          rw [tksC_app]
          have e2 : tokC s (0, s.size, s.size) = [.int .i64 0, .int .i64 s.size, .int .i64 s.size, .string ⟨#[]⟩] := by
            simp only [tokC, extract_nil]
            first | rfl | skip
          rw [e2]
          exact ownsRow_SL hown9
  · have hbig' : (20000 : Int) < s.size := by omega
    have hR : allR s = ([], 0, 4) := by unfold allR; rw [if_neg hbig]
    refine W_if (by simp [go_sem, hbig']; rfl) rfl ?_
    refine W_rt (by kernel_rfl) (fun K hK => ?_)
    simp [go_sem]
    refine hK _ _ ?_; clear hK K
    refine W_ret ?_
    repeat (first | refine thenG_ret ?_ | refine inBlock_ret ?_)
    refine ⟨trivial, none, 0, ?_, by rw [hR]; exact SL.nil _ _, Below.refl _ _⟩
    simp [go_sem, pack, resL, hR]
end Go.Proofs.Ytdhomomiejebdaa
