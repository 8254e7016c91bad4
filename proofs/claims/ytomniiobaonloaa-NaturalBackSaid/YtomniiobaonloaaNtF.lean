/- Natural numbers: the specification's Sub. -/
import Derived.Test.YtomniiobaonloaaNtE
namespace Go.Proofs.Ytomniiobaonloaa
open Go.RowKit Go.V
set_option linter.unusedSimpArgs false
set_option linter.unusedVariables false

theorem val_split : ∀ (i : Nat) (l : List Nat), val l = val (l.take i) + 65536 ^ i * val (l.drop i)
  | 0, l => by simp [val]
  | i + 1, [] => by simp [val]
  | i + 1, x :: l => by
    rw [List.take_succ_cons, List.drop_succ_cons, val, val, val_split i l, Nat.pow_succ, Nat.mul_add, ← Nat.mul_assoc, Nat.mul_comm 65536 (65536 ^ i)]
    omega
theorem val_take_lt (l : List Nat) (h : Ok l) (i : Nat) : val (l.take i) < 65536 ^ i := by
  have h1 := val_lt (l.take i) (h.take i)
  have : 65536 ^ (l.take i).length ≤ 65536 ^ i := Nat.pow_le_pow_right (by decide) (by rw [List.length_take]; omega)
  omega
theorem val_take_full (l : List Nat) (h : Ok l) (i : Nat) (hv : val l < 65536 ^ i) : val (l.take i) = val l := by
  have h1 := val_split i l
  have h2 : val (l.drop i) = 0 := by
    rcases hz : val (l.drop i) with _ | n
    · rfl
    · exfalso
      rw [hz] at h1
      have : 65536 ^ i * 1 ≤ 65536 ^ i * (n + 1) := Nat.mul_le_mul_left _ (by omega)
      omega
  rw [h2] at h1; omega

set_option maxHeartbeats 2000000 in
theorem subR_any (l m : List Nat) (a b : Option Addr) (c d : Nat) (w : World) (hr : RD w a c l) (hs : RD w b d m) (hl : l.length ≤ lenB) (hm : m.length ≤ lenB) :
    Calls Try.prog 32 #[.slice a l.length c, .slice b m.length d] w (SubPost w (val l) (val m)) := by
  have hl' : l.length ≤ 1000000000000 := hl
  have hm' : m.length ≤ 1000000000000 := hm
  have hba := hr.lt
  have hbb := hs.lt
  refine calls_of_W (args := [.slice a l.length c, .slice b m.length d]) (rs := [.tmp 4, .tmp 5]) (n := 40) Try.func32 rfl rfl rfl (by kernel_rfl) ?_
  refine W_rt (by kernel_rfl) (fun K hK => ?_)
  simp [go_sem]
  refine hK _ _ ?_; clear hK K
  refine W_seq (fun K1 hK1 => ?_)
  refine W_rt (by kernel_rfl) (fun K hK => ?_)
  simp [go_sem]
  refine hv_call (by simp [go_sem]) rfl Try.call22 (fun R hR => ?_)
  simp [go_sem]
  refine (cmpR_any l m a b c d _ hr hs hl hm).mono ?_
  rintro e w2 ⟨rfl, rfl⟩
  refine ⟨_, rfl, hR _ _ ?_⟩
  clear hR R
  simp [go_sem]
  refine hK _ _ ?_; clear hK K
  by_cases hlt : val l < val m
  · have hc := cmpV_lt hlt
    refine W_if (by simp [go_sem, hc]; rfl) rfl ?_
    refine W_rt (by kernel_rfl) (fun K hK => ?_)
    simp [go_sem]
    refine hK _ _ ?_; clear hK K
    refine W_ret ?_
    repeat (first | refine thenG_ret ?_ | refine inBlock_ret ?_)
    refine ⟨trivial, .inl ⟨hlt, ?_, Below.refl _ _⟩⟩
    simp [go_sem, pack, resL]
  · have hc : ¬ cmpV (val l) (val m) < 0 := by unfold cmpV; rw [if_neg hlt]; split <;> omega
    refine W_if (by simp [go_sem, hc]; rfl) rfl ?_
    refine W_skip ?_
    refine hK1 _ _ ?_; clear hK1 K1
    refine W_rt (by kernel_rfl) (fun K hK => ?_)
    simp [go_sem]
    refine hK _ _ ?_; clear hK K
    refine W_rt (by kernel_rfl) (fun K hK => ?_)
    simp [go_sem]
    refine hK _ _ ?_; clear hK K
    refine W_seq (fun K1 hK1 => ?_)
    refine W_rt (by kernel_rfl) (fun K hK => ?_)
    simp [go_sem]
    refine hK _ _ ?_; clear hK K
    refine W_block ?_
    refine W_loop (fun k g w' => Below w.heap.size w w' ∧ RD w' a c l ∧ RD w' b d m ∧ ∃ (i bo : Nat) (ws : List Nat) (v : Value), i ≤ l.length ∧ k = l.length - i ∧ g 0 = .slice a l.length c ∧ g 1 = .slice b m.length d ∧ g 6 = v ∧ g 7 = .int .i64 bo ∧ g 8 = .int .i64 i ∧
      w'.ownsRow w.heap.size 39 1 v i (lmC ws) ∧ ws.length = i ∧ Ok ws ∧ bo ≤ 1 ∧ val ws + val (m.take i) = val (l.take i) + 65536 ^ i * bo) l.length ?_ ?_
    · exact ⟨Below.refl _ _, hr, hs, 0, 0, [], .slice none 0 0, by omega, rfl, by simp [go_sem], by simp [go_sem], by simp [go_sem], by simp [go_sem], by simp [go_sem], World.ownsRow_nil _ _ _ _, rfl, Ok.nil, by omega, by simp [val]⟩
    · clear hr hs
      rintro k g w' ⟨hE, hr, hs, i, bo, ws, v, hi, rfl, g0, g1, g6, g7, g8, hown, hwl, hwok, hbo, hval⟩
      refine W_seq (fun K2 hK2 => ?_)
      refine W_rt (by kernel_rfl) (fun K hK => ?_)
      simp [go_sem, g0, g8]
      refine hK _ _ ?_; clear hK K
      by_cases hlt2 : i < l.length
      · have hlt' : (i : Int) < l.length := by omega
        have hx := lat_lt hr.ok i
        have hy := lat_lt hs.ok i
        have e3 : IntKind.i64.wrap ((lat l i : Int) - lat m i) = (lat l i : Int) - lat m i := IntWalk.i64_in _ (by omega)
        obtain ⟨D, hD⟩ : ∃ D : Int, D = (lat l i : Int) - lat m i - bo := ⟨_, rfl⟩
        have e4 : IntKind.i64.wrap ((lat l i : Int) - lat m i - bo) = D := by rw [hD]; exact IntWalk.i64_in _ (by omega)
        have hw1 : IntKind.i64.wrap (↑i + 1) = (i : Int) + 1 := IntWalk.i64_in _ (by omega)
        refine W_if (by simp [go_sem, hlt2, hlt']; rfl) rfl ?_
        refine W_skip ?_
        refine hK2 _ _ ?_; clear hK2 K2
        refine W_seq (fun K2 hK2 => ?_)
        refine W_block ?_
        refine W_rt (by kernel_rfl) (fun K hK => ?_)
        simp [go_sem, g0, g1, g8]
        refine hv_call (by simp [go_sem, g0, g1, g8]) rfl Try.call46 (fun R hR => ?_)
        simp [go_sem, g0, g1, g8]
        refine (limb_any l a c i _ hr).mono ?_
        rintro e w2 ⟨rfl, rfl⟩
        refine ⟨_, rfl, hR _ _ ?_⟩
        clear hR R
        simp [go_sem, g0, g1, g8]
        refine hv_call (by simp [go_sem, g0, g1, g8]) rfl Try.call46 (fun R hR => ?_)
        simp [go_sem, g0, g1, g8]
        refine (limb_any m b d i _ hs).mono ?_
        rintro e w2 ⟨rfl, rfl⟩
        refine ⟨_, rfl, hR _ _ ?_⟩
        clear hR R
        simp [go_sem, g7, e3, e4]
        refine hK _ _ ?_; clear hK K
        refine W_rt (by kernel_rfl) (fun K hK => ?_)
        simp [go_sem]
        refine hK _ _ ?_; clear hK K
        refine W_seq (fun K3 hK3 => ?_)
        refine W_rt (by kernel_rfl) (fun K hK => ?_)
        simp [go_sem]
        refine hK _ _ ?_; clear hK K
        have store : ∀ (g' : G) (bo' Q : Nat), Q < 65536 → bo' ≤ 1 → lat l i + 65536 * bo' = Q + bo + lat m i → g' 0 = .slice a l.length c → g' 1 = .slice b m.length d → g' 6 = v → g' 7 = .int .i64 bo' → g' 8 = .int .i64 i → g' 9 = .int .i64 Q → K3 g' w' := by
          clear g0 g1 g6 g7 g8
          intro g' bo' Q hQ hbo' heq g0 g1 g6 g7 g8 g9
          refine hK3 _ _ ?_; clear hK3 K3
          have e5 : IntKind.u16.wrap (Q : Int) = Q := w16_in _ (by omega)
          have hstep := sub_step ws l m i bo bo' Q hwl hval heq
          refine W_text (by kernel_rfl) (fun K hK => ?_)
          simp [go_sem, g6, g9, e5]
          refine hv_buildSlice #[.int .u16 Q] (by simp [go_sem, g9, e5]) rfl ty_slZ22 (by decide) [(0, .int .u16 Q)] (by simp [go_sem, g9, e5]) (by kernel_rfl) (fun w8 b8 hE8 hle8 hB8 => ?_)
          have hown8 := own_keep hown hE8
          replace hr := hr.ext hE8
          replace hs := hs.ext hE8
          replace hE := hE.next hE8
          simp [go_sem]
          refine hv_appendB (v := v) (b := b8) (len := 1) (c := 1) hB8 (by simp [go_sem]) rfl ty_slZ22 ty_bytes39 rfl (by decide) (by simp [go_sem, g6]) (by simp [go_sem]) hown8 rfl (by simp [Value.oneCell']) (by unfold maxLen; omega) (by omega) hE.size (by decide) (fun v' w9 hown9 hg9 _ => ?_)
          have hn1 := own_ne hown8 hba
          have hn2 := own_ne hown8 hbb
          replace hr := hr.grown hg9 hn1
          replace hs := hs.grown hg9 hn2
          replace hE := hE.nextG hg9 (fun b e => (hown8.lt b e).1)
          clear hn1 hn2 hown hown8 hE8 hB8 hg9
          simp [go_sem]
          refine hK _ _ ?_; clear hK K
          refine hK2 _ _ ?_; clear hK2 K2
          refine W_text (by kernel_rfl) (fun K hK => ?_)
          simp [go_sem, g8, hw1]
          refine hK _ _ ⟨l.length - (i + 1), by omega, hE, hr, hs, i + 1, bo', ws ++ [Q], v', by omega, rfl, by simp [go_sem, g0], by simp [go_sem, g1], by simp [go_sem], by simp [go_sem, g7], by simp [go_sem], ?_, by simp [hwl], hwok.app (Ok.cons hQ Ok.nil), hbo', hstep⟩
          rw [lmC_snoc]; exact hown9
        by_cases hneg : D < 0
        · obtain ⟨Q, hQ⟩ : ∃ Q : Nat, D + 65536 = Q := ⟨(D + 65536).toNat, by omega⟩
          have e6 : IntKind.i64.wrap (D + 65536) = D + 65536 := IntWalk.i64_in _ (by omega)
          rw [hQ] at e6
          refine W_if (by simp [go_sem, hneg]; rfl) rfl ?_
          refine W_rt (by kernel_rfl) (fun K hK => ?_)
          simp [go_sem, e6, hQ]
          refine hK _ _ ?_; clear hK K
          refine W_text (by kernel_rfl) (fun K hK => ?_)
          simp [go_sem]
          refine hK _ _ ?_; clear hK K
          exact store _ 1 Q (by omega) (by omega) (by omega) (by simp [go_sem, g0]) (by simp [go_sem, g1]) (by simp [go_sem, g6]) (by simp [go_sem]) (by simp [go_sem, g8]) (by simp [go_sem])
        · obtain ⟨Q, hQ⟩ : ∃ Q : Nat, D = Q := ⟨D.toNat, by omega⟩
          refine W_if (by simp [go_sem, hneg]; rfl) rfl ?_
          refine W_skip ?_
          exact store _ 0 Q (by omega) (by omega) (by omega) (by simp [go_sem, g0]) (by simp [go_sem, g1]) (by simp [go_sem, g6]) (by simp [go_sem]) (by simp [go_sem, g8]) (by simp [go_sem, hQ])
      · have him : i = l.length := by omega
        subst him
        have hml : val m < 65536 ^ l.length := by have := val_lt l hr.ok; omega
        rw [List.take_length, val_take_full m hs.ok l.length hml] at hval
        have hres := sub_end ws l m bo hwok hwl hval (by omega)
        obtain ⟨a9, c9, rfl, hr9⟩ := RD.of_own hown hwok
        refine W_if (by simp [go_sem, hlt2]; rfl) rfl ?_
        refine W_exit ?_
        repeat (first | refine thenG_exit ?_ | refine inBlock_other rfl ?_ | refine inBlock_same ?_)
        refine hK1 _ _ ?_; clear hK1 K1 hK2 K2
        refine W_rt (by kernel_rfl) (fun K hK => ?_)
        simp [go_sem, g6]
        refine hv_call (by simp [go_sem, g6]) rfl Try.call18 (fun R hR => ?_)
        simp [go_sem, g6]
        refine (normR_any ws a9 c9 _ hr9 (by omega)).mono ?_
        rintro e w2 ⟨a2, c2, rfl, hr2, hE2⟩
        refine ⟨_, rfl, hR _ _ ?_⟩
        clear hR R
        simp [go_sem]
        refine hK _ _ ?_; clear hK K
        refine W_ret ?_
        repeat (first | refine thenG_ret ?_ | refine inBlock_ret ?_)
        refine ⟨trivial, .inr ⟨by omega, a2, c2, ?_, ?_, hE.next hE2⟩⟩
        · rw [hres]; simp [go_sem, pack, resL]
        · rw [hres]; exact hr2
end Go.Proofs.Ytomniiobaonloaa
