/- The lexer, seventh part: what the statements' own functions compute; LexerPrefixes. -/
import Derived.Test.YtdhomomiejebdaaLx6
import Derived.Test.YtdhomomiejebdaaRow
namespace Go.Proofs.Ytdhomomiejebdaa
open Go.RowKit Go.V
set_option linter.unusedSimpArgs false
set_option linter.unusedVariables false

abbrev AW : ByteArray := ⟨#[112, 111, 105, 110, 116, 115, 32, 65, 59, 32, 35, 32, 97, 108, 108, 10]⟩
theorem aw_all : allR AW = ([(1, 0, 6), (1, 7, 8), (3, 8, 9), (0, 16, 16)], 0, 0) := by decide +kernel
theorem aw_cells : tksC AW (allR AW).1 = [.int .i64 1, .int .i64 0, .int .i64 6, .string ⟨#[112, 111, 105, 110, 116, 115]⟩, .int .i64 1, .int .i64 7, .int .i64 8, .string ⟨#[65]⟩, .int .i64 3, .int .i64 8, .int .i64 9, .string ⟨#[59]⟩, .int .i64 0, .int .i64 16, .int .i64 16, .string ⟨#[]⟩] := by
  rw [aw_all]
  kernel_rfl
theorem all_aw (w : World) : Calls Try.prog 12 #[.string AW] w fun e w' => ∃ b off c, e = .returned (.tuple #[.slice (some ⟨b, off, none⟩) 4 c, .int .i64 0, .int .i64 0]) ∧ (w'.cell? ⟨b, off + 3, none⟩ = some (.string ⟨#[112, 111, 105, 110, 116, 115]⟩) ∧ w'.cell? ⟨b, off + 4 + 3, none⟩ = some (.string ⟨#[65]⟩) ∧ w'.cell? ⟨b, off + 4 + 1, none⟩ = some (.int .i64 7) ∧ w'.cell? ⟨b, off + 8 + 3, none⟩ = some (.string ⟨#[59]⟩)) ∧ Below w.heap.size w w' := by
  refine (all_any AW w (by decide)).mono ?_
  rintro e w' ⟨a, c, rfl, hs, hE⟩
  rw [aw_cells] at hs
  rcases hs with h | ⟨b, off, rfl, h⟩
  · cases h
  · refine ⟨b, off, c, by rw [aw_all]; rfl, ⟨h 3 _ rfl, ?_, ?_, ?_⟩, hE⟩
    · rw [Nat.add_assoc]; exact h 7 _ rfl
    · rw [Nat.add_assoc]; exact h 5 _ rfl
    · rw [Nat.add_assoc]; exact h 11 _ rfl

set_option maxHeartbeats 1000000 in
theorem awake_any (w : World) : Calls Try.prog 16 #[] w fun e w' => e = .returned (.bool true) ∧ Below w.heap.size w w' := by
  refine calls_of_W (args := []) (rs := [.tmp 0]) (n := 48) Try.func16 rfl rfl rfl (by kernel_rfl) ?_
  refine W_rt (by kernel_rfl) (fun K hK => ?_)
  simp [go_sem]
  refine hK _ _ ?_; clear hK K
  refine W_rt (by kernel_rfl) (fun K hK => ?_)
  simp [go_sem]
  refine hv_call (by simp [go_sem]) rfl Try.call12 (fun R hR => ?_)
  simp [go_sem]
  refine (all_aw _).mono ?_
  rintro e w1 ⟨b, off, c, rfl, ⟨c1, c2, c3, c4⟩, hE⟩
  refine ⟨_, rfl, hR _ _ ?_⟩
  clear hR R
  simp [go_sem]
  refine hK _ _ ?_; clear hK K
  refine W_rt (by kernel_rfl) (fun K hK => ?_)
  simp [go_sem, add_mk, c1, c2, c3, c4]
  refine hK _ _ ?_; clear hK K
  refine W_ret ?_
  repeat (first | refine thenG_ret ?_ | refine inBlock_ret ?_)
  refine ⟨trivial, ?_, hE⟩
  simp [go_sem, pack, resL]

theorem Try.own : ownKnob Try.prog.godebug = none := by kernel_rfl
theorem Try.laidOut : laidOutB Try.prog = true := by kernel_rfl
end Go.Proofs.Ytdhomomiejebdaa
