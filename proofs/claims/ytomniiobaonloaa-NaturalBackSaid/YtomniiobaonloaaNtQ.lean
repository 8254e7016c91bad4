/- Natural numbers: long, the long division. -/
import Derived.Test.YtomniiobaonloaaNtP
namespace Go.Proofs.Ytomniiobaonloaa
open Go.RowKit Go.V
set_option linter.unusedSimpArgs false
set_option linter.unusedVariables false

/-- a slice of limbs that can be read, and in which block it lies -/
structure RB (w : World) (bv : Nat) (a : Option Addr) (c : Nat) (l : List Nat) : Prop where
  rd : RD w a c l
  blk : ∀ ad, a = some ad → l ≠ [] → ad.block = bv
theorem RB.keep {w w' : World} {bv : Nat} {a : Option Addr} {c : Nat} {l : List Nat} (h : RB w bv a c l) (hb : Below w.heap.size w w') : RB w' bv a c l := ⟨h.rd.ext hb, h.blk⟩
theorem RB.sto {w w' : World} {bv b : Nat} {a : Option Addr} {c : Nat} {l : List Nat} (h : RB w bv a c l) (hs : Sto w w' b) (hne : bv ≠ b) : RB w' bv a c l := ⟨h.rd.sto hs (fun ad ha hn => by rw [h.blk ad ha hn]; exact hne), h.blk⟩
theorem RB.wr {w w' : World} {bv b : Nat} {a : Option Addr} {c : Nat} {l : List Nat} (h : RB w bv a c l) (hs : Wr w w' b) (hne : bv ≠ b) : RB w' bv a c l := ⟨h.rd.wr hs (fun ad ha hn => by rw [h.blk ad ha hn]; exact hne), h.blk⟩
theorem RB.ne {w : World} {bv b : Nat} {a : Option Addr} {c : Nat} {l : List Nat} (h : RB w bv a c l) (hne : bv ≠ b) : ∀ ad, a = some ad → l ≠ [] → ad.block ≠ b := fun ad ha hn => by rw [h.blk ad ha hn]; exact hne
theorem lat_td (L : List Nat) (j n i : Nat) (h : i < n) : lat ((L.drop j).take n) i = lat L (j + i) := by
  simp [lat, List.getD_eq_getElem?_getD, List.getElem?_take, h, List.getElem?_drop]

set_option maxHeartbeats 2000000 in
theorem tooGreat_any (bd bv bn br bu bj d r n j k : Nat) (L V : List Nat) (b : Nat) (t : TypeId) (Z : List Value) (cu : Nat) (a : Option Addr) (c : Nat) (w : World)
    (kd : w.cell? ⟨bd, 0, none⟩ = some (.int .u64 d)) (kv : w.cell? ⟨bv, 0, none⟩ = some (.slice a V.length c)) (kn : w.cell? ⟨bn, 0, none⟩ = some (.int .i64 n)) (kr : w.cell? ⟨br, 0, none⟩ = some (.int .u64 r))
    (ku : w.cell? ⟨bu, 0, none⟩ = some (.slice (some ⟨b, 0, none⟩) L.length cu)) (kj : w.cell? ⟨bj, 0, none⟩ = some (.int .i64 j)) (hB : Bx w b (lmC L ++ Z).toArray t) (hok : Ok L) (hs : RD w a c V)
    (hn : V.length = n) (hk : n = k + 2) (hL : j + n < L.length) (hl : L.length ≤ 100000000000) (hr : r < 65536) :
    Calls Try.prog 55 #[.pointer (some ⟨bd, 0, none⟩), .pointer (some ⟨bv, 0, none⟩), .pointer (some ⟨bn, 0, none⟩), .pointer (some ⟨br, 0, none⟩), .pointer (some ⟨bu, 0, none⟩), .pointer (some ⟨bj, 0, none⟩)] w fun e w' =>
      e = .returned (.bool (decide (65536 ≤ d ∨ r * 65536 + lat L (j + k) < d * lat V k))) ∧ Below w.heap.size w w' := by
  have hD : Below w.heap.size w w.drew := Below.drew1 _
  have kd' := cell_below hD kd
  have kv' := cell_below hD kv
  have kn' := cell_below hD kn
  have kr' := cell_below hD kr
  have ku' := cell_below hD ku
  have kj' := cell_below hD kj
  replace hB := hB.keep hD
  replace hs := hs.ext hD
  have c1 := bx_atZ hB (j := j + k) (by omega)
  obtain ⟨c2, c3⟩ := hs.at (i := k) (by omega)
  have hx := lat_lt hok (j + k)
  have hy := lat_lt hs.ok k
  have f1 : IntKind.i64.wrap ((n : Int) - 2) = (k : Int) := by rw [IntWalk.i64_in _ (by omega)]; omega
  have f2 : IntKind.i64.wrap ((j : Int) + n) = (j : Int) + n := IntWalk.i64_in _ (by omega)
  have f3 : IntKind.i64.wrap ((j : Int) + n - 2) = ((j + k : Nat) : Int) := by rw [IntWalk.i64_in _ (by omega)]; omega
  have p1 : k < V.length := by omega
  have p1' : (k : Int) < V.length := by omega
  generalize lat L (j + k) = u2 at *
  generalize lat V k = v2 at *
  obtain ⟨q, hq⟩ : ∃ q, q = j + k := ⟨_, rfl⟩
  rw [← hq] at c1 f3
  have p2 : q < L.length := by omega
  have p2' : (q : Int) < L.length := by omega
  have s1 : IntKind.u64.wrap (v2 : Int) = v2 := w64_in _ (by omega)
  have s2 : IntKind.u64.wrap (u2 : Int) = u2 := w64_in _ (by omega)
  have s3 : shlI .u64 (r : Int) 16 = ((r * 65536 : Nat) : Int) := by
    have := shl_nat .u64 r 16 (by decide)
    have e : IntKind.u64.wrap ((r * 2 ^ 16 : Nat) : Int) = ((r * 65536 : Nat) : Int) := w64_in _ (by omega)
    rw [e] at this; exact this
  have s4 : orI .u64 ((r * 65536 : Nat) : Int) (u2 : Int) = ((r * 65536 + u2 : Nat) : Int) := by
    rw [or_u64 _ _ (by omega) (by omega), Nat.or_comm]
    have := or_add u2 r 16 (by omega)
    simp at this
    rw [this]; omega
  generalize r * 65536 = r6 at *
  refine calls_of_W (args := [.pointer (some ⟨bd, 0, none⟩), .pointer (some ⟨bv, 0, none⟩), .pointer (some ⟨bn, 0, none⟩), .pointer (some ⟨br, 0, none⟩), .pointer (some ⟨bu, 0, none⟩), .pointer (some ⟨bj, 0, none⟩)]) (rs := [.tmp 6]) (n := 31) Try.func55 rfl rfl rfl (by kernel_rfl) ?_
  first | refine W_rt (by kernel_rfl) (fun K hK => ?_) | refine W_text (by kernel_rfl) (fun K hK => ?_)
  simp [go_sem]
  refine hK _ _ ?_; clear hK K
  by_cases h : 65536 ≤ d
  · have h' : (65536 : Int) ≤ d := by omega
    first | refine W_rd [(0, 0), (1, 0), (2, 0), (3, 0), (4, 0), (5, 0), (6, 0), (7, 0), (8, 0), (9, 0), (10, 0), (11, 0), (12, 0), (13, 0), (14, 0), (15, 0), (16, 0), (17, 0), (18, 0), (19, 0), (20, 0), (21, 0), (22, 0), (23, 0), (24, 0)] (by kernel_rfl) (by kernel_rfl) (fun K hK => ?_) | refine W_draw [(0, 0), (1, 0), (2, 0), (3, 0), (4, 0), (5, 0), (6, 0), (7, 0), (8, 0), (9, 0), (10, 0), (11, 0), (12, 0), (13, 0), (14, 0), (15, 0), (16, 0), (17, 0), (18, 0), (19, 0), (20, 0), (21, 0), (22, 0), (23, 0), (24, 0)] (by kernel_rfl) (by kernel_rfl) (fun K hK => ?_)
    simp [go_sem, kd', h, h']
    refine hK _ _ ?_; clear hK K
    refine W_ret ?_
    repeat (first | refine thenG_ret ?_ | refine inBlock_ret ?_)
    refine ⟨trivial, ?_, hD⟩
    simp [go_sem, pack, resL, h]
  · have h' : ¬ (65536 : Int) ≤ d := by omega
    have hm : d * v2 ≤ 65535 * 65535 := Nat.mul_le_mul (by omega) (by omega)
    obtain ⟨DV, hDV⟩ : ∃ DV, DV = d * v2 := ⟨_, rfl⟩
    have s5 : (d : Int) * (v2 : Int) = (DV : Int) := by rw [hDV]; simp
    have s6 : IntKind.u64.wrap (DV : Int) = DV := w64_in _ (by omega)
    obtain ⟨ru, hru⟩ : ∃ ru, ru = r6 + u2 := ⟨_, rfl⟩
    rw [← hru] at s4
    first | refine W_rd [(0, 0), (1, 0), (2, 0), (3, 0), (4, 0), (5, 0), (6, 0), (7, 0), (8, 0), (9, 0), (10, 0), (11, 0), (12, 0), (13, 0), (14, 0), (15, 0), (16, 0), (17, 0), (18, 0), (19, 0), (20, 0), (21, 0), (22, 0), (23, 0), (24, 0)] (by kernel_rfl) (by kernel_rfl) (fun K hK => ?_) | refine W_draw [(0, 0), (1, 0), (2, 0), (3, 0), (4, 0), (5, 0), (6, 0), (7, 0), (8, 0), (9, 0), (10, 0), (11, 0), (12, 0), (13, 0), (14, 0), (15, 0), (16, 0), (17, 0), (18, 0), (19, 0), (20, 0), (21, 0), (22, 0), (23, 0), (24, 0)] (by kernel_rfl) (by kernel_rfl) (fun K hK => ?_)
    simp [go_sem, kd', kv', kn', kr', ku', kj', h, h', f1, f2, f3, p1, p1', p2, p2', c1, c2, c3, s1, s2, s3, s4, s5, s6, add_mk]
    refine hK _ _ ?_; clear hK K
    refine W_ret ?_
    repeat (first | refine thenG_ret ?_ | refine inBlock_ret ?_)
    refine ⟨trivial, ?_, hD⟩
    simp [go_sem, pack, resL, h]
    rw [hru, hDV]
end Go.Proofs.Ytomniiobaonloaa
