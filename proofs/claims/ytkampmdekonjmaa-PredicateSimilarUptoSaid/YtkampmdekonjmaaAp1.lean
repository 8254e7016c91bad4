/- An own slice whose cells are no limbs: what is appended, and where it lies. -/
import Derived.Test.YtkampmdekonjmaaNtH
import Derived.Maps.AppendAt
namespace Go.Proofs.Ytkampmdekonjmaa
open Go Go.RowKit Go.V
set_option linter.unusedSimpArgs false
set_option linter.unusedVariables false
set_option maxRecDepth 20000
def no16c (u : Value) : Prop := ∀ x, u ≠ .int .u16 x
/-- no cell of a slice's block is a limb -/
def NB (w : World) (v : Value) : Prop := ∀ g, v.ownBlock = some g → ∃ cur e f, w.heap[g]? = some (.cells cur e f) ∧ ∀ u ∈ cur.toList, no16c u
theorem NB.nil (w : World) : NB w (.slice none 0 0) := fun g h => by cases h
theorem NB.keep {w w' : World} {v : Value} (h : NB w v) (hE : Below w.heap.size w w') : NB w' v := fun g hg => by
  obtain ⟨cur, e, f, h1, h2⟩ := h g hg
  exact ⟨cur, e, f, by rw [hE.block g (Array.getElem?_eq_some_iff.1 h1).1]; exact h1, h2⟩
theorem NB.grown {w w' : World} {v : Value} {row : Option Nat} (h : NB w v) (hg : w.grownBy w' row) (hne : v.ownBlock = none ∨ v.ownBlock ≠ row) : NB w' v := fun g hv => by
  obtain ⟨cur, e, f, h1, h2⟩ := h g hv
  refine ⟨cur, e, f, ?_, h2⟩
  rw [hg.block g (Array.getElem?_eq_some_iff.1 h1).1 (by rw [← hv]; rcases hne with h | h; · rw [h] at hv; cases hv
                                                         · exact h)]
  exact h1
theorem rd_nb {w : World} {v : Value} {a : Option Addr} {c : Nat} {l : List Nat} (h : RD w a c l) (hn : NB w v) : ∀ ad, a = some ad → l ≠ [] → some ad.block ≠ v.ownBlock := by
  intro ad ha hl e
  cases l with
  | nil => exact hl rfl
  | cons x r =>
    rcases h.sl with h0 | ⟨b, off, e1, h1⟩
    · simp [lmC] at h0
    · rw [ha] at e1; injection e1 with e1; subst e1
      have h2 := h1 0 (.int .u16 x) (by simp [lmC])
      obtain ⟨cur, t, f, h3, h4⟩ := hn b e.symm

      have h5 : cur[off + 0]? = some (.int .u16 x) := by simpa [World.cell?, h3] using h2
      exact h4 _ (Array.mem_toList_iff.2 (Array.mem_of_getElem? h5)) x rfl
theorem RD.app {w w' : World} {v : Value} {a : Option Addr} {c : Nat} {l : List Nat} (h : RD w a c l) (hg : w.grownBy w' v.ownBlock) (hn : NB w v) : RD w' a c l := h.grown hg (rd_nb h hn)
section
variable {P : Program} (w : World)
theorem zero_no16 {z : Array Value} (hz : ∀ u ∈ z.toList, no16c u) (hs : 0 < z.size) (n : Nat) : ∀ u ∈ (Builtin.zeroCells z n).toList, no16c u := by
  intro u hu
  simp only [Builtin.zeroCells, Array.toList_map, List.mem_map] at hu
  obtain ⟨i, _, rfl⟩ := hu
  have hlt : i % z.size < z.size := Nat.mod_lt _ hs
  rw [getElem!_pos z (i % z.size) hlt]
  exact hz _ (Array.mem_toList_iff.2 (Array.getElem_mem hlt))
theorem run_append16 (base : Nat) (t ty e : TypeId) (i : TypeInfo) (z : Value) (size bytes : Nat) (ht : P.underlying t = some (.slice e)) (hi : P.info? e = some i) (hz : i.zero = some z)
    (hsize : i.size = size) (hby : i.bytes = bytes) (hzs : z.cells.size = size) (hsz : 0 < size)
    (v : Value) (n : Nat) (xs : List Value) (hown : w.ownsRow base e size v n xs)
    (a : Addr) (m c : Nat) (news : List Value) (hl : news.length = m * size) (hnews : ∀ j u, news[j]? = some u → w.cell? (a.add j) = some u) (h1 : ∀ u ∈ news, u.oneCell' = true)
    (h63 : n + m ≤ maxLen) (hbytes : (n + m) * bytes ≤ 140737488355328) (hbase : base ≤ w.heap.size) (hz16 : ∀ u ∈ z.cells.toList, no16c u) (hn16 : ∀ u ∈ news, no16c u) (hNB : NB w v) :
    ∃ v' w', (Builtin.append_ #[t, t] ty #[v, .slice (some a) m c]).run P w = .ok v' w' ∧ w'.ownsRow base e size v' (n + m) (xs ++ news) ∧ w.grownBy w' v.ownBlock ∧
      (v'.ownBlock = v.ownBlock ∨ v'.ownBlock = some w.heap.size) ∧ NB w' v' := by
  obtain ⟨v', w', hr, h2, h3, _, h5⟩ := run_append_own_at (P := P) w base t ty e i z size bytes ht hi hz hsize hby hzs hsz v n xs hown a m c news hl hnews h1 h63 hbytes hbase
  refine ⟨v', w', hr, h2, h3, h5, ?_⟩
  subst hsize
  subst hby
  have hz0 : 0 < z.cells.size := by rw [hzs]; exact hsz
  have h63' : n + m ≤ 9223372036854775807 := by unfold maxLen at h63; omega
  rcases hown.2 with ⟨rfl, rfl⟩ | ⟨g, cap, cur, rfl, hbg, hg, hnc, hcm, hcs, htake⟩
  · by_cases hm : m = 0
    · intro g hg
      subst hm
      have hn : news = [] := List.eq_nil_of_length_eq_zero (by simpa using hl)
      subst hn
      have hx : xs = [] := List.eq_nil_of_length_eq_zero (by simpa using hown.1)
      subst hx
      have e0 : (Builtin.append_ #[t, t] ty #[.slice none 0 0, .slice (some a) 0 c]).run P w = .ok (.slice none 0 0) w := by
        simp [Builtin.append_, run_underlying ht, sizeOf, typeInfo, hi, Builtin.lenOf, Builtin.firstCells, loadCells, loadCellsFrom]
      rw [e0] at hr
      injection hr with hv hw
      subst hv
      cases hg
    · have e0 := run_append_nil (P := P) w t ty e i z ht hi hz a m c news hl hnews (by omega) (by omega) (by have hb := hbytes; simp only [Nat.zero_add] at hb; omega)
      rw [e0] at hr
      injection hr with hv hw
      subst hv; subst hw
      intro g hg
      injection hg with hg
      subst hg
      refine ⟨_, _, _, heap_alloc_new w.drew _, fun u hu => ?_⟩
      rw [Array.toList_append, List.mem_append] at hu
      rcases hu with hu | hu
      · exact hn16 u (by simpa using hu)
      · exact zero_no16 hz16 hz0 _ u hu
  · by_cases hroom : n + m ≤ cap
    · have hfit : n * i.size + news.length ≤ cur.size := by rw [hl, hcs, ← Nat.add_mul]; exact Nat.mul_le_mul_right _ hroom
      have e0 := run_append_room (P := P) w t ty e i ht hi g n cap cur hg a m c news hl hnews h1 hroom hfit
      rw [e0] at hr
      injection hr with hv hw
      subst hv; subst hw
      intro g' hg'
      injection hg' with hg'
      subst hg'
      obtain ⟨cur', e', f', h6, h7⟩ := hNB g rfl
      rw [hg] at h6
      injection h6 with h6
      injection h6 with h6 _ _
      subst h6
      refine ⟨_, _, _, setRow_heap w g cur _ e _ hg, fun u hu => ?_⟩
      simp only [List.mem_append] at hu
      rcases hu with (hu | hu) | hu
      · exact h7 u (List.mem_of_mem_take hu)
      · exact hn16 u hu
      · exact h7 u (List.mem_of_mem_drop hu)
    · have holds : ∀ j u, xs[j]? = some u → w.cell? ((⟨g, 0, none⟩ : Addr).add j) = some u := hown.cells (g := g) rfl
      have e0 := run_append_grow (P := P) w t ty e i z ht hi hz ⟨g, 0, none⟩ n cap xs hown.1 holds a m c news hl hnews (by omega) (by omega) (growslice_fits (by omega) hbytes)
      rw [e0] at hr
      injection hr with hv hw
      subst hv; subst hw
      intro g' hg'
      injection hg' with hg'
      subst hg'
      obtain ⟨cur', e', f', h6, h7⟩ := hNB g rfl
      rw [hg] at h6
      injection h6 with h6
      injection h6 with h6 _ _
      subst h6
      refine ⟨_, _, _, heap_alloc_new w.drew _, fun u hu => ?_⟩
      rw [Array.toList_append, Array.toList_append, List.mem_append, List.mem_append] at hu
      rcases hu with (hu | hu) | hu
      · rw [← htake] at hu; exact h7 u (List.mem_of_mem_take (by simpa using hu))
      · exact hn16 u (by simpa using hu)
      · exact zero_no16 hz16 hz0 _ u hu
end
section
variable {P : Program} {ops : Array Oper} {o : Oper} {k : Nat} {nx : G → World → Prop} {g : G} {w : World}
theorem hv_append16 {t e size bytes : Nat} {z : Array Value} {s x : Operand} {B : Nat} {v : Value} {m : Nat} {xs : List Value} {b len c : Nat} {news : Array Value} {tb : TypeId} (hbx : Bx w b news tb) (hw : wantO ops g o = true)
    (ho : o.op = .call { callee := .builtin .append, args := #[s, x], argTypes := #[t, t] }) (hz : slZ P t = some (e, size, z)) (hby : (P.info? e).map (·.bytes) = some bytes) (hzs : z.size = size) (hsz : 0 < size)
    (hs : evG g s = v) (hx : evG g x = .slice (some ⟨b, 0, none⟩) len c) (hown : w.ownsRow B e size v m xs) (hl : news.size = len * size) (h1 : ∀ u ∈ news.toList, u.oneCell' = true)
    (h63 : m + len ≤ maxLen) (hbytes : (m + len) * bytes ≤ 140737488355328) (hB : B ≤ w.heap.size) (hk : k ≠ 0) (hz16 : ∀ u ∈ z.toList, no16c u) (hn16 : ∀ u ∈ news.toList, no16c u) (hNB : NB w v)
    (h : ∀ v' w1, w1.ownsRow B e size v' (m + len) (xs ++ news.toList) → w.grownBy w1 v.ownBlock → (v'.ownBlock = v.ownBlock ∨ v'.ownBlock = some w.heap.size) → NB w1 v' → nx (updO g o.dst v') w1) : hvX P ops o k nx g w := by
  obtain ⟨i, hu, hi, hsize, hzc⟩ := slZ_some hz
  have hby' : i.bytes = bytes := by rw [hi] at hby; simpa using hby
  obtain ⟨zv, hzv, hzc'⟩ : ∃ zv, i.zero = some zv ∧ zv.cells = z := by
    unfold zeroC at hzc
    rw [hi] at hzc
    cases hzz : i.zero with
    | none => simp [hzz] at hzc
    | some zv => simp [hzz] at hzc; exact ⟨zv, rfl, hzc⟩
  obtain ⟨v', w', hr, h2, h3, h4, h5⟩ := run_append16 (P := P) w B t o.type e i zv size bytes hu hi hzv hsize hby' (by rw [hzc']; exact hzs) hsz v m xs hown ⟨b, 0, none⟩ len c news.toList (by simpa using hl) (fun j u hu => by rw [add_mk, hbx.cell]; simpa using hu) h1 h63 hbytes hB (by rw [hzc']; exact hz16) hn16 hNB
  refine hv_run hw (v := v') (w' := w') ?_ (fun e => absurd e hk) (h _ _ h2 h3 h4 h5)
  unfold execOp
  simp only [ho, resolve, invoke, builtin, Sem.run_bind, Sem.run_pure, Result.andThen_ok, List.map_toArray, List.map_cons, List.map_nil, hs, hx, hr]
end
end Go.Proofs.Ytkampmdekonjmaa
