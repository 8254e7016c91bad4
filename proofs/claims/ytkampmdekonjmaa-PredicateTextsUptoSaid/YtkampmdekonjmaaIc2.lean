/- Integers: more contracts, the specification's too. -/
import Derived.Test.YtkampmdekonjmaaNc1
namespace Go.Proofs.Ytkampmdekonjmaa
open Go Go.RowKit Go.V
set_option linter.unusedSimpArgs false
set_option linter.unusedVariables false
set_option maxRecDepth 20000

def f_yyn (g : Bool → List Nat → Bool → List Nat → Int) : List At → Option (List At)
  | [.y a l, .y b m] => some [.n (g a l b m)]
  | _ => none
theorem ok_yyn {P : Program} {f L : Nat} {g : Bool → List Nat → Bool → List Nat → Int}
    (h : ∀ neg peg l m a b c d w, RD w a c l → RD w b d m → l.length ≤ L → m.length ≤ L → Calls P f #[.agg #[.bool neg, .slice a l.length c], .agg #[.bool peg, .slice b m.length d]] w fun e w' => e = .returned (.int .i64 (g neg l peg m)) ∧ Below w.heap.size w w') : Ct.ok P f { args := [[.y], [.y]], res := [[.n]], F := f_yyn g, L := L, A := 0, B := 0 } := by
  intro s w vs als r hs hr hsz hF
  obtain ⟨a1, a2, v, u, rfl, rfl, h1, h2⟩ := vs2 hr
  obtain ⟨neg, l, a, c, rfl, rfl, r1⟩ := repV_y.1 h1
  obtain ⟨peg, m, b, d, rfl, rfl, r2⟩ := repV_y.1 h2
  have hF' : some [At.n (g neg l peg m)] = some r := hF
  injection hF' with hF'; subst hF'
  have s1 : l.length ≤ s := hsz (.y neg l) (by simp)
  have s2 : m.length ≤ s := hsz (.y peg m) (by simp)
  refine (h neg peg l m a b c d w r1 r2 (Nat.le_trans s1 hs) (Nat.le_trans s2 hs)).mono ?_
  rintro e w' ⟨he, hE⟩
  exact ret1 rfl he (repV_n.2 ⟨_, rfl, rfl⟩) (fun x hx => by simp at hx; subst hx; simp [At.sz]) hE
def f_idiv : List At → Option (List At)
  | [.y a l, .y b m] => some [za (qq (vz a l) (vz b m)), za (rr (vz a l) (vz b m)), .n (ee (vz b m))]
  | _ => none
theorem lz_le {z : Int} {x s : Nat} (h : z.natAbs ≤ x) (hx : (lim x).length ≤ s) : (lim z.natAbs).length ≤ s := lim_mono h hx
theorem qq_abs (z y : Int) : (qq z y).natAbs ≤ z.natAbs + 1 := by
  unfold qq
  split
  · simp
  · rename_i h
    have h1 := Int.natAbs_ediv_le_natAbs z y
    omega
theorem rr_abs (z y : Int) : (rr z y).natAbs ≤ y.natAbs := by
  unfold rr
  split
  · simp
  · rename_i h
    have h1 := Int.emod_nonneg z h
    have h2 := Int.emod_lt z h
    omega
theorem ok_idiv {P : Program} {f L : Nat} (h : ∀ neg peg l m a b c d w, RD w a c l → RD w b d m → l.length ≤ L → m.length ≤ L → Calls P f #[.agg #[.bool neg, .slice a l.length c], .agg #[.bool peg, .slice b m.length d]] w (RetQ w (vz neg l) (vz peg m))) : Ct.ok P f { args := [[.y], [.y]], res := [[.y], [.y], [.n]], F := f_idiv, L := L, A := 1, B := 1 } := by
  intro s w vs als r hs hr hsz hF
  obtain ⟨a1, a2, v, u, rfl, rfl, h1, h2⟩ := vs2 hr
  obtain ⟨neg, l, a, c, rfl, rfl, r1⟩ := repV_y.1 h1
  obtain ⟨peg, m, b, d, rfl, rfl, r2⟩ := repV_y.1 h2
  have hF' : some [za (qq (vz neg l) (vz peg m)), za (rr (vz neg l) (vz peg m)), At.n (ee (vz peg m))] = some r := hF
  injection hF' with hF'; subst hF'
  have s1 : l.length ≤ s := hsz (.y neg l) (by simp)
  have s2 : m.length ≤ s := hsz (.y peg m) (by simp)
  refine (h neg peg l m a b c d w r1 r2 (Nat.le_trans s1 hs) (Nat.le_trans s2 hs)).mono ?_
  rintro e w' ⟨a, c, a', c', rfl, g1, g2, hE⟩
  refine ret3 (r1 := [za (qq (vz neg l) (vz peg m))]) (r2 := [za (rr (vz neg l) (vz peg m))]) (r3 := [At.n (ee (vz peg m))]) rfl rfl (repV_y.2 ⟨_, _, a, c, rfl, rfl, g1⟩) (repV_y.2 ⟨_, _, a', c', rfl, rfl, g2⟩) (repV_n.2 ⟨_, rfl, rfl⟩) (fun x hx => ?_) hE
  have q1 := vz_lt (neg := neg) r1.ok s1
  have q2 := vz_lt (neg := peg) r2.ok s2
  simp at hx
  rcases hx with rfl | rfl | rfl
  · have h1 : (lim ((vz neg l).natAbs + 1)).length ≤ s + 1 := by
      rcases Nat.eq_zero_or_pos s with h0 | h0
      · subst h0
        have : (vz neg l).natAbs = 0 := by
          have h3 := vz_pow (neg := neg) r1.ok s1
          simp at h3; omega
        rw [this]; exact lim_len 1 _ (by decide)
      · exact lim_add_len q1 (Nat.le_trans (lim_len 1 1 (by decide)) h0)
    have := lz_le (qq_abs (vz neg l) (vz peg m)) h1
    simp only [za, At.sz]; omega
  · have := lz_le (rr_abs (vz neg l) (vz peg m)) q2
    simp only [za, At.sz]; omega
  · simp [At.sz]
def f_iof : List At → Option (List At)
  | [.n z] => if -9223372036854775808 ≤ z ∧ z < 9223372036854775808 then some [za z] else none
  | _ => none
theorem ok_iof {P : Program} {f : Nat} (h : ∀ (z : Int) w, -9223372036854775808 ≤ z → z < 9223372036854775808 → Calls P f #[.int .i64 z] w (RetI w z)) : Ct.ok P f { args := [[.n]], res := [[.y]], F := f_iof, L := 100000000000000, A := 0, B := 4 } := by
  intro s w vs als r hs hr hsz hF
  obtain ⟨v, rfl, h1⟩ := vs1 hr
  obtain ⟨z, rfl, rfl⟩ := repV_n.1 h1
  have hF' : (if -9223372036854775808 ≤ z ∧ z < 9223372036854775808 then some [za z] else none) = some r := hF
  split at hF'
  · rename_i hz
    injection hF' with hF'; subst hF'
    refine (h z w hz.1 hz.2).mono ?_
    intro e w' hret
    obtain ⟨v, he, hv, hE⟩ := hret.rep
    exact ret1 rfl he hv (fun x hx => by simp at hx; subst hx; have := lim_len 4 z.natAbs (by simp; omega); simp only [za, At.sz]; omega) hE
  · cases hF'
def f_itext : List At → Option (List At)
  | [.y a l] => some [.s (itxt (vz a l))]
  | _ => none
theorem ok_itext {P : Program} {f L : Nat} (h : ∀ neg l a c w, RD w a c l → l.length ≤ L → Calls P f #[.agg #[.bool neg, .slice a l.length c]] w (RetS w (itxt (vz neg l)))) : Ct.ok P f { args := [[.y]], res := [[.s]], F := f_itext, L := L, A := 0, B := 0 } := by
  intro s w vs als r hs hr hsz hF
  obtain ⟨v, rfl, h1⟩ := vs1 hr
  obtain ⟨neg, l, a, c, rfl, rfl, r1⟩ := repV_y.1 h1
  injection hF with hF; subst hF
  have s1 : l.length ≤ s := hsz (.y neg l) (by simp)
  refine (h neg l a c w r1 (Nat.le_trans s1 hs)).mono ?_
  rintro e w' ⟨he, hE⟩
  exact ret1 rfl he (repV_s.2 ⟨_, rfl, rfl⟩) (fun x hx => by simp at hx; subst hx; simp [At.sz]) hE
def ct_icmpp : Ct := { args := [[.y], [.y]], res := [[.n]], F := f_yyn fun a l b m => icmp (vz a l) (vz b m), L := 100000000000, A := 0, B := 0 }
theorem ctF_icmpp : ct_icmpp.F = f_yyn fun a l b m => icmp (vz a l) (vz b m) := rfl
theorem ok_icmpp : ct_icmpp.ok Try.prog 143 := ok_yyn (fun neg peg l m a b c d w hr hs hl hm => iCmp_any neg peg l m a b c d w hr hs (by unfold lenB; omega) (by unfold lenB; omega))
def ct_iofi : Ct := { args := [[.n]], res := [[.y]], F := f_iof, L := 100000000000000, A := 0, B := 4 }
theorem ctF_iofi : ct_iofi.F = f_iof := rfl
theorem ok_iofi : ct_iofi.ok Try.prog 90 := ok_iof (fun z w h1 h2 => iOf_any z w h1 h2)
def ct_riof : Ct := { args := [[.n]], res := [[.y]], F := f_iof, L := 100000000000000, A := 0, B := 4 }
theorem ctF_riof : ct_riof.F = f_iof := rfl
theorem ok_riof : ct_riof.ok Try.prog 49 := ok_iof (fun z w h1 h2 => iOfR_any z w h1 h2)
def ct_riadd : Ct := { args := [[.y], [.y]], res := [[.y]], F := f_yyy fun a l b m => vz a l + vz b m, L := 1000000000, A := 1, B := 1 }
theorem ctF_riadd : ct_riadd.F = f_yyy fun a l b m => vz a l + vz b m := rfl
theorem ok_riadd : ct_riadd.ok Try.prog 107 := ok_yyy (fun neg peg l m a b c d w hr hs hl hm => iAddR_any neg peg l m a b c d w hr hs hl hm) (fun neg l peg m s h1 h2 h3 h4 => by rw [Nat.one_mul]; exact lz_add' (vz_lt h1 h3) (vz_lt h2 h4))
def ct_rimul : Ct := { args := [[.y], [.y]], res := [[.y]], F := f_yyy fun a l b m => vz a l * vz b m, L := 1000000000, A := 2, B := 0 }
theorem ctF_rimul : ct_rimul.F = f_yyy fun a l b m => vz a l * vz b m := rfl
theorem ok_rimul : ct_rimul.ok Try.prog 108 := ok_yyy (fun neg peg l m a b c d w hr hs hl hm => iMulR_any neg peg l m a b c d w hr hs hl hm) (fun neg l peg m s h1 h2 h3 h4 => by have := lz_mul' (s := s) (t := s) (vz_pow (neg := neg) h1 h3) (vz_pow (neg := peg) h2 h4); omega)
def ct_rineg : Ct := { args := [[.y]], res := [[.y]], F := f_yy fun a l => vz (!a) l, L := 1000000000, A := 1, B := 0 }
theorem ctF_rineg : ct_rineg.F = f_yy fun a l => vz (!a) l := rfl
theorem ok_rineg : ct_rineg.ok Try.prog 84 := ok_yy (fun neg l a c w hr hl => iNegR_any neg l a c w hr (by unfold lenB; omega)) (fun neg l s h1 h3 => by rw [Nat.one_mul]; exact vz_lt h1 h3)
def ct_rinorm : Ct := { args := [[.y]], res := [[.y]], F := f_yy fun a l => vz a l, L := 1000000000, A := 1, B := 0 }
theorem ctF_rinorm : ct_rinorm.F = f_yy fun a l => vz a l := rfl
theorem ok_rinorm : ct_rinorm.ok Try.prog 75 := ok_yy (fun neg l a c w hr hl => iNormR_any neg l a c w hr (by unfold lenB; omega)) (fun neg l s h1 h3 => by rw [Nat.one_mul]; exact vz_lt h1 h3)
def ct_riright : Ct := { args := [[.y]], res := [[.b]], F := f_yb iRight, L := 1000000000000, A := 0, B := 0 }
theorem ctF_riright : ct_riright.F = f_yb iRight := rfl
theorem ok_riright : ct_riright.ok Try.prog 61 := ok_yb (fun neg l a c w hr hl => iRightR_any neg l a c w hr hl)
def ct_risign : Ct := { args := [[.y]], res := [[.n]], F := f_yn fun a l => sg (vz a l), L := 1000000000000, A := 0, B := 0 }
theorem ctF_risign : ct_risign.F = f_yn fun a l => sg (vz a l) := rfl
theorem ok_risign : ct_risign.ok Try.prog 37 := ok_yn (fun neg l a c w hr hl => iSignR_any neg l a c w hr hl)
def ct_itextp : Ct := { args := [[.y]], res := [[.s]], F := f_itext, L := 100000, A := 0, B := 0 }
theorem ctF_itextp : ct_itextp.F = f_itext := rfl
theorem ok_itextp : ct_itextp.ok Try.prog 68 := ok_itext (fun neg l a c w hr hl => iText_any neg l a c w hr hl)
def ct_ritext : Ct := { args := [[.y]], res := [[.s]], F := f_itext, L := 100000, A := 0, B := 0 }
theorem ctF_ritext : ct_ritext.F = f_itext := rfl
theorem ok_ritext : ct_ritext.ok Try.prog 73 := ok_itext (fun neg l a c w hr hl => iTextR_any neg l a c w hr hl)
end Go.Proofs.Ytkampmdekonjmaa
