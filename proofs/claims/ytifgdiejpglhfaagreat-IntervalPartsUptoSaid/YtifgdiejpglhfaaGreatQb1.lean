/- Integers and natural numbers as numbers. -/
import Derived.Test.YtifgdiejpglhfaaGreatQa1
import Derived.Test.YtifgdiejpglhfaaGreatNc2
namespace Go.Proofs.YtifgdiejpglhfaaGreat
open Go Go.RowKit Go.V
set_option linter.unusedSimpArgs false
set_option linter.unusedVariables false
set_option maxRecDepth 20000
theorem evBit_q (x : Rat) : evBit (some (QA.at (.q x))) = some (decide (x.num < 0)) := rfl
theorem evBit_y (x : Int) : evBit (some (QA.at (.y x))) = some (decide (x < 0)) := rfl
theorem evLst_q1 (x : Rat) : evLst 1 (some (QA.at (.q x))) = some (lim x.num.natAbs) := rfl
theorem evLst_q2 (x : Rat) : evLst 2 (some (QA.at (.q x))) = some (lim x.den) := rfl
theorem evLst_y1 (x : Int) : evLst 1 (some (QA.at (.y x))) = some (lim x.natAbs) := rfl
theorem evLst_u0 (x : Nat) : evLst 0 (some (QA.at (.u x))) = some (lim x) := rfl
theorem evLen_q1 (x : Rat) : evLen 1 (some (QA.at (.q x))) = some ((lim x.num.natAbs).length : Int) := rfl
theorem evLen_q2 (x : Rat) : evLen 2 (some (QA.at (.q x))) = some ((lim x.den).length : Int) := rfl
theorem evLen_u0 (x : Nat) : evLen 0 (some (QA.at (.u x))) = some ((lim x).length : Int) := rfl
theorem at_y (z : Int) : At.y (decide (z < 0)) (lim z.natAbs) = QA.at (.y z) := rfl
theorem at_u (n : Nat) : At.u (lim n) = QA.at (.u n) := rfl
theorem at_yF (n : Nat) : At.y false (lim n) = QA.at (.y n) := by
  have h : decide ((n : Int) < 0) = false := decide_eq_false (by omega)
  simp only [QA.at, za, h, Int.natAbs_natCast]
theorem at_y0 : At.y false [] = QA.at (.y 0) := by
  have := at_yF 0
  rwa [lim_zero] at this
theorem lim_one1 : lim 1 = [1] := lim_1 1 (by decide) (by decide)
theorem at_u1 : At.u [1] = QA.at (.u 1) := by rw [← at_u, lim_one1]
theorem at_r1 (z : Int) : At.r (decide (z < 0)) (lim z.natAbs) (lim 1) = QA.at (.q (z : Rat)) := rfl
theorem f_nof1 : f_nof [.w 1] = some [QA.at (.u 1)] := by
  unfold f_nof
  exact if_pos (by decide)
def g_iadd : List QA → Option (List QA)
  | [.y a, .y b] => some [.y (a + b)]
  | _ => none
def g_imul : List QA → Option (List QA)
  | [.y a, .y b] => some [.y (a * b)]
  | _ => none
def g_ineg : List QA → Option (List QA)
  | [.y a] => some [.y (-a)]
  | _ => none
def g_isign : List QA → Option (List QA)
  | [.y a] => some [.n (sg a)]
  | _ => none
def g_idivm : List QA → Option (List QA)
  | [.y a, .y b] => some [.y (qq a b), .y (rr a b), .n (ee b)]
  | _ => none
def g_iof : List QA → Option (List QA)
  | [.n z] => if inI z then some [.y z] else none
  | _ => none
def g_shift : List QA → Option (List QA)
  | [.u n, .n z] => if 0 ≤ z ∧ z ≤ 400 then some [.u (n * 2 ^ z.toNat)] else none
  | _ => none
def g_nsqrt : List QA → Option (List QA)
  | [.u n] => some [.u (isq n), .u (n - isq n * isq n)]
  | _ => none
def g_make : List QA → Option (List QA)
  | [.y a, .y b] => some (if b = 0 then [.z, .n 3] else [.q ((a : Rat) / (b : Rat)), .n 0])
  | _ => none
def g_floor : List QA → Option (List QA)
  | [.q x] => some [.y x.floor]
  | _ => none
theorem vz_neg (z : Int) : vz (!decide (z < 0)) (lim z.natAbs) = -z := by
  unfold vz
  rw [iv_not, ← vz, vz_can]
def ct_diadd : Ct := { args := [[.y], [.y]], res := [[.y]], F := cq g_iadd, L := 1000000000, A := 1, B := 1 }
theorem ctF_diadd : ct_diadd.F = cq g_iadd := rfl
theorem ok_diadd : ct_diadd.ok Tryz.prog 86 := Ct.ok.weaken ok_iadd (of_cq (g := g_iadd) fun l r h => by
  unfold g_iadd at h
  split at h <;> first | (injection h with h; subst h; simp only [ctF_iadd, List.map, QA.at, qa, za, na, f_yyy, qv_qa, vz_can, val_lim]; done) | cases h | skip)
def ct_driadd : Ct := { args := [[.y], [.y]], res := [[.y]], F := cq g_iadd, L := 1000000000, A := 1, B := 1 }
theorem ctF_driadd : ct_driadd.F = cq g_iadd := rfl
theorem ok_driadd : ct_driadd.ok Tryz.prog 55 := Ct.ok.weaken ok_riadd (of_cq (g := g_iadd) fun l r h => by
  unfold g_iadd at h
  split at h <;> first | (injection h with h; subst h; simp only [ctF_riadd, List.map, QA.at, qa, za, na, f_yyy, qv_qa, vz_can, val_lim]; done) | cases h | skip)
def ct_dimul : Ct := { args := [[.y], [.y]], res := [[.y]], F := cq g_imul, L := 1000000000, A := 2, B := 0 }
theorem ctF_dimul : ct_dimul.F = cq g_imul := rfl
theorem ok_dimul : ct_dimul.ok Tryz.prog 81 := Ct.ok.weaken ok_imul (of_cq (g := g_imul) fun l r h => by
  unfold g_imul at h
  split at h <;> first | (injection h with h; subst h; simp only [ctF_imul, List.map, QA.at, qa, za, na, f_yyy, qv_qa, vz_can, val_lim]; done) | cases h | skip)
def ct_drimul : Ct := { args := [[.y], [.y]], res := [[.y]], F := cq g_imul, L := 1000000000, A := 2, B := 0 }
theorem ctF_drimul : ct_drimul.F = cq g_imul := rfl
theorem ok_drimul : ct_drimul.ok Tryz.prog 53 := Ct.ok.weaken ok_rimul (of_cq (g := g_imul) fun l r h => by
  unfold g_imul at h
  split at h <;> first | (injection h with h; subst h; simp only [ctF_rimul, List.map, QA.at, qa, za, na, f_yyy, qv_qa, vz_can, val_lim]; done) | cases h | skip)
def ct_drineg : Ct := { args := [[.y]], res := [[.y]], F := cq g_ineg, L := 1000000000, A := 1, B := 0 }
theorem ctF_drineg : ct_drineg.F = cq g_ineg := rfl
theorem ok_drineg : ct_drineg.ok Tryz.prog 91 := Ct.ok.weaken ok_rineg (of_cq (g := g_ineg) fun l r h => by
  unfold g_ineg at h
  split at h <;> first | (injection h with h; subst h; simp only [ctF_rineg, List.map, QA.at, qa, za, na, f_yy, vz_neg, qv_qa, vz_can, val_lim]; done) | cases h | skip)
def ct_disign : Ct := { args := [[.y]], res := [[.n]], F := cq g_isign, L := 1000000000000, A := 0, B := 0 }
theorem ctF_disign : ct_disign.F = cq g_isign := rfl
theorem ok_disign : ct_disign.ok Tryz.prog 84 := Ct.ok.weaken ok_isign (of_cq (g := g_isign) fun l r h => by
  unfold g_isign at h
  split at h <;> first | (injection h with h; subst h; simp only [ctF_isign, List.map, QA.at, qa, za, na, f_yn, qv_qa, vz_can, val_lim]; done) | cases h | skip)
def ct_didivm : Ct := { args := [[.y], [.y]], res := [[.y], [.y], [.n]], F := cq g_idivm, L := 1000000000, A := 1, B := 1 }
theorem ctF_didivm : ct_didivm.F = cq g_idivm := rfl
theorem ok_didivm : ct_didivm.ok Tryz.prog 83 := Ct.ok.weaken ok_idivm (of_cq (g := g_idivm) fun l r h => by
  unfold g_idivm at h
  split at h <;> first | (injection h with h; subst h; simp only [ctF_idivm, List.map, QA.at, qa, za, na, f_idiv, qv_qa, vz_can, val_lim]; done) | cases h | skip)
def ct_dnsqrt : Ct := { args := [[.u]], res := [[.u], [.u]], F := cq g_nsqrt, L := 100000, A := 1, B := 0 }
theorem ctF_dnsqrt : ct_dnsqrt.F = cq g_nsqrt := rfl
theorem ok_dnsqrt : ct_dnsqrt.ok Tryz.prog 94 := Ct.ok.weaken ok_nsqrt (of_cq (g := g_nsqrt) fun l r h => by
  unfold g_nsqrt at h
  split at h <;> first | (injection h with h; subst h; simp only [ctF_nsqrt, List.map, QA.at, qa, za, na, f_sqrt, qv_qa, vz_can, val_lim]; done) | cases h | skip)
def ct_drsqrt1 : Ct := { args := [[.u]], res := [[.u], [.u]], F := cq g_nsqrt, L := 100000, A := 1, B := 0 }
theorem ctF_drsqrt1 : ct_drsqrt1.F = cq g_nsqrt := rfl
theorem ok_drsqrt1 : ct_drsqrt1.ok Tryz.prog 96 := Ct.ok.weaken ok_rsqrt (of_cq (g := g_nsqrt) fun l r h => by
  unfold g_nsqrt at h
  split at h <;> first | (injection h with h; subst h; simp only [ctF_rsqrt, List.map, QA.at, qa, za, na, f_sqrt, qv_qa, vz_can, val_lim]; done) | cases h | skip)
def ct_drfloor : Ct := { args := [[.r]], res := [[.y]], F := cq g_floor, L := 100000000, A := 1, B := 8 }
theorem ctF_drfloor : ct_drfloor.F = cq g_floor := rfl
theorem ok_drfloor : ct_drfloor.ok Tryz.prog 44 := Ct.ok.weaken ok_rqfloor (of_cq (g := g_floor) fun l r h => by
  unfold g_floor at h
  split at h <;> first | (injection h with h; subst h; simp only [ctF_rqfloor, List.map, QA.at, qa, za, na, f_qfloor, qa, qv_qa, vz_can, val_lim]; done) | cases h | skip)
theorem iof_Q (l r : List QA) (h : g_iof l = some r) : f_iof (l.map QA.at) = some (r.map QA.at) := by
  unfold g_iof at h
  split at h
  · split at h
    · rename_i hz
      injection h with h; subst h
      simp only [List.map, QA.at, f_iof]
      exact if_pos hz
    · cases h
  · cases h
def ct_diof : Ct := { args := [[.n]], res := [[.y]], F := cq g_iof, L := 100000000000000, A := 0, B := 4 }
theorem ctF_diof : ct_diof.F = cq g_iof := rfl
theorem ok_diof : ct_diof.ok Tryz.prog 77 := Ct.ok.weaken ok_iofi (of_cq iof_Q)
def ct_driof : Ct := { args := [[.n]], res := [[.y]], F := cq g_iof, L := 100000000000000, A := 0, B := 4 }
theorem ctF_driof : ct_driof.F = cq g_iof := rfl
theorem ok_driof : ct_driof.ok Tryz.prog 56 := Ct.ok.weaken ok_riof (of_cq iof_Q)
theorem shift_Q (l r : List QA) (h : g_shift l = some r) : f_shift (l.map QA.at) = some (r.map QA.at) := by
  unfold g_shift at h
  split at h
  · split at h
    · rename_i hz
      injection h with h; subst h
      simp only [List.map, QA.at, na, f_shift, val_lim]
      rw [if_pos hz]
    · cases h
  · cases h
def ct_dshift : Ct := { args := [[.u], [.n]], res := [[.u]], F := cq g_shift, L := 100000000000, A := 1, B := 26 }
theorem ctF_dshift : ct_dshift.F = cq g_shift := rfl
theorem ok_dshift : ct_dshift.ok Tryz.prog 116 := Ct.ok.weaken ok_nshift (of_cq shift_Q)
def ct_drshift : Ct := { args := [[.u], [.n]], res := [[.u]], F := cq g_shift, L := 99999999999, A := 1, B := 26 }
theorem ctF_drshift : ct_drshift.F = cq g_shift := rfl
theorem ok_drshift : ct_drshift.ok Tryz.prog 122 := Ct.ok.weaken ok_rshift (of_cq shift_Q)
theorem make_Q (l r : List QA) (h : g_make l = some r) : f_qmake (l.map QA.at) = some (r.map QA.at) := by
  unfold g_make at h
  split at h
  · injection h with h; subst h
    simp only [List.map, QA.at, za, f_qmake, vz_can]
    split <;> rfl
  · cases h
def ct_dmake : Ct := { args := [[.y], [.y]], res := [[.r], [.n]], F := cq g_make, L := 100000000, A := 1, B := 4 }
theorem ctF_dmake : ct_dmake.F = cq g_make := rfl
theorem ok_dmake : ct_dmake.ok Tryz.prog 85 := Ct.ok.weaken ok_qmake (of_cq make_Q)
def ct_drmake : Ct := { args := [[.y], [.y]], res := [[.r], [.n]], F := cq g_make, L := 100000000, A := 1, B := 4 }
theorem ctF_drmake : ct_drmake.F = cq g_make := rfl
theorem ok_drmake : ct_drmake.ok Tryz.prog 80 := Ct.ok.weaken ok_rqmake (of_cq make_Q)
end Go.Proofs.YtifgdiejpglhfaaGreat
