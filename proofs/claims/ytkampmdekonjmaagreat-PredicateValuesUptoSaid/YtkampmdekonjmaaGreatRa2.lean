/- Rational numbers: the arithmetic. -/
import Derived.Test.YtkampmdekonjmaaGreatRa1
namespace Go.Proofs.YtkampmdekonjmaaGreat
open Go Go.RowKit Go.V
set_option linter.unusedSimpArgs false
set_option linter.unusedVariables false
set_option maxRecDepth 20000
def GR2 : Gam := gamOf [(57, ct_reduced), (69, ct_over), (76, ct_nbits), (77, ct_unit), (51, ct_one), (47, ct_isign), (59, ct_imul), (84, ct_iadd), (61, ct_nmul), (87, ct_iofi), (79, ct_nnorm), (83, ct_inorm), (48, ct_risign), (74, ct_ricmp), (70, ct_rimul), (88, ct_riadd), (89, ct_rineg), (71, ct_rmul), (90, ct_riof), (44, ct_rnof), (72, ct_rnorm), (78, ct_rinorm), (42, ct_rsame)]
theorem GR2_ok : GamOk Tryz.prog GR2 := gamOk_of ⟨ok_reduced, ok_over, ok_nbits, ok_unit, ok_one, ok_isign, ok_imul, ok_iadd, ok_nmul, ok_iofi, ok_nnorm, ok_inorm, ok_risign, ok_ricmp, ok_rimul, ok_riadd, ok_rineg, ok_rmul, ok_riof, ok_rnof, ok_rnorm, ok_rinorm, ok_rsame, trivial⟩
theorem GR2_reduced : GR2 57 = some ct_reduced := rfl
theorem GR2_over : GR2 69 = some ct_over := rfl
theorem GR2_nbits : GR2 76 = some ct_nbits := rfl
theorem GR2_unit : GR2 77 = some ct_unit := rfl
theorem GR2_one : GR2 51 = some ct_one := rfl
theorem GR2_isign : GR2 47 = some ct_isign := rfl
theorem GR2_imul : GR2 59 = some ct_imul := rfl
theorem GR2_iadd : GR2 84 = some ct_iadd := rfl
theorem GR2_nmul : GR2 61 = some ct_nmul := rfl
theorem GR2_iofi : GR2 87 = some ct_iofi := rfl
theorem GR2_nnorm : GR2 79 = some ct_nnorm := rfl
theorem GR2_inorm : GR2 83 = some ct_inorm := rfl
theorem GR2_risign : GR2 48 = some ct_risign := rfl
theorem GR2_ricmp : GR2 74 = some ct_ricmp := rfl
theorem GR2_rimul : GR2 70 = some ct_rimul := rfl
theorem GR2_riadd : GR2 88 = some ct_riadd := rfl
theorem GR2_rineg : GR2 89 = some ct_rineg := rfl
theorem GR2_rmul : GR2 71 = some ct_rmul := rfl
theorem GR2_riof : GR2 90 = some ct_riof := rfl
theorem GR2_rnof : GR2 44 = some ct_rnof := rfl
theorem GR2_rnorm : GR2 72 = some ct_rnorm := rfl
theorem GR2_rinorm : GR2 78 = some ct_rinorm := rfl
theorem GR2_rsame : GR2 42 = some ct_rsame := rfl
def tr_qof : Tr (List SA) := (.call 87 [(.n (.var 0))] 1 (.call 77 [] 2 (.leaf [(.r (.bit 1) (.var 1 1) (.var 2 0))])))
theorem ev_qof : Ct.ok Tryz.prog 62 { args := [[.n]], res := [[.r]], F := fun als => tr_qof.den GR2 (env0 als), L := 100000000, A := 0, B := 4 } :=
  top_ok (by kernel_rfl) GR2_ok (plans := planF) (lf := 60) (k := 20) (by kernel_rfl)
def tr_qsign : Tr (List SA) := (.call 76 [(.u (.var 0 2))] 1 (.br (.eq (.var 1) (.lit 0)) (.call 77 [] 2 (.call 47 [(.y (.lit false) .nil)] 3 (.leaf [(.n (.var 3))]))) (.call 47 [(.y (.bit 0) (.var 0 1))] 2 (.leaf [(.n (.var 2))]))))
theorem ev_qsign : Ct.ok Tryz.prog 17 { args := [[.r]], res := [[.n]], F := fun als => tr_qsign.den GR2 (env0 als), L := 100000000, A := 0, B := 0 } :=
  top_ok (by kernel_rfl) GR2_ok (plans := planF) (lf := 60) (k := 20) (by kernel_rfl)
def tr_qadd : Tr (List SA) := (.call 76 [(.u (.var 0 2))] 2 (.br (.eq (.var 2) (.lit 0)) (.call 77 [] 3 (.call 76 [(.u (.var 1 2))] 4 (.br (.eq (.var 4) (.lit 0)) (.call 77 [] 5 (.call 51 [(.u (.var 3 0))] 6 (.br (.var 6) (.call 51 [(.u (.var 5 0))] 7 (.br (.var 7) (.call 84 [(.y (.lit false) .nil), (.y (.lit false) .nil)] 8 (.call 84 [(.ob 8), (.y (.lit false) .nil)] 9 (.call 57 [(.ob 9), (.u (.var 3 0))] 10 (.leaf [(.ob 10)])))) (.call 59 [(.y (.lit false) .nil), (.y (.lit false) (.var 5 0))] 8 (.call 59 [(.y (.lit false) .nil), (.y (.lit false) (.var 3 0))] 9 (.call 84 [(.y (.lit false) .nil), (.ob 8)] 10 (.call 84 [(.ob 10), (.ob 9)] 11 (.call 61 [(.u (.var 3 0)), (.u (.var 5 0))] 12 (.call 57 [(.ob 11), (.u (.var 12 0))] 13 (.leaf [(.ob 13)]))))))))) (.call 59 [(.y (.lit false) .nil), (.y (.lit false) (.var 5 0))] 7 (.call 59 [(.y (.lit false) .nil), (.y (.lit false) (.var 3 0))] 8 (.call 84 [(.y (.lit false) .nil), (.ob 7)] 9 (.call 84 [(.ob 9), (.ob 8)] 10 (.call 61 [(.u (.var 3 0)), (.u (.var 5 0))] 11 (.call 57 [(.ob 10), (.u (.var 11 0))] 12 (.leaf [(.ob 12)])))))))))) (.call 51 [(.u (.var 3 0))] 5 (.br (.var 5) (.call 51 [(.u (.var 1 2))] 6 (.br (.var 6) (.call 84 [(.y (.lit false) .nil), (.y (.lit false) .nil)] 7 (.call 84 [(.ob 7), (.y (.bit 1) (.var 1 1))] 8 (.call 57 [(.ob 8), (.u (.var 3 0))] 9 (.leaf [(.ob 9)])))) (.call 59 [(.y (.lit false) .nil), (.y (.lit false) (.var 1 2))] 7 (.call 59 [(.y (.bit 1) (.var 1 1)), (.y (.lit false) (.var 3 0))] 8 (.call 84 [(.y (.lit false) .nil), (.ob 7)] 9 (.call 84 [(.ob 9), (.ob 8)] 10 (.call 61 [(.u (.var 3 0)), (.u (.var 1 2))] 11 (.call 57 [(.ob 10), (.u (.var 11 0))] 12 (.leaf [(.ob 12)]))))))))) (.call 59 [(.y (.lit false) .nil), (.y (.lit false) (.var 1 2))] 6 (.call 59 [(.y (.bit 1) (.var 1 1)), (.y (.lit false) (.var 3 0))] 7 (.call 84 [(.y (.lit false) .nil), (.ob 6)] 8 (.call 84 [(.ob 8), (.ob 7)] 9 (.call 61 [(.u (.var 3 0)), (.u (.var 1 2))] 10 (.call 57 [(.ob 9), (.u (.var 10 0))] 11 (.leaf [(.ob 11)])))))))))))) (.call 76 [(.u (.var 1 2))] 3 (.br (.eq (.var 3) (.lit 0)) (.call 77 [] 4 (.call 51 [(.u (.var 0 2))] 5 (.br (.var 5) (.call 51 [(.u (.var 4 0))] 6 (.br (.var 6) (.call 84 [(.y (.lit false) .nil), (.y (.bit 0) (.var 0 1))] 7 (.call 84 [(.ob 7), (.y (.lit false) .nil)] 8 (.call 57 [(.ob 8), (.u (.var 0 2))] 9 (.leaf [(.ob 9)])))) (.call 59 [(.y (.bit 0) (.var 0 1)), (.y (.lit false) (.var 4 0))] 7 (.call 59 [(.y (.lit false) .nil), (.y (.lit false) (.var 0 2))] 8 (.call 84 [(.y (.lit false) .nil), (.ob 7)] 9 (.call 84 [(.ob 9), (.ob 8)] 10 (.call 61 [(.u (.var 0 2)), (.u (.var 4 0))] 11 (.call 57 [(.ob 10), (.u (.var 11 0))] 12 (.leaf [(.ob 12)]))))))))) (.call 59 [(.y (.bit 0) (.var 0 1)), (.y (.lit false) (.var 4 0))] 6 (.call 59 [(.y (.lit false) .nil), (.y (.lit false) (.var 0 2))] 7 (.call 84 [(.y (.lit false) .nil), (.ob 6)] 8 (.call 84 [(.ob 8), (.ob 7)] 9 (.call 61 [(.u (.var 0 2)), (.u (.var 4 0))] 10 (.call 57 [(.ob 9), (.u (.var 10 0))] 11 (.leaf [(.ob 11)])))))))))) (.call 51 [(.u (.var 0 2))] 4 (.br (.var 4) (.call 51 [(.u (.var 1 2))] 5 (.br (.var 5) (.call 84 [(.y (.lit false) .nil), (.y (.bit 0) (.var 0 1))] 6 (.call 84 [(.ob 6), (.y (.bit 1) (.var 1 1))] 7 (.call 57 [(.ob 7), (.u (.var 0 2))] 8 (.leaf [(.ob 8)])))) (.call 59 [(.y (.bit 0) (.var 0 1)), (.y (.lit false) (.var 1 2))] 6 (.call 59 [(.y (.bit 1) (.var 1 1)), (.y (.lit false) (.var 0 2))] 7 (.call 84 [(.y (.lit false) .nil), (.ob 6)] 8 (.call 84 [(.ob 8), (.ob 7)] 9 (.call 61 [(.u (.var 0 2)), (.u (.var 1 2))] 10 (.call 57 [(.ob 9), (.u (.var 10 0))] 11 (.leaf [(.ob 11)]))))))))) (.call 59 [(.y (.bit 0) (.var 0 1)), (.y (.lit false) (.var 1 2))] 5 (.call 59 [(.y (.bit 1) (.var 1 1)), (.y (.lit false) (.var 0 2))] 6 (.call 84 [(.y (.lit false) .nil), (.ob 5)] 7 (.call 84 [(.ob 7), (.ob 6)] 8 (.call 61 [(.u (.var 0 2)), (.u (.var 1 2))] 9 (.call 57 [(.ob 8), (.u (.var 9 0))] 10 (.leaf [(.ob 10)])))))))))))))
theorem ev_qadd : Ct.ok Tryz.prog 27 { args := [[.r], [.r]], res := [[.r]], F := fun als => tr_qadd.den GR2 (env0 als), L := 100000000, A := 2, B := 6 } :=
  top_ok (by kernel_rfl) GR2_ok (plans := planF) (lf := 60) (k := 20) (by kernel_rfl)
def tr_qmul : Tr (List SA) := (.call 76 [(.u (.var 0 2))] 2 (.br (.eq (.var 2) (.lit 0)) (.call 77 [] 3 (.call 76 [(.u (.var 1 2))] 4 (.br (.eq (.var 4) (.lit 0)) (.call 77 [] 5 (.call 59 [(.y (.lit false) .nil), (.y (.lit false) .nil)] 6 (.call 61 [(.u (.var 3 0)), (.u (.var 5 0))] 7 (.call 57 [(.ob 6), (.u (.var 7 0))] 8 (.leaf [(.ob 8)]))))) (.call 59 [(.y (.lit false) .nil), (.y (.bit 1) (.var 1 1))] 5 (.call 61 [(.u (.var 3 0)), (.u (.var 1 2))] 6 (.call 57 [(.ob 5), (.u (.var 6 0))] 7 (.leaf [(.ob 7)]))))))) (.call 76 [(.u (.var 1 2))] 3 (.br (.eq (.var 3) (.lit 0)) (.call 77 [] 4 (.call 59 [(.y (.bit 0) (.var 0 1)), (.y (.lit false) .nil)] 5 (.call 61 [(.u (.var 0 2)), (.u (.var 4 0))] 6 (.call 57 [(.ob 5), (.u (.var 6 0))] 7 (.leaf [(.ob 7)]))))) (.call 59 [(.y (.bit 0) (.var 0 1)), (.y (.bit 1) (.var 1 1))] 4 (.call 61 [(.u (.var 0 2)), (.u (.var 1 2))] 5 (.call 57 [(.ob 4), (.u (.var 5 0))] 6 (.leaf [(.ob 6)]))))))))
theorem ev_qmul : Ct.ok Tryz.prog 30 { args := [[.r], [.r]], res := [[.r]], F := fun als => tr_qmul.den GR2 (env0 als), L := 100000000, A := 2, B := 4 } :=
  top_ok (by kernel_rfl) GR2_ok (plans := planF) (lf := 60) (k := 20) (by kernel_rfl)
def tr_rqnorm : Tr (List SA) := (.call 69 [(.y (.bit 0) (.var 0 1)), (.u (.var 0 2))] 1 (.leaf [(.ob 1)]))
theorem ev_rqnorm : Ct.ok Tryz.prog 49 { args := [[.r]], res := [[.r]], F := fun als => tr_rqnorm.den GR2 (env0 als), L := 100000000, A := 1, B := 4 } :=
  top_ok (by kernel_rfl) GR2_ok (plans := planF) (lf := 60) (k := 20) (by kernel_rfl)
def tr_rqof : Tr (List SA) := (.call 90 [(.n (.var 0))] 1 (.call 44 [(.w 1)] 2 (.call 69 [(.ob 1), (.u (.var 2 0))] 3 (.leaf [(.ob 3)]))))
theorem ev_rqof : Ct.ok Tryz.prog 68 { args := [[.n]], res := [[.r]], F := fun als => tr_rqof.den GR2 (env0 als), L := 100000000, A := 1, B := 8 } :=
  top_ok (by kernel_rfl) GR2_ok (plans := planF) (lf := 60) (k := 20) (by kernel_rfl)
def tr_rqsign : Tr (List SA) := (.call 69 [(.y (.bit 0) (.var 0 1)), (.u (.var 0 2))] 1 (.call 48 [(.y (.bit 1) (.var 1 1))] 2 (.leaf [(.n (.var 2))])))
theorem ev_rqsign : Ct.ok Tryz.prog 18 { args := [[.r]], res := [[.n]], F := fun als => tr_rqsign.den GR2 (env0 als), L := 100000000, A := 0, B := 0 } :=
  top_ok (by kernel_rfl) GR2_ok (plans := planF) (lf := 60) (k := 20) (by kernel_rfl)
def tr_rqcmp : Tr (List SA) := (.call 69 [(.y (.bit 0) (.var 0 1)), (.u (.var 0 2))] 2 (.call 69 [(.y (.bit 1) (.var 1 1)), (.u (.var 1 2))] 3 (.call 70 [(.y (.bit 2) (.var 2 1)), (.y (.lit false) (.var 3 2))] 4 (.call 70 [(.y (.bit 3) (.var 3 1)), (.y (.lit false) (.var 2 2))] 5 (.call 74 [(.ob 4), (.ob 5)] 6 (.leaf [(.n (.var 6))]))))))
theorem ev_rqcmp : Ct.ok Tryz.prog 45 { args := [[.r], [.r]], res := [[.n]], F := fun als => tr_rqcmp.den GR2 (env0 als), L := 100000000, A := 0, B := 0 } :=
  top_ok (by kernel_rfl) GR2_ok (plans := planF) (lf := 60) (k := 20) (by kernel_rfl)
def tr_rqneg : Tr (List SA) := (.call 89 [(.y (.bit 0) (.var 0 1))] 1 (.call 69 [(.ob 1), (.u (.var 0 2))] 2 (.leaf [(.ob 2)])))
theorem ev_rqneg : Ct.ok Tryz.prog 67 { args := [[.r]], res := [[.r]], F := fun als => tr_rqneg.den GR2 (env0 als), L := 100000000, A := 1, B := 4 } :=
  top_ok (by kernel_rfl) GR2_ok (plans := planF) (lf := 60) (k := 20) (by kernel_rfl)
def tr_rqadd : Tr (List SA) := (.call 69 [(.y (.bit 0) (.var 0 1)), (.u (.var 0 2))] 2 (.call 69 [(.y (.bit 1) (.var 1 1)), (.u (.var 1 2))] 3 (.call 70 [(.y (.bit 2) (.var 2 1)), (.y (.lit false) (.var 3 2))] 4 (.call 70 [(.y (.bit 3) (.var 3 1)), (.y (.lit false) (.var 2 2))] 5 (.call 88 [(.ob 4), (.ob 5)] 6 (.call 71 [(.u (.var 2 2)), (.u (.var 3 2))] 7 (.call 69 [(.ob 6), (.u (.var 7 0))] 8 (.leaf [(.ob 8)]))))))))
theorem ev_rqadd : Ct.ok Tryz.prog 66 { args := [[.r], [.r]], res := [[.r]], F := fun als => tr_rqadd.den GR2 (env0 als), L := 100000000, A := 2, B := 20 } :=
  top_ok (by kernel_rfl) GR2_ok (plans := planF) (lf := 60) (k := 20) (by kernel_rfl)
def tr_rqmul : Tr (List SA) := (.call 70 [(.y (.bit 0) (.var 0 1)), (.y (.bit 1) (.var 1 1))] 2 (.call 71 [(.u (.var 0 2)), (.u (.var 1 2))] 3 (.call 69 [(.ob 2), (.u (.var 3 0))] 4 (.leaf [(.ob 4)]))))
theorem ev_rqmul : Ct.ok Tryz.prog 39 { args := [[.r], [.r]], res := [[.r]], F := fun als => tr_rqmul.den GR2 (env0 als), L := 100000000, A := 2, B := 20 } :=
  top_ok (by kernel_rfl) GR2_ok (plans := planF) (lf := 60) (k := 20) (by kernel_rfl)
end Go.Proofs.YtkampmdekonjmaaGreat
