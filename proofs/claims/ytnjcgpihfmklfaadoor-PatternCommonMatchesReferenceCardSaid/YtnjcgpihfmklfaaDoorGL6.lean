/-
  What functions of the program do, in a clean form, each with the proof that its code does so. Printed by a program.
-/
import Derived.Test.YtnjcgpihfmklfaaDoorGf
import Derived.Test.YtnjcgpihfmklfaaDoorPho
namespace Go.Proofs.YtnjcgpihfmklfaaDoor
open Go Go.Proofs.Tryd
set_option maxRecDepth 10000
set_option maxHeartbeats 4000000
/- 6 koine.koinelaw04.PatternCommonMatchesReference -/
def b6 (l_0 : Sl) (vm_1 : Sl) (R : VP) (F : PH) :=
 Spec prog 15 #[] F fun v F => ∃ v_16 : Bool, v = (.bool v_16) ∧
 Spec prog 16 #[(Sl.v l_0), (.int .i64 12)] F fun v F => ∃ v_18 : Sl, v = (Sl.v v_18) ∧
 Spec prog 16 #[(Sl.v vm_1), (.int .i64 12)] F fun v F => ∃ v_20 : Sl, v = (Sl.v v_20) ∧
 Spec prog 29 #[(Sl.v v_18)] F fun v F => ∃ v_23 : ByteArray, ∃ v_23_1 : Int, v = (.tuple #[(.string v_23), (.int .i64 v_23_1)]) ∧
 Spec prog 30 #[(Sl.v v_18)] F fun v F => ∃ v_28 : ByteArray, ∃ v_28_1 : Int, v = (.tuple #[(.string v_28), (.int .i64 v_28_1)]) ∧
 Spec prog 31 #[(Sl.v v_18), (Sl.v v_20)] F fun v F => ∃ v_34 : ByteArray, ∃ v_34_1 : Int, v = (.tuple #[(.string v_34), (.int .i64 v_34_1)]) ∧
 Spec prog 32 #[(Sl.v v_18), (Sl.v v_20)] F fun v F => ∃ v_40 : ByteArray, ∃ v_40_1 : Int, v = (.tuple #[(.string v_40), (.int .i64 v_40_1)]) ∧
 (((v_23.toList == v_28.toList) = true →
  ((v_23_1 = v_28_1 →
   (((v_34.toList == v_40.toList) = true →
    ((v_34_1 = v_40_1 →
     R (.bool v_16) F) ∧
    (¬ (v_34_1 = v_40_1) →
     R (.bool false) F))) ∧
   ((v_34.toList == v_40.toList) = false →
    R (.bool false) F))) ∧
  (¬ (v_23_1 = v_28_1) →
   R (.bool false) F))) ∧
 ((v_23.toList == v_28.toList) = false →
  R (.bool false) F))
theorem c6 {l_0 : Sl} {vm_1 : Sl} {R : VP} {F : PH} (h : b6 l_0 vm_1 R F) : Spec prog 6 #[(Sl.v l_0), (Sl.v vm_1)] F R := by
 refine spec_of (args := [(Sl.v l_0), (Sl.v vm_1)]) func6 rfl ntmps6 rfl ?_
 unfold b6 at h
 refine cR (sR (.bool false) (r_assign rfl rfl) ?_)
 refine HL_nil ?_
 refine cR ?_
 refine s_ef (k_call (vs := []) cb15 evN (h.mono ?_))
 clear h; rintro v F ⟨v_16, rfl, h⟩
 refine sR (.bool v_16) (r_assign rfl rfl) ?_
 refine HL_nil ?_
 refine cR (sR (Sl.v l_0) (r_move rfl rfl) ?_)
 refine s_ef (k_call (vs := [(Sl.v l_0), (.int .i64 12)]) cb16 (evC rfl (evC rfl evN)) (h.mono ?_))
 clear h; rintro v F ⟨v_18, rfl, h⟩
 refine sR (Sl.v v_18) (r_assign rfl rfl) ?_
 refine HL_nil ?_
 refine cR (sR (Sl.v vm_1) (r_move rfl rfl) ?_)
 refine s_ef (k_call (vs := [(Sl.v vm_1), (.int .i64 12)]) cb16 (evC rfl (evC rfl evN)) (h.mono ?_))
 clear h; rintro v F ⟨v_20, rfl, h⟩
 refine sR (Sl.v v_20) (r_assign rfl rfl) ?_
 refine HL_nil ?_
 refine cR (sR (Sl.v v_18) (r_move rfl rfl) ?_)
 refine s_ef (k_call (vs := [(Sl.v v_18)]) cb29 (evC rfl evN) (h.mono ?_))
 clear h; rintro v F ⟨v_23, v_23_1, rfl, h⟩
 refine sR (.tuple #[(.string v_23), (.int .i64 v_23_1)]) (r_move rfl rfl) ?_
 refine sR (.string v_23) (r_extract rfl rfl rfl) ?_
 refine sR (.int .i64 v_23_1) (r_extract rfl rfl rfl) ?_
 refine sR (.string v_23) (r_assign rfl rfl) ?_
 refine sR (.int .i64 v_23_1) (r_assign rfl rfl) ?_
 refine HL_nil ?_
 refine cR (sR (Sl.v v_18) (r_move rfl rfl) ?_)
 refine s_ef (k_call (vs := [(Sl.v v_18)]) cb30 (evC rfl evN) (h.mono ?_))
 clear h; rintro v F ⟨v_28, v_28_1, rfl, h⟩
 refine sR (.tuple #[(.string v_28), (.int .i64 v_28_1)]) (r_move rfl rfl) ?_
 refine sR (.string v_28) (r_extract rfl rfl rfl) ?_
 refine sR (.int .i64 v_28_1) (r_extract rfl rfl rfl) ?_
 refine sR (.string v_28) (r_assign rfl rfl) ?_
 refine sR (.int .i64 v_28_1) (r_assign rfl rfl) ?_
 refine HL_nil ?_
 refine cR (sR (Sl.v v_18) (r_move rfl rfl) ?_)
 refine sR (Sl.v v_20) (r_move rfl rfl) ?_
 refine s_ef (k_call (vs := [(Sl.v v_18), (Sl.v v_20)]) cb31 (evC rfl (evC rfl evN)) (h.mono ?_))
 clear h; rintro v F ⟨v_34, v_34_1, rfl, h⟩
 refine sR (.tuple #[(.string v_34), (.int .i64 v_34_1)]) (r_move rfl rfl) ?_
 refine sR (.string v_34) (r_extract rfl rfl rfl) ?_
 refine sR (.int .i64 v_34_1) (r_extract rfl rfl rfl) ?_
 refine sR (.string v_34) (r_assign rfl rfl) ?_
 refine sR (.int .i64 v_34_1) (r_assign rfl rfl) ?_
 refine HL_nil ?_
 refine cR (sR (Sl.v v_18) (r_move rfl rfl) ?_)
 refine sR (Sl.v v_20) (r_move rfl rfl) ?_
 refine s_ef (k_call (vs := [(Sl.v v_18), (Sl.v v_20)]) cb32 (evC rfl (evC rfl evN)) (h.mono ?_))
 clear h; rintro v F ⟨v_40, v_40_1, rfl, h⟩
 refine sR (.tuple #[(.string v_40), (.int .i64 v_40_1)]) (r_move rfl rfl) ?_
 refine sR (.string v_40) (r_extract rfl rfl rfl) ?_
 refine sR (.int .i64 v_40_1) (r_extract rfl rfl rfl) ?_
 refine sR (.string v_40) (r_assign rfl rfl) ?_
 refine sR (.int .i64 v_40_1) (r_assign rfl rfl) ?_
 refine HL_nil ?_
 refine cR (sR (.string v_23) (r_move rfl rfl) ?_)
 refine sR (.string v_28) (r_move rfl rfl) ?_
 refine sR (.bool (v_23.toList == v_28.toList)) (r_eqlS rfl rfl rfl) ?_
 refine sR (.bool (v_23.toList == v_28.toList)) (r_move rfl rfl) ?_
 by_cases hc : (v_23.toList == v_28.toList) = true
 replace h := h.1 hc
 refine kN 45 hc ?_
 refine kN 46 hc ?_
 refine sR (.int .i64 v_23_1) (r_move rfl rfl) ?_
 refine sR (.int .i64 v_28_1) (r_move rfl rfl) ?_
 refine sR (.bool (decide (v_23_1 = v_28_1))) (w_eql rfl rfl) ?_
 refine sR (.bool (decide (v_23_1 = v_28_1))) (r_pt rfl rfl) ?_
 refine sR (.bool (decide (v_23_1 = v_28_1))) (r_move rfl rfl) ?_
 by_cases hc : v_23_1 = v_28_1
 replace h := h.1 hc
 refine kN 49 (decide_eq_true hc) ?_
 refine kN 50 (decide_eq_true hc) ?_
 refine kN 51 (decide_eq_true hc) ?_
 refine sR (.string v_34) (r_move rfl rfl) ?_
 refine sR (.string v_40) (r_move rfl rfl) ?_
 refine sR (.bool (v_34.toList == v_40.toList)) (r_eqlS rfl rfl rfl) ?_
 refine sR (.bool (v_34.toList == v_40.toList)) (r_pt rfl rfl) ?_
 refine sR (.bool (v_34.toList == v_40.toList)) (r_move rfl rfl) ?_
 by_cases hc : (v_34.toList == v_40.toList) = true
 replace h := h.1 hc
 refine kN 54 hc ?_
 refine kN 55 hc ?_
 refine kN 56 hc ?_
 refine sR (.int .i64 v_34_1) (r_move rfl rfl) ?_
 refine sR (.int .i64 v_40_1) (r_move rfl rfl) ?_
 refine sR (.bool (decide (v_34_1 = v_40_1))) (w_eql rfl rfl) ?_
 refine sR (.bool (decide (v_34_1 = v_40_1))) (r_pt rfl rfl) ?_
 refine sR (.bool (decide (v_34_1 = v_40_1))) (r_move rfl rfl) ?_
 by_cases hc : v_34_1 = v_40_1
 replace h := h.1 hc
 refine kN 59 (decide_eq_true hc) ?_
 refine kN 60 (decide_eq_true hc) ?_
 refine kN 61 (decide_eq_true hc) ?_
 refine sR (.bool v_16) (r_move rfl rfl) ?_
 refine sR (.bool v_16) (r_pt rfl rfl) ?_
 refine sR (.bool v_16) (r_assign rfl rfl) ?_
 exact HL_nil (HC_ret (rt1 f6 R rfl rfl h))
 replace h := h.2 hc
 refine kN 59 (decide_eq_false hc) ?_
 refine kN 60 (decide_eq_false hc) ?_
 refine kN 61 (decide_eq_false hc) ?_
 refine s_skip ?_
 refine sR (.bool false) (r_pf rfl rfl) ?_
 refine sR (.bool false) (r_assign rfl rfl) ?_
 exact HL_nil (HC_ret (rt1 f6 R rfl rfl h))
 replace hc := eq_false_of_ne_true hc; replace h := h.2 hc
 refine kN 54 hc ?_
 refine kN 55 hc ?_
 refine kN 56 hc ?_
 iterate 3 refine s_skip ?_
 refine sR (.bool false) (r_pf rfl rfl) ?_
 refine sR (.bool false) (r_move rfl rfl) ?_
 refine s_skip ?_
 refine sR (.bool false) (r_pf rfl rfl) ?_
 refine sR (.bool false) (r_assign rfl rfl) ?_
 exact HL_nil (HC_ret (rt1 f6 R rfl rfl h))
 replace h := h.2 hc
 refine kN 49 (decide_eq_false hc) ?_
 refine kN 50 (decide_eq_false hc) ?_
 refine kN 51 (decide_eq_false hc) ?_
 iterate 3 refine s_skip ?_
 refine sR (.bool false) (r_pf rfl rfl) ?_
 refine sR (.bool false) (r_move rfl rfl) ?_
 iterate 3 refine s_skip ?_
 refine sR (.bool false) (r_pf rfl rfl) ?_
 refine sR (.bool false) (r_move rfl rfl) ?_
 refine s_skip ?_
 refine sR (.bool false) (r_pf rfl rfl) ?_
 refine sR (.bool false) (r_assign rfl rfl) ?_
 exact HL_nil (HC_ret (rt1 f6 R rfl rfl h))
 replace hc := eq_false_of_ne_true hc; replace h := h.2 hc
 refine kN 45 hc ?_
 refine kN 46 hc ?_
 iterate 3 refine s_skip ?_
 refine sR (.bool false) (r_pf rfl rfl) ?_
 refine sR (.bool false) (r_move rfl rfl) ?_
 iterate 3 refine s_skip ?_
 refine sR (.bool false) (r_pf rfl rfl) ?_
 refine sR (.bool false) (r_move rfl rfl) ?_
 iterate 3 refine s_skip ?_
 refine sR (.bool false) (r_pf rfl rfl) ?_
 refine sR (.bool false) (r_move rfl rfl) ?_
 refine s_skip ?_
 refine sR (.bool false) (r_pf rfl rfl) ?_
 refine sR (.bool false) (r_assign rfl rfl) ?_
 exact HL_nil (HC_ret (rt1 f6 R rfl rfl h))
end Go.Proofs.YtnjcgpihfmklfaaDoor
