/-
  What functions of the program do, in a clean form, each with the proof that its code does so. Printed by a program.
-/
import Derived.Test.YtnjcgpihfmklfaaDoorGf
import Derived.Test.YtnjcgpihfmklfaaDoorPho
namespace Go.Proofs.YtnjcgpihfmklfaaDoor
open Go Go.Proofs.Tryd
set_option maxRecDepth 10000
set_option maxHeartbeats 4000000
/- 34 koine.koinelaw04.uses -/
def b34j1 (i_1 : Int) (b2 : Nat) (binary_5 : Bool) (R : VP) (F : PH) :=
 ∃ v_15 : Int, F.cell (Addr.mk b2 0 none) = some (.int .i64 v_15) ∧
 ((v_15 = 4 →
  ∃ v_19 : Int, F.cell (Addr.mk b2 3 none) = some (.int .i64 v_19) ∧
  ((v_19 = i_1 →
   R (.bool true) F) ∧
  (¬ (v_19 = i_1) →
   ((binary_5 = true →
    ∃ v_27 : Int, F.cell (Addr.mk b2 3 none) = some (.int .i64 v_27) ∧
    ((v_27 = i_1 →
     R (.bool true) F) ∧
    (¬ (v_27 = i_1) →
     ∃ v_32 : Int, F.cell (Addr.mk b2 4 none) = some (.int .i64 v_32) ∧
     R (.bool (decide (v_32 = i_1))) F))) ∧
   (binary_5 = false →
    R (.bool false) F))))) ∧
 (¬ (v_15 = 4) →
  ((binary_5 = true →
   ∃ v_27_1 : Int, F.cell (Addr.mk b2 3 none) = some (.int .i64 v_27_1) ∧
   ((v_27_1 = i_1 →
    R (.bool true) F) ∧
   (¬ (v_27_1 = i_1) →
    ∃ v_32_1 : Int, F.cell (Addr.mk b2 4 none) = some (.int .i64 v_32_1) ∧
    R (.bool (decide (v_32_1 = i_1))) F))) ∧
  (binary_5 = false →
   R (.bool false) F))))
abbrev b34J1 (i_1 : Int) (b2 : Nat) (R : VP) (E : En) (F : PH) : Prop := ∃ binary_5 : Bool, E 1 = (.int .i64 i_1) ∧ E 2 = (.pointer (some (Addr.mk b2 0 none))) ∧ E 5 = (.bool binary_5) ∧ b34j1 i_1 b2 binary_5 R F
def b34 (x_0 : Array Value) (i_1 : Int) (R : VP) (F : PH) :=
 ∀ b2, F b2 = none → atF (F.set b2 (.cells x_0 50)) fun F =>
 ∃ v_7 : Int, F.cell (Addr.mk b2 0 none) = some (.int .i64 v_7) ∧
 ((v_7 = 2 →
  b34j1 i_1 b2 true R F) ∧
 (¬ (v_7 = 2) →
  ∃ v_11 : Int, F.cell (Addr.mk b2 0 none) = some (.int .i64 v_11) ∧
  b34j1 i_1 b2 (decide (v_11 = 3)) R F))
theorem c34 {x_0 : Array Value} {i_1 : Int} {R : VP} {F : PH} (h : b34 x_0 i_1 R F) : Spec prog 34 #[(.agg x_0), (.int .i64 i_1)] F R := by
 refine spec_of (args := [(.agg x_0), (.int .i64 i_1)]) func34 rfl ntmps34 rfl ?_
 unfold b34 at h
 refine cR ?_
 refine s_ef (k_box (cs := x_0) rfl rfl ?_)
 intro b2 hf_b2
 replace h := atE (h b2 hf_b2)
 refine sR (.bool false) (r_assign rfl rfl) ?_
 refine HL_nil ?_
 refine HC_seqJ (b34J1 i_1 b2 R) ?_ ?_
 clear h; rintro E F ⟨binary_5, h1, h2, h5, h⟩
 unfold b34j1 at h
 refine cR (sR (.pointer (some (Addr.mk b2 0 none))) (w_fieldAddr h2 underlying50 rfl rfl sz3 rfl rfl) ?_)
 obtain ⟨v_15, hc15, h⟩ := h
 refine sR (.int .i64 v_15) (r_load1 rfl rfl underlying3 rfl hc15) ?_
 refine sR (.bool (decide (v_15 = 4))) (w_eql rfl rfl) ?_
 refine sR (.bool (decide (v_15 = 4))) (r_move rfl rfl) ?_
 by_cases hc : v_15 = 4
 replace h := h.1 hc
 refine kN 16 (decide_eq_true hc) ?_
 refine kN 17 (decide_eq_true hc) ?_
 refine sR (.pointer (some (Addr.mk b2 3 none))) (w_fieldAddr h2 underlying50 rfl rfl sz3 rfl rfl) ?_
 obtain ⟨v_19, hc19, h⟩ := h
 refine sR (.int .i64 v_19) (r_load1 rfl rfl underlying3 rfl hc19) ?_
 refine sR _ (r_move rfl h1) ?_
 refine sR (.bool (decide (v_19 = i_1))) (w_eql rfl rfl) ?_
 refine sR (.bool (decide (v_19 = i_1))) (r_pt rfl rfl) ?_
 refine sR (.bool (decide (v_19 = i_1))) (r_move rfl rfl) ?_
 by_cases hc : v_19 = i_1
 replace h := h.1 hc
 refine kN 21 (decide_eq_true hc) ?_
 refine kN 22 (decide_eq_true hc) ?_
 refine kN 23 (decide_eq_true hc) ?_
 iterate 13 refine s_skip ?_
 refine sR (.bool true) (r_pt rfl rfl) ?_
 refine sR (.bool true) (r_assign rfl rfl) ?_
 exact HL_nil (HC_ret (rt1 f34 R rfl rfl h))
 replace h := h.2 hc
 refine kN 21 (decide_eq_false hc) ?_
 refine kN 22 (decide_eq_false hc) ?_
 refine kN 23 (decide_eq_false hc) ?_
 refine sR _ (r_move rfl h5) ?_
 refine sR (.bool binary_5) (r_move rfl rfl) ?_
 by_cases hc : binary_5 = true
 replace h := h.1 hc
 refine HL_known (t := 5) (v := .bool true) (h5.trans (congrArg Value.bool hc)) ?_
 refine kN 24 hc ?_
 refine kN 25 hc ?_
 refine sR (.pointer (some (Addr.mk b2 3 none))) (w_fieldAddr h2 underlying50 rfl rfl sz3 rfl rfl) ?_
 obtain ⟨v_27, hc27, h⟩ := h
 refine sR (.int .i64 v_27) (r_load1 rfl rfl underlying3 rfl hc27) ?_
 refine sR _ (r_move rfl h1) ?_
 refine sR (.bool (decide (v_27 = i_1))) (w_eql rfl rfl) ?_
 refine sR (.bool (decide (v_27 = i_1))) (r_move rfl rfl) ?_
 by_cases hc : v_27 = i_1
 replace h := h.1 hc
 refine kN 29 (decide_eq_true hc) ?_
 refine kN 30 (decide_eq_true hc) ?_
 iterate 4 refine s_skip ?_
 refine sR (.bool true) (r_pt rfl rfl) ?_
 refine sR (.bool true) (r_pt rfl rfl) ?_
 refine sR (.bool true) (r_pf rfl rfl) ?_
 refine sR (.bool true) (r_assign rfl rfl) ?_
 exact HL_nil (HC_ret (rt1 f34 R rfl rfl h))
 replace h := h.2 hc
 refine kN 29 (decide_eq_false hc) ?_
 refine kN 30 (decide_eq_false hc) ?_
 refine sR (.pointer (some (Addr.mk b2 4 none))) (w_fieldAddr h2 underlying50 rfl rfl sz3 rfl rfl) ?_
 obtain ⟨v_32, hc32, h⟩ := h
 refine sR (.int .i64 v_32) (r_load1 rfl rfl underlying3 rfl hc32) ?_
 refine sR _ (r_move rfl h1) ?_
 refine sR (.bool (decide (v_32 = i_1))) (w_eql rfl rfl) ?_
 refine sR (.bool (decide (v_32 = i_1))) (r_pf rfl rfl) ?_
 refine sR (.bool (decide (v_32 = i_1))) (r_pt rfl rfl) ?_
 refine sR (.bool (decide (v_32 = i_1))) (r_pf rfl rfl) ?_
 refine sR (.bool (decide (v_32 = i_1))) (r_assign rfl rfl) ?_
 exact HL_nil (HC_ret (rt1 f34 R rfl rfl h))
 replace hc := eq_false_of_ne_true hc; replace h := h.2 hc
 refine HL_known (t := 5) (v := .bool false) (h5.trans (congrArg Value.bool hc)) ?_
 refine kN 24 hc ?_
 refine kN 25 hc ?_
 iterate 10 refine s_skip ?_
 refine sR (.bool false) (r_pf rfl rfl) ?_
 refine sR (.bool false) (r_pf rfl rfl) ?_
 refine sR (.bool false) (r_assign rfl rfl) ?_
 exact HL_nil (HC_ret (rt1 f34 R rfl rfl h))
 replace h := h.2 hc
 refine kN 16 (decide_eq_false hc) ?_
 refine kN 17 (decide_eq_false hc) ?_
 iterate 4 refine s_skip ?_
 refine sR (.bool false) (r_pf rfl rfl) ?_
 refine sR (.bool false) (r_move rfl rfl) ?_
 refine sR _ (r_move rfl h5) ?_
 refine sR (.bool binary_5) (r_move rfl rfl) ?_
 by_cases hc : binary_5 = true
 replace h := h.1 hc
 refine HL_known (t := 5) (v := .bool true) (h5.trans (congrArg Value.bool hc)) ?_
 refine kN 24 hc ?_
 refine kN 25 hc ?_
 refine sR (.pointer (some (Addr.mk b2 3 none))) (w_fieldAddr h2 underlying50 rfl rfl sz3 rfl rfl) ?_
 obtain ⟨v_27_1, hc27, h⟩ := h
 refine sR (.int .i64 v_27_1) (r_load1 rfl rfl underlying3 rfl hc27) ?_
 refine sR _ (r_move rfl h1) ?_
 refine sR (.bool (decide (v_27_1 = i_1))) (w_eql rfl rfl) ?_
 refine sR (.bool (decide (v_27_1 = i_1))) (r_move rfl rfl) ?_
 by_cases hc : v_27_1 = i_1
 replace h := h.1 hc
 refine kN 29 (decide_eq_true hc) ?_
 refine kN 30 (decide_eq_true hc) ?_
 iterate 4 refine s_skip ?_
 refine sR (.bool true) (r_pt rfl rfl) ?_
 refine sR (.bool true) (r_pt rfl rfl) ?_
 refine sR (.bool true) (r_pf rfl rfl) ?_
 refine sR (.bool true) (r_assign rfl rfl) ?_
 exact HL_nil (HC_ret (rt1 f34 R rfl rfl h))
 replace h := h.2 hc
 refine kN 29 (decide_eq_false hc) ?_
 refine kN 30 (decide_eq_false hc) ?_
 refine sR (.pointer (some (Addr.mk b2 4 none))) (w_fieldAddr h2 underlying50 rfl rfl sz3 rfl rfl) ?_
 obtain ⟨v_32_1, hc32, h⟩ := h
 refine sR (.int .i64 v_32_1) (r_load1 rfl rfl underlying3 rfl hc32) ?_
 refine sR _ (r_move rfl h1) ?_
 refine sR (.bool (decide (v_32_1 = i_1))) (w_eql rfl rfl) ?_
 refine sR (.bool (decide (v_32_1 = i_1))) (r_pf rfl rfl) ?_
 refine sR (.bool (decide (v_32_1 = i_1))) (r_pt rfl rfl) ?_
 refine sR (.bool (decide (v_32_1 = i_1))) (r_pf rfl rfl) ?_
 refine sR (.bool (decide (v_32_1 = i_1))) (r_assign rfl rfl) ?_
 exact HL_nil (HC_ret (rt1 f34 R rfl rfl h))
 replace hc := eq_false_of_ne_true hc; replace h := h.2 hc
 refine HL_known (t := 5) (v := .bool false) (h5.trans (congrArg Value.bool hc)) ?_
 refine kN 24 hc ?_
 refine kN 25 hc ?_
 iterate 10 refine s_skip ?_
 refine sR (.bool false) (r_pf rfl rfl) ?_
 refine sR (.bool false) (r_pf rfl rfl) ?_
 refine sR (.bool false) (r_assign rfl rfl) ?_
 exact HL_nil (HC_ret (rt1 f34 R rfl rfl h))
 refine HC_region ?_
 refine sR (.pointer (some (Addr.mk b2 0 none))) (w_fieldAddr rfl underlying50 rfl rfl sz3 rfl rfl) ?_
 obtain ⟨v_7, hc7, h⟩ := h
 refine sR (.int .i64 v_7) (r_load1 rfl rfl underlying3 rfl hc7) ?_
 refine sR (.bool (decide (v_7 = 2))) (w_eql rfl rfl) ?_
 refine sR (.bool (decide (v_7 = 2))) (r_move rfl rfl) ?_
 by_cases hc : v_7 = 2
 replace h := h.1 hc
 refine kN 8 (decide_eq_true hc) ?_
 refine kN 9 (decide_eq_true hc) ?_
 iterate 3 refine s_skip ?_
 refine sR (.bool true) (r_pt rfl rfl) ?_
 refine sR (.bool true) (r_assign rfl rfl) ?_
 refine HL_nil ?_
 show b34J1 i_1 b2 R _ _
 exact ⟨_, rfl, rfl, rfl, h⟩
 replace h := h.2 hc
 refine kN 8 (decide_eq_false hc) ?_
 refine kN 9 (decide_eq_false hc) ?_
 refine sR (.pointer (some (Addr.mk b2 0 none))) (w_fieldAddr rfl underlying50 rfl rfl sz3 rfl rfl) ?_
 obtain ⟨v_11, hc11, h⟩ := h
 refine sR (.int .i64 v_11) (r_load1 rfl rfl underlying3 rfl hc11) ?_
 refine sR (.bool (decide (v_11 = 3))) (w_eql rfl rfl) ?_
 refine sR (.bool (decide (v_11 = 3))) (r_pf rfl rfl) ?_
 refine sR (.bool (decide (v_11 = 3))) (r_assign rfl rfl) ?_
 refine HL_nil ?_
 show b34J1 i_1 b2 R _ _
 exact ⟨_, rfl, rfl, rfl, h⟩
 /- 35 koine.koinelaw04.exchanged -/
def b35 (k_0 : Int) (i_1 : Int) (R : VP) (F : PH) :=
 ((k_0 = i_1 →
  R (.int .i64 (IntKind.i64.wrap (i_1 + 1))) F) ∧
 (¬ (k_0 = i_1) →
  ((k_0 = (IntKind.i64.wrap (i_1 + 1)) →
   R (.int .i64 i_1) F) ∧
  (¬ (k_0 = (IntKind.i64.wrap (i_1 + 1))) →
   R (.int .i64 k_0) F))))
theorem c35 {k_0 : Int} {i_1 : Int} {R : VP} {F : PH} (h : b35 k_0 i_1 R F) : Spec prog 35 #[(.int .i64 k_0), (.int .i64 i_1)] F R := by
 refine spec_of (args := [(.int .i64 k_0), (.int .i64 i_1)]) func35 rfl ntmps35 rfl ?_
 unfold b35 at h
 refine cR (sR (.int .i64 0) (r_assign rfl rfl) ?_)
 refine HL_nil ?_
 refine HC_seq ?_
 refine cR (sR (.int .i64 k_0) (r_move rfl rfl) ?_)
 refine sR (.int .i64 i_1) (r_move rfl rfl) ?_
 refine sR (.bool (decide (k_0 = i_1))) (w_eql rfl rfl) ?_
 refine HL_nil ?_
 refine HC_cond (t := (decide (k_0 = i_1))) rfl (fun hc => ?_) (fun hc => ?_)
 replace h := h.1 (of_decide_eq_true hc)
 clear hc
 refine cR (sR (.int .i64 i_1) (r_move rfl rfl) ?_)
 refine sR (.int .i64 (IntKind.i64.wrap (i_1 + 1))) (r_add rfl rfl rfl) ?_
 refine sR (.int .i64 (IntKind.i64.wrap (i_1 + 1))) (r_assign rfl rfl) ?_
 exact HL_nil (HC_ret (rt1 f35 R rfl rfl h))
 replace h := h.2 (of_decide_eq_false hc)
 clear hc
 refine HC_skip ?_
 refine HC_seq ?_
 refine cR (sR (.int .i64 k_0) (r_move rfl rfl) ?_)
 refine sR (.int .i64 i_1) (r_move rfl rfl) ?_
 refine sR (.int .i64 (IntKind.i64.wrap (i_1 + 1))) (r_add rfl rfl rfl) ?_
 refine sR (.bool (decide (k_0 = (IntKind.i64.wrap (i_1 + 1))))) (w_eql rfl rfl) ?_
 refine HL_nil ?_
 refine HC_cond (t := (decide (k_0 = (IntKind.i64.wrap (i_1 + 1))))) rfl (fun hc => ?_) (fun hc => ?_)
 replace h := h.1 (of_decide_eq_true hc)
 clear hc
 refine cR (sR (.int .i64 i_1) (r_move rfl rfl) ?_)
 refine sR (.int .i64 i_1) (r_assign rfl rfl) ?_
 exact HL_nil (HC_ret (rt1 f35 R rfl rfl h))
 replace h := h.2 (of_decide_eq_false hc)
 clear hc
 refine HC_skip ?_
 refine cR (sR (.int .i64 k_0) (r_move rfl rfl) ?_)
 refine sR (.int .i64 k_0) (r_assign rfl rfl) ?_
 exact HL_nil (HC_ret (rt1 f35 R rfl rfl h))
end Go.Proofs.YtnjcgpihfmklfaaDoor
