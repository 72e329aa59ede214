/-
  What functions of the program do, in a clean form, each with the proof that its code does so. Printed by a program.
-/
import Derived.Test.YtnjcgpihfmklfaaDoorGf
import Derived.Test.YtnjcgpihfmklfaaDoorPho
import Derived.Test.YtnjcgpihfmklfaaDoorPhp
namespace Go.Proofs.YtnjcgpihfmklfaaDoor
open Go Go.Proofs.Tryd
set_option maxRecDepth 10000
set_option maxHeartbeats 4000000
/- 51 koine.koineref04.valid -/
def b51j2 (i_1 : Int) (b5 : Nat) (v_15 : Int) (R : VP) (F : PH) :=
 ((v_15 < 1 →
  ((v_15 < 2 →
   R (.bool true) F) ∧
  (¬ (v_15 < 2) →
   ∃ v_86 : Int, F.cell (Addr.mk b5 4 none) = some (.int .i64 v_86) ∧
   ((0 ≤ v_86 →
    ∃ v_90 : Int, F.cell (Addr.mk b5 4 none) = some (.int .i64 v_90) ∧
    R (.bool (decide (v_90 < i_1))) F) ∧
   (¬ (0 ≤ v_86) →
    R (.bool false) F))))) ∧
 (¬ (v_15 < 1) →
  ∃ v_72 : Int, F.cell (Addr.mk b5 3 none) = some (.int .i64 v_72) ∧
  ((0 ≤ v_72 →
   ∃ v_76 : Int, F.cell (Addr.mk b5 3 none) = some (.int .i64 v_76) ∧
   ((v_76 < i_1 →
    ((v_15 < 2 →
     R (.bool true) F) ∧
    (¬ (v_15 < 2) →
     ∃ v_86_1 : Int, F.cell (Addr.mk b5 4 none) = some (.int .i64 v_86_1) ∧
     ((0 ≤ v_86_1 →
      ∃ v_90_1 : Int, F.cell (Addr.mk b5 4 none) = some (.int .i64 v_90_1) ∧
      R (.bool (decide (v_90_1 < i_1))) F) ∧
     (¬ (0 ≤ v_86_1) →
      R (.bool false) F))))) ∧
   (¬ (v_76 < i_1) →
    R (.bool false) F))) ∧
  (¬ (0 ≤ v_72) →
   R (.bool false) F))))
abbrev b51J2 (i_1 : Int) (b5 : Nat) (v_15 : Int) (R : VP) (E : En) (F : PH) : Prop := E 1 = (.int .i64 i_1) ∧ E 5 = (.pointer (some (Addr.mk b5 0 none))) ∧ E 6 = (.int .i64 v_15) ∧ b51j2 i_1 b5 v_15 R F
def b51j1 (i_1 : Int) (b5 : Nat) (v_15 : Int) (R : VP) (F : PH) :=
 ((v_15 < 1 →
  ∃ v_56 : Int, F.cell (Addr.mk b5 3 none) = some (.int .i64 v_56) ∧
  ((v_56 ≠ 0 →
   R (.bool false) F) ∧
  (¬ (v_56 ≠ 0) →
   ((v_15 < 2 →
    ∃ v_64 : Int, F.cell (Addr.mk b5 4 none) = some (.int .i64 v_64) ∧
    ((v_64 ≠ 0 →
     R (.bool false) F) ∧
    (¬ (v_64 ≠ 0) →
     b51j2 i_1 b5 v_15 R F))) ∧
   (¬ (v_15 < 2) →
    b51j2 i_1 b5 v_15 R F))))) ∧
 (¬ (v_15 < 1) →
  ((v_15 < 2 →
   ∃ v_64_1 : Int, F.cell (Addr.mk b5 4 none) = some (.int .i64 v_64_1) ∧
   ((v_64_1 ≠ 0 →
    R (.bool false) F) ∧
   (¬ (v_64_1 ≠ 0) →
    b51j2 i_1 b5 v_15 R F))) ∧
  (¬ (v_15 < 2) →
   b51j2 i_1 b5 v_15 R F))))
abbrev b51J1 (i_1 : Int) (b5 : Nat) (v_15 : Int) (R : VP) (E : En) (F : PH) : Prop := E 1 = (.int .i64 i_1) ∧ E 5 = (.pointer (some (Addr.mk b5 0 none))) ∧ E 6 = (.int .i64 v_15) ∧ b51j1 i_1 b5 v_15 R F
def b51 (p_0 : Sl) (i_1 : Int) (R : VP) (F : PH) :=
 ∃ a10_ : Addr, p_0.base = some a10_ ∧ 0 ≤ i_1 ∧ i_1 < (p_0.len : Int) ∧
 ∃ v_11 : Array Value, v_11.size = 5 ∧ F.row (Addr.add a10_ (Int.toNat i_1 * 5)) v_11 ∧
 ∀ b5, F b5 = none → atF (F.set b5 (.cells (#[.int .i64 0, .int .i64 0, .int .i64 0, .int .i64 0, .int .i64 0]) 50)) fun F =>
 v_11.size = 5 ∧ (∀ v ∈ v_11.toList, storable v) ∧ ∃ c e, F (Addr.mk b5 0 none).block = some (.cells c e (0, 0)) ∧ (Addr.mk b5 0 none).spot = none ∧ (Addr.mk b5 0 none).off + 5 ≤ c.size ∧
 atF (F.set (Addr.mk b5 0 none).block (.cells (wr c (Addr.mk b5 0 none).off v_11.toList) e)) fun F =>
 ∃ v_14 : Int, F.cell (Addr.mk b5 0 none) = some (.int .i64 v_14) ∧
 Spec prog 52 #[(.int .i64 v_14)] F fun v F => ∃ v_15 : Int, ∃ v_15_1 : Bool, v = (.tuple #[(.int .i64 v_15), (.bool v_15_1)]) ∧
 (((!v_15_1) = true →
  R (.bool false) F) ∧
 ((!v_15_1) = false →
  ∃ v_22 : Int, F.cell (Addr.mk b5 0 none) = some (.int .i64 v_22) ∧
  ((v_22 ≠ 1 →
   ∃ v_26 : Int, F.cell (Addr.mk b5 1 none) = some (.int .i64 v_26) ∧
   ((v_26 ≠ 0 →
    R (.bool false) F) ∧
   (¬ (v_26 ≠ 0) →
    ∃ v_30 : Int, F.cell (Addr.mk b5 2 none) = some (.int .i64 v_30) ∧
    ((v_30 ≠ 0 →
     R (.bool false) F) ∧
    (¬ (v_30 ≠ 0) →
     ∃ v_37 : Int, F.cell (Addr.mk b5 1 none) = some (.int .i64 v_37) ∧
     ((v_37 < 0 →
      R (.bool false) F) ∧
     (¬ (v_37 < 0) →
      ∃ v_42 : Int, F.cell (Addr.mk b5 1 none) = some (.int .i64 v_42) ∧
      ∃ v_44 : Int, F.cell (Addr.mk b5 2 none) = some (.int .i64 v_44) ∧
      ((v_44 < v_42 →
       R (.bool false) F) ∧
      (¬ (v_44 < v_42) →
       ∃ v_49 : Int, F.cell (Addr.mk b5 2 none) = some (.int .i64 v_49) ∧
       ((255 < v_49 →
        R (.bool false) F) ∧
       (¬ (255 < v_49) →
        b51j1 i_1 b5 v_15 R F))))))))))) ∧
  (¬ (v_22 ≠ 1) →
   ∃ v_37_1 : Int, F.cell (Addr.mk b5 1 none) = some (.int .i64 v_37_1) ∧
   ((v_37_1 < 0 →
    R (.bool false) F) ∧
   (¬ (v_37_1 < 0) →
    ∃ v_42_1 : Int, F.cell (Addr.mk b5 1 none) = some (.int .i64 v_42_1) ∧
    ∃ v_44_1 : Int, F.cell (Addr.mk b5 2 none) = some (.int .i64 v_44_1) ∧
    ((v_44_1 < v_42_1 →
     R (.bool false) F) ∧
    (¬ (v_44_1 < v_42_1) →
     ∃ v_49_1 : Int, F.cell (Addr.mk b5 2 none) = some (.int .i64 v_49_1) ∧
     ((255 < v_49_1 →
      R (.bool false) F) ∧
     (¬ (255 < v_49_1) →
      b51j1 i_1 b5 v_15 R F))))))))))
theorem c51 {p_0 : Sl} {i_1 : Int} {R : VP} {F : PH} (h : b51 p_0 i_1 R F) : Spec prog 51 #[(Sl.v p_0), (.int .i64 i_1)] F R := by
 refine spec_of (args := [(Sl.v p_0), (.int .i64 i_1)]) func51 rfl ntmps51 rfl ?_
 unfold b51 at h
 refine cR (sR (.bool false) (r_assign rfl rfl) ?_)
 refine HL_nil ?_
 refine cR (sR (Sl.v p_0) (r_move rfl rfl) ?_)
 refine sR (.int .i64 i_1) (r_move rfl rfl) ?_
 obtain ⟨a10_, hb10, hl10, hu10, h⟩ := h
 refine sR (.pointer (some (Addr.add a10_ (Int.toNat i_1 * 5)))) (w_indexAddr rfl rfl underlying25 sz50 hb10 hl10 hu10) ?_
 obtain ⟨v_11, hs11, hc11, h⟩ := h
 refine sR (.agg v_11) (w_loadN rfl underlying50 rfl sz50 hs11 hc11) ?_
 refine s_ef (k_alloc zr50 ?_)
 intro b5 hf_b5
 replace h := atE (h b5 hf_b5)
 refine s_ef0 (k_storeN (vs := v_11) rfl rfl sz50 (by decide) ?_)
 obtain ⟨hz1, hz2, c, e, hz3, hz4, hz5, h⟩ := h
 refine ⟨hz1, hz2, c, e, hz3, hz4, hz5, ?_⟩
 replace h := atE h
 refine HL_nil ?_
 refine cR (sR (.pointer (some (Addr.mk b5 0 none))) (w_fieldAddr rfl underlying50 rfl rfl sz3 rfl rfl) ?_)
 obtain ⟨v_14, hc14, h⟩ := h
 refine sR (.int .i64 v_14) (r_load1 rfl rfl underlying3 rfl hc14) ?_
 refine s_ef (k_call (vs := [(.int .i64 v_14)]) cb52 (evC rfl evN) (h.mono ?_))
 clear h; rintro v F ⟨v_15, v_15_1, rfl, h⟩
 refine sR (.tuple #[(.int .i64 v_15), (.bool v_15_1)]) (r_move rfl rfl) ?_
 refine sR (.int .i64 v_15) (r_extract rfl rfl rfl) ?_
 refine sR (.bool v_15_1) (r_extract rfl rfl rfl) ?_
 refine sR (.int .i64 v_15) (r_assign rfl rfl) ?_
 refine sR (.bool v_15_1) (r_assign rfl rfl) ?_
 refine HL_nil ?_
 refine HC_seqJ (b51J1 i_1 b5 v_15 R) ?_ ?_
 clear h; rintro E F ⟨h1, h5, h6, h⟩
 unfold b51j1 at h
 refine HC_seqJ (b51J2 i_1 b5 v_15 R) ?_ ?_
 clear h; rintro E F ⟨h1, h5, h6, h⟩
 unfold b51j2 at h
 refine cR (sR _ (r_move rfl h6) ?_)
 refine sR (.bool (decide (v_15 < 1))) (r_lss rfl rfl rfl) ?_
 refine sR (.bool (decide (v_15 < 1))) (r_move rfl rfl) ?_
 by_cases hc : v_15 < 1
 replace h := h.1 hc
 refine kN 69 (decide_eq_true hc) ?_
 refine kN 70 (decide_eq_true hc) ?_
 iterate 9 refine s_skip ?_
 refine sR (.bool true) (r_pt rfl rfl) ?_
 refine sR (.bool true) (r_move rfl rfl) ?_
 refine sR _ (r_move rfl h6) ?_
 refine sR (.bool (decide (v_15 < 2))) (r_lss rfl rfl rfl) ?_
 refine sR (.bool (decide (v_15 < 2))) (r_move rfl rfl) ?_
 by_cases hc : v_15 < 2
 replace h := h.1 hc
 refine kN 83 (decide_eq_true hc) ?_
 refine kN 84 (decide_eq_true hc) ?_
 iterate 9 refine s_skip ?_
 refine sR (.bool true) (r_pt rfl rfl) ?_
 refine sR (.bool true) (r_pt rfl rfl) ?_
 refine sR (.bool true) (r_assign rfl rfl) ?_
 exact HL_nil (HC_ret (rt1 f51 R rfl rfl h))
 replace h := h.2 hc
 refine kN 83 (decide_eq_false hc) ?_
 refine kN 84 (decide_eq_false hc) ?_
 refine sR (.pointer (some (Addr.mk b5 4 none))) (w_fieldAddr h5 underlying50 rfl rfl sz3 rfl rfl) ?_
 obtain ⟨v_86, hc86, h⟩ := h
 refine sR (.int .i64 v_86) (r_load1 rfl rfl underlying3 rfl hc86) ?_
 refine sR (.bool (decide (0 ≤ v_86))) (r_geq rfl rfl rfl) ?_
 refine sR (.bool (decide (0 ≤ v_86))) (r_move rfl rfl) ?_
 by_cases hc : 0 ≤ v_86
 replace h := h.1 hc
 refine kN 87 (decide_eq_true hc) ?_
 refine kN 88 (decide_eq_true hc) ?_
 refine sR (.pointer (some (Addr.mk b5 4 none))) (w_fieldAddr h5 underlying50 rfl rfl sz3 rfl rfl) ?_
 obtain ⟨v_90, hc90, h⟩ := h
 refine sR (.int .i64 v_90) (r_load1 rfl rfl underlying3 rfl hc90) ?_
 refine sR _ (r_move rfl h1) ?_
 refine sR (.bool (decide (v_90 < i_1))) (r_lss rfl rfl rfl) ?_
 refine sR (.bool (decide (v_90 < i_1))) (r_pt rfl rfl) ?_
 refine sR (.bool (decide (v_90 < i_1))) (r_pf rfl rfl) ?_
 refine sR (.bool (decide (v_90 < i_1))) (r_pt rfl rfl) ?_
 refine sR (.bool (decide (v_90 < i_1))) (r_assign rfl rfl) ?_
 exact HL_nil (HC_ret (rt1 f51 R rfl rfl h))
 replace h := h.2 hc
 refine kN 87 (decide_eq_false hc) ?_
 refine kN 88 (decide_eq_false hc) ?_
 iterate 4 refine s_skip ?_
 refine sR (.bool false) (r_pf rfl rfl) ?_
 refine sR (.bool false) (r_pf rfl rfl) ?_
 refine sR (.bool false) (r_pt rfl rfl) ?_
 refine sR (.bool false) (r_assign rfl rfl) ?_
 exact HL_nil (HC_ret (rt1 f51 R rfl rfl h))
 replace h := h.2 hc
 refine kN 69 (decide_eq_false hc) ?_
 refine kN 70 (decide_eq_false hc) ?_
 refine sR (.pointer (some (Addr.mk b5 3 none))) (w_fieldAddr h5 underlying50 rfl rfl sz3 rfl rfl) ?_
 obtain ⟨v_72, hc72, h⟩ := h
 refine sR (.int .i64 v_72) (r_load1 rfl rfl underlying3 rfl hc72) ?_
 refine sR (.bool (decide (0 ≤ v_72))) (r_geq rfl rfl rfl) ?_
 refine sR (.bool (decide (0 ≤ v_72))) (r_move rfl rfl) ?_
 by_cases hc : 0 ≤ v_72
 replace h := h.1 hc
 refine kN 73 (decide_eq_true hc) ?_
 refine kN 74 (decide_eq_true hc) ?_
 refine sR (.pointer (some (Addr.mk b5 3 none))) (w_fieldAddr h5 underlying50 rfl rfl sz3 rfl rfl) ?_
 obtain ⟨v_76, hc76, h⟩ := h
 refine sR (.int .i64 v_76) (r_load1 rfl rfl underlying3 rfl hc76) ?_
 refine sR _ (r_move rfl h1) ?_
 refine sR (.bool (decide (v_76 < i_1))) (r_lss rfl rfl rfl) ?_
 refine sR (.bool (decide (v_76 < i_1))) (r_pt rfl rfl) ?_
 refine sR (.bool (decide (v_76 < i_1))) (r_pf rfl rfl) ?_
 refine sR (.bool (decide (v_76 < i_1))) (r_move rfl rfl) ?_
 by_cases hc : v_76 < i_1
 replace h := h.1 hc
 refine kN 78 (decide_eq_true hc) ?_
 refine kN 79 (decide_eq_true hc) ?_
 refine kN 80 (decide_eq_true hc) ?_
 refine kN 81 (decide_eq_true hc) ?_
 refine sR _ (r_move rfl h6) ?_
 refine sR (.bool (decide (v_15 < 2))) (r_lss rfl rfl rfl) ?_
 refine sR (.bool (decide (v_15 < 2))) (r_move rfl rfl) ?_
 by_cases hc : v_15 < 2
 replace h := h.1 hc
 refine kN 83 (decide_eq_true hc) ?_
 refine kN 84 (decide_eq_true hc) ?_
 iterate 9 refine s_skip ?_
 refine sR (.bool true) (r_pt rfl rfl) ?_
 refine sR (.bool true) (r_pt rfl rfl) ?_
 refine sR (.bool true) (r_assign rfl rfl) ?_
 exact HL_nil (HC_ret (rt1 f51 R rfl rfl h))
 replace h := h.2 hc
 refine kN 83 (decide_eq_false hc) ?_
 refine kN 84 (decide_eq_false hc) ?_
 refine sR (.pointer (some (Addr.mk b5 4 none))) (w_fieldAddr h5 underlying50 rfl rfl sz3 rfl rfl) ?_
 obtain ⟨v_86_1, hc86, h⟩ := h
 refine sR (.int .i64 v_86_1) (r_load1 rfl rfl underlying3 rfl hc86) ?_
 refine sR (.bool (decide (0 ≤ v_86_1))) (r_geq rfl rfl rfl) ?_
 refine sR (.bool (decide (0 ≤ v_86_1))) (r_move rfl rfl) ?_
 by_cases hc : 0 ≤ v_86_1
 replace h := h.1 hc
 refine kN 87 (decide_eq_true hc) ?_
 refine kN 88 (decide_eq_true hc) ?_
 refine sR (.pointer (some (Addr.mk b5 4 none))) (w_fieldAddr h5 underlying50 rfl rfl sz3 rfl rfl) ?_
 obtain ⟨v_90_1, hc90, h⟩ := h
 refine sR (.int .i64 v_90_1) (r_load1 rfl rfl underlying3 rfl hc90) ?_
 refine sR _ (r_move rfl h1) ?_
 refine sR (.bool (decide (v_90_1 < i_1))) (r_lss rfl rfl rfl) ?_
 refine sR (.bool (decide (v_90_1 < i_1))) (r_pt rfl rfl) ?_
 refine sR (.bool (decide (v_90_1 < i_1))) (r_pf rfl rfl) ?_
 refine sR (.bool (decide (v_90_1 < i_1))) (r_pt rfl rfl) ?_
 refine sR (.bool (decide (v_90_1 < i_1))) (r_assign rfl rfl) ?_
 exact HL_nil (HC_ret (rt1 f51 R rfl rfl h))
 replace h := h.2 hc
 refine kN 87 (decide_eq_false hc) ?_
 refine kN 88 (decide_eq_false hc) ?_
 iterate 4 refine s_skip ?_
 refine sR (.bool false) (r_pf rfl rfl) ?_
 refine sR (.bool false) (r_pf rfl rfl) ?_
 refine sR (.bool false) (r_pt rfl rfl) ?_
 refine sR (.bool false) (r_assign rfl rfl) ?_
 exact HL_nil (HC_ret (rt1 f51 R rfl rfl h))
 replace h := h.2 hc
 refine kN 78 (decide_eq_false hc) ?_
 refine kN 79 (decide_eq_false hc) ?_
 refine kN 80 (decide_eq_false hc) ?_
 refine kN 81 (decide_eq_false hc) ?_
 iterate 13 refine s_skip ?_
 refine sR (.bool false) (r_pf rfl rfl) ?_
 refine sR (.bool false) (r_assign rfl rfl) ?_
 exact HL_nil (HC_ret (rt1 f51 R rfl rfl h))
 replace h := h.2 hc
 refine kN 73 (decide_eq_false hc) ?_
 refine kN 74 (decide_eq_false hc) ?_
 iterate 4 refine s_skip ?_
 refine sR (.bool false) (r_pf rfl rfl) ?_
 refine sR (.bool false) (r_pf rfl rfl) ?_
 refine sR (.bool false) (r_move rfl rfl) ?_
 iterate 13 refine s_skip ?_
 refine sR (.bool false) (r_pf rfl rfl) ?_
 refine sR (.bool false) (r_assign rfl rfl) ?_
 exact HL_nil (HC_ret (rt1 f51 R rfl rfl h))
 refine cR (sR _ (r_move rfl h6) ?_)
 refine sR (.bool (decide (v_15 < 1))) (r_lss rfl rfl rfl) ?_
 refine sR (.bool (decide (v_15 < 1))) (r_move rfl rfl) ?_
 by_cases hc : v_15 < 1
 replace h := h.1 hc
 refine kN 53 (decide_eq_true hc) ?_
 refine kN 54 (decide_eq_true hc) ?_
 refine sR (.pointer (some (Addr.mk b5 3 none))) (w_fieldAddr h5 underlying50 rfl rfl sz3 rfl rfl) ?_
 obtain ⟨v_56, hc56, h⟩ := h
 refine sR (.int .i64 v_56) (r_load1 rfl rfl underlying3 rfl hc56) ?_
 refine sR (.bool (decide (v_56 ≠ 0))) (w_neq rfl rfl) ?_
 refine sR (.bool (decide (v_56 ≠ 0))) (r_pt rfl rfl) ?_
 refine sR (.bool (decide (v_56 ≠ 0))) (r_move rfl rfl) ?_
 by_cases hc : v_56 ≠ 0
 replace h := h.1 hc
 refine kN 57 (decide_eq_true hc) ?_
 refine kN 58 (decide_eq_true hc) ?_
 refine kN 59 (decide_eq_true hc) ?_
 iterate 7 refine s_skip ?_
 refine sR (.bool true) (r_pt rfl rfl) ?_
 refine HL_nil ?_
 refine HC_condT rfl ?_
 refine cR (sR (.bool false) (r_assign rfl rfl) ?_)
 exact HL_nil (HC_ret (rt1 f51 R rfl rfl h))
 replace h := h.2 hc
 refine kN 57 (decide_eq_false hc) ?_
 refine kN 58 (decide_eq_false hc) ?_
 refine kN 59 (decide_eq_false hc) ?_
 refine sR _ (r_move rfl h6) ?_
 refine sR (.bool (decide (v_15 < 2))) (r_lss rfl rfl rfl) ?_
 refine sR (.bool (decide (v_15 < 2))) (r_move rfl rfl) ?_
 by_cases hc : v_15 < 2
 replace h := h.1 hc
 refine kN 61 (decide_eq_true hc) ?_
 refine kN 62 (decide_eq_true hc) ?_
 refine sR (.pointer (some (Addr.mk b5 4 none))) (w_fieldAddr h5 underlying50 rfl rfl sz3 rfl rfl) ?_
 obtain ⟨v_64, hc64, h⟩ := h
 refine sR (.int .i64 v_64) (r_load1 rfl rfl underlying3 rfl hc64) ?_
 refine sR (.bool (decide (v_64 ≠ 0))) (w_neq rfl rfl) ?_
 refine sR (.bool (decide (v_64 ≠ 0))) (r_pt rfl rfl) ?_
 refine sR (.bool (decide (v_64 ≠ 0))) (r_pf rfl rfl) ?_
 refine HL_nil ?_
 refine HC_cond (t := (decide (v_64 ≠ 0))) rfl (fun hc => ?_) (fun hc => ?_)
 replace h := h.1 (of_decide_eq_true hc)
 clear hc
 refine cR (sR (.bool false) (r_assign rfl rfl) ?_)
 exact HL_nil (HC_ret (rt1 f51 R rfl rfl h))
 replace h := h.2 (of_decide_eq_false hc)
 clear hc
 refine HC_skip ?_
 show b51J2 i_1 b5 v_15 R _ _
 exact ⟨h1, h5, h6, h⟩
 replace h := h.2 hc
 refine kN 61 (decide_eq_false hc) ?_
 refine kN 62 (decide_eq_false hc) ?_
 iterate 3 refine s_skip ?_
 refine sR (.bool false) (r_pf rfl rfl) ?_
 refine sR (.bool false) (r_pf rfl rfl) ?_
 refine HL_nil ?_
 refine HC_condF rfl ?_
 refine HC_skip ?_
 show b51J2 i_1 b5 v_15 R _ _
 exact ⟨h1, h5, h6, h⟩
 replace h := h.2 hc
 refine kN 53 (decide_eq_false hc) ?_
 refine kN 54 (decide_eq_false hc) ?_
 iterate 3 refine s_skip ?_
 refine sR (.bool false) (r_pf rfl rfl) ?_
 refine sR (.bool false) (r_move rfl rfl) ?_
 refine sR _ (r_move rfl h6) ?_
 refine sR (.bool (decide (v_15 < 2))) (r_lss rfl rfl rfl) ?_
 refine sR (.bool (decide (v_15 < 2))) (r_move rfl rfl) ?_
 by_cases hc : v_15 < 2
 replace h := h.1 hc
 refine kN 61 (decide_eq_true hc) ?_
 refine kN 62 (decide_eq_true hc) ?_
 refine sR (.pointer (some (Addr.mk b5 4 none))) (w_fieldAddr h5 underlying50 rfl rfl sz3 rfl rfl) ?_
 obtain ⟨v_64_1, hc64, h⟩ := h
 refine sR (.int .i64 v_64_1) (r_load1 rfl rfl underlying3 rfl hc64) ?_
 refine sR (.bool (decide (v_64_1 ≠ 0))) (w_neq rfl rfl) ?_
 refine sR (.bool (decide (v_64_1 ≠ 0))) (r_pt rfl rfl) ?_
 refine sR (.bool (decide (v_64_1 ≠ 0))) (r_pf rfl rfl) ?_
 refine HL_nil ?_
 refine HC_cond (t := (decide (v_64_1 ≠ 0))) rfl (fun hc => ?_) (fun hc => ?_)
 replace h := h.1 (of_decide_eq_true hc)
 clear hc
 refine cR (sR (.bool false) (r_assign rfl rfl) ?_)
 exact HL_nil (HC_ret (rt1 f51 R rfl rfl h))
 replace h := h.2 (of_decide_eq_false hc)
 clear hc
 refine HC_skip ?_
 show b51J2 i_1 b5 v_15 R _ _
 exact ⟨h1, h5, h6, h⟩
 replace h := h.2 hc
 refine kN 61 (decide_eq_false hc) ?_
 refine kN 62 (decide_eq_false hc) ?_
 iterate 3 refine s_skip ?_
 refine sR (.bool false) (r_pf rfl rfl) ?_
 refine sR (.bool false) (r_pf rfl rfl) ?_
 refine HL_nil ?_
 refine HC_condF rfl ?_
 refine HC_skip ?_
 show b51J2 i_1 b5 v_15 R _ _
 exact ⟨h1, h5, h6, h⟩
 refine cR (sR (.bool v_15_1) (r_move rfl rfl) ?_)
 refine sR (.bool (!v_15_1)) (r_not rfl rfl) ?_
 refine sR (.bool (!v_15_1)) (r_move rfl rfl) ?_
 by_cases hc : (!v_15_1) = true
 replace h := h.1 hc
 refine kN 19 hc ?_
 refine kN 20 hc ?_
 iterate 13 refine s_skip ?_
 refine sR (.bool true) (r_pt rfl rfl) ?_
 refine sR (.bool true) (r_move rfl rfl) ?_
 iterate 3 refine s_skip ?_
 refine sR (.bool true) (r_pt rfl rfl) ?_
 refine sR (.bool true) (r_move rfl rfl) ?_
 iterate 5 refine s_skip ?_
 refine sR (.bool true) (r_pt rfl rfl) ?_
 refine sR (.bool true) (r_move rfl rfl) ?_
 iterate 3 refine s_skip ?_
 refine sR (.bool true) (r_pt rfl rfl) ?_
 refine HL_nil ?_
 refine HC_condT rfl ?_
 refine cR (sR (.bool false) (r_assign rfl rfl) ?_)
 exact HL_nil (HC_ret (rt1 f51 R rfl rfl h))
 replace hc := eq_false_of_ne_true hc; replace h := h.2 hc
 refine kN 19 hc ?_
 refine kN 20 hc ?_
 refine sR (.pointer (some (Addr.mk b5 0 none))) (w_fieldAddr rfl underlying50 rfl rfl sz3 rfl rfl) ?_
 obtain ⟨v_22, hc22, h⟩ := h
 refine sR (.int .i64 v_22) (r_load1 rfl rfl underlying3 rfl hc22) ?_
 refine sR (.bool (decide (v_22 ≠ 1))) (w_neq rfl rfl) ?_
 refine sR (.bool (decide (v_22 ≠ 1))) (r_move rfl rfl) ?_
 by_cases hc : v_22 ≠ 1
 replace h := h.1 hc
 refine kN 23 (decide_eq_true hc) ?_
 refine kN 24 (decide_eq_true hc) ?_
 refine sR (.pointer (some (Addr.mk b5 1 none))) (w_fieldAddr rfl underlying50 rfl rfl sz3 rfl rfl) ?_
 obtain ⟨v_26, hc26, h⟩ := h
 refine sR (.int .i64 v_26) (r_load1 rfl rfl underlying3 rfl hc26) ?_
 refine sR (.bool (decide (v_26 ≠ 0))) (w_neq rfl rfl) ?_
 refine sR (.bool (decide (v_26 ≠ 0))) (r_move rfl rfl) ?_
 by_cases hc : v_26 ≠ 0
 replace h := h.1 hc
 refine kN 27 (decide_eq_true hc) ?_
 refine kN 28 (decide_eq_true hc) ?_
 iterate 3 refine s_skip ?_
 refine sR (.bool true) (r_pt rfl rfl) ?_
 refine sR (.bool true) (r_pt rfl rfl) ?_
 refine sR (.bool true) (r_pf rfl rfl) ?_
 refine sR (.bool true) (r_move rfl rfl) ?_
 iterate 3 refine s_skip ?_
 refine sR (.bool true) (r_pt rfl rfl) ?_
 refine sR (.bool true) (r_move rfl rfl) ?_
 iterate 5 refine s_skip ?_
 refine sR (.bool true) (r_pt rfl rfl) ?_
 refine sR (.bool true) (r_move rfl rfl) ?_
 iterate 3 refine s_skip ?_
 refine sR (.bool true) (r_pt rfl rfl) ?_
 refine HL_nil ?_
 refine HC_condT rfl ?_
 refine cR (sR (.bool false) (r_assign rfl rfl) ?_)
 exact HL_nil (HC_ret (rt1 f51 R rfl rfl h))
 replace h := h.2 hc
 refine kN 27 (decide_eq_false hc) ?_
 refine kN 28 (decide_eq_false hc) ?_
 refine sR (.pointer (some (Addr.mk b5 2 none))) (w_fieldAddr rfl underlying50 rfl rfl sz3 rfl rfl) ?_
 obtain ⟨v_30, hc30, h⟩ := h
 refine sR (.int .i64 v_30) (r_load1 rfl rfl underlying3 rfl hc30) ?_
 refine sR (.bool (decide (v_30 ≠ 0))) (w_neq rfl rfl) ?_
 refine sR (.bool (decide (v_30 ≠ 0))) (r_pf rfl rfl) ?_
 refine sR (.bool (decide (v_30 ≠ 0))) (r_pt rfl rfl) ?_
 refine sR (.bool (decide (v_30 ≠ 0))) (r_pf rfl rfl) ?_
 refine sR (.bool (decide (v_30 ≠ 0))) (r_move rfl rfl) ?_
 by_cases hc : v_30 ≠ 0
 replace h := h.1 hc
 refine kN 31 (decide_eq_true hc) ?_
 refine kN 32 (decide_eq_true hc) ?_
 refine kN 33 (decide_eq_true hc) ?_
 refine kN 34 (decide_eq_true hc) ?_
 refine kN 35 (decide_eq_true hc) ?_
 iterate 3 refine s_skip ?_
 refine sR (.bool true) (r_pt rfl rfl) ?_
 refine sR (.bool true) (r_move rfl rfl) ?_
 iterate 5 refine s_skip ?_
 refine sR (.bool true) (r_pt rfl rfl) ?_
 refine sR (.bool true) (r_move rfl rfl) ?_
 iterate 3 refine s_skip ?_
 refine sR (.bool true) (r_pt rfl rfl) ?_
 refine HL_nil ?_
 refine HC_condT rfl ?_
 refine cR (sR (.bool false) (r_assign rfl rfl) ?_)
 exact HL_nil (HC_ret (rt1 f51 R rfl rfl h))
 replace h := h.2 hc
 refine kN 31 (decide_eq_false hc) ?_
 refine kN 32 (decide_eq_false hc) ?_
 refine kN 33 (decide_eq_false hc) ?_
 refine kN 34 (decide_eq_false hc) ?_
 refine kN 35 (decide_eq_false hc) ?_
 refine sR (.pointer (some (Addr.mk b5 1 none))) (w_fieldAddr rfl underlying50 rfl rfl sz3 rfl rfl) ?_
 obtain ⟨v_37, hc37, h⟩ := h
 refine sR (.int .i64 v_37) (r_load1 rfl rfl underlying3 rfl hc37) ?_
 refine sR (.bool (decide (v_37 < 0))) (r_lss rfl rfl rfl) ?_
 refine sR (.bool (decide (v_37 < 0))) (r_pf rfl rfl) ?_
 refine sR (.bool (decide (v_37 < 0))) (r_move rfl rfl) ?_
 by_cases hc : v_37 < 0
 replace h := h.1 hc
 refine kN 38 (decide_eq_true hc) ?_
 refine kN 39 (decide_eq_true hc) ?_
 refine kN 40 (decide_eq_true hc) ?_
 iterate 5 refine s_skip ?_
 refine sR (.bool true) (r_pt rfl rfl) ?_
 refine sR (.bool true) (r_move rfl rfl) ?_
 iterate 3 refine s_skip ?_
 refine sR (.bool true) (r_pt rfl rfl) ?_
 refine HL_nil ?_
 refine HC_condT rfl ?_
 refine cR (sR (.bool false) (r_assign rfl rfl) ?_)
 exact HL_nil (HC_ret (rt1 f51 R rfl rfl h))
 replace h := h.2 hc
 refine kN 38 (decide_eq_false hc) ?_
 refine kN 39 (decide_eq_false hc) ?_
 refine kN 40 (decide_eq_false hc) ?_
 refine sR (.pointer (some (Addr.mk b5 1 none))) (w_fieldAddr rfl underlying50 rfl rfl sz3 rfl rfl) ?_
 obtain ⟨v_42, hc42, h⟩ := h
 refine sR (.int .i64 v_42) (r_load1 rfl rfl underlying3 rfl hc42) ?_
 refine sR (.pointer (some (Addr.mk b5 2 none))) (w_fieldAddr rfl underlying50 rfl rfl sz3 rfl rfl) ?_
 obtain ⟨v_44, hc44, h⟩ := h
 refine sR (.int .i64 v_44) (r_load1 rfl rfl underlying3 rfl hc44) ?_
 refine sR (.bool (decide (v_44 < v_42))) (r_gtr rfl rfl rfl) ?_
 refine sR (.bool (decide (v_44 < v_42))) (r_pf rfl rfl) ?_
 refine sR (.bool (decide (v_44 < v_42))) (r_move rfl rfl) ?_
 by_cases hc : v_44 < v_42
 replace h := h.1 hc
 refine kN 45 (decide_eq_true hc) ?_
 refine kN 46 (decide_eq_true hc) ?_
 refine kN 47 (decide_eq_true hc) ?_
 iterate 3 refine s_skip ?_
 refine sR (.bool true) (r_pt rfl rfl) ?_
 refine HL_nil ?_
 refine HC_condT rfl ?_
 refine cR (sR (.bool false) (r_assign rfl rfl) ?_)
 exact HL_nil (HC_ret (rt1 f51 R rfl rfl h))
 replace h := h.2 hc
 refine kN 45 (decide_eq_false hc) ?_
 refine kN 46 (decide_eq_false hc) ?_
 refine kN 47 (decide_eq_false hc) ?_
 refine sR (.pointer (some (Addr.mk b5 2 none))) (w_fieldAddr rfl underlying50 rfl rfl sz3 rfl rfl) ?_
 obtain ⟨v_49, hc49, h⟩ := h
 refine sR (.int .i64 v_49) (r_load1 rfl rfl underlying3 rfl hc49) ?_
 refine sR (.bool (decide (255 < v_49))) (r_gtr rfl rfl rfl) ?_
 refine sR (.bool (decide (255 < v_49))) (r_pf rfl rfl) ?_
 refine HL_nil ?_
 refine HC_cond (t := (decide (255 < v_49))) rfl (fun hc => ?_) (fun hc => ?_)
 replace h := h.1 (of_decide_eq_true hc)
 clear hc
 refine cR (sR (.bool false) (r_assign rfl rfl) ?_)
 exact HL_nil (HC_ret (rt1 f51 R rfl rfl h))
 replace h := h.2 (of_decide_eq_false hc)
 clear hc
 refine HC_skip ?_
 show b51J1 i_1 b5 v_15 R _ _
 exact ⟨rfl, rfl, rfl, h⟩
 replace h := h.2 hc
 refine kN 23 (decide_eq_false hc) ?_
 refine kN 24 (decide_eq_false hc) ?_
 iterate 8 refine s_skip ?_
 refine sR (.bool false) (r_pf rfl rfl) ?_
 refine sR (.bool false) (r_pf rfl rfl) ?_
 refine sR (.bool false) (r_move rfl rfl) ?_
 refine sR (.pointer (some (Addr.mk b5 1 none))) (w_fieldAddr rfl underlying50 rfl rfl sz3 rfl rfl) ?_
 obtain ⟨v_37_1, hc37, h⟩ := h
 refine sR (.int .i64 v_37_1) (r_load1 rfl rfl underlying3 rfl hc37) ?_
 refine sR (.bool (decide (v_37_1 < 0))) (r_lss rfl rfl rfl) ?_
 refine sR (.bool (decide (v_37_1 < 0))) (r_pf rfl rfl) ?_
 refine sR (.bool (decide (v_37_1 < 0))) (r_move rfl rfl) ?_
 by_cases hc : v_37_1 < 0
 replace h := h.1 hc
 refine kN 38 (decide_eq_true hc) ?_
 refine kN 39 (decide_eq_true hc) ?_
 refine kN 40 (decide_eq_true hc) ?_
 iterate 5 refine s_skip ?_
 refine sR (.bool true) (r_pt rfl rfl) ?_
 refine sR (.bool true) (r_move rfl rfl) ?_
 iterate 3 refine s_skip ?_
 refine sR (.bool true) (r_pt rfl rfl) ?_
 refine HL_nil ?_
 refine HC_condT rfl ?_
 refine cR (sR (.bool false) (r_assign rfl rfl) ?_)
 exact HL_nil (HC_ret (rt1 f51 R rfl rfl h))
 replace h := h.2 hc
 refine kN 38 (decide_eq_false hc) ?_
 refine kN 39 (decide_eq_false hc) ?_
 refine kN 40 (decide_eq_false hc) ?_
 refine sR (.pointer (some (Addr.mk b5 1 none))) (w_fieldAddr rfl underlying50 rfl rfl sz3 rfl rfl) ?_
 obtain ⟨v_42_1, hc42, h⟩ := h
 refine sR (.int .i64 v_42_1) (r_load1 rfl rfl underlying3 rfl hc42) ?_
 refine sR (.pointer (some (Addr.mk b5 2 none))) (w_fieldAddr rfl underlying50 rfl rfl sz3 rfl rfl) ?_
 obtain ⟨v_44_1, hc44, h⟩ := h
 refine sR (.int .i64 v_44_1) (r_load1 rfl rfl underlying3 rfl hc44) ?_
 refine sR (.bool (decide (v_44_1 < v_42_1))) (r_gtr rfl rfl rfl) ?_
 refine sR (.bool (decide (v_44_1 < v_42_1))) (r_pf rfl rfl) ?_
 refine sR (.bool (decide (v_44_1 < v_42_1))) (r_move rfl rfl) ?_
 by_cases hc : v_44_1 < v_42_1
 replace h := h.1 hc
 refine kN 45 (decide_eq_true hc) ?_
 refine kN 46 (decide_eq_true hc) ?_
 refine kN 47 (decide_eq_true hc) ?_
 iterate 3 refine s_skip ?_
 refine sR (.bool true) (r_pt rfl rfl) ?_
 refine HL_nil ?_
 refine HC_condT rfl ?_
 refine cR (sR (.bool false) (r_assign rfl rfl) ?_)
 exact HL_nil (HC_ret (rt1 f51 R rfl rfl h))
 replace h := h.2 hc
 refine kN 45 (decide_eq_false hc) ?_
 refine kN 46 (decide_eq_false hc) ?_
 refine kN 47 (decide_eq_false hc) ?_
 refine sR (.pointer (some (Addr.mk b5 2 none))) (w_fieldAddr rfl underlying50 rfl rfl sz3 rfl rfl) ?_
 obtain ⟨v_49_1, hc49, h⟩ := h
 refine sR (.int .i64 v_49_1) (r_load1 rfl rfl underlying3 rfl hc49) ?_
 refine sR (.bool (decide (255 < v_49_1))) (r_gtr rfl rfl rfl) ?_
 refine sR (.bool (decide (255 < v_49_1))) (r_pf rfl rfl) ?_
 refine HL_nil ?_
 refine HC_cond (t := (decide (255 < v_49_1))) rfl (fun hc => ?_) (fun hc => ?_)
 replace h := h.1 (of_decide_eq_true hc)
 clear hc
 refine cR (sR (.bool false) (r_assign rfl rfl) ?_)
 exact HL_nil (HC_ret (rt1 f51 R rfl rfl h))
 replace h := h.2 (of_decide_eq_false hc)
 clear hc
 refine HC_skip ?_
 show b51J1 i_1 b5 v_15 R _ _
 exact ⟨rfl, rfl, rfl, h⟩
 /- 22 koine.koineref04.Check -/
def b22j2 (p_0 : Sl) (R : VP) (F : PH) :=
 (((p_0.len : Int) = 0 →
  R (.int .i64 40) F) ∧
 (¬ ((p_0.len : Int) = 0) →
  R (.int .i64 0) F))
abbrev b22J2 (p_0 : Sl) (R : VP) (E : En) (F : PH) : Prop := E 0 = (Sl.v p_0) ∧ b22j2 p_0 R F
def b22L1 (N1 : Int → PH → Prop) (p_0 : Sl) (v_13 : Sl) (R : VP) (i_7 : Int) (F : PH) :=
 ((i_7 < (IntKind.i64.wrap ((p_0.len : Int) - 1)) →
  ∃ a66_ : Addr, v_13.base = some a66_ ∧ 0 ≤ i_7 ∧ i_7 < (v_13.len : Int) ∧
  ∃ v_67 : Int, F.cell (Addr.add a66_ (Int.toNat i_7 * 1)) = some (.int .i64 v_67) ∧
  ((v_67 ≠ 1 →
   R (.int .i64 40) F) ∧
  (¬ (v_67 ≠ 1) →
   N1 (IntKind.i64.wrap (i_7 + 1)) F))) ∧
 (¬ (i_7 < (IntKind.i64.wrap ((p_0.len : Int) - 1))) →
  b22j2 p_0 R F))
def b22j1 (p_0 : Sl) (v_13 : Sl) (R : VP) (F : PH) :=
 (∃ (I1 : Nat → Int → PH → Prop) (m1 : Nat), I1 m1 0 F ∧ ∀ m1 i_7 F, I1 m1 i_7 F →
  b22L1 (nx1 I1 m1) p_0 v_13 R i_7 F)
abbrev b22J1 (p_0 : Sl) (v_13 : Sl) (R : VP) (E : En) (F : PH) : Prop := E 0 = (Sl.v p_0) ∧ E 3 = (Sl.v v_13) ∧ b22j1 p_0 v_13 R F
def b22j3 (N2 : Int → PH → Prop) (p_0 : Sl) (v_13 : Sl) (i_4 : Int) (R : VP) (F : PH) :=
 N2 (IntKind.i64.wrap (i_4 + 1)) F
abbrev b22J3 (N2 : Int → PH → Prop) (p_0 : Sl) (v_13 : Sl) (i_4 : Int) (R : VP) (E : En) (F : PH) : Prop := E 0 = (Sl.v p_0) ∧ E 3 = (Sl.v v_13) ∧ E 4 = (.int .i64 i_4) ∧ b22j3 N2 p_0 v_13 i_4 R F
def b22j4 (N2 : Int → PH → Prop) (p_0 : Sl) (v_13 : Sl) (i_4 : Int) (v_30 : Int) (R : VP) (F : PH) :=
 ((2 ≤ v_30 →
  ∃ a50_ : Addr, p_0.base = some a50_ ∧ 0 ≤ i_4 ∧ i_4 < (p_0.len : Int) ∧
  ∃ v_52 : Int, F.cell (Addr.add (Addr.add a50_ (Int.toNat i_4 * 5)) 4) = some (.int .i64 v_52) ∧
  ∃ a53_ : Addr, v_13.base = some a53_ ∧ 0 ≤ v_52 ∧ v_52 < (v_13.len : Int) ∧
  ∃ v_54 : Int, F.cell (Addr.add a53_ (Int.toNat v_52 * 1)) = some (.int .i64 v_54) ∧
  ∃ a56_ : Addr, v_13.base = some a56_ ∧ 0 ≤ v_52 ∧ v_52 < (v_13.len : Int) ∧
  ∃ c e, F (Addr.add a56_ (Int.toNat v_52 * 1)).block = some (.cells c e (0, 0)) ∧ (Addr.add a56_ (Int.toNat v_52 * 1)).spot = none ∧ (Addr.add a56_ (Int.toNat v_52 * 1)).off < c.size ∧
  atF (F.set (Addr.add a56_ (Int.toNat v_52 * 1)).block (.cells (c.setIfInBounds (Addr.add a56_ (Int.toNat v_52 * 1)).off (.int .i64 (IntKind.i64.wrap (v_54 + 1)))) e)) fun F =>
  b22j3 N2 p_0 v_13 i_4 R F) ∧
 (¬ (2 ≤ v_30) →
  b22j3 N2 p_0 v_13 i_4 R F))
abbrev b22J4 (N2 : Int → PH → Prop) (p_0 : Sl) (v_13 : Sl) (i_4 : Int) (v_30 : Int) (R : VP) (E : En) (F : PH) : Prop := E 0 = (Sl.v p_0) ∧ E 3 = (Sl.v v_13) ∧ E 4 = (.int .i64 i_4) ∧ E 5 = (.int .i64 v_30) ∧ b22j4 N2 p_0 v_13 i_4 v_30 R F
def b22L2 (N2 : Int → PH → Prop) (p_0 : Sl) (v_13 : Sl) (R : VP) (i_4 : Int) (F : PH) :=
 ((i_4 < (p_0.len : Int) →
  Spec prog 51 #[(Sl.v p_0), (.int .i64 i_4)] F fun v F => ∃ v_22 : Bool, v = (.bool v_22) ∧
  (((!v_22) = true →
   R (.int .i64 40) F) ∧
  ((!v_22) = false →
   ∃ a27_ : Addr, p_0.base = some a27_ ∧ 0 ≤ i_4 ∧ i_4 < (p_0.len : Int) ∧
   ∃ v_29 : Int, F.cell (Addr.add a27_ (Int.toNat i_4 * 5)) = some (.int .i64 v_29) ∧
   Spec prog 52 #[(.int .i64 v_29)] F fun v F => ∃ v_30 : Int, ∃ v_30_1 : Bool, v = (.tuple #[(.int .i64 v_30), (.bool v_30_1)]) ∧
   ((1 ≤ v_30 →
    ∃ a38_ : Addr, p_0.base = some a38_ ∧ 0 ≤ i_4 ∧ i_4 < (p_0.len : Int) ∧
    ∃ v_40 : Int, F.cell (Addr.add (Addr.add a38_ (Int.toNat i_4 * 5)) 3) = some (.int .i64 v_40) ∧
    ∃ a41_ : Addr, v_13.base = some a41_ ∧ 0 ≤ v_40 ∧ v_40 < (v_13.len : Int) ∧
    ∃ v_42 : Int, F.cell (Addr.add a41_ (Int.toNat v_40 * 1)) = some (.int .i64 v_42) ∧
    ∃ a44_ : Addr, v_13.base = some a44_ ∧ 0 ≤ v_40 ∧ v_40 < (v_13.len : Int) ∧
    ∃ c e, F (Addr.add a44_ (Int.toNat v_40 * 1)).block = some (.cells c e (0, 0)) ∧ (Addr.add a44_ (Int.toNat v_40 * 1)).spot = none ∧ (Addr.add a44_ (Int.toNat v_40 * 1)).off < c.size ∧
    atF (F.set (Addr.add a44_ (Int.toNat v_40 * 1)).block (.cells (c.setIfInBounds (Addr.add a44_ (Int.toNat v_40 * 1)).off (.int .i64 (IntKind.i64.wrap (v_42 + 1)))) e)) fun F =>
    b22j4 N2 p_0 v_13 i_4 v_30 R F) ∧
   (¬ (1 ≤ v_30) →
    b22j4 N2 p_0 v_13 i_4 v_30 R F))))) ∧
 (¬ (i_4 < (p_0.len : Int)) →
  b22j1 p_0 v_13 R F))
def b22 (p_0 : Sl) (R : VP) (F : PH) :=
 ((512 < (p_0.len : Int) →
  R (.int .i64 2) F) ∧
 (¬ (512 < (p_0.len : Int)) →
  runs prog (Instr.makeSlice 53 (.int .i64 (p_0.len : Int)) (.int .i64 (p_0.len : Int))) F fun v F => ∃ v_13 : Sl, v = (Sl.v v_13) ∧
  (∃ (I2 : Nat → Int → PH → Prop) (m2 : Nat), I2 m2 0 F ∧ ∀ m2 i_4 F, I2 m2 i_4 F →
   b22L2 (nx1 I2 m2) p_0 v_13 R i_4 F)))
theorem c22 {p_0 : Sl} {R : VP} {F : PH} (h : b22 p_0 R F) : Spec prog 22 #[(Sl.v p_0)] F R := by
 refine spec_of (args := [(Sl.v p_0)]) func22 rfl ntmps22 rfl ?_
 unfold b22 at h
 refine cR (sR (.int .i64 0) (r_assign rfl rfl) ?_)
 refine HL_nil ?_
 refine HC_seq ?_
 refine cR (sR (Sl.v p_0) (r_move rfl rfl) ?_)
 refine sR (.int .i64 (p_0.len : Int)) (r_lenSl rfl rfl underlying25) ?_
 refine sR (.bool (decide (512 < (p_0.len : Int)))) (r_gtr rfl rfl rfl) ?_
 refine HL_nil ?_
 refine HC_cond (t := (decide (512 < (p_0.len : Int)))) rfl (fun hc => ?_) (fun hc => ?_)
 replace h := h.1 (of_decide_eq_true hc)
 clear hc
 refine cR (sR (.int .i64 2) (r_assign rfl rfl) ?_)
 exact HL_nil (HC_ret (rt1 f22 R rfl rfl h))
 replace h := h.2 (of_decide_eq_false hc)
 clear hc
 refine HC_skip ?_
 refine cR (sR (Sl.v p_0) (r_move rfl rfl) ?_)
 refine sR (.int .i64 (p_0.len : Int)) (r_lenSl rfl rfl underlying25) ?_
 refine s_ef (k_makeSlice rfl rfl (runs_mono _ _ h ?_))
 clear h; rintro v F ⟨v_13, rfl, h⟩
 refine sR (Sl.v v_13) (r_assign rfl rfl) ?_
 refine HL_nil ?_
 refine HC_seqJ (b22J1 p_0 v_13 R) ?_ ?_
 clear h; rintro E F ⟨h0, h3, h⟩
 unfold b22j1 at h
 refine HC_seqJ (b22J2 p_0 R) ?_ ?_
 clear h; rintro E F ⟨h0, h⟩
 unfold b22j2 at h
 refine HC_seq ?_
 refine cR (sR _ (r_move rfl h0) ?_)
 refine sR (.int .i64 (p_0.len : Int)) (r_lenSl rfl rfl underlying25) ?_
 refine sR (.bool (decide ((p_0.len : Int) = 0))) (w_eql rfl rfl) ?_
 refine HL_nil ?_
 refine HC_cond (t := (decide ((p_0.len : Int) = 0))) rfl (fun hc => ?_) (fun hc => ?_)
 replace h := h.1 (of_decide_eq_true hc)
 clear hc
 refine cR (sR (.int .i64 40) (r_assign rfl rfl) ?_)
 exact HL_nil (HC_ret (rt1 f22 R rfl rfl h))
 replace h := h.2 (of_decide_eq_false hc)
 clear hc
 refine HC_skip ?_
 refine cR (sR (.int .i64 0) (r_assign rfl rfl) ?_)
 exact HL_nil (HC_ret (rt1 f22 R rfl rfl h))
 refine cR (sR (.int .i64 0) (r_assign rfl rfl) ?_)
 refine HL_nil ?_
 refine HC_block ?_
 obtain ⟨I1, m1, hI0, hr⟩ := h
 refine HC_loop (fun m1 E F => ∃ i_7 : Int, E 0 = (Sl.v p_0) ∧ E 3 = (Sl.v v_13) ∧ E 7 = (.int .i64 i_7) ∧ I1 m1 i_7 F) m1 ⟨_, h0, h3, rfl, hI0⟩ ?_
 clear hI0; rintro m1 E F ⟨i_7, h0, h3, h7, hI⟩
 have h := hr m1 i_7 F hI
 clear hr hI
 unfold b22L1 at h
 refine HC_seq ?_
 refine cR (sR _ (r_move rfl h7) ?_)
 refine sR _ (r_move rfl h0) ?_
 refine sR (.int .i64 (p_0.len : Int)) (r_lenSl rfl rfl underlying25) ?_
 refine sR (.int .i64 (IntKind.i64.wrap ((p_0.len : Int) - 1))) (r_sub rfl rfl rfl) ?_
 refine sR (.bool (decide (i_7 < (IntKind.i64.wrap ((p_0.len : Int) - 1))))) (r_lss rfl rfl rfl) ?_
 refine HL_nil ?_
 refine HC_cond (t := (decide (i_7 < (IntKind.i64.wrap ((p_0.len : Int) - 1))))) rfl (fun hc => ?_) (fun hc => ?_)
 replace h := h.1 (of_decide_eq_true hc)
 clear hc
 refine HC_skip ?_
 refine HC_seq ?_
 refine HC_block ?_
 refine cR (sR _ (r_move rfl h3) ?_)
 refine sR _ (r_move rfl h7) ?_
 obtain ⟨a66_, hb66, hl66, hu66, h⟩ := h
 refine sR (.pointer (some (Addr.add a66_ (Int.toNat i_7 * 1)))) (w_indexAddr rfl rfl underlying53 sz3 hb66 hl66 hu66) ?_
 obtain ⟨v_67, hc67, h⟩ := h
 refine sR (.int .i64 v_67) (r_load1 rfl rfl underlying3 rfl hc67) ?_
 refine sR (.bool (decide (v_67 ≠ 1))) (w_neq rfl rfl) ?_
 refine HL_nil ?_
 refine HC_cond (t := (decide (v_67 ≠ 1))) rfl (fun hc => ?_) (fun hc => ?_)
 replace h := h.1 (of_decide_eq_true hc)
 clear hc
 refine cR (sR (.int .i64 40) (r_assign rfl rfl) ?_)
 exact HL_nil (HC_ret (rt1 f22 R rfl rfl h))
 replace h := h.2 (of_decide_eq_false hc)
 clear hc
 refine HC_skip ?_
 refine HC_region ?_
 refine sR _ (r_move rfl h7) ?_
 refine sR (.int .i64 (IntKind.i64.wrap (i_7 + 1))) (r_add rfl rfl rfl) ?_
 refine sR (.int .i64 (IntKind.i64.wrap (i_7 + 1))) (r_assign rfl rfl) ?_
 refine HL_nil ?_
 obtain ⟨m', hm, h⟩ := h
 exact ⟨m', hm, _, h0, h3, rfl, h⟩
 replace h := h.2 (of_decide_eq_false hc)
 clear hc
 refine HC_exit ?_
 show b22J2 p_0 R _ _
 exact ⟨h0, h⟩
 refine cR (sR (.int .i64 0) (r_assign rfl rfl) ?_)
 refine HL_nil ?_
 refine HC_block ?_
 obtain ⟨I2, m2, hI0, hr⟩ := h
 refine HC_loop (fun m2 E F => ∃ i_4 : Int, E 0 = (Sl.v p_0) ∧ E 3 = (Sl.v v_13) ∧ E 4 = (.int .i64 i_4) ∧ I2 m2 i_4 F) m2 ⟨_, rfl, rfl, rfl, hI0⟩ ?_
 clear hI0; rintro m2 E F ⟨i_4, h0, h3, h4, hI⟩
 have h := hr m2 i_4 F hI
 clear hr hI
 unfold b22L2 at h
 refine HC_seq ?_
 refine cR (sR _ (r_move rfl h4) ?_)
 refine sR _ (r_move rfl h0) ?_
 refine sR (.int .i64 (p_0.len : Int)) (r_lenSl rfl rfl underlying25) ?_
 refine sR (.bool (decide (i_4 < (p_0.len : Int)))) (r_lss rfl rfl rfl) ?_
 refine HL_nil ?_
 refine HC_cond (t := (decide (i_4 < (p_0.len : Int)))) rfl (fun hc => ?_) (fun hc => ?_)
 replace h := h.1 (of_decide_eq_true hc)
 clear hc
 refine HC_skip ?_
 refine HC_seqJ (b22J3 (nx1 I2 m2) p_0 v_13 i_4 R) ?_ ?_
 clear h; rintro E F ⟨h0, h3, h4, h⟩
 unfold b22j3 at h
 refine HC_region ?_
 refine sR _ (r_move rfl h4) ?_
 refine sR (.int .i64 (IntKind.i64.wrap (i_4 + 1))) (r_add rfl rfl rfl) ?_
 refine sR (.int .i64 (IntKind.i64.wrap (i_4 + 1))) (r_assign rfl rfl) ?_
 refine HL_nil ?_
 obtain ⟨m', hm, h⟩ := h
 exact ⟨m', hm, _, h0, h3, rfl, h⟩
 refine HC_block ?_
 refine HC_seq ?_
 refine cR (sR _ (r_move rfl h0) ?_)
 refine sR _ (r_move rfl h4) ?_
 refine s_ef (k_call (vs := [(Sl.v p_0), (.int .i64 i_4)]) cb51 (evC rfl (evC rfl evN)) (h.mono ?_))
 clear h; rintro v F ⟨v_22, rfl, h⟩
 refine sR (.bool (!v_22)) (r_not rfl rfl) ?_
 refine HL_nil ?_
 refine HC_cond (t := (!v_22)) rfl (fun hc => ?_) (fun hc => ?_)
 replace h := h.1 hc
 clear hc
 refine cR (sR (.int .i64 40) (r_assign rfl rfl) ?_)
 exact HL_nil (HC_ret (rt1 f22 R rfl rfl h))
 replace h := h.2 hc
 clear hc
 refine HC_skip ?_
 refine cR (sR _ (r_move rfl h0) ?_)
 refine sR _ (r_move rfl h4) ?_
 obtain ⟨a27_, hb27, hl27, hu27, h⟩ := h
 refine sR (.pointer (some (Addr.add a27_ (Int.toNat i_4 * 5)))) (w_indexAddr rfl rfl underlying25 sz50 hb27 hl27 hu27) ?_
 refine sR (.pointer (some (Addr.add a27_ (Int.toNat i_4 * 5)))) (w_fieldAddr rfl underlying50 rfl rfl sz3 rfl rfl) ?_
 obtain ⟨v_29, hc29, h⟩ := h
 refine sR (.int .i64 v_29) (r_load1 rfl rfl underlying3 rfl hc29) ?_
 refine s_ef (k_call (vs := [(.int .i64 v_29)]) cb52 (evC rfl evN) (h.mono ?_))
 clear h; rintro v F ⟨v_30, v_30_1, rfl, h⟩
 refine sR (.tuple #[(.int .i64 v_30), (.bool v_30_1)]) (r_move rfl rfl) ?_
 refine sR (.int .i64 v_30) (r_extract rfl rfl rfl) ?_
 refine sR (.bool v_30_1) (r_extract rfl rfl rfl) ?_
 refine sR (.int .i64 v_30) (r_assign rfl rfl) ?_
 refine sR (.bool v_30_1) (r_assign rfl rfl) ?_
 refine HL_nil ?_
 refine HC_seqJ (b22J4 (nx1 I2 m2) p_0 v_13 i_4 v_30 R) ?_ ?_
 clear h; rintro E F ⟨h0, h3, h4, h5, h⟩
 unfold b22j4 at h
 refine cR (sR _ (r_move rfl h5) ?_)
 refine sR (.bool (decide (2 ≤ v_30))) (r_geq rfl rfl rfl) ?_
 refine HL_nil ?_
 refine HC_cond (t := (decide (2 ≤ v_30))) rfl (fun hc => ?_) (fun hc => ?_)
 replace h := h.1 (of_decide_eq_true hc)
 clear hc
 refine HC_region ?_
 refine sR _ (r_move rfl h3) ?_
 refine sR _ (r_move rfl h0) ?_
 refine sR _ (r_move rfl h4) ?_
 obtain ⟨a50_, hb50, hl50, hu50, h⟩ := h
 refine sR (.pointer (some (Addr.add a50_ (Int.toNat i_4 * 5)))) (w_indexAddr rfl rfl underlying25 sz50 hb50 hl50 hu50) ?_
 refine sR (.pointer (some (Addr.add (Addr.add a50_ (Int.toNat i_4 * 5)) 4))) (w_fieldAddr rfl underlying50 rfl rfl sz3 rfl rfl) ?_
 obtain ⟨v_52, hc52, h⟩ := h
 refine sR (.int .i64 v_52) (r_load1 rfl rfl underlying3 rfl hc52) ?_
 obtain ⟨a53_, hb53, hl53, hu53, h⟩ := h
 refine sR (.pointer (some (Addr.add a53_ (Int.toNat v_52 * 1)))) (w_indexAddr rfl rfl underlying53 sz3 hb53 hl53 hu53) ?_
 obtain ⟨v_54, hc54, h⟩ := h
 refine sR (.int .i64 v_54) (r_load1 rfl rfl underlying3 rfl hc54) ?_
 refine sR (.int .i64 (IntKind.i64.wrap (v_54 + 1))) (r_add rfl rfl rfl) ?_
 obtain ⟨a56_, hb56, hl56, hu56, h⟩ := h
 refine sR (.pointer (some (Addr.add a56_ (Int.toNat v_52 * 1)))) (w_indexAddr rfl rfl underlying53 sz3 hb56 hl56 hu56) ?_
 refine s_ef0 (k_store1 (v := (.int .i64 (IntKind.i64.wrap (v_54 + 1)))) rfl rfl sz3 rfl st_int ?_)
 obtain ⟨c, e, hz3, hz4, hz5, h⟩ := h
 refine ⟨c, e, hz3, hz4, hz5, ?_⟩
 replace h := atE h
 refine HL_nil ?_
 show b22J3 (nx1 I2 m2) p_0 v_13 i_4 R _ _
 exact ⟨h0, h3, h4, h⟩
 replace h := h.2 (of_decide_eq_false hc)
 clear hc
 refine HC_skip ?_
 show b22J3 (nx1 I2 m2) p_0 v_13 i_4 R _ _
 exact ⟨h0, h3, h4, h⟩
 refine cR (sR (.int .i64 v_30) (r_move rfl rfl) ?_)
 refine sR (.bool (decide (1 ≤ v_30))) (r_geq rfl rfl rfl) ?_
 refine HL_nil ?_
 refine HC_cond (t := (decide (1 ≤ v_30))) rfl (fun hc => ?_) (fun hc => ?_)
 replace h := h.1 (of_decide_eq_true hc)
 clear hc
 refine HC_region ?_
 refine sR _ (r_move rfl h3) ?_
 refine sR _ (r_move rfl h0) ?_
 refine sR _ (r_move rfl h4) ?_
 obtain ⟨a38_, hb38, hl38, hu38, h⟩ := h
 refine sR (.pointer (some (Addr.add a38_ (Int.toNat i_4 * 5)))) (w_indexAddr rfl rfl underlying25 sz50 hb38 hl38 hu38) ?_
 refine sR (.pointer (some (Addr.add (Addr.add a38_ (Int.toNat i_4 * 5)) 3))) (w_fieldAddr rfl underlying50 rfl rfl sz3 rfl rfl) ?_
 obtain ⟨v_40, hc40, h⟩ := h
 refine sR (.int .i64 v_40) (r_load1 rfl rfl underlying3 rfl hc40) ?_
 obtain ⟨a41_, hb41, hl41, hu41, h⟩ := h
 refine sR (.pointer (some (Addr.add a41_ (Int.toNat v_40 * 1)))) (w_indexAddr rfl rfl underlying53 sz3 hb41 hl41 hu41) ?_
 obtain ⟨v_42, hc42, h⟩ := h
 refine sR (.int .i64 v_42) (r_load1 rfl rfl underlying3 rfl hc42) ?_
 refine sR (.int .i64 (IntKind.i64.wrap (v_42 + 1))) (r_add rfl rfl rfl) ?_
 obtain ⟨a44_, hb44, hl44, hu44, h⟩ := h
 refine sR (.pointer (some (Addr.add a44_ (Int.toNat v_40 * 1)))) (w_indexAddr rfl rfl underlying53 sz3 hb44 hl44 hu44) ?_
 refine s_ef0 (k_store1 (v := (.int .i64 (IntKind.i64.wrap (v_42 + 1)))) rfl rfl sz3 rfl st_int ?_)
 obtain ⟨c, e, hz3, hz4, hz5, h⟩ := h
 refine ⟨c, e, hz3, hz4, hz5, ?_⟩
 replace h := atE h
 refine HL_nil ?_
 show b22J4 (nx1 I2 m2) p_0 v_13 i_4 v_30 R _ _
 exact ⟨h0, h3, h4, rfl, h⟩
 replace h := h.2 (of_decide_eq_false hc)
 clear hc
 refine HC_skip ?_
 show b22J4 (nx1 I2 m2) p_0 v_13 i_4 v_30 R _ _
 exact ⟨h0, h3, h4, rfl, h⟩
 replace h := h.2 (of_decide_eq_false hc)
 clear hc
 refine HC_exit ?_
 show b22J1 p_0 v_13 R _ _
 exact ⟨h0, h3, h⟩
set_option maxHeartbeats 4000000
/- 75 koine.koineref04.show -/
end Go.Proofs.YtnjcgpihfmklfaaDoor
