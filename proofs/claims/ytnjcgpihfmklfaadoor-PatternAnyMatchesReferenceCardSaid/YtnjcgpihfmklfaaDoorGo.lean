/-
  What functions of the program do, in a clean form, each with the proof that its code does so. Printed by a program.
-/
import Derived.Test.YtnjcgpihfmklfaaDoorGf
import Derived.Test.YtnjcgpihfmklfaaDoorPho
import Derived.Test.YtnjcgpihfmklfaaDoorPhp
namespace Go.Proofs.YtnjcgpihfmklfaaDoor
open Go Go.Proofs.Tryd
set_option maxRecDepth 10000
set_option maxHeartbeats 4000000
/- 51 koine.koineref04.valid -/
def b51j2 (i_1 : Int) (b5 : Nat) (v_15 : Int) (R : VP) (F : PH) :=
 ((v_15 < 1 →
  ((v_15 < 2 →
   R (.bool true) F) ∧
  (¬ (v_15 < 2) →
   ∃ v_86 : Int, F.cell (Addr.mk b5 4 none) = some (.int .i64 v_86) ∧
   ((0 ≤ v_86 →
    ∃ v_90 : Int, F.cell (Addr.mk b5 4 none) = some (.int .i64 v_90) ∧
    R (.bool (decide (v_90 < i_1))) F) ∧
   (¬ (0 ≤ v_86) →
    R (.bool false) F))))) ∧
 (¬ (v_15 < 1) →
  ∃ v_72 : Int, F.cell (Addr.mk b5 3 none) = some (.int .i64 v_72) ∧
  ((0 ≤ v_72 →
   ∃ v_76 : Int, F.cell (Addr.mk b5 3 none) = some (.int .i64 v_76) ∧
   ((v_76 < i_1 →
    ((v_15 < 2 →
     R (.bool true) F) ∧
    (¬ (v_15 < 2) →
     ∃ v_86_1 : Int, F.cell (Addr.mk b5 4 none) = some (.int .i64 v_86_1) ∧
     ((0 ≤ v_86_1 →
      ∃ v_90_1 : Int, F.cell (Addr.mk b5 4 none) = some (.int .i64 v_90_1) ∧
      R (.bool (decide (v_90_1 < i_1))) F) ∧
     (¬ (0 ≤ v_86_1) →
      R (.bool false) F))))) ∧
   (¬ (v_76 < i_1) →
    R (.bool false) F))) ∧
  (¬ (0 ≤ v_72) →
   R (.bool false) F))))
abbrev b51J2 (i_1 : Int) (b5 : Nat) (v_15 : Int) (R : VP) (E : En) (F : PH) : Prop := E 1 = (.int .i64 i_1) ∧ E 5 = (.pointer (some (Addr.mk b5 0 none))) ∧ E 6 = (.int .i64 v_15) ∧ b51j2 i_1 b5 v_15 R F
def b51j1 (i_1 : Int) (b5 : Nat) (v_15 : Int) (R : VP) (F : PH) :=
 ((v_15 < 1 →
  ∃ v_56 : Int, F.cell (Addr.mk b5 3 none) = some (.int .i64 v_56) ∧
  ((v_56 ≠ 0 →
   R (.bool false) F) ∧
  (¬ (v_56 ≠ 0) →
   ((v_15 < 2 →
    ∃ v_64 : Int, F.cell (Addr.mk b5 4 none) = some (.int .i64 v_64) ∧
    ((v_64 ≠ 0 →
     R (.bool false) F) ∧
    (¬ (v_64 ≠ 0) →
     b51j2 i_1 b5 v_15 R F))) ∧
   (¬ (v_15 < 2) →
    b51j2 i_1 b5 v_15 R F))))) ∧
 (¬ (v_15 < 1) →
  ((v_15 < 2 →
   ∃ v_64_1 : Int, F.cell (Addr.mk b5 4 none) = some (.int .i64 v_64_1) ∧
   ((v_64_1 ≠ 0 →
    R (.bool false) F) ∧
   (¬ (v_64_1 ≠ 0) →
    b51j2 i_1 b5 v_15 R F))) ∧
  (¬ (v_15 < 2) →
   b51j2 i_1 b5 v_15 R F))))
abbrev b51J1 (i_1 : Int) (b5 : Nat) (v_15 : Int) (R : VP) (E : En) (F : PH) : Prop := E 1 = (.int .i64 i_1) ∧ E 5 = (.pointer (some (Addr.mk b5 0 none))) ∧ E 6 = (.int .i64 v_15) ∧ b51j1 i_1 b5 v_15 R F
def b51 (p_0 : Sl) (i_1 : Int) (R : VP) (F : PH) :=
 ∃ a10_ : Addr, p_0.base = some a10_ ∧ 0 ≤ i_1 ∧ i_1 < (p_0.len : Int) ∧
 ∃ v_11 : Array Value, v_11.size = 5 ∧ F.row (Addr.add a10_ (Int.toNat i_1 * 5)) v_11 ∧
 ∀ b5, F b5 = none → atF (F.set b5 (.cells (#[.int .i64 0, .int .i64 0, .int .i64 0, .int .i64 0, .int .i64 0]) 50)) fun F =>
 v_11.size = 5 ∧ (∀ v ∈ v_11.toList, storable v) ∧ ∃ c e, F (Addr.mk b5 0 none).block = some (.cells c e (0, 0)) ∧ (Addr.mk b5 0 none).spot = none ∧ (Addr.mk b5 0 none).off + 5 ≤ c.size ∧
 atF (F.set (Addr.mk b5 0 none).block (.cells (wr c (Addr.mk b5 0 none).off v_11.toList) e)) fun F =>
 ∃ v_14 : Int, F.cell (Addr.mk b5 0 none) = some (.int .i64 v_14) ∧
 Spec prog 52 #[(.int .i64 v_14)] F fun v F => ∃ v_15 : Int, ∃ v_15_1 : Bool, v = (.tuple #[(.int .i64 v_15), (.bool v_15_1)]) ∧
 (((!v_15_1) = true →
  R (.bool false) F) ∧
 ((!v_15_1) = false →
  ∃ v_22 : Int, F.cell (Addr.mk b5 0 none) = some (.int .i64 v_22) ∧
  ((v_22 ≠ 1 →
   ∃ v_26 : Int, F.cell (Addr.mk b5 1 none) = some (.int .i64 v_26) ∧
   ((v_26 ≠ 0 →
    R (.bool false) F) ∧
   (¬ (v_26 ≠ 0) →
    ∃ v_30 : Int, F.cell (Addr.mk b5 2 none) = some (.int .i64 v_30) ∧
    ((v_30 ≠ 0 →
     R (.bool false) F) ∧
    (¬ (v_30 ≠ 0) →
     ∃ v_37 : Int, F.cell (Addr.mk b5 1 none) = some (.int .i64 v_37) ∧
     ((v_37 < 0 →
      R (.bool false) F) ∧
     (¬ (v_37 < 0) →
      ∃ v_42 : Int, F.cell (Addr.mk b5 1 none) = some (.int .i64 v_42) ∧
      ∃ v_44 : Int, F.cell (Addr.mk b5 2 none) = some (.int .i64 v_44) ∧
      ((v_44 < v_42 →
       R (.bool false) F) ∧
      (¬ (v_44 < v_42) →
       ∃ v_49 : Int, F.cell (Addr.mk b5 2 none) = some (.int .i64 v_49) ∧
       ((255 < v_49 →
        R (.bool false) F) ∧
       (¬ (255 < v_49) →
        b51j1 i_1 b5 v_15 R F))))))))))) ∧
  (¬ (v_22 ≠ 1) →
   ∃ v_37_1 : Int, F.cell (Addr.mk b5 1 none) = some (.int .i64 v_37_1) ∧
   ((v_37_1 < 0 →
    R (.bool false) F) ∧
   (¬ (v_37_1 < 0) →
    ∃ v_42_1 : Int, F.cell (Addr.mk b5 1 none) = some (.int .i64 v_42_1) ∧
    ∃ v_44_1 : Int, F.cell (Addr.mk b5 2 none) = some (.int .i64 v_44_1) ∧
    ((v_44_1 < v_42_1 →
     R (.bool false) F) ∧
    (¬ (v_44_1 < v_42_1) →
     ∃ v_49_1 : Int, F.cell (Addr.mk b5 2 none) = some (.int .i64 v_49_1) ∧
     ((255 < v_49_1 →
      R (.bool false) F) ∧
     (¬ (255 < v_49_1) →
      b51j1 i_1 b5 v_15 R F))))))))))
theorem c51 {p_0 : Sl} {i_1 : Int} {R : VP} {F : PH} (h : b51 p_0 i_1 R F) : Spec prog 51 #[(Sl.v p_0), (.int .i64 i_1)] F R := by
 refine spec_of (args := [(Sl.v p_0), (.int .i64 i_1)]) func51 rfl ntmps51 rfl ?_
 unfold b51 at h
 refine cR ?_
 refine sR (.bool false) (r_assign rfl rfl) ?_
 refine HL_nil ?_
 refine cR ?_
 refine sR (Sl.v p_0) (r_move rfl rfl) ?_
 refine sR (.int .i64 i_1) (r_move rfl rfl) ?_
 obtain ⟨a10_, hb10, hl10, hu10, h⟩ := h
 refine sR (.pointer (some (Addr.add a10_ (Int.toNat i_1 * 5)))) (w_indexAddr rfl rfl underlying25 sz50 hb10 hl10 hu10) ?_
 obtain ⟨v_11, hs11, hc11, h⟩ := h
 refine sR (.agg v_11) (w_loadN rfl underlying50 rfl sz50 hs11 hc11) ?_
 refine s_ef (k_alloc zr50 ?_)
 intro b5 hf_b5
 replace h := atE (h b5 hf_b5)
 refine s_ef0 (k_storeN (vs := v_11) rfl rfl sz50 (by decide) ?_)
 obtain ⟨hz1, hz2, c, e, hz3, hz4, hz5, h⟩ := h
 refine ⟨hz1, hz2, c, e, hz3, hz4, hz5, ?_⟩
 replace h := atE h
 refine HL_nil ?_
 refine cR ?_
 refine sR (.pointer (some (Addr.mk b5 0 none))) (w_fieldAddr rfl underlying50 rfl rfl sz3 rfl rfl) ?_
 obtain ⟨v_14, hc14, h⟩ := h
 refine sR (.int .i64 v_14) (r_load1 rfl rfl underlying3 rfl hc14) ?_
 refine s_ef (k_call (vs := [(.int .i64 v_14)]) cb52 (evC rfl evN) (h.mono ?_))
 clear h; rintro v F ⟨v_15, v_15_1, rfl, h⟩
 refine sR (.tuple #[(.int .i64 v_15), (.bool v_15_1)]) (r_move rfl rfl) ?_
 refine sR (.int .i64 v_15) (r_extract rfl rfl rfl) ?_
 refine sR (.bool v_15_1) (r_extract rfl rfl rfl) ?_
 refine sR (.int .i64 v_15) (r_assign rfl rfl) ?_
 refine sR (.bool v_15_1) (r_assign rfl rfl) ?_
 refine HL_nil ?_
 refine HC_seqJ (b51J1 i_1 b5 v_15 R) ?_ ?_
 clear h; rintro E F ⟨h1, h5, h6, h⟩
 unfold b51j1 at h
 refine HC_seqJ (b51J2 i_1 b5 v_15 R) ?_ ?_
 clear h; rintro E F ⟨h1, h5, h6, h⟩
 unfold b51j2 at h
 refine cR ?_
 refine sR _ (r_move rfl h6) ?_
 refine sR (.bool (decide (v_15 < 1))) (r_lss rfl rfl rfl) ?_
 refine sR (.bool (decide (v_15 < 1))) (r_move rfl rfl) ?_
 by_cases hc : v_15 < 1
 replace h := h.1 hc
 refine kN 69 (decide_eq_true hc) ?_
 refine kN 70 (decide_eq_true hc) ?_
 iterate 9 refine s_skip ?_
 refine sR (.bool true) (r_pt rfl rfl) ?_
 refine sR (.bool true) (r_move rfl rfl) ?_
 refine sR _ (r_move rfl h6) ?_
 refine sR (.bool (decide (v_15 < 2))) (r_lss rfl rfl rfl) ?_
 refine sR (.bool (decide (v_15 < 2))) (r_move rfl rfl) ?_
 by_cases hc : v_15 < 2
 replace h := h.1 hc
 refine kN 83 (decide_eq_true hc) ?_
 refine kN 84 (decide_eq_true hc) ?_
 iterate 9 refine s_skip ?_
 refine sR (.bool true) (r_pt rfl rfl) ?_
 refine sR (.bool true) (r_pt rfl rfl) ?_
 refine sR (.bool true) (r_assign rfl rfl) ?_
 refine HL_nil ?_
 exact HC_ret (rt1 f51 R rfl rfl h)
 replace h := h.2 hc
 refine kN 83 (decide_eq_false hc) ?_
 refine kN 84 (decide_eq_false hc) ?_
 refine sR (.pointer (some (Addr.mk b5 4 none))) (w_fieldAddr h5 underlying50 rfl rfl sz3 rfl rfl) ?_
 obtain ⟨v_86, hc86, h⟩ := h
 refine sR (.int .i64 v_86) (r_load1 rfl rfl underlying3 rfl hc86) ?_
 refine sR (.bool (decide (0 ≤ v_86))) (r_geq rfl rfl rfl) ?_
 refine sR (.bool (decide (0 ≤ v_86))) (r_move rfl rfl) ?_
 by_cases hc : 0 ≤ v_86
 replace h := h.1 hc
 refine kN 87 (decide_eq_true hc) ?_
 refine kN 88 (decide_eq_true hc) ?_
 refine sR (.pointer (some (Addr.mk b5 4 none))) (w_fieldAddr h5 underlying50 rfl rfl sz3 rfl rfl) ?_
 obtain ⟨v_90, hc90, h⟩ := h
 refine sR (.int .i64 v_90) (r_load1 rfl rfl underlying3 rfl hc90) ?_
 refine sR _ (r_move rfl h1) ?_
 refine sR (.bool (decide (v_90 < i_1))) (r_lss rfl rfl rfl) ?_
 refine sR (.bool (decide (v_90 < i_1))) (r_pt rfl rfl) ?_
 refine sR (.bool (decide (v_90 < i_1))) (r_pf rfl rfl) ?_
 refine sR (.bool (decide (v_90 < i_1))) (r_pt rfl rfl) ?_
 refine sR (.bool (decide (v_90 < i_1))) (r_assign rfl rfl) ?_
 refine HL_nil ?_
 exact HC_ret (rt1 f51 R rfl rfl h)
 replace h := h.2 hc
 refine kN 87 (decide_eq_false hc) ?_
 refine kN 88 (decide_eq_false hc) ?_
 iterate 4 refine s_skip ?_
 refine sR (.bool false) (r_pf rfl rfl) ?_
 refine sR (.bool false) (r_pf rfl rfl) ?_
 refine sR (.bool false) (r_pt rfl rfl) ?_
 refine sR (.bool false) (r_assign rfl rfl) ?_
 refine HL_nil ?_
 exact HC_ret (rt1 f51 R rfl rfl h)
 replace h := h.2 hc
 refine kN 69 (decide_eq_false hc) ?_
 refine kN 70 (decide_eq_false hc) ?_
 refine sR (.pointer (some (Addr.mk b5 3 none))) (w_fieldAddr h5 underlying50 rfl rfl sz3 rfl rfl) ?_
 obtain ⟨v_72, hc72, h⟩ := h
 refine sR (.int .i64 v_72) (r_load1 rfl rfl underlying3 rfl hc72) ?_
 refine sR (.bool (decide (0 ≤ v_72))) (r_geq rfl rfl rfl) ?_
 refine sR (.bool (decide (0 ≤ v_72))) (r_move rfl rfl) ?_
 by_cases hc : 0 ≤ v_72
 replace h := h.1 hc
 refine kN 73 (decide_eq_true hc) ?_
 refine kN 74 (decide_eq_true hc) ?_
 refine sR (.pointer (some (Addr.mk b5 3 none))) (w_fieldAddr h5 underlying50 rfl rfl sz3 rfl rfl) ?_
 obtain ⟨v_76, hc76, h⟩ := h
 refine sR (.int .i64 v_76) (r_load1 rfl rfl underlying3 rfl hc76) ?_
 refine sR _ (r_move rfl h1) ?_
 refine sR (.bool (decide (v_76 < i_1))) (r_lss rfl rfl rfl) ?_
 refine sR (.bool (decide (v_76 < i_1))) (r_pt rfl rfl) ?_
 refine sR (.bool (decide (v_76 < i_1))) (r_pf rfl rfl) ?_
 refine sR (.bool (decide (v_76 < i_1))) (r_move rfl rfl) ?_
 by_cases hc : v_76 < i_1
 replace h := h.1 hc
 refine kN 78 (decide_eq_true hc) ?_
 refine kN 79 (decide_eq_true hc) ?_
 refine kN 80 (decide_eq_true hc) ?_
 refine kN 81 (decide_eq_true hc) ?_
 refine sR _ (r_move rfl h6) ?_
 refine sR (.bool (decide (v_15 < 2))) (r_lss rfl rfl rfl) ?_
 refine sR (.bool (decide (v_15 < 2))) (r_move rfl rfl) ?_
 by_cases hc : v_15 < 2
 replace h := h.1 hc
 refine kN 83 (decide_eq_true hc) ?_
 refine kN 84 (decide_eq_true hc) ?_
 iterate 9 refine s_skip ?_
 refine sR (.bool true) (r_pt rfl rfl) ?_
 refine sR (.bool true) (r_pt rfl rfl) ?_
 refine sR (.bool true) (r_assign rfl rfl) ?_
 refine HL_nil ?_
 exact HC_ret (rt1 f51 R rfl rfl h)
 replace h := h.2 hc
 refine kN 83 (decide_eq_false hc) ?_
 refine kN 84 (decide_eq_false hc) ?_
 refine sR (.pointer (some (Addr.mk b5 4 none))) (w_fieldAddr h5 underlying50 rfl rfl sz3 rfl rfl) ?_
 obtain ⟨v_86_1, hc86, h⟩ := h
 refine sR (.int .i64 v_86_1) (r_load1 rfl rfl underlying3 rfl hc86) ?_
 refine sR (.bool (decide (0 ≤ v_86_1))) (r_geq rfl rfl rfl) ?_
 refine sR (.bool (decide (0 ≤ v_86_1))) (r_move rfl rfl) ?_
 by_cases hc : 0 ≤ v_86_1
 replace h := h.1 hc
 refine kN 87 (decide_eq_true hc) ?_
 refine kN 88 (decide_eq_true hc) ?_
 refine sR (.pointer (some (Addr.mk b5 4 none))) (w_fieldAddr h5 underlying50 rfl rfl sz3 rfl rfl) ?_
 obtain ⟨v_90_1, hc90, h⟩ := h
 refine sR (.int .i64 v_90_1) (r_load1 rfl rfl underlying3 rfl hc90) ?_
 refine sR _ (r_move rfl h1) ?_
 refine sR (.bool (decide (v_90_1 < i_1))) (r_lss rfl rfl rfl) ?_
 refine sR (.bool (decide (v_90_1 < i_1))) (r_pt rfl rfl) ?_
 refine sR (.bool (decide (v_90_1 < i_1))) (r_pf rfl rfl) ?_
 refine sR (.bool (decide (v_90_1 < i_1))) (r_pt rfl rfl) ?_
 refine sR (.bool (decide (v_90_1 < i_1))) (r_assign rfl rfl) ?_
 refine HL_nil ?_
 exact HC_ret (rt1 f51 R rfl rfl h)
 replace h := h.2 hc
 refine kN 87 (decide_eq_false hc) ?_
 refine kN 88 (decide_eq_false hc) ?_
 iterate 4 refine s_skip ?_
 refine sR (.bool false) (r_pf rfl rfl) ?_
 refine sR (.bool false) (r_pf rfl rfl) ?_
 refine sR (.bool false) (r_pt rfl rfl) ?_
 refine sR (.bool false) (r_assign rfl rfl) ?_
 refine HL_nil ?_
 exact HC_ret (rt1 f51 R rfl rfl h)
 replace h := h.2 hc
 refine kN 78 (decide_eq_false hc) ?_
 refine kN 79 (decide_eq_false hc) ?_
 refine kN 80 (decide_eq_false hc) ?_
 refine kN 81 (decide_eq_false hc) ?_
 iterate 13 refine s_skip ?_
 refine sR (.bool false) (r_pf rfl rfl) ?_
 refine sR (.bool false) (r_assign rfl rfl) ?_
 refine HL_nil ?_
 exact HC_ret (rt1 f51 R rfl rfl h)
 replace h := h.2 hc
 refine kN 73 (decide_eq_false hc) ?_
 refine kN 74 (decide_eq_false hc) ?_
 iterate 4 refine s_skip ?_
 refine sR (.bool false) (r_pf rfl rfl) ?_
 refine sR (.bool false) (r_pf rfl rfl) ?_
 refine sR (.bool false) (r_move rfl rfl) ?_
 iterate 13 refine s_skip ?_
 refine sR (.bool false) (r_pf rfl rfl) ?_
 refine sR (.bool false) (r_assign rfl rfl) ?_
 refine HL_nil ?_
 exact HC_ret (rt1 f51 R rfl rfl h)
 refine cR ?_
 refine sR _ (r_move rfl h6) ?_
 refine sR (.bool (decide (v_15 < 1))) (r_lss rfl rfl rfl) ?_
 refine sR (.bool (decide (v_15 < 1))) (r_move rfl rfl) ?_
 by_cases hc : v_15 < 1
 replace h := h.1 hc
 refine kN 53 (decide_eq_true hc) ?_
 refine kN 54 (decide_eq_true hc) ?_
 refine sR (.pointer (some (Addr.mk b5 3 none))) (w_fieldAddr h5 underlying50 rfl rfl sz3 rfl rfl) ?_
 obtain ⟨v_56, hc56, h⟩ := h
 refine sR (.int .i64 v_56) (r_load1 rfl rfl underlying3 rfl hc56) ?_
 refine sR (.bool (decide (v_56 ≠ 0))) (w_neq rfl rfl) ?_
 refine sR (.bool (decide (v_56 ≠ 0))) (r_pt rfl rfl) ?_
 refine sR (.bool (decide (v_56 ≠ 0))) (r_move rfl rfl) ?_
 by_cases hc : v_56 ≠ 0
 replace h := h.1 hc
 refine kN 57 (decide_eq_true hc) ?_
 refine kN 58 (decide_eq_true hc) ?_
 refine kN 59 (decide_eq_true hc) ?_
 iterate 7 refine s_skip ?_
 refine sR (.bool true) (r_pt rfl rfl) ?_
 refine HL_nil ?_
 refine HC_condT rfl ?_
 refine cR ?_
 refine sR (.bool false) (r_assign rfl rfl) ?_
 refine HL_nil ?_
 exact HC_ret (rt1 f51 R rfl rfl h)
 replace h := h.2 hc
 refine kN 57 (decide_eq_false hc) ?_
 refine kN 58 (decide_eq_false hc) ?_
 refine kN 59 (decide_eq_false hc) ?_
 refine sR _ (r_move rfl h6) ?_
 refine sR (.bool (decide (v_15 < 2))) (r_lss rfl rfl rfl) ?_
 refine sR (.bool (decide (v_15 < 2))) (r_move rfl rfl) ?_
 by_cases hc : v_15 < 2
 replace h := h.1 hc
 refine kN 61 (decide_eq_true hc) ?_
 refine kN 62 (decide_eq_true hc) ?_
 refine sR (.pointer (some (Addr.mk b5 4 none))) (w_fieldAddr h5 underlying50 rfl rfl sz3 rfl rfl) ?_
 obtain ⟨v_64, hc64, h⟩ := h
 refine sR (.int .i64 v_64) (r_load1 rfl rfl underlying3 rfl hc64) ?_
 refine sR (.bool (decide (v_64 ≠ 0))) (w_neq rfl rfl) ?_
 refine sR (.bool (decide (v_64 ≠ 0))) (r_pt rfl rfl) ?_
 refine sR (.bool (decide (v_64 ≠ 0))) (r_pf rfl rfl) ?_
 refine HL_nil ?_
 refine HC_cond (t := (decide (v_64 ≠ 0))) rfl (fun hc => ?_) (fun hc => ?_)
 replace h := h.1 (of_decide_eq_true hc)
 clear hc
 refine cR ?_
 refine sR (.bool false) (r_assign rfl rfl) ?_
 refine HL_nil ?_
 exact HC_ret (rt1 f51 R rfl rfl h)
 replace h := h.2 (of_decide_eq_false hc)
 clear hc
 refine HC_skip ?_
 show b51J2 i_1 b5 v_15 R _ _
 exact ⟨h1, h5, h6, h⟩
 replace h := h.2 hc
 refine kN 61 (decide_eq_false hc) ?_
 refine kN 62 (decide_eq_false hc) ?_
 iterate 3 refine s_skip ?_
 refine sR (.bool false) (r_pf rfl rfl) ?_
 refine sR (.bool false) (r_pf rfl rfl) ?_
 refine HL_nil ?_
 refine HC_condF rfl ?_
 refine HC_skip ?_
 show b51J2 i_1 b5 v_15 R _ _
 exact ⟨h1, h5, h6, h⟩
 replace h := h.2 hc
 refine kN 53 (decide_eq_false hc) ?_
 refine kN 54 (decide_eq_false hc) ?_
 iterate 3 refine s_skip ?_
 refine sR (.bool false) (r_pf rfl rfl) ?_
 refine sR (.bool false) (r_move rfl rfl) ?_
 refine sR _ (r_move rfl h6) ?_
 refine sR (.bool (decide (v_15 < 2))) (r_lss rfl rfl rfl) ?_
 refine sR (.bool (decide (v_15 < 2))) (r_move rfl rfl) ?_
 by_cases hc : v_15 < 2
 replace h := h.1 hc
 refine kN 61 (decide_eq_true hc) ?_
 refine kN 62 (decide_eq_true hc) ?_
 refine sR (.pointer (some (Addr.mk b5 4 none))) (w_fieldAddr h5 underlying50 rfl rfl sz3 rfl rfl) ?_
 obtain ⟨v_64_1, hc64, h⟩ := h
 refine sR (.int .i64 v_64_1) (r_load1 rfl rfl underlying3 rfl hc64) ?_
 refine sR (.bool (decide (v_64_1 ≠ 0))) (w_neq rfl rfl) ?_
 refine sR (.bool (decide (v_64_1 ≠ 0))) (r_pt rfl rfl) ?_
 refine sR (.bool (decide (v_64_1 ≠ 0))) (r_pf rfl rfl) ?_
 refine HL_nil ?_
 refine HC_cond (t := (decide (v_64_1 ≠ 0))) rfl (fun hc => ?_) (fun hc => ?_)
 replace h := h.1 (of_decide_eq_true hc)
 clear hc
 refine cR ?_
 refine sR (.bool false) (r_assign rfl rfl) ?_
 refine HL_nil ?_
 exact HC_ret (rt1 f51 R rfl rfl h)
 replace h := h.2 (of_decide_eq_false hc)
 clear hc
 refine HC_skip ?_
 show b51J2 i_1 b5 v_15 R _ _
 exact ⟨h1, h5, h6, h⟩
 replace h := h.2 hc
 refine kN 61 (decide_eq_false hc) ?_
 refine kN 62 (decide_eq_false hc) ?_
 iterate 3 refine s_skip ?_
 refine sR (.bool false) (r_pf rfl rfl) ?_
 refine sR (.bool false) (r_pf rfl rfl) ?_
 refine HL_nil ?_
 refine HC_condF rfl ?_
 refine HC_skip ?_
 show b51J2 i_1 b5 v_15 R _ _
 exact ⟨h1, h5, h6, h⟩
 refine cR ?_
 refine sR (.bool v_15_1) (r_move rfl rfl) ?_
 refine sR (.bool (!v_15_1)) (r_not rfl rfl) ?_
 refine sR (.bool (!v_15_1)) (r_move rfl rfl) ?_
 by_cases hc : (!v_15_1) = true
 replace h := h.1 hc
 refine kN 19 hc ?_
 refine kN 20 hc ?_
 iterate 13 refine s_skip ?_
 refine sR (.bool true) (r_pt rfl rfl) ?_
 refine sR (.bool true) (r_move rfl rfl) ?_
 iterate 3 refine s_skip ?_
 refine sR (.bool true) (r_pt rfl rfl) ?_
 refine sR (.bool true) (r_move rfl rfl) ?_
 iterate 5 refine s_skip ?_
 refine sR (.bool true) (r_pt rfl rfl) ?_
 refine sR (.bool true) (r_move rfl rfl) ?_
 iterate 3 refine s_skip ?_
 refine sR (.bool true) (r_pt rfl rfl) ?_
 refine HL_nil ?_
 refine HC_condT rfl ?_
 refine cR ?_
 refine sR (.bool false) (r_assign rfl rfl) ?_
 refine HL_nil ?_
 exact HC_ret (rt1 f51 R rfl rfl h)
 replace hc := eq_false_of_ne_true hc; replace h := h.2 hc
 refine kN 19 hc ?_
 refine kN 20 hc ?_
 refine sR (.pointer (some (Addr.mk b5 0 none))) (w_fieldAddr rfl underlying50 rfl rfl sz3 rfl rfl) ?_
 obtain ⟨v_22, hc22, h⟩ := h
 refine sR (.int .i64 v_22) (r_load1 rfl rfl underlying3 rfl hc22) ?_
 refine sR (.bool (decide (v_22 ≠ 1))) (w_neq rfl rfl) ?_
 refine sR (.bool (decide (v_22 ≠ 1))) (r_move rfl rfl) ?_
 by_cases hc : v_22 ≠ 1
 replace h := h.1 hc
 refine kN 23 (decide_eq_true hc) ?_
 refine kN 24 (decide_eq_true hc) ?_
 refine sR (.pointer (some (Addr.mk b5 1 none))) (w_fieldAddr rfl underlying50 rfl rfl sz3 rfl rfl) ?_
 obtain ⟨v_26, hc26, h⟩ := h
 refine sR (.int .i64 v_26) (r_load1 rfl rfl underlying3 rfl hc26) ?_
 refine sR (.bool (decide (v_26 ≠ 0))) (w_neq rfl rfl) ?_
 refine sR (.bool (decide (v_26 ≠ 0))) (r_move rfl rfl) ?_
 by_cases hc : v_26 ≠ 0
 replace h := h.1 hc
 refine kN 27 (decide_eq_true hc) ?_
 refine kN 28 (decide_eq_true hc) ?_
 iterate 3 refine s_skip ?_
 refine sR (.bool true) (r_pt rfl rfl) ?_
 refine sR (.bool true) (r_pt rfl rfl) ?_
 refine sR (.bool true) (r_pf rfl rfl) ?_
 refine sR (.bool true) (r_move rfl rfl) ?_
 iterate 3 refine s_skip ?_
 refine sR (.bool true) (r_pt rfl rfl) ?_
 refine sR (.bool true) (r_move rfl rfl) ?_
 iterate 5 refine s_skip ?_
 refine sR (.bool true) (r_pt rfl rfl) ?_
 refine sR (.bool true) (r_move rfl rfl) ?_
 iterate 3 refine s_skip ?_
 refine sR (.bool true) (r_pt rfl rfl) ?_
 refine HL_nil ?_
 refine HC_condT rfl ?_
 refine cR ?_
 refine sR (.bool false) (r_assign rfl rfl) ?_
 refine HL_nil ?_
 exact HC_ret (rt1 f51 R rfl rfl h)
 replace h := h.2 hc
 refine kN 27 (decide_eq_false hc) ?_
 refine kN 28 (decide_eq_false hc) ?_
 refine sR (.pointer (some (Addr.mk b5 2 none))) (w_fieldAddr rfl underlying50 rfl rfl sz3 rfl rfl) ?_
 obtain ⟨v_30, hc30, h⟩ := h
 refine sR (.int .i64 v_30) (r_load1 rfl rfl underlying3 rfl hc30) ?_
 refine sR (.bool (decide (v_30 ≠ 0))) (w_neq rfl rfl) ?_
 refine sR (.bool (decide (v_30 ≠ 0))) (r_pf rfl rfl) ?_
 refine sR (.bool (decide (v_30 ≠ 0))) (r_pt rfl rfl) ?_
 refine sR (.bool (decide (v_30 ≠ 0))) (r_pf rfl rfl) ?_
 refine sR (.bool (decide (v_30 ≠ 0))) (r_move rfl rfl) ?_
 by_cases hc : v_30 ≠ 0
 replace h := h.1 hc
 refine kN 31 (decide_eq_true hc) ?_
 refine kN 32 (decide_eq_true hc) ?_
 refine kN 33 (decide_eq_true hc) ?_
 refine kN 34 (decide_eq_true hc) ?_
 refine kN 35 (decide_eq_true hc) ?_
 iterate 3 refine s_skip ?_
 refine sR (.bool true) (r_pt rfl rfl) ?_
 refine sR (.bool true) (r_move rfl rfl) ?_
 iterate 5 refine s_skip ?_
 refine sR (.bool true) (r_pt rfl rfl) ?_
 refine sR (.bool true) (r_move rfl rfl) ?_
 iterate 3 refine s_skip ?_
 refine sR (.bool true) (r_pt rfl rfl) ?_
 refine HL_nil ?_
 refine HC_condT rfl ?_
 refine cR ?_
 refine sR (.bool false) (r_assign rfl rfl) ?_
 refine HL_nil ?_
 exact HC_ret (rt1 f51 R rfl rfl h)
 replace h := h.2 hc
 refine kN 31 (decide_eq_false hc) ?_
 refine kN 32 (decide_eq_false hc) ?_
 refine kN 33 (decide_eq_false hc) ?_
 refine kN 34 (decide_eq_false hc) ?_
 refine kN 35 (decide_eq_false hc) ?_
 refine sR (.pointer (some (Addr.mk b5 1 none))) (w_fieldAddr rfl underlying50 rfl rfl sz3 rfl rfl) ?_
 obtain ⟨v_37, hc37, h⟩ := h
 refine sR (.int .i64 v_37) (r_load1 rfl rfl underlying3 rfl hc37) ?_
 refine sR (.bool (decide (v_37 < 0))) (r_lss rfl rfl rfl) ?_
 refine sR (.bool (decide (v_37 < 0))) (r_pf rfl rfl) ?_
 refine sR (.bool (decide (v_37 < 0))) (r_move rfl rfl) ?_
 by_cases hc : v_37 < 0
 replace h := h.1 hc
 refine kN 38 (decide_eq_true hc) ?_
 refine kN 39 (decide_eq_true hc) ?_
 refine kN 40 (decide_eq_true hc) ?_
 iterate 5 refine s_skip ?_
 refine sR (.bool true) (r_pt rfl rfl) ?_
 refine sR (.bool true) (r_move rfl rfl) ?_
 iterate 3 refine s_skip ?_
 refine sR (.bool true) (r_pt rfl rfl) ?_
 refine HL_nil ?_
 refine HC_condT rfl ?_
 refine cR ?_
 refine sR (.bool false) (r_assign rfl rfl) ?_
 refine HL_nil ?_
 exact HC_ret (rt1 f51 R rfl rfl h)
 replace h := h.2 hc
 refine kN 38 (decide_eq_false hc) ?_
 refine kN 39 (decide_eq_false hc) ?_
 refine kN 40 (decide_eq_false hc) ?_
 refine sR (.pointer (some (Addr.mk b5 1 none))) (w_fieldAddr rfl underlying50 rfl rfl sz3 rfl rfl) ?_
 obtain ⟨v_42, hc42, h⟩ := h
 refine sR (.int .i64 v_42) (r_load1 rfl rfl underlying3 rfl hc42) ?_
 refine sR (.pointer (some (Addr.mk b5 2 none))) (w_fieldAddr rfl underlying50 rfl rfl sz3 rfl rfl) ?_
 obtain ⟨v_44, hc44, h⟩ := h
 refine sR (.int .i64 v_44) (r_load1 rfl rfl underlying3 rfl hc44) ?_
 refine sR (.bool (decide (v_44 < v_42))) (r_gtr rfl rfl rfl) ?_
 refine sR (.bool (decide (v_44 < v_42))) (r_pf rfl rfl) ?_
 refine sR (.bool (decide (v_44 < v_42))) (r_move rfl rfl) ?_
 by_cases hc : v_44 < v_42
 replace h := h.1 hc
 refine kN 45 (decide_eq_true hc) ?_
 refine kN 46 (decide_eq_true hc) ?_
 refine kN 47 (decide_eq_true hc) ?_
 iterate 3 refine s_skip ?_
 refine sR (.bool true) (r_pt rfl rfl) ?_
 refine HL_nil ?_
 refine HC_condT rfl ?_
 refine cR ?_
 refine sR (.bool false) (r_assign rfl rfl) ?_
 refine HL_nil ?_
 exact HC_ret (rt1 f51 R rfl rfl h)
 replace h := h.2 hc
 refine kN 45 (decide_eq_false hc) ?_
 refine kN 46 (decide_eq_false hc) ?_
 refine kN 47 (decide_eq_false hc) ?_
 refine sR (.pointer (some (Addr.mk b5 2 none))) (w_fieldAddr rfl underlying50 rfl rfl sz3 rfl rfl) ?_
 obtain ⟨v_49, hc49, h⟩ := h
 refine sR (.int .i64 v_49) (r_load1 rfl rfl underlying3 rfl hc49) ?_
 refine sR (.bool (decide (255 < v_49))) (r_gtr rfl rfl rfl) ?_
 refine sR (.bool (decide (255 < v_49))) (r_pf rfl rfl) ?_
 refine HL_nil ?_
 refine HC_cond (t := (decide (255 < v_49))) rfl (fun hc => ?_) (fun hc => ?_)
 replace h := h.1 (of_decide_eq_true hc)
 clear hc
 refine cR ?_
 refine sR (.bool false) (r_assign rfl rfl) ?_
 refine HL_nil ?_
 exact HC_ret (rt1 f51 R rfl rfl h)
 replace h := h.2 (of_decide_eq_false hc)
 clear hc
 refine HC_skip ?_
 show b51J1 i_1 b5 v_15 R _ _
 exact ⟨rfl, rfl, rfl, h⟩
 replace h := h.2 hc
 refine kN 23 (decide_eq_false hc) ?_
 refine kN 24 (decide_eq_false hc) ?_
 iterate 8 refine s_skip ?_
 refine sR (.bool false) (r_pf rfl rfl) ?_
 refine sR (.bool false) (r_pf rfl rfl) ?_
 refine sR (.bool false) (r_move rfl rfl) ?_
 refine sR (.pointer (some (Addr.mk b5 1 none))) (w_fieldAddr rfl underlying50 rfl rfl sz3 rfl rfl) ?_
 obtain ⟨v_37_1, hc37, h⟩ := h
 refine sR (.int .i64 v_37_1) (r_load1 rfl rfl underlying3 rfl hc37) ?_
 refine sR (.bool (decide (v_37_1 < 0))) (r_lss rfl rfl rfl) ?_
 refine sR (.bool (decide (v_37_1 < 0))) (r_pf rfl rfl) ?_
 refine sR (.bool (decide (v_37_1 < 0))) (r_move rfl rfl) ?_
 by_cases hc : v_37_1 < 0
 replace h := h.1 hc
 refine kN 38 (decide_eq_true hc) ?_
 refine kN 39 (decide_eq_true hc) ?_
 refine kN 40 (decide_eq_true hc) ?_
 iterate 5 refine s_skip ?_
 refine sR (.bool true) (r_pt rfl rfl) ?_
 refine sR (.bool true) (r_move rfl rfl) ?_
 iterate 3 refine s_skip ?_
 refine sR (.bool true) (r_pt rfl rfl) ?_
 refine HL_nil ?_
 refine HC_condT rfl ?_
 refine cR ?_
 refine sR (.bool false) (r_assign rfl rfl) ?_
 refine HL_nil ?_
 exact HC_ret (rt1 f51 R rfl rfl h)
 replace h := h.2 hc
 refine kN 38 (decide_eq_false hc) ?_
 refine kN 39 (decide_eq_false hc) ?_
 refine kN 40 (decide_eq_false hc) ?_
 refine sR (.pointer (some (Addr.mk b5 1 none))) (w_fieldAddr rfl underlying50 rfl rfl sz3 rfl rfl) ?_
 obtain ⟨v_42_1, hc42, h⟩ := h
 refine sR (.int .i64 v_42_1) (r_load1 rfl rfl underlying3 rfl hc42) ?_
 refine sR (.pointer (some (Addr.mk b5 2 none))) (w_fieldAddr rfl underlying50 rfl rfl sz3 rfl rfl) ?_
 obtain ⟨v_44_1, hc44, h⟩ := h
 refine sR (.int .i64 v_44_1) (r_load1 rfl rfl underlying3 rfl hc44) ?_
 refine sR (.bool (decide (v_44_1 < v_42_1))) (r_gtr rfl rfl rfl) ?_
 refine sR (.bool (decide (v_44_1 < v_42_1))) (r_pf rfl rfl) ?_
 refine sR (.bool (decide (v_44_1 < v_42_1))) (r_move rfl rfl) ?_
 by_cases hc : v_44_1 < v_42_1
 replace h := h.1 hc
 refine kN 45 (decide_eq_true hc) ?_
 refine kN 46 (decide_eq_true hc) ?_
 refine kN 47 (decide_eq_true hc) ?_
 iterate 3 refine s_skip ?_
 refine sR (.bool true) (r_pt rfl rfl) ?_
 refine HL_nil ?_
 refine HC_condT rfl ?_
 refine cR ?_
 refine sR (.bool false) (r_assign rfl rfl) ?_
 refine HL_nil ?_
 exact HC_ret (rt1 f51 R rfl rfl h)
 replace h := h.2 hc
 refine kN 45 (decide_eq_false hc) ?_
 refine kN 46 (decide_eq_false hc) ?_
 refine kN 47 (decide_eq_false hc) ?_
 refine sR (.pointer (some (Addr.mk b5 2 none))) (w_fieldAddr rfl underlying50 rfl rfl sz3 rfl rfl) ?_
 obtain ⟨v_49_1, hc49, h⟩ := h
 refine sR (.int .i64 v_49_1) (r_load1 rfl rfl underlying3 rfl hc49) ?_
 refine sR (.bool (decide (255 < v_49_1))) (r_gtr rfl rfl rfl) ?_
 refine sR (.bool (decide (255 < v_49_1))) (r_pf rfl rfl) ?_
 refine HL_nil ?_
 refine HC_cond (t := (decide (255 < v_49_1))) rfl (fun hc => ?_) (fun hc => ?_)
 replace h := h.1 (of_decide_eq_true hc)
 clear hc
 refine cR ?_
 refine sR (.bool false) (r_assign rfl rfl) ?_
 refine HL_nil ?_
 exact HC_ret (rt1 f51 R rfl rfl h)
 replace h := h.2 (of_decide_eq_false hc)
 clear hc
 refine HC_skip ?_
 show b51J1 i_1 b5 v_15 R _ _
 exact ⟨rfl, rfl, rfl, h⟩
 /- 22 koine.koineref04.Check -/
def b22j2 (p_0 : Sl) (R : VP) (F : PH) :=
 (((p_0.len : Int) = 0 →
  R (.int .i64 40) F) ∧
 (¬ ((p_0.len : Int) = 0) →
  R (.int .i64 0) F))
abbrev b22J2 (p_0 : Sl) (R : VP) (E : En) (F : PH) : Prop := E 0 = (Sl.v p_0) ∧ b22j2 p_0 R F
def b22L1 (N1 : Int → PH → Prop) (p_0 : Sl) (v_13 : Sl) (R : VP) (i_7 : Int) (F : PH) :=
 ((i_7 < (IntKind.i64.wrap ((p_0.len : Int) - 1)) →
  ∃ a66_ : Addr, v_13.base = some a66_ ∧ 0 ≤ i_7 ∧ i_7 < (v_13.len : Int) ∧
  ∃ v_67 : Int, F.cell (Addr.add a66_ (Int.toNat i_7 * 1)) = some (.int .i64 v_67) ∧
  ((v_67 ≠ 1 →
   R (.int .i64 40) F) ∧
  (¬ (v_67 ≠ 1) →
   N1 (IntKind.i64.wrap (i_7 + 1)) F))) ∧
 (¬ (i_7 < (IntKind.i64.wrap ((p_0.len : Int) - 1))) →
  b22j2 p_0 R F))
def b22j1 (p_0 : Sl) (v_13 : Sl) (R : VP) (F : PH) :=
 (∃ (I1 : Nat → Int → PH → Prop) (m1 : Nat), I1 m1 0 F ∧ ∀ m1 i_7 F, I1 m1 i_7 F →
  b22L1 (nx1 I1 m1) p_0 v_13 R i_7 F)
abbrev b22J1 (p_0 : Sl) (v_13 : Sl) (R : VP) (E : En) (F : PH) : Prop := E 0 = (Sl.v p_0) ∧ E 3 = (Sl.v v_13) ∧ b22j1 p_0 v_13 R F
def b22j3 (N2 : Int → PH → Prop) (p_0 : Sl) (v_13 : Sl) (i_4 : Int) (R : VP) (F : PH) :=
 N2 (IntKind.i64.wrap (i_4 + 1)) F
abbrev b22J3 (N2 : Int → PH → Prop) (p_0 : Sl) (v_13 : Sl) (i_4 : Int) (R : VP) (E : En) (F : PH) : Prop := E 0 = (Sl.v p_0) ∧ E 3 = (Sl.v v_13) ∧ E 4 = (.int .i64 i_4) ∧ b22j3 N2 p_0 v_13 i_4 R F
def b22j4 (N2 : Int → PH → Prop) (p_0 : Sl) (v_13 : Sl) (i_4 : Int) (v_30 : Int) (R : VP) (F : PH) :=
 ((2 ≤ v_30 →
  ∃ a50_ : Addr, p_0.base = some a50_ ∧ 0 ≤ i_4 ∧ i_4 < (p_0.len : Int) ∧
  ∃ v_52 : Int, F.cell (Addr.add (Addr.add a50_ (Int.toNat i_4 * 5)) 4) = some (.int .i64 v_52) ∧
  ∃ a53_ : Addr, v_13.base = some a53_ ∧ 0 ≤ v_52 ∧ v_52 < (v_13.len : Int) ∧
  ∃ v_54 : Int, F.cell (Addr.add a53_ (Int.toNat v_52 * 1)) = some (.int .i64 v_54) ∧
  ∃ a56_ : Addr, v_13.base = some a56_ ∧ 0 ≤ v_52 ∧ v_52 < (v_13.len : Int) ∧
  ∃ c e, F (Addr.add a56_ (Int.toNat v_52 * 1)).block = some (.cells c e (0, 0)) ∧ (Addr.add a56_ (Int.toNat v_52 * 1)).spot = none ∧ (Addr.add a56_ (Int.toNat v_52 * 1)).off < c.size ∧
  atF (F.set (Addr.add a56_ (Int.toNat v_52 * 1)).block (.cells (c.setIfInBounds (Addr.add a56_ (Int.toNat v_52 * 1)).off (.int .i64 (IntKind.i64.wrap (v_54 + 1)))) e)) fun F =>
  b22j3 N2 p_0 v_13 i_4 R F) ∧
 (¬ (2 ≤ v_30) →
  b22j3 N2 p_0 v_13 i_4 R F))
abbrev b22J4 (N2 : Int → PH → Prop) (p_0 : Sl) (v_13 : Sl) (i_4 : Int) (v_30 : Int) (R : VP) (E : En) (F : PH) : Prop := E 0 = (Sl.v p_0) ∧ E 3 = (Sl.v v_13) ∧ E 4 = (.int .i64 i_4) ∧ E 5 = (.int .i64 v_30) ∧ b22j4 N2 p_0 v_13 i_4 v_30 R F
def b22L2 (N2 : Int → PH → Prop) (p_0 : Sl) (v_13 : Sl) (R : VP) (i_4 : Int) (F : PH) :=
 ((i_4 < (p_0.len : Int) →
  Spec prog 51 #[(Sl.v p_0), (.int .i64 i_4)] F fun v F => ∃ v_22 : Bool, v = (.bool v_22) ∧
  (((!v_22) = true →
   R (.int .i64 40) F) ∧
  ((!v_22) = false →
   ∃ a27_ : Addr, p_0.base = some a27_ ∧ 0 ≤ i_4 ∧ i_4 < (p_0.len : Int) ∧
   ∃ v_29 : Int, F.cell (Addr.add a27_ (Int.toNat i_4 * 5)) = some (.int .i64 v_29) ∧
   Spec prog 52 #[(.int .i64 v_29)] F fun v F => ∃ v_30 : Int, ∃ v_30_1 : Bool, v = (.tuple #[(.int .i64 v_30), (.bool v_30_1)]) ∧
   ((1 ≤ v_30 →
    ∃ a38_ : Addr, p_0.base = some a38_ ∧ 0 ≤ i_4 ∧ i_4 < (p_0.len : Int) ∧
    ∃ v_40 : Int, F.cell (Addr.add (Addr.add a38_ (Int.toNat i_4 * 5)) 3) = some (.int .i64 v_40) ∧
    ∃ a41_ : Addr, v_13.base = some a41_ ∧ 0 ≤ v_40 ∧ v_40 < (v_13.len : Int) ∧
    ∃ v_42 : Int, F.cell (Addr.add a41_ (Int.toNat v_40 * 1)) = some (.int .i64 v_42) ∧
    ∃ a44_ : Addr, v_13.base = some a44_ ∧ 0 ≤ v_40 ∧ v_40 < (v_13.len : Int) ∧
    ∃ c e, F (Addr.add a44_ (Int.toNat v_40 * 1)).block = some (.cells c e (0, 0)) ∧ (Addr.add a44_ (Int.toNat v_40 * 1)).spot = none ∧ (Addr.add a44_ (Int.toNat v_40 * 1)).off < c.size ∧
    atF (F.set (Addr.add a44_ (Int.toNat v_40 * 1)).block (.cells (c.setIfInBounds (Addr.add a44_ (Int.toNat v_40 * 1)).off (.int .i64 (IntKind.i64.wrap (v_42 + 1)))) e)) fun F =>
    b22j4 N2 p_0 v_13 i_4 v_30 R F) ∧
   (¬ (1 ≤ v_30) →
    b22j4 N2 p_0 v_13 i_4 v_30 R F))))) ∧
 (¬ (i_4 < (p_0.len : Int)) →
  b22j1 p_0 v_13 R F))
def b22 (p_0 : Sl) (R : VP) (F : PH) :=
 ((512 < (p_0.len : Int) →
  R (.int .i64 2) F) ∧
 (¬ (512 < (p_0.len : Int)) →
  runs prog (Instr.makeSlice 53 (.int .i64 (p_0.len : Int)) (.int .i64 (p_0.len : Int))) F fun v F => ∃ v_13 : Sl, v = (Sl.v v_13) ∧
  (∃ (I2 : Nat → Int → PH → Prop) (m2 : Nat), I2 m2 0 F ∧ ∀ m2 i_4 F, I2 m2 i_4 F →
   b22L2 (nx1 I2 m2) p_0 v_13 R i_4 F)))
theorem c22 {p_0 : Sl} {R : VP} {F : PH} (h : b22 p_0 R F) : Spec prog 22 #[(Sl.v p_0)] F R := by
 refine spec_of (args := [(Sl.v p_0)]) func22 rfl ntmps22 rfl ?_
 unfold b22 at h
 refine cR ?_
 refine sR (.int .i64 0) (r_assign rfl rfl) ?_
 refine HL_nil ?_
 refine HC_seq ?_
 refine cR ?_
 refine sR (Sl.v p_0) (r_move rfl rfl) ?_
 refine sR (.int .i64 (p_0.len : Int)) (r_lenSl rfl rfl underlying25) ?_
 refine sR (.bool (decide (512 < (p_0.len : Int)))) (r_gtr rfl rfl rfl) ?_
 refine HL_nil ?_
 refine HC_cond (t := (decide (512 < (p_0.len : Int)))) rfl (fun hc => ?_) (fun hc => ?_)
 replace h := h.1 (of_decide_eq_true hc)
 clear hc
 refine cR ?_
 refine sR (.int .i64 2) (r_assign rfl rfl) ?_
 refine HL_nil ?_
 exact HC_ret (rt1 f22 R rfl rfl h)
 replace h := h.2 (of_decide_eq_false hc)
 clear hc
 refine HC_skip ?_
 refine cR ?_
 refine sR (Sl.v p_0) (r_move rfl rfl) ?_
 refine sR (.int .i64 (p_0.len : Int)) (r_lenSl rfl rfl underlying25) ?_
 refine s_ef (k_makeSlice rfl rfl (runs_mono _ _ h ?_))
 clear h; rintro v F ⟨v_13, rfl, h⟩
 refine sR (Sl.v v_13) (r_assign rfl rfl) ?_
 refine HL_nil ?_
 refine HC_seqJ (b22J1 p_0 v_13 R) ?_ ?_
 clear h; rintro E F ⟨h0, h3, h⟩
 unfold b22j1 at h
 refine HC_seqJ (b22J2 p_0 R) ?_ ?_
 clear h; rintro E F ⟨h0, h⟩
 unfold b22j2 at h
 refine HC_seq ?_
 refine cR ?_
 refine sR _ (r_move rfl h0) ?_
 refine sR (.int .i64 (p_0.len : Int)) (r_lenSl rfl rfl underlying25) ?_
 refine sR (.bool (decide ((p_0.len : Int) = 0))) (w_eql rfl rfl) ?_
 refine HL_nil ?_
 refine HC_cond (t := (decide ((p_0.len : Int) = 0))) rfl (fun hc => ?_) (fun hc => ?_)
 replace h := h.1 (of_decide_eq_true hc)
 clear hc
 refine cR ?_
 refine sR (.int .i64 40) (r_assign rfl rfl) ?_
 refine HL_nil ?_
 exact HC_ret (rt1 f22 R rfl rfl h)
 replace h := h.2 (of_decide_eq_false hc)
 clear hc
 refine HC_skip ?_
 refine cR ?_
 refine sR (.int .i64 0) (r_assign rfl rfl) ?_
 refine HL_nil ?_
 exact HC_ret (rt1 f22 R rfl rfl h)
 refine cR ?_
 refine sR (.int .i64 0) (r_assign rfl rfl) ?_
 refine HL_nil ?_
 refine HC_block ?_
 obtain ⟨I1, m1, hI0, hr⟩ := h
 refine HC_loop (fun m1 E F => ∃ i_7 : Int, E 0 = (Sl.v p_0) ∧ E 3 = (Sl.v v_13) ∧ E 7 = (.int .i64 i_7) ∧ I1 m1 i_7 F) m1 ⟨_, h0, h3, rfl, hI0⟩ ?_
 clear hI0; rintro m1 E F ⟨i_7, h0, h3, h7, hI⟩
 have h := hr m1 i_7 F hI
 clear hr hI
 unfold b22L1 at h
 refine HC_seq ?_
 refine cR ?_
 refine sR _ (r_move rfl h7) ?_
 refine sR _ (r_move rfl h0) ?_
 refine sR (.int .i64 (p_0.len : Int)) (r_lenSl rfl rfl underlying25) ?_
 refine sR (.int .i64 (IntKind.i64.wrap ((p_0.len : Int) - 1))) (r_sub rfl rfl rfl) ?_
 refine sR (.bool (decide (i_7 < (IntKind.i64.wrap ((p_0.len : Int) - 1))))) (r_lss rfl rfl rfl) ?_
 refine HL_nil ?_
 refine HC_cond (t := (decide (i_7 < (IntKind.i64.wrap ((p_0.len : Int) - 1))))) rfl (fun hc => ?_) (fun hc => ?_)
 replace h := h.1 (of_decide_eq_true hc)
 clear hc
 refine HC_skip ?_
 refine HC_seq ?_
 refine HC_block ?_
 refine cR ?_
 refine sR _ (r_move rfl h3) ?_
 refine sR _ (r_move rfl h7) ?_
 obtain ⟨a66_, hb66, hl66, hu66, h⟩ := h
 refine sR (.pointer (some (Addr.add a66_ (Int.toNat i_7 * 1)))) (w_indexAddr rfl rfl underlying53 sz3 hb66 hl66 hu66) ?_
 obtain ⟨v_67, hc67, h⟩ := h
 refine sR (.int .i64 v_67) (r_load1 rfl rfl underlying3 rfl hc67) ?_
 refine sR (.bool (decide (v_67 ≠ 1))) (w_neq rfl rfl) ?_
 refine HL_nil ?_
 refine HC_cond (t := (decide (v_67 ≠ 1))) rfl (fun hc => ?_) (fun hc => ?_)
 replace h := h.1 (of_decide_eq_true hc)
 clear hc
 refine cR ?_
 refine sR (.int .i64 40) (r_assign rfl rfl) ?_
 refine HL_nil ?_
 exact HC_ret (rt1 f22 R rfl rfl h)
 replace h := h.2 (of_decide_eq_false hc)
 clear hc
 refine HC_skip ?_
 refine HC_region ?_
 refine sR _ (r_move rfl h7) ?_
 refine sR (.int .i64 (IntKind.i64.wrap (i_7 + 1))) (r_add rfl rfl rfl) ?_
 refine sR (.int .i64 (IntKind.i64.wrap (i_7 + 1))) (r_assign rfl rfl) ?_
 refine HL_nil ?_
 obtain ⟨m', hm, h⟩ := h
 exact ⟨m', hm, _, h0, h3, rfl, h⟩
 replace h := h.2 (of_decide_eq_false hc)
 clear hc
 refine HC_exit ?_
 show b22J2 p_0 R _ _
 exact ⟨h0, h⟩
 refine cR ?_
 refine sR (.int .i64 0) (r_assign rfl rfl) ?_
 refine HL_nil ?_
 refine HC_block ?_
 obtain ⟨I2, m2, hI0, hr⟩ := h
 refine HC_loop (fun m2 E F => ∃ i_4 : Int, E 0 = (Sl.v p_0) ∧ E 3 = (Sl.v v_13) ∧ E 4 = (.int .i64 i_4) ∧ I2 m2 i_4 F) m2 ⟨_, rfl, rfl, rfl, hI0⟩ ?_
 clear hI0; rintro m2 E F ⟨i_4, h0, h3, h4, hI⟩
 have h := hr m2 i_4 F hI
 clear hr hI
 unfold b22L2 at h
 refine HC_seq ?_
 refine cR ?_
 refine sR _ (r_move rfl h4) ?_
 refine sR _ (r_move rfl h0) ?_
 refine sR (.int .i64 (p_0.len : Int)) (r_lenSl rfl rfl underlying25) ?_
 refine sR (.bool (decide (i_4 < (p_0.len : Int)))) (r_lss rfl rfl rfl) ?_
 refine HL_nil ?_
 refine HC_cond (t := (decide (i_4 < (p_0.len : Int)))) rfl (fun hc => ?_) (fun hc => ?_)
 replace h := h.1 (of_decide_eq_true hc)
 clear hc
 refine HC_skip ?_
 refine HC_seqJ (b22J3 (nx1 I2 m2) p_0 v_13 i_4 R) ?_ ?_
 clear h; rintro E F ⟨h0, h3, h4, h⟩
 unfold b22j3 at h
 refine HC_region ?_
 refine sR _ (r_move rfl h4) ?_
 refine sR (.int .i64 (IntKind.i64.wrap (i_4 + 1))) (r_add rfl rfl rfl) ?_
 refine sR (.int .i64 (IntKind.i64.wrap (i_4 + 1))) (r_assign rfl rfl) ?_
 refine HL_nil ?_
 obtain ⟨m', hm, h⟩ := h
 exact ⟨m', hm, _, h0, h3, rfl, h⟩
 refine HC_block ?_
 refine HC_seq ?_
 refine cR ?_
 refine sR _ (r_move rfl h0) ?_
 refine sR _ (r_move rfl h4) ?_
 refine s_ef (k_call (vs := [(Sl.v p_0), (.int .i64 i_4)]) cb51 (evC rfl (evC rfl evN)) (h.mono ?_))
 clear h; rintro v F ⟨v_22, rfl, h⟩
 refine sR (.bool (!v_22)) (r_not rfl rfl) ?_
 refine HL_nil ?_
 refine HC_cond (t := (!v_22)) rfl (fun hc => ?_) (fun hc => ?_)
 replace h := h.1 hc
 clear hc
 refine cR ?_
 refine sR (.int .i64 40) (r_assign rfl rfl) ?_
 refine HL_nil ?_
 exact HC_ret (rt1 f22 R rfl rfl h)
 replace h := h.2 hc
 clear hc
 refine HC_skip ?_
 refine cR ?_
 refine sR _ (r_move rfl h0) ?_
 refine sR _ (r_move rfl h4) ?_
 obtain ⟨a27_, hb27, hl27, hu27, h⟩ := h
 refine sR (.pointer (some (Addr.add a27_ (Int.toNat i_4 * 5)))) (w_indexAddr rfl rfl underlying25 sz50 hb27 hl27 hu27) ?_
 refine sR (.pointer (some (Addr.add a27_ (Int.toNat i_4 * 5)))) (w_fieldAddr rfl underlying50 rfl rfl sz3 rfl rfl) ?_
 obtain ⟨v_29, hc29, h⟩ := h
 refine sR (.int .i64 v_29) (r_load1 rfl rfl underlying3 rfl hc29) ?_
 refine s_ef (k_call (vs := [(.int .i64 v_29)]) cb52 (evC rfl evN) (h.mono ?_))
 clear h; rintro v F ⟨v_30, v_30_1, rfl, h⟩
 refine sR (.tuple #[(.int .i64 v_30), (.bool v_30_1)]) (r_move rfl rfl) ?_
 refine sR (.int .i64 v_30) (r_extract rfl rfl rfl) ?_
 refine sR (.bool v_30_1) (r_extract rfl rfl rfl) ?_
 refine sR (.int .i64 v_30) (r_assign rfl rfl) ?_
 refine sR (.bool v_30_1) (r_assign rfl rfl) ?_
 refine HL_nil ?_
 refine HC_seqJ (b22J4 (nx1 I2 m2) p_0 v_13 i_4 v_30 R) ?_ ?_
 clear h; rintro E F ⟨h0, h3, h4, h5, h⟩
 unfold b22j4 at h
 refine cR ?_
 refine sR _ (r_move rfl h5) ?_
 refine sR (.bool (decide (2 ≤ v_30))) (r_geq rfl rfl rfl) ?_
 refine HL_nil ?_
 refine HC_cond (t := (decide (2 ≤ v_30))) rfl (fun hc => ?_) (fun hc => ?_)
 replace h := h.1 (of_decide_eq_true hc)
 clear hc
 refine HC_region ?_
 refine sR _ (r_move rfl h3) ?_
 refine sR _ (r_move rfl h0) ?_
 refine sR _ (r_move rfl h4) ?_
 obtain ⟨a50_, hb50, hl50, hu50, h⟩ := h
 refine sR (.pointer (some (Addr.add a50_ (Int.toNat i_4 * 5)))) (w_indexAddr rfl rfl underlying25 sz50 hb50 hl50 hu50) ?_
 refine sR (.pointer (some (Addr.add (Addr.add a50_ (Int.toNat i_4 * 5)) 4))) (w_fieldAddr rfl underlying50 rfl rfl sz3 rfl rfl) ?_
 obtain ⟨v_52, hc52, h⟩ := h
 refine sR (.int .i64 v_52) (r_load1 rfl rfl underlying3 rfl hc52) ?_
 obtain ⟨a53_, hb53, hl53, hu53, h⟩ := h
 refine sR (.pointer (some (Addr.add a53_ (Int.toNat v_52 * 1)))) (w_indexAddr rfl rfl underlying53 sz3 hb53 hl53 hu53) ?_
 obtain ⟨v_54, hc54, h⟩ := h
 refine sR (.int .i64 v_54) (r_load1 rfl rfl underlying3 rfl hc54) ?_
 refine sR (.int .i64 (IntKind.i64.wrap (v_54 + 1))) (r_add rfl rfl rfl) ?_
 obtain ⟨a56_, hb56, hl56, hu56, h⟩ := h
 refine sR (.pointer (some (Addr.add a56_ (Int.toNat v_52 * 1)))) (w_indexAddr rfl rfl underlying53 sz3 hb56 hl56 hu56) ?_
 refine s_ef0 (k_store1 (v := (.int .i64 (IntKind.i64.wrap (v_54 + 1)))) rfl rfl sz3 rfl st_int ?_)
 obtain ⟨c, e, hz3, hz4, hz5, h⟩ := h
 refine ⟨c, e, hz3, hz4, hz5, ?_⟩
 replace h := atE h
 refine HL_nil ?_
 show b22J3 (nx1 I2 m2) p_0 v_13 i_4 R _ _
 exact ⟨h0, h3, h4, h⟩
 replace h := h.2 (of_decide_eq_false hc)
 clear hc
 refine HC_skip ?_
 show b22J3 (nx1 I2 m2) p_0 v_13 i_4 R _ _
 exact ⟨h0, h3, h4, h⟩
 refine cR ?_
 refine sR (.int .i64 v_30) (r_move rfl rfl) ?_
 refine sR (.bool (decide (1 ≤ v_30))) (r_geq rfl rfl rfl) ?_
 refine HL_nil ?_
 refine HC_cond (t := (decide (1 ≤ v_30))) rfl (fun hc => ?_) (fun hc => ?_)
 replace h := h.1 (of_decide_eq_true hc)
 clear hc
 refine HC_region ?_
 refine sR _ (r_move rfl h3) ?_
 refine sR _ (r_move rfl h0) ?_
 refine sR _ (r_move rfl h4) ?_
 obtain ⟨a38_, hb38, hl38, hu38, h⟩ := h
 refine sR (.pointer (some (Addr.add a38_ (Int.toNat i_4 * 5)))) (w_indexAddr rfl rfl underlying25 sz50 hb38 hl38 hu38) ?_
 refine sR (.pointer (some (Addr.add (Addr.add a38_ (Int.toNat i_4 * 5)) 3))) (w_fieldAddr rfl underlying50 rfl rfl sz3 rfl rfl) ?_
 obtain ⟨v_40, hc40, h⟩ := h
 refine sR (.int .i64 v_40) (r_load1 rfl rfl underlying3 rfl hc40) ?_
 obtain ⟨a41_, hb41, hl41, hu41, h⟩ := h
 refine sR (.pointer (some (Addr.add a41_ (Int.toNat v_40 * 1)))) (w_indexAddr rfl rfl underlying53 sz3 hb41 hl41 hu41) ?_
 obtain ⟨v_42, hc42, h⟩ := h
 refine sR (.int .i64 v_42) (r_load1 rfl rfl underlying3 rfl hc42) ?_
 refine sR (.int .i64 (IntKind.i64.wrap (v_42 + 1))) (r_add rfl rfl rfl) ?_
 obtain ⟨a44_, hb44, hl44, hu44, h⟩ := h
 refine sR (.pointer (some (Addr.add a44_ (Int.toNat v_40 * 1)))) (w_indexAddr rfl rfl underlying53 sz3 hb44 hl44 hu44) ?_
 refine s_ef0 (k_store1 (v := (.int .i64 (IntKind.i64.wrap (v_42 + 1)))) rfl rfl sz3 rfl st_int ?_)
 obtain ⟨c, e, hz3, hz4, hz5, h⟩ := h
 refine ⟨c, e, hz3, hz4, hz5, ?_⟩
 replace h := atE h
 refine HL_nil ?_
 show b22J4 (nx1 I2 m2) p_0 v_13 i_4 v_30 R _ _
 exact ⟨h0, h3, h4, rfl, h⟩
 replace h := h.2 (of_decide_eq_false hc)
 clear hc
 refine HC_skip ?_
 show b22J4 (nx1 I2 m2) p_0 v_13 i_4 v_30 R _ _
 exact ⟨h0, h3, h4, rfl, h⟩
 replace h := h.2 (of_decide_eq_false hc)
 clear hc
 refine HC_exit ?_
 show b22J1 p_0 v_13 R _ _
 exact ⟨h0, h3, h⟩
set_option maxHeartbeats 4000000
/- 75 koine.koineref04.show -/
def b75 (b_0 : Int) (R : VP) (F : PH) :=
 Spec prog 90 #[(.int .u8 (IntKind.u8.wrap b_0))] F fun v F => ∃ v_5 : Bool, v = (.bool v_5) ∧
 ((v_5 = true →
  ∀ b8, F b8 = none → atF (F.set b8 (.cells #[(.int .u8 (IntKind.u8.wrap b_0))] 5)) fun F =>
  ∃ v_9 : ByteArray, rdo prog (Conv.bytesToString (Sl.v (Sl.mk (some (Addr.mk b8 0 none)) 1 1))) F (.string v_9) ∧
  R (.string v_9) F) ∧
 (v_5 = false →
  0 ≤ (IntKind.i64.wrap (Int.tdiv b_0 16)) ∧ 0 ≤ (IntKind.i64.wrap ((IntKind.i64.wrap (Int.tdiv b_0 16)) + 1)) ∧ (Int.toNat (IntKind.i64.wrap (Int.tdiv b_0 16))) ≤ (Int.toNat (IntKind.i64.wrap ((IntKind.i64.wrap (Int.tdiv b_0 16)) + 1))) ∧ (Int.toNat (IntKind.i64.wrap ((IntKind.i64.wrap (Int.tdiv b_0 16)) + 1))) ≤ (ByteArray.mk #[48, 49, 50, 51, 52, 53, 54, 55, 56, 57, 97, 98, 99, 100, 101, 102]).size ∧ 
  (ByteArray.mk #[92, 120]).size + ((ByteArray.mk #[48, 49, 50, 51, 52, 53, 54, 55, 56, 57, 97, 98, 99, 100, 101, 102]).extract (Int.toNat (IntKind.i64.wrap (Int.tdiv b_0 16))) (Int.toNat (IntKind.i64.wrap ((IntKind.i64.wrap (Int.tdiv b_0 16)) + 1)))).size ≤ 9223372036854775807 ∧
  0 ≤ (Int.tmod b_0 16) ∧ 0 ≤ (IntKind.i64.wrap ((Int.tmod b_0 16) + 1)) ∧ (Int.toNat (Int.tmod b_0 16)) ≤ (Int.toNat (IntKind.i64.wrap ((Int.tmod b_0 16) + 1))) ∧ (Int.toNat (IntKind.i64.wrap ((Int.tmod b_0 16) + 1))) ≤ (ByteArray.mk #[48, 49, 50, 51, 52, 53, 54, 55, 56, 57, 97, 98, 99, 100, 101, 102]).size ∧ 
  ((ByteArray.mk #[92, 120]) ++ ((ByteArray.mk #[48, 49, 50, 51, 52, 53, 54, 55, 56, 57, 97, 98, 99, 100, 101, 102]).extract (Int.toNat (IntKind.i64.wrap (Int.tdiv b_0 16))) (Int.toNat (IntKind.i64.wrap ((IntKind.i64.wrap (Int.tdiv b_0 16)) + 1))))).size + ((ByteArray.mk #[48, 49, 50, 51, 52, 53, 54, 55, 56, 57, 97, 98, 99, 100, 101, 102]).extract (Int.toNat (Int.tmod b_0 16)) (Int.toNat (IntKind.i64.wrap ((Int.tmod b_0 16) + 1)))).size ≤ 9223372036854775807 ∧
  R (.string (((ByteArray.mk #[92, 120]) ++ ((ByteArray.mk #[48, 49, 50, 51, 52, 53, 54, 55, 56, 57, 97, 98, 99, 100, 101, 102]).extract (Int.toNat (IntKind.i64.wrap (Int.tdiv b_0 16))) (Int.toNat (IntKind.i64.wrap ((IntKind.i64.wrap (Int.tdiv b_0 16)) + 1))))) ++ ((ByteArray.mk #[48, 49, 50, 51, 52, 53, 54, 55, 56, 57, 97, 98, 99, 100, 101, 102]).extract (Int.toNat (Int.tmod b_0 16)) (Int.toNat (IntKind.i64.wrap ((Int.tmod b_0 16) + 1)))))) F))
theorem c75 {b_0 : Int} {R : VP} {F : PH} (h : b75 b_0 R F) : Spec prog 75 #[(.int .i64 b_0)] F R := by
 refine spec_of (args := [(.int .i64 b_0)]) func75 rfl ntmps75 rfl ?_
 unfold b75 at h
 refine cR ?_
 refine sR (.string (ByteArray.mk #[])) (r_assign rfl rfl) ?_
 refine HL_nil ?_
 refine HC_seq ?_
 refine cR ?_
 refine sR (.int .i64 b_0) (r_move rfl rfl) ?_
 refine sR (.int .u8 (IntKind.u8.wrap b_0)) (r_convInt rfl rfl underlying3 underlying5) ?_
 refine s_ef (k_call (vs := [(.int .u8 (IntKind.u8.wrap b_0))]) cb90 (evC rfl evN) (h.mono ?_))
 clear h; rintro v F ⟨v_5, rfl, h⟩
 refine HL_nil ?_
 refine HC_cond (t := v_5) rfl (fun hc => ?_) (fun hc => ?_)
 replace h := h.1 hc
 clear hc
 refine cR ?_
 refine sR (.int .i64 b_0) (r_move rfl rfl) ?_
 refine sR (.int .u8 (IntKind.u8.wrap b_0)) (r_convInt rfl rfl underlying3 underlying5) ?_
 refine s_ef (k_buildSeq (l := [(.int .u8 (IntKind.u8.wrap b_0))]) underlying22 sz5 (by decide) zr5 rfl rfl ⟨rfl, trivial⟩ (evPC rfl evPN) ?_)
 intro b8 hf_b8
 replace h := atE (h b8 hf_b8)
 obtain ⟨v_9, hc9, h⟩ := h
 refine sR (.string v_9) (r_convBS rfl rfl underlying22 underlying9 underlying5 ⟨_, _, _, rfl⟩ hc9) ?_
 refine sR (.string v_9) (r_assign rfl rfl) ?_
 refine HL_nil ?_
 exact HC_ret (rt1 f75 R rfl rfl h)
 replace h := h.2 hc
 clear hc
 refine HC_skip ?_
 refine HC_seq ?_
 refine HC_draw0 (by kernel_rfl) (fun hp => ?_)
 refine gU 0 (.int .i64 b_0) rfl (fun _ => r_move rfl rfl) hp ?_
 refine gU 1 (.int .i64 (IntKind.i64.wrap (Int.tdiv b_0 16))) rfl (fun _ => r_quo rfl rfl rfl (by decide)) hp ?_
 refine gU 2 (.int .i64 b_0) rfl (fun _ => r_move rfl rfl) hp ?_
 refine gU 3 (.int .i64 (IntKind.i64.wrap (Int.tdiv b_0 16))) rfl (fun _ => r_quo rfl rfl rfl (by decide)) hp ?_
 refine gU 4 (.int .i64 (IntKind.i64.wrap ((IntKind.i64.wrap (Int.tdiv b_0 16)) + 1))) rfl (fun _ => r_add rfl rfl rfl) hp ?_
 obtain ⟨hq15_0, hq15_1, hr15_0, hr15_1, h⟩ := h
 refine gU 5 (.string ((ByteArray.mk #[48, 49, 50, 51, 52, 53, 54, 55, 56, 57, 97, 98, 99, 100, 101, 102]).extract (Int.toNat (IntKind.i64.wrap (Int.tdiv b_0 16))) (Int.toNat (IntKind.i64.wrap ((IntKind.i64.wrap (Int.tdiv b_0 16)) + 1))))) rfl (fun _ => r_sliceStr rfl rfl underlying9 (bo_ev rfl hq15_0) (bo_ev rfl hq15_1) hr15_0 hr15_1) hp ?_
 obtain ⟨hx16, h⟩ := h
 refine gU 6 (.string ((ByteArray.mk #[92, 120]) ++ ((ByteArray.mk #[48, 49, 50, 51, 52, 53, 54, 55, 56, 57, 97, 98, 99, 100, 101, 102]).extract (Int.toNat (IntKind.i64.wrap (Int.tdiv b_0 16))) (Int.toNat (IntKind.i64.wrap ((IntKind.i64.wrap (Int.tdiv b_0 16)) + 1)))))) rfl (fun _ => r_addS rfl rfl rfl hx16) hp ?_
 refine gU 7 (.int .i64 b_0) rfl (fun _ => r_move rfl rfl) hp ?_
 refine gU 8 (.int .i64 (Int.tmod b_0 16)) rfl (fun _ => r_rem rfl rfl rfl (by decide)) hp ?_
 refine gU 9 (.int .i64 b_0) rfl (fun _ => r_move rfl rfl) hp ?_
 refine gU 10 (.int .i64 (Int.tmod b_0 16)) rfl (fun _ => r_rem rfl rfl rfl (by decide)) hp ?_
 refine gU 11 (.int .i64 (IntKind.i64.wrap ((Int.tmod b_0 16) + 1))) rfl (fun _ => r_add rfl rfl rfl) hp ?_
 obtain ⟨hq22_0, hq22_1, hr22_0, hr22_1, h⟩ := h
 refine gU 12 (.string ((ByteArray.mk #[48, 49, 50, 51, 52, 53, 54, 55, 56, 57, 97, 98, 99, 100, 101, 102]).extract (Int.toNat (Int.tmod b_0 16)) (Int.toNat (IntKind.i64.wrap ((Int.tmod b_0 16) + 1))))) rfl (fun _ => r_sliceStr rfl rfl underlying9 (bo_ev rfl hq22_0) (bo_ev rfl hq22_1) hr22_0 hr22_1) hp ?_
 obtain ⟨hx23, h⟩ := h
 refine gU 13 (.string (((ByteArray.mk #[92, 120]) ++ ((ByteArray.mk #[48, 49, 50, 51, 52, 53, 54, 55, 56, 57, 97, 98, 99, 100, 101, 102]).extract (Int.toNat (IntKind.i64.wrap (Int.tdiv b_0 16))) (Int.toNat (IntKind.i64.wrap ((IntKind.i64.wrap (Int.tdiv b_0 16)) + 1))))) ++ ((ByteArray.mk #[48, 49, 50, 51, 52, 53, 54, 55, 56, 57, 97, 98, 99, 100, 101, 102]).extract (Int.toNat (Int.tmod b_0 16)) (Int.toNat (IntKind.i64.wrap ((Int.tmod b_0 16) + 1)))))) rfl (fun _ => r_addS rfl rfl rfl hx23) hp ?_
 refine gU 14 (.string (((ByteArray.mk #[92, 120]) ++ ((ByteArray.mk #[48, 49, 50, 51, 52, 53, 54, 55, 56, 57, 97, 98, 99, 100, 101, 102]).extract (Int.toNat (IntKind.i64.wrap (Int.tdiv b_0 16))) (Int.toNat (IntKind.i64.wrap ((IntKind.i64.wrap (Int.tdiv b_0 16)) + 1))))) ++ ((ByteArray.mk #[48, 49, 50, 51, 52, 53, 54, 55, 56, 57, 97, 98, 99, 100, 101, 102]).extract (Int.toNat (Int.tmod b_0 16)) (Int.toNat (IntKind.i64.wrap ((Int.tmod b_0 16) + 1)))))) rfl (fun _ => r_assign rfl rfl) hp ?_
 refine RG_done (by kernel_rfl) ?_
 exact HC_ret (rt1 f75 R rfl rfl h)
 /- 76 koine.koineref04.group -/
def b76 (p_0 : Sl) (i_1 : Int) (needed_2 : Bool) (R : VP) (F : PH) :=
 ((needed_2 = true →
  Spec prog 48 #[(Sl.v p_0), (.int .i64 i_1)] F fun v F => ∃ v_10 : ByteArray, v = (.string v_10) ∧
  (ByteArray.mk #[40]).size + v_10.size ≤ 9223372036854775807 ∧
  ((ByteArray.mk #[40]) ++ v_10).size + (ByteArray.mk #[41]).size ≤ 9223372036854775807 ∧
  R (.string (((ByteArray.mk #[40]) ++ v_10) ++ (ByteArray.mk #[41]))) F) ∧
 (needed_2 = false →
  Spec prog 48 #[(Sl.v p_0), (.int .i64 i_1)] F fun v F => ∃ v_15 : ByteArray, v = (.string v_15) ∧
  R (.string v_15) F))
theorem c76 {p_0 : Sl} {i_1 : Int} {needed_2 : Bool} {R : VP} {F : PH} (h : b76 p_0 i_1 needed_2 R F) : Spec prog 76 #[(Sl.v p_0), (.int .i64 i_1), (.bool needed_2)] F R := by
 refine spec_of (args := [(Sl.v p_0), (.int .i64 i_1), (.bool needed_2)]) func76 rfl ntmps76 rfl ?_
 unfold b76 at h
 refine cR ?_
 refine sR (.string (ByteArray.mk #[])) (r_assign rfl rfl) ?_
 refine HL_nil ?_
 refine HC_seq ?_
 refine cR ?_
 refine sR (.bool needed_2) (r_move rfl rfl) ?_
 refine HL_nil ?_
 refine HC_cond (t := needed_2) rfl (fun hc => ?_) (fun hc => ?_)
 replace h := h.1 hc
 clear hc
 refine cR ?_
 refine sR (Sl.v p_0) (r_move rfl rfl) ?_
 refine sR (.int .i64 i_1) (r_move rfl rfl) ?_
 refine s_ef (k_call (vs := [(Sl.v p_0), (.int .i64 i_1)]) cb48 (evC rfl (evC rfl evN)) (h.mono ?_))
 clear h; rintro v F ⟨v_10, rfl, h⟩
 obtain ⟨hx11, h⟩ := h
 refine sR (.string ((ByteArray.mk #[40]) ++ v_10)) (r_addS rfl rfl rfl hx11) ?_
 obtain ⟨hx12, h⟩ := h
 refine sR (.string (((ByteArray.mk #[40]) ++ v_10) ++ (ByteArray.mk #[41]))) (r_addS rfl rfl rfl hx12) ?_
 refine sR (.string (((ByteArray.mk #[40]) ++ v_10) ++ (ByteArray.mk #[41]))) (r_assign rfl rfl) ?_
 refine HL_nil ?_
 exact HC_ret (rt1 f76 R rfl rfl h)
 replace h := h.2 hc
 clear hc
 refine HC_skip ?_
 refine cR ?_
 refine sR (Sl.v p_0) (r_move rfl rfl) ?_
 refine sR (.int .i64 i_1) (r_move rfl rfl) ?_
 refine s_ef (k_call (vs := [(Sl.v p_0), (.int .i64 i_1)]) cb48 (evC rfl (evC rfl evN)) (h.mono ?_))
 clear h; rintro v F ⟨v_15, rfl, h⟩
 refine sR (.string v_15) (r_assign rfl rfl) ?_
 refine HL_nil ?_
 exact HC_ret (rt1 f76 R rfl rfl h)
 /- 48 koine.koineref04.text -/
def b48 (p_0 : Sl) (i_1 : Int) (R : VP) (F : PH) :=
 ∃ a10_ : Addr, p_0.base = some a10_ ∧ 0 ≤ i_1 ∧ i_1 < (p_0.len : Int) ∧
 ∃ v_11 : Array Value, v_11.size = 5 ∧ F.row (Addr.add a10_ (Int.toNat i_1 * 5)) v_11 ∧
 ∀ b5, F b5 = none → atF (F.set b5 (.cells (#[.int .i64 0, .int .i64 0, .int .i64 0, .int .i64 0, .int .i64 0]) 50)) fun F =>
 v_11.size = 5 ∧ (∀ v ∈ v_11.toList, storable v) ∧ ∃ c e, F (Addr.mk b5 0 none).block = some (.cells c e (0, 0)) ∧ (Addr.mk b5 0 none).spot = none ∧ (Addr.mk b5 0 none).off + 5 ≤ c.size ∧
 atF (F.set (Addr.mk b5 0 none).block (.cells (wr c (Addr.mk b5 0 none).off v_11.toList) e)) fun F =>
 ∃ v_14 : Int, F.cell (Addr.mk b5 3 none) = some (.int .i64 v_14) ∧
 ∃ a15_ : Addr, p_0.base = some a15_ ∧ 0 ≤ v_14 ∧ v_14 < (p_0.len : Int) ∧
 ∃ v_17 : Int, F.cell (Addr.add a15_ (Int.toNat v_14 * 5)) = some (.int .i64 v_17) ∧
 ∃ v_20 : Int, F.cell (Addr.mk b5 4 none) = some (.int .i64 v_20) ∧
 ∃ a21_ : Addr, p_0.base = some a21_ ∧ 0 ≤ v_20 ∧ v_20 < (p_0.len : Int) ∧
 ∃ v_23 : Int, F.cell (Addr.add a21_ (Int.toNat v_20 * 5)) = some (.int .i64 v_23) ∧
 ∃ v_25 : Int, F.cell (Addr.mk b5 0 none) = some (.int .i64 v_25) ∧
 ((v_25 = 1 →
  ∃ v_29 : Int, F.cell (Addr.mk b5 1 none) = some (.int .i64 v_29) ∧
  ∃ v_31 : Int, F.cell (Addr.mk b5 2 none) = some (.int .i64 v_31) ∧
  ((v_29 = v_31 →
   ∃ v_34 : Int, F.cell (Addr.mk b5 1 none) = some (.int .i64 v_34) ∧
   Spec prog 75 #[(.int .i64 v_34)] F fun v F => ∃ v_35 : ByteArray, v = (.string v_35) ∧
   R (.string v_35) F) ∧
  (¬ (v_29 = v_31) →
   ∃ v_37 : Int, F.cell (Addr.mk b5 1 none) = some (.int .i64 v_37) ∧
   ∃ v_42 : Int, F.cell (Addr.mk b5 2 none) = some (.int .i64 v_42) ∧
   Spec prog 75 #[(.int .i64 v_37)] F fun v F => ∃ v_38 : ByteArray, v = (.string v_38) ∧
   F.cell (Addr.mk b5 2 none) = some (.int .i64 v_42) ∧ (ByteArray.mk #[91]).size + v_38.size ≤ 9223372036854775807 ∧
   ((ByteArray.mk #[91]) ++ v_38).size + (ByteArray.mk #[45]).size ≤ 9223372036854775807 ∧
   Spec prog 75 #[(.int .i64 v_42)] F fun v F => ∃ v_43 : ByteArray, v = (.string v_43) ∧
   (((ByteArray.mk #[91]) ++ v_38) ++ (ByteArray.mk #[45])).size + v_43.size ≤ 9223372036854775807 ∧
   ((((ByteArray.mk #[91]) ++ v_38) ++ (ByteArray.mk #[45])) ++ v_43).size + (ByteArray.mk #[93]).size ≤ 9223372036854775807 ∧
   R (.string (((((ByteArray.mk #[91]) ++ v_38) ++ (ByteArray.mk #[45])) ++ v_43) ++ (ByteArray.mk #[93]))) F))) ∧
 (¬ (v_25 = 1) →
  ((v_25 = 2 →
   ∃ v_50 : Int, F.cell (Addr.mk b5 3 none) = some (.int .i64 v_50) ∧
   ∃ v_56 : Int, F.cell (Addr.mk b5 4 none) = some (.int .i64 v_56) ∧
   Spec prog 76 #[(Sl.v p_0), (.int .i64 v_50), (.bool (decide (v_17 = 3)))] F fun v F => ∃ v_53 : ByteArray, v = (.string v_53) ∧
   F.cell (Addr.mk b5 4 none) = some (.int .i64 v_56) ∧ ((v_23 = 3 →
    Spec prog 76 #[(Sl.v p_0), (.int .i64 v_56), (.bool true)] F fun v F => ∃ v_63 : ByteArray, v = (.string v_63) ∧
    v_53.size + v_63.size ≤ 9223372036854775807 ∧
    R (.string (v_53 ++ v_63)) F) ∧
   (¬ (v_23 = 3) →
    Spec prog 76 #[(Sl.v p_0), (.int .i64 v_56), (.bool (decide (v_23 = 2)))] F fun v F => ∃ v_63_1 : ByteArray, v = (.string v_63_1) ∧
    v_53.size + v_63_1.size ≤ 9223372036854775807 ∧
    R (.string (v_53 ++ v_63_1)) F))) ∧
  (¬ (v_25 = 2) →
   ((v_25 = 3 →
    ∃ v_69 : Int, F.cell (Addr.mk b5 3 none) = some (.int .i64 v_69) ∧
    ∃ v_74 : Int, F.cell (Addr.mk b5 4 none) = some (.int .i64 v_74) ∧
    Spec prog 48 #[(Sl.v p_0), (.int .i64 v_69)] F fun v F => ∃ v_70 : ByteArray, v = (.string v_70) ∧
    F.cell (Addr.mk b5 4 none) = some (.int .i64 v_74) ∧ v_70.size + (ByteArray.mk #[124]).size ≤ 9223372036854775807 ∧
    Spec prog 76 #[(Sl.v p_0), (.int .i64 v_74), (.bool (decide (v_23 = 3)))] F fun v F => ∃ v_77 : ByteArray, v = (.string v_77) ∧
    (v_70 ++ (ByteArray.mk #[124])).size + v_77.size ≤ 9223372036854775807 ∧
    R (.string ((v_70 ++ (ByteArray.mk #[124])) ++ v_77)) F) ∧
   (¬ (v_25 = 3) →
    ((v_25 = 4 →
     ∃ v_83 : Int, F.cell (Addr.mk b5 3 none) = some (.int .i64 v_83) ∧
     ((v_17 = 3 →
      Spec prog 76 #[(Sl.v p_0), (.int .i64 v_83), (.bool true)] F fun v F => ∃ v_90 : ByteArray, v = (.string v_90) ∧
      v_90.size + (ByteArray.mk #[42]).size ≤ 9223372036854775807 ∧
      R (.string (v_90 ++ (ByteArray.mk #[42]))) F) ∧
     (¬ (v_17 = 3) →
      Spec prog 76 #[(Sl.v p_0), (.int .i64 v_83), (.bool (decide (v_17 = 2)))] F fun v F => ∃ v_90_1 : ByteArray, v = (.string v_90_1) ∧
      v_90_1.size + (ByteArray.mk #[42]).size ≤ 9223372036854775807 ∧
      R (.string (v_90_1 ++ (ByteArray.mk #[42]))) F))) ∧
    (¬ (v_25 = 4) →
     R (.string (ByteArray.mk #[40, 41])) F))))))))
theorem c48 {p_0 : Sl} {i_1 : Int} {R : VP} {F : PH} (h : b48 p_0 i_1 R F) : Spec prog 48 #[(Sl.v p_0), (.int .i64 i_1)] F R := by
 refine spec_of (args := [(Sl.v p_0), (.int .i64 i_1)]) func48 rfl ntmps48 rfl ?_
 unfold b48 at h
 refine cR ?_
 refine sR (.string (ByteArray.mk #[])) (r_assign rfl rfl) ?_
 refine HL_nil ?_
 refine cR ?_
 refine sR (Sl.v p_0) (r_move rfl rfl) ?_
 refine sR (.int .i64 i_1) (r_move rfl rfl) ?_
 obtain ⟨a10_, hb10, hl10, hu10, h⟩ := h
 refine sR (.pointer (some (Addr.add a10_ (Int.toNat i_1 * 5)))) (w_indexAddr rfl rfl underlying25 sz50 hb10 hl10 hu10) ?_
 obtain ⟨v_11, hs11, hc11, h⟩ := h
 refine sR (.agg v_11) (w_loadN rfl underlying50 rfl sz50 hs11 hc11) ?_
 refine s_ef (k_alloc zr50 ?_)
 intro b5 hf_b5
 replace h := atE (h b5 hf_b5)
 refine s_ef0 (k_storeN (vs := v_11) rfl rfl sz50 (by decide) ?_)
 obtain ⟨hz1, hz2, c, e, hz3, hz4, hz5, h⟩ := h
 refine ⟨hz1, hz2, c, e, hz3, hz4, hz5, ?_⟩
 replace h := atE h
 refine HL_nil ?_
 refine cR ?_
 refine sR (Sl.v p_0) (r_move rfl rfl) ?_
 refine sR (.pointer (some (Addr.mk b5 3 none))) (w_fieldAddr rfl underlying50 rfl rfl sz3 rfl rfl) ?_
 obtain ⟨v_14, hc14, h⟩ := h
 refine sR (.int .i64 v_14) (r_load1 rfl rfl underlying3 rfl hc14) ?_
 obtain ⟨a15_, hb15, hl15, hu15, h⟩ := h
 refine sR (.pointer (some (Addr.add a15_ (Int.toNat v_14 * 5)))) (w_indexAddr rfl rfl underlying25 sz50 hb15 hl15 hu15) ?_
 refine sR (.pointer (some (Addr.add a15_ (Int.toNat v_14 * 5)))) (w_fieldAddr rfl underlying50 rfl rfl sz3 rfl rfl) ?_
 obtain ⟨v_17, hc17, h⟩ := h
 refine sR (.int .i64 v_17) (r_load1 rfl rfl underlying3 rfl hc17) ?_
 refine sR (.int .i64 v_17) (r_assign rfl rfl) ?_
 refine HL_nil ?_
 refine cR ?_
 refine sR (Sl.v p_0) (r_move rfl rfl) ?_
 refine sR (.pointer (some (Addr.mk b5 4 none))) (w_fieldAddr rfl underlying50 rfl rfl sz3 rfl rfl) ?_
 obtain ⟨v_20, hc20, h⟩ := h
 refine sR (.int .i64 v_20) (r_load1 rfl rfl underlying3 rfl hc20) ?_
 obtain ⟨a21_, hb21, hl21, hu21, h⟩ := h
 refine sR (.pointer (some (Addr.add a21_ (Int.toNat v_20 * 5)))) (w_indexAddr rfl rfl underlying25 sz50 hb21 hl21 hu21) ?_
 refine sR (.pointer (some (Addr.add a21_ (Int.toNat v_20 * 5)))) (w_fieldAddr rfl underlying50 rfl rfl sz3 rfl rfl) ?_
 obtain ⟨v_23, hc23, h⟩ := h
 refine sR (.int .i64 v_23) (r_load1 rfl rfl underlying3 rfl hc23) ?_
 refine sR (.int .i64 v_23) (r_assign rfl rfl) ?_
 refine HL_nil ?_
 refine HC_seq ?_
 refine cR ?_
 refine sR (.pointer (some (Addr.mk b5 0 none))) (w_fieldAddr rfl underlying50 rfl rfl sz3 rfl rfl) ?_
 obtain ⟨v_25, hc25, h⟩ := h
 refine sR (.int .i64 v_25) (r_load1 rfl rfl underlying3 rfl hc25) ?_
 refine HL_nil ?_
 refine HC_block ?_
 refine cR ?_
 refine sR (.bool (decide (v_25 = 1))) (w_eql rfl rfl) ?_
 refine sR (.bool (decide (v_25 = 1))) (r_assign rfl rfl) ?_
 refine HL_nil ?_
 refine HC_cond (t := (decide (v_25 = 1))) rfl (fun hc => ?_) (fun hc => ?_)
 replace h := h.1 (of_decide_eq_true hc)
 clear hc
 refine HC_seq ?_
 refine cR ?_
 refine sR (.pointer (some (Addr.mk b5 1 none))) (w_fieldAddr rfl underlying50 rfl rfl sz3 rfl rfl) ?_
 obtain ⟨v_29, hc29, h⟩ := h
 refine sR (.int .i64 v_29) (r_load1 rfl rfl underlying3 rfl hc29) ?_
 refine sR (.pointer (some (Addr.mk b5 2 none))) (w_fieldAddr rfl underlying50 rfl rfl sz3 rfl rfl) ?_
 obtain ⟨v_31, hc31, h⟩ := h
 refine sR (.int .i64 v_31) (r_load1 rfl rfl underlying3 rfl hc31) ?_
 refine sR (.bool (decide (v_29 = v_31))) (w_eql rfl rfl) ?_
 refine HL_nil ?_
 refine HC_cond (t := (decide (v_29 = v_31))) rfl (fun hc => ?_) (fun hc => ?_)
 replace h := h.1 (of_decide_eq_true hc)
 clear hc
 refine cR ?_
 refine sR (.pointer (some (Addr.mk b5 1 none))) (w_fieldAddr rfl underlying50 rfl rfl sz3 rfl rfl) ?_
 obtain ⟨v_34, hc34, h⟩ := h
 refine sR (.int .i64 v_34) (r_load1 rfl rfl underlying3 rfl hc34) ?_
 refine s_ef (k_call (vs := [(.int .i64 v_34)]) cb75 (evC rfl evN) (h.mono ?_))
 clear h; rintro v F ⟨v_35, rfl, h⟩
 refine sR (.string v_35) (r_assign rfl rfl) ?_
 refine HL_nil ?_
 exact HC_ret (rt1 f48 R rfl rfl h)
 replace h := h.2 (of_decide_eq_false hc)
 clear hc
 refine HC_skip ?_
 refine HC_seq ?_
 refine HC_draw0 (by kernel_rfl) (fun hp => ?_)
 refine gU 0 (.pointer (some (Addr.mk b5 1 none))) rfl (fun _ => w_fieldAddr rfl underlying50 rfl rfl sz3 rfl rfl) hp ?_
 obtain ⟨v_37, hc37, h⟩ := h
 refine gR 1 (.int .i64 v_37) rfl (r_load1 rfl rfl underlying3 rfl hc37) hp (fun S1 q1 => ?_)
 replace hp := holdC (i := 1) (q1 _ (r_load1 rfl rfl underlying3 rfl hc37)) hp
 refine gU 5 (.pointer (some (Addr.mk b5 2 none))) rfl (fun _ => w_fieldAddr rfl underlying50 rfl rfl sz3 rfl rfl) hp ?_
 obtain ⟨v_42, hc42, h⟩ := h
 refine gR 6 (.int .i64 v_42) rfl (r_load1 rfl rfl underlying3 rfl hc42) hp (fun S6 q6 => ?_)
 replace hp := holdC (i := 6) (q6 _ (r_load1 rfl rfl underlying3 rfl hc42)) hp
 refine RG_eff1 (i := 2) (by kernel_rfl) (g_op (Sp' := [(6, S6)]) rfl rfl (k_call (vs := [(.int .i64 v_37)]) cb75 (evC rfl evN) (h.mono ?_)))
 clear h; rintro v F ⟨v_38, rfl, h⟩
 obtain ⟨hk_8, h⟩ := h
 refine holdI (holdC (i := 6) (q6 _ (r_load1 rfl rfl underlying3 rfl hk_8)) hold0) (fun hp => ?_)
 obtain ⟨hx39, h⟩ := h
 refine gU 3 (.string ((ByteArray.mk #[91]) ++ v_38)) rfl (fun _ => r_addS rfl rfl rfl hx39) hp ?_
 obtain ⟨hx40, h⟩ := h
 refine gU 4 (.string (((ByteArray.mk #[91]) ++ v_38) ++ (ByteArray.mk #[45]))) rfl (fun _ => r_addS rfl rfl rfl hx40) hp ?_
 refine RG_eff1 (i := 7) (by kernel_rfl) (g_op (Sp' := []) rfl rfl (k_call (vs := [(.int .i64 v_42)]) cb75 (evC rfl evN) (h.mono ?_)))
 clear h; rintro v F ⟨v_43, rfl, h⟩
 refine holdI hold0 (fun hp => ?_)
 obtain ⟨hx44, h⟩ := h
 refine gU 8 (.string ((((ByteArray.mk #[91]) ++ v_38) ++ (ByteArray.mk #[45])) ++ v_43)) rfl (fun _ => r_addS rfl rfl rfl hx44) hp ?_
 obtain ⟨hx45, h⟩ := h
 refine gU 9 (.string (((((ByteArray.mk #[91]) ++ v_38) ++ (ByteArray.mk #[45])) ++ v_43) ++ (ByteArray.mk #[93]))) rfl (fun _ => r_addS rfl rfl rfl hx45) hp ?_
 refine gU 10 (.string (((((ByteArray.mk #[91]) ++ v_38) ++ (ByteArray.mk #[45])) ++ v_43) ++ (ByteArray.mk #[93]))) rfl (fun _ => r_assign rfl rfl) hp ?_
 refine RG_done (by kernel_rfl) ?_
 exact HC_ret (rt1 f48 R rfl rfl h)
 replace h := h.2 (of_decide_eq_false hc)
 clear hc
 refine cR ?_
 refine sR (.bool (decide (v_25 = 2))) (w_eql rfl rfl) ?_
 refine sR (.bool (decide (v_25 = 2))) (r_assign rfl rfl) ?_
 refine HL_nil ?_
 refine HC_cond (t := (decide (v_25 = 2))) rfl (fun hc => ?_) (fun hc => ?_)
 replace h := h.1 (of_decide_eq_true hc)
 clear hc
 refine HC_seq ?_
 refine HC_draw0 (by kernel_rfl) (fun hp => ?_)
 refine gU 0 (Sl.v p_0) rfl (fun _ => r_move rfl rfl) hp ?_
 refine gU 1 (.pointer (some (Addr.mk b5 3 none))) rfl (fun _ => w_fieldAddr rfl underlying50 rfl rfl sz3 rfl rfl) hp ?_
 obtain ⟨v_50, hc50, h⟩ := h
 refine gR 2 (.int .i64 v_50) rfl (r_load1 rfl rfl underlying3 rfl hc50) hp (fun S2 q2 => ?_)
 replace hp := holdC (i := 2) (q2 _ (r_load1 rfl rfl underlying3 rfl hc50)) hp
 refine gU 3 (.int .i64 v_17) rfl (fun _ => r_move rfl rfl) hp ?_
 refine gU 4 (.bool (decide (v_17 = 3))) rfl (fun _ => w_eql rfl rfl) hp ?_
 refine gU 6 (Sl.v p_0) rfl (fun _ => r_move rfl rfl) hp ?_
 refine gU 7 (.pointer (some (Addr.mk b5 4 none))) rfl (fun _ => w_fieldAddr rfl underlying50 rfl rfl sz3 rfl rfl) hp ?_
 obtain ⟨v_56, hc56, h⟩ := h
 refine gR 8 (.int .i64 v_56) rfl (r_load1 rfl rfl underlying3 rfl hc56) hp (fun S8 q8 => ?_)
 replace hp := holdC (i := 8) (q8 _ (r_load1 rfl rfl underlying3 rfl hc56)) hp
 refine gU 9 (.int .i64 v_23) rfl (fun _ => r_move rfl rfl) hp ?_
 refine gU 10 (.bool (decide (v_23 = 3))) rfl (fun _ => w_eql rfl rfl) hp ?_
 refine RG_eff1 (i := 5) (by kernel_rfl) (g_op (Sp' := [(8, S8)]) rfl rfl (k_call (vs := [(Sl.v p_0), (.int .i64 v_50), (.bool (decide (v_17 = 3)))]) cb76 (evC rfl (evC rfl (evC rfl evN))) (h.mono ?_)))
 clear h; rintro v F ⟨v_53, rfl, h⟩
 obtain ⟨hk_10, h⟩ := h
 refine holdI (holdC (i := 8) (q8 _ (r_load1 rfl rfl underlying3 rfl hk_10)) hold0) (fun hp => ?_)
 refine gU 11 (.bool (decide (v_23 = 3))) rfl (fun _ => r_move rfl rfl) hp ?_
 by_cases hc : v_23 = 3
 replace h := h.1 hc
 refine RG_known (t := 58) (v := .bool true) (congrArg Value.bool (decide_eq_true hc)) ?_
 refine RG_known (t := 59) (v := .bool true) (congrArg Value.bool (decide_eq_true hc)) ?_
 refine gS 12 rfl hp ?_
 refine gS 13 rfl hp ?_
 refine gU 14 (.bool true) rfl (fun _ => r_pick rfl rfl (fun _ => rfl) (fun h => by cases h)) hp ?_
 refine RG_eff1 (i := 15) (by kernel_rfl) (g_op (Sp' := []) rfl rfl (k_call (vs := [(Sl.v p_0), (.int .i64 v_56), (.bool true)]) cb76 (evC rfl (evC rfl (evC rfl evN))) (h.mono ?_)))
 clear h; rintro v F ⟨v_63, rfl, h⟩
 refine holdI hold0 (fun hp => ?_)
 obtain ⟨hx64, h⟩ := h
 refine gU 16 (.string (v_53 ++ v_63)) rfl (fun _ => r_addS rfl rfl rfl hx64) hp ?_
 refine gU 17 (.string (v_53 ++ v_63)) rfl (fun _ => r_assign rfl rfl) hp ?_
 refine RG_done (by kernel_rfl) ?_
 exact HC_ret (rt1 f48 R rfl rfl h)
 replace h := h.2 hc
 refine RG_known (t := 58) (v := .bool false) (congrArg Value.bool (decide_eq_false hc)) ?_
 refine RG_known (t := 59) (v := .bool false) (congrArg Value.bool (decide_eq_false hc)) ?_
 refine gU 12 (.int .i64 v_23) rfl (fun _ => r_move rfl rfl) hp ?_
 refine gU 13 (.bool (decide (v_23 = 2))) rfl (fun _ => w_eql rfl rfl) hp ?_
 refine gU 14 (.bool (decide (v_23 = 2))) rfl (fun _ => r_pick rfl rfl (fun h => by cases h) (fun _ => rfl)) hp ?_
 refine RG_eff1 (i := 15) (by kernel_rfl) (g_op (Sp' := []) rfl rfl (k_call (vs := [(Sl.v p_0), (.int .i64 v_56), (.bool (decide (v_23 = 2)))]) cb76 (evC rfl (evC rfl (evC rfl evN))) (h.mono ?_)))
 clear h; rintro v F ⟨v_63_1, rfl, h⟩
 refine holdI hold0 (fun hp => ?_)
 obtain ⟨hx64, h⟩ := h
 refine gU 16 (.string (v_53 ++ v_63_1)) rfl (fun _ => r_addS rfl rfl rfl hx64) hp ?_
 refine gU 17 (.string (v_53 ++ v_63_1)) rfl (fun _ => r_assign rfl rfl) hp ?_
 refine RG_done (by kernel_rfl) ?_
 exact HC_ret (rt1 f48 R rfl rfl h)
 replace h := h.2 (of_decide_eq_false hc)
 clear hc
 refine cR ?_
 refine sR (.bool (decide (v_25 = 3))) (w_eql rfl rfl) ?_
 refine sR (.bool (decide (v_25 = 3))) (r_assign rfl rfl) ?_
 refine HL_nil ?_
 refine HC_cond (t := (decide (v_25 = 3))) rfl (fun hc => ?_) (fun hc => ?_)
 replace h := h.1 (of_decide_eq_true hc)
 clear hc
 refine HC_seq ?_
 refine HC_draw0 (by kernel_rfl) (fun hp => ?_)
 refine gU 0 (Sl.v p_0) rfl (fun _ => r_move rfl rfl) hp ?_
 refine gU 1 (.pointer (some (Addr.mk b5 3 none))) rfl (fun _ => w_fieldAddr rfl underlying50 rfl rfl sz3 rfl rfl) hp ?_
 obtain ⟨v_69, hc69, h⟩ := h
 refine gR 2 (.int .i64 v_69) rfl (r_load1 rfl rfl underlying3 rfl hc69) hp (fun S2 q2 => ?_)
 replace hp := holdC (i := 2) (q2 _ (r_load1 rfl rfl underlying3 rfl hc69)) hp
 refine gU 5 (Sl.v p_0) rfl (fun _ => r_move rfl rfl) hp ?_
 refine gU 6 (.pointer (some (Addr.mk b5 4 none))) rfl (fun _ => w_fieldAddr rfl underlying50 rfl rfl sz3 rfl rfl) hp ?_
 obtain ⟨v_74, hc74, h⟩ := h
 refine gR 7 (.int .i64 v_74) rfl (r_load1 rfl rfl underlying3 rfl hc74) hp (fun S7 q7 => ?_)
 replace hp := holdC (i := 7) (q7 _ (r_load1 rfl rfl underlying3 rfl hc74)) hp
 refine gU 8 (.int .i64 v_23) rfl (fun _ => r_move rfl rfl) hp ?_
 refine gU 9 (.bool (decide (v_23 = 3))) rfl (fun _ => w_eql rfl rfl) hp ?_
 refine RG_eff1 (i := 3) (by kernel_rfl) (g_op (Sp' := [(7, S7)]) rfl rfl (k_call (vs := [(Sl.v p_0), (.int .i64 v_69)]) cb48 (evC rfl (evC rfl evN)) (h.mono ?_)))
 clear h; rintro v F ⟨v_70, rfl, h⟩
 obtain ⟨hk_12, h⟩ := h
 refine holdI (holdC (i := 7) (q7 _ (r_load1 rfl rfl underlying3 rfl hk_12)) hold0) (fun hp => ?_)
 obtain ⟨hx71, h⟩ := h
 refine gU 4 (.string (v_70 ++ (ByteArray.mk #[124]))) rfl (fun _ => r_addS rfl rfl rfl hx71) hp ?_
 refine RG_eff1 (i := 10) (by kernel_rfl) (g_op (Sp' := []) rfl rfl (k_call (vs := [(Sl.v p_0), (.int .i64 v_74), (.bool (decide (v_23 = 3)))]) cb76 (evC rfl (evC rfl (evC rfl evN))) (h.mono ?_)))
 clear h; rintro v F ⟨v_77, rfl, h⟩
 refine holdI hold0 (fun hp => ?_)
 obtain ⟨hx78, h⟩ := h
 refine gU 11 (.string ((v_70 ++ (ByteArray.mk #[124])) ++ v_77)) rfl (fun _ => r_addS rfl rfl rfl hx78) hp ?_
 refine gU 12 (.string ((v_70 ++ (ByteArray.mk #[124])) ++ v_77)) rfl (fun _ => r_assign rfl rfl) hp ?_
 refine RG_done (by kernel_rfl) ?_
 exact HC_ret (rt1 f48 R rfl rfl h)
 replace h := h.2 (of_decide_eq_false hc)
 clear hc
 refine cR ?_
 refine sR (.bool (decide (v_25 = 4))) (w_eql rfl rfl) ?_
 refine sR (.bool (decide (v_25 = 4))) (r_assign rfl rfl) ?_
 refine HL_nil ?_
 refine HC_cond (t := (decide (v_25 = 4))) rfl (fun hc => ?_) (fun hc => ?_)
 replace h := h.1 (of_decide_eq_true hc)
 clear hc
 refine cR ?_
 refine sR (Sl.v p_0) (r_move rfl rfl) ?_
 refine sR (.pointer (some (Addr.mk b5 3 none))) (w_fieldAddr rfl underlying50 rfl rfl sz3 rfl rfl) ?_
 obtain ⟨v_83, hc83, h⟩ := h
 refine sR (.int .i64 v_83) (r_load1 rfl rfl underlying3 rfl hc83) ?_
 refine sR (.int .i64 v_17) (r_move rfl rfl) ?_
 refine sR (.bool (decide (v_17 = 3))) (w_eql rfl rfl) ?_
 refine sR (.bool (decide (v_17 = 3))) (r_move rfl rfl) ?_
 by_cases hc : v_17 = 3
 replace h := h.1 hc
 refine kN 85 (decide_eq_true hc) ?_
 refine kN 86 (decide_eq_true hc) ?_
 iterate 2 refine s_skip ?_
 refine sR (.bool true) (r_pt rfl rfl) ?_
 refine s_ef (k_call (vs := [(Sl.v p_0), (.int .i64 v_83), (.bool true)]) cb76 (evC rfl (evC rfl (evC rfl evN))) (h.mono ?_))
 clear h; rintro v F ⟨v_90, rfl, h⟩
 obtain ⟨hx91, h⟩ := h
 refine sR (.string (v_90 ++ (ByteArray.mk #[42]))) (r_addS rfl rfl rfl hx91) ?_
 refine sR (.string (v_90 ++ (ByteArray.mk #[42]))) (r_assign rfl rfl) ?_
 refine HL_nil ?_
 exact HC_ret (rt1 f48 R rfl rfl h)
 replace h := h.2 hc
 refine kN 85 (decide_eq_false hc) ?_
 refine kN 86 (decide_eq_false hc) ?_
 refine sR (.int .i64 v_17) (r_move rfl rfl) ?_
 refine sR (.bool (decide (v_17 = 2))) (w_eql rfl rfl) ?_
 refine sR (.bool (decide (v_17 = 2))) (r_pf rfl rfl) ?_
 refine s_ef (k_call (vs := [(Sl.v p_0), (.int .i64 v_83), (.bool (decide (v_17 = 2)))]) cb76 (evC rfl (evC rfl (evC rfl evN))) (h.mono ?_))
 clear h; rintro v F ⟨v_90_1, rfl, h⟩
 obtain ⟨hx91, h⟩ := h
 refine sR (.string (v_90_1 ++ (ByteArray.mk #[42]))) (r_addS rfl rfl rfl hx91) ?_
 refine sR (.string (v_90_1 ++ (ByteArray.mk #[42]))) (r_assign rfl rfl) ?_
 refine HL_nil ?_
 exact HC_ret (rt1 f48 R rfl rfl h)
 replace h := h.2 (of_decide_eq_false hc)
 clear hc
 refine HC_skip ?_
 refine cR ?_
 refine sR (.string (ByteArray.mk #[40, 41])) (r_assign rfl rfl) ?_
 refine HL_nil ?_
 exact HC_ret (rt1 f48 R rfl rfl h)
 /- 20 koine.koineref04.Print -/
def b20 (p_0 : Sl) (R : VP) (F : PH) :=
 Spec prog 22 #[(Sl.v p_0)] F fun v F => ∃ v_6 : Int, v = (.int .i64 v_6) ∧
 ((v_6 ≠ 0 →
  R (.tuple #[(.string (ByteArray.mk #[])), (.int .i64 v_6)]) F) ∧
 (¬ (v_6 ≠ 0) →
  Spec prog 48 #[(Sl.v p_0), (.int .i64 (IntKind.i64.wrap ((p_0.len : Int) - 1)))] F fun v F => ∃ v_14 : ByteArray, v = (.string v_14) ∧
  R (.tuple #[(.string v_14), (.int .i64 0)]) F))
theorem c20 {p_0 : Sl} {R : VP} {F : PH} (h : b20 p_0 R F) : Spec prog 20 #[(Sl.v p_0)] F R := by
 refine spec_of (args := [(Sl.v p_0)]) func20 rfl ntmps20 rfl ?_
 unfold b20 at h
 refine cR ?_
 refine sR (.string (ByteArray.mk #[])) (r_assign rfl rfl) ?_
 refine sR (.int .i64 0) (r_assign rfl rfl) ?_
 refine HL_nil ?_
 refine cR ?_
 refine sR (Sl.v p_0) (r_move rfl rfl) ?_
 refine s_ef (k_call (vs := [(Sl.v p_0)]) cb22 (evC rfl evN) (h.mono ?_))
 clear h; rintro v F ⟨v_6, rfl, h⟩
 refine sR (.int .i64 v_6) (r_assign rfl rfl) ?_
 refine HL_nil ?_
 refine HC_seq ?_
 refine cR ?_
 refine sR (.int .i64 v_6) (r_move rfl rfl) ?_
 refine sR (.bool (decide (v_6 ≠ 0))) (w_neq rfl rfl) ?_
 refine HL_nil ?_
 refine HC_cond (t := (decide (v_6 ≠ 0))) rfl (fun hc => ?_) (fun hc => ?_)
 replace h := h.1 (of_decide_eq_true hc)
 clear hc
 refine cR ?_
 refine sR (.int .i64 v_6) (r_move rfl rfl) ?_
 refine sR (.string (ByteArray.mk #[])) (r_assign rfl rfl) ?_
 refine sR (.int .i64 v_6) (r_assign rfl rfl) ?_
 refine HL_nil ?_
 exact HC_ret (rt2 f20 R rfl rfl rfl h)
 replace h := h.2 (of_decide_eq_false hc)
 clear hc
 refine HC_skip ?_
 refine cR ?_
 refine sR (Sl.v p_0) (r_move rfl rfl) ?_
 refine sR (Sl.v p_0) (r_move rfl rfl) ?_
 refine sR (.int .i64 (p_0.len : Int)) (r_lenSl rfl rfl underlying25) ?_
 refine sR (.int .i64 (IntKind.i64.wrap ((p_0.len : Int) - 1))) (r_sub rfl rfl rfl) ?_
 refine s_ef (k_call (vs := [(Sl.v p_0), (.int .i64 (IntKind.i64.wrap ((p_0.len : Int) - 1)))]) cb48 (evC rfl (evC rfl evN)) (h.mono ?_))
 clear h; rintro v F ⟨v_14, rfl, h⟩
 refine sR (.string v_14) (r_assign rfl rfl) ?_
 refine sR (.int .i64 0) (r_assign rfl rfl) ?_
 refine HL_nil ?_
 exact HC_ret (rt2 f20 R rfl rfl rfl h)
end Go.Proofs.YtnjcgpihfmklfaaDoor
