/-
  What functions of the program do, in a clean form, each with the proof that its code does so. Printed by a program.
-/
import Derived.Test.YtnjcgpihfmklfaaDoorGf
import Derived.Test.YtnjcgpihfmklfaaDoorPho
namespace Go.Proofs.YtnjcgpihfmklfaaDoor
open Go Go.Proofs.Tryd
set_option maxRecDepth 10000
set_option maxHeartbeats 4000000
/- 3 koine.koinelaw04.PatternMatchesReference -/
def b3 (l_0 : Sl) (s_1 : ByteArray) (at_2 : Int) (R : VP) (F : PH) :=
 Spec prog 15 #[] F fun v F => ∃ v_17 : Bool, v = (.bool v_17) ∧
 Spec prog 16 #[(Sl.v l_0), (.int .i64 40)] F fun v F => ∃ v_19 : Sl, v = (Sl.v v_19) ∧
 ((24 < (s_1.size : Int) →
  R (.bool v_17) F) ∧
 (¬ (24 < (s_1.size : Int)) →
  Spec prog 17 #[(Sl.v v_19), (.string s_1), (.int .i64 at_2)] F fun v F => ∃ v_28 : Int, ∃ v_28_1 : Bool, v = (.tuple #[(.int .i64 v_28), (.bool v_28_1)]) ∧
  Spec prog 18 #[(Sl.v v_19), (.string s_1), (.int .i64 at_2)] F fun v F => ∃ v_35 : Int, ∃ v_35_1 : Bool, v = (.tuple #[(.int .i64 v_35), (.bool v_35_1)]) ∧
  Spec prog 19 #[(Sl.v v_19)] F fun v F => ∃ v_40 : ByteArray, ∃ v_40_1 : Int, v = (.tuple #[(.string v_40), (.int .i64 v_40_1)]) ∧
  Spec prog 20 #[(Sl.v v_19)] F fun v F => ∃ v_45 : ByteArray, ∃ v_45_1 : Int, v = (.tuple #[(.string v_45), (.int .i64 v_45_1)]) ∧
  Spec prog 21 #[(Sl.v v_19)] F fun v F => ∃ v_49 : Int, v = (.int .i64 v_49) ∧
  Spec prog 22 #[(Sl.v v_19)] F fun v F => ∃ v_51 : Int, v = (.int .i64 v_51) ∧
  ((v_49 = v_51 →
   Spec prog 23 #[(Sl.v v_19), (.string s_1)] F fun v F => ∃ v_56 : Bool, v = (.bool v_56) ∧
   Spec prog 24 #[(Sl.v v_19), (.string s_1)] F fun v F => ∃ v_59 : Bool, v = (.bool v_59) ∧
   (((v_56 == v_59) = true →
    ((v_28 = v_35 →
     (((v_28_1 == v_35_1) = true →
      (((v_40.toList == v_45.toList) = true →
       ((v_40_1 = v_45_1 →
        R (.bool v_17) F) ∧
       (¬ (v_40_1 = v_45_1) →
        R (.bool false) F))) ∧
      ((v_40.toList == v_45.toList) = false →
       R (.bool false) F))) ∧
     ((v_28_1 == v_35_1) = false →
      R (.bool false) F))) ∧
    (¬ (v_28 = v_35) →
     R (.bool false) F))) ∧
   ((v_56 == v_59) = false →
    R (.bool false) F))) ∧
  (¬ (v_49 = v_51) →
   R (.bool false) F))))
set_option maxHeartbeats 4000000
/- 13 koine.koinelaw04.PatternAnyMatchesReference -/
def b13 (p_0 : Sl) (s_1 : ByteArray) (at_2 : Int) (R : VP) (F : PH) :=
 Spec prog 15 #[] F fun v F => ∃ v_20 : Bool, v = (.bool v_20) ∧
 ((20 < (p_0.len : Int) →
  R (.bool v_20) F) ∧
 (¬ (20 < (p_0.len : Int)) →
  ((300 < (s_1.size : Int) →
   R (.bool v_20) F) ∧
  (¬ (300 < (s_1.size : Int)) →
   Spec prog 36 #[(.string s_1)] F fun v F => ∃ v_32 : Sl, ∃ v_32_1 : Int, v = (.tuple #[(Sl.v v_32), (.int .i64 v_32_1)]) ∧
   Spec prog 37 #[(.string s_1)] F fun v F => ∃ v_37 : Sl, ∃ v_37_1 : Int, v = (.tuple #[(Sl.v v_37), (.int .i64 v_37_1)]) ∧
   ((v_32_1 ≠ v_37_1 →
    R (.bool false) F) ∧
   (¬ (v_32_1 ≠ v_37_1) →
    Spec prog 27 #[(Sl.v v_32), (Sl.v v_37)] F fun v F => ∃ v_46 : Bool, v = (.bool v_46) ∧
    (((!v_46) = true →
     R (.bool false) F) ∧
    ((!v_46) = false →
     Spec prog 21 #[(Sl.v p_0)] F fun v F => ∃ v_51 : Int, v = (.int .i64 v_51) ∧
     Spec prog 22 #[(Sl.v p_0)] F fun v F => ∃ v_53 : Int, v = (.int .i64 v_53) ∧
     ((v_51 ≠ v_53 →
      R (.bool false) F) ∧
     (¬ (v_51 ≠ v_53) →
      ((24 < (s_1.size : Int) →
       R (.bool v_20) F) ∧
      (¬ (24 < (s_1.size : Int)) →
       Spec prog 17 #[(Sl.v p_0), (.string s_1), (.int .i64 at_2)] F fun v F => ∃ v_64 : Int, ∃ v_64_1 : Bool, v = (.tuple #[(.int .i64 v_64), (.bool v_64_1)]) ∧
       Spec prog 18 #[(Sl.v p_0), (.string s_1), (.int .i64 at_2)] F fun v F => ∃ v_71 : Int, ∃ v_71_1 : Bool, v = (.tuple #[(.int .i64 v_71), (.bool v_71_1)]) ∧
       Spec prog 19 #[(Sl.v p_0)] F fun v F => ∃ v_76 : ByteArray, ∃ v_76_1 : Int, v = (.tuple #[(.string v_76), (.int .i64 v_76_1)]) ∧
       Spec prog 20 #[(Sl.v p_0)] F fun v F => ∃ v_81 : ByteArray, ∃ v_81_1 : Int, v = (.tuple #[(.string v_81), (.int .i64 v_81_1)]) ∧
       Spec prog 23 #[(Sl.v p_0), (.string s_1)] F fun v F => ∃ v_86 : Bool, v = (.bool v_86) ∧
       Spec prog 24 #[(Sl.v p_0), (.string s_1)] F fun v F => ∃ v_89 : Bool, v = (.bool v_89) ∧
       (((v_86 == v_89) = true →
        ((v_64 = v_71 →
         (((v_64_1 == v_71_1) = true →
          (((v_76.toList == v_81.toList) = true →
           ((v_76_1 = v_81_1 →
            R (.bool v_20) F) ∧
           (¬ (v_76_1 = v_81_1) →
            R (.bool false) F))) ∧
          ((v_76.toList == v_81.toList) = false →
           R (.bool false) F))) ∧
         ((v_64_1 == v_71_1) = false →
          R (.bool false) F))) ∧
        (¬ (v_64 = v_71) →
         R (.bool false) F))) ∧
       ((v_86 == v_89) = false →
        R (.bool false) F))))))))))))))
theorem c13 {p_0 : Sl} {s_1 : ByteArray} {at_2 : Int} {R : VP} {F : PH} (h : b13 p_0 s_1 at_2 R F) : Spec prog 13 #[(Sl.v p_0), (.string s_1), (.int .i64 at_2)] F R := by
 refine spec_of (args := [(Sl.v p_0), (.string s_1), (.int .i64 at_2)]) func13 rfl ntmps13 rfl ?_
 unfold b13 at h
 refine cR ?_
 refine sR (.bool false) (r_assign rfl rfl) ?_
 refine HL_nil ?_
 refine cR ?_
 refine s_ef (k_call (vs := []) cb15 evN (h.mono ?_))
 clear h; rintro v F ⟨v_20, rfl, h⟩
 refine sR (.bool v_20) (r_assign rfl rfl) ?_
 refine HL_nil ?_
 refine HC_seq ?_
 refine cR ?_
 refine sR (Sl.v p_0) (r_move rfl rfl) ?_
 refine sR (.int .i64 (p_0.len : Int)) (r_lenSl rfl rfl underlying25) ?_
 refine sR (.bool (decide (20 < (p_0.len : Int)))) (r_gtr rfl rfl rfl) ?_
 refine sR (.bool (decide (20 < (p_0.len : Int)))) (r_move rfl rfl) ?_
 by_cases hc : 20 < (p_0.len : Int)
 replace h := h.1 hc
 refine kN 23 (decide_eq_true hc) ?_
 refine kN 24 (decide_eq_true hc) ?_
 iterate 3 refine s_skip ?_
 refine sR (.bool true) (r_pt rfl rfl) ?_
 refine HL_nil ?_
 refine HC_condT rfl ?_
 refine cR ?_
 refine sR (.bool v_20) (r_move rfl rfl) ?_
 refine sR (.bool v_20) (r_assign rfl rfl) ?_
 refine HL_nil ?_
 exact HC_ret (rt1 f13 R rfl rfl h)
 replace h := h.2 hc
 refine kN 23 (decide_eq_false hc) ?_
 refine kN 24 (decide_eq_false hc) ?_
 refine sR (.string s_1) (r_move rfl rfl) ?_
 refine sR (.int .i64 (s_1.size : Int)) (r_lenStr rfl rfl underlying9) ?_
 refine sR (.bool (decide (300 < (s_1.size : Int)))) (r_gtr rfl rfl rfl) ?_
 refine sR (.bool (decide (300 < (s_1.size : Int)))) (r_pf rfl rfl) ?_
 refine HL_nil ?_
 refine HC_cond (t := (decide (300 < (s_1.size : Int)))) rfl (fun hc => ?_) (fun hc => ?_)
 replace h := h.1 (of_decide_eq_true hc)
 clear hc
 refine cR ?_
 refine sR (.bool v_20) (r_move rfl rfl) ?_
 refine sR (.bool v_20) (r_assign rfl rfl) ?_
 refine HL_nil ?_
 exact HC_ret (rt1 f13 R rfl rfl h)
 replace h := h.2 (of_decide_eq_false hc)
 clear hc
 refine HC_skip ?_
 refine cR ?_
 refine sR (.string s_1) (r_move rfl rfl) ?_
 refine s_ef (k_call (vs := [(.string s_1)]) cb36 (evC rfl evN) (h.mono ?_))
 clear h; rintro v F ⟨v_32, v_32_1, rfl, h⟩
 refine sR (.tuple #[(Sl.v v_32), (.int .i64 v_32_1)]) (r_move rfl rfl) ?_
 refine sR (Sl.v v_32) (r_extract rfl rfl rfl) ?_
 refine sR (.int .i64 v_32_1) (r_extract rfl rfl rfl) ?_
 refine sR (Sl.v v_32) (r_assign rfl rfl) ?_
 refine sR (.int .i64 v_32_1) (r_assign rfl rfl) ?_
 refine HL_nil ?_
 refine cR ?_
 refine sR (.string s_1) (r_move rfl rfl) ?_
 refine s_ef (k_call (vs := [(.string s_1)]) cb37 (evC rfl evN) (h.mono ?_))
 clear h; rintro v F ⟨v_37, v_37_1, rfl, h⟩
 refine sR (.tuple #[(Sl.v v_37), (.int .i64 v_37_1)]) (r_move rfl rfl) ?_
 refine sR (Sl.v v_37) (r_extract rfl rfl rfl) ?_
 refine sR (.int .i64 v_37_1) (r_extract rfl rfl rfl) ?_
 refine sR (Sl.v v_37) (r_assign rfl rfl) ?_
 refine sR (.int .i64 v_37_1) (r_assign rfl rfl) ?_
 refine HL_nil ?_
 refine HC_seq ?_
 refine cR ?_
 refine sR (.int .i64 v_32_1) (r_move rfl rfl) ?_
 refine sR (.int .i64 v_37_1) (r_move rfl rfl) ?_
 refine sR (.bool (decide (v_32_1 ≠ v_37_1))) (w_neq rfl rfl) ?_
 refine sR (.bool (decide (v_32_1 ≠ v_37_1))) (r_move rfl rfl) ?_
 by_cases hc : v_32_1 ≠ v_37_1
 replace h := h.1 hc
 refine kN 42 (decide_eq_true hc) ?_
 refine kN 43 (decide_eq_true hc) ?_
 iterate 4 refine s_skip ?_
 refine sR (.bool true) (r_pt rfl rfl) ?_
 refine sR (.bool true) (r_move rfl rfl) ?_
 iterate 5 refine s_skip ?_
 refine sR (.bool true) (r_pt rfl rfl) ?_
 refine HL_nil ?_
 refine HC_condT rfl ?_
 refine cR ?_
 refine sR (.bool false) (r_assign rfl rfl) ?_
 refine HL_nil ?_
 exact HC_ret (rt1 f13 R rfl rfl h)
 replace h := h.2 hc
 refine kN 42 (decide_eq_false hc) ?_
 refine kN 43 (decide_eq_false hc) ?_
 refine sR (Sl.v v_32) (r_move rfl rfl) ?_
 refine sR (Sl.v v_37) (r_move rfl rfl) ?_
 refine s_ef (k_call (vs := [(Sl.v v_32), (Sl.v v_37)]) cb27 (evC rfl (evC rfl evN)) (h.mono ?_))
 clear h; rintro v F ⟨v_46, rfl, h⟩
 refine sR (.bool (!v_46)) (r_not rfl rfl) ?_
 refine sR (.bool (!v_46)) (r_pf rfl rfl) ?_
 refine sR (.bool (!v_46)) (r_move rfl rfl) ?_
 by_cases hc : (!v_46) = true
 replace h := h.1 hc
 refine kN 47 hc ?_
 refine kN 48 hc ?_
 refine kN 49 hc ?_
 iterate 5 refine s_skip ?_
 refine sR (.bool true) (r_pt rfl rfl) ?_
 refine HL_nil ?_
 refine HC_condT rfl ?_
 refine cR ?_
 refine sR (.bool false) (r_assign rfl rfl) ?_
 refine HL_nil ?_
 exact HC_ret (rt1 f13 R rfl rfl h)
 replace hc := eq_false_of_ne_true hc; replace h := h.2 hc
 refine kN 47 hc ?_
 refine kN 48 hc ?_
 refine kN 49 hc ?_
 refine sR (Sl.v p_0) (r_move rfl rfl) ?_
 refine s_ef (k_call (vs := [(Sl.v p_0)]) cb21 (evC rfl evN) (h.mono ?_))
 clear h; rintro v F ⟨v_51, rfl, h⟩
 refine sR (Sl.v p_0) (r_move rfl rfl) ?_
 refine s_ef (k_call (vs := [(Sl.v p_0)]) cb22 (evC rfl evN) (h.mono ?_))
 clear h; rintro v F ⟨v_53, rfl, h⟩
 refine sR (.bool (decide (v_51 ≠ v_53))) (w_neq rfl rfl) ?_
 refine sR (.bool (decide (v_51 ≠ v_53))) (r_pf rfl rfl) ?_
 refine HL_nil ?_
 refine HC_cond (t := (decide (v_51 ≠ v_53))) rfl (fun hc => ?_) (fun hc => ?_)
 replace h := h.1 (of_decide_eq_true hc)
 clear hc
 refine cR ?_
 refine sR (.bool false) (r_assign rfl rfl) ?_
 refine HL_nil ?_
 exact HC_ret (rt1 f13 R rfl rfl h)
 replace h := h.2 (of_decide_eq_false hc)
 clear hc
 refine HC_skip ?_
 refine HC_seq ?_
 refine cR ?_
 refine sR (.string s_1) (r_move rfl rfl) ?_
 refine sR (.int .i64 (s_1.size : Int)) (r_lenStr rfl rfl underlying9) ?_
 refine sR (.bool (decide (24 < (s_1.size : Int)))) (r_gtr rfl rfl rfl) ?_
 refine HL_nil ?_
 refine HC_cond (t := (decide (24 < (s_1.size : Int)))) rfl (fun hc => ?_) (fun hc => ?_)
 replace h := h.1 (of_decide_eq_true hc)
 clear hc
 refine cR ?_
 refine sR (.bool v_20) (r_move rfl rfl) ?_
 refine sR (.bool v_20) (r_assign rfl rfl) ?_
 refine HL_nil ?_
 exact HC_ret (rt1 f13 R rfl rfl h)
 replace h := h.2 (of_decide_eq_false hc)
 clear hc
 refine HC_skip ?_
 refine cR ?_
 refine sR (Sl.v p_0) (r_move rfl rfl) ?_
 refine sR (.string s_1) (r_move rfl rfl) ?_
 refine sR (.int .i64 at_2) (r_move rfl rfl) ?_
 refine s_ef (k_call (vs := [(Sl.v p_0), (.string s_1), (.int .i64 at_2)]) cb17 (evC rfl (evC rfl (evC rfl evN))) (h.mono ?_))
 clear h; rintro v F ⟨v_64, v_64_1, rfl, h⟩
 refine sR (.tuple #[(.int .i64 v_64), (.bool v_64_1)]) (r_move rfl rfl) ?_
 refine sR (.int .i64 v_64) (r_extract rfl rfl rfl) ?_
 refine sR (.bool v_64_1) (r_extract rfl rfl rfl) ?_
 refine sR (.int .i64 v_64) (r_assign rfl rfl) ?_
 refine sR (.bool v_64_1) (r_assign rfl rfl) ?_
 refine HL_nil ?_
 refine cR ?_
 refine sR (Sl.v p_0) (r_move rfl rfl) ?_
 refine sR (.string s_1) (r_move rfl rfl) ?_
 refine sR (.int .i64 at_2) (r_move rfl rfl) ?_
 refine s_ef (k_call (vs := [(Sl.v p_0), (.string s_1), (.int .i64 at_2)]) cb18 (evC rfl (evC rfl (evC rfl evN))) (h.mono ?_))
 clear h; rintro v F ⟨v_71, v_71_1, rfl, h⟩
 refine sR (.tuple #[(.int .i64 v_71), (.bool v_71_1)]) (r_move rfl rfl) ?_
 refine sR (.int .i64 v_71) (r_extract rfl rfl rfl) ?_
 refine sR (.bool v_71_1) (r_extract rfl rfl rfl) ?_
 refine sR (.int .i64 v_71) (r_assign rfl rfl) ?_
 refine sR (.bool v_71_1) (r_assign rfl rfl) ?_
 refine HL_nil ?_
 refine cR ?_
 refine sR (Sl.v p_0) (r_move rfl rfl) ?_
 refine s_ef (k_call (vs := [(Sl.v p_0)]) cb19 (evC rfl evN) (h.mono ?_))
 clear h; rintro v F ⟨v_76, v_76_1, rfl, h⟩
 refine sR (.tuple #[(.string v_76), (.int .i64 v_76_1)]) (r_move rfl rfl) ?_
 refine sR (.string v_76) (r_extract rfl rfl rfl) ?_
 refine sR (.int .i64 v_76_1) (r_extract rfl rfl rfl) ?_
 refine sR (.string v_76) (r_assign rfl rfl) ?_
 refine sR (.int .i64 v_76_1) (r_assign rfl rfl) ?_
 refine HL_nil ?_
 refine cR ?_
 refine sR (Sl.v p_0) (r_move rfl rfl) ?_
 refine s_ef (k_call (vs := [(Sl.v p_0)]) cb20 (evC rfl evN) (h.mono ?_))
 clear h; rintro v F ⟨v_81, v_81_1, rfl, h⟩
 refine sR (.tuple #[(.string v_81), (.int .i64 v_81_1)]) (r_move rfl rfl) ?_
 refine sR (.string v_81) (r_extract rfl rfl rfl) ?_
 refine sR (.int .i64 v_81_1) (r_extract rfl rfl rfl) ?_
 refine sR (.string v_81) (r_assign rfl rfl) ?_
 refine sR (.int .i64 v_81_1) (r_assign rfl rfl) ?_
 refine HL_nil ?_
 refine cR ?_
 refine sR (Sl.v p_0) (r_move rfl rfl) ?_
 refine sR (.string s_1) (r_move rfl rfl) ?_
 refine s_ef (k_call (vs := [(Sl.v p_0), (.string s_1)]) cb23 (evC rfl (evC rfl evN)) (h.mono ?_))
 clear h; rintro v F ⟨v_86, rfl, h⟩
 refine sR (Sl.v p_0) (r_move rfl rfl) ?_
 refine sR (.string s_1) (r_move rfl rfl) ?_
 refine s_ef (k_call (vs := [(Sl.v p_0), (.string s_1)]) cb24 (evC rfl (evC rfl evN)) (h.mono ?_))
 clear h; rintro v F ⟨v_89, rfl, h⟩
 refine sR (.bool (v_86 == v_89)) (r_eqlB rfl rfl rfl underlying4) ?_
 refine sR (.bool (v_86 == v_89)) (r_move rfl rfl) ?_
 by_cases hc : (v_86 == v_89) = true
 replace h := h.1 hc
 refine kN 90 hc ?_
 refine kN 91 hc ?_
 refine sR (.int .i64 v_64) (r_move rfl rfl) ?_
 refine sR (.int .i64 v_71) (r_move rfl rfl) ?_
 refine sR (.bool (decide (v_64 = v_71))) (w_eql rfl rfl) ?_
 refine sR (.bool (decide (v_64 = v_71))) (r_pt rfl rfl) ?_
 refine sR (.bool (decide (v_64 = v_71))) (r_move rfl rfl) ?_
 by_cases hc : v_64 = v_71
 replace h := h.1 hc
 refine kN 94 (decide_eq_true hc) ?_
 refine kN 95 (decide_eq_true hc) ?_
 refine kN 96 (decide_eq_true hc) ?_
 refine sR (.bool v_64_1) (r_move rfl rfl) ?_
 refine sR (.bool v_71_1) (r_move rfl rfl) ?_
 refine sR (.bool (v_64_1 == v_71_1)) (r_eqlB rfl rfl rfl underlying4) ?_
 refine sR (.bool (v_64_1 == v_71_1)) (r_pt rfl rfl) ?_
 refine sR (.bool (v_64_1 == v_71_1)) (r_move rfl rfl) ?_
 by_cases hc : (v_64_1 == v_71_1) = true
 replace h := h.1 hc
 refine kN 99 hc ?_
 refine kN 100 hc ?_
 refine kN 101 hc ?_
 refine sR (.string v_76) (r_move rfl rfl) ?_
 refine sR (.string v_81) (r_move rfl rfl) ?_
 refine sR (.bool (v_76.toList == v_81.toList)) (r_eqlS rfl rfl rfl) ?_
 refine sR (.bool (v_76.toList == v_81.toList)) (r_pt rfl rfl) ?_
 refine sR (.bool (v_76.toList == v_81.toList)) (r_move rfl rfl) ?_
 by_cases hc : (v_76.toList == v_81.toList) = true
 replace h := h.1 hc
 refine kN 104 hc ?_
 refine kN 105 hc ?_
 refine kN 106 hc ?_
 refine sR (.int .i64 v_76_1) (r_move rfl rfl) ?_
 refine sR (.int .i64 v_81_1) (r_move rfl rfl) ?_
 refine sR (.bool (decide (v_76_1 = v_81_1))) (w_eql rfl rfl) ?_
 refine sR (.bool (decide (v_76_1 = v_81_1))) (r_pt rfl rfl) ?_
 refine sR (.bool (decide (v_76_1 = v_81_1))) (r_move rfl rfl) ?_
 by_cases hc : v_76_1 = v_81_1
 replace h := h.1 hc
 refine kN 109 (decide_eq_true hc) ?_
 refine kN 110 (decide_eq_true hc) ?_
 refine kN 111 (decide_eq_true hc) ?_
 refine sR (.bool v_20) (r_move rfl rfl) ?_
 refine sR (.bool v_20) (r_pt rfl rfl) ?_
 refine sR (.bool v_20) (r_assign rfl rfl) ?_
 refine HL_nil ?_
 exact HC_ret (rt1 f13 R rfl rfl h)
 replace h := h.2 hc
 refine kN 109 (decide_eq_false hc) ?_
 refine kN 110 (decide_eq_false hc) ?_
 refine kN 111 (decide_eq_false hc) ?_
 refine s_skip ?_
 refine sR (.bool false) (r_pf rfl rfl) ?_
 refine sR (.bool false) (r_assign rfl rfl) ?_
 refine HL_nil ?_
 exact HC_ret (rt1 f13 R rfl rfl h)
 replace hc := eq_false_of_ne_true hc; replace h := h.2 hc
 refine kN 104 hc ?_
 refine kN 105 hc ?_
 refine kN 106 hc ?_
 iterate 3 refine s_skip ?_
 refine sR (.bool false) (r_pf rfl rfl) ?_
 refine sR (.bool false) (r_move rfl rfl) ?_
 refine s_skip ?_
 refine sR (.bool false) (r_pf rfl rfl) ?_
 refine sR (.bool false) (r_assign rfl rfl) ?_
 refine HL_nil ?_
 exact HC_ret (rt1 f13 R rfl rfl h)
 replace hc := eq_false_of_ne_true hc; replace h := h.2 hc
 refine kN 99 hc ?_
 refine kN 100 hc ?_
 refine kN 101 hc ?_
 iterate 3 refine s_skip ?_
 refine sR (.bool false) (r_pf rfl rfl) ?_
 refine sR (.bool false) (r_move rfl rfl) ?_
 iterate 3 refine s_skip ?_
 refine sR (.bool false) (r_pf rfl rfl) ?_
 refine sR (.bool false) (r_move rfl rfl) ?_
 refine s_skip ?_
 refine sR (.bool false) (r_pf rfl rfl) ?_
 refine sR (.bool false) (r_assign rfl rfl) ?_
 refine HL_nil ?_
 exact HC_ret (rt1 f13 R rfl rfl h)
 replace h := h.2 hc
 refine kN 94 (decide_eq_false hc) ?_
 refine kN 95 (decide_eq_false hc) ?_
 refine kN 96 (decide_eq_false hc) ?_
 iterate 3 refine s_skip ?_
 refine sR (.bool false) (r_pf rfl rfl) ?_
 refine sR (.bool false) (r_move rfl rfl) ?_
 iterate 3 refine s_skip ?_
 refine sR (.bool false) (r_pf rfl rfl) ?_
 refine sR (.bool false) (r_move rfl rfl) ?_
 iterate 3 refine s_skip ?_
 refine sR (.bool false) (r_pf rfl rfl) ?_
 refine sR (.bool false) (r_move rfl rfl) ?_
 refine s_skip ?_
 refine sR (.bool false) (r_pf rfl rfl) ?_
 refine sR (.bool false) (r_assign rfl rfl) ?_
 refine HL_nil ?_
 exact HC_ret (rt1 f13 R rfl rfl h)
 replace hc := eq_false_of_ne_true hc; replace h := h.2 hc
 refine kN 90 hc ?_
 refine kN 91 hc ?_
 iterate 3 refine s_skip ?_
 refine sR (.bool false) (r_pf rfl rfl) ?_
 refine sR (.bool false) (r_move rfl rfl) ?_
 iterate 3 refine s_skip ?_
 refine sR (.bool false) (r_pf rfl rfl) ?_
 refine sR (.bool false) (r_move rfl rfl) ?_
 iterate 3 refine s_skip ?_
 refine sR (.bool false) (r_pf rfl rfl) ?_
 refine sR (.bool false) (r_move rfl rfl) ?_
 iterate 3 refine s_skip ?_
 refine sR (.bool false) (r_pf rfl rfl) ?_
 refine sR (.bool false) (r_move rfl rfl) ?_
 refine s_skip ?_
 refine sR (.bool false) (r_pf rfl rfl) ?_
 refine sR (.bool false) (r_assign rfl rfl) ?_
 refine HL_nil ?_
 exact HC_ret (rt1 f13 R rfl rfl h)
end Go.Proofs.YtnjcgpihfmklfaaDoor
