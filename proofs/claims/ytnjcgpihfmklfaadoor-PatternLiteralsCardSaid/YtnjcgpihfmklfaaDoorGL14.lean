/-
  What functions of the program do, in a clean form, each with the proof that its code does so. Printed by a program.
-/
import Derived.Test.YtnjcgpihfmklfaaDoorGf
import Derived.Test.YtnjcgpihfmklfaaDoorPhp
namespace Go.Proofs.YtnjcgpihfmklfaaDoor
open Go Go.Proofs.Tryd
set_option maxRecDepth 10000
set_option maxHeartbeats 4000000
/- 14 koine.koinelaw04.PatternLiterals -/
def b14 (s_0 : ByteArray) (t_1 : ByteArray) (R : Value → PH → Prop) (F : PH) : Prop :=
 Spec prog 15 #[] F fun v F => ∃ v_16 : Bool, v = (.bool v_16) ∧
 (((40 : Int) < (s_0.size : Int) →
  R (.bool v_16) F) ∧
 (¬ ((40 : Int) < (s_0.size : Int)) →
  (((40 : Int) < (t_1.size : Int) →
   R (.bool v_16) F) ∧
  (¬ ((40 : Int) < (t_1.size : Int)) →
   Spec prog 36 #[(.string s_0)] F fun v F => ∃ v_28 : Sl, ∃ v_28_1 : Int, v = (.tuple #[(Sl.v v_28), (.int .i64 v_28_1)]) ∧
   Spec prog 19 #[(Sl.v v_28)] F fun v F => ∃ v_33 : ByteArray, ∃ v_33_1 : Int, v = (.tuple #[(.string v_33), (.int .i64 v_33_1)]) ∧
   Spec prog 25 #[(.string v_33)] F fun v F => ∃ v_38 : Sl, ∃ v_38_1 : Int, v = (.tuple #[(Sl.v v_38), (.int .i64 v_38_1)]) ∧
   ((v_28_1 ≠ (0 : Int) →
    R (.bool false) F) ∧
   (¬ (v_28_1 ≠ (0 : Int)) →
    ((v_33_1 ≠ (0 : Int) →
     R (.bool false) F) ∧
    (¬ (v_33_1 ≠ (0 : Int)) →
     ((v_38_1 ≠ (0 : Int) →
      R (.bool false) F) ∧
     (¬ (v_38_1 ≠ (0 : Int)) →
      Spec prog 27 #[(Sl.v v_38), (Sl.v v_28)] F fun v F => ∃ v_54 : Bool, v = (.bool v_54) ∧
      (((!v_54) = true →
       R (.bool false) F) ∧
      ((!v_54) = false →
       Spec prog 21 #[(Sl.v v_28)] F fun v F => ∃ v_59 : Int, v = (.int .i64 v_59) ∧
       ((v_59 ≠ (0 : Int) →
        R (.bool false) F) ∧
       (¬ (v_59 ≠ (0 : Int)) →
        s_0.size + t_1.size ≤ 9223372036854775807 ∧
        Spec prog 17 #[(Sl.v v_28), (.string (s_0 ++ t_1)), (.int .i64 (0 : Int))] F fun v F => ∃ v_67 : Int, ∃ v_67_1 : Bool, v = (.tuple #[(.int .i64 v_67), (.bool v_67_1)]) ∧
        Spec prog 29 #[(Sl.v v_28)] F fun v F => ∃ v_72 : ByteArray, ∃ v_72_1 : Int, v = (.tuple #[(.string v_72), (.int .i64 v_72_1)]) ∧
        (((s_0.toList == (ByteArray.mk #[]).toList) = true →
         (((!v_67_1) = true →
          ((v_72_1 = (3 : Int) →
           Spec prog 23 #[(Sl.v v_28), (.string (ByteArray.mk #[]))] F fun v F => ∃ v_85 : Bool, v = (.bool v_85) ∧
           ((v_85 = true →
            Spec prog 23 #[(Sl.v v_28), (.string t_1)] F fun v F => ∃ v_90 : Bool, v = (.bool v_90) ∧
            (((v_90 == (t_1.toList == (ByteArray.mk #[]).toList)) = true →
             R (.bool v_16) F) ∧
            ((v_90 == (t_1.toList == (ByteArray.mk #[]).toList)) = false →
             R (.bool false) F))) ∧
           (v_85 = false →
            R (.bool false) F))) ∧
          (¬ (v_72_1 = (3 : Int)) →
           R (.bool false) F))) ∧
         ((!v_67_1) = false →
          R (.bool false) F))) ∧
        ((s_0.toList == (ByteArray.mk #[]).toList) = false →
         ((v_67_1 = true →
          ((v_67 = (s_0.size : Int) →
           ((v_72_1 = (0 : Int) →
            (((v_72.toList == s_0.toList) = true →
             Spec prog 23 #[(Sl.v v_28), (.string s_0)] F fun v F => ∃ v_117 : Bool, v = (.bool v_117) ∧
             ((v_117 = true →
              Spec prog 23 #[(Sl.v v_28), (.string t_1)] F fun v F => ∃ v_122 : Bool, v = (.bool v_122) ∧
              (((v_122 == (s_0.toList == t_1.toList)) = true →
               R (.bool v_16) F) ∧
              ((v_122 == (s_0.toList == t_1.toList)) = false →
               R (.bool false) F))) ∧
             (v_117 = false →
              R (.bool false) F))) ∧
            ((v_72.toList == s_0.toList) = false →
             R (.bool false) F))) ∧
           (¬ (v_72_1 = (0 : Int)) →
            R (.bool false) F))) ∧
          (¬ (v_67 = (s_0.size : Int)) →
           R (.bool false) F))) ∧
         (v_67_1 = false →
          R (.bool false) F))))))))))))))))))
theorem c14 {s_0 : ByteArray} {t_1 : ByteArray} {R : Value → PH → Prop} {F : PH} (h : b14 s_0 t_1 R F) : Spec prog 14 #[(.string s_0), (.string t_1)] F R := by
 refine spec_of (args := [(.string s_0), (.string t_1)]) func14 rfl ntmps14 rfl ?_
 unfold b14 at h
 refine cR ?_
 refine sR (.bool false) (r_assign rfl rfl) ?_
 refine HL_nil ?_
 refine cR ?_
 refine s_ef (k_call (vs := []) cb15 evN (h.mono ?_))
 clear h; rintro v F ⟨v_16, rfl, h⟩
 refine sR (.bool v_16) (r_assign rfl rfl) ?_
 refine HL_nil ?_
 refine HC_seq ?_
 refine cR ?_
 refine sR (.string s_0) (r_move rfl rfl) ?_
 refine sR (.int .i64 (s_0.size : Int)) (r_lenStr rfl rfl underlying9) ?_
 refine sR (.bool (decide ((40 : Int) < (s_0.size : Int)))) (r_gtr rfl rfl rfl) ?_
 refine sR (.bool (decide ((40 : Int) < (s_0.size : Int)))) (r_move rfl rfl) ?_
 by_cases hc : (40 : Int) < (s_0.size : Int)
 ·
  replace h := h.1 hc
  refine kN 19 (decide_eq_true hc) ?_
  refine kN 20 (decide_eq_true hc) ?_
  refine s_skip ?_
  refine s_skip ?_
  refine s_skip ?_
  refine sR (.bool true) (r_pick rfl rfl (fun _ => rfl) (fun h => by cases h)) ?_
  refine HL_nil ?_
  refine HC_condT rfl ?_
  refine cR ?_
  refine sR (.bool v_16) (r_move rfl rfl) ?_
  refine sR (.bool v_16) (r_assign rfl rfl) ?_
  refine HL_nil ?_
  exact HC_ret (show endQ prog f14 R .ret _ _ from ⟨_, res1 rfl (rv_tmp rfl), h⟩)
 ·
  replace h := h.2 hc
  refine kN 19 (decide_eq_false hc) ?_
  refine kN 20 (decide_eq_false hc) ?_
  refine sR (.string t_1) (r_move rfl rfl) ?_
  refine sR (.int .i64 (t_1.size : Int)) (r_lenStr rfl rfl underlying9) ?_
  refine sR (.bool (decide ((40 : Int) < (t_1.size : Int)))) (r_gtr rfl rfl rfl) ?_
  refine sR (.bool (decide ((40 : Int) < (t_1.size : Int)))) (r_pick rfl rfl (fun h => by cases h) (fun _ => rfl)) ?_
  refine HL_nil ?_
  refine HC_cond (t := (decide ((40 : Int) < (t_1.size : Int)))) rfl (fun hc => ?_) (fun hc => ?_)
  ·
   replace h := h.1 (of_decide_eq_true hc)
   clear hc
   refine cR ?_
   refine sR (.bool v_16) (r_move rfl rfl) ?_
   refine sR (.bool v_16) (r_assign rfl rfl) ?_
   refine HL_nil ?_
   exact HC_ret (show endQ prog f14 R .ret _ _ from ⟨_, res1 rfl (rv_tmp rfl), h⟩)
  ·
   replace h := h.2 (of_decide_eq_false hc)
   clear hc
   refine HC_skip ?_
   refine cR ?_
   refine sR (.string s_0) (r_move rfl rfl) ?_
   refine s_ef (k_call (vs := [(.string s_0)]) cb36 (evC rfl evN) (h.mono ?_))
   clear h; rintro v F ⟨v_28, v_28_1, rfl, h⟩
   refine sR (.tuple #[(Sl.v v_28), (.int .i64 v_28_1)]) (r_move rfl rfl) ?_
   refine sR (Sl.v v_28) (r_extract rfl rfl rfl) ?_
   refine sR (.int .i64 v_28_1) (r_extract rfl rfl rfl) ?_
   refine sR (Sl.v v_28) (r_assign rfl rfl) ?_
   refine sR (.int .i64 v_28_1) (r_assign rfl rfl) ?_
   refine HL_nil ?_
   refine cR ?_
   refine sR (Sl.v v_28) (r_move rfl rfl) ?_
   refine s_ef (k_call (vs := [(Sl.v v_28)]) cb19 (evC rfl evN) (h.mono ?_))
   clear h; rintro v F ⟨v_33, v_33_1, rfl, h⟩
   refine sR (.tuple #[(.string v_33), (.int .i64 v_33_1)]) (r_move rfl rfl) ?_
   refine sR (.string v_33) (r_extract rfl rfl rfl) ?_
   refine sR (.int .i64 v_33_1) (r_extract rfl rfl rfl) ?_
   refine sR (.string v_33) (r_assign rfl rfl) ?_
   refine sR (.int .i64 v_33_1) (r_assign rfl rfl) ?_
   refine HL_nil ?_
   refine cR ?_
   refine sR (.string v_33) (r_move rfl rfl) ?_
   refine s_ef (k_call (vs := [(.string v_33)]) cb25 (evC rfl evN) (h.mono ?_))
   clear h; rintro v F ⟨v_38, v_38_1, rfl, h⟩
   refine sR (.tuple #[(Sl.v v_38), (.int .i64 v_38_1)]) (r_move rfl rfl) ?_
   refine sR (Sl.v v_38) (r_extract rfl rfl rfl) ?_
   refine sR (.int .i64 v_38_1) (r_extract rfl rfl rfl) ?_
   refine sR (Sl.v v_38) (r_assign rfl rfl) ?_
   refine sR (.int .i64 v_38_1) (r_assign rfl rfl) ?_
   refine HL_nil ?_
   refine HC_seq ?_
   refine cR ?_
   refine sR (.int .i64 v_28_1) (r_move rfl rfl) ?_
   refine sR (.bool (decide (v_28_1 ≠ (0 : Int)))) (w_neq rfl rfl) ?_
   refine sR (.bool (decide (v_28_1 ≠ (0 : Int)))) (r_move rfl rfl) ?_
   by_cases hc : v_28_1 ≠ (0 : Int)
   ·
    replace h := h.1 hc
    refine kN 42 (decide_eq_true hc) ?_
    refine kN 43 (decide_eq_true hc) ?_
    refine s_skip ?_
    refine s_skip ?_
    refine sR (.bool true) (r_pick rfl rfl (fun _ => rfl) (fun h => by cases h)) ?_
    refine sR (.bool true) (r_move rfl rfl) ?_
    refine s_skip ?_
    refine s_skip ?_
    refine sR (.bool true) (r_pick rfl rfl (fun _ => rfl) (fun h => by cases h)) ?_
    refine sR (.bool true) (r_move rfl rfl) ?_
    refine s_skip ?_
    refine s_skip ?_
    refine s_skip ?_
    refine s_skip ?_
    refine sR (.bool true) (r_pick rfl rfl (fun _ => rfl) (fun h => by cases h)) ?_
    refine sR (.bool true) (r_move rfl rfl) ?_
    refine s_skip ?_
    refine s_skip ?_
    refine s_skip ?_
    refine sR (.bool true) (r_pick rfl rfl (fun _ => rfl) (fun h => by cases h)) ?_
    refine HL_nil ?_
    refine HC_condT rfl ?_
    refine cR ?_
    refine sR (.bool false) (r_assign rfl rfl) ?_
    refine HL_nil ?_
    exact HC_ret (show endQ prog f14 R .ret _ _ from ⟨_, res1 rfl (rv_tmp rfl), h⟩)
   ·
    replace h := h.2 hc
    refine kN 42 (decide_eq_false hc) ?_
    refine kN 43 (decide_eq_false hc) ?_
    refine sR (.int .i64 v_33_1) (r_move rfl rfl) ?_
    refine sR (.bool (decide (v_33_1 ≠ (0 : Int)))) (w_neq rfl rfl) ?_
    refine sR (.bool (decide (v_33_1 ≠ (0 : Int)))) (r_pick rfl rfl (fun h => by cases h) (fun _ => rfl)) ?_
    refine sR (.bool (decide (v_33_1 ≠ (0 : Int)))) (r_move rfl rfl) ?_
    by_cases hc : v_33_1 ≠ (0 : Int)
    ·
     replace h := h.1 hc
     refine kN 45 (decide_eq_true hc) ?_
     refine kN 46 (decide_eq_true hc) ?_
     refine kN 47 (decide_eq_true hc) ?_
     refine s_skip ?_
     refine s_skip ?_
     refine sR (.bool true) (r_pick rfl rfl (fun _ => rfl) (fun h => by cases h)) ?_
     refine sR (.bool true) (r_move rfl rfl) ?_
     refine s_skip ?_
     refine s_skip ?_
     refine s_skip ?_
     refine s_skip ?_
     refine sR (.bool true) (r_pick rfl rfl (fun _ => rfl) (fun h => by cases h)) ?_
     refine sR (.bool true) (r_move rfl rfl) ?_
     refine s_skip ?_
     refine s_skip ?_
     refine s_skip ?_
     refine sR (.bool true) (r_pick rfl rfl (fun _ => rfl) (fun h => by cases h)) ?_
     refine HL_nil ?_
     refine HC_condT rfl ?_
     refine cR ?_
     refine sR (.bool false) (r_assign rfl rfl) ?_
     refine HL_nil ?_
     exact HC_ret (show endQ prog f14 R .ret _ _ from ⟨_, res1 rfl (rv_tmp rfl), h⟩)
    ·
     replace h := h.2 hc
     refine kN 45 (decide_eq_false hc) ?_
     refine kN 46 (decide_eq_false hc) ?_
     refine kN 47 (decide_eq_false hc) ?_
     refine sR (.int .i64 v_38_1) (r_move rfl rfl) ?_
     refine sR (.bool (decide (v_38_1 ≠ (0 : Int)))) (w_neq rfl rfl) ?_
     refine sR (.bool (decide (v_38_1 ≠ (0 : Int)))) (r_pick rfl rfl (fun h => by cases h) (fun _ => rfl)) ?_
     refine sR (.bool (decide (v_38_1 ≠ (0 : Int)))) (r_move rfl rfl) ?_
     by_cases hc : v_38_1 ≠ (0 : Int)
     ·
      replace h := h.1 hc
      refine kN 49 (decide_eq_true hc) ?_
      refine kN 50 (decide_eq_true hc) ?_
      refine kN 51 (decide_eq_true hc) ?_
      refine s_skip ?_
      refine s_skip ?_
      refine s_skip ?_
      refine s_skip ?_
      refine sR (.bool true) (r_pick rfl rfl (fun _ => rfl) (fun h => by cases h)) ?_
      refine sR (.bool true) (r_move rfl rfl) ?_
      refine s_skip ?_
      refine s_skip ?_
      refine s_skip ?_
      refine sR (.bool true) (r_pick rfl rfl (fun _ => rfl) (fun h => by cases h)) ?_
      refine HL_nil ?_
      refine HC_condT rfl ?_
      refine cR ?_
      refine sR (.bool false) (r_assign rfl rfl) ?_
      refine HL_nil ?_
      exact HC_ret (show endQ prog f14 R .ret _ _ from ⟨_, res1 rfl (rv_tmp rfl), h⟩)
     ·
      replace h := h.2 hc
      refine kN 49 (decide_eq_false hc) ?_
      refine kN 50 (decide_eq_false hc) ?_
      refine kN 51 (decide_eq_false hc) ?_
      refine sR (Sl.v v_38) (r_move rfl rfl) ?_
      refine sR (Sl.v v_28) (r_move rfl rfl) ?_
      refine s_ef (k_call (vs := [(Sl.v v_38), (Sl.v v_28)]) cb27 (evC rfl (evC rfl evN)) (h.mono ?_))
      clear h; rintro v F ⟨v_54, rfl, h⟩
      refine sR (.bool (!v_54)) (r_not rfl rfl) ?_
      refine sR (.bool (!v_54)) (r_pick rfl rfl (fun h => by cases h) (fun _ => rfl)) ?_
      refine sR (.bool (!v_54)) (r_move rfl rfl) ?_
      by_cases hc : (!v_54) = true
      ·
       replace h := h.1 hc
       refine kN 55 hc ?_
       refine kN 56 hc ?_
       refine kN 57 hc ?_
       refine s_skip ?_
       refine s_skip ?_
       refine s_skip ?_
       refine sR (.bool true) (r_pick rfl rfl (fun _ => rfl) (fun h => by cases h)) ?_
       refine HL_nil ?_
       refine HC_condT rfl ?_
       refine cR ?_
       refine sR (.bool false) (r_assign rfl rfl) ?_
       refine HL_nil ?_
       exact HC_ret (show endQ prog f14 R .ret _ _ from ⟨_, res1 rfl (rv_tmp rfl), h⟩)
      ·
       replace hc := eq_false_of_ne_true hc; replace h := h.2 hc
       refine kN 55 hc ?_
       refine kN 56 hc ?_
       refine kN 57 hc ?_
       refine sR (Sl.v v_28) (r_move rfl rfl) ?_
       refine s_ef (k_call (vs := [(Sl.v v_28)]) cb21 (evC rfl evN) (h.mono ?_))
       clear h; rintro v F ⟨v_59, rfl, h⟩
       refine sR (.bool (decide (v_59 ≠ (0 : Int)))) (w_neq rfl rfl) ?_
       refine sR (.bool (decide (v_59 ≠ (0 : Int)))) (r_pick rfl rfl (fun h => by cases h) (fun _ => rfl)) ?_
       refine HL_nil ?_
       refine HC_cond (t := (decide (v_59 ≠ (0 : Int)))) rfl (fun hc => ?_) (fun hc => ?_)
       ·
        replace h := h.1 (of_decide_eq_true hc)
        clear hc
        refine cR ?_
        refine sR (.bool false) (r_assign rfl rfl) ?_
        refine HL_nil ?_
        exact HC_ret (show endQ prog f14 R .ret _ _ from ⟨_, res1 rfl (rv_tmp rfl), h⟩)
       ·
        replace h := h.2 (of_decide_eq_false hc)
        clear hc
        refine HC_skip ?_
        refine cR ?_
        refine sR (Sl.v v_28) (r_move rfl rfl) ?_
        refine sR (.string s_0) (r_move rfl rfl) ?_
        refine sR (.string t_1) (r_move rfl rfl) ?_
        obtain ⟨hx66, h⟩ := h
        refine sR (.string (s_0 ++ t_1)) (r_addS rfl rfl rfl hx66) ?_
        refine s_ef (k_call (vs := [(Sl.v v_28), (.string (s_0 ++ t_1)), (.int .i64 (0 : Int))]) cb17 (evC rfl (evC rfl (evC rfl evN))) (h.mono ?_))
        clear h; rintro v F ⟨v_67, v_67_1, rfl, h⟩
        refine sR (.tuple #[(.int .i64 v_67), (.bool v_67_1)]) (r_move rfl rfl) ?_
        refine sR (.int .i64 v_67) (r_extract rfl rfl rfl) ?_
        refine sR (.bool v_67_1) (r_extract rfl rfl rfl) ?_
        refine sR (.int .i64 v_67) (r_assign rfl rfl) ?_
        refine sR (.bool v_67_1) (r_assign rfl rfl) ?_
        refine HL_nil ?_
        refine cR ?_
        refine sR (Sl.v v_28) (r_move rfl rfl) ?_
        refine s_ef (k_call (vs := [(Sl.v v_28)]) cb29 (evC rfl evN) (h.mono ?_))
        clear h; rintro v F ⟨v_72, v_72_1, rfl, h⟩
        refine sR (.tuple #[(.string v_72), (.int .i64 v_72_1)]) (r_move rfl rfl) ?_
        refine sR (.string v_72) (r_extract rfl rfl rfl) ?_
        refine sR (.int .i64 v_72_1) (r_extract rfl rfl rfl) ?_
        refine sR (.string v_72) (r_assign rfl rfl) ?_
        refine sR (.int .i64 v_72_1) (r_assign rfl rfl) ?_
        refine HL_nil ?_
        refine HC_seq ?_
        refine cR ?_
        refine sR (.string s_0) (r_move rfl rfl) ?_
        refine sR (.bool (s_0.toList == (ByteArray.mk #[]).toList)) (r_eqlS rfl rfl rfl) ?_
        refine HL_nil ?_
        refine HC_cond (t := (s_0.toList == (ByteArray.mk #[]).toList)) rfl (fun hc => ?_) (fun hc => ?_)
        ·
         replace h := h.1 hc
         clear hc
         refine cR ?_
         refine sR (.bool v_67_1) (r_move rfl rfl) ?_
         refine sR (.bool (!v_67_1)) (r_not rfl rfl) ?_
         refine sR (.bool (!v_67_1)) (r_move rfl rfl) ?_
         by_cases hc : (!v_67_1) = true
         ·
          replace h := h.1 hc
          refine kN 78 hc ?_
          refine kN 79 hc ?_
          refine sR (.int .i64 v_72_1) (r_move rfl rfl) ?_
          refine sR (.bool (decide (v_72_1 = (3 : Int)))) (w_eql rfl rfl) ?_
          refine sR (.bool (decide (v_72_1 = (3 : Int)))) (r_pick rfl rfl (fun _ => rfl) (fun h => by cases h)) ?_
          refine sR (.bool (decide (v_72_1 = (3 : Int)))) (r_move rfl rfl) ?_
          by_cases hc : v_72_1 = (3 : Int)
          ·
           replace h := h.1 hc
           refine kN 81 (decide_eq_true hc) ?_
           refine kN 82 (decide_eq_true hc) ?_
           refine kN 83 (decide_eq_true hc) ?_
           refine sR (Sl.v v_28) (r_move rfl rfl) ?_
           refine s_ef (k_call (vs := [(Sl.v v_28), (.string (ByteArray.mk #[]))]) cb23 (evC rfl (evC rfl evN)) (h.mono ?_))
           clear h; rintro v F ⟨v_85, rfl, h⟩
           refine sR (.bool v_85) (r_pick rfl rfl (fun _ => rfl) (fun h => by cases h)) ?_
           refine sR (.bool v_85) (r_move rfl rfl) ?_
           by_cases hc : v_85 = true
           ·
            replace h := h.1 hc
            refine kN 85 hc ?_
            refine kN 86 hc ?_
            refine kN 87 hc ?_
            refine sR (Sl.v v_28) (r_move rfl rfl) ?_
            refine sR (.string t_1) (r_move rfl rfl) ?_
            refine s_ef (k_call (vs := [(Sl.v v_28), (.string t_1)]) cb23 (evC rfl (evC rfl evN)) (h.mono ?_))
            clear h; rintro v F ⟨v_90, rfl, h⟩
            refine sR (.string t_1) (r_move rfl rfl) ?_
            refine sR (.bool (t_1.toList == (ByteArray.mk #[]).toList)) (r_eqlS rfl rfl rfl) ?_
            refine sR (.bool (v_90 == (t_1.toList == (ByteArray.mk #[]).toList))) (r_eqlB rfl rfl rfl underlying4) ?_
            refine sR (.bool (v_90 == (t_1.toList == (ByteArray.mk #[]).toList))) (r_pick rfl rfl (fun _ => rfl) (fun h => by cases h)) ?_
            refine sR (.bool (v_90 == (t_1.toList == (ByteArray.mk #[]).toList))) (r_move rfl rfl) ?_
            by_cases hc : (v_90 == (t_1.toList == (ByteArray.mk #[]).toList)) = true
            ·
             replace h := h.1 hc
             refine kN 93 hc ?_
             refine kN 94 hc ?_
             refine kN 95 hc ?_
             refine sR (.bool v_16) (r_move rfl rfl) ?_
             refine sR (.bool v_16) (r_pick rfl rfl (fun _ => rfl) (fun h => by cases h)) ?_
             refine sR (.bool v_16) (r_assign rfl rfl) ?_
             refine HL_nil ?_
             exact HC_ret (show endQ prog f14 R .ret _ _ from ⟨_, res1 rfl (rv_tmp rfl), h⟩)
            ·
             replace hc := eq_false_of_ne_true hc; replace h := h.2 hc
             refine kN 93 hc ?_
             refine kN 94 hc ?_
             refine kN 95 hc ?_
             refine s_skip ?_
             refine sR (.bool false) (r_pick rfl rfl (fun h => by cases h) (fun _ => rfl)) ?_
             refine sR (.bool false) (r_assign rfl rfl) ?_
             refine HL_nil ?_
             exact HC_ret (show endQ prog f14 R .ret _ _ from ⟨_, res1 rfl (rv_tmp rfl), h⟩)
           ·
            replace hc := eq_false_of_ne_true hc; replace h := h.2 hc
            refine kN 85 hc ?_
            refine kN 86 hc ?_
            refine kN 87 hc ?_
            refine s_skip ?_
            refine s_skip ?_
            refine s_skip ?_
            refine s_skip ?_
            refine s_skip ?_
            refine s_skip ?_
            refine sR (.bool false) (r_pick rfl rfl (fun h => by cases h) (fun _ => rfl)) ?_
            refine sR (.bool false) (r_move rfl rfl) ?_
            refine s_skip ?_
            refine sR (.bool false) (r_pick rfl rfl (fun h => by cases h) (fun _ => rfl)) ?_
            refine sR (.bool false) (r_assign rfl rfl) ?_
            refine HL_nil ?_
            exact HC_ret (show endQ prog f14 R .ret _ _ from ⟨_, res1 rfl (rv_tmp rfl), h⟩)
          ·
           replace h := h.2 hc
           refine kN 81 (decide_eq_false hc) ?_
           refine kN 82 (decide_eq_false hc) ?_
           refine kN 83 (decide_eq_false hc) ?_
           refine s_skip ?_
           refine s_skip ?_
           refine sR (.bool false) (r_pick rfl rfl (fun h => by cases h) (fun _ => rfl)) ?_
           refine sR (.bool false) (r_move rfl rfl) ?_
           refine s_skip ?_
           refine s_skip ?_
           refine s_skip ?_
           refine s_skip ?_
           refine s_skip ?_
           refine s_skip ?_
           refine sR (.bool false) (r_pick rfl rfl (fun h => by cases h) (fun _ => rfl)) ?_
           refine sR (.bool false) (r_move rfl rfl) ?_
           refine s_skip ?_
           refine sR (.bool false) (r_pick rfl rfl (fun h => by cases h) (fun _ => rfl)) ?_
           refine sR (.bool false) (r_assign rfl rfl) ?_
           refine HL_nil ?_
           exact HC_ret (show endQ prog f14 R .ret _ _ from ⟨_, res1 rfl (rv_tmp rfl), h⟩)
         ·
          replace hc := eq_false_of_ne_true hc; replace h := h.2 hc
          refine kN 78 hc ?_
          refine kN 79 hc ?_
          refine s_skip ?_
          refine s_skip ?_
          refine sR (.bool false) (r_pick rfl rfl (fun h => by cases h) (fun _ => rfl)) ?_
          refine sR (.bool false) (r_move rfl rfl) ?_
          refine s_skip ?_
          refine s_skip ?_
          refine sR (.bool false) (r_pick rfl rfl (fun h => by cases h) (fun _ => rfl)) ?_
          refine sR (.bool false) (r_move rfl rfl) ?_
          refine s_skip ?_
          refine s_skip ?_
          refine s_skip ?_
          refine s_skip ?_
          refine s_skip ?_
          refine s_skip ?_
          refine sR (.bool false) (r_pick rfl rfl (fun h => by cases h) (fun _ => rfl)) ?_
          refine sR (.bool false) (r_move rfl rfl) ?_
          refine s_skip ?_
          refine sR (.bool false) (r_pick rfl rfl (fun h => by cases h) (fun _ => rfl)) ?_
          refine sR (.bool false) (r_assign rfl rfl) ?_
          refine HL_nil ?_
          exact HC_ret (show endQ prog f14 R .ret _ _ from ⟨_, res1 rfl (rv_tmp rfl), h⟩)
        ·
         replace h := h.2 hc
         clear hc
         refine HC_skip ?_
         refine cR ?_
         refine sR (.bool v_67_1) (r_move rfl rfl) ?_
         refine sR (.bool v_67_1) (r_move rfl rfl) ?_
         by_cases hc : v_67_1 = true
         ·
          replace h := h.1 hc
          refine kN 69 hc ?_
          refine kN 13 hc ?_
          refine kN 98 hc ?_
          refine kN 99 hc ?_
          refine sR (.int .i64 v_67) (r_move rfl rfl) ?_
          refine sR (.string s_0) (r_move rfl rfl) ?_
          refine sR (.int .i64 (s_0.size : Int)) (r_lenStr rfl rfl underlying9) ?_
          refine sR (.bool (decide (v_67 = (s_0.size : Int)))) (w_eql rfl rfl) ?_
          refine sR (.bool (decide (v_67 = (s_0.size : Int)))) (r_pick rfl rfl (fun _ => rfl) (fun h => by cases h)) ?_
          refine sR (.bool (decide (v_67 = (s_0.size : Int)))) (r_move rfl rfl) ?_
          by_cases hc : v_67 = (s_0.size : Int)
          ·
           replace h := h.1 hc
           refine kN 103 (decide_eq_true hc) ?_
           refine kN 104 (decide_eq_true hc) ?_
           refine kN 105 (decide_eq_true hc) ?_
           refine sR (.int .i64 v_72_1) (r_move rfl rfl) ?_
           refine sR (.bool (decide (v_72_1 = (0 : Int)))) (w_eql rfl rfl) ?_
           refine sR (.bool (decide (v_72_1 = (0 : Int)))) (r_pick rfl rfl (fun _ => rfl) (fun h => by cases h)) ?_
           refine sR (.bool (decide (v_72_1 = (0 : Int)))) (r_move rfl rfl) ?_
           by_cases hc : v_72_1 = (0 : Int)
           ·
            replace h := h.1 hc
            refine kN 107 (decide_eq_true hc) ?_
            refine kN 108 (decide_eq_true hc) ?_
            refine kN 109 (decide_eq_true hc) ?_
            refine sR (.string v_72) (r_move rfl rfl) ?_
            refine sR (.string s_0) (r_move rfl rfl) ?_
            refine sR (.bool (v_72.toList == s_0.toList)) (r_eqlS rfl rfl rfl) ?_
            refine sR (.bool (v_72.toList == s_0.toList)) (r_pick rfl rfl (fun _ => rfl) (fun h => by cases h)) ?_
            refine sR (.bool (v_72.toList == s_0.toList)) (r_move rfl rfl) ?_
            by_cases hc : (v_72.toList == s_0.toList) = true
            ·
             replace h := h.1 hc
             refine kN 112 hc ?_
             refine kN 113 hc ?_
             refine kN 114 hc ?_
             refine sR (Sl.v v_28) (r_move rfl rfl) ?_
             refine sR (.string s_0) (r_move rfl rfl) ?_
             refine s_ef (k_call (vs := [(Sl.v v_28), (.string s_0)]) cb23 (evC rfl (evC rfl evN)) (h.mono ?_))
             clear h; rintro v F ⟨v_117, rfl, h⟩
             refine sR (.bool v_117) (r_pick rfl rfl (fun _ => rfl) (fun h => by cases h)) ?_
             refine sR (.bool v_117) (r_move rfl rfl) ?_
             by_cases hc : v_117 = true
             ·
              replace h := h.1 hc
              refine kN 117 hc ?_
              refine kN 118 hc ?_
              refine kN 119 hc ?_
              refine sR (Sl.v v_28) (r_move rfl rfl) ?_
              refine sR (.string t_1) (r_move rfl rfl) ?_
              refine s_ef (k_call (vs := [(Sl.v v_28), (.string t_1)]) cb23 (evC rfl (evC rfl evN)) (h.mono ?_))
              clear h; rintro v F ⟨v_122, rfl, h⟩
              refine sR (.string s_0) (r_move rfl rfl) ?_
              refine sR (.string t_1) (r_move rfl rfl) ?_
              refine sR (.bool (s_0.toList == t_1.toList)) (r_eqlS rfl rfl rfl) ?_
              refine sR (.bool (v_122 == (s_0.toList == t_1.toList))) (r_eqlB rfl rfl rfl underlying4) ?_
              refine sR (.bool (v_122 == (s_0.toList == t_1.toList))) (r_pick rfl rfl (fun _ => rfl) (fun h => by cases h)) ?_
              refine sR (.bool (v_122 == (s_0.toList == t_1.toList))) (r_move rfl rfl) ?_
              by_cases hc : (v_122 == (s_0.toList == t_1.toList)) = true
              ·
               replace h := h.1 hc
               refine kN 126 hc ?_
               refine kN 127 hc ?_
               refine kN 128 hc ?_
               refine sR (.bool v_16) (r_move rfl rfl) ?_
               refine sR (.bool v_16) (r_pick rfl rfl (fun _ => rfl) (fun h => by cases h)) ?_
               refine sR (.bool v_16) (r_assign rfl rfl) ?_
               refine HL_nil ?_
               exact HC_ret (show endQ prog f14 R .ret _ _ from ⟨_, res1 rfl (rv_tmp rfl), h⟩)
              ·
               replace hc := eq_false_of_ne_true hc; replace h := h.2 hc
               refine kN 126 hc ?_
               refine kN 127 hc ?_
               refine kN 128 hc ?_
               refine s_skip ?_
               refine sR (.bool false) (r_pick rfl rfl (fun h => by cases h) (fun _ => rfl)) ?_
               refine sR (.bool false) (r_assign rfl rfl) ?_
               refine HL_nil ?_
               exact HC_ret (show endQ prog f14 R .ret _ _ from ⟨_, res1 rfl (rv_tmp rfl), h⟩)
             ·
              replace hc := eq_false_of_ne_true hc; replace h := h.2 hc
              refine kN 117 hc ?_
              refine kN 118 hc ?_
              refine kN 119 hc ?_
              refine s_skip ?_
              refine s_skip ?_
              refine s_skip ?_
              refine s_skip ?_
              refine s_skip ?_
              refine s_skip ?_
              refine s_skip ?_
              refine sR (.bool false) (r_pick rfl rfl (fun h => by cases h) (fun _ => rfl)) ?_
              refine sR (.bool false) (r_move rfl rfl) ?_
              refine s_skip ?_
              refine sR (.bool false) (r_pick rfl rfl (fun h => by cases h) (fun _ => rfl)) ?_
              refine sR (.bool false) (r_assign rfl rfl) ?_
              refine HL_nil ?_
              exact HC_ret (show endQ prog f14 R .ret _ _ from ⟨_, res1 rfl (rv_tmp rfl), h⟩)
            ·
             replace hc := eq_false_of_ne_true hc; replace h := h.2 hc
             refine kN 112 hc ?_
             refine kN 113 hc ?_
             refine kN 114 hc ?_
             refine s_skip ?_
             refine s_skip ?_
             refine s_skip ?_
             refine sR (.bool false) (r_pick rfl rfl (fun h => by cases h) (fun _ => rfl)) ?_
             refine sR (.bool false) (r_move rfl rfl) ?_
             refine s_skip ?_
             refine s_skip ?_
             refine s_skip ?_
             refine s_skip ?_
             refine s_skip ?_
             refine s_skip ?_
             refine s_skip ?_
             refine sR (.bool false) (r_pick rfl rfl (fun h => by cases h) (fun _ => rfl)) ?_
             refine sR (.bool false) (r_move rfl rfl) ?_
             refine s_skip ?_
             refine sR (.bool false) (r_pick rfl rfl (fun h => by cases h) (fun _ => rfl)) ?_
             refine sR (.bool false) (r_assign rfl rfl) ?_
             refine HL_nil ?_
             exact HC_ret (show endQ prog f14 R .ret _ _ from ⟨_, res1 rfl (rv_tmp rfl), h⟩)
           ·
            replace h := h.2 hc
            refine kN 107 (decide_eq_false hc) ?_
            refine kN 108 (decide_eq_false hc) ?_
            refine kN 109 (decide_eq_false hc) ?_
            refine s_skip ?_
            refine s_skip ?_
            refine s_skip ?_
            refine sR (.bool false) (r_pick rfl rfl (fun h => by cases h) (fun _ => rfl)) ?_
            refine sR (.bool false) (r_move rfl rfl) ?_
            refine s_skip ?_
            refine s_skip ?_
            refine s_skip ?_
            refine sR (.bool false) (r_pick rfl rfl (fun h => by cases h) (fun _ => rfl)) ?_
            refine sR (.bool false) (r_move rfl rfl) ?_
            refine s_skip ?_
            refine s_skip ?_
            refine s_skip ?_
            refine s_skip ?_
            refine s_skip ?_
            refine s_skip ?_
            refine s_skip ?_
            refine sR (.bool false) (r_pick rfl rfl (fun h => by cases h) (fun _ => rfl)) ?_
            refine sR (.bool false) (r_move rfl rfl) ?_
            refine s_skip ?_
            refine sR (.bool false) (r_pick rfl rfl (fun h => by cases h) (fun _ => rfl)) ?_
            refine sR (.bool false) (r_assign rfl rfl) ?_
            refine HL_nil ?_
            exact HC_ret (show endQ prog f14 R .ret _ _ from ⟨_, res1 rfl (rv_tmp rfl), h⟩)
          ·
           replace h := h.2 hc
           refine kN 103 (decide_eq_false hc) ?_
           refine kN 104 (decide_eq_false hc) ?_
           refine kN 105 (decide_eq_false hc) ?_
           refine s_skip ?_
           refine s_skip ?_
           refine sR (.bool false) (r_pick rfl rfl (fun h => by cases h) (fun _ => rfl)) ?_
           refine sR (.bool false) (r_move rfl rfl) ?_
           refine s_skip ?_
           refine s_skip ?_
           refine s_skip ?_
           refine sR (.bool false) (r_pick rfl rfl (fun h => by cases h) (fun _ => rfl)) ?_
           refine sR (.bool false) (r_move rfl rfl) ?_
           refine s_skip ?_
           refine s_skip ?_
           refine s_skip ?_
           refine sR (.bool false) (r_pick rfl rfl (fun h => by cases h) (fun _ => rfl)) ?_
           refine sR (.bool false) (r_move rfl rfl) ?_
           refine s_skip ?_
           refine s_skip ?_
           refine s_skip ?_
           refine s_skip ?_
           refine s_skip ?_
           refine s_skip ?_
           refine s_skip ?_
           refine sR (.bool false) (r_pick rfl rfl (fun h => by cases h) (fun _ => rfl)) ?_
           refine sR (.bool false) (r_move rfl rfl) ?_
           refine s_skip ?_
           refine sR (.bool false) (r_pick rfl rfl (fun h => by cases h) (fun _ => rfl)) ?_
           refine sR (.bool false) (r_assign rfl rfl) ?_
           refine HL_nil ?_
           exact HC_ret (show endQ prog f14 R .ret _ _ from ⟨_, res1 rfl (rv_tmp rfl), h⟩)
         ·
          replace hc := eq_false_of_ne_true hc; replace h := h.2 hc
          refine kN 69 hc ?_
          refine kN 13 hc ?_
          refine kN 98 hc ?_
          refine kN 99 hc ?_
          refine s_skip ?_
          refine s_skip ?_
          refine s_skip ?_
          refine s_skip ?_
          refine sR (.bool false) (r_pick rfl rfl (fun h => by cases h) (fun _ => rfl)) ?_
          refine sR (.bool false) (r_move rfl rfl) ?_
          refine s_skip ?_
          refine s_skip ?_
          refine sR (.bool false) (r_pick rfl rfl (fun h => by cases h) (fun _ => rfl)) ?_
          refine sR (.bool false) (r_move rfl rfl) ?_
          refine s_skip ?_
          refine s_skip ?_
          refine s_skip ?_
          refine sR (.bool false) (r_pick rfl rfl (fun h => by cases h) (fun _ => rfl)) ?_
          refine sR (.bool false) (r_move rfl rfl) ?_
          refine s_skip ?_
          refine s_skip ?_
          refine s_skip ?_
          refine sR (.bool false) (r_pick rfl rfl (fun h => by cases h) (fun _ => rfl)) ?_
          refine sR (.bool false) (r_move rfl rfl) ?_
          refine s_skip ?_
          refine s_skip ?_
          refine s_skip ?_
          refine s_skip ?_
          refine s_skip ?_
          refine s_skip ?_
          refine s_skip ?_
          refine sR (.bool false) (r_pick rfl rfl (fun h => by cases h) (fun _ => rfl)) ?_
          refine sR (.bool false) (r_move rfl rfl) ?_
          refine s_skip ?_
          refine sR (.bool false) (r_pick rfl rfl (fun h => by cases h) (fun _ => rfl)) ?_
          refine sR (.bool false) (r_assign rfl rfl) ?_
          refine HL_nil ?_
          exact HC_ret (show endQ prog f14 R .ret _ _ from ⟨_, res1 rfl (rv_tmp rfl), h⟩)

end Go.Proofs.YtnjcgpihfmklfaaDoor
