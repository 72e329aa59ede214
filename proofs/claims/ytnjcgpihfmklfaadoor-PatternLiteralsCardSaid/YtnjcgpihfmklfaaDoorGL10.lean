/-
  What functions of the program do, in a clean form, each with the proof that its code does so. Printed by a program.
-/
import Derived.Test.YtnjcgpihfmklfaaDoorGf
import Derived.Test.YtnjcgpihfmklfaaDoorPhp
namespace Go.Proofs.YtnjcgpihfmklfaaDoor
open Go Go.Proofs.Tryd
set_option maxRecDepth 10000
set_option maxHeartbeats 4000000
/- 10 koine.koinelaw04.PatternCommon -/
def b10j1 (v_19 : Bool) (v_21 : Sl) (v_23 : Sl) (v_27 : ByteArray) (v_44_1 : Int) (v_49_1 : Int) (long_18 : Bool) (R : Value → PH → Prop) (F : PH) : Prop :=
 ((v_44_1 = (0 : Int) →
  ((v_49_1 = (0 : Int) →
   (((!(v_27.toList == (ByteArray.mk #[]).toList)) = true →
    Spec prog 23 #[(Sl.v v_21), (.string v_27)] F fun v F => ∃ v_130 : Bool, v = (.bool v_130) ∧
    ((v_130 = true →
     Spec prog 23 #[(Sl.v v_23), (.string v_27)] F fun v F => ∃ v_135 : Bool, v = (.bool v_135) ∧
     ((v_135 = true →
      ((long_18 = true →
       R (.bool v_19) F) ∧
      (long_18 = false →
       R (.bool false) F))) ∧
     (v_135 = false →
      R (.bool false) F))) ∧
    (v_130 = false →
     R (.bool false) F))) ∧
   ((!(v_27.toList == (ByteArray.mk #[]).toList)) = false →
    R (.bool false) F))) ∧
  (¬ (v_49_1 = (0 : Int)) →
   R (.bool false) F))) ∧
 (¬ (v_44_1 = (0 : Int)) →
  R (.bool false) F))
abbrev b10J1 (v_19 : Bool) (v_21 : Sl) (v_23 : Sl) (v_27 : ByteArray) (v_44_1 : Int) (v_49_1 : Int) (R : Value → PH → Prop) (E : En) (F : PH) : Prop := ∃ long_18 : Bool, E 5 = (.bool v_19) ∧ E 6 = (Sl.v v_21) ∧ E 7 = (Sl.v v_23) ∧ E 8 = (.string v_27) ∧ E 15 = (.int .i64 v_44_1) ∧ E 17 = (.int .i64 v_49_1) ∧ E 18 = (.bool long_18) ∧ b10j1 v_19 v_21 v_23 v_27 v_44_1 v_49_1 long_18 R F
def b10 (l_0 : Sl) (vm_1 : Sl) (R : Value → PH → Prop) (F : PH) : Prop :=
 Spec prog 15 #[] F fun v F => ∃ v_19 : Bool, v = (.bool v_19) ∧
 Spec prog 16 #[(Sl.v l_0), (.int .i64 (20 : Int))] F fun v F => ∃ v_21 : Sl, v = (Sl.v v_21) ∧
 Spec prog 16 #[(Sl.v vm_1), (.int .i64 (20 : Int))] F fun v F => ∃ v_23 : Sl, v = (Sl.v v_23) ∧
 Spec prog 31 #[(Sl.v v_21), (Sl.v v_23)] F fun v F => ∃ v_27 : ByteArray, ∃ v_27_1 : Int, v = (.tuple #[(.string v_27), (.int .i64 v_27_1)]) ∧
 Spec prog 31 #[(Sl.v v_23), (Sl.v v_21)] F fun v F => ∃ v_33 : ByteArray, ∃ v_33_1 : Int, v = (.tuple #[(.string v_33), (.int .i64 v_33_1)]) ∧
 Spec prog 31 #[(Sl.v v_21), (Sl.v v_21)] F fun v F => ∃ v_39 : ByteArray, ∃ v_39_1 : Int, v = (.tuple #[(.string v_39), (.int .i64 v_39_1)]) ∧
 Spec prog 29 #[(Sl.v v_21)] F fun v F => ∃ v_44 : ByteArray, ∃ v_44_1 : Int, v = (.tuple #[(.string v_44), (.int .i64 v_44_1)]) ∧
 Spec prog 29 #[(Sl.v v_23)] F fun v F => ∃ v_49 : ByteArray, ∃ v_49_1 : Int, v = (.tuple #[(.string v_49), (.int .i64 v_49_1)]) ∧
 (((!(v_27.toList == v_33.toList)) = true →
  R (.bool false) F) ∧
 ((!(v_27.toList == v_33.toList)) = false →
  ((v_27_1 ≠ v_33_1 →
   R (.bool false) F) ∧
  (¬ (v_27_1 ≠ v_33_1) →
   (((!(v_39.toList == v_44.toList)) = true →
    R (.bool false) F) ∧
   ((!(v_39.toList == v_44.toList)) = false →
    ((v_39_1 ≠ v_44_1 →
     R (.bool false) F) ∧
    (¬ (v_39_1 ≠ v_44_1) →
     ((v_27_1 ≠ (0 : Int) →
      ((v_27_1 = (3 : Int) →
       (((v_27.toList == (ByteArray.mk #[]).toList) = true →
        R (.bool v_19) F) ∧
       ((v_27.toList == (ByteArray.mk #[]).toList) = false →
        R (.bool false) F))) ∧
      (¬ (v_27_1 = (3 : Int)) →
       R (.bool false) F))) ∧
     (¬ (v_27_1 ≠ (0 : Int)) →
      (((v_44.size : Int) ≤ (v_27.size : Int) →
       (((v_49.size : Int) ≤ (v_27.size : Int) →
        (((v_44.size : Int) < (v_27.size : Int) →
         (((v_49.size : Int) < (v_27.size : Int) →
          b10j1 v_19 v_21 v_23 v_27 v_44_1 v_49_1 true R F) ∧
         (¬ ((v_49.size : Int) < (v_27.size : Int)) →
          b10j1 v_19 v_21 v_23 v_27 v_44_1 v_49_1 (!(Op.bytesLess v_27.toList v_49.toList)) R F))) ∧
        (¬ ((v_44.size : Int) < (v_27.size : Int)) →
         (((!(Op.bytesLess v_27.toList v_44.toList)) = true →
          (((v_49.size : Int) < (v_27.size : Int) →
           b10j1 v_19 v_21 v_23 v_27 v_44_1 v_49_1 true R F) ∧
          (¬ ((v_49.size : Int) < (v_27.size : Int)) →
           b10j1 v_19 v_21 v_23 v_27 v_44_1 v_49_1 (!(Op.bytesLess v_27.toList v_49.toList)) R F))) ∧
         ((!(Op.bytesLess v_27.toList v_44.toList)) = false →
          b10j1 v_19 v_21 v_23 v_27 v_44_1 v_49_1 false R F))))) ∧
       (¬ ((v_49.size : Int) ≤ (v_27.size : Int)) →
        b10j1 v_19 v_21 v_23 v_27 v_44_1 v_49_1 false R F))) ∧
      (¬ ((v_44.size : Int) ≤ (v_27.size : Int)) →
       b10j1 v_19 v_21 v_23 v_27 v_44_1 v_49_1 false R F))))))))))))
theorem c10 {l_0 : Sl} {vm_1 : Sl} {R : Value → PH → Prop} {F : PH} (h : b10 l_0 vm_1 R F) : Spec prog 10 #[(Sl.v l_0), (Sl.v vm_1)] F R := by
 refine spec_of (args := [(Sl.v l_0), (Sl.v vm_1)]) func10 rfl ntmps10 rfl ?_
 unfold b10 at h
 refine cR ?_
 refine sR (.bool false) (r_assign rfl rfl) ?_
 refine HL_nil ?_
 refine cR ?_
 refine s_ef (k_call (vs := []) cb15 evN (h.mono ?_))
 clear h; rintro v F ⟨v_19, rfl, h⟩
 refine sR (.bool v_19) (r_assign rfl rfl) ?_
 refine HL_nil ?_
 refine cR ?_
 refine sR (Sl.v l_0) (r_move rfl rfl) ?_
 refine s_ef (k_call (vs := [(Sl.v l_0), (.int .i64 (20 : Int))]) cb16 (evC rfl (evC rfl evN)) (h.mono ?_))
 clear h; rintro v F ⟨v_21, rfl, h⟩
 refine sR (Sl.v v_21) (r_assign rfl rfl) ?_
 refine HL_nil ?_
 refine cR ?_
 refine sR (Sl.v vm_1) (r_move rfl rfl) ?_
 refine s_ef (k_call (vs := [(Sl.v vm_1), (.int .i64 (20 : Int))]) cb16 (evC rfl (evC rfl evN)) (h.mono ?_))
 clear h; rintro v F ⟨v_23, rfl, h⟩
 refine sR (Sl.v v_23) (r_assign rfl rfl) ?_
 refine HL_nil ?_
 refine cR ?_
 refine sR (Sl.v v_21) (r_move rfl rfl) ?_
 refine sR (Sl.v v_23) (r_move rfl rfl) ?_
 refine s_ef (k_call (vs := [(Sl.v v_21), (Sl.v v_23)]) cb31 (evC rfl (evC rfl evN)) (h.mono ?_))
 clear h; rintro v F ⟨v_27, v_27_1, rfl, h⟩
 refine sR (.tuple #[(.string v_27), (.int .i64 v_27_1)]) (r_move rfl rfl) ?_
 refine sR (.string v_27) (r_extract rfl rfl rfl) ?_
 refine sR (.int .i64 v_27_1) (r_extract rfl rfl rfl) ?_
 refine sR (.string v_27) (r_assign rfl rfl) ?_
 refine sR (.int .i64 v_27_1) (r_assign rfl rfl) ?_
 refine HL_nil ?_
 refine cR ?_
 refine sR (Sl.v v_23) (r_move rfl rfl) ?_
 refine sR (Sl.v v_21) (r_move rfl rfl) ?_
 refine s_ef (k_call (vs := [(Sl.v v_23), (Sl.v v_21)]) cb31 (evC rfl (evC rfl evN)) (h.mono ?_))
 clear h; rintro v F ⟨v_33, v_33_1, rfl, h⟩
 refine sR (.tuple #[(.string v_33), (.int .i64 v_33_1)]) (r_move rfl rfl) ?_
 refine sR (.string v_33) (r_extract rfl rfl rfl) ?_
 refine sR (.int .i64 v_33_1) (r_extract rfl rfl rfl) ?_
 refine sR (.string v_33) (r_assign rfl rfl) ?_
 refine sR (.int .i64 v_33_1) (r_assign rfl rfl) ?_
 refine HL_nil ?_
 refine cR ?_
 refine sR (Sl.v v_21) (r_move rfl rfl) ?_
 refine sR (Sl.v v_21) (r_move rfl rfl) ?_
 refine s_ef (k_call (vs := [(Sl.v v_21), (Sl.v v_21)]) cb31 (evC rfl (evC rfl evN)) (h.mono ?_))
 clear h; rintro v F ⟨v_39, v_39_1, rfl, h⟩
 refine sR (.tuple #[(.string v_39), (.int .i64 v_39_1)]) (r_move rfl rfl) ?_
 refine sR (.string v_39) (r_extract rfl rfl rfl) ?_
 refine sR (.int .i64 v_39_1) (r_extract rfl rfl rfl) ?_
 refine sR (.string v_39) (r_assign rfl rfl) ?_
 refine sR (.int .i64 v_39_1) (r_assign rfl rfl) ?_
 refine HL_nil ?_
 refine cR ?_
 refine sR (Sl.v v_21) (r_move rfl rfl) ?_
 refine s_ef (k_call (vs := [(Sl.v v_21)]) cb29 (evC rfl evN) (h.mono ?_))
 clear h; rintro v F ⟨v_44, v_44_1, rfl, h⟩
 refine sR (.tuple #[(.string v_44), (.int .i64 v_44_1)]) (r_move rfl rfl) ?_
 refine sR (.string v_44) (r_extract rfl rfl rfl) ?_
 refine sR (.int .i64 v_44_1) (r_extract rfl rfl rfl) ?_
 refine sR (.string v_44) (r_assign rfl rfl) ?_
 refine sR (.int .i64 v_44_1) (r_assign rfl rfl) ?_
 refine HL_nil ?_
 refine cR ?_
 refine sR (Sl.v v_23) (r_move rfl rfl) ?_
 refine s_ef (k_call (vs := [(Sl.v v_23)]) cb29 (evC rfl evN) (h.mono ?_))
 clear h; rintro v F ⟨v_49, v_49_1, rfl, h⟩
 refine sR (.tuple #[(.string v_49), (.int .i64 v_49_1)]) (r_move rfl rfl) ?_
 refine sR (.string v_49) (r_extract rfl rfl rfl) ?_
 refine sR (.int .i64 v_49_1) (r_extract rfl rfl rfl) ?_
 refine sR (.string v_49) (r_assign rfl rfl) ?_
 refine sR (.int .i64 v_49_1) (r_assign rfl rfl) ?_
 refine HL_nil ?_
 refine HC_seq ?_
 refine cR ?_
 refine sR (.string v_27) (r_move rfl rfl) ?_
 refine sR (.string v_33) (r_move rfl rfl) ?_
 refine sR (.bool (!(v_27.toList == v_33.toList))) (r_neqS rfl rfl rfl) ?_
 refine sR (.bool (!(v_27.toList == v_33.toList))) (r_move rfl rfl) ?_
 by_cases hc : (!(v_27.toList == v_33.toList)) = true
 ·
  replace h := h.1 hc
  refine kN 54 hc ?_
  refine kN 55 hc ?_
  refine s_skip ?_
  refine s_skip ?_
  refine s_skip ?_
  refine sR (.bool true) (r_pick rfl rfl (fun _ => rfl) (fun h => by cases h)) ?_
  refine sR (.bool true) (r_move rfl rfl) ?_
  refine s_skip ?_
  refine s_skip ?_
  refine s_skip ?_
  refine sR (.bool true) (r_pick rfl rfl (fun _ => rfl) (fun h => by cases h)) ?_
  refine sR (.bool true) (r_move rfl rfl) ?_
  refine s_skip ?_
  refine s_skip ?_
  refine s_skip ?_
  refine sR (.bool true) (r_pick rfl rfl (fun _ => rfl) (fun h => by cases h)) ?_
  refine HL_nil ?_
  refine HC_condT rfl ?_
  refine cR ?_
  refine sR (.bool false) (r_assign rfl rfl) ?_
  refine HL_nil ?_
  exact HC_ret (show endQ prog f10 R .ret _ _ from ⟨_, res1 rfl (rv_tmp rfl), h⟩)
 ·
  replace hc := eq_false_of_ne_true hc; replace h := h.2 hc
  refine kN 54 hc ?_
  refine kN 55 hc ?_
  refine sR (.int .i64 v_27_1) (r_move rfl rfl) ?_
  refine sR (.int .i64 v_33_1) (r_move rfl rfl) ?_
  refine sR (.bool (decide (v_27_1 ≠ v_33_1))) (w_neq rfl rfl) ?_
  refine sR (.bool (decide (v_27_1 ≠ v_33_1))) (r_pick rfl rfl (fun h => by cases h) (fun _ => rfl)) ?_
  refine sR (.bool (decide (v_27_1 ≠ v_33_1))) (r_move rfl rfl) ?_
  by_cases hc : v_27_1 ≠ v_33_1
  ·
   replace h := h.1 hc
   refine kN 58 (decide_eq_true hc) ?_
   refine kN 59 (decide_eq_true hc) ?_
   refine kN 60 (decide_eq_true hc) ?_
   refine s_skip ?_
   refine s_skip ?_
   refine s_skip ?_
   refine sR (.bool true) (r_pick rfl rfl (fun _ => rfl) (fun h => by cases h)) ?_
   refine sR (.bool true) (r_move rfl rfl) ?_
   refine s_skip ?_
   refine s_skip ?_
   refine s_skip ?_
   refine sR (.bool true) (r_pick rfl rfl (fun _ => rfl) (fun h => by cases h)) ?_
   refine HL_nil ?_
   refine HC_condT rfl ?_
   refine cR ?_
   refine sR (.bool false) (r_assign rfl rfl) ?_
   refine HL_nil ?_
   exact HC_ret (show endQ prog f10 R .ret _ _ from ⟨_, res1 rfl (rv_tmp rfl), h⟩)
  ·
   replace h := h.2 hc
   refine kN 58 (decide_eq_false hc) ?_
   refine kN 59 (decide_eq_false hc) ?_
   refine kN 60 (decide_eq_false hc) ?_
   refine sR (.string v_39) (r_move rfl rfl) ?_
   refine sR (.string v_44) (r_move rfl rfl) ?_
   refine sR (.bool (!(v_39.toList == v_44.toList))) (r_neqS rfl rfl rfl) ?_
   refine sR (.bool (!(v_39.toList == v_44.toList))) (r_pick rfl rfl (fun h => by cases h) (fun _ => rfl)) ?_
   refine sR (.bool (!(v_39.toList == v_44.toList))) (r_move rfl rfl) ?_
   by_cases hc : (!(v_39.toList == v_44.toList)) = true
   ·
    replace h := h.1 hc
    refine kN 63 hc ?_
    refine kN 64 hc ?_
    refine kN 65 hc ?_
    refine s_skip ?_
    refine s_skip ?_
    refine s_skip ?_
    refine sR (.bool true) (r_pick rfl rfl (fun _ => rfl) (fun h => by cases h)) ?_
    refine HL_nil ?_
    refine HC_condT rfl ?_
    refine cR ?_
    refine sR (.bool false) (r_assign rfl rfl) ?_
    refine HL_nil ?_
    exact HC_ret (show endQ prog f10 R .ret _ _ from ⟨_, res1 rfl (rv_tmp rfl), h⟩)
   ·
    replace hc := eq_false_of_ne_true hc; replace h := h.2 hc
    refine kN 63 hc ?_
    refine kN 64 hc ?_
    refine kN 65 hc ?_
    refine sR (.int .i64 v_39_1) (r_move rfl rfl) ?_
    refine sR (.int .i64 v_44_1) (r_move rfl rfl) ?_
    refine sR (.bool (decide (v_39_1 ≠ v_44_1))) (w_neq rfl rfl) ?_
    refine sR (.bool (decide (v_39_1 ≠ v_44_1))) (r_pick rfl rfl (fun h => by cases h) (fun _ => rfl)) ?_
    refine HL_nil ?_
    refine HC_cond (t := (decide (v_39_1 ≠ v_44_1))) rfl (fun hc => ?_) (fun hc => ?_)
    ·
     replace h := h.1 (of_decide_eq_true hc)
     clear hc
     refine cR ?_
     refine sR (.bool false) (r_assign rfl rfl) ?_
     refine HL_nil ?_
     exact HC_ret (show endQ prog f10 R .ret _ _ from ⟨_, res1 rfl (rv_tmp rfl), h⟩)
    ·
     replace h := h.2 (of_decide_eq_false hc)
     clear hc
     refine HC_skip ?_
     refine HC_seq ?_
     refine cR ?_
     refine sR (.int .i64 v_27_1) (r_move rfl rfl) ?_
     refine sR (.bool (decide (v_27_1 ≠ (0 : Int)))) (w_neq rfl rfl) ?_
     refine HL_nil ?_
     refine HC_cond (t := (decide (v_27_1 ≠ (0 : Int)))) rfl (fun hc => ?_) (fun hc => ?_)
     ·
      replace h := h.1 (of_decide_eq_true hc)
      clear hc
      refine cR ?_
      refine sR (.int .i64 v_27_1) (r_move rfl rfl) ?_
      refine sR (.bool (decide (v_27_1 = (3 : Int)))) (w_eql rfl rfl) ?_
      refine sR (.bool (decide (v_27_1 = (3 : Int)))) (r_move rfl rfl) ?_
      by_cases hc : v_27_1 = (3 : Int)
      ·
       replace h := h.1 hc
       refine kN 73 (decide_eq_true hc) ?_
       refine kN 74 (decide_eq_true hc) ?_
       refine sR (.string v_27) (r_move rfl rfl) ?_
       refine sR (.bool (v_27.toList == (ByteArray.mk #[]).toList)) (r_eqlS rfl rfl rfl) ?_
       refine sR (.bool (v_27.toList == (ByteArray.mk #[]).toList)) (r_pick rfl rfl (fun _ => rfl) (fun h => by cases h)) ?_
       refine sR (.bool (v_27.toList == (ByteArray.mk #[]).toList)) (r_move rfl rfl) ?_
       by_cases hc : (v_27.toList == (ByteArray.mk #[]).toList) = true
       ·
        replace h := h.1 hc
        refine kN 76 hc ?_
        refine kN 77 hc ?_
        refine kN 78 hc ?_
        refine sR (.bool v_19) (r_move rfl rfl) ?_
        refine sR (.bool v_19) (r_pick rfl rfl (fun _ => rfl) (fun h => by cases h)) ?_
        refine sR (.bool v_19) (r_assign rfl rfl) ?_
        refine HL_nil ?_
        exact HC_ret (show endQ prog f10 R .ret _ _ from ⟨_, res1 rfl (rv_tmp rfl), h⟩)
       ·
        replace hc := eq_false_of_ne_true hc; replace h := h.2 hc
        refine kN 76 hc ?_
        refine kN 77 hc ?_
        refine kN 78 hc ?_
        refine s_skip ?_
        refine sR (.bool false) (r_pick rfl rfl (fun h => by cases h) (fun _ => rfl)) ?_
        refine sR (.bool false) (r_assign rfl rfl) ?_
        refine HL_nil ?_
        exact HC_ret (show endQ prog f10 R .ret _ _ from ⟨_, res1 rfl (rv_tmp rfl), h⟩)
      ·
       replace h := h.2 hc
       refine kN 73 (decide_eq_false hc) ?_
       refine kN 74 (decide_eq_false hc) ?_
       refine s_skip ?_
       refine s_skip ?_
       refine sR (.bool false) (r_pick rfl rfl (fun h => by cases h) (fun _ => rfl)) ?_
       refine sR (.bool false) (r_move rfl rfl) ?_
       refine s_skip ?_
       refine sR (.bool false) (r_pick rfl rfl (fun h => by cases h) (fun _ => rfl)) ?_
       refine sR (.bool false) (r_assign rfl rfl) ?_
       refine HL_nil ?_
       exact HC_ret (show endQ prog f10 R .ret _ _ from ⟨_, res1 rfl (rv_tmp rfl), h⟩)
     ·
      replace h := h.2 (of_decide_eq_false hc)
      clear hc
      refine HC_skip ?_
      refine HC_seqJ (b10J1 v_19 v_21 v_23 v_27 v_44_1 v_49_1 R) ?_ ?_
      ·
       clear h; rintro E F ⟨long_18, h5, h6, h7, h8, h15, h17, h18, h⟩
       unfold b10j1 at h
       refine cR ?_
       refine sR (.int .i64 v_44_1) (r_move rfl h15) ?_
       refine sR (.bool (decide (v_44_1 = (0 : Int)))) (w_eql rfl rfl) ?_
       refine sR (.bool (decide (v_44_1 = (0 : Int)))) (r_move rfl rfl) ?_
       by_cases hc : v_44_1 = (0 : Int)
       ·
        replace h := h.1 hc
        refine kN 118 (decide_eq_true hc) ?_
        refine kN 119 (decide_eq_true hc) ?_
        refine sR (.int .i64 v_49_1) (r_move rfl h17) ?_
        refine sR (.bool (decide (v_49_1 = (0 : Int)))) (w_eql rfl rfl) ?_
        refine sR (.bool (decide (v_49_1 = (0 : Int)))) (r_pick rfl rfl (fun _ => rfl) (fun h => by cases h)) ?_
        refine sR (.bool (decide (v_49_1 = (0 : Int)))) (r_move rfl rfl) ?_
        by_cases hc : v_49_1 = (0 : Int)
        ·
         replace h := h.1 hc
         refine kN 121 (decide_eq_true hc) ?_
         refine kN 122 (decide_eq_true hc) ?_
         refine kN 123 (decide_eq_true hc) ?_
         refine sR (.string v_27) (r_move rfl h8) ?_
         refine sR (.bool (!(v_27.toList == (ByteArray.mk #[]).toList))) (r_neqS rfl rfl rfl) ?_
         refine sR (.bool (!(v_27.toList == (ByteArray.mk #[]).toList))) (r_pick rfl rfl (fun _ => rfl) (fun h => by cases h)) ?_
         refine sR (.bool (!(v_27.toList == (ByteArray.mk #[]).toList))) (r_move rfl rfl) ?_
         by_cases hc : (!(v_27.toList == (ByteArray.mk #[]).toList)) = true
         ·
          replace h := h.1 hc
          refine kN 125 hc ?_
          refine kN 126 hc ?_
          refine kN 127 hc ?_
          refine sR (Sl.v v_21) (r_move rfl h6) ?_
          refine sR (.string v_27) (r_move rfl h8) ?_
          refine s_ef (k_call (vs := [(Sl.v v_21), (.string v_27)]) cb23 (evC rfl (evC rfl evN)) (h.mono ?_))
          clear h; rintro v F ⟨v_130, rfl, h⟩
          refine sR (.bool v_130) (r_pick rfl rfl (fun _ => rfl) (fun h => by cases h)) ?_
          refine sR (.bool v_130) (r_move rfl rfl) ?_
          by_cases hc : v_130 = true
          ·
           replace h := h.1 hc
           refine kN 130 hc ?_
           refine kN 131 hc ?_
           refine kN 132 hc ?_
           refine sR (Sl.v v_23) (r_move rfl h7) ?_
           refine sR (.string v_27) (r_move rfl h8) ?_
           refine s_ef (k_call (vs := [(Sl.v v_23), (.string v_27)]) cb23 (evC rfl (evC rfl evN)) (h.mono ?_))
           clear h; rintro v F ⟨v_135, rfl, h⟩
           refine sR (.bool v_135) (r_pick rfl rfl (fun _ => rfl) (fun h => by cases h)) ?_
           refine sR (.bool v_135) (r_move rfl rfl) ?_
           by_cases hc : v_135 = true
           ·
            replace h := h.1 hc
            refine kN 135 hc ?_
            refine kN 136 hc ?_
            refine kN 137 hc ?_
            refine sR (.bool long_18) (r_move rfl h18) ?_
            refine sR (.bool long_18) (r_pick rfl rfl (fun _ => rfl) (fun h => by cases h)) ?_
            refine sR (.bool long_18) (r_move rfl rfl) ?_
            by_cases hc : long_18 = true
            ·
             replace h := h.1 hc
             refine HL_known (t := 18) (v := .bool true) (h18.trans (congrArg Value.bool hc)) ?_
             refine kN 138 hc ?_
             refine kN 139 hc ?_
             refine kN 140 hc ?_
             refine sR (.bool v_19) (r_move rfl h5) ?_
             refine sR (.bool v_19) (r_pick rfl rfl (fun _ => rfl) (fun h => by cases h)) ?_
             refine sR (.bool v_19) (r_assign rfl rfl) ?_
             refine HL_nil ?_
             exact HC_ret (show endQ prog f10 R .ret _ _ from ⟨_, res1 rfl (rv_tmp rfl), h⟩)
            ·
             replace hc := eq_false_of_ne_true hc; replace h := h.2 hc
             refine HL_known (t := 18) (v := .bool false) (h18.trans (congrArg Value.bool hc)) ?_
             refine kN 138 hc ?_
             refine kN 139 hc ?_
             refine kN 140 hc ?_
             refine s_skip ?_
             refine sR (.bool false) (r_pick rfl rfl (fun h => by cases h) (fun _ => rfl)) ?_
             refine sR (.bool false) (r_assign rfl rfl) ?_
             refine HL_nil ?_
             exact HC_ret (show endQ prog f10 R .ret _ _ from ⟨_, res1 rfl (rv_tmp rfl), h⟩)
           ·
            replace hc := eq_false_of_ne_true hc; replace h := h.2 hc
            refine kN 135 hc ?_
            refine kN 136 hc ?_
            refine kN 137 hc ?_
            refine s_skip ?_
            refine sR (.bool false) (r_pick rfl rfl (fun h => by cases h) (fun _ => rfl)) ?_
            refine sR (.bool false) (r_move rfl rfl) ?_
            refine s_skip ?_
            refine sR (.bool false) (r_pick rfl rfl (fun h => by cases h) (fun _ => rfl)) ?_
            refine sR (.bool false) (r_assign rfl rfl) ?_
            refine HL_nil ?_
            exact HC_ret (show endQ prog f10 R .ret _ _ from ⟨_, res1 rfl (rv_tmp rfl), h⟩)
          ·
           replace hc := eq_false_of_ne_true hc; replace h := h.2 hc
           refine kN 130 hc ?_
           refine kN 131 hc ?_
           refine kN 132 hc ?_
           refine s_skip ?_
           refine s_skip ?_
           refine s_skip ?_
           refine sR (.bool false) (r_pick rfl rfl (fun h => by cases h) (fun _ => rfl)) ?_
           refine sR (.bool false) (r_move rfl rfl) ?_
           refine s_skip ?_
           refine sR (.bool false) (r_pick rfl rfl (fun h => by cases h) (fun _ => rfl)) ?_
           refine sR (.bool false) (r_move rfl rfl) ?_
           refine s_skip ?_
           refine sR (.bool false) (r_pick rfl rfl (fun h => by cases h) (fun _ => rfl)) ?_
           refine sR (.bool false) (r_assign rfl rfl) ?_
           refine HL_nil ?_
           exact HC_ret (show endQ prog f10 R .ret _ _ from ⟨_, res1 rfl (rv_tmp rfl), h⟩)
         ·
          replace hc := eq_false_of_ne_true hc; replace h := h.2 hc
          refine kN 125 hc ?_
          refine kN 126 hc ?_
          refine kN 127 hc ?_
          refine s_skip ?_
          refine s_skip ?_
          refine s_skip ?_
          refine sR (.bool false) (r_pick rfl rfl (fun h => by cases h) (fun _ => rfl)) ?_
          refine sR (.bool false) (r_move rfl rfl) ?_
          refine s_skip ?_
          refine s_skip ?_
          refine s_skip ?_
          refine sR (.bool false) (r_pick rfl rfl (fun h => by cases h) (fun _ => rfl)) ?_
          refine sR (.bool false) (r_move rfl rfl) ?_
          refine s_skip ?_
          refine sR (.bool false) (r_pick rfl rfl (fun h => by cases h) (fun _ => rfl)) ?_
          refine sR (.bool false) (r_move rfl rfl) ?_
          refine s_skip ?_
          refine sR (.bool false) (r_pick rfl rfl (fun h => by cases h) (fun _ => rfl)) ?_
          refine sR (.bool false) (r_assign rfl rfl) ?_
          refine HL_nil ?_
          exact HC_ret (show endQ prog f10 R .ret _ _ from ⟨_, res1 rfl (rv_tmp rfl), h⟩)
        ·
         replace h := h.2 hc
         refine kN 121 (decide_eq_false hc) ?_
         refine kN 122 (decide_eq_false hc) ?_
         refine kN 123 (decide_eq_false hc) ?_
         refine s_skip ?_
         refine s_skip ?_
         refine sR (.bool false) (r_pick rfl rfl (fun h => by cases h) (fun _ => rfl)) ?_
         refine sR (.bool false) (r_move rfl rfl) ?_
         refine s_skip ?_
         refine s_skip ?_
         refine s_skip ?_
         refine sR (.bool false) (r_pick rfl rfl (fun h => by cases h) (fun _ => rfl)) ?_
         refine sR (.bool false) (r_move rfl rfl) ?_
         refine s_skip ?_
         refine s_skip ?_
         refine s_skip ?_
         refine sR (.bool false) (r_pick rfl rfl (fun h => by cases h) (fun _ => rfl)) ?_
         refine sR (.bool false) (r_move rfl rfl) ?_
         refine s_skip ?_
         refine sR (.bool false) (r_pick rfl rfl (fun h => by cases h) (fun _ => rfl)) ?_
         refine sR (.bool false) (r_move rfl rfl) ?_
         refine s_skip ?_
         refine sR (.bool false) (r_pick rfl rfl (fun h => by cases h) (fun _ => rfl)) ?_
         refine sR (.bool false) (r_assign rfl rfl) ?_
         refine HL_nil ?_
         exact HC_ret (show endQ prog f10 R .ret _ _ from ⟨_, res1 rfl (rv_tmp rfl), h⟩)
       ·
        replace h := h.2 hc
        refine kN 118 (decide_eq_false hc) ?_
        refine kN 119 (decide_eq_false hc) ?_
        refine s_skip ?_
        refine s_skip ?_
        refine sR (.bool false) (r_pick rfl rfl (fun h => by cases h) (fun _ => rfl)) ?_
        refine sR (.bool false) (r_move rfl rfl) ?_
        refine s_skip ?_
        refine s_skip ?_
        refine sR (.bool false) (r_pick rfl rfl (fun h => by cases h) (fun _ => rfl)) ?_
        refine sR (.bool false) (r_move rfl rfl) ?_
        refine s_skip ?_
        refine s_skip ?_
        refine s_skip ?_
        refine sR (.bool false) (r_pick rfl rfl (fun h => by cases h) (fun _ => rfl)) ?_
        refine sR (.bool false) (r_move rfl rfl) ?_
        refine s_skip ?_
        refine s_skip ?_
        refine s_skip ?_
        refine sR (.bool false) (r_pick rfl rfl (fun h => by cases h) (fun _ => rfl)) ?_
        refine sR (.bool false) (r_move rfl rfl) ?_
        refine s_skip ?_
        refine sR (.bool false) (r_pick rfl rfl (fun h => by cases h) (fun _ => rfl)) ?_
        refine sR (.bool false) (r_move rfl rfl) ?_
        refine s_skip ?_
        refine sR (.bool false) (r_pick rfl rfl (fun h => by cases h) (fun _ => rfl)) ?_
        refine sR (.bool false) (r_assign rfl rfl) ?_
        refine HL_nil ?_
        exact HC_ret (show endQ prog f10 R .ret _ _ from ⟨_, res1 rfl (rv_tmp rfl), h⟩)
      ·
       skip
       refine HC_region ?_
       refine sR (.string v_27) (r_move rfl rfl) ?_
       refine sR (.int .i64 (v_27.size : Int)) (r_lenStr rfl rfl underlying9) ?_
       refine sR (.string v_44) (r_move rfl rfl) ?_
       refine sR (.int .i64 (v_44.size : Int)) (r_lenStr rfl rfl underlying9) ?_
       refine sR (.bool (decide ((v_44.size : Int) ≤ (v_27.size : Int)))) (r_geq rfl rfl rfl) ?_
       refine sR (.bool (decide ((v_44.size : Int) ≤ (v_27.size : Int)))) (r_move rfl rfl) ?_
       by_cases hc : (v_44.size : Int) ≤ (v_27.size : Int)
       ·
        replace h := h.1 hc
        refine kN 85 (decide_eq_true hc) ?_
        refine kN 86 (decide_eq_true hc) ?_
        refine sR (.string v_27) (r_move rfl rfl) ?_
        refine sR (.int .i64 (v_27.size : Int)) (r_lenStr rfl rfl underlying9) ?_
        refine sR (.string v_49) (r_move rfl rfl) ?_
        refine sR (.int .i64 (v_49.size : Int)) (r_lenStr rfl rfl underlying9) ?_
        refine sR (.bool (decide ((v_49.size : Int) ≤ (v_27.size : Int)))) (r_geq rfl rfl rfl) ?_
        refine sR (.bool (decide ((v_49.size : Int) ≤ (v_27.size : Int)))) (r_pick rfl rfl (fun _ => rfl) (fun h => by cases h)) ?_
        refine sR (.bool (decide ((v_49.size : Int) ≤ (v_27.size : Int)))) (r_move rfl rfl) ?_
        by_cases hc : (v_49.size : Int) ≤ (v_27.size : Int)
        ·
         replace h := h.1 hc
         refine kN 91 (decide_eq_true hc) ?_
         refine kN 92 (decide_eq_true hc) ?_
         refine kN 93 (decide_eq_true hc) ?_
         refine sR (.string v_27) (r_move rfl rfl) ?_
         refine sR (.int .i64 (v_27.size : Int)) (r_lenStr rfl rfl underlying9) ?_
         refine sR (.string v_44) (r_move rfl rfl) ?_
         refine sR (.int .i64 (v_44.size : Int)) (r_lenStr rfl rfl underlying9) ?_
         refine sR (.bool (decide ((v_44.size : Int) < (v_27.size : Int)))) (r_gtr rfl rfl rfl) ?_
         refine sR (.bool (decide ((v_44.size : Int) < (v_27.size : Int)))) (r_move rfl rfl) ?_
         by_cases hc : (v_44.size : Int) < (v_27.size : Int)
         ·
          replace h := h.1 hc
          refine kN 98 (decide_eq_true hc) ?_
          refine kN 99 (decide_eq_true hc) ?_
          refine s_skip ?_
          refine s_skip ?_
          refine s_skip ?_
          refine sR (.bool true) (r_pick rfl rfl (fun _ => rfl) (fun h => by cases h)) ?_
          refine sR (.bool true) (r_pick rfl rfl (fun _ => rfl) (fun h => by cases h)) ?_
          refine sR (.bool true) (r_move rfl rfl) ?_
          refine sR (.string v_27) (r_move rfl rfl) ?_
          refine sR (.int .i64 (v_27.size : Int)) (r_lenStr rfl rfl underlying9) ?_
          refine sR (.string v_49) (r_move rfl rfl) ?_
          refine sR (.int .i64 (v_49.size : Int)) (r_lenStr rfl rfl underlying9) ?_
          refine sR (.bool (decide ((v_49.size : Int) < (v_27.size : Int)))) (r_gtr rfl rfl rfl) ?_
          refine sR (.bool (decide ((v_49.size : Int) < (v_27.size : Int)))) (r_move rfl rfl) ?_
          by_cases hc : (v_49.size : Int) < (v_27.size : Int)
          ·
           replace h := h.1 hc
           refine kN 110 (decide_eq_true hc) ?_
           refine kN 111 (decide_eq_true hc) ?_
           refine s_skip ?_
           refine s_skip ?_
           refine s_skip ?_
           refine sR (.bool true) (r_pick rfl rfl (fun _ => rfl) (fun h => by cases h)) ?_
           refine sR (.bool true) (r_pick rfl rfl (fun _ => rfl) (fun h => by cases h)) ?_
           refine sR (.bool true) (r_assign rfl rfl) ?_
           refine HL_nil ?_
           show b10J1 v_19 v_21 v_23 v_27 v_44_1 v_49_1 R _ _
           exact ⟨_, rfl, rfl, rfl, rfl, rfl, rfl, rfl, h⟩
          ·
           replace h := h.2 hc
           refine kN 110 (decide_eq_false hc) ?_
           refine kN 111 (decide_eq_false hc) ?_
           refine sR (.string v_27) (r_move rfl rfl) ?_
           refine sR (.string v_49) (r_move rfl rfl) ?_
           refine sR (.bool (!(Op.bytesLess v_27.toList v_49.toList))) (r_geqS rfl rfl rfl) ?_
           refine sR (.bool (!(Op.bytesLess v_27.toList v_49.toList))) (r_pick rfl rfl (fun h => by cases h) (fun _ => rfl)) ?_
           refine sR (.bool (!(Op.bytesLess v_27.toList v_49.toList))) (r_pick rfl rfl (fun _ => rfl) (fun h => by cases h)) ?_
           refine sR (.bool (!(Op.bytesLess v_27.toList v_49.toList))) (r_assign rfl rfl) ?_
           refine HL_nil ?_
           show b10J1 v_19 v_21 v_23 v_27 v_44_1 v_49_1 R _ _
           exact ⟨_, rfl, rfl, rfl, rfl, rfl, rfl, rfl, h⟩
         ·
          replace h := h.2 hc
          refine kN 98 (decide_eq_false hc) ?_
          refine kN 99 (decide_eq_false hc) ?_
          refine sR (.string v_27) (r_move rfl rfl) ?_
          refine sR (.string v_44) (r_move rfl rfl) ?_
          refine sR (.bool (!(Op.bytesLess v_27.toList v_44.toList))) (r_geqS rfl rfl rfl) ?_
          refine sR (.bool (!(Op.bytesLess v_27.toList v_44.toList))) (r_pick rfl rfl (fun h => by cases h) (fun _ => rfl)) ?_
          refine sR (.bool (!(Op.bytesLess v_27.toList v_44.toList))) (r_pick rfl rfl (fun _ => rfl) (fun h => by cases h)) ?_
          refine sR (.bool (!(Op.bytesLess v_27.toList v_44.toList))) (r_move rfl rfl) ?_
          by_cases hc : (!(Op.bytesLess v_27.toList v_44.toList)) = true
          ·
           replace h := h.1 hc
           refine kN 102 hc ?_
           refine kN 103 hc ?_
           refine kN 104 hc ?_
           refine kN 105 hc ?_
           refine sR (.string v_27) (r_move rfl rfl) ?_
           refine sR (.int .i64 (v_27.size : Int)) (r_lenStr rfl rfl underlying9) ?_
           refine sR (.string v_49) (r_move rfl rfl) ?_
           refine sR (.int .i64 (v_49.size : Int)) (r_lenStr rfl rfl underlying9) ?_
           refine sR (.bool (decide ((v_49.size : Int) < (v_27.size : Int)))) (r_gtr rfl rfl rfl) ?_
           refine sR (.bool (decide ((v_49.size : Int) < (v_27.size : Int)))) (r_move rfl rfl) ?_
           by_cases hc : (v_49.size : Int) < (v_27.size : Int)
           ·
            replace h := h.1 hc
            refine kN 110 (decide_eq_true hc) ?_
            refine kN 111 (decide_eq_true hc) ?_
            refine s_skip ?_
            refine s_skip ?_
            refine s_skip ?_
            refine sR (.bool true) (r_pick rfl rfl (fun _ => rfl) (fun h => by cases h)) ?_
            refine sR (.bool true) (r_pick rfl rfl (fun _ => rfl) (fun h => by cases h)) ?_
            refine sR (.bool true) (r_assign rfl rfl) ?_
            refine HL_nil ?_
            show b10J1 v_19 v_21 v_23 v_27 v_44_1 v_49_1 R _ _
            exact ⟨_, rfl, rfl, rfl, rfl, rfl, rfl, rfl, h⟩
           ·
            replace h := h.2 hc
            refine kN 110 (decide_eq_false hc) ?_
            refine kN 111 (decide_eq_false hc) ?_
            refine sR (.string v_27) (r_move rfl rfl) ?_
            refine sR (.string v_49) (r_move rfl rfl) ?_
            refine sR (.bool (!(Op.bytesLess v_27.toList v_49.toList))) (r_geqS rfl rfl rfl) ?_
            refine sR (.bool (!(Op.bytesLess v_27.toList v_49.toList))) (r_pick rfl rfl (fun h => by cases h) (fun _ => rfl)) ?_
            refine sR (.bool (!(Op.bytesLess v_27.toList v_49.toList))) (r_pick rfl rfl (fun _ => rfl) (fun h => by cases h)) ?_
            refine sR (.bool (!(Op.bytesLess v_27.toList v_49.toList))) (r_assign rfl rfl) ?_
            refine HL_nil ?_
            show b10J1 v_19 v_21 v_23 v_27 v_44_1 v_49_1 R _ _
            exact ⟨_, rfl, rfl, rfl, rfl, rfl, rfl, rfl, h⟩
          ·
           replace hc := eq_false_of_ne_true hc; replace h := h.2 hc
           refine kN 102 hc ?_
           refine kN 103 hc ?_
           refine kN 104 hc ?_
           refine kN 105 hc ?_
           refine s_skip ?_
           refine s_skip ?_
           refine s_skip ?_
           refine s_skip ?_
           refine s_skip ?_
           refine s_skip ?_
           refine s_skip ?_
           refine s_skip ?_
           refine s_skip ?_
           refine s_skip ?_
           refine sR (.bool false) (r_pick rfl rfl (fun h => by cases h) (fun _ => rfl)) ?_
           refine sR (.bool false) (r_assign rfl rfl) ?_
           refine HL_nil ?_
           show b10J1 v_19 v_21 v_23 v_27 v_44_1 v_49_1 R _ _
           exact ⟨_, rfl, rfl, rfl, rfl, rfl, rfl, rfl, h⟩
        ·
         replace h := h.2 hc
         refine kN 91 (decide_eq_false hc) ?_
         refine kN 92 (decide_eq_false hc) ?_
         refine kN 93 (decide_eq_false hc) ?_
         refine s_skip ?_
         refine s_skip ?_
         refine s_skip ?_
         refine s_skip ?_
         refine s_skip ?_
         refine s_skip ?_
         refine s_skip ?_
         refine s_skip ?_
         refine s_skip ?_
         refine s_skip ?_
         refine sR (.bool false) (r_pick rfl rfl (fun h => by cases h) (fun _ => rfl)) ?_
         refine sR (.bool false) (r_move rfl rfl) ?_
         refine s_skip ?_
         refine s_skip ?_
         refine s_skip ?_
         refine s_skip ?_
         refine s_skip ?_
         refine s_skip ?_
         refine s_skip ?_
         refine s_skip ?_
         refine s_skip ?_
         refine s_skip ?_
         refine sR (.bool false) (r_pick rfl rfl (fun h => by cases h) (fun _ => rfl)) ?_
         refine sR (.bool false) (r_assign rfl rfl) ?_
         refine HL_nil ?_
         show b10J1 v_19 v_21 v_23 v_27 v_44_1 v_49_1 R _ _
         exact ⟨_, rfl, rfl, rfl, rfl, rfl, rfl, rfl, h⟩
       ·
        replace h := h.2 hc
        refine kN 85 (decide_eq_false hc) ?_
        refine kN 86 (decide_eq_false hc) ?_
        refine s_skip ?_
        refine s_skip ?_
        refine s_skip ?_
        refine s_skip ?_
        refine s_skip ?_
        refine sR (.bool false) (r_pick rfl rfl (fun h => by cases h) (fun _ => rfl)) ?_
        refine sR (.bool false) (r_move rfl rfl) ?_
        refine s_skip ?_
        refine s_skip ?_
        refine s_skip ?_
        refine s_skip ?_
        refine s_skip ?_
        refine s_skip ?_
        refine s_skip ?_
        refine s_skip ?_
        refine s_skip ?_
        refine s_skip ?_
        refine sR (.bool false) (r_pick rfl rfl (fun h => by cases h) (fun _ => rfl)) ?_
        refine sR (.bool false) (r_move rfl rfl) ?_
        refine s_skip ?_
        refine s_skip ?_
        refine s_skip ?_
        refine s_skip ?_
        refine s_skip ?_
        refine s_skip ?_
        refine s_skip ?_
        refine s_skip ?_
        refine s_skip ?_
        refine s_skip ?_
        refine sR (.bool false) (r_pick rfl rfl (fun h => by cases h) (fun _ => rfl)) ?_
        refine sR (.bool false) (r_assign rfl rfl) ?_
        refine HL_nil ?_
        show b10J1 v_19 v_21 v_23 v_27 v_44_1 v_49_1 R _ _
        exact ⟨_, rfl, rfl, rfl, rfl, rfl, rfl, rfl, h⟩

end Go.Proofs.YtnjcgpihfmklfaaDoor
