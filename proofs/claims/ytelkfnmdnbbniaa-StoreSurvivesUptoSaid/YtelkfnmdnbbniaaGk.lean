/-
  What functions of the program do, in a clean form, each with the proof that its code does so. Printed by a program.
-/
import Derived.Test.YtelkfnmdnbbniaaGf
import Derived.Test.YtelkfnmdnbbniaaPhp
namespace Go.Proofs.Ytelkfnmdnbbniaa
open Go Go.Proofs.Try
set_option maxRecDepth 10000
set_option maxHeartbeats 4000000
/- 10 koine.koinelaw35.sanity -/
def b10j3 (first_7 : Bool) (second_8 : Bool) (v_91 : Sl) (v_91_1 : Bool) (v_96_1 : Bool) (v_115 : Option Addr) (v_120_1 : Int) (v_125_1 : Int) (third_23 : Bool) (R : VP) (F : PH) :=
 Spec prog 16 #[(.pointer v_115), (.string (ByteArray.mk #[97]))] F fun v F => ∃ v_158 : Sl, ∃ v_158_1 : Bool, v = (.tuple #[(Sl.v v_158), (.bool v_158_1)]) ∧
 ((first_7 = true →
  ((second_8 = true →
   (((v_91.len : Int) = 10 →
    ((v_91_1 = true →
     (((!v_96_1) = true →
      ((v_120_1 = 1 →
       ((v_125_1 = 1 →
        ((third_23 = true →
         (((v_158.len : Int) = 20 →
          ((v_158_1 = true →
           Spec prog 31 #[(.pointer v_115)] F fun v F => ∃ v_198 : Sl, v = (Sl.v v_198) ∧
           R (.bool (decide ((v_198.len : Int) = 2))) F) ∧
          (v_158_1 = false →
           R (.bool false) F))) ∧
         (¬ ((v_158.len : Int) = 20) →
          R (.bool false) F))) ∧
        (third_23 = false →
         R (.bool false) F))) ∧
       (¬ (v_125_1 = 1) →
        R (.bool false) F))) ∧
      (¬ (v_120_1 = 1) →
       R (.bool false) F))) ∧
     ((!v_96_1) = false →
      R (.bool false) F))) ∧
    (v_91_1 = false →
     R (.bool false) F))) ∧
   (¬ ((v_91.len : Int) = 10) →
    R (.bool false) F))) ∧
  (second_8 = false →
   R (.bool false) F))) ∧
 (first_7 = false →
  R (.bool false) F))
abbrev b10J3 (first_7 : Bool) (second_8 : Bool) (v_91 : Sl) (v_91_1 : Bool) (v_96_1 : Bool) (v_115 : Option Addr) (v_120_1 : Int) (v_125_1 : Int) (R : VP) (E : En) (F : PH) : Prop := ∃ third_23 : Bool, E 7 = (.bool first_7) ∧ E 8 = (.bool second_8) ∧ E 9 = (Sl.v v_91) ∧ E 10 = (.bool v_91_1) ∧ E 12 = (.bool v_96_1) ∧ E 17 = (.pointer v_115) ∧ E 20 = (.int .i64 v_120_1) ∧ E 22 = (.int .i64 v_125_1) ∧ E 23 = (.bool third_23) ∧ b10j3 first_7 second_8 v_91 v_91_1 v_96_1 v_115 v_120_1 v_125_1 third_23 R F
def b10j2 (v_39 : Option Addr) (first_7 : Bool) (second_8 : Bool) (R : VP) (F : PH) :=
 Spec prog 16 #[(.pointer v_39), (.string (ByteArray.mk #[97]))] F fun v F => ∃ v_91 : Sl, ∃ v_91_1 : Bool, v = (.tuple #[(Sl.v v_91), (.bool v_91_1)]) ∧
 Spec prog 16 #[(.pointer v_39), (.string (ByteArray.mk #[98]))] F fun v F => ∃ v_96 : Sl, ∃ v_96_1 : Bool, v = (.tuple #[(Sl.v v_96), (.bool v_96_1)]) ∧
 Spec prog 39 #[(.int .i64 12)] F fun v F => ∃ v_100 : Option Addr, ∃ v_100_1 : Int, v = (.tuple #[(.pointer v_100), (.int .i64 v_100_1)]) ∧
 Spec prog 39 #[(.int .i64 3)] F fun v F => ∃ v_104 : Option Addr, ∃ v_104_1 : Int, v = (.tuple #[(.pointer v_104), (.int .i64 v_104_1)]) ∧
 ((v_100_1 ≠ 0 →
  R (.bool false) F) ∧
 (¬ (v_100_1 ≠ 0) →
  ((v_104_1 ≠ 0 →
   R (.bool false) F) ∧
  (¬ (v_104_1 ≠ 0) →
   Spec prog 30 #[(.pointer v_100)] F fun v F => ∃ v_115 : Option Addr, ∃ v_115_1 : Int, v = (.tuple #[(.pointer v_115), (.int .i64 v_115_1)]) ∧
   Spec prog 30 #[(.pointer v_104)] F fun v F => ∃ v_120 : Option Addr, ∃ v_120_1 : Int, v = (.tuple #[(.pointer v_120), (.int .i64 v_120_1)]) ∧
   Spec prog 20 #[(.pointer v_104)] F fun v F => ∃ v_125 : Option Addr, ∃ v_125_1 : Int, v = (.tuple #[(.pointer v_125), (.int .i64 v_125_1)]) ∧
   ((v_115_1 ≠ 0 →
    R (.bool false) F) ∧
   (¬ (v_115_1 ≠ 0) →
    Spec prog 40 #[(.string (ByteArray.mk #[97])), (.int .i64 10)] F fun v F => ∃ v_131 : Sl, v = (Sl.v v_131) ∧
    Spec prog 25 #[(.pointer v_115), (Sl.v v_131)] F fun v F => ∃ v_132 : Int, v = (.int .i64 v_132) ∧
    ((v_132 = 0 →
     Spec prog 40 #[(.string (ByteArray.mk #[97])), (.int .i64 20)] F fun v F => ∃ v_136 : Sl, v = (Sl.v v_136) ∧
     Spec prog 25 #[(.pointer v_115), (Sl.v v_136)] F fun v F => ∃ v_137 : Int, v = (.int .i64 v_137) ∧
     ((v_137 = 0 →
      Spec prog 18 #[(.pointer v_115)] F fun v F => ∃ v_142 : Int, v = (.int .i64 v_142) ∧
      ((v_142 = 0 →
       Spec prog 40 #[(.string (ByteArray.mk #[98])), (.int .i64 1)] F fun v F => ∃ v_147 : Sl, v = (Sl.v v_147) ∧
       Spec prog 25 #[(.pointer v_115), (Sl.v v_147)] F fun v F => ∃ v_148 : Int, v = (.int .i64 v_148) ∧
       ((v_148 = 0 →
        Spec prog 18 #[(.pointer v_115)] F fun v F => ∃ v_153 : Int, v = (.int .i64 v_153) ∧
        b10j3 first_7 second_8 v_91 v_91_1 v_96_1 v_115 v_120_1 v_125_1 (decide (v_153 = 0)) R F) ∧
       (¬ (v_148 = 0) →
        b10j3 first_7 second_8 v_91 v_91_1 v_96_1 v_115 v_120_1 v_125_1 false R F))) ∧
      (¬ (v_142 = 0) →
       b10j3 first_7 second_8 v_91 v_91_1 v_96_1 v_115 v_120_1 v_125_1 false R F))) ∧
     (¬ (v_137 = 0) →
      b10j3 first_7 second_8 v_91 v_91_1 v_96_1 v_115 v_120_1 v_125_1 false R F))) ∧
    (¬ (v_132 = 0) →
     b10j3 first_7 second_8 v_91 v_91_1 v_96_1 v_115 v_120_1 v_125_1 false R F))))))))
abbrev b10J2 (v_39 : Option Addr) (first_7 : Bool) (R : VP) (E : En) (F : PH) : Prop := ∃ second_8 : Bool, E 5 = (.pointer v_39) ∧ E 7 = (.bool first_7) ∧ E 8 = (.bool second_8) ∧ b10j2 v_39 first_7 second_8 R F
def b10j1 (v_39 : Option Addr) (first_7 : Bool) (R : VP) (F : PH) :=
 Spec prog 40 #[(.string (ByteArray.mk #[98])), (.int .i64 1)] F fun v F => ∃ v_69 : Sl, v = (Sl.v v_69) ∧
 Spec prog 25 #[(.pointer v_39), (Sl.v v_69)] F fun v F => ∃ v_70 : Int, v = (.int .i64 v_70) ∧
 ((v_70 = 351 →
  Spec prog 40 #[(.string (ByteArray.mk #[97])), (.int .i64 0)] F fun v F => ∃ v_74 : Sl, v = (Sl.v v_74) ∧
  Spec prog 25 #[(.pointer v_39), (Sl.v v_74)] F fun v F => ∃ v_75 : Int, v = (.int .i64 v_75) ∧
  ((v_75 = 351 →
   Spec prog 40 #[(.string (ByteArray.mk #[])), (.int .i64 1)] F fun v F => ∃ v_80 : Sl, v = (Sl.v v_80) ∧
   Spec prog 25 #[(.pointer v_39), (Sl.v v_80)] F fun v F => ∃ v_81 : Int, v = (.int .i64 v_81) ∧
   ((v_81 = 1 →
    Spec prog 25 #[(.pointer v_39), (Sl.v Sl.nil)] F fun v F => ∃ v_86 : Int, v = (.int .i64 v_86) ∧
    b10j2 v_39 first_7 (decide (v_86 = 0)) R F) ∧
   (¬ (v_81 = 1) →
    b10j2 v_39 first_7 false R F))) ∧
  (¬ (v_75 = 351) →
   b10j2 v_39 first_7 false R F))) ∧
 (¬ (v_70 = 351) →
  b10j2 v_39 first_7 false R F))
abbrev b10J1 (v_39 : Option Addr) (R : VP) (E : En) (F : PH) : Prop := ∃ first_7 : Bool, E 5 = (.pointer v_39) ∧ E 7 = (.bool first_7) ∧ b10j1 v_39 first_7 R F
def b10 (R : VP) (F : PH) :=
 Spec prog 39 #[(.int .i64 8)] F fun v F => ∃ v_27 : Option Addr, ∃ v_27_1 : Int, v = (.tuple #[(.pointer v_27), (.int .i64 v_27_1)]) ∧
 ((v_27_1 ≠ 0 →
  R (.bool false) F) ∧
 (¬ (v_27_1 ≠ 0) →
  Spec prog 20 #[(.pointer v_27)] F fun v F => ∃ v_34 : Option Addr, ∃ v_34_1 : Int, v = (.tuple #[(.pointer v_34), (.int .i64 v_34_1)]) ∧
  Spec prog 30 #[(.pointer v_27)] F fun v F => ∃ v_39 : Option Addr, ∃ v_39_1 : Int, v = (.tuple #[(.pointer v_39), (.int .i64 v_39_1)]) ∧
  ((v_34_1 ≠ 350 →
   R (.bool false) F) ∧
  (¬ (v_34_1 ≠ 350) →
   ((v_39_1 ≠ 0 →
    R (.bool false) F) ∧
   (¬ (v_39_1 ≠ 0) →
    Spec prog 18 #[(.pointer v_39)] F fun v F => ∃ v_49 : Int, v = (.int .i64 v_49) ∧
    ((v_49 = 126 →
     Spec prog 31 #[(.pointer v_39)] F fun v F => ∃ v_53 : Sl, v = (Sl.v v_53) ∧
     (((v_53.len : Int) = 0 →
      Spec prog 40 #[(.string (ByteArray.mk #[97])), (.int .i64 10)] F fun v F => ∃ v_59 : Sl, v = (Sl.v v_59) ∧
      Spec prog 25 #[(.pointer v_39), (Sl.v v_59)] F fun v F => ∃ v_60 : Int, v = (.int .i64 v_60) ∧
      ((v_60 = 0 →
       Spec prog 18 #[(.pointer v_39)] F fun v F => ∃ v_65 : Int, v = (.int .i64 v_65) ∧
       b10j1 v_39 (decide (v_65 = 0)) R F) ∧
      (¬ (v_60 = 0) →
       b10j1 v_39 false R F))) ∧
     (¬ ((v_53.len : Int) = 0) →
      b10j1 v_39 false R F))) ∧
    (¬ (v_49 = 126) →
     b10j1 v_39 false R F))))))))
theorem c10 {R : VP} {F : PH} (h : b10 R F) : Spec prog 10 #[] F R := by
 refine spec_of (args := []) func10 rfl ntmps10 rfl ?_
 unfold b10 at h
 refine cR (sR (.bool false) (r_assign rfl rfl) ?_)
 refine HL_nil ?_
 refine cR ?_
 refine s_ef (k_call (vs := [(.int .i64 8)]) cb39 (evC rfl evN) (h.mono ?_))
 clear h; rintro v F ⟨v_27, v_27_1, rfl, h⟩
 refine sR (.tuple #[(.pointer v_27), (.int .i64 v_27_1)]) (r_move rfl rfl) ?_
 refine sR (.pointer v_27) (r_extract rfl rfl rfl) ?_
 refine sR (.int .i64 v_27_1) (r_extract rfl rfl rfl) ?_
 refine sR (.pointer v_27) (r_assign rfl rfl) ?_
 refine sR (.int .i64 v_27_1) (r_assign rfl rfl) ?_
 refine HL_nil ?_
 refine HC_seq ?_
 refine cR (sR (.int .i64 v_27_1) (r_move rfl rfl) ?_)
 refine sR (.bool (decide (v_27_1 ≠ 0))) (w_neq rfl rfl) ?_
 refine HL_nil ?_
 refine HC_cond (t := (decide (v_27_1 ≠ 0))) rfl (fun hc => ?_) (fun hc => ?_)
 replace h := h.1 (of_decide_eq_true hc)
 clear hc
 refine cR (sR (.bool false) (r_assign rfl rfl) ?_)
 exact HL_nil (HC_ret (rt1 f10 R rfl rfl h))
 replace h := h.2 (of_decide_eq_false hc)
 clear hc
 refine HC_skip ?_
 refine cR (sR (.pointer v_27) (r_move rfl rfl) ?_)
 refine s_ef (k_call (vs := [(.pointer v_27)]) cb20 (evC rfl evN) (h.mono ?_))
 clear h; rintro v F ⟨v_34, v_34_1, rfl, h⟩
 refine sR (.tuple #[(.pointer v_34), (.int .i64 v_34_1)]) (r_move rfl rfl) ?_
 refine sR (.pointer v_34) (r_extract rfl rfl rfl) ?_
 refine sR (.int .i64 v_34_1) (r_extract rfl rfl rfl) ?_
 refine sR (.pointer v_34) (r_assign rfl rfl) ?_
 refine sR (.int .i64 v_34_1) (r_assign rfl rfl) ?_
 refine HL_nil ?_
 refine cR (sR (.pointer v_27) (r_move rfl rfl) ?_)
 refine s_ef (k_call (vs := [(.pointer v_27)]) cb30 (evC rfl evN) (h.mono ?_))
 clear h; rintro v F ⟨v_39, v_39_1, rfl, h⟩
 refine sR (.tuple #[(.pointer v_39), (.int .i64 v_39_1)]) (r_move rfl rfl) ?_
 refine sR (.pointer v_39) (r_extract rfl rfl rfl) ?_
 refine sR (.int .i64 v_39_1) (r_extract rfl rfl rfl) ?_
 refine sR (.pointer v_39) (r_assign rfl rfl) ?_
 refine sR (.int .i64 v_39_1) (r_assign rfl rfl) ?_
 refine HL_nil ?_
 refine HC_seq ?_
 refine cR (sR (.int .i64 v_34_1) (r_move rfl rfl) ?_)
 refine sR (.bool (decide (v_34_1 ≠ 350))) (w_neq rfl rfl) ?_
 refine sR (.bool (decide (v_34_1 ≠ 350))) (r_move rfl rfl) ?_
 by_cases hc : v_34_1 ≠ 350
 replace h := h.1 hc
 refine kN 43 (decide_eq_true hc) ?_
 refine kN 44 (decide_eq_true hc) ?_
 iterate 2 refine s_skip ?_
 refine sR (.bool true) (r_pt rfl rfl) ?_
 refine HL_nil ?_
 refine HC_condT rfl ?_
 refine cR (sR (.bool false) (r_assign rfl rfl) ?_)
 exact HL_nil (HC_ret (rt1 f10 R rfl rfl h))
 replace h := h.2 hc
 refine kN 43 (decide_eq_false hc) ?_
 refine kN 44 (decide_eq_false hc) ?_
 refine sR (.int .i64 v_39_1) (r_move rfl rfl) ?_
 refine sR (.bool (decide (v_39_1 ≠ 0))) (w_neq rfl rfl) ?_
 refine sR (.bool (decide (v_39_1 ≠ 0))) (r_pf rfl rfl) ?_
 refine HL_nil ?_
 refine HC_cond (t := (decide (v_39_1 ≠ 0))) rfl (fun hc => ?_) (fun hc => ?_)
 replace h := h.1 (of_decide_eq_true hc)
 clear hc
 refine cR (sR (.bool false) (r_assign rfl rfl) ?_)
 exact HL_nil (HC_ret (rt1 f10 R rfl rfl h))
 replace h := h.2 (of_decide_eq_false hc)
 clear hc
 refine HC_skip ?_
 refine HC_seqJ (b10J1 v_39 R) ?_ ?_
 clear h; rintro E F ⟨first_7, h5, h7, h⟩
 unfold b10j1 at h
 refine HC_seqJ (b10J2 v_39 first_7 R) ?_ ?_
 clear h; rintro E F ⟨second_8, h5, h7, h8, h⟩
 unfold b10j2 at h
 refine cR (sR _ (r_move rfl h5) ?_)
 refine s_ef (k_call (vs := [(.pointer v_39), (.string (ByteArray.mk #[97]))]) cb16 (evC rfl (evC rfl evN)) (h.mono ?_))
 clear h; rintro v F ⟨v_91, v_91_1, rfl, h⟩
 refine sR (.tuple #[(Sl.v v_91), (.bool v_91_1)]) (r_move rfl rfl) ?_
 refine sR (Sl.v v_91) (r_extract rfl rfl rfl) ?_
 refine sR (.bool v_91_1) (r_extract rfl rfl rfl) ?_
 refine sR (Sl.v v_91) (r_assign rfl rfl) ?_
 refine sR (.bool v_91_1) (r_assign rfl rfl) ?_
 refine HL_nil ?_
 refine cR (sR _ (r_move rfl h5) ?_)
 refine s_ef (k_call (vs := [(.pointer v_39), (.string (ByteArray.mk #[98]))]) cb16 (evC rfl (evC rfl evN)) (h.mono ?_))
 clear h; rintro v F ⟨v_96, v_96_1, rfl, h⟩
 refine sR (.tuple #[(Sl.v v_96), (.bool v_96_1)]) (r_move rfl rfl) ?_
 refine sR (Sl.v v_96) (r_extract rfl rfl rfl) ?_
 refine sR (.bool v_96_1) (r_extract rfl rfl rfl) ?_
 refine sR (Sl.v v_96) (r_assign rfl rfl) ?_
 refine sR (.bool v_96_1) (r_assign rfl rfl) ?_
 refine HL_nil ?_
 refine cR ?_
 refine s_ef (k_call (vs := [(.int .i64 12)]) cb39 (evC rfl evN) (h.mono ?_))
 clear h; rintro v F ⟨v_100, v_100_1, rfl, h⟩
 refine sR (.tuple #[(.pointer v_100), (.int .i64 v_100_1)]) (r_move rfl rfl) ?_
 refine sR (.pointer v_100) (r_extract rfl rfl rfl) ?_
 refine sR (.int .i64 v_100_1) (r_extract rfl rfl rfl) ?_
 refine sR (.pointer v_100) (r_assign rfl rfl) ?_
 refine sR (.int .i64 v_100_1) (r_assign rfl rfl) ?_
 refine HL_nil ?_
 refine cR ?_
 refine s_ef (k_call (vs := [(.int .i64 3)]) cb39 (evC rfl evN) (h.mono ?_))
 clear h; rintro v F ⟨v_104, v_104_1, rfl, h⟩
 refine sR (.tuple #[(.pointer v_104), (.int .i64 v_104_1)]) (r_move rfl rfl) ?_
 refine sR (.pointer v_104) (r_extract rfl rfl rfl) ?_
 refine sR (.int .i64 v_104_1) (r_extract rfl rfl rfl) ?_
 refine sR (.pointer v_104) (r_assign rfl rfl) ?_
 refine sR (.int .i64 v_104_1) (r_assign rfl rfl) ?_
 refine HL_nil ?_
 refine HC_seq ?_
 refine cR (sR (.int .i64 v_100_1) (r_move rfl rfl) ?_)
 refine sR (.bool (decide (v_100_1 ≠ 0))) (w_neq rfl rfl) ?_
 refine sR (.bool (decide (v_100_1 ≠ 0))) (r_move rfl rfl) ?_
 by_cases hc : v_100_1 ≠ 0
 replace h := h.1 hc
 refine kN 108 (decide_eq_true hc) ?_
 refine kN 109 (decide_eq_true hc) ?_
 iterate 2 refine s_skip ?_
 refine sR (.bool true) (r_pt rfl rfl) ?_
 refine HL_nil ?_
 refine HC_condT rfl ?_
 refine cR (sR (.bool false) (r_assign rfl rfl) ?_)
 exact HL_nil (HC_ret (rt1 f10 R rfl rfl h))
 replace h := h.2 hc
 refine kN 108 (decide_eq_false hc) ?_
 refine kN 109 (decide_eq_false hc) ?_
 refine sR (.int .i64 v_104_1) (r_move rfl rfl) ?_
 refine sR (.bool (decide (v_104_1 ≠ 0))) (w_neq rfl rfl) ?_
 refine sR (.bool (decide (v_104_1 ≠ 0))) (r_pf rfl rfl) ?_
 refine HL_nil ?_
 refine HC_cond (t := (decide (v_104_1 ≠ 0))) rfl (fun hc => ?_) (fun hc => ?_)
 replace h := h.1 (of_decide_eq_true hc)
 clear hc
 refine cR (sR (.bool false) (r_assign rfl rfl) ?_)
 exact HL_nil (HC_ret (rt1 f10 R rfl rfl h))
 replace h := h.2 (of_decide_eq_false hc)
 clear hc
 refine HC_skip ?_
 refine cR (sR (.pointer v_100) (r_move rfl rfl) ?_)
 refine s_ef (k_call (vs := [(.pointer v_100)]) cb30 (evC rfl evN) (h.mono ?_))
 clear h; rintro v F ⟨v_115, v_115_1, rfl, h⟩
 refine sR (.tuple #[(.pointer v_115), (.int .i64 v_115_1)]) (r_move rfl rfl) ?_
 refine sR (.pointer v_115) (r_extract rfl rfl rfl) ?_
 refine sR (.int .i64 v_115_1) (r_extract rfl rfl rfl) ?_
 refine sR (.pointer v_115) (r_assign rfl rfl) ?_
 refine sR (.int .i64 v_115_1) (r_assign rfl rfl) ?_
 refine HL_nil ?_
 refine cR (sR (.pointer v_104) (r_move rfl rfl) ?_)
 refine s_ef (k_call (vs := [(.pointer v_104)]) cb30 (evC rfl evN) (h.mono ?_))
 clear h; rintro v F ⟨v_120, v_120_1, rfl, h⟩
 refine sR (.tuple #[(.pointer v_120), (.int .i64 v_120_1)]) (r_move rfl rfl) ?_
 refine sR (.pointer v_120) (r_extract rfl rfl rfl) ?_
 refine sR (.int .i64 v_120_1) (r_extract rfl rfl rfl) ?_
 refine sR (.pointer v_120) (r_assign rfl rfl) ?_
 refine sR (.int .i64 v_120_1) (r_assign rfl rfl) ?_
 refine HL_nil ?_
 refine cR (sR (.pointer v_104) (r_move rfl rfl) ?_)
 refine s_ef (k_call (vs := [(.pointer v_104)]) cb20 (evC rfl evN) (h.mono ?_))
 clear h; rintro v F ⟨v_125, v_125_1, rfl, h⟩
 refine sR (.tuple #[(.pointer v_125), (.int .i64 v_125_1)]) (r_move rfl rfl) ?_
 refine sR (.pointer v_125) (r_extract rfl rfl rfl) ?_
 refine sR (.int .i64 v_125_1) (r_extract rfl rfl rfl) ?_
 refine sR (.pointer v_125) (r_assign rfl rfl) ?_
 refine sR (.int .i64 v_125_1) (r_assign rfl rfl) ?_
 refine HL_nil ?_
 refine HC_seq ?_
 refine cR (sR (.int .i64 v_115_1) (r_move rfl rfl) ?_)
 refine sR (.bool (decide (v_115_1 ≠ 0))) (w_neq rfl rfl) ?_
 refine HL_nil ?_
 refine HC_cond (t := (decide (v_115_1 ≠ 0))) rfl (fun hc => ?_) (fun hc => ?_)
 replace h := h.1 (of_decide_eq_true hc)
 clear hc
 refine cR (sR (.bool false) (r_assign rfl rfl) ?_)
 exact HL_nil (HC_ret (rt1 f10 R rfl rfl h))
 replace h := h.2 (of_decide_eq_false hc)
 clear hc
 refine HC_skip ?_
 refine HC_seqJ (b10J3 first_7 second_8 v_91 v_91_1 v_96_1 v_115 v_120_1 v_125_1 R) ?_ ?_
 clear h; rintro E F ⟨third_23, h7, h8, h9, h10, h12, h17, h20, h22, h23, h⟩
 unfold b10j3 at h
 refine cR (sR _ (r_move rfl h17) ?_)
 refine s_ef (k_call (vs := [(.pointer v_115), (.string (ByteArray.mk #[97]))]) cb16 (evC rfl (evC rfl evN)) (h.mono ?_))
 clear h; rintro v F ⟨v_158, v_158_1, rfl, h⟩
 refine sR (.tuple #[(Sl.v v_158), (.bool v_158_1)]) (r_move rfl rfl) ?_
 refine sR (Sl.v v_158) (r_extract rfl rfl rfl) ?_
 refine sR (.bool v_158_1) (r_extract rfl rfl rfl) ?_
 refine sR (Sl.v v_158) (r_assign rfl rfl) ?_
 refine sR (.bool v_158_1) (r_assign rfl rfl) ?_
 refine HL_nil ?_
 refine cR (sR _ (r_move rfl h7) ?_)
 refine sR (.bool first_7) (r_move rfl rfl) ?_
 by_cases hc : first_7 = true
 replace h := h.1 hc
 refine HL_known (t := 7) (v := .bool true) (h7.trans (congrArg Value.bool hc)) ?_
 refine kN 161 hc ?_
 refine kN 162 hc ?_
 refine sR _ (r_move rfl h8) ?_
 refine sR (.bool second_8) (r_pt rfl rfl) ?_
 refine sR (.bool second_8) (r_move rfl rfl) ?_
 by_cases hc : second_8 = true
 replace h := h.1 hc
 refine HL_known (t := 8) (v := .bool true) (h8.trans (congrArg Value.bool hc)) ?_
 refine kN 163 hc ?_
 refine kN 164 hc ?_
 refine kN 165 hc ?_
 refine sR _ (r_move rfl h9) ?_
 refine sR (.int .i64 (v_91.len : Int)) (r_lenSl rfl rfl underlying39) ?_
 refine sR (.bool (decide ((v_91.len : Int) = 10))) (w_eql rfl rfl) ?_
 refine sR (.bool (decide ((v_91.len : Int) = 10))) (r_pt rfl rfl) ?_
 refine sR (.bool (decide ((v_91.len : Int) = 10))) (r_move rfl rfl) ?_
 by_cases hc : (v_91.len : Int) = 10
 replace h := h.1 hc
 refine kN 168 (decide_eq_true hc) ?_
 refine kN 169 (decide_eq_true hc) ?_
 refine kN 170 (decide_eq_true hc) ?_
 refine sR _ (r_move rfl h10) ?_
 refine sR (.bool v_91_1) (r_pt rfl rfl) ?_
 refine sR (.bool v_91_1) (r_move rfl rfl) ?_
 by_cases hc : v_91_1 = true
 replace h := h.1 hc
 refine HL_known (t := 10) (v := .bool true) (h10.trans (congrArg Value.bool hc)) ?_
 refine kN 171 hc ?_
 refine kN 172 hc ?_
 refine kN 173 hc ?_
 refine sR _ (r_move rfl h12) ?_
 refine sR (.bool (!v_96_1)) (r_not rfl rfl) ?_
 refine sR (.bool (!v_96_1)) (r_pt rfl rfl) ?_
 refine sR (.bool (!v_96_1)) (r_move rfl rfl) ?_
 by_cases hc : (!v_96_1) = true
 replace h := h.1 hc
 refine kN 175 hc ?_
 refine kN 176 hc ?_
 refine kN 177 hc ?_
 refine sR _ (r_move rfl h20) ?_
 refine sR (.bool (decide (v_120_1 = 1))) (w_eql rfl rfl) ?_
 refine sR (.bool (decide (v_120_1 = 1))) (r_pt rfl rfl) ?_
 refine sR (.bool (decide (v_120_1 = 1))) (r_move rfl rfl) ?_
 by_cases hc : v_120_1 = 1
 replace h := h.1 hc
 refine kN 179 (decide_eq_true hc) ?_
 refine kN 180 (decide_eq_true hc) ?_
 refine kN 181 (decide_eq_true hc) ?_
 refine sR _ (r_move rfl h22) ?_
 refine sR (.bool (decide (v_125_1 = 1))) (w_eql rfl rfl) ?_
 refine sR (.bool (decide (v_125_1 = 1))) (r_pt rfl rfl) ?_
 refine sR (.bool (decide (v_125_1 = 1))) (r_move rfl rfl) ?_
 by_cases hc : v_125_1 = 1
 replace h := h.1 hc
 refine kN 183 (decide_eq_true hc) ?_
 refine kN 184 (decide_eq_true hc) ?_
 refine kN 185 (decide_eq_true hc) ?_
 refine sR _ (r_move rfl h23) ?_
 refine sR (.bool third_23) (r_pt rfl rfl) ?_
 refine sR (.bool third_23) (r_move rfl rfl) ?_
 by_cases hc : third_23 = true
 replace h := h.1 hc
 refine HL_known (t := 23) (v := .bool true) (h23.trans (congrArg Value.bool hc)) ?_
 refine kN 186 hc ?_
 refine kN 187 hc ?_
 refine kN 188 hc ?_
 refine sR (Sl.v v_158) (r_move rfl rfl) ?_
 refine sR (.int .i64 (v_158.len : Int)) (r_lenSl rfl rfl underlying39) ?_
 refine sR (.bool (decide ((v_158.len : Int) = 20))) (w_eql rfl rfl) ?_
 refine sR (.bool (decide ((v_158.len : Int) = 20))) (r_pt rfl rfl) ?_
 refine sR (.bool (decide ((v_158.len : Int) = 20))) (r_move rfl rfl) ?_
 by_cases hc : (v_158.len : Int) = 20
 replace h := h.1 hc
 refine kN 191 (decide_eq_true hc) ?_
 refine kN 192 (decide_eq_true hc) ?_
 refine kN 193 (decide_eq_true hc) ?_
 refine sR (.bool v_158_1) (r_move rfl rfl) ?_
 refine sR (.bool v_158_1) (r_pt rfl rfl) ?_
 refine sR (.bool v_158_1) (r_move rfl rfl) ?_
 by_cases hc : v_158_1 = true
 replace h := h.1 hc
 refine kN 160 hc ?_
 refine kN 25 hc ?_
 refine kN 194 hc ?_
 refine kN 195 hc ?_
 refine kN 196 hc ?_
 refine sR _ (r_move rfl h17) ?_
 refine s_ef (k_call (vs := [(.pointer v_115)]) cb31 (evC rfl evN) (h.mono ?_))
 clear h; rintro v F ⟨v_198, rfl, h⟩
 refine sR (.int .i64 (v_198.len : Int)) (r_lenSl rfl rfl underlying62) ?_
 refine sR (.bool (decide ((v_198.len : Int) = 2))) (w_eql rfl rfl) ?_
 refine sR (.bool (decide ((v_198.len : Int) = 2))) (r_pt rfl rfl) ?_
 refine sR (.bool (decide ((v_198.len : Int) = 2))) (r_assign rfl rfl) ?_
 exact HL_nil (HC_ret (rt1 f10 R rfl rfl h))
 replace hc := eq_false_of_ne_true hc; replace h := h.2 hc
 refine kN 160 hc ?_
 refine kN 25 hc ?_
 refine kN 194 hc ?_
 refine kN 195 hc ?_
 refine kN 196 hc ?_
 iterate 4 refine s_skip ?_
 refine sR (.bool false) (r_pf rfl rfl) ?_
 refine sR (.bool false) (r_assign rfl rfl) ?_
 exact HL_nil (HC_ret (rt1 f10 R rfl rfl h))
 replace h := h.2 hc
 refine kN 191 (decide_eq_false hc) ?_
 refine kN 192 (decide_eq_false hc) ?_
 refine kN 193 (decide_eq_false hc) ?_
 refine s_skip ?_
 refine sR (.bool false) (r_pf rfl rfl) ?_
 refine sR (.bool false) (r_move rfl rfl) ?_
 iterate 4 refine s_skip ?_
 refine sR (.bool false) (r_pf rfl rfl) ?_
 refine sR (.bool false) (r_assign rfl rfl) ?_
 exact HL_nil (HC_ret (rt1 f10 R rfl rfl h))
 replace hc := eq_false_of_ne_true hc; replace h := h.2 hc
 refine HL_known (t := 23) (v := .bool false) (h23.trans (congrArg Value.bool hc)) ?_
 refine kN 186 hc ?_
 refine kN 187 hc ?_
 refine kN 188 hc ?_
 iterate 3 refine s_skip ?_
 refine sR (.bool false) (r_pf rfl rfl) ?_
 refine sR (.bool false) (r_move rfl rfl) ?_
 refine s_skip ?_
 refine sR (.bool false) (r_pf rfl rfl) ?_
 refine sR (.bool false) (r_move rfl rfl) ?_
 iterate 4 refine s_skip ?_
 refine sR (.bool false) (r_pf rfl rfl) ?_
 refine sR (.bool false) (r_assign rfl rfl) ?_
 exact HL_nil (HC_ret (rt1 f10 R rfl rfl h))
 replace h := h.2 hc
 refine kN 183 (decide_eq_false hc) ?_
 refine kN 184 (decide_eq_false hc) ?_
 refine kN 185 (decide_eq_false hc) ?_
 refine s_skip ?_
 refine sR (.bool false) (r_pf rfl rfl) ?_
 refine sR (.bool false) (r_move rfl rfl) ?_
 iterate 3 refine s_skip ?_
 refine sR (.bool false) (r_pf rfl rfl) ?_
 refine sR (.bool false) (r_move rfl rfl) ?_
 refine s_skip ?_
 refine sR (.bool false) (r_pf rfl rfl) ?_
 refine sR (.bool false) (r_move rfl rfl) ?_
 iterate 4 refine s_skip ?_
 refine sR (.bool false) (r_pf rfl rfl) ?_
 refine sR (.bool false) (r_assign rfl rfl) ?_
 exact HL_nil (HC_ret (rt1 f10 R rfl rfl h))
 replace h := h.2 hc
 refine kN 179 (decide_eq_false hc) ?_
 refine kN 180 (decide_eq_false hc) ?_
 refine kN 181 (decide_eq_false hc) ?_
 iterate 2 refine s_skip ?_
 refine sR (.bool false) (r_pf rfl rfl) ?_
 refine sR (.bool false) (r_move rfl rfl) ?_
 refine s_skip ?_
 refine sR (.bool false) (r_pf rfl rfl) ?_
 refine sR (.bool false) (r_move rfl rfl) ?_
 iterate 3 refine s_skip ?_
 refine sR (.bool false) (r_pf rfl rfl) ?_
 refine sR (.bool false) (r_move rfl rfl) ?_
 refine s_skip ?_
 refine sR (.bool false) (r_pf rfl rfl) ?_
 refine sR (.bool false) (r_move rfl rfl) ?_
 iterate 4 refine s_skip ?_
 refine sR (.bool false) (r_pf rfl rfl) ?_
 refine sR (.bool false) (r_assign rfl rfl) ?_
 exact HL_nil (HC_ret (rt1 f10 R rfl rfl h))
 replace hc := eq_false_of_ne_true hc; replace h := h.2 hc
 refine kN 175 hc ?_
 refine kN 176 hc ?_
 refine kN 177 hc ?_
 iterate 2 refine s_skip ?_
 refine sR (.bool false) (r_pf rfl rfl) ?_
 refine sR (.bool false) (r_move rfl rfl) ?_
 iterate 2 refine s_skip ?_
 refine sR (.bool false) (r_pf rfl rfl) ?_
 refine sR (.bool false) (r_move rfl rfl) ?_
 refine s_skip ?_
 refine sR (.bool false) (r_pf rfl rfl) ?_
 refine sR (.bool false) (r_move rfl rfl) ?_
 iterate 3 refine s_skip ?_
 refine sR (.bool false) (r_pf rfl rfl) ?_
 refine sR (.bool false) (r_move rfl rfl) ?_
 refine s_skip ?_
 refine sR (.bool false) (r_pf rfl rfl) ?_
 refine sR (.bool false) (r_move rfl rfl) ?_
 iterate 4 refine s_skip ?_
 refine sR (.bool false) (r_pf rfl rfl) ?_
 refine sR (.bool false) (r_assign rfl rfl) ?_
 exact HL_nil (HC_ret (rt1 f10 R rfl rfl h))
 replace hc := eq_false_of_ne_true hc; replace h := h.2 hc
 refine HL_known (t := 10) (v := .bool false) (h10.trans (congrArg Value.bool hc)) ?_
 refine kN 171 hc ?_
 refine kN 172 hc ?_
 refine kN 173 hc ?_
 iterate 2 refine s_skip ?_
 refine sR (.bool false) (r_pf rfl rfl) ?_
 refine sR (.bool false) (r_move rfl rfl) ?_
 iterate 2 refine s_skip ?_
 refine sR (.bool false) (r_pf rfl rfl) ?_
 refine sR (.bool false) (r_move rfl rfl) ?_
 iterate 2 refine s_skip ?_
 refine sR (.bool false) (r_pf rfl rfl) ?_
 refine sR (.bool false) (r_move rfl rfl) ?_
 refine s_skip ?_
 refine sR (.bool false) (r_pf rfl rfl) ?_
 refine sR (.bool false) (r_move rfl rfl) ?_
 iterate 3 refine s_skip ?_
 refine sR (.bool false) (r_pf rfl rfl) ?_
 refine sR (.bool false) (r_move rfl rfl) ?_
 refine s_skip ?_
 refine sR (.bool false) (r_pf rfl rfl) ?_
 refine sR (.bool false) (r_move rfl rfl) ?_
 iterate 4 refine s_skip ?_
 refine sR (.bool false) (r_pf rfl rfl) ?_
 refine sR (.bool false) (r_assign rfl rfl) ?_
 exact HL_nil (HC_ret (rt1 f10 R rfl rfl h))
 replace h := h.2 hc
 refine kN 168 (decide_eq_false hc) ?_
 refine kN 169 (decide_eq_false hc) ?_
 refine kN 170 (decide_eq_false hc) ?_
 refine s_skip ?_
 refine sR (.bool false) (r_pf rfl rfl) ?_
 refine sR (.bool false) (r_move rfl rfl) ?_
 iterate 2 refine s_skip ?_
 refine sR (.bool false) (r_pf rfl rfl) ?_
 refine sR (.bool false) (r_move rfl rfl) ?_
 iterate 2 refine s_skip ?_
 refine sR (.bool false) (r_pf rfl rfl) ?_
 refine sR (.bool false) (r_move rfl rfl) ?_
 iterate 2 refine s_skip ?_
 refine sR (.bool false) (r_pf rfl rfl) ?_
 refine sR (.bool false) (r_move rfl rfl) ?_
 refine s_skip ?_
 refine sR (.bool false) (r_pf rfl rfl) ?_
 refine sR (.bool false) (r_move rfl rfl) ?_
 iterate 3 refine s_skip ?_
 refine sR (.bool false) (r_pf rfl rfl) ?_
 refine sR (.bool false) (r_move rfl rfl) ?_
 refine s_skip ?_
 refine sR (.bool false) (r_pf rfl rfl) ?_
 refine sR (.bool false) (r_move rfl rfl) ?_
 iterate 4 refine s_skip ?_
 refine sR (.bool false) (r_pf rfl rfl) ?_
 refine sR (.bool false) (r_assign rfl rfl) ?_
 exact HL_nil (HC_ret (rt1 f10 R rfl rfl h))
 replace hc := eq_false_of_ne_true hc; replace h := h.2 hc
 refine HL_known (t := 8) (v := .bool false) (h8.trans (congrArg Value.bool hc)) ?_
 refine kN 163 hc ?_
 refine kN 164 hc ?_
 refine kN 165 hc ?_
 iterate 3 refine s_skip ?_
 refine sR (.bool false) (r_pf rfl rfl) ?_
 refine sR (.bool false) (r_move rfl rfl) ?_
 refine s_skip ?_
 refine sR (.bool false) (r_pf rfl rfl) ?_
 refine sR (.bool false) (r_move rfl rfl) ?_
 iterate 2 refine s_skip ?_
 refine sR (.bool false) (r_pf rfl rfl) ?_
 refine sR (.bool false) (r_move rfl rfl) ?_
 iterate 2 refine s_skip ?_
 refine sR (.bool false) (r_pf rfl rfl) ?_
 refine sR (.bool false) (r_move rfl rfl) ?_
 iterate 2 refine s_skip ?_
 refine sR (.bool false) (r_pf rfl rfl) ?_
 refine sR (.bool false) (r_move rfl rfl) ?_
 refine s_skip ?_
 refine sR (.bool false) (r_pf rfl rfl) ?_
 refine sR (.bool false) (r_move rfl rfl) ?_
 iterate 3 refine s_skip ?_
 refine sR (.bool false) (r_pf rfl rfl) ?_
 refine sR (.bool false) (r_move rfl rfl) ?_
 refine s_skip ?_
 refine sR (.bool false) (r_pf rfl rfl) ?_
 refine sR (.bool false) (r_move rfl rfl) ?_
 iterate 4 refine s_skip ?_
 refine sR (.bool false) (r_pf rfl rfl) ?_
 refine sR (.bool false) (r_assign rfl rfl) ?_
 exact HL_nil (HC_ret (rt1 f10 R rfl rfl h))
 replace hc := eq_false_of_ne_true hc; replace h := h.2 hc
 refine HL_known (t := 7) (v := .bool false) (h7.trans (congrArg Value.bool hc)) ?_
 refine kN 161 hc ?_
 refine kN 162 hc ?_
 refine s_skip ?_
 refine sR (.bool false) (r_pf rfl rfl) ?_
 refine sR (.bool false) (r_move rfl rfl) ?_
 iterate 3 refine s_skip ?_
 refine sR (.bool false) (r_pf rfl rfl) ?_
 refine sR (.bool false) (r_move rfl rfl) ?_
 refine s_skip ?_
 refine sR (.bool false) (r_pf rfl rfl) ?_
 refine sR (.bool false) (r_move rfl rfl) ?_
 iterate 2 refine s_skip ?_
 refine sR (.bool false) (r_pf rfl rfl) ?_
 refine sR (.bool false) (r_move rfl rfl) ?_
 iterate 2 refine s_skip ?_
 refine sR (.bool false) (r_pf rfl rfl) ?_
 refine sR (.bool false) (r_move rfl rfl) ?_
 iterate 2 refine s_skip ?_
 refine sR (.bool false) (r_pf rfl rfl) ?_
 refine sR (.bool false) (r_move rfl rfl) ?_
 refine s_skip ?_
 refine sR (.bool false) (r_pf rfl rfl) ?_
 refine sR (.bool false) (r_move rfl rfl) ?_
 iterate 3 refine s_skip ?_
 refine sR (.bool false) (r_pf rfl rfl) ?_
 refine sR (.bool false) (r_move rfl rfl) ?_
 refine s_skip ?_
 refine sR (.bool false) (r_pf rfl rfl) ?_
 refine sR (.bool false) (r_move rfl rfl) ?_
 iterate 4 refine s_skip ?_
 refine sR (.bool false) (r_pf rfl rfl) ?_
 refine sR (.bool false) (r_assign rfl rfl) ?_
 exact HL_nil (HC_ret (rt1 f10 R rfl rfl h))
 refine HC_region ?_
 refine sR (.pointer v_115) (r_move rfl rfl) ?_
 refine s_ef (k_call (vs := [(.string (ByteArray.mk #[97])), (.int .i64 10)]) cb40 (evC rfl (evC rfl evN)) (h.mono ?_))
 clear h; rintro v F ⟨v_131, rfl, h⟩
 refine s_ef (k_call (vs := [(.pointer v_115), (Sl.v v_131)]) cb25 (evC rfl (evC rfl evN)) (h.mono ?_))
 clear h; rintro v F ⟨v_132, rfl, h⟩
 refine sR (.bool (decide (v_132 = 0))) (w_eql rfl rfl) ?_
 refine sR (.bool (decide (v_132 = 0))) (r_move rfl rfl) ?_
 by_cases hc : v_132 = 0
 replace h := h.1 hc
 refine kN 133 (decide_eq_true hc) ?_
 refine kN 134 (decide_eq_true hc) ?_
 refine sR (.pointer v_115) (r_move rfl rfl) ?_
 refine s_ef (k_call (vs := [(.string (ByteArray.mk #[97])), (.int .i64 20)]) cb40 (evC rfl (evC rfl evN)) (h.mono ?_))
 clear h; rintro v F ⟨v_136, rfl, h⟩
 refine s_ef (k_call (vs := [(.pointer v_115), (Sl.v v_136)]) cb25 (evC rfl (evC rfl evN)) (h.mono ?_))
 clear h; rintro v F ⟨v_137, rfl, h⟩
 refine sR (.bool (decide (v_137 = 0))) (w_eql rfl rfl) ?_
 refine sR (.bool (decide (v_137 = 0))) (r_pt rfl rfl) ?_
 refine sR (.bool (decide (v_137 = 0))) (r_move rfl rfl) ?_
 by_cases hc : v_137 = 0
 replace h := h.1 hc
 refine kN 138 (decide_eq_true hc) ?_
 refine kN 139 (decide_eq_true hc) ?_
 refine kN 140 (decide_eq_true hc) ?_
 refine sR (.pointer v_115) (r_move rfl rfl) ?_
 refine s_ef (k_call (vs := [(.pointer v_115)]) cb18 (evC rfl evN) (h.mono ?_))
 clear h; rintro v F ⟨v_142, rfl, h⟩
 refine sR (.bool (decide (v_142 = 0))) (w_eql rfl rfl) ?_
 refine sR (.bool (decide (v_142 = 0))) (r_pt rfl rfl) ?_
 refine sR (.bool (decide (v_142 = 0))) (r_move rfl rfl) ?_
 by_cases hc : v_142 = 0
 replace h := h.1 hc
 refine kN 143 (decide_eq_true hc) ?_
 refine kN 144 (decide_eq_true hc) ?_
 refine kN 145 (decide_eq_true hc) ?_
 refine sR (.pointer v_115) (r_move rfl rfl) ?_
 refine s_ef (k_call (vs := [(.string (ByteArray.mk #[98])), (.int .i64 1)]) cb40 (evC rfl (evC rfl evN)) (h.mono ?_))
 clear h; rintro v F ⟨v_147, rfl, h⟩
 refine s_ef (k_call (vs := [(.pointer v_115), (Sl.v v_147)]) cb25 (evC rfl (evC rfl evN)) (h.mono ?_))
 clear h; rintro v F ⟨v_148, rfl, h⟩
 refine sR (.bool (decide (v_148 = 0))) (w_eql rfl rfl) ?_
 refine sR (.bool (decide (v_148 = 0))) (r_pt rfl rfl) ?_
 refine sR (.bool (decide (v_148 = 0))) (r_move rfl rfl) ?_
 by_cases hc : v_148 = 0
 replace h := h.1 hc
 refine kN 149 (decide_eq_true hc) ?_
 refine kN 150 (decide_eq_true hc) ?_
 refine kN 151 (decide_eq_true hc) ?_
 refine sR (.pointer v_115) (r_move rfl rfl) ?_
 refine s_ef (k_call (vs := [(.pointer v_115)]) cb18 (evC rfl evN) (h.mono ?_))
 clear h; rintro v F ⟨v_153, rfl, h⟩
 refine sR (.bool (decide (v_153 = 0))) (w_eql rfl rfl) ?_
 refine sR (.bool (decide (v_153 = 0))) (r_pt rfl rfl) ?_
 refine sR (.bool (decide (v_153 = 0))) (r_assign rfl rfl) ?_
 refine HL_nil ?_
 show b10J3 first_7 second_8 v_91 v_91_1 v_96_1 v_115 v_120_1 v_125_1 R _ _
 exact ⟨_, h7, h8, rfl, rfl, rfl, rfl, rfl, rfl, rfl, h⟩
 replace h := h.2 hc
 refine kN 149 (decide_eq_false hc) ?_
 refine kN 150 (decide_eq_false hc) ?_
 refine kN 151 (decide_eq_false hc) ?_
 iterate 3 refine s_skip ?_
 refine sR (.bool false) (r_pf rfl rfl) ?_
 refine sR (.bool false) (r_assign rfl rfl) ?_
 refine HL_nil ?_
 show b10J3 first_7 second_8 v_91 v_91_1 v_96_1 v_115 v_120_1 v_125_1 R _ _
 exact ⟨_, h7, h8, rfl, rfl, rfl, rfl, rfl, rfl, rfl, h⟩
 replace h := h.2 hc
 refine kN 143 (decide_eq_false hc) ?_
 refine kN 144 (decide_eq_false hc) ?_
 refine kN 145 (decide_eq_false hc) ?_
 iterate 4 refine s_skip ?_
 refine sR (.bool false) (r_pf rfl rfl) ?_
 refine sR (.bool false) (r_move rfl rfl) ?_
 iterate 3 refine s_skip ?_
 refine sR (.bool false) (r_pf rfl rfl) ?_
 refine sR (.bool false) (r_assign rfl rfl) ?_
 refine HL_nil ?_
 show b10J3 first_7 second_8 v_91 v_91_1 v_96_1 v_115 v_120_1 v_125_1 R _ _
 exact ⟨_, h7, h8, rfl, rfl, rfl, rfl, rfl, rfl, rfl, h⟩
 replace h := h.2 hc
 refine kN 138 (decide_eq_false hc) ?_
 refine kN 139 (decide_eq_false hc) ?_
 refine kN 140 (decide_eq_false hc) ?_
 iterate 3 refine s_skip ?_
 refine sR (.bool false) (r_pf rfl rfl) ?_
 refine sR (.bool false) (r_move rfl rfl) ?_
 iterate 4 refine s_skip ?_
 refine sR (.bool false) (r_pf rfl rfl) ?_
 refine sR (.bool false) (r_move rfl rfl) ?_
 iterate 3 refine s_skip ?_
 refine sR (.bool false) (r_pf rfl rfl) ?_
 refine sR (.bool false) (r_assign rfl rfl) ?_
 refine HL_nil ?_
 show b10J3 first_7 second_8 v_91 v_91_1 v_96_1 v_115 v_120_1 v_125_1 R _ _
 exact ⟨_, h7, h8, rfl, rfl, rfl, rfl, rfl, rfl, rfl, h⟩
 replace h := h.2 hc
 refine kN 133 (decide_eq_false hc) ?_
 refine kN 134 (decide_eq_false hc) ?_
 iterate 4 refine s_skip ?_
 refine sR (.bool false) (r_pf rfl rfl) ?_
 refine sR (.bool false) (r_move rfl rfl) ?_
 iterate 3 refine s_skip ?_
 refine sR (.bool false) (r_pf rfl rfl) ?_
 refine sR (.bool false) (r_move rfl rfl) ?_
 iterate 4 refine s_skip ?_
 refine sR (.bool false) (r_pf rfl rfl) ?_
 refine sR (.bool false) (r_move rfl rfl) ?_
 iterate 3 refine s_skip ?_
 refine sR (.bool false) (r_pf rfl rfl) ?_
 refine sR (.bool false) (r_assign rfl rfl) ?_
 refine HL_nil ?_
 show b10J3 first_7 second_8 v_91 v_91_1 v_96_1 v_115 v_120_1 v_125_1 R _ _
 exact ⟨_, h7, h8, rfl, rfl, rfl, rfl, rfl, rfl, rfl, h⟩
 refine HC_region ?_
 refine sR _ (r_move rfl h5) ?_
 refine s_ef (k_call (vs := [(.string (ByteArray.mk #[98])), (.int .i64 1)]) cb40 (evC rfl (evC rfl evN)) (h.mono ?_))
 clear h; rintro v F ⟨v_69, rfl, h⟩
 refine s_ef (k_call (vs := [(.pointer v_39), (Sl.v v_69)]) cb25 (evC rfl (evC rfl evN)) (h.mono ?_))
 clear h; rintro v F ⟨v_70, rfl, h⟩
 refine sR (.bool (decide (v_70 = 351))) (w_eql rfl rfl) ?_
 refine sR (.bool (decide (v_70 = 351))) (r_move rfl rfl) ?_
 by_cases hc : v_70 = 351
 replace h := h.1 hc
 refine kN 71 (decide_eq_true hc) ?_
 refine kN 72 (decide_eq_true hc) ?_
 refine sR _ (r_move rfl h5) ?_
 refine s_ef (k_call (vs := [(.string (ByteArray.mk #[97])), (.int .i64 0)]) cb40 (evC rfl (evC rfl evN)) (h.mono ?_))
 clear h; rintro v F ⟨v_74, rfl, h⟩
 refine s_ef (k_call (vs := [(.pointer v_39), (Sl.v v_74)]) cb25 (evC rfl (evC rfl evN)) (h.mono ?_))
 clear h; rintro v F ⟨v_75, rfl, h⟩
 refine sR (.bool (decide (v_75 = 351))) (w_eql rfl rfl) ?_
 refine sR (.bool (decide (v_75 = 351))) (r_pt rfl rfl) ?_
 refine sR (.bool (decide (v_75 = 351))) (r_move rfl rfl) ?_
 by_cases hc : v_75 = 351
 replace h := h.1 hc
 refine kN 76 (decide_eq_true hc) ?_
 refine kN 77 (decide_eq_true hc) ?_
 refine kN 78 (decide_eq_true hc) ?_
 refine sR _ (r_move rfl h5) ?_
 refine s_ef (k_call (vs := [(.string (ByteArray.mk #[])), (.int .i64 1)]) cb40 (evC rfl (evC rfl evN)) (h.mono ?_))
 clear h; rintro v F ⟨v_80, rfl, h⟩
 refine s_ef (k_call (vs := [(.pointer v_39), (Sl.v v_80)]) cb25 (evC rfl (evC rfl evN)) (h.mono ?_))
 clear h; rintro v F ⟨v_81, rfl, h⟩
 refine sR (.bool (decide (v_81 = 1))) (w_eql rfl rfl) ?_
 refine sR (.bool (decide (v_81 = 1))) (r_pt rfl rfl) ?_
 refine sR (.bool (decide (v_81 = 1))) (r_move rfl rfl) ?_
 by_cases hc : v_81 = 1
 replace h := h.1 hc
 refine kN 82 (decide_eq_true hc) ?_
 refine kN 83 (decide_eq_true hc) ?_
 refine kN 84 (decide_eq_true hc) ?_
 refine sR _ (r_move rfl h5) ?_
 refine s_ef (k_call (vs := [(.pointer v_39), (Sl.v Sl.nil)]) cb25 (evC rfl (evC rfl evN)) (h.mono ?_))
 clear h; rintro v F ⟨v_86, rfl, h⟩
 refine sR (.bool (decide (v_86 = 0))) (w_eql rfl rfl) ?_
 refine sR (.bool (decide (v_86 = 0))) (r_pt rfl rfl) ?_
 refine sR (.bool (decide (v_86 = 0))) (r_assign rfl rfl) ?_
 refine HL_nil ?_
 show b10J2 v_39 first_7 R _ _
 exact ⟨_, h5, h7, rfl, h⟩
 replace h := h.2 hc
 refine kN 82 (decide_eq_false hc) ?_
 refine kN 83 (decide_eq_false hc) ?_
 refine kN 84 (decide_eq_false hc) ?_
 iterate 3 refine s_skip ?_
 refine sR (.bool false) (r_pf rfl rfl) ?_
 refine sR (.bool false) (r_assign rfl rfl) ?_
 refine HL_nil ?_
 show b10J2 v_39 first_7 R _ _
 exact ⟨_, h5, h7, rfl, h⟩
 replace h := h.2 hc
 refine kN 76 (decide_eq_false hc) ?_
 refine kN 77 (decide_eq_false hc) ?_
 refine kN 78 (decide_eq_false hc) ?_
 iterate 4 refine s_skip ?_
 refine sR (.bool false) (r_pf rfl rfl) ?_
 refine sR (.bool false) (r_move rfl rfl) ?_
 iterate 3 refine s_skip ?_
 refine sR (.bool false) (r_pf rfl rfl) ?_
 refine sR (.bool false) (r_assign rfl rfl) ?_
 refine HL_nil ?_
 show b10J2 v_39 first_7 R _ _
 exact ⟨_, h5, h7, rfl, h⟩
 replace h := h.2 hc
 refine kN 71 (decide_eq_false hc) ?_
 refine kN 72 (decide_eq_false hc) ?_
 iterate 4 refine s_skip ?_
 refine sR (.bool false) (r_pf rfl rfl) ?_
 refine sR (.bool false) (r_move rfl rfl) ?_
 iterate 4 refine s_skip ?_
 refine sR (.bool false) (r_pf rfl rfl) ?_
 refine sR (.bool false) (r_move rfl rfl) ?_
 iterate 3 refine s_skip ?_
 refine sR (.bool false) (r_pf rfl rfl) ?_
 refine sR (.bool false) (r_assign rfl rfl) ?_
 refine HL_nil ?_
 show b10J2 v_39 first_7 R _ _
 exact ⟨_, h5, h7, rfl, h⟩
 refine HC_region ?_
 refine sR (.pointer v_39) (r_move rfl rfl) ?_
 refine s_ef (k_call (vs := [(.pointer v_39)]) cb18 (evC rfl evN) (h.mono ?_))
 clear h; rintro v F ⟨v_49, rfl, h⟩
 refine sR (.bool (decide (v_49 = 126))) (w_eql rfl rfl) ?_
 refine sR (.bool (decide (v_49 = 126))) (r_move rfl rfl) ?_
 by_cases hc : v_49 = 126
 replace h := h.1 hc
 refine kN 50 (decide_eq_true hc) ?_
 refine kN 51 (decide_eq_true hc) ?_
 refine sR (.pointer v_39) (r_move rfl rfl) ?_
 refine s_ef (k_call (vs := [(.pointer v_39)]) cb31 (evC rfl evN) (h.mono ?_))
 clear h; rintro v F ⟨v_53, rfl, h⟩
 refine sR (.int .i64 (v_53.len : Int)) (r_lenSl rfl rfl underlying62) ?_
 refine sR (.bool (decide ((v_53.len : Int) = 0))) (w_eql rfl rfl) ?_
 refine sR (.bool (decide ((v_53.len : Int) = 0))) (r_pt rfl rfl) ?_
 refine sR (.bool (decide ((v_53.len : Int) = 0))) (r_move rfl rfl) ?_
 by_cases hc : (v_53.len : Int) = 0
 replace h := h.1 hc
 refine kN 55 (decide_eq_true hc) ?_
 refine kN 56 (decide_eq_true hc) ?_
 refine kN 57 (decide_eq_true hc) ?_
 refine sR (.pointer v_39) (r_move rfl rfl) ?_
 refine s_ef (k_call (vs := [(.string (ByteArray.mk #[97])), (.int .i64 10)]) cb40 (evC rfl (evC rfl evN)) (h.mono ?_))
 clear h; rintro v F ⟨v_59, rfl, h⟩
 refine s_ef (k_call (vs := [(.pointer v_39), (Sl.v v_59)]) cb25 (evC rfl (evC rfl evN)) (h.mono ?_))
 clear h; rintro v F ⟨v_60, rfl, h⟩
 refine sR (.bool (decide (v_60 = 0))) (w_eql rfl rfl) ?_
 refine sR (.bool (decide (v_60 = 0))) (r_pt rfl rfl) ?_
 refine sR (.bool (decide (v_60 = 0))) (r_move rfl rfl) ?_
 by_cases hc : v_60 = 0
 replace h := h.1 hc
 refine kN 61 (decide_eq_true hc) ?_
 refine kN 62 (decide_eq_true hc) ?_
 refine kN 63 (decide_eq_true hc) ?_
 refine sR (.pointer v_39) (r_move rfl rfl) ?_
 refine s_ef (k_call (vs := [(.pointer v_39)]) cb18 (evC rfl evN) (h.mono ?_))
 clear h; rintro v F ⟨v_65, rfl, h⟩
 refine sR (.bool (decide (v_65 = 0))) (w_eql rfl rfl) ?_
 refine sR (.bool (decide (v_65 = 0))) (r_pt rfl rfl) ?_
 refine sR (.bool (decide (v_65 = 0))) (r_assign rfl rfl) ?_
 refine HL_nil ?_
 show b10J1 v_39 R _ _
 exact ⟨_, rfl, rfl, h⟩
 replace h := h.2 hc
 refine kN 61 (decide_eq_false hc) ?_
 refine kN 62 (decide_eq_false hc) ?_
 refine kN 63 (decide_eq_false hc) ?_
 iterate 3 refine s_skip ?_
 refine sR (.bool false) (r_pf rfl rfl) ?_
 refine sR (.bool false) (r_assign rfl rfl) ?_
 refine HL_nil ?_
 show b10J1 v_39 R _ _
 exact ⟨_, rfl, rfl, h⟩
 replace h := h.2 hc
 refine kN 55 (decide_eq_false hc) ?_
 refine kN 56 (decide_eq_false hc) ?_
 refine kN 57 (decide_eq_false hc) ?_
 iterate 4 refine s_skip ?_
 refine sR (.bool false) (r_pf rfl rfl) ?_
 refine sR (.bool false) (r_move rfl rfl) ?_
 iterate 3 refine s_skip ?_
 refine sR (.bool false) (r_pf rfl rfl) ?_
 refine sR (.bool false) (r_assign rfl rfl) ?_
 refine HL_nil ?_
 show b10J1 v_39 R _ _
 exact ⟨_, rfl, rfl, h⟩
 replace h := h.2 hc
 refine kN 50 (decide_eq_false hc) ?_
 refine kN 51 (decide_eq_false hc) ?_
 iterate 4 refine s_skip ?_
 refine sR (.bool false) (r_pf rfl rfl) ?_
 refine sR (.bool false) (r_move rfl rfl) ?_
 iterate 4 refine s_skip ?_
 refine sR (.bool false) (r_pf rfl rfl) ?_
 refine sR (.bool false) (r_move rfl rfl) ?_
 iterate 3 refine s_skip ?_
 refine sR (.bool false) (r_pf rfl rfl) ?_
 refine sR (.bool false) (r_assign rfl rfl) ?_
 refine HL_nil ?_
 show b10J1 v_39 R _ _
 exact ⟨_, rfl, rfl, h⟩
end Go.Proofs.Ytelkfnmdnbbniaa
