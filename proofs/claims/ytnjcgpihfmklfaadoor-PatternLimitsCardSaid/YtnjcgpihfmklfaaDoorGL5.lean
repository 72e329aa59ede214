/-
  What functions of the program do, in a clean form, each with the proof that its code does so. Printed by a program.
-/
import Derived.Test.YtnjcgpihfmklfaaDoorGf
import Derived.Test.YtnjcgpihfmklfaaDoorPhp
namespace Go.Proofs.YtnjcgpihfmklfaaDoor
open Go Go.Proofs.Tryd
set_option maxRecDepth 10000
set_option maxHeartbeats 4000000
/- 5 koine.koinelaw04.PatternLimits -/
def b5j2 (v_12 : Bool) (s_7_1 : ByteArray) (R : Value → PH → Prop) (F : PH) : Prop :=
 Spec prog 25 #[(.string s_7_1)] F fun v F => ∃ v_45 : Sl, ∃ v_45_1 : Int, v = (.tuple #[(Sl.v v_45), (.int .i64 v_45_1)]) ∧
 Spec prog 26 #[(.string s_7_1)] F fun v F => ∃ v_50 : Sl, ∃ v_50_1 : Int, v = (.tuple #[(Sl.v v_50), (.int .i64 v_50_1)]) ∧
 Spec prog 27 #[(Sl.v v_45), (Sl.v v_50)] F fun v F => ∃ v_55 : Bool, v = (.bool v_55) ∧
 ((v_55 = true →
  ((v_45_1 = v_50_1 →
   R (.bool v_12) F) ∧
  (¬ (v_45_1 = v_50_1) →
   R (.bool false) F))) ∧
 (v_55 = false →
  R (.bool false) F))
abbrev b5J2 (v_12 : Bool) (R : Value → PH → Prop) (E : En) (F : PH) : Prop := ∃ s_7_1 : ByteArray, E 5 = (.bool v_12) ∧ E 7 = (.string s_7_1) ∧ b5j2 v_12 s_7_1 R F
def b5j1 (kind_1 : Int) (v_12 : Bool) (k_0 : Int) (s_7 : ByteArray) (R : Value → PH → Prop) (F : PH) : Prop :=
 (((Int.tmod kind_1 (3 : Int)) = (2 : Int) →
  Spec prog 28 #[(.string (ByteArray.mk #[40])), (.int .i64 (IntKind.i64.wrap ((4090 : Int) + (IntKind.i64.wrap (Int.tdiv (Int.tmod (IntKind.i64.wrap ((Int.tmod k_0 (12 : Int)) + (12 : Int))) (12 : Int)) (2 : Int))))))] F fun v F => ∃ v_32 : ByteArray, v = (.string v_32) ∧
  Spec prog 28 #[(.string (ByteArray.mk #[97])), (.int .i64 (IntKind.i64.wrap ((1 : Int) + (Int.tmod (Int.tmod (IntKind.i64.wrap ((Int.tmod k_0 (12 : Int)) + (12 : Int))) (12 : Int)) (2 : Int)))))] F fun v F => ∃ v_36 : ByteArray, v = (.string v_36) ∧
  v_32.size + v_36.size ≤ 9223372036854775807 ∧
  Spec prog 28 #[(.string (ByteArray.mk #[41])), (.int .i64 (IntKind.i64.wrap ((4090 : Int) + (IntKind.i64.wrap (Int.tdiv (Int.tmod (IntKind.i64.wrap ((Int.tmod k_0 (12 : Int)) + (12 : Int))) (12 : Int)) (2 : Int))))))] F fun v F => ∃ v_41 : ByteArray, v = (.string v_41) ∧
  (v_32 ++ v_36).size + v_41.size ≤ 9223372036854775807 ∧
  b5j2 v_12 ((v_32 ++ v_36) ++ v_41) R F) ∧
 (¬ ((Int.tmod kind_1 (3 : Int)) = (2 : Int)) →
  b5j2 v_12 s_7 R F))
abbrev b5J1 (kind_1 : Int) (v_12 : Bool) (k_0 : Int) (R : Value → PH → Prop) (E : En) (F : PH) : Prop := ∃ s_7 : ByteArray, E 1 = (.int .u8 kind_1) ∧ E 5 = (.bool v_12) ∧ E 6 = (.int .i64 (Int.tmod (IntKind.i64.wrap ((Int.tmod k_0 (12 : Int)) + (12 : Int))) (12 : Int))) ∧ E 7 = (.string s_7) ∧ b5j1 kind_1 v_12 k_0 s_7 R F
def b5 (k_0 : Int) (kind_1 : Int) (R : Value → PH → Prop) (F : PH) : Prop :=
 Spec prog 15 #[] F fun v F => ∃ v_12 : Bool, v = (.bool v_12) ∧
 Spec prog 28 #[(.string (ByteArray.mk #[97])), (.int .i64 (IntKind.i64.wrap ((250 : Int) + (Int.tmod (IntKind.i64.wrap ((Int.tmod k_0 (12 : Int)) + (12 : Int))) (12 : Int)))))] F fun v F => ∃ v_19 : ByteArray, v = (.string v_19) ∧
 (((Int.tmod kind_1 (3 : Int)) = (1 : Int) →
  Spec prog 28 #[(.string (ByteArray.mk #[40, 41])), (.int .i64 (IntKind.i64.wrap ((250 : Int) + (Int.tmod (IntKind.i64.wrap ((Int.tmod k_0 (12 : Int)) + (12 : Int))) (12 : Int)))))] F fun v F => ∃ v_25 : ByteArray, v = (.string v_25) ∧
  b5j1 kind_1 v_12 k_0 v_25 R F) ∧
 (¬ ((Int.tmod kind_1 (3 : Int)) = (1 : Int)) →
  b5j1 kind_1 v_12 k_0 v_19 R F))
theorem c5 {k_0 : Int} {kind_1 : Int} {R : Value → PH → Prop} {F : PH} (h : b5 k_0 kind_1 R F) : Spec prog 5 #[(.int .i64 k_0), (.int .u8 kind_1)] F R := by
 refine spec_of (args := [(.int .i64 k_0), (.int .u8 kind_1)]) func5 rfl ntmps5 rfl ?_
 unfold b5 at h
 refine cR ?_
 refine sR (.bool false) (r_assign rfl rfl) ?_
 refine HL_nil ?_
 refine cR ?_
 refine s_ef (k_call (vs := []) cb15 evN (h.mono ?_))
 clear h; rintro v F ⟨v_12, rfl, h⟩
 refine sR (.bool v_12) (r_assign rfl rfl) ?_
 refine HL_nil ?_
 refine cR ?_
 refine sR (.int .i64 k_0) (r_move rfl rfl) ?_
 refine sR (.int .i64 (Int.tmod k_0 (12 : Int))) (r_rem rfl rfl rfl (by decide)) ?_
 refine sR (.int .i64 (IntKind.i64.wrap ((Int.tmod k_0 (12 : Int)) + (12 : Int)))) (r_add rfl rfl rfl) ?_
 refine sR (.int .i64 (Int.tmod (IntKind.i64.wrap ((Int.tmod k_0 (12 : Int)) + (12 : Int))) (12 : Int))) (r_rem rfl rfl rfl (by decide)) ?_
 refine sR (.int .i64 (Int.tmod (IntKind.i64.wrap ((Int.tmod k_0 (12 : Int)) + (12 : Int))) (12 : Int))) (r_assign rfl rfl) ?_
 refine HL_nil ?_
 refine cR ?_
 refine sR (.int .i64 (Int.tmod (IntKind.i64.wrap ((Int.tmod k_0 (12 : Int)) + (12 : Int))) (12 : Int))) (r_move rfl rfl) ?_
 refine sR (.int .i64 (IntKind.i64.wrap ((250 : Int) + (Int.tmod (IntKind.i64.wrap ((Int.tmod k_0 (12 : Int)) + (12 : Int))) (12 : Int))))) (r_add rfl rfl rfl) ?_
 refine s_ef (k_call (vs := [(.string (ByteArray.mk #[97])), (.int .i64 (IntKind.i64.wrap ((250 : Int) + (Int.tmod (IntKind.i64.wrap ((Int.tmod k_0 (12 : Int)) + (12 : Int))) (12 : Int)))))]) cb28 (evC rfl (evC rfl evN)) (h.mono ?_))
 clear h; rintro v F ⟨v_19, rfl, h⟩
 refine sR (.string v_19) (r_assign rfl rfl) ?_
 refine HL_nil ?_
 refine HC_seqJ (b5J1 kind_1 v_12 k_0 R) ?_ ?_
 ·
  clear h; rintro E F ⟨s_7, h1, h5, h6, h7, h⟩
  unfold b5j1 at h
  refine HC_seqJ (b5J2 v_12 R) ?_ ?_
  ·
   clear h; rintro E F ⟨s_7_1, h5, h7, h⟩
   unfold b5j2 at h
   refine cR ?_
   refine sR (.string s_7_1) (r_move rfl h7) ?_
   refine s_ef (k_call (vs := [(.string s_7_1)]) cb25 (evC rfl evN) (h.mono ?_))
   clear h; rintro v F ⟨v_45, v_45_1, rfl, h⟩
   refine sR (.tuple #[(Sl.v v_45), (.int .i64 v_45_1)]) (r_move rfl rfl) ?_
   refine sR (Sl.v v_45) (r_extract rfl rfl rfl) ?_
   refine sR (.int .i64 v_45_1) (r_extract rfl rfl rfl) ?_
   refine sR (Sl.v v_45) (r_assign rfl rfl) ?_
   refine sR (.int .i64 v_45_1) (r_assign rfl rfl) ?_
   refine HL_nil ?_
   refine cR ?_
   refine sR (.string s_7_1) (r_move rfl h7) ?_
   refine s_ef (k_call (vs := [(.string s_7_1)]) cb26 (evC rfl evN) (h.mono ?_))
   clear h; rintro v F ⟨v_50, v_50_1, rfl, h⟩
   refine sR (.tuple #[(Sl.v v_50), (.int .i64 v_50_1)]) (r_move rfl rfl) ?_
   refine sR (Sl.v v_50) (r_extract rfl rfl rfl) ?_
   refine sR (.int .i64 v_50_1) (r_extract rfl rfl rfl) ?_
   refine sR (Sl.v v_50) (r_assign rfl rfl) ?_
   refine sR (.int .i64 v_50_1) (r_assign rfl rfl) ?_
   refine HL_nil ?_
   refine cR ?_
   refine sR (Sl.v v_45) (r_move rfl rfl) ?_
   refine sR (Sl.v v_50) (r_move rfl rfl) ?_
   refine s_ef (k_call (vs := [(Sl.v v_45), (Sl.v v_50)]) cb27 (evC rfl (evC rfl evN)) (h.mono ?_))
   clear h; rintro v F ⟨v_55, rfl, h⟩
   refine sR (.bool v_55) (r_move rfl rfl) ?_
   by_cases hc : v_55 = true
   ·
    replace h := h.1 hc
    refine kN 55 hc ?_
    refine kN 56 hc ?_
    refine sR (.int .i64 v_45_1) (r_move rfl rfl) ?_
    refine sR (.int .i64 v_50_1) (r_move rfl rfl) ?_
    refine sR (.bool (decide (v_45_1 = v_50_1))) (w_eql rfl rfl) ?_
    refine sR (.bool (decide (v_45_1 = v_50_1))) (r_pick rfl rfl (fun _ => rfl) (fun h => by cases h)) ?_
    refine sR (.bool (decide (v_45_1 = v_50_1))) (r_move rfl rfl) ?_
    by_cases hc : v_45_1 = v_50_1
    ·
     replace h := h.1 hc
     refine kN 59 (decide_eq_true hc) ?_
     refine kN 60 (decide_eq_true hc) ?_
     refine kN 61 (decide_eq_true hc) ?_
     refine sR (.bool v_12) (r_move rfl h5) ?_
     refine sR (.bool v_12) (r_pick rfl rfl (fun _ => rfl) (fun h => by cases h)) ?_
     refine sR (.bool v_12) (r_assign rfl rfl) ?_
     refine HL_nil ?_
     exact HC_ret (show endQ prog f5 R .ret _ _ from ⟨_, res1 rfl (rv_tmp rfl), h⟩)
    ·
     replace h := h.2 hc
     refine kN 59 (decide_eq_false hc) ?_
     refine kN 60 (decide_eq_false hc) ?_
     refine kN 61 (decide_eq_false hc) ?_
     refine s_skip ?_
     refine sR (.bool false) (r_pick rfl rfl (fun h => by cases h) (fun _ => rfl)) ?_
     refine sR (.bool false) (r_assign rfl rfl) ?_
     refine HL_nil ?_
     exact HC_ret (show endQ prog f5 R .ret _ _ from ⟨_, res1 rfl (rv_tmp rfl), h⟩)
   ·
    replace hc := eq_false_of_ne_true hc; replace h := h.2 hc
    refine kN 55 hc ?_
    refine kN 56 hc ?_
    refine s_skip ?_
    refine s_skip ?_
    refine s_skip ?_
    refine sR (.bool false) (r_pick rfl rfl (fun h => by cases h) (fun _ => rfl)) ?_
    refine sR (.bool false) (r_move rfl rfl) ?_
    refine s_skip ?_
    refine sR (.bool false) (r_pick rfl rfl (fun h => by cases h) (fun _ => rfl)) ?_
    refine sR (.bool false) (r_assign rfl rfl) ?_
    refine HL_nil ?_
    exact HC_ret (show endQ prog f5 R .ret _ _ from ⟨_, res1 rfl (rv_tmp rfl), h⟩)
  ·
   skip
   refine cR ?_
   refine sR (.int .u8 kind_1) (r_move rfl h1) ?_
   refine sR (.int .u8 (Int.tmod kind_1 (3 : Int))) (r_rem rfl rfl rfl (by decide)) ?_
   refine sR (.bool (decide ((Int.tmod kind_1 (3 : Int)) = (2 : Int)))) (w_eql rfl rfl) ?_
   refine HL_nil ?_
   refine HC_cond (t := (decide ((Int.tmod kind_1 (3 : Int)) = (2 : Int)))) rfl (fun hc => ?_) (fun hc => ?_)
   ·
    replace h := h.1 (of_decide_eq_true hc)
    clear hc
    refine HC_region ?_
    refine sR (.int .i64 (Int.tmod (IntKind.i64.wrap ((Int.tmod k_0 (12 : Int)) + (12 : Int))) (12 : Int))) (r_move rfl h6) ?_
    refine sR (.int .i64 (IntKind.i64.wrap (Int.tdiv (Int.tmod (IntKind.i64.wrap ((Int.tmod k_0 (12 : Int)) + (12 : Int))) (12 : Int)) (2 : Int)))) (r_quo rfl rfl rfl (by decide)) ?_
    refine sR (.int .i64 (IntKind.i64.wrap ((4090 : Int) + (IntKind.i64.wrap (Int.tdiv (Int.tmod (IntKind.i64.wrap ((Int.tmod k_0 (12 : Int)) + (12 : Int))) (12 : Int)) (2 : Int)))))) (r_add rfl rfl rfl) ?_
    refine s_ef (k_call (vs := [(.string (ByteArray.mk #[40])), (.int .i64 (IntKind.i64.wrap ((4090 : Int) + (IntKind.i64.wrap (Int.tdiv (Int.tmod (IntKind.i64.wrap ((Int.tmod k_0 (12 : Int)) + (12 : Int))) (12 : Int)) (2 : Int))))))]) cb28 (evC rfl (evC rfl evN)) (h.mono ?_))
    clear h; rintro v F ⟨v_32, rfl, h⟩
    refine sR (.int .i64 (Int.tmod (IntKind.i64.wrap ((Int.tmod k_0 (12 : Int)) + (12 : Int))) (12 : Int))) (r_move rfl h6) ?_
    refine sR (.int .i64 (Int.tmod (Int.tmod (IntKind.i64.wrap ((Int.tmod k_0 (12 : Int)) + (12 : Int))) (12 : Int)) (2 : Int))) (r_rem rfl rfl rfl (by decide)) ?_
    refine sR (.int .i64 (IntKind.i64.wrap ((1 : Int) + (Int.tmod (Int.tmod (IntKind.i64.wrap ((Int.tmod k_0 (12 : Int)) + (12 : Int))) (12 : Int)) (2 : Int))))) (r_add rfl rfl rfl) ?_
    refine s_ef (k_call (vs := [(.string (ByteArray.mk #[97])), (.int .i64 (IntKind.i64.wrap ((1 : Int) + (Int.tmod (Int.tmod (IntKind.i64.wrap ((Int.tmod k_0 (12 : Int)) + (12 : Int))) (12 : Int)) (2 : Int)))))]) cb28 (evC rfl (evC rfl evN)) (h.mono ?_))
    clear h; rintro v F ⟨v_36, rfl, h⟩
    obtain ⟨hx37, h⟩ := h
    refine sR (.string (v_32 ++ v_36)) (r_addS rfl rfl rfl hx37) ?_
    refine sR (.int .i64 (Int.tmod (IntKind.i64.wrap ((Int.tmod k_0 (12 : Int)) + (12 : Int))) (12 : Int))) (r_move rfl h6) ?_
    refine sR (.int .i64 (IntKind.i64.wrap (Int.tdiv (Int.tmod (IntKind.i64.wrap ((Int.tmod k_0 (12 : Int)) + (12 : Int))) (12 : Int)) (2 : Int)))) (r_quo rfl rfl rfl (by decide)) ?_
    refine sR (.int .i64 (IntKind.i64.wrap ((4090 : Int) + (IntKind.i64.wrap (Int.tdiv (Int.tmod (IntKind.i64.wrap ((Int.tmod k_0 (12 : Int)) + (12 : Int))) (12 : Int)) (2 : Int)))))) (r_add rfl rfl rfl) ?_
    refine s_ef (k_call (vs := [(.string (ByteArray.mk #[41])), (.int .i64 (IntKind.i64.wrap ((4090 : Int) + (IntKind.i64.wrap (Int.tdiv (Int.tmod (IntKind.i64.wrap ((Int.tmod k_0 (12 : Int)) + (12 : Int))) (12 : Int)) (2 : Int))))))]) cb28 (evC rfl (evC rfl evN)) (h.mono ?_))
    clear h; rintro v F ⟨v_41, rfl, h⟩
    obtain ⟨hx42, h⟩ := h
    refine sR (.string ((v_32 ++ v_36) ++ v_41)) (r_addS rfl rfl rfl hx42) ?_
    refine sR (.string ((v_32 ++ v_36) ++ v_41)) (r_assign rfl rfl) ?_
    refine HL_nil ?_
    show b5J2 v_12 R _ _
    exact ⟨_, h5, rfl, h⟩
   ·
    replace h := h.2 (of_decide_eq_false hc)
    clear hc
    refine HC_skip ?_
    show b5J2 v_12 R _ _
    exact ⟨_, h5, h7, h⟩
 ·
  skip
  refine cR ?_
  refine sR (.int .u8 kind_1) (r_move rfl rfl) ?_
  refine sR (.int .u8 (Int.tmod kind_1 (3 : Int))) (r_rem rfl rfl rfl (by decide)) ?_
  refine sR (.bool (decide ((Int.tmod kind_1 (3 : Int)) = (1 : Int)))) (w_eql rfl rfl) ?_
  refine HL_nil ?_
  refine HC_cond (t := (decide ((Int.tmod kind_1 (3 : Int)) = (1 : Int)))) rfl (fun hc => ?_) (fun hc => ?_)
  ·
   replace h := h.1 (of_decide_eq_true hc)
   clear hc
   refine HC_region ?_
   refine sR (.int .i64 (Int.tmod (IntKind.i64.wrap ((Int.tmod k_0 (12 : Int)) + (12 : Int))) (12 : Int))) (r_move rfl rfl) ?_
   refine sR (.int .i64 (IntKind.i64.wrap ((250 : Int) + (Int.tmod (IntKind.i64.wrap ((Int.tmod k_0 (12 : Int)) + (12 : Int))) (12 : Int))))) (r_add rfl rfl rfl) ?_
   refine s_ef (k_call (vs := [(.string (ByteArray.mk #[40, 41])), (.int .i64 (IntKind.i64.wrap ((250 : Int) + (Int.tmod (IntKind.i64.wrap ((Int.tmod k_0 (12 : Int)) + (12 : Int))) (12 : Int)))))]) cb28 (evC rfl (evC rfl evN)) (h.mono ?_))
   clear h; rintro v F ⟨v_25, rfl, h⟩
   refine sR (.string v_25) (r_assign rfl rfl) ?_
   refine HL_nil ?_
   show b5J1 kind_1 v_12 k_0 R _ _
   exact ⟨_, rfl, rfl, rfl, rfl, h⟩
  ·
   replace h := h.2 (of_decide_eq_false hc)
   clear hc
   refine HC_skip ?_
   show b5J1 kind_1 v_12 k_0 R _ _
   exact ⟨_, rfl, rfl, rfl, rfl, h⟩

end Go.Proofs.YtnjcgpihfmklfaaDoor
