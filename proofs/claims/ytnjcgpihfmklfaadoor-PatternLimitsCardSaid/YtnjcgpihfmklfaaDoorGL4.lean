/-
  What functions of the program do, in a clean form, each with the proof that its code does so. Printed by a program.
-/
import Derived.Test.YtnjcgpihfmklfaaDoorGf
import Derived.Test.YtnjcgpihfmklfaaDoorPho
namespace Go.Proofs.YtnjcgpihfmklfaaDoor
open Go Go.Proofs.Tryd
set_option maxRecDepth 10000
set_option maxHeartbeats 4000000
/- 4 koine.koinelaw04.PatternSyntaxMatchesReference -/
def b4 (s_0 : ByteArray) (R : Value → PH → Prop) (F : PH) : Prop :=
 Spec prog 15 #[] F fun v F => ∃ v_8 : Bool, v = (.bool v_8) ∧
 (((200 : Int) < (s_0.size : Int) →
  R (.bool v_8) F) ∧
 (¬ ((200 : Int) < (s_0.size : Int)) →
  Spec prog 25 #[(.string s_0)] F fun v F => ∃ v_15 : Sl, ∃ v_15_1 : Int, v = (.tuple #[(Sl.v v_15), (.int .i64 v_15_1)]) ∧
  Spec prog 26 #[(.string s_0)] F fun v F => ∃ v_20 : Sl, ∃ v_20_1 : Int, v = (.tuple #[(Sl.v v_20), (.int .i64 v_20_1)]) ∧
  Spec prog 27 #[(Sl.v v_15), (Sl.v v_20)] F fun v F => ∃ v_25 : Bool, v = (.bool v_25) ∧
  ((v_25 = true →
   ((v_15_1 = v_20_1 →
    R (.bool v_8) F) ∧
   (¬ (v_15_1 = v_20_1) →
    R (.bool false) F))) ∧
  (v_25 = false →
   R (.bool false) F))))
theorem c4 {s_0 : ByteArray} {R : Value → PH → Prop} {F : PH} (h : b4 s_0 R F) : Spec prog 4 #[(.string s_0)] F R := by
 refine spec_of (args := [(.string s_0)]) func4 rfl ntmps4 rfl ?_
 unfold b4 at h
 refine cR ?_
 refine sR (.bool false) (r_assign rfl rfl) ?_
 refine HL_nil ?_
 refine cR ?_
 refine s_ef (k_call (vs := []) cb15 evN (h.mono ?_))
 clear h; rintro v F ⟨v_8, rfl, h⟩
 refine sR (.bool v_8) (r_assign rfl rfl) ?_
 refine HL_nil ?_
 refine HC_seq ?_
 refine cR ?_
 refine sR (.string s_0) (r_move rfl rfl) ?_
 refine sR (.int .i64 (s_0.size : Int)) (r_lenStr rfl rfl underlying9) ?_
 refine sR (.bool (decide ((200 : Int) < (s_0.size : Int)))) (r_gtr rfl rfl rfl) ?_
 refine HL_nil ?_
 refine HC_cond (t := (decide ((200 : Int) < (s_0.size : Int)))) rfl (fun hc => ?_) (fun hc => ?_)
 ·
  replace h := h.1 (of_decide_eq_true hc)
  clear hc
  refine cR ?_
  refine sR (.bool v_8) (r_move rfl rfl) ?_
  refine sR (.bool v_8) (r_assign rfl rfl) ?_
  refine HL_nil ?_
  exact HC_ret (show endQ prog f4 R .ret _ _ from ⟨_, res1 rfl (rv_tmp rfl), h⟩)
 ·
  replace h := h.2 (of_decide_eq_false hc)
  clear hc
  refine HC_skip ?_
  refine cR ?_
  refine sR (.string s_0) (r_move rfl rfl) ?_
  refine s_ef (k_call (vs := [(.string s_0)]) cb25 (evC rfl evN) (h.mono ?_))
  clear h; rintro v F ⟨v_15, v_15_1, rfl, h⟩
  refine sR (.tuple #[(Sl.v v_15), (.int .i64 v_15_1)]) (r_move rfl rfl) ?_
  refine sR (Sl.v v_15) (r_extract rfl rfl rfl) ?_
  refine sR (.int .i64 v_15_1) (r_extract rfl rfl rfl) ?_
  refine sR (Sl.v v_15) (r_assign rfl rfl) ?_
  refine sR (.int .i64 v_15_1) (r_assign rfl rfl) ?_
  refine HL_nil ?_
  refine cR ?_
  refine sR (.string s_0) (r_move rfl rfl) ?_
  refine s_ef (k_call (vs := [(.string s_0)]) cb26 (evC rfl evN) (h.mono ?_))
  clear h; rintro v F ⟨v_20, v_20_1, rfl, h⟩
  refine sR (.tuple #[(Sl.v v_20), (.int .i64 v_20_1)]) (r_move rfl rfl) ?_
  refine sR (Sl.v v_20) (r_extract rfl rfl rfl) ?_
  refine sR (.int .i64 v_20_1) (r_extract rfl rfl rfl) ?_
  refine sR (Sl.v v_20) (r_assign rfl rfl) ?_
  refine sR (.int .i64 v_20_1) (r_assign rfl rfl) ?_
  refine HL_nil ?_
  refine cR ?_
  refine sR (Sl.v v_15) (r_move rfl rfl) ?_
  refine sR (Sl.v v_20) (r_move rfl rfl) ?_
  refine s_ef (k_call (vs := [(Sl.v v_15), (Sl.v v_20)]) cb27 (evC rfl (evC rfl evN)) (h.mono ?_))
  clear h; rintro v F ⟨v_25, rfl, h⟩
  refine sR (.bool v_25) (r_move rfl rfl) ?_
  by_cases hc : v_25 = true
  ·
   replace h := h.1 hc
   refine kN 25 hc ?_
   refine kN 26 hc ?_
   refine sR (.int .i64 v_15_1) (r_move rfl rfl) ?_
   refine sR (.int .i64 v_20_1) (r_move rfl rfl) ?_
   refine sR (.bool (decide (v_15_1 = v_20_1))) (w_eql rfl rfl) ?_
   refine sR (.bool (decide (v_15_1 = v_20_1))) (r_pick rfl rfl (fun _ => rfl) (fun h => by cases h)) ?_
   refine sR (.bool (decide (v_15_1 = v_20_1))) (r_move rfl rfl) ?_
   by_cases hc : v_15_1 = v_20_1
   ·
    replace h := h.1 hc
    refine kN 29 (decide_eq_true hc) ?_
    refine kN 30 (decide_eq_true hc) ?_
    refine kN 31 (decide_eq_true hc) ?_
    refine sR (.bool v_8) (r_move rfl rfl) ?_
    refine sR (.bool v_8) (r_pick rfl rfl (fun _ => rfl) (fun h => by cases h)) ?_
    refine sR (.bool v_8) (r_assign rfl rfl) ?_
    refine HL_nil ?_
    exact HC_ret (show endQ prog f4 R .ret _ _ from ⟨_, res1 rfl (rv_tmp rfl), h⟩)
   ·
    replace h := h.2 hc
    refine kN 29 (decide_eq_false hc) ?_
    refine kN 30 (decide_eq_false hc) ?_
    refine kN 31 (decide_eq_false hc) ?_
    refine s_skip ?_
    refine sR (.bool false) (r_pick rfl rfl (fun h => by cases h) (fun _ => rfl)) ?_
    refine sR (.bool false) (r_assign rfl rfl) ?_
    refine HL_nil ?_
    exact HC_ret (show endQ prog f4 R .ret _ _ from ⟨_, res1 rfl (rv_tmp rfl), h⟩)
  ·
   replace hc := eq_false_of_ne_true hc; replace h := h.2 hc
   refine kN 25 hc ?_
   refine kN 26 hc ?_
   refine s_skip ?_
   refine s_skip ?_
   refine s_skip ?_
   refine sR (.bool false) (r_pick rfl rfl (fun h => by cases h) (fun _ => rfl)) ?_
   refine sR (.bool false) (r_move rfl rfl) ?_
   refine s_skip ?_
   refine sR (.bool false) (r_pick rfl rfl (fun h => by cases h) (fun _ => rfl)) ?_
   refine sR (.bool false) (r_assign rfl rfl) ?_
   refine HL_nil ?_
   exact HC_ret (show endQ prog f4 R .ret _ _ from ⟨_, res1 rfl (rv_tmp rfl), h⟩)

end Go.Proofs.YtnjcgpihfmklfaaDoor
