/-
  What functions of the program do, in a clean form, each with the proof that its code does so. Printed by a program.
-/
import Derived.Test.YtnjcgpihfmklfaaDoorGf
import Derived.Test.YtnjcgpihfmklfaaDoorPhp
namespace Go.Proofs.YtnjcgpihfmklfaaDoor
open Go Go.Proofs.Tryd
set_option maxRecDepth 10000
set_option maxHeartbeats 4000000
/- 90 koine.koineref04.plain -/
def b90j1 (b_0 : Int) (R : VP) (F : PH) :=
 ((33 ≤ b_0 →
  R (.bool (decide (b_0 ≤ (126 : Int)))) F) ∧
 (¬ (33 ≤ b_0) →
  R (.bool false) F))
abbrev b90J1 (b_0 : Int) (R : VP) (E : En) (F : PH) : Prop := E 0 = (.int .u8 b_0) ∧ b90j1 b_0 R F
def b90L1 (N1 : Int → PH → Prop) (b_0 : Int) (R : VP) (i_3 : Int) (F : PH) :=
 ((i_3 < 8 →
  0 ≤ i_3 ∧ i_3 < ((ByteArray.mk #[40, 41, 42, 45, 91, 92, 93, 124]).size : Int) ∧
  ∃ (hx : Int.toNat i_3 < (ByteArray.mk #[40, 41, 42, 45, 91, 92, 93, 124]).size) (v_10 : Int), v_10 = (((ByteArray.mk #[40, 41, 42, 45, 91, 92, 93, 124])[Int.toNat i_3]'hx).toNat : Int) ∧
  ((b_0 = v_10 →
   R (.bool false) F) ∧
  (¬ (b_0 = v_10) →
   N1 (IntKind.i64.wrap (i_3 + 1)) F))) ∧
 (¬ (i_3 < 8) →
  b90j1 b_0 R F))
def b90 (b_0 : Int) (R : VP) (F : PH) :=
 (∃ (I1 : Nat → Int → PH → Prop) (m1 : Nat), I1 m1 0 F ∧ ∀ m1 i_3 F, I1 m1 i_3 F →
  b90L1 (nx1 I1 m1) b_0 R i_3 F)
theorem c90 {b_0 : Int} {R : VP} {F : PH} (h : b90 b_0 R F) : Spec prog 90 #[(.int .u8 b_0)] F R := by
 refine spec_of (args := [(.int .u8 b_0)]) func90 rfl ntmps90 rfl ?_
 unfold b90 at h
 refine cR ?_
 refine sR (.bool false) (r_assign rfl rfl) ?_
 refine HL_nil ?_
 refine HC_seqJ (b90J1 b_0 R) ?_ ?_
 clear h; rintro E F ⟨h0, h⟩
 unfold b90j1 at h
 refine cR ?_
 refine sR _ (r_move rfl h0) ?_
 refine sR (.bool (decide (33 ≤ b_0))) (r_geq rfl rfl rfl) ?_
 refine sR (.bool (decide (33 ≤ b_0))) (r_move rfl rfl) ?_
 by_cases hc : 33 ≤ b_0
 replace h := h.1 hc
 refine kN 13 (decide_eq_true hc) ?_
 refine kN 14 (decide_eq_true hc) ?_
 refine sR _ (r_move rfl h0) ?_
 refine sR (.bool (decide (b_0 ≤ (126 : Int)))) (r_leq rfl rfl rfl) ?_
 refine sR (.bool (decide (b_0 ≤ (126 : Int)))) (r_pt rfl rfl) ?_
 refine sR (.bool (decide (b_0 ≤ (126 : Int)))) (r_assign rfl rfl) ?_
 refine HL_nil ?_
 exact HC_ret (rt1 f90 R rfl rfl h)
 replace h := h.2 hc
 refine kN 13 (decide_eq_false hc) ?_
 refine kN 14 (decide_eq_false hc) ?_
 iterate 2 refine s_skip ?_
 refine sR (.bool false) (r_pf rfl rfl) ?_
 refine sR (.bool false) (r_assign rfl rfl) ?_
 refine HL_nil ?_
 exact HC_ret (rt1 f90 R rfl rfl h)
 refine cR ?_
 refine sR (.int .i64 0) (r_assign rfl rfl) ?_
 refine HL_nil ?_
 refine HC_block ?_
 obtain ⟨I1, m1, hI0, hr⟩ := h
 refine HC_loop (fun m1 E F => ∃ i_3 : Int, E 0 = (.int .u8 b_0) ∧ E 3 = (.int .i64 i_3) ∧ I1 m1 i_3 F) m1 ⟨_, rfl, rfl, hI0⟩ ?_
 clear hI0; rintro m1 E F ⟨i_3, h0, h3, hI⟩
 have h := hr m1 i_3 F hI
 clear hr hI
 unfold b90L1 at h
 refine HC_seq ?_
 refine cR ?_
 refine sR _ (r_move rfl h3) ?_
 refine sR (.bool (decide (i_3 < 8))) (r_lss rfl rfl rfl) ?_
 refine HL_nil ?_
 refine HC_cond (t := (decide (i_3 < 8))) rfl (fun hc => ?_) (fun hc => ?_)
 replace h := h.1 (of_decide_eq_true hc)
 clear hc
 refine HC_skip ?_
 refine HC_seq ?_
 refine HC_block ?_
 refine cR ?_
 refine sR _ (r_move rfl h0) ?_
 refine sR _ (r_move rfl h3) ?_
 obtain ⟨hl10, hu10, hx10, v_10, hv10, h⟩ := h
 refine sR (.int .u8 v_10) (w_indexStr rfl rfl underlying9 hl10 hu10 hv10) ?_
 refine sR (.bool (decide (b_0 = v_10))) (w_eql rfl rfl) ?_
 refine HL_nil ?_
 refine HC_cond (t := (decide (b_0 = v_10))) rfl (fun hc => ?_) (fun hc => ?_)
 replace h := h.1 (of_decide_eq_true hc)
 clear hc
 refine cR ?_
 refine sR (.bool false) (r_assign rfl rfl) ?_
 refine HL_nil ?_
 exact HC_ret (rt1 f90 R rfl rfl h)
 replace h := h.2 (of_decide_eq_false hc)
 clear hc
 refine HC_skip ?_
 refine HC_region ?_
 refine sR _ (r_move rfl h3) ?_
 refine sR (.int .i64 (IntKind.i64.wrap (i_3 + 1))) (r_add rfl rfl rfl) ?_
 refine sR (.int .i64 (IntKind.i64.wrap (i_3 + 1))) (r_assign rfl rfl) ?_
 refine HL_nil ?_
 obtain ⟨m', hm, h⟩ := h
 exact ⟨m', hm, _, h0, rfl, h⟩
 replace h := h.2 (of_decide_eq_false hc)
 clear hc
 refine HC_exit ?_
 show b90J1 b_0 R _ _
 exact ⟨h0, h⟩
 /- 97 koine.koineref04.digit -/
end Go.Proofs.YtnjcgpihfmklfaaDoor
