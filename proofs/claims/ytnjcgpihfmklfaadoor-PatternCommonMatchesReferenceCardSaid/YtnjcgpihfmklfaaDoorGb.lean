/-
  What functions of the program do, in a clean form, each with the proof that its code does so. Printed by a program.
-/
import Derived.Test.YtnjcgpihfmklfaaDoorGf
import Derived.Test.YtnjcgpihfmklfaaDoorPho
namespace Go.Proofs.YtnjcgpihfmklfaaDoor
open Go Go.Proofs.Tryd
set_option maxRecDepth 10000
set_option maxHeartbeats 4000000
/- 38 koine.koineref04.empty -/
def b38 (R : VP) (F : PH) :=
 (#[(.int .i64 0), .int .i64 0, .int .i64 0, .int .i64 0, .int .i64 0] : Array Value).size = 5 ∧ ∀ b2, F b2 = none → atF (F.set b2 (.cells (#[(.int .i64 0), .int .i64 0, .int .i64 0, .int .i64 0, .int .i64 0] : Array Value) 50)) fun F =>
 R (Sl.v (Sl.mk (some (Addr.mk b2 0 none)) 1 1)) F
theorem c38 {R : VP} {F : PH} (h : b38 R F) : Spec prog 38 #[] F R := by
 refine spec_of (args := []) func38 rfl ntmps38 rfl ?_
 unfold b38 at h
 refine cR (sR (Sl.v Sl.nil) (r_assign rfl rfl) ?_)
 refine HL_nil ?_
 refine cR (sR (.agg (#[(.int .i64 0), .int .i64 0, .int .i64 0, .int .i64 0, .int .i64 0] : Array Value)) (w_buildStruct (cells := #[(.int .i64 0), .int .i64 0, .int .i64 0, .int .i64 0, .int .i64 0]) underlying50 zr50 kf50 (evPC rfl evPN) (fill1 (place_of rfl rfl sz3) rfl rfl (fillN rfl))) ?_)
 obtain ⟨hz2, h⟩ := h
 refine s_ef (k_buildSlice (cells := (#[(.int .i64 0), .int .i64 0, .int .i64 0, .int .i64 0, .int .i64 0] : Array Value)) underlying25 sz50 (by decide) zr50 rfl (evPC rfl evPN) (fillWhole hz2 rfl rfl) rfl ?_)
 intro b2 hf_b2
 replace h := atE (h b2 hf_b2)
 refine sR (Sl.v (Sl.mk (some (Addr.mk b2 0 none)) 1 1)) (r_assign rfl rfl) ?_
 exact HL_nil (HC_ret (rt1 f38 R rfl rfl h))
 /- 39 koine.koineref04.one -/
def b39 (lo_0 : Int) (hi_1 : Int) (R : VP) (F : PH) :=
 (#[(.int .i64 1), (.int .i64 lo_0), (.int .i64 hi_1), .int .i64 0, .int .i64 0] : Array Value).size = 5 ∧ ∀ b8, F b8 = none → atF (F.set b8 (.cells (#[(.int .i64 1), (.int .i64 lo_0), (.int .i64 hi_1), .int .i64 0, .int .i64 0] : Array Value) 50)) fun F =>
 R (Sl.v (Sl.mk (some (Addr.mk b8 0 none)) 1 1)) F
theorem c39 {lo_0 : Int} {hi_1 : Int} {R : VP} {F : PH} (h : b39 lo_0 hi_1 R F) : Spec prog 39 #[(.int .i64 lo_0), (.int .i64 hi_1)] F R := by
 refine spec_of (args := [(.int .i64 lo_0), (.int .i64 hi_1)]) func39 rfl ntmps39 rfl ?_
 unfold b39 at h
 refine cR (sR (Sl.v Sl.nil) (r_assign rfl rfl) ?_)
 refine HL_nil ?_
 refine cR (sR (.int .i64 lo_0) (r_move rfl rfl) ?_)
 refine sR (.int .i64 hi_1) (r_move rfl rfl) ?_
 refine sR (.agg (#[(.int .i64 1), (.int .i64 lo_0), (.int .i64 hi_1), .int .i64 0, .int .i64 0] : Array Value)) (w_buildStruct (cells := #[(.int .i64 1), (.int .i64 lo_0), (.int .i64 hi_1), .int .i64 0, .int .i64 0]) underlying50 zr50 kf50 (evPC rfl (evPC rfl (evPC rfl evPN))) (fill1 (place_of rfl rfl sz3) rfl rfl (fill1 (place_of rfl rfl sz3) rfl rfl (fill1 (place_of rfl rfl sz3) rfl rfl (fillN rfl))))) ?_
 obtain ⟨hz8, h⟩ := h
 refine s_ef (k_buildSlice (cells := (#[(.int .i64 1), (.int .i64 lo_0), (.int .i64 hi_1), .int .i64 0, .int .i64 0] : Array Value)) underlying25 sz50 (by decide) zr50 rfl (evPC rfl evPN) (fillWhole hz8 rfl rfl) rfl ?_)
 intro b8 hf_b8
 replace h := atE (h b8 hf_b8)
 refine sR (Sl.v (Sl.mk (some (Addr.mk b8 0 none)) 1 1)) (r_assign rfl rfl) ?_
 exact HL_nil (HC_ret (rt1 f39 R rfl rfl h))
 /- 40 koine.koineref04.repeat -/
def b40 (p_0 : Sl) (R : VP) (F : PH) :=
 ∀ b4, F b4 = none → atF (F.set b4 (.cells #[] 50)) fun F =>
 runs prog (Builtin.append_ #[25, 25] 25 #[(Sl.v (Sl.mk (some (Addr.mk b4 0 none)) 0 0)), (Sl.v p_0)]) F fun v F => ∃ v_6 : Sl, v = (Sl.v v_6) ∧
 (#[(.int .i64 4), .int .i64 0, .int .i64 0, (.int .i64 (IntKind.i64.wrap ((p_0.len : Int) - 1))), .int .i64 0] : Array Value).size = 5 ∧ ∀ b12, F b12 = none → atF (F.set b12 (.cells (#[(.int .i64 4), .int .i64 0, .int .i64 0, (.int .i64 (IntKind.i64.wrap ((p_0.len : Int) - 1))), .int .i64 0] : Array Value) 50)) fun F =>
 runs prog (Builtin.append_ #[25, 25] 25 #[(Sl.v v_6), (Sl.v (Sl.mk (some (Addr.mk b12 0 none)) 1 1))]) F fun v F => ∃ v_13 : Sl, v = (Sl.v v_13) ∧
 R (Sl.v v_13) F
theorem c40 {p_0 : Sl} {R : VP} {F : PH} (h : b40 p_0 R F) : Spec prog 40 #[(Sl.v p_0)] F R := by
 refine spec_of (args := [(Sl.v p_0)]) func40 rfl ntmps40 rfl ?_
 unfold b40 at h
 refine cR (sR (Sl.v Sl.nil) (r_assign rfl rfl) ?_)
 refine HL_nil ?_
 refine cR ?_
 refine s_ef (k_buildSlice (cells := #[]) underlying25 sz50 (by decide) zr50 ((zc_flat _ rfl _).trans (rfl : _ = (#[] : Array Value))) evPN (fillN rfl) rfl ?_)
 intro b4 hf_b4
 replace h := atE (h b4 hf_b4)
 refine sR (Sl.v p_0) (r_move rfl rfl) ?_
 refine s_ef (k_append rfl rfl (runs_mono _ _ h ?_))
 clear h; rintro v F ⟨v_6, rfl, h⟩
 refine sR (Sl.v v_6) (r_assign rfl rfl) ?_
 refine HL_nil ?_
 refine cR (sR (Sl.v v_6) (r_move rfl rfl) ?_)
 refine sR (Sl.v p_0) (r_move rfl rfl) ?_
 refine sR (.int .i64 (p_0.len : Int)) (r_lenSl rfl rfl underlying25) ?_
 refine sR (.int .i64 (IntKind.i64.wrap ((p_0.len : Int) - 1))) (r_sub rfl rfl rfl) ?_
 refine sR (.agg (#[(.int .i64 4), .int .i64 0, .int .i64 0, (.int .i64 (IntKind.i64.wrap ((p_0.len : Int) - 1))), .int .i64 0] : Array Value)) (w_buildStruct (cells := #[(.int .i64 4), .int .i64 0, .int .i64 0, (.int .i64 (IntKind.i64.wrap ((p_0.len : Int) - 1))), .int .i64 0]) underlying50 zr50 kf50 (evPC rfl (evPC rfl evPN)) (fill1 (place_of rfl rfl sz3) rfl rfl (fill1 (place_of rfl rfl sz3) rfl rfl (fillN rfl)))) ?_
 obtain ⟨hz12, h⟩ := h
 refine s_ef (k_buildSlice (cells := (#[(.int .i64 4), .int .i64 0, .int .i64 0, (.int .i64 (IntKind.i64.wrap ((p_0.len : Int) - 1))), .int .i64 0] : Array Value)) underlying25 sz50 (by decide) zr50 rfl (evPC rfl evPN) (fillWhole hz12 rfl rfl) rfl ?_)
 intro b12 hf_b12
 replace h := atE (h b12 hf_b12)
 refine s_ef (k_append rfl rfl (runs_mono _ _ h ?_))
 clear h; rintro v F ⟨v_13, rfl, h⟩
 refine sR (Sl.v v_13) (r_assign rfl rfl) ?_
 exact HL_nil (HC_ret (rt1 f40 R rfl rfl h))
 /- 52 koine.koineref04.operands -/
def b52j1 (kind_0 : Int) (v_5 : Bool) (R : VP) (F : PH) :=
 ((v_5 = true →
  R (.tuple #[(.int .i64 0), (.bool true)]) F) ∧
 (v_5 = false →
  ((kind_0 = 4 →
   R (.tuple #[(.int .i64 1), (.bool true)]) F) ∧
  (¬ (kind_0 = 4) →
   ((kind_0 = 2 →
    ((kind_0 = 2 →
     R (.tuple #[(.int .i64 2), (.bool true)]) F) ∧
    (¬ (kind_0 = 2) →
     R (.tuple #[(.int .i64 0), (.bool false)]) F))) ∧
   (¬ (kind_0 = 2) →
    ((kind_0 = 3 →
     R (.tuple #[(.int .i64 2), (.bool true)]) F) ∧
    (¬ (kind_0 = 3) →
     R (.tuple #[(.int .i64 0), (.bool false)]) F))))))))
abbrev b52J1 (kind_0 : Int) (R : VP) (E : En) (F : PH) : Prop := ∃ v_5 : Bool, E 4 = (.int .i64 kind_0) ∧ E 5 = (.bool v_5) ∧ b52j1 kind_0 v_5 R F
def b52 (kind_0 : Int) (R : VP) (F : PH) :=
 ((kind_0 = 0 →
  b52j1 kind_0 (decide (kind_0 = 0)) R F) ∧
 (¬ (kind_0 = 0) →
  b52j1 kind_0 (decide (kind_0 = 1)) R F))
theorem c52 {kind_0 : Int} {R : VP} {F : PH} (h : b52 kind_0 R F) : Spec prog 52 #[(.int .i64 kind_0)] F R := by
 refine spec_of (args := [(.int .i64 kind_0)]) func52 rfl ntmps52 rfl ?_
 unfold b52 at h
 refine cR (sR (.int .i64 0) (r_assign rfl rfl) ?_)
 refine sR (.bool false) (r_assign rfl rfl) ?_
 refine HL_nil ?_
 refine HC_seq ?_
 refine cR (sR (.int .i64 kind_0) (r_move rfl rfl) ?_)
 refine HL_nil ?_
 refine HC_block ?_
 refine HC_seqJ (b52J1 kind_0 R) ?_ ?_
 clear h; rintro E F ⟨v_5, h4, h5, h⟩
 unfold b52j1 at h
 refine HC_cond (t := v_5) h5 (fun hc => ?_) (fun hc => ?_)
 replace h := h.1 hc
 clear hc
 refine cR (sR (.int .i64 0) (r_assign rfl rfl) ?_)
 refine sR (.bool true) (r_assign rfl rfl) ?_
 exact HL_nil (HC_ret (rt2 f52 R rfl rfl rfl h))
 replace h := h.2 hc
 clear hc
 refine cR (sR (.bool (decide (kind_0 = 4))) (w_eql h4 rfl) ?_)
 refine sR (.bool (decide (kind_0 = 4))) (r_assign rfl rfl) ?_
 refine HL_nil ?_
 refine HC_cond (t := (decide (kind_0 = 4))) rfl (fun hc => ?_) (fun hc => ?_)
 replace h := h.1 (of_decide_eq_true hc)
 clear hc
 refine cR (sR (.int .i64 1) (r_assign rfl rfl) ?_)
 refine sR (.bool true) (r_assign rfl rfl) ?_
 exact HL_nil (HC_ret (rt2 f52 R rfl rfl rfl h))
 replace h := h.2 (of_decide_eq_false hc)
 clear hc
 refine HC_seq ?_
 refine cR (sR (.bool (decide (kind_0 = 2))) (w_eql h4 rfl) ?_)
 refine sR (.bool (decide (kind_0 = 2))) (r_assign rfl rfl) ?_
 refine HL_nil ?_
 refine HC_cond (t := (decide (kind_0 = 2))) rfl (fun hc => ?_) (fun hc => ?_)
 replace h := h.1 (of_decide_eq_true hc)
 clear hc
 refine HC_skip ?_
 refine HC_cond (t := (decide (kind_0 = 2))) rfl (fun hc => ?_) (fun hc => ?_)
 replace h := h.1 (of_decide_eq_true hc)
 clear hc
 refine cR (sR (.int .i64 2) (r_assign rfl rfl) ?_)
 refine sR (.bool true) (r_assign rfl rfl) ?_
 exact HL_nil (HC_ret (rt2 f52 R rfl rfl rfl h))
 replace h := h.2 (of_decide_eq_false hc)
 clear hc
 refine HC_skip ?_
 refine cR (sR (.int .i64 0) (r_assign rfl rfl) ?_)
 refine sR (.bool false) (r_assign rfl rfl) ?_
 exact HL_nil (HC_ret (rt2 f52 R rfl rfl rfl h))
 replace h := h.2 (of_decide_eq_false hc)
 clear hc
 refine HC_region ?_
 refine sR (.bool (decide (kind_0 = 3))) (w_eql h4 rfl) ?_
 refine sR (.bool (decide (kind_0 = 3))) (r_assign rfl rfl) ?_
 refine HL_nil ?_
 refine HC_cond (t := (decide (kind_0 = 3))) rfl (fun hc => ?_) (fun hc => ?_)
 replace h := h.1 (of_decide_eq_true hc)
 clear hc
 refine cR (sR (.int .i64 2) (r_assign rfl rfl) ?_)
 refine sR (.bool true) (r_assign rfl rfl) ?_
 exact HL_nil (HC_ret (rt2 f52 R rfl rfl rfl h))
 replace h := h.2 (of_decide_eq_false hc)
 clear hc
 refine HC_skip ?_
 refine cR (sR (.int .i64 0) (r_assign rfl rfl) ?_)
 refine sR (.bool false) (r_assign rfl rfl) ?_
 exact HL_nil (HC_ret (rt2 f52 R rfl rfl rfl h))
 refine cR (sR (.bool (decide (kind_0 = 0))) (w_eql rfl rfl) ?_)
 refine sR (.bool (decide (kind_0 = 0))) (r_assign rfl rfl) ?_
 refine HL_nil ?_
 refine HC_cond (t := (decide (kind_0 = 0))) rfl (fun hc => ?_) (fun hc => ?_)
 replace h := h.1 (of_decide_eq_true hc)
 clear hc
 refine HC_skip ?_
 show b52J1 kind_0 R _ _
 exact ⟨_, rfl, rfl, h⟩
 replace h := h.2 (of_decide_eq_false hc)
 clear hc
 refine HC_region ?_
 refine sR (.bool (decide (kind_0 = 1))) (w_eql rfl rfl) ?_
 refine sR (.bool (decide (kind_0 = 1))) (r_assign rfl rfl) ?_
 refine HL_nil ?_
 show b52J1 kind_0 R _ _
 exact ⟨_, rfl, rfl, h⟩
 /- 41 koine.koineref04.join -/
def b41j1 (kind_0 : Int) (p_1 : Sl) (q_2 : Sl) (out_7 : Sl) (R : VP) (F : PH) :=
 (#[(.int .i64 kind_0), .int .i64 0, .int .i64 0, (.int .i64 (IntKind.i64.wrap ((p_1.len : Int) - 1))), (.int .i64 (IntKind.i64.wrap ((IntKind.i64.wrap ((p_1.len : Int) + (q_2.len : Int))) - 1)))] : Array Value).size = 5 ∧ ∀ b63, F b63 = none → atF (F.set b63 (.cells (#[(.int .i64 kind_0), .int .i64 0, .int .i64 0, (.int .i64 (IntKind.i64.wrap ((p_1.len : Int) - 1))), (.int .i64 (IntKind.i64.wrap ((IntKind.i64.wrap ((p_1.len : Int) + (q_2.len : Int))) - 1)))] : Array Value) 50)) fun F =>
 runs prog (Builtin.append_ #[25, 25] 25 #[(Sl.v out_7), (Sl.v (Sl.mk (some (Addr.mk b63 0 none)) 1 1))]) F fun v F => ∃ v_64 : Sl, v = (Sl.v v_64) ∧
 R (Sl.v v_64) F
abbrev b41J1 (kind_0 : Int) (p_1 : Sl) (q_2 : Sl) (R : VP) (E : En) (F : PH) : Prop := ∃ out_7 : Sl, E 0 = (.int .i64 kind_0) ∧ E 1 = (Sl.v p_1) ∧ E 2 = (Sl.v q_2) ∧ E 7 = (Sl.v out_7) ∧ b41j1 kind_0 p_1 q_2 out_7 R F
def b41j3 (N1 : Sl → Int → PH → Prop) (kind_0 : Int) (p_1 : Sl) (q_2 : Sl) (out_7_1 : Sl) (i_8 : Int) (b9 : Nat) (R : VP) (F : PH) :=
 ∃ v_48 : Array Value, v_48.size = 5 ∧ F.row (Addr.mk b9 0 none) v_48 ∧
 v_48.size = 5 ∧ ∀ b49, F b49 = none → atF (F.set b49 (.cells v_48 50)) fun F =>
 runs prog (Builtin.append_ #[25, 25] 25 #[(Sl.v out_7_1), (Sl.v (Sl.mk (some (Addr.mk b49 0 none)) 1 1))]) F fun v F => ∃ v_50 : Sl, v = (Sl.v v_50) ∧
 N1 v_50 (IntKind.i64.wrap (i_8 + 1)) F
abbrev b41J3 (N1 : Sl → Int → PH → Prop) (kind_0 : Int) (p_1 : Sl) (q_2 : Sl) (out_7_1 : Sl) (i_8 : Int) (b9 : Nat) (R : VP) (E : En) (F : PH) : Prop := E 0 = (.int .i64 kind_0) ∧ E 1 = (Sl.v p_1) ∧ E 2 = (Sl.v q_2) ∧ E 7 = (Sl.v out_7_1) ∧ E 8 = (.int .i64 i_8) ∧ E 9 = (.pointer (some (Addr.mk b9 0 none))) ∧ b41j3 N1 kind_0 p_1 q_2 out_7_1 i_8 b9 R F
def b41j2 (N1 : Sl → Int → PH → Prop) (kind_0 : Int) (p_1 : Sl) (q_2 : Sl) (out_7_1 : Sl) (i_8 : Int) (b9 : Nat) (v_28 : Int) (R : VP) (F : PH) :=
 ((2 ≤ v_28 →
  ∃ v_42 : Int, F.cell (Addr.mk b9 4 none) = some (.int .i64 v_42) ∧
  ∃ c e, F (Addr.mk b9 4 none).block = some (.cells c e (0, 0)) ∧ (Addr.mk b9 4 none).spot = none ∧ (Addr.mk b9 4 none).off < c.size ∧
  atF (F.set (Addr.mk b9 4 none).block (.cells (c.setIfInBounds (Addr.mk b9 4 none).off (.int .i64 (IntKind.i64.wrap (v_42 + (p_1.len : Int))))) e)) fun F =>
  b41j3 N1 kind_0 p_1 q_2 out_7_1 i_8 b9 R F) ∧
 (¬ (2 ≤ v_28) →
  b41j3 N1 kind_0 p_1 q_2 out_7_1 i_8 b9 R F))
abbrev b41J2 (N1 : Sl → Int → PH → Prop) (kind_0 : Int) (p_1 : Sl) (q_2 : Sl) (out_7_1 : Sl) (i_8 : Int) (b9 : Nat) (v_28 : Int) (R : VP) (E : En) (F : PH) : Prop := E 0 = (.int .i64 kind_0) ∧ E 1 = (Sl.v p_1) ∧ E 2 = (Sl.v q_2) ∧ E 7 = (Sl.v out_7_1) ∧ E 8 = (.int .i64 i_8) ∧ E 9 = (.pointer (some (Addr.mk b9 0 none))) ∧ E 10 = (.int .i64 v_28) ∧ b41j2 N1 kind_0 p_1 q_2 out_7_1 i_8 b9 v_28 R F
def b41L1 (N1 : Sl → Int → PH → Prop) (kind_0 : Int) (p_1 : Sl) (q_2 : Sl) (R : VP) (out_7_1 : Sl) (i_8 : Int) (F : PH) :=
 ((i_8 < (q_2.len : Int) →
  ∃ a23_ : Addr, q_2.base = some a23_ ∧ 0 ≤ i_8 ∧ i_8 < (q_2.len : Int) ∧
  ∃ v_24 : Array Value, v_24.size = 5 ∧ F.row (Addr.add a23_ (Int.toNat i_8 * 5)) v_24 ∧
  ∀ b9, F b9 = none → atF (F.set b9 (.cells (#[.int .i64 0, .int .i64 0, .int .i64 0, .int .i64 0, .int .i64 0]) 50)) fun F =>
  v_24.size = 5 ∧ (∀ v ∈ v_24.toList, storable v) ∧ ∃ c e, F (Addr.mk b9 0 none).block = some (.cells c e (0, 0)) ∧ (Addr.mk b9 0 none).spot = none ∧ (Addr.mk b9 0 none).off + 5 ≤ c.size ∧
  atF (F.set (Addr.mk b9 0 none).block (.cells (wr c (Addr.mk b9 0 none).off v_24.toList) e)) fun F =>
  ∃ v_27 : Int, F.cell (Addr.mk b9 0 none) = some (.int .i64 v_27) ∧
  Spec prog 52 #[(.int .i64 v_27)] F fun v F => ∃ v_28 : Int, ∃ v_28_1 : Bool, v = (.tuple #[(.int .i64 v_28), (.bool v_28_1)]) ∧
  ((1 ≤ v_28 →
   ∃ v_34 : Int, F.cell (Addr.mk b9 3 none) = some (.int .i64 v_34) ∧
   ∃ c e, F (Addr.mk b9 3 none).block = some (.cells c e (0, 0)) ∧ (Addr.mk b9 3 none).spot = none ∧ (Addr.mk b9 3 none).off < c.size ∧
   atF (F.set (Addr.mk b9 3 none).block (.cells (c.setIfInBounds (Addr.mk b9 3 none).off (.int .i64 (IntKind.i64.wrap (v_34 + (p_1.len : Int))))) e)) fun F =>
   b41j2 N1 kind_0 p_1 q_2 out_7_1 i_8 b9 v_28 R F) ∧
  (¬ (1 ≤ v_28) →
   b41j2 N1 kind_0 p_1 q_2 out_7_1 i_8 b9 v_28 R F))) ∧
 (¬ (i_8 < (q_2.len : Int)) →
  b41j1 kind_0 p_1 q_2 out_7_1 R F))
def b41 (kind_0 : Int) (p_1 : Sl) (q_2 : Sl) (R : VP) (F : PH) :=
 ∀ b12, F b12 = none → atF (F.set b12 (.cells #[] 50)) fun F =>
 runs prog (Builtin.append_ #[25, 25] 25 #[(Sl.v (Sl.mk (some (Addr.mk b12 0 none)) 0 0)), (Sl.v p_1)]) F fun v F => ∃ v_14 : Sl, v = (Sl.v v_14) ∧
 (∃ (I1 : Nat → Sl → Int → PH → Prop) (m1 : Nat), I1 m1 v_14 0 F ∧ ∀ m1 out_7_1 i_8 F, I1 m1 out_7_1 i_8 F →
  b41L1 (nx2 I1 m1) kind_0 p_1 q_2 R out_7_1 i_8 F)
theorem c41 {kind_0 : Int} {p_1 : Sl} {q_2 : Sl} {R : VP} {F : PH} (h : b41 kind_0 p_1 q_2 R F) : Spec prog 41 #[(.int .i64 kind_0), (Sl.v p_1), (Sl.v q_2)] F R := by
 refine spec_of (args := [(.int .i64 kind_0), (Sl.v p_1), (Sl.v q_2)]) func41 rfl ntmps41 rfl ?_
 unfold b41 at h
 refine cR (sR (Sl.v Sl.nil) (r_assign rfl rfl) ?_)
 refine HL_nil ?_
 refine cR ?_
 refine s_ef (k_buildSlice (cells := #[]) underlying25 sz50 (by decide) zr50 ((zc_flat _ rfl _).trans (rfl : _ = (#[] : Array Value))) evPN (fillN rfl) rfl ?_)
 intro b12 hf_b12
 replace h := atE (h b12 hf_b12)
 refine sR (Sl.v p_1) (r_move rfl rfl) ?_
 refine s_ef (k_append rfl rfl (runs_mono _ _ h ?_))
 clear h; rintro v F ⟨v_14, rfl, h⟩
 refine sR (Sl.v v_14) (r_assign rfl rfl) ?_
 refine HL_nil ?_
 refine HC_seqJ (b41J1 kind_0 p_1 q_2 R) ?_ ?_
 clear h; rintro E F ⟨out_7, h0, h1, h2, h7, h⟩
 unfold b41j1 at h
 refine cR (sR _ (r_move rfl h7) ?_)
 refine sR _ (r_move rfl h0) ?_
 refine sR _ (r_move rfl h1) ?_
 refine sR (.int .i64 (p_1.len : Int)) (r_lenSl rfl rfl underlying25) ?_
 refine sR (.int .i64 (IntKind.i64.wrap ((p_1.len : Int) - 1))) (r_sub rfl rfl rfl) ?_
 refine sR _ (r_move rfl h1) ?_
 refine sR (.int .i64 (p_1.len : Int)) (r_lenSl rfl rfl underlying25) ?_
 refine sR _ (r_move rfl h2) ?_
 refine sR (.int .i64 (q_2.len : Int)) (r_lenSl rfl rfl underlying25) ?_
 refine sR (.int .i64 (IntKind.i64.wrap ((p_1.len : Int) + (q_2.len : Int)))) (r_add rfl rfl rfl) ?_
 refine sR (.int .i64 (IntKind.i64.wrap ((IntKind.i64.wrap ((p_1.len : Int) + (q_2.len : Int))) - 1))) (r_sub rfl rfl rfl) ?_
 refine sR (.agg (#[(.int .i64 kind_0), .int .i64 0, .int .i64 0, (.int .i64 (IntKind.i64.wrap ((p_1.len : Int) - 1))), (.int .i64 (IntKind.i64.wrap ((IntKind.i64.wrap ((p_1.len : Int) + (q_2.len : Int))) - 1)))] : Array Value)) (w_buildStruct (cells := #[(.int .i64 kind_0), .int .i64 0, .int .i64 0, (.int .i64 (IntKind.i64.wrap ((p_1.len : Int) - 1))), (.int .i64 (IntKind.i64.wrap ((IntKind.i64.wrap ((p_1.len : Int) + (q_2.len : Int))) - 1)))]) underlying50 zr50 kf50 (evPC rfl (evPC rfl (evPC rfl evPN))) (fill1 (place_of rfl rfl sz3) rfl rfl (fill1 (place_of rfl rfl sz3) rfl rfl (fill1 (place_of rfl rfl sz3) rfl rfl (fillN rfl))))) ?_
 obtain ⟨hz63, h⟩ := h
 refine s_ef (k_buildSlice (cells := (#[(.int .i64 kind_0), .int .i64 0, .int .i64 0, (.int .i64 (IntKind.i64.wrap ((p_1.len : Int) - 1))), (.int .i64 (IntKind.i64.wrap ((IntKind.i64.wrap ((p_1.len : Int) + (q_2.len : Int))) - 1)))] : Array Value)) underlying25 sz50 (by decide) zr50 rfl (evPC rfl evPN) (fillWhole hz63 rfl rfl) rfl ?_)
 intro b63 hf_b63
 replace h := atE (h b63 hf_b63)
 refine s_ef (k_append rfl rfl (runs_mono _ _ h ?_))
 clear h; rintro v F ⟨v_64, rfl, h⟩
 refine sR (Sl.v v_64) (r_assign rfl rfl) ?_
 exact HL_nil (HC_ret (rt1 f41 R rfl rfl h))
 refine cR (sR (.int .i64 0) (r_assign rfl rfl) ?_)
 refine HL_nil ?_
 refine HC_block ?_
 obtain ⟨I1, m1, hI0, hr⟩ := h
 refine HC_loop (fun m1 E F => ∃ out_7_1 : Sl, ∃ i_8 : Int, E 0 = (.int .i64 kind_0) ∧ E 1 = (Sl.v p_1) ∧ E 2 = (Sl.v q_2) ∧ E 7 = (Sl.v out_7_1) ∧ E 8 = (.int .i64 i_8) ∧ I1 m1 out_7_1 i_8 F) m1 ⟨_, _, rfl, rfl, rfl, rfl, rfl, hI0⟩ ?_
 clear hI0; rintro m1 E F ⟨out_7_1, i_8, h0, h1, h2, h7, h8, hI⟩
 have h := hr m1 out_7_1 i_8 F hI
 clear hr hI
 unfold b41L1 at h
 refine HC_seq ?_
 refine cR (sR _ (r_move rfl h8) ?_)
 refine sR _ (r_move rfl h2) ?_
 refine sR (.int .i64 (q_2.len : Int)) (r_lenSl rfl rfl underlying25) ?_
 refine sR (.bool (decide (i_8 < (q_2.len : Int)))) (r_lss rfl rfl rfl) ?_
 refine HL_nil ?_
 refine HC_cond (t := (decide (i_8 < (q_2.len : Int)))) rfl (fun hc => ?_) (fun hc => ?_)
 replace h := h.1 (of_decide_eq_true hc)
 clear hc
 refine HC_skip ?_
 refine HC_seq ?_
 refine HC_block ?_
 refine cR (sR _ (r_move rfl h2) ?_)
 refine sR _ (r_move rfl h8) ?_
 obtain ⟨a23_, hb23, hl23, hu23, h⟩ := h
 refine sR (.pointer (some (Addr.add a23_ (Int.toNat i_8 * 5)))) (w_indexAddr rfl rfl underlying25 sz50 hb23 hl23 hu23) ?_
 obtain ⟨v_24, hs24, hc24, h⟩ := h
 refine sR (.agg v_24) (w_loadN rfl underlying50 rfl sz50 hs24 hc24) ?_
 refine s_ef (k_alloc zr50 ?_)
 intro b9 hf_b9
 replace h := atE (h b9 hf_b9)
 refine s_ef0 (k_storeN (vs := v_24) rfl rfl sz50 (by decide) ?_)
 obtain ⟨hz1, hz2, c, e, hz3, hz4, hz5, h⟩ := h
 refine ⟨hz1, hz2, c, e, hz3, hz4, hz5, ?_⟩
 replace h := atE h
 refine HL_nil ?_
 refine cR (sR (.pointer (some (Addr.mk b9 0 none))) (w_fieldAddr rfl underlying50 rfl rfl sz3 rfl rfl) ?_)
 obtain ⟨v_27, hc27, h⟩ := h
 refine sR (.int .i64 v_27) (r_load1 rfl rfl underlying3 rfl hc27) ?_
 refine s_ef (k_call (vs := [(.int .i64 v_27)]) cb52 (evC rfl evN) (h.mono ?_))
 clear h; rintro v F ⟨v_28, v_28_1, rfl, h⟩
 refine sR (.tuple #[(.int .i64 v_28), (.bool v_28_1)]) (r_move rfl rfl) ?_
 refine sR (.int .i64 v_28) (r_extract rfl rfl rfl) ?_
 refine sR (.bool v_28_1) (r_extract rfl rfl rfl) ?_
 refine sR (.int .i64 v_28) (r_assign rfl rfl) ?_
 refine sR (.bool v_28_1) (r_assign rfl rfl) ?_
 refine HL_nil ?_
 refine HC_seqJ (b41J2 (nx2 I1 m1) kind_0 p_1 q_2 out_7_1 i_8 b9 v_28 R) ?_ ?_
 clear h; rintro E F ⟨h0, h1, h2, h7, h8, h9, h10, h⟩
 unfold b41j2 at h
 refine HC_seqJ (b41J3 (nx2 I1 m1) kind_0 p_1 q_2 out_7_1 i_8 b9 R) ?_ ?_
 clear h; rintro E F ⟨h0, h1, h2, h7, h8, h9, h⟩
 unfold b41j3 at h
 refine HC_region ?_
 refine sR _ (r_move rfl h7) ?_
 obtain ⟨v_48, hs48, hc48, h⟩ := h
 refine sR (.agg v_48) (w_loadN h9 underlying50 rfl sz50 hs48 hc48) ?_
 obtain ⟨hz49, h⟩ := h
 refine s_ef (k_buildSlice (cells := v_48) underlying25 sz50 (by decide) zr50 rfl (evPC rfl evPN) (fillWhole hz49 rfl rfl) rfl ?_)
 intro b49 hf_b49
 replace h := atE (h b49 hf_b49)
 refine s_ef (k_append rfl rfl (runs_mono _ _ h ?_))
 clear h; rintro v F ⟨v_50, rfl, h⟩
 refine sR (Sl.v v_50) (r_assign rfl rfl) ?_
 refine HL_nil ?_
 refine HC_region ?_
 refine sR _ (r_move rfl h8) ?_
 refine sR (.int .i64 (IntKind.i64.wrap (i_8 + 1))) (r_add rfl rfl rfl) ?_
 refine sR (.int .i64 (IntKind.i64.wrap (i_8 + 1))) (r_assign rfl rfl) ?_
 refine HL_nil ?_
 obtain ⟨m', hm, h⟩ := h
 exact ⟨m', hm, _, _, h0, h1, h2, rfl, rfl, h⟩
 refine cR (sR _ (r_move rfl h10) ?_)
 refine sR (.bool (decide (2 ≤ v_28))) (r_geq rfl rfl rfl) ?_
 refine HL_nil ?_
 refine HC_cond (t := (decide (2 ≤ v_28))) rfl (fun hc => ?_) (fun hc => ?_)
 replace h := h.1 (of_decide_eq_true hc)
 clear hc
 refine HC_region ?_
 refine sR (.pointer (some (Addr.mk b9 4 none))) (w_fieldAddr h9 underlying50 rfl rfl sz3 rfl rfl) ?_
 obtain ⟨v_42, hc42, h⟩ := h
 refine sR (.int .i64 v_42) (r_load1 rfl rfl underlying3 rfl hc42) ?_
 refine sR _ (r_move rfl h1) ?_
 refine sR (.int .i64 (p_1.len : Int)) (r_lenSl rfl rfl underlying25) ?_
 refine sR (.int .i64 (IntKind.i64.wrap (v_42 + (p_1.len : Int)))) (r_add rfl rfl rfl) ?_
 refine sR (.pointer (some (Addr.mk b9 4 none))) (w_fieldAddr h9 underlying50 rfl rfl sz3 rfl rfl) ?_
 refine s_ef0 (k_store1 (v := (.int .i64 (IntKind.i64.wrap (v_42 + (p_1.len : Int))))) rfl rfl sz3 rfl st_int ?_)
 obtain ⟨c, e, hz3, hz4, hz5, h⟩ := h
 refine ⟨c, e, hz3, hz4, hz5, ?_⟩
 replace h := atE h
 refine HL_nil ?_
 show b41J3 (nx2 I1 m1) kind_0 p_1 q_2 out_7_1 i_8 b9 R _ _
 exact ⟨h0, h1, h2, h7, h8, h9, h⟩
 replace h := h.2 (of_decide_eq_false hc)
 clear hc
 refine HC_skip ?_
 show b41J3 (nx2 I1 m1) kind_0 p_1 q_2 out_7_1 i_8 b9 R _ _
 exact ⟨h0, h1, h2, h7, h8, h9, h⟩
 refine cR (sR (.int .i64 v_28) (r_move rfl rfl) ?_)
 refine sR (.bool (decide (1 ≤ v_28))) (r_geq rfl rfl rfl) ?_
 refine HL_nil ?_
 refine HC_cond (t := (decide (1 ≤ v_28))) rfl (fun hc => ?_) (fun hc => ?_)
 replace h := h.1 (of_decide_eq_true hc)
 clear hc
 refine HC_region ?_
 refine sR (.pointer (some (Addr.mk b9 3 none))) (w_fieldAddr rfl underlying50 rfl rfl sz3 rfl rfl) ?_
 obtain ⟨v_34, hc34, h⟩ := h
 refine sR (.int .i64 v_34) (r_load1 rfl rfl underlying3 rfl hc34) ?_
 refine sR _ (r_move rfl h1) ?_
 refine sR (.int .i64 (p_1.len : Int)) (r_lenSl rfl rfl underlying25) ?_
 refine sR (.int .i64 (IntKind.i64.wrap (v_34 + (p_1.len : Int)))) (r_add rfl rfl rfl) ?_
 refine sR (.pointer (some (Addr.mk b9 3 none))) (w_fieldAddr rfl underlying50 rfl rfl sz3 rfl rfl) ?_
 refine s_ef0 (k_store1 (v := (.int .i64 (IntKind.i64.wrap (v_34 + (p_1.len : Int))))) rfl rfl sz3 rfl st_int ?_)
 obtain ⟨c, e, hz3, hz4, hz5, h⟩ := h
 refine ⟨c, e, hz3, hz4, hz5, ?_⟩
 replace h := atE h
 refine HL_nil ?_
 show b41J2 (nx2 I1 m1) kind_0 p_1 q_2 out_7_1 i_8 b9 v_28 R _ _
 exact ⟨h0, h1, h2, h7, h8, rfl, rfl, h⟩
 replace h := h.2 (of_decide_eq_false hc)
 clear hc
 refine HC_skip ?_
 show b41J2 (nx2 I1 m1) kind_0 p_1 q_2 out_7_1 i_8 b9 v_28 R _ _
 exact ⟨h0, h1, h2, h7, h8, rfl, rfl, h⟩
 replace h := h.2 (of_decide_eq_false hc)
 clear hc
 refine HC_exit ?_
 show b41J1 kind_0 p_1 q_2 R _ _
 exact ⟨_, h0, h1, h2, h7, h⟩
end Go.Proofs.YtnjcgpihfmklfaaDoor
