/-
  What functions of the program do, in a clean form, each with the proof that its code does so. Printed by a program.
-/
import Derived.Test.YtafojmoeaneedaaGf
import Derived.Test.YtafojmoeaneedaaPho
namespace Go.Proofs.Ytafojmoeaneedaa
open Go Go.Proofs.Try
set_option maxRecDepth 10000
set_option maxHeartbeats 4000000
/- 37 koine.koineref02.And -/
def b37 (a_0 : Array Value) (b_1 : Array Value) (R : Value → PH → Prop) (F : PH) : Prop :=
 ∀ b2, F b2 = none → atF (F.set b2 (.cells a_0 28)) fun F =>
 ∀ b3, F b3 = none → atF (F.set b3 (.cells b_1 28)) fun F =>
 ∀ b4, F b4 = none → atF (F.set b4 (.cells (#[.slice none 0 0, .int .i64 0]) 28)) fun F =>
 ∃ v_6 : Array Value, v_6.size = 2 ∧ F.row (Addr.mk b2 0 none) v_6 ∧
 ∃ v_7 : Array Value, v_7.size = 2 ∧ F.row (Addr.mk b3 0 none) v_7 ∧
 Spec prog 78 #[(.agg v_6), (.agg v_7), (.int .i64 (0 : Int))] F fun v F => ∃ v_8 : Array Value, ∃ v_8_1 : Int, v = (.tuple #[(.agg v_8), (.int .i64 v_8_1)]) ∧
 v_8.size = 2 ∧ (∀ v ∈ v_8.toList, storable v) ∧ ∃ c e, F (Addr.mk b4 0 none).block = some (.cells c e (0, 0)) ∧ (Addr.mk b4 0 none).spot = none ∧ (Addr.mk b4 0 none).off + 2 ≤ c.size ∧
 atF (F.set (Addr.mk b4 0 none).block (.cells (wr c (Addr.mk b4 0 none).off v_8.toList) e)) fun F =>
 ∃ vres_4 : Array Value, vres_4.size = 2 ∧ F.row (Addr.mk b4 0 none) vres_4 ∧ R (.tuple #[(.agg vres_4), (.int .i64 v_8_1)]) F
theorem c37 {a_0 : Array Value} {b_1 : Array Value} {R : Value → PH → Prop} {F : PH} (h : b37 a_0 b_1 R F) : Spec prog 37 #[(.agg a_0), (.agg b_1)] F R := by
 refine spec_of (args := [(.agg a_0), (.agg b_1)]) func37 rfl ntmps37 rfl ?_
 unfold b37 at h
 refine cR ?_
 refine s_ef (k_box (cs := a_0) rfl rfl ?_)
 intro b2 hf_b2
 replace h := atE (h b2 hf_b2)
 refine s_ef (k_box (cs := b_1) rfl rfl ?_)
 intro b3 hf_b3
 replace h := atE (h b3 hf_b3)
 refine s_ef (k_alloc zr28 ?_)
 intro b4 hf_b4
 replace h := atE (h b4 hf_b4)
 refine sR (.int .i64 (0 : Int)) (r_assign rfl rfl) ?_
 refine HL_nil ?_
 refine cR ?_
 obtain ⟨v_6, hs6, hc6, h⟩ := h
 refine sR (.agg v_6) (w_loadN rfl underlying28 rfl sz28 hs6 hc6) ?_
 obtain ⟨v_7, hs7, hc7, h⟩ := h
 refine sR (.agg v_7) (w_loadN rfl underlying28 rfl sz28 hs7 hc7) ?_
 refine s_ef (k_call (vs := [(.agg v_6), (.agg v_7), (.int .i64 (0 : Int))]) cb78 (evC rfl (evC rfl (evC rfl evN))) (h.mono ?_))
 clear h; rintro v F ⟨v_8, v_8_1, rfl, h⟩
 refine sR (.agg v_8) (r_extract rfl rfl rfl) ?_
 refine sR (.int .i64 v_8_1) (r_extract rfl rfl rfl) ?_
 refine s_ef0 (k_storeN (vs := v_8) rfl rfl sz28 (by decide) ?_)
 obtain ⟨hz1, hz2, c, e, hz3, hz4, hz5, h⟩ := h
 refine ⟨hz1, hz2, c, e, hz3, hz4, hz5, ?_⟩
 replace h := atE h
 refine sR (.int .i64 v_8_1) (r_assign rfl rfl) ?_
 refine HL_nil ?_
 obtain ⟨vres_4, hs4, hr4, h⟩ := h
 exact HC_ret (show endQ prog f37 R .ret _ _ from ⟨_, res2 rfl (rv_cellN rfl underlying28 rfl sz28 hs4 hr4) (rv_tmp rfl), h⟩)

/- 38 koine.koineref02.Or -/
def b38 (a_0 : Array Value) (b_1 : Array Value) (R : Value → PH → Prop) (F : PH) : Prop :=
 ∀ b2, F b2 = none → atF (F.set b2 (.cells a_0 28)) fun F =>
 ∀ b3, F b3 = none → atF (F.set b3 (.cells b_1 28)) fun F =>
 ∀ b4, F b4 = none → atF (F.set b4 (.cells (#[.slice none 0 0, .int .i64 0]) 28)) fun F =>
 ∃ v_6 : Array Value, v_6.size = 2 ∧ F.row (Addr.mk b2 0 none) v_6 ∧
 ∃ v_7 : Array Value, v_7.size = 2 ∧ F.row (Addr.mk b3 0 none) v_7 ∧
 Spec prog 78 #[(.agg v_6), (.agg v_7), (.int .i64 (1 : Int))] F fun v F => ∃ v_8 : Array Value, ∃ v_8_1 : Int, v = (.tuple #[(.agg v_8), (.int .i64 v_8_1)]) ∧
 v_8.size = 2 ∧ (∀ v ∈ v_8.toList, storable v) ∧ ∃ c e, F (Addr.mk b4 0 none).block = some (.cells c e (0, 0)) ∧ (Addr.mk b4 0 none).spot = none ∧ (Addr.mk b4 0 none).off + 2 ≤ c.size ∧
 atF (F.set (Addr.mk b4 0 none).block (.cells (wr c (Addr.mk b4 0 none).off v_8.toList) e)) fun F =>
 ∃ vres_4 : Array Value, vres_4.size = 2 ∧ F.row (Addr.mk b4 0 none) vres_4 ∧ R (.tuple #[(.agg vres_4), (.int .i64 v_8_1)]) F
theorem c38 {a_0 : Array Value} {b_1 : Array Value} {R : Value → PH → Prop} {F : PH} (h : b38 a_0 b_1 R F) : Spec prog 38 #[(.agg a_0), (.agg b_1)] F R := by
 refine spec_of (args := [(.agg a_0), (.agg b_1)]) func38 rfl ntmps38 rfl ?_
 unfold b38 at h
 refine cR ?_
 refine s_ef (k_box (cs := a_0) rfl rfl ?_)
 intro b2 hf_b2
 replace h := atE (h b2 hf_b2)
 refine s_ef (k_box (cs := b_1) rfl rfl ?_)
 intro b3 hf_b3
 replace h := atE (h b3 hf_b3)
 refine s_ef (k_alloc zr28 ?_)
 intro b4 hf_b4
 replace h := atE (h b4 hf_b4)
 refine sR (.int .i64 (0 : Int)) (r_assign rfl rfl) ?_
 refine HL_nil ?_
 refine cR ?_
 obtain ⟨v_6, hs6, hc6, h⟩ := h
 refine sR (.agg v_6) (w_loadN rfl underlying28 rfl sz28 hs6 hc6) ?_
 obtain ⟨v_7, hs7, hc7, h⟩ := h
 refine sR (.agg v_7) (w_loadN rfl underlying28 rfl sz28 hs7 hc7) ?_
 refine s_ef (k_call (vs := [(.agg v_6), (.agg v_7), (.int .i64 (1 : Int))]) cb78 (evC rfl (evC rfl (evC rfl evN))) (h.mono ?_))
 clear h; rintro v F ⟨v_8, v_8_1, rfl, h⟩
 refine sR (.agg v_8) (r_extract rfl rfl rfl) ?_
 refine sR (.int .i64 v_8_1) (r_extract rfl rfl rfl) ?_
 refine s_ef0 (k_storeN (vs := v_8) rfl rfl sz28 (by decide) ?_)
 obtain ⟨hz1, hz2, c, e, hz3, hz4, hz5, h⟩ := h
 refine ⟨hz1, hz2, c, e, hz3, hz4, hz5, ?_⟩
 replace h := atE h
 refine sR (.int .i64 v_8_1) (r_assign rfl rfl) ?_
 refine HL_nil ?_
 obtain ⟨vres_4, hs4, hr4, h⟩ := h
 exact HC_ret (show endQ prog f38 R .ret _ _ from ⟨_, res2 rfl (rv_cellN rfl underlying28 rfl sz28 hs4 hr4) (rv_tmp rfl), h⟩)

/- 41 koine.koineref02.Xor -/
def b41 (a_0 : Array Value) (b_1 : Array Value) (R : Value → PH → Prop) (F : PH) : Prop :=
 ∀ b2, F b2 = none → atF (F.set b2 (.cells a_0 28)) fun F =>
 ∀ b3, F b3 = none → atF (F.set b3 (.cells b_1 28)) fun F =>
 ∀ b4, F b4 = none → atF (F.set b4 (.cells (#[.slice none 0 0, .int .i64 0]) 28)) fun F =>
 ∃ v_6 : Array Value, v_6.size = 2 ∧ F.row (Addr.mk b2 0 none) v_6 ∧
 ∃ v_7 : Array Value, v_7.size = 2 ∧ F.row (Addr.mk b3 0 none) v_7 ∧
 Spec prog 78 #[(.agg v_6), (.agg v_7), (.int .i64 (2 : Int))] F fun v F => ∃ v_8 : Array Value, ∃ v_8_1 : Int, v = (.tuple #[(.agg v_8), (.int .i64 v_8_1)]) ∧
 v_8.size = 2 ∧ (∀ v ∈ v_8.toList, storable v) ∧ ∃ c e, F (Addr.mk b4 0 none).block = some (.cells c e (0, 0)) ∧ (Addr.mk b4 0 none).spot = none ∧ (Addr.mk b4 0 none).off + 2 ≤ c.size ∧
 atF (F.set (Addr.mk b4 0 none).block (.cells (wr c (Addr.mk b4 0 none).off v_8.toList) e)) fun F =>
 ∃ vres_4 : Array Value, vres_4.size = 2 ∧ F.row (Addr.mk b4 0 none) vres_4 ∧ R (.tuple #[(.agg vres_4), (.int .i64 v_8_1)]) F
theorem c41 {a_0 : Array Value} {b_1 : Array Value} {R : Value → PH → Prop} {F : PH} (h : b41 a_0 b_1 R F) : Spec prog 41 #[(.agg a_0), (.agg b_1)] F R := by
 refine spec_of (args := [(.agg a_0), (.agg b_1)]) func41 rfl ntmps41 rfl ?_
 unfold b41 at h
 refine cR ?_
 refine s_ef (k_box (cs := a_0) rfl rfl ?_)
 intro b2 hf_b2
 replace h := atE (h b2 hf_b2)
 refine s_ef (k_box (cs := b_1) rfl rfl ?_)
 intro b3 hf_b3
 replace h := atE (h b3 hf_b3)
 refine s_ef (k_alloc zr28 ?_)
 intro b4 hf_b4
 replace h := atE (h b4 hf_b4)
 refine sR (.int .i64 (0 : Int)) (r_assign rfl rfl) ?_
 refine HL_nil ?_
 refine cR ?_
 obtain ⟨v_6, hs6, hc6, h⟩ := h
 refine sR (.agg v_6) (w_loadN rfl underlying28 rfl sz28 hs6 hc6) ?_
 obtain ⟨v_7, hs7, hc7, h⟩ := h
 refine sR (.agg v_7) (w_loadN rfl underlying28 rfl sz28 hs7 hc7) ?_
 refine s_ef (k_call (vs := [(.agg v_6), (.agg v_7), (.int .i64 (2 : Int))]) cb78 (evC rfl (evC rfl (evC rfl evN))) (h.mono ?_))
 clear h; rintro v F ⟨v_8, v_8_1, rfl, h⟩
 refine sR (.agg v_8) (r_extract rfl rfl rfl) ?_
 refine sR (.int .i64 v_8_1) (r_extract rfl rfl rfl) ?_
 refine s_ef0 (k_storeN (vs := v_8) rfl rfl sz28 (by decide) ?_)
 obtain ⟨hz1, hz2, c, e, hz3, hz4, hz5, h⟩ := h
 refine ⟨hz1, hz2, c, e, hz3, hz4, hz5, ?_⟩
 replace h := atE h
 refine sR (.int .i64 v_8_1) (r_assign rfl rfl) ?_
 refine HL_nil ?_
 obtain ⟨vres_4, hs4, hr4, h⟩ := h
 exact HC_ret (show endQ prog f41 R .ret _ _ from ⟨_, res2 rfl (rv_cellN rfl underlying28 rfl sz28 hs4 hr4) (rv_tmp rfl), h⟩)

/- 42 koine.koineref02.Choose -/
def b42 (c_0 : Array Value) (a_1 : Array Value) (b_2 : Array Value) (R : Value → PH → Prop) (F : PH) : Prop :=
 ∀ b3, F b3 = none → atF (F.set b3 (.cells c_0 28)) fun F =>
 ∀ b4, F b4 = none → atF (F.set b4 (.cells a_1 28)) fun F =>
 ∀ b5, F b5 = none → atF (F.set b5 (.cells b_2 28)) fun F =>
 ∀ b6, F b6 = none → atF (F.set b6 (.cells (#[.slice none 0 0, .int .i64 0]) 28)) fun F =>
 ∃ v_9 : Array Value, v_9.size = 2 ∧ F.row (Addr.mk b3 0 none) v_9 ∧
 ∃ v_10 : Array Value, v_10.size = 2 ∧ F.row (Addr.mk b4 0 none) v_10 ∧
 ∃ v_11 : Array Value, v_11.size = 2 ∧ F.row (Addr.mk b5 0 none) v_11 ∧
 v_9.size = 2 ∧ v_10.size = 2 ∧ v_11.size = 2 ∧ ∀ b12, F b12 = none → atF (F.set b12 (.cells (wr (wr (wr (#[.slice none 0 0, .int .i64 0, .slice none 0 0, .int .i64 0, .slice none 0 0, .int .i64 0] : Array Value) 0 v_9.toList) 2 v_10.toList) 4 v_11.toList) 28)) fun F =>
 Spec prog 80 #[(Sl.v (Sl.mk (some (Addr.mk b12 0 none)) 3 3))] F fun v F => ∃ v_13 : Int, v = (.int .i64 v_13) ∧
 ((v_13 ≠ (0 : Int) →
  (#[.slice none 0 0, .int .i64 0] : Array Value).size = 2 ∧ (∀ v ∈ (#[.slice none 0 0, .int .i64 0] : Array Value).toList, storable v) ∧ ∃ c e, F (Addr.mk b6 0 none).block = some (.cells c e (0, 0)) ∧ (Addr.mk b6 0 none).spot = none ∧ (Addr.mk b6 0 none).off + 2 ≤ c.size ∧
  atF (F.set (Addr.mk b6 0 none).block (.cells (wr c (Addr.mk b6 0 none).off (#[.slice none 0 0, .int .i64 0] : Array Value).toList) e)) fun F =>
  ∃ vres_6 : Array Value, vres_6.size = 2 ∧ F.row (Addr.mk b6 0 none) vres_6 ∧ R (.tuple #[(.agg vres_6), (.int .i64 v_13)]) F) ∧
 (¬ (v_13 ≠ (0 : Int)) →
  ∃ v_18 : Array Value, v_18.size = 2 ∧ F.row (Addr.mk b3 0 none) v_18 ∧
  ∃ v_19 : Array Value, v_19.size = 2 ∧ F.row (Addr.mk b4 0 none) v_19 ∧
  ∃ v_21 : Array Value, v_21.size = 2 ∧ F.row (Addr.mk b5 0 none) v_21 ∧
  ∃ v_22 : Array Value, v_22.size = 2 ∧ F.row (Addr.mk b3 0 none) v_22 ∧
  Spec prog 83 #[(.agg v_18), (.agg v_19)] F fun v F => ∃ v_20 : Array Value, v = (.agg v_20) ∧
  F.row (Addr.mk b3 0 none) v_22 ∧ F.row (Addr.mk b5 0 none) v_21 ∧ Spec prog 84 #[(.agg v_21), (.agg v_22)] F fun v F => ∃ v_23 : Array Value, v = (.agg v_23) ∧
  Spec prog 82 #[(.agg v_20), (.agg v_23)] F fun v F => ∃ v_24 : Array Value, v = (.agg v_24) ∧
  Spec prog 81 #[(.agg v_24)] F fun v F => ∃ v_25 : Array Value, ∃ v_25_1 : Int, v = (.tuple #[(.agg v_25), (.int .i64 v_25_1)]) ∧
  v_25.size = 2 ∧ (∀ v ∈ v_25.toList, storable v) ∧ ∃ c e, F (Addr.mk b6 0 none).block = some (.cells c e (0, 0)) ∧ (Addr.mk b6 0 none).spot = none ∧ (Addr.mk b6 0 none).off + 2 ≤ c.size ∧
  atF (F.set (Addr.mk b6 0 none).block (.cells (wr c (Addr.mk b6 0 none).off v_25.toList) e)) fun F =>
  ∃ vres_6_1 : Array Value, vres_6_1.size = 2 ∧ F.row (Addr.mk b6 0 none) vres_6_1 ∧ R (.tuple #[(.agg vres_6_1), (.int .i64 v_25_1)]) F))
theorem c42 {c_0 : Array Value} {a_1 : Array Value} {b_2 : Array Value} {R : Value → PH → Prop} {F : PH} (h : b42 c_0 a_1 b_2 R F) : Spec prog 42 #[(.agg c_0), (.agg a_1), (.agg b_2)] F R := by
 refine spec_of (args := [(.agg c_0), (.agg a_1), (.agg b_2)]) func42 rfl ntmps42 rfl ?_
 unfold b42 at h
 refine cR ?_
 refine s_ef (k_box (cs := c_0) rfl rfl ?_)
 intro b3 hf_b3
 replace h := atE (h b3 hf_b3)
 refine s_ef (k_box (cs := a_1) rfl rfl ?_)
 intro b4 hf_b4
 replace h := atE (h b4 hf_b4)
 refine s_ef (k_box (cs := b_2) rfl rfl ?_)
 intro b5 hf_b5
 replace h := atE (h b5 hf_b5)
 refine s_ef (k_alloc zr28 ?_)
 intro b6 hf_b6
 replace h := atE (h b6 hf_b6)
 refine sR (.int .i64 (0 : Int)) (r_assign rfl rfl) ?_
 refine HL_nil ?_
 refine cR ?_
 obtain ⟨v_9, hs9, hc9, h⟩ := h
 refine sR (.agg v_9) (w_loadN rfl underlying28 rfl sz28 hs9 hc9) ?_
 obtain ⟨v_10, hs10, hc10, h⟩ := h
 refine sR (.agg v_10) (w_loadN rfl underlying28 rfl sz28 hs10 hc10) ?_
 obtain ⟨v_11, hs11, hc11, h⟩ := h
 refine sR (.agg v_11) (w_loadN rfl underlying28 rfl sz28 hs11 hc11) ?_
 obtain ⟨hz12_0, hz12_1, hz12_2, h⟩ := h
 refine s_ef (k_buildSlice (cells := (wr (wr (wr (#[.slice none 0 0, .int .i64 0, .slice none 0 0, .int .i64 0, .slice none 0 0, .int .i64 0] : Array Value) 0 v_9.toList) 2 v_10.toList) 4 v_11.toList)) underlying100 sz28 (by decide) zr28 ((zc_flat _ rfl _).trans (rfl : _ = (#[.slice none 0 0, .int .i64 0, .slice none 0 0, .int .i64 0, .slice none 0 0, .int .i64 0] : Array Value))) (evPC rfl (evPC rfl (evPC rfl evPN))) (fillA rfl hz12_0 (by first | rfl | (simp only [wr_size, Array.size_setIfInBounds]; rfl)) (fillA rfl hz12_1 (by first | rfl | (simp only [wr_size, Array.size_setIfInBounds]; rfl)) (fillA rfl hz12_2 (by first | rfl | (simp only [wr_size, Array.size_setIfInBounds]; rfl)) (fillN rfl)))) rfl ?_)
 intro b12 hf_b12
 replace h := atE (h b12 hf_b12)
 refine s_ef (k_call (vs := [(Sl.v (Sl.mk (some (Addr.mk b12 0 none)) 3 3))]) cb80 (evC rfl evN) (h.mono ?_))
 clear h; rintro v F ⟨v_13, rfl, h⟩
 refine sR (.int .i64 v_13) (r_assign rfl rfl) ?_
 refine HL_nil ?_
 refine HC_seq ?_
 refine cR ?_
 refine sR (.int .i64 v_13) (r_move rfl rfl) ?_
 refine sR (.bool (decide (v_13 ≠ (0 : Int)))) (w_neq rfl rfl) ?_
 refine HL_nil ?_
 refine HC_cond (t := (decide (v_13 ≠ (0 : Int)))) rfl (fun hc => ?_) (fun hc => ?_)
 ·
  replace h := h.1 (of_decide_eq_true hc)
  clear hc
  refine cR ?_
  refine sR (.agg (#[.slice none 0 0, .int .i64 0] : Array Value)) (w_buildStruct (cells := #[.slice none 0 0, .int .i64 0]) underlying28 zr28 kf28 (evPN) (fillN rfl)) ?_
  refine sR (.int .i64 v_13) (r_move rfl rfl) ?_
  refine s_ef0 (k_storeN (vs := (#[.slice none 0 0, .int .i64 0] : Array Value)) rfl rfl sz28 (by decide) ?_)
  obtain ⟨hz1, hz2, c, e, hz3, hz4, hz5, h⟩ := h
  refine ⟨hz1, hz2, c, e, hz3, hz4, hz5, ?_⟩
  replace h := atE h
  refine sR (.int .i64 v_13) (r_assign rfl rfl) ?_
  refine HL_nil ?_
  obtain ⟨vres_6, hs6, hr6, h⟩ := h
  exact HC_ret (show endQ prog f42 R .ret _ _ from ⟨_, res2 rfl (rv_cellN rfl underlying28 rfl sz28 hs6 hr6) (rv_tmp rfl), h⟩)
 ·
  replace h := h.2 (of_decide_eq_false hc)
  clear hc
  refine HC_skip ?_
  refine HC_seq ?_
  refine HC_draw0 (by kernel_rfl) (fun hp => ?_)
  obtain ⟨v_18, hs18, hc18, h⟩ := h
  refine gR 0 (.agg v_18) rfl (w_loadN rfl underlying28 rfl sz28 hs18 hc18) hp (fun S0 q0 => ?_)
  replace hp := holdC (i := 0) (q0 _ (w_loadN rfl underlying28 rfl sz28 hs18 hc18)) hp
  obtain ⟨v_19, hs19, hc19, h⟩ := h
  refine gR 1 (.agg v_19) rfl (w_loadN rfl underlying28 rfl sz28 hs19 hc19) hp (fun S1 q1 => ?_)
  replace hp := holdC (i := 1) (q1 _ (w_loadN rfl underlying28 rfl sz28 hs19 hc19)) hp
  obtain ⟨v_21, hs21, hc21, h⟩ := h
  refine gR 3 (.agg v_21) rfl (w_loadN rfl underlying28 rfl sz28 hs21 hc21) hp (fun S3 q3 => ?_)
  replace hp := holdC (i := 3) (q3 _ (w_loadN rfl underlying28 rfl sz28 hs21 hc21)) hp
  obtain ⟨v_22, hs22, hc22, h⟩ := h
  refine gR 4 (.agg v_22) rfl (w_loadN rfl underlying28 rfl sz28 hs22 hc22) hp (fun S4 q4 => ?_)
  replace hp := holdC (i := 4) (q4 _ (w_loadN rfl underlying28 rfl sz28 hs22 hc22)) hp
  refine RG_eff1 (i := 2) (by kernel_rfl) (g_op (Sp' := [(4, S4), (3, S3)]) rfl rfl (k_call (vs := [(.agg v_18), (.agg v_19)]) cb83 (evC rfl (evC rfl evN)) (h.mono ?_)))
  clear h; rintro v F ⟨v_20, rfl, h⟩
  obtain ⟨hk_3, hk_4, h⟩ := h
  refine holdI (holdC (i := 4) (q4 _ (w_loadN rfl underlying28 rfl sz28 hs22 hk_3)) (holdC (i := 3) (q3 _ (w_loadN rfl underlying28 rfl sz28 hs21 hk_4)) hold0)) (fun hp => ?_)
  refine RG_eff1 (i := 5) (by kernel_rfl) (g_op (Sp' := []) rfl rfl (k_call (vs := [(.agg v_21), (.agg v_22)]) cb84 (evC rfl (evC rfl evN)) (h.mono ?_)))
  clear h; rintro v F ⟨v_23, rfl, h⟩
  refine holdI hold0 (fun hp => ?_)
  refine RG_eff1 (i := 6) (by kernel_rfl) (g_op (Sp' := []) rfl rfl (k_call (vs := [(.agg v_20), (.agg v_23)]) cb82 (evC rfl (evC rfl evN)) (h.mono ?_)))
  clear h; rintro v F ⟨v_24, rfl, h⟩
  refine holdI hold0 (fun hp => ?_)
  refine RG_eff1 (i := 7) (by kernel_rfl) (g_op (Sp' := []) rfl rfl (k_call (vs := [(.agg v_24)]) cb81 (evC rfl evN) (h.mono ?_)))
  clear h; rintro v F ⟨v_25, v_25_1, rfl, h⟩
  refine holdI hold0 (fun hp => ?_)
  refine gU 8 (.agg v_25) rfl (fun _ => r_extract rfl rfl rfl) hp ?_
  refine gU 9 (.int .i64 v_25_1) rfl (fun _ => r_extract rfl rfl rfl) hp ?_
  refine RG_eff1 (i := 10) (by kernel_rfl) (g_op0 (Sp' := []) rfl rfl (k_storeN (vs := v_25) rfl rfl sz28 (by decide) ?_))
  obtain ⟨hz1, hz2, c, e, hz3, hz4, hz5, h⟩ := h
  refine ⟨hz1, hz2, c, e, hz3, hz4, hz5, ?_⟩
  replace h := atE h
  refine holdI hold0 (fun hp => ?_)
  refine gU 11 (.int .i64 v_25_1) rfl (fun _ => r_assign rfl rfl) hp ?_
  refine RG_done (by kernel_rfl) ?_
  obtain ⟨vres_6_1, hs6, hr6, h⟩ := h
  exact HC_ret (show endQ prog f42 R .ret _ _ from ⟨_, res2 rfl (rv_cellN rfl underlying28 rfl sz28 hs6 hr6) (rv_tmp rfl), h⟩)

/- 43 koine.koineref02.Not -/
def b43 (a_0 : Array Value) (R : Value → PH → Prop) (F : PH) : Prop :=
 ∀ b1, F b1 = none → atF (F.set b1 (.cells a_0 28)) fun F =>
 ∀ b2, F b2 = none → atF (F.set b2 (.cells (#[.slice none 0 0, .int .i64 0]) 28)) fun F =>
 ∃ v_5 : Array Value, v_5.size = 2 ∧ F.row (Addr.mk b1 0 none) v_5 ∧
 Spec prog 40 #[(.agg v_5)] F fun v F => ∃ v_6 : Int, v = (.int .i64 v_6) ∧
 ((v_6 ≠ (0 : Int) →
  (#[.slice none 0 0, .int .i64 0] : Array Value).size = 2 ∧ (∀ v ∈ (#[.slice none 0 0, .int .i64 0] : Array Value).toList, storable v) ∧ ∃ c e, F (Addr.mk b2 0 none).block = some (.cells c e (0, 0)) ∧ (Addr.mk b2 0 none).spot = none ∧ (Addr.mk b2 0 none).off + 2 ≤ c.size ∧
  atF (F.set (Addr.mk b2 0 none).block (.cells (wr c (Addr.mk b2 0 none).off (#[.slice none 0 0, .int .i64 0] : Array Value).toList) e)) fun F =>
  ∃ vres_2 : Array Value, vres_2.size = 2 ∧ F.row (Addr.mk b2 0 none) vres_2 ∧ R (.tuple #[(.agg vres_2), (.int .i64 v_6)]) F) ∧
 (¬ (v_6 ≠ (0 : Int)) →
  ∃ v_11 : Array Value, v_11.size = 2 ∧ F.row (Addr.mk b1 0 none) v_11 ∧
  Spec prog 85 #[(.agg v_11)] F fun v F => ∃ v_12 : Array Value, v = (.agg v_12) ∧
  Spec prog 81 #[(.agg v_12)] F fun v F => ∃ v_13 : Array Value, ∃ v_13_1 : Int, v = (.tuple #[(.agg v_13), (.int .i64 v_13_1)]) ∧
  v_13.size = 2 ∧ (∀ v ∈ v_13.toList, storable v) ∧ ∃ c e, F (Addr.mk b2 0 none).block = some (.cells c e (0, 0)) ∧ (Addr.mk b2 0 none).spot = none ∧ (Addr.mk b2 0 none).off + 2 ≤ c.size ∧
  atF (F.set (Addr.mk b2 0 none).block (.cells (wr c (Addr.mk b2 0 none).off v_13.toList) e)) fun F =>
  ∃ vres_2_1 : Array Value, vres_2_1.size = 2 ∧ F.row (Addr.mk b2 0 none) vres_2_1 ∧ R (.tuple #[(.agg vres_2_1), (.int .i64 v_13_1)]) F))
theorem c43 {a_0 : Array Value} {R : Value → PH → Prop} {F : PH} (h : b43 a_0 R F) : Spec prog 43 #[(.agg a_0)] F R := by
 refine spec_of (args := [(.agg a_0)]) func43 rfl ntmps43 rfl ?_
 unfold b43 at h
 refine cR ?_
 refine s_ef (k_box (cs := a_0) rfl rfl ?_)
 intro b1 hf_b1
 replace h := atE (h b1 hf_b1)
 refine s_ef (k_alloc zr28 ?_)
 intro b2 hf_b2
 replace h := atE (h b2 hf_b2)
 refine sR (.int .i64 (0 : Int)) (r_assign rfl rfl) ?_
 refine HL_nil ?_
 refine cR ?_
 obtain ⟨v_5, hs5, hc5, h⟩ := h
 refine sR (.agg v_5) (w_loadN rfl underlying28 rfl sz28 hs5 hc5) ?_
 refine s_ef (k_call (vs := [(.agg v_5)]) cb40 (evC rfl evN) (h.mono ?_))
 clear h; rintro v F ⟨v_6, rfl, h⟩
 refine sR (.int .i64 v_6) (r_assign rfl rfl) ?_
 refine HL_nil ?_
 refine HC_seq ?_
 refine cR ?_
 refine sR (.int .i64 v_6) (r_move rfl rfl) ?_
 refine sR (.bool (decide (v_6 ≠ (0 : Int)))) (w_neq rfl rfl) ?_
 refine HL_nil ?_
 refine HC_cond (t := (decide (v_6 ≠ (0 : Int)))) rfl (fun hc => ?_) (fun hc => ?_)
 ·
  replace h := h.1 (of_decide_eq_true hc)
  clear hc
  refine cR ?_
  refine sR (.agg (#[.slice none 0 0, .int .i64 0] : Array Value)) (w_buildStruct (cells := #[.slice none 0 0, .int .i64 0]) underlying28 zr28 kf28 (evPN) (fillN rfl)) ?_
  refine sR (.int .i64 v_6) (r_move rfl rfl) ?_
  refine s_ef0 (k_storeN (vs := (#[.slice none 0 0, .int .i64 0] : Array Value)) rfl rfl sz28 (by decide) ?_)
  obtain ⟨hz1, hz2, c, e, hz3, hz4, hz5, h⟩ := h
  refine ⟨hz1, hz2, c, e, hz3, hz4, hz5, ?_⟩
  replace h := atE h
  refine sR (.int .i64 v_6) (r_assign rfl rfl) ?_
  refine HL_nil ?_
  obtain ⟨vres_2, hs2, hr2, h⟩ := h
  exact HC_ret (show endQ prog f43 R .ret _ _ from ⟨_, res2 rfl (rv_cellN rfl underlying28 rfl sz28 hs2 hr2) (rv_tmp rfl), h⟩)
 ·
  replace h := h.2 (of_decide_eq_false hc)
  clear hc
  refine HC_skip ?_
  refine cR ?_
  obtain ⟨v_11, hs11, hc11, h⟩ := h
  refine sR (.agg v_11) (w_loadN rfl underlying28 rfl sz28 hs11 hc11) ?_
  refine s_ef (k_call (vs := [(.agg v_11)]) cb85 (evC rfl evN) (h.mono ?_))
  clear h; rintro v F ⟨v_12, rfl, h⟩
  refine s_ef (k_call (vs := [(.agg v_12)]) cb81 (evC rfl evN) (h.mono ?_))
  clear h; rintro v F ⟨v_13, v_13_1, rfl, h⟩
  refine sR (.agg v_13) (r_extract rfl rfl rfl) ?_
  refine sR (.int .i64 v_13_1) (r_extract rfl rfl rfl) ?_
  refine s_ef0 (k_storeN (vs := v_13) rfl rfl sz28 (by decide) ?_)
  obtain ⟨hz1, hz2, c, e, hz3, hz4, hz5, h⟩ := h
  refine ⟨hz1, hz2, c, e, hz3, hz4, hz5, ?_⟩
  replace h := atE h
  refine sR (.int .i64 v_13_1) (r_assign rfl rfl) ?_
  refine HL_nil ?_
  obtain ⟨vres_2_1, hs2, hr2, h⟩ := h
  exact HC_ret (show endQ prog f43 R .ret _ _ from ⟨_, res2 rfl (rv_cellN rfl underlying28 rfl sz28 hs2 hr2) (rv_tmp rfl), h⟩)

/- 45 koine.koineref02.Within -/
def b45 (a_0 : Array Value) (b_1 : Array Value) (R : Value → PH → Prop) (F : PH) : Prop :=
 ∀ b2, F b2 = none → atF (F.set b2 (.cells a_0 28)) fun F =>
 ∀ b3, F b3 = none → atF (F.set b3 (.cells b_1 28)) fun F =>
 ∃ v_5 : Array Value, v_5.size = 2 ∧ F.row (Addr.mk b2 0 none) v_5 ∧
 ∃ v_6 : Array Value, v_6.size = 2 ∧ F.row (Addr.mk b3 0 none) v_6 ∧
 v_5.size = 2 ∧ v_6.size = 2 ∧ ∀ b7, F b7 = none → atF (F.set b7 (.cells (wr (wr (#[.slice none 0 0, .int .i64 0, .slice none 0 0, .int .i64 0] : Array Value) 0 v_5.toList) 2 v_6.toList) 28)) fun F =>
 Spec prog 80 #[(Sl.v (Sl.mk (some (Addr.mk b7 0 none)) 2 2))] F fun v F => ∃ v_8 : Int, v = (.int .i64 v_8) ∧
 ((v_8 = (0 : Int) →
  ∃ v_11 : Array Value, v_11.size = 2 ∧ F.row (Addr.mk b2 0 none) v_11 ∧
  ∃ v_12 : Array Value, v_12.size = 2 ∧ F.row (Addr.mk b3 0 none) v_12 ∧
  Spec prog 84 #[(.agg v_11), (.agg v_12)] F fun v F => ∃ v_13 : Array Value, v = (.agg v_13) ∧
  ∃ v_14 : Int, v_13[1]? = some (.int .i64 v_14) ∧
  R (.bool (decide (v_14 = (0 : Int)))) F) ∧
 (¬ (v_8 = (0 : Int)) →
  R (.bool false) F))
theorem c45 {a_0 : Array Value} {b_1 : Array Value} {R : Value → PH → Prop} {F : PH} (h : b45 a_0 b_1 R F) : Spec prog 45 #[(.agg a_0), (.agg b_1)] F R := by
 refine spec_of (args := [(.agg a_0), (.agg b_1)]) func45 rfl ntmps45 rfl ?_
 unfold b45 at h
 refine cR ?_
 refine s_ef (k_box (cs := a_0) rfl rfl ?_)
 intro b2 hf_b2
 replace h := atE (h b2 hf_b2)
 refine s_ef (k_box (cs := b_1) rfl rfl ?_)
 intro b3 hf_b3
 replace h := atE (h b3 hf_b3)
 refine sR (.bool false) (r_assign rfl rfl) ?_
 refine HL_nil ?_
 refine cR ?_
 obtain ⟨v_5, hs5, hc5, h⟩ := h
 refine sR (.agg v_5) (w_loadN rfl underlying28 rfl sz28 hs5 hc5) ?_
 obtain ⟨v_6, hs6, hc6, h⟩ := h
 refine sR (.agg v_6) (w_loadN rfl underlying28 rfl sz28 hs6 hc6) ?_
 obtain ⟨hz7_0, hz7_1, h⟩ := h
 refine s_ef (k_buildSlice (cells := (wr (wr (#[.slice none 0 0, .int .i64 0, .slice none 0 0, .int .i64 0] : Array Value) 0 v_5.toList) 2 v_6.toList)) underlying100 sz28 (by decide) zr28 ((zc_flat _ rfl _).trans (rfl : _ = (#[.slice none 0 0, .int .i64 0, .slice none 0 0, .int .i64 0] : Array Value))) (evPC rfl (evPC rfl evPN)) (fillA rfl hz7_0 (by first | rfl | (simp only [wr_size, Array.size_setIfInBounds]; rfl)) (fillA rfl hz7_1 (by first | rfl | (simp only [wr_size, Array.size_setIfInBounds]; rfl)) (fillN rfl))) rfl ?_)
 intro b7 hf_b7
 replace h := atE (h b7 hf_b7)
 refine s_ef (k_call (vs := [(Sl.v (Sl.mk (some (Addr.mk b7 0 none)) 2 2))]) cb80 (evC rfl evN) (h.mono ?_))
 clear h; rintro v F ⟨v_8, rfl, h⟩
 refine sR (.bool (decide (v_8 = (0 : Int)))) (w_eql rfl rfl) ?_
 refine sR (.bool (decide (v_8 = (0 : Int)))) (r_move rfl rfl) ?_
 by_cases hc : v_8 = (0 : Int)
 ·
  replace h := h.1 hc
  refine kN 9 (decide_eq_true hc) ?_
  refine kN 10 (decide_eq_true hc) ?_
  obtain ⟨v_11, hs11, hc11, h⟩ := h
  refine sR (.agg v_11) (w_loadN rfl underlying28 rfl sz28 hs11 hc11) ?_
  obtain ⟨v_12, hs12, hc12, h⟩ := h
  refine sR (.agg v_12) (w_loadN rfl underlying28 rfl sz28 hs12 hc12) ?_
  refine s_ef (k_call (vs := [(.agg v_11), (.agg v_12)]) cb84 (evC rfl (evC rfl evN)) (h.mono ?_))
  clear h; rintro v F ⟨v_13, rfl, h⟩
  obtain ⟨v_14, hx14, h⟩ := h
  refine sR (.int .i64 v_14) (w_field1 rfl underlying28 rfl rfl underlying3 rfl hx14) ?_
  refine sR (.bool (decide (v_14 = (0 : Int)))) (w_eql rfl rfl) ?_
  refine sR (.bool (decide (v_14 = (0 : Int)))) (r_pick rfl rfl (fun _ => rfl) (fun h => by cases h)) ?_
  refine sR (.bool (decide (v_14 = (0 : Int)))) (r_assign rfl rfl) ?_
  refine HL_nil ?_
  exact HC_ret (show endQ prog f45 R .ret _ _ from ⟨_, res1 rfl (rv_tmp rfl), h⟩)
 ·
  replace h := h.2 hc
  refine kN 9 (decide_eq_false hc) ?_
  refine kN 10 (decide_eq_false hc) ?_
  refine s_skip ?_
  refine s_skip ?_
  refine s_skip ?_
  refine s_skip ?_
  refine s_skip ?_
  refine sR (.bool false) (r_pick rfl rfl (fun h => by cases h) (fun _ => rfl)) ?_
  refine sR (.bool false) (r_assign rfl rfl) ?_
  refine HL_nil ?_
  exact HC_ret (show endQ prog f45 R .ret _ _ from ⟨_, res1 rfl (rv_tmp rfl), h⟩)

/- 47 koine.koineref02.Disjoint -/
def b47 (a_0 : Array Value) (b_1 : Array Value) (R : Value → PH → Prop) (F : PH) : Prop :=
 ∀ b2, F b2 = none → atF (F.set b2 (.cells a_0 28)) fun F =>
 ∀ b3, F b3 = none → atF (F.set b3 (.cells b_1 28)) fun F =>
 ∃ v_5 : Array Value, v_5.size = 2 ∧ F.row (Addr.mk b2 0 none) v_5 ∧
 ∃ v_6 : Array Value, v_6.size = 2 ∧ F.row (Addr.mk b3 0 none) v_6 ∧
 v_5.size = 2 ∧ v_6.size = 2 ∧ ∀ b7, F b7 = none → atF (F.set b7 (.cells (wr (wr (#[.slice none 0 0, .int .i64 0, .slice none 0 0, .int .i64 0] : Array Value) 0 v_5.toList) 2 v_6.toList) 28)) fun F =>
 Spec prog 80 #[(Sl.v (Sl.mk (some (Addr.mk b7 0 none)) 2 2))] F fun v F => ∃ v_8 : Int, v = (.int .i64 v_8) ∧
 ((v_8 = (0 : Int) →
  ∃ v_11 : Array Value, v_11.size = 2 ∧ F.row (Addr.mk b2 0 none) v_11 ∧
  ∃ v_12 : Array Value, v_12.size = 2 ∧ F.row (Addr.mk b3 0 none) v_12 ∧
  Spec prog 83 #[(.agg v_11), (.agg v_12)] F fun v F => ∃ v_13 : Array Value, v = (.agg v_13) ∧
  ∃ v_14 : Int, v_13[1]? = some (.int .i64 v_14) ∧
  R (.bool (decide (v_14 = (0 : Int)))) F) ∧
 (¬ (v_8 = (0 : Int)) →
  R (.bool false) F))
theorem c47 {a_0 : Array Value} {b_1 : Array Value} {R : Value → PH → Prop} {F : PH} (h : b47 a_0 b_1 R F) : Spec prog 47 #[(.agg a_0), (.agg b_1)] F R := by
 refine spec_of (args := [(.agg a_0), (.agg b_1)]) func47 rfl ntmps47 rfl ?_
 unfold b47 at h
 refine cR ?_
 refine s_ef (k_box (cs := a_0) rfl rfl ?_)
 intro b2 hf_b2
 replace h := atE (h b2 hf_b2)
 refine s_ef (k_box (cs := b_1) rfl rfl ?_)
 intro b3 hf_b3
 replace h := atE (h b3 hf_b3)
 refine sR (.bool false) (r_assign rfl rfl) ?_
 refine HL_nil ?_
 refine cR ?_
 obtain ⟨v_5, hs5, hc5, h⟩ := h
 refine sR (.agg v_5) (w_loadN rfl underlying28 rfl sz28 hs5 hc5) ?_
 obtain ⟨v_6, hs6, hc6, h⟩ := h
 refine sR (.agg v_6) (w_loadN rfl underlying28 rfl sz28 hs6 hc6) ?_
 obtain ⟨hz7_0, hz7_1, h⟩ := h
 refine s_ef (k_buildSlice (cells := (wr (wr (#[.slice none 0 0, .int .i64 0, .slice none 0 0, .int .i64 0] : Array Value) 0 v_5.toList) 2 v_6.toList)) underlying100 sz28 (by decide) zr28 ((zc_flat _ rfl _).trans (rfl : _ = (#[.slice none 0 0, .int .i64 0, .slice none 0 0, .int .i64 0] : Array Value))) (evPC rfl (evPC rfl evPN)) (fillA rfl hz7_0 (by first | rfl | (simp only [wr_size, Array.size_setIfInBounds]; rfl)) (fillA rfl hz7_1 (by first | rfl | (simp only [wr_size, Array.size_setIfInBounds]; rfl)) (fillN rfl))) rfl ?_)
 intro b7 hf_b7
 replace h := atE (h b7 hf_b7)
 refine s_ef (k_call (vs := [(Sl.v (Sl.mk (some (Addr.mk b7 0 none)) 2 2))]) cb80 (evC rfl evN) (h.mono ?_))
 clear h; rintro v F ⟨v_8, rfl, h⟩
 refine sR (.bool (decide (v_8 = (0 : Int)))) (w_eql rfl rfl) ?_
 refine sR (.bool (decide (v_8 = (0 : Int)))) (r_move rfl rfl) ?_
 by_cases hc : v_8 = (0 : Int)
 ·
  replace h := h.1 hc
  refine kN 9 (decide_eq_true hc) ?_
  refine kN 10 (decide_eq_true hc) ?_
  obtain ⟨v_11, hs11, hc11, h⟩ := h
  refine sR (.agg v_11) (w_loadN rfl underlying28 rfl sz28 hs11 hc11) ?_
  obtain ⟨v_12, hs12, hc12, h⟩ := h
  refine sR (.agg v_12) (w_loadN rfl underlying28 rfl sz28 hs12 hc12) ?_
  refine s_ef (k_call (vs := [(.agg v_11), (.agg v_12)]) cb83 (evC rfl (evC rfl evN)) (h.mono ?_))
  clear h; rintro v F ⟨v_13, rfl, h⟩
  obtain ⟨v_14, hx14, h⟩ := h
  refine sR (.int .i64 v_14) (w_field1 rfl underlying28 rfl rfl underlying3 rfl hx14) ?_
  refine sR (.bool (decide (v_14 = (0 : Int)))) (w_eql rfl rfl) ?_
  refine sR (.bool (decide (v_14 = (0 : Int)))) (r_pick rfl rfl (fun _ => rfl) (fun h => by cases h)) ?_
  refine sR (.bool (decide (v_14 = (0 : Int)))) (r_assign rfl rfl) ?_
  refine HL_nil ?_
  exact HC_ret (show endQ prog f47 R .ret _ _ from ⟨_, res1 rfl (rv_tmp rfl), h⟩)
 ·
  replace h := h.2 hc
  refine kN 9 (decide_eq_false hc) ?_
  refine kN 10 (decide_eq_false hc) ?_
  refine s_skip ?_
  refine s_skip ?_
  refine s_skip ?_
  refine s_skip ?_
  refine s_skip ?_
  refine sR (.bool false) (r_pick rfl rfl (fun h => by cases h) (fun _ => rfl)) ?_
  refine sR (.bool false) (r_assign rfl rfl) ?_
  refine HL_nil ?_
  exact HC_ret (show endQ prog f47 R .ret _ _ from ⟨_, res1 rfl (rv_tmp rfl), h⟩)

/- 78 koine.koineref02.operation -/
def b78 (a_0 : Array Value) (b_1 : Array Value) (op_2 : Int) (R : Value → PH → Prop) (F : PH) : Prop :=
 ∀ b3, F b3 = none → atF (F.set b3 (.cells a_0 28)) fun F =>
 ∀ b4, F b4 = none → atF (F.set b4 (.cells b_1 28)) fun F =>
 ∀ b6, F b6 = none → atF (F.set b6 (.cells (#[.slice none 0 0, .int .i64 0]) 28)) fun F =>
 ∃ v_9 : Array Value, v_9.size = 2 ∧ F.row (Addr.mk b3 0 none) v_9 ∧
 ∃ v_10 : Array Value, v_10.size = 2 ∧ F.row (Addr.mk b4 0 none) v_10 ∧
 v_9.size = 2 ∧ v_10.size = 2 ∧ ∀ b11, F b11 = none → atF (F.set b11 (.cells (wr (wr (#[.slice none 0 0, .int .i64 0, .slice none 0 0, .int .i64 0] : Array Value) 0 v_9.toList) 2 v_10.toList) 28)) fun F =>
 Spec prog 80 #[(Sl.v (Sl.mk (some (Addr.mk b11 0 none)) 2 2))] F fun v F => ∃ v_12 : Int, v = (.int .i64 v_12) ∧
 ((v_12 ≠ (0 : Int) →
  (#[.slice none 0 0, .int .i64 0] : Array Value).size = 2 ∧ (∀ v ∈ (#[.slice none 0 0, .int .i64 0] : Array Value).toList, storable v) ∧ ∃ c e, F (Addr.mk b6 0 none).block = some (.cells c e (0, 0)) ∧ (Addr.mk b6 0 none).spot = none ∧ (Addr.mk b6 0 none).off + 2 ≤ c.size ∧
  atF (F.set (Addr.mk b6 0 none).block (.cells (wr c (Addr.mk b6 0 none).off (#[.slice none 0 0, .int .i64 0] : Array Value).toList) e)) fun F =>
  ∃ vres_6 : Array Value, vres_6.size = 2 ∧ F.row (Addr.mk b6 0 none) vres_6 ∧ R (.tuple #[(.agg vres_6), (.int .i64 v_12)]) F) ∧
 (¬ (v_12 ≠ (0 : Int)) →
  ∃ v_17 : Array Value, v_17.size = 2 ∧ F.row (Addr.mk b3 0 none) v_17 ∧
  ∃ v_18 : Array Value, v_18.size = 2 ∧ F.row (Addr.mk b4 0 none) v_18 ∧
  Spec prog 100 #[(.agg v_17), (.agg v_18), (.int .i64 op_2)] F fun v F => ∃ v_20 : Array Value, v = (.agg v_20) ∧
  Spec prog 81 #[(.agg v_20)] F fun v F => ∃ v_21 : Array Value, ∃ v_21_1 : Int, v = (.tuple #[(.agg v_21), (.int .i64 v_21_1)]) ∧
  v_21.size = 2 ∧ (∀ v ∈ v_21.toList, storable v) ∧ ∃ c e, F (Addr.mk b6 0 none).block = some (.cells c e (0, 0)) ∧ (Addr.mk b6 0 none).spot = none ∧ (Addr.mk b6 0 none).off + 2 ≤ c.size ∧
  atF (F.set (Addr.mk b6 0 none).block (.cells (wr c (Addr.mk b6 0 none).off v_21.toList) e)) fun F =>
  ∃ vres_6_1 : Array Value, vres_6_1.size = 2 ∧ F.row (Addr.mk b6 0 none) vres_6_1 ∧ R (.tuple #[(.agg vres_6_1), (.int .i64 v_21_1)]) F))
theorem c78 {a_0 : Array Value} {b_1 : Array Value} {op_2 : Int} {R : Value → PH → Prop} {F : PH} (h : b78 a_0 b_1 op_2 R F) : Spec prog 78 #[(.agg a_0), (.agg b_1), (.int .i64 op_2)] F R := by
 refine spec_of (args := [(.agg a_0), (.agg b_1), (.int .i64 op_2)]) func78 rfl ntmps78 rfl ?_
 unfold b78 at h
 refine cR ?_
 refine s_ef (k_box (cs := a_0) rfl rfl ?_)
 intro b3 hf_b3
 replace h := atE (h b3 hf_b3)
 refine s_ef (k_box (cs := b_1) rfl rfl ?_)
 intro b4 hf_b4
 replace h := atE (h b4 hf_b4)
 refine s_ef (k_alloc zr28 ?_)
 intro b6 hf_b6
 replace h := atE (h b6 hf_b6)
 refine sR (.int .i64 (0 : Int)) (r_assign rfl rfl) ?_
 refine HL_nil ?_
 refine cR ?_
 obtain ⟨v_9, hs9, hc9, h⟩ := h
 refine sR (.agg v_9) (w_loadN rfl underlying28 rfl sz28 hs9 hc9) ?_
 obtain ⟨v_10, hs10, hc10, h⟩ := h
 refine sR (.agg v_10) (w_loadN rfl underlying28 rfl sz28 hs10 hc10) ?_
 obtain ⟨hz11_0, hz11_1, h⟩ := h
 refine s_ef (k_buildSlice (cells := (wr (wr (#[.slice none 0 0, .int .i64 0, .slice none 0 0, .int .i64 0] : Array Value) 0 v_9.toList) 2 v_10.toList)) underlying100 sz28 (by decide) zr28 ((zc_flat _ rfl _).trans (rfl : _ = (#[.slice none 0 0, .int .i64 0, .slice none 0 0, .int .i64 0] : Array Value))) (evPC rfl (evPC rfl evPN)) (fillA rfl hz11_0 (by first | rfl | (simp only [wr_size, Array.size_setIfInBounds]; rfl)) (fillA rfl hz11_1 (by first | rfl | (simp only [wr_size, Array.size_setIfInBounds]; rfl)) (fillN rfl))) rfl ?_)
 intro b11 hf_b11
 replace h := atE (h b11 hf_b11)
 refine s_ef (k_call (vs := [(Sl.v (Sl.mk (some (Addr.mk b11 0 none)) 2 2))]) cb80 (evC rfl evN) (h.mono ?_))
 clear h; rintro v F ⟨v_12, rfl, h⟩
 refine sR (.int .i64 v_12) (r_assign rfl rfl) ?_
 refine HL_nil ?_
 refine HC_seq ?_
 refine cR ?_
 refine sR (.int .i64 v_12) (r_move rfl rfl) ?_
 refine sR (.bool (decide (v_12 ≠ (0 : Int)))) (w_neq rfl rfl) ?_
 refine HL_nil ?_
 refine HC_cond (t := (decide (v_12 ≠ (0 : Int)))) rfl (fun hc => ?_) (fun hc => ?_)
 ·
  replace h := h.1 (of_decide_eq_true hc)
  clear hc
  refine cR ?_
  refine sR (.agg (#[.slice none 0 0, .int .i64 0] : Array Value)) (w_buildStruct (cells := #[.slice none 0 0, .int .i64 0]) underlying28 zr28 kf28 (evPN) (fillN rfl)) ?_
  refine sR (.int .i64 v_12) (r_move rfl rfl) ?_
  refine s_ef0 (k_storeN (vs := (#[.slice none 0 0, .int .i64 0] : Array Value)) rfl rfl sz28 (by decide) ?_)
  obtain ⟨hz1, hz2, c, e, hz3, hz4, hz5, h⟩ := h
  refine ⟨hz1, hz2, c, e, hz3, hz4, hz5, ?_⟩
  replace h := atE h
  refine sR (.int .i64 v_12) (r_assign rfl rfl) ?_
  refine HL_nil ?_
  obtain ⟨vres_6, hs6, hr6, h⟩ := h
  exact HC_ret (show endQ prog f78 R .ret _ _ from ⟨_, res2 rfl (rv_cellN rfl underlying28 rfl sz28 hs6 hr6) (rv_tmp rfl), h⟩)
 ·
  replace h := h.2 (of_decide_eq_false hc)
  clear hc
  refine HC_skip ?_
  refine cR ?_
  obtain ⟨v_17, hs17, hc17, h⟩ := h
  refine sR (.agg v_17) (w_loadN rfl underlying28 rfl sz28 hs17 hc17) ?_
  obtain ⟨v_18, hs18, hc18, h⟩ := h
  refine sR (.agg v_18) (w_loadN rfl underlying28 rfl sz28 hs18 hc18) ?_
  refine sR (.int .i64 op_2) (r_move rfl rfl) ?_
  refine s_ef (k_call (vs := [(.agg v_17), (.agg v_18), (.int .i64 op_2)]) cb100 (evC rfl (evC rfl (evC rfl evN))) (h.mono ?_))
  clear h; rintro v F ⟨v_20, rfl, h⟩
  refine s_ef (k_call (vs := [(.agg v_20)]) cb81 (evC rfl evN) (h.mono ?_))
  clear h; rintro v F ⟨v_21, v_21_1, rfl, h⟩
  refine sR (.agg v_21) (r_extract rfl rfl rfl) ?_
  refine sR (.int .i64 v_21_1) (r_extract rfl rfl rfl) ?_
  refine s_ef0 (k_storeN (vs := v_21) rfl rfl sz28 (by decide) ?_)
  obtain ⟨hz1, hz2, c, e, hz3, hz4, hz5, h⟩ := h
  refine ⟨hz1, hz2, c, e, hz3, hz4, hz5, ?_⟩
  replace h := atE h
  refine sR (.int .i64 v_21_1) (r_assign rfl rfl) ?_
  refine HL_nil ?_
  obtain ⟨vres_6_1, hs6, hr6, h⟩ := h
  exact HC_ret (show endQ prog f78 R .ret _ _ from ⟨_, res2 rfl (rv_cellN rfl underlying28 rfl sz28 hs6 hr6) (rv_tmp rfl), h⟩)

/- 80 koine.koineref02.first -/
def b80j1 (R : Value → PH → Prop) (F : PH) : Prop :=
 R (.int .i64 (0 : Int)) F
abbrev b80J1 (R : Value → PH → Prop) (E : En) (F : PH) : Prop := b80j1 R F
def b80L1 (N1 : Int → PH → Prop) (l_0 : Sl) (R : Value → PH → Prop) (i_3 : Int) (F : PH) : Prop :=
 ((i_3 < (l_0.len : Int) →
  ∃ a13_ : Addr, l_0.base = some a13_ ∧ 0 ≤ i_3 ∧ i_3 < (l_0.len : Int) ∧
  ∃ v_14 : Array Value, v_14.size = 2 ∧ F.row (Addr.add a13_ (Int.toNat i_3 * 2)) v_14 ∧
  Spec prog 40 #[(.agg v_14)] F fun v F => ∃ v_15 : Int, v = (.int .i64 v_15) ∧
  ((v_15 ≠ (0 : Int) →
   R (.int .i64 v_15) F) ∧
  (¬ (v_15 ≠ (0 : Int)) →
   N1 (IntKind.i64.wrap (i_3 + (1 : Int))) F))) ∧
 (¬ (i_3 < (l_0.len : Int)) →
  b80j1 R F))
def b80 (l_0 : Sl) (R : Value → PH → Prop) (F : PH) : Prop :=
 (∃ (I1 : Nat → Int → PH → Prop) (m1 : Nat), I1 m1 (0 : Int) F ∧ ∀ m1 i_3 F, I1 m1 i_3 F →
  b80L1 (fun i_3 F => ∃ m', m' < m1 ∧ I1 m' i_3 F) l_0 R i_3 F)
theorem c80 {l_0 : Sl} {R : Value → PH → Prop} {F : PH} (h : b80 l_0 R F) : Spec prog 80 #[(Sl.v l_0)] F R := by
 refine spec_of (args := [(Sl.v l_0)]) func80 rfl ntmps80 rfl ?_
 unfold b80 at h
 refine cR ?_
 refine sR (.int .i64 (0 : Int)) (r_assign rfl rfl) ?_
 refine HL_nil ?_
 refine HC_seqJ (b80J1 R) ?_ ?_
 ·
  clear h; rintro E F h
  unfold b80J1 at h; unfold b80j1 at h
  refine cR ?_
  refine sR (.int .i64 (0 : Int)) (r_assign rfl rfl) ?_
  refine HL_nil ?_
  exact HC_ret (show endQ prog f80 R .ret _ _ from ⟨_, res1 rfl (rv_tmp rfl), h⟩)
 ·
  skip
  refine cR ?_
  refine sR (.int .i64 (0 : Int)) (r_assign rfl rfl) ?_
  refine HL_nil ?_
  refine HC_block ?_
  obtain ⟨I1, m1, hI0, hr⟩ := h
  refine HC_loop (fun m1 E F => ∃ i_3 : Int, E 0 = (Sl.v l_0) ∧ E 3 = (.int .i64 i_3) ∧ I1 m1 i_3 F) m1 ⟨_, rfl, rfl, hI0⟩ ?_
  clear hI0; rintro m1 E F ⟨i_3, h0, h3, hI⟩
  have h := hr m1 i_3 F hI
  clear hr hI
  unfold b80L1 at h
  refine HC_seq ?_
  refine cR ?_
  refine sR (.int .i64 i_3) (r_move rfl h3) ?_
  refine sR (Sl.v l_0) (r_move rfl h0) ?_
  refine sR (.int .i64 (l_0.len : Int)) (r_lenSl rfl rfl underlying100) ?_
  refine sR (.bool (decide (i_3 < (l_0.len : Int)))) (r_lss rfl rfl rfl) ?_
  refine HL_nil ?_
  refine HC_cond (t := (decide (i_3 < (l_0.len : Int)))) rfl (fun hc => ?_) (fun hc => ?_)
  ·
   replace h := h.1 (of_decide_eq_true hc)
   clear hc
   refine HC_skip ?_
   refine HC_seq ?_
   refine HC_block ?_
   refine cR ?_
   refine sR (Sl.v l_0) (r_move rfl h0) ?_
   refine sR (.int .i64 i_3) (r_move rfl h3) ?_
   obtain ⟨a13_, hb13, hl13, hu13, h⟩ := h
   refine sR (.pointer (some (Addr.add a13_ (Int.toNat i_3 * 2)))) (w_indexAddr rfl rfl underlying100 sz28 hb13 hl13 hu13) ?_
   obtain ⟨v_14, hs14, hc14, h⟩ := h
   refine sR (.agg v_14) (w_loadN rfl underlying28 rfl sz28 hs14 hc14) ?_
   refine s_ef (k_call (vs := [(.agg v_14)]) cb40 (evC rfl evN) (h.mono ?_))
   clear h; rintro v F ⟨v_15, rfl, h⟩
   refine sR (.int .i64 v_15) (r_assign rfl rfl) ?_
   refine HL_nil ?_
   refine cR ?_
   refine sR (.int .i64 v_15) (r_move rfl rfl) ?_
   refine sR (.bool (decide (v_15 ≠ (0 : Int)))) (w_neq rfl rfl) ?_
   refine HL_nil ?_
   refine HC_cond (t := (decide (v_15 ≠ (0 : Int)))) rfl (fun hc => ?_) (fun hc => ?_)
   ·
    replace h := h.1 (of_decide_eq_true hc)
    clear hc
    refine cR ?_
    refine sR (.int .i64 v_15) (r_move rfl rfl) ?_
    refine sR (.int .i64 v_15) (r_assign rfl rfl) ?_
    refine HL_nil ?_
    exact HC_ret (show endQ prog f80 R .ret _ _ from ⟨_, res1 rfl (rv_tmp rfl), h⟩)
   ·
    replace h := h.2 (of_decide_eq_false hc)
    clear hc
    refine HC_skip ?_
    refine HC_region ?_
    refine sR (.int .i64 i_3) (r_move rfl h3) ?_
    refine sR (.int .i64 (IntKind.i64.wrap (i_3 + (1 : Int)))) (r_add rfl rfl rfl) ?_
    refine sR (.int .i64 (IntKind.i64.wrap (i_3 + (1 : Int)))) (r_assign rfl rfl) ?_
    refine HL_nil ?_
    obtain ⟨m', hm, h⟩ := h
    exact ⟨m', hm, _, h0, rfl, h⟩
  ·
   replace h := h.2 (of_decide_eq_false hc)
   clear hc
   refine HC_exit ?_
   exact h

end Go.Proofs.Ytafojmoeaneedaa
