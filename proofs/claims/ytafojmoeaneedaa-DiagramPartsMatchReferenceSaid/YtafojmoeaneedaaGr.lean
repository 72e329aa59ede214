/-
  What functions of the program do, in a clean form, each with the proof that its code does so. Printed by a program.
-/
import Derived.Test.YtafojmoeaneedaaGf
import Derived.Test.YtafojmoeaneedaaPho
namespace Go.Proofs.Ytafojmoeaneedaa
open Go Go.Proofs.Try
set_option maxRecDepth 10000
set_option maxHeartbeats 4000000
/- 48 koine.koineref02.Restrict -/
def b48j1 (v_1 : Int) (value_2 : Bool) (b3 : Nat) (b6 : Nat) (v_20 : Bool) (R : Value → PH → Prop) (F : PH) : Prop :=
 ((v_20 = true →
  (#[.slice none 0 0, .int .i64 0] : Array Value).size = 2 ∧ (∀ v ∈ (#[.slice none 0 0, .int .i64 0] : Array Value).toList, storable v) ∧ ∃ c e, F (Addr.mk b6 0 none).block = some (.cells c e (0, 0)) ∧ (Addr.mk b6 0 none).spot = none ∧ (Addr.mk b6 0 none).off + 2 ≤ c.size ∧
  atF (F.set (Addr.mk b6 0 none).block (.cells (wr c (Addr.mk b6 0 none).off (#[.slice none 0 0, .int .i64 0] : Array Value).toList) e)) fun F =>
  ∃ vres_6_1 : Array Value, vres_6_1.size = 2 ∧ F.row (Addr.mk b6 0 none) vres_6_1 ∧ R (.tuple #[(.agg vres_6_1), (.int .i64 (1 : Int))]) F) ∧
 (v_20 = false →
  ∃ v_22 : Array Value, v_22.size = 2 ∧ F.row (Addr.mk b3 0 none) v_22 ∧
  Spec prog 87 #[(.agg v_22), (.int .i64 v_1), (.bool value_2)] F fun v F => ∃ v_25 : Array Value, v = (.agg v_25) ∧
  Spec prog 81 #[(.agg v_25)] F fun v F => ∃ v_26 : Array Value, ∃ v_26_1 : Int, v = (.tuple #[(.agg v_26), (.int .i64 v_26_1)]) ∧
  v_26.size = 2 ∧ (∀ v ∈ v_26.toList, storable v) ∧ ∃ c e, F (Addr.mk b6 0 none).block = some (.cells c e (0, 0)) ∧ (Addr.mk b6 0 none).spot = none ∧ (Addr.mk b6 0 none).off + 2 ≤ c.size ∧
  atF (F.set (Addr.mk b6 0 none).block (.cells (wr c (Addr.mk b6 0 none).off v_26.toList) e)) fun F =>
  ∃ vres_6_2 : Array Value, vres_6_2.size = 2 ∧ F.row (Addr.mk b6 0 none) vres_6_2 ∧ R (.tuple #[(.agg vres_6_2), (.int .i64 v_26_1)]) F))
abbrev b48J1 (v_1 : Int) (value_2 : Bool) (b3 : Nat) (b6 : Nat) (R : Value → PH → Prop) (E : En) (F : PH) : Prop := ∃ v_20 : Bool, E 1 = (.int .i64 v_1) ∧ E 2 = (.bool value_2) ∧ E 3 = (.pointer (some (Addr.mk b3 0 none))) ∧ E 6 = (.pointer (some (Addr.mk b6 0 none))) ∧ E 20 = (.bool v_20) ∧ b48j1 v_1 value_2 b3 b6 v_20 R F
def b48 (a_0 : Array Value) (v_1 : Int) (value_2 : Bool) (R : Value → PH → Prop) (F : PH) : Prop :=
 ∀ b3, F b3 = none → atF (F.set b3 (.cells a_0 28)) fun F =>
 ∀ b6, F b6 = none → atF (F.set b6 (.cells (#[.slice none 0 0, .int .i64 0]) 28)) fun F =>
 ∃ v_9 : Array Value, v_9.size = 2 ∧ F.row (Addr.mk b3 0 none) v_9 ∧
 Spec prog 40 #[(.agg v_9)] F fun v F => ∃ v_10 : Int, v = (.int .i64 v_10) ∧
 ((v_10 ≠ (0 : Int) →
  (#[.slice none 0 0, .int .i64 0] : Array Value).size = 2 ∧ (∀ v ∈ (#[.slice none 0 0, .int .i64 0] : Array Value).toList, storable v) ∧ ∃ c e, F (Addr.mk b6 0 none).block = some (.cells c e (0, 0)) ∧ (Addr.mk b6 0 none).spot = none ∧ (Addr.mk b6 0 none).off + 2 ≤ c.size ∧
  atF (F.set (Addr.mk b6 0 none).block (.cells (wr c (Addr.mk b6 0 none).off (#[.slice none 0 0, .int .i64 0] : Array Value).toList) e)) fun F =>
  ∃ vres_6 : Array Value, vres_6.size = 2 ∧ F.row (Addr.mk b6 0 none) vres_6 ∧ R (.tuple #[(.agg vres_6), (.int .i64 v_10)]) F) ∧
 (¬ (v_10 ≠ (0 : Int)) →
  ((v_1 < (0 : Int) →
   b48j1 v_1 value_2 b3 b6 true R F) ∧
  (¬ (v_1 < (0 : Int)) →
   b48j1 v_1 value_2 b3 b6 (decide ((63 : Int) < v_1)) R F))))
theorem c48 {a_0 : Array Value} {v_1 : Int} {value_2 : Bool} {R : Value → PH → Prop} {F : PH} (h : b48 a_0 v_1 value_2 R F) : Spec prog 48 #[(.agg a_0), (.int .i64 v_1), (.bool value_2)] F R := by
 refine spec_of (args := [(.agg a_0), (.int .i64 v_1), (.bool value_2)]) func48 rfl ntmps48 rfl ?_
 unfold b48 at h
 refine cR ?_
 refine s_ef (k_box (cs := a_0) rfl rfl ?_)
 intro b3 hf_b3
 replace h := atE (h b3 hf_b3)
 refine s_ef (k_alloc zr28 ?_)
 intro b6 hf_b6
 replace h := atE (h b6 hf_b6)
 refine sR (.int .i64 (0 : Int)) (r_assign rfl rfl) ?_
 refine HL_nil ?_
 refine cR ?_
 obtain ⟨v_9, hs9, hc9, h⟩ := h
 refine sR (.agg v_9) (w_loadN rfl underlying28 rfl sz28 hs9 hc9) ?_
 refine s_ef (k_call (vs := [(.agg v_9)]) cb40 (evC rfl evN) (h.mono ?_))
 clear h; rintro v F ⟨v_10, rfl, h⟩
 refine sR (.int .i64 v_10) (r_assign rfl rfl) ?_
 refine HL_nil ?_
 refine HC_seq ?_
 refine cR ?_
 refine sR (.int .i64 v_10) (r_move rfl rfl) ?_
 refine sR (.bool (decide (v_10 ≠ (0 : Int)))) (w_neq rfl rfl) ?_
 refine HL_nil ?_
 refine HC_cond (t := (decide (v_10 ≠ (0 : Int)))) rfl (fun hc => ?_) (fun hc => ?_)
 ·
  replace h := h.1 (of_decide_eq_true hc)
  clear hc
  refine cR ?_
  refine sR (.agg (#[.slice none 0 0, .int .i64 0] : Array Value)) (w_buildStruct (cells := #[.slice none 0 0, .int .i64 0]) underlying28 zr28 kf28 (evPN) (fillN rfl)) ?_
  refine sR (.int .i64 v_10) (r_move rfl rfl) ?_
  refine s_ef0 (k_storeN (vs := (#[.slice none 0 0, .int .i64 0] : Array Value)) rfl rfl sz28 (by decide) ?_)
  obtain ⟨hz1, hz2, c, e, hz3, hz4, hz5, h⟩ := h
  refine ⟨hz1, hz2, c, e, hz3, hz4, hz5, ?_⟩
  replace h := atE h
  refine sR (.int .i64 v_10) (r_assign rfl rfl) ?_
  refine HL_nil ?_
  obtain ⟨vres_6, hs6, hr6, h⟩ := h
  exact HC_ret (show endQ prog f48 R .ret _ _ from ⟨_, res2 rfl (rv_cellN rfl underlying28 rfl sz28 hs6 hr6) (rv_tmp rfl), h⟩)
 ·
  replace h := h.2 (of_decide_eq_false hc)
  clear hc
  refine HC_skip ?_
  refine HC_seq ?_
  refine HC_seqJ (b48J1 v_1 value_2 b3 b6 R) ?_ ?_
  ·
   clear h; rintro E F ⟨v_20, h1, h2, h3, h6, h20, h⟩
   unfold b48j1 at h
   refine HC_cond (t := v_20) h20 (fun hc => ?_) (fun hc => ?_)
   ·
    replace h := h.1 hc
    clear hc
    refine cR ?_
    refine sR (.agg (#[.slice none 0 0, .int .i64 0] : Array Value)) (w_buildStruct (cells := #[.slice none 0 0, .int .i64 0]) underlying28 zr28 kf28 (evPN) (fillN rfl)) ?_
    refine s_ef0 (k_storeN (vs := (#[.slice none 0 0, .int .i64 0] : Array Value)) h6 rfl sz28 (by decide) ?_)
    obtain ⟨hz1, hz2, c, e, hz3, hz4, hz5, h⟩ := h
    refine ⟨hz1, hz2, c, e, hz3, hz4, hz5, ?_⟩
    replace h := atE h
    refine sR (.int .i64 (1 : Int)) (r_assign rfl rfl) ?_
    refine HL_nil ?_
    obtain ⟨vres_6_1, hs6, hr6, h⟩ := h
    exact HC_ret (show endQ prog f48 R .ret _ _ from ⟨_, res2 rfl (rv_cellN h6 underlying28 rfl sz28 hs6 hr6) (rv_tmp rfl), h⟩)
   ·
    replace h := h.2 hc
    clear hc
    refine HC_skip ?_
    refine cR ?_
    obtain ⟨v_22, hs22, hc22, h⟩ := h
    refine sR (.agg v_22) (w_loadN h3 underlying28 rfl sz28 hs22 hc22) ?_
    refine sR (.int .i64 v_1) (r_move rfl h1) ?_
    refine sR (.bool value_2) (r_move rfl h2) ?_
    refine s_ef (k_call (vs := [(.agg v_22), (.int .i64 v_1), (.bool value_2)]) cb87 (evC rfl (evC rfl (evC rfl evN))) (h.mono ?_))
    clear h; rintro v F ⟨v_25, rfl, h⟩
    refine s_ef (k_call (vs := [(.agg v_25)]) cb81 (evC rfl evN) (h.mono ?_))
    clear h; rintro v F ⟨v_26, v_26_1, rfl, h⟩
    refine sR (.agg v_26) (r_extract rfl rfl rfl) ?_
    refine sR (.int .i64 v_26_1) (r_extract rfl rfl rfl) ?_
    refine s_ef0 (k_storeN (vs := v_26) h6 rfl sz28 (by decide) ?_)
    obtain ⟨hz1, hz2, c, e, hz3, hz4, hz5, h⟩ := h
    refine ⟨hz1, hz2, c, e, hz3, hz4, hz5, ?_⟩
    replace h := atE h
    refine sR (.int .i64 v_26_1) (r_assign rfl rfl) ?_
    refine HL_nil ?_
    obtain ⟨vres_6_2, hs6, hr6, h⟩ := h
    exact HC_ret (show endQ prog f48 R .ret _ _ from ⟨_, res2 rfl (rv_cellN h6 underlying28 rfl sz28 hs6 hr6) (rv_tmp rfl), h⟩)
  ·
   skip
   refine HC_region ?_
   refine sR (.int .i64 v_1) (r_move rfl rfl) ?_
   refine sR (.bool (decide (v_1 < (0 : Int)))) (r_lss rfl rfl rfl) ?_
   refine sR (.bool (decide (v_1 < (0 : Int)))) (r_move rfl rfl) ?_
   by_cases hc : v_1 < (0 : Int)
   ·
    replace h := h.1 hc
    refine kN 16 (decide_eq_true hc) ?_
    refine kN 17 (decide_eq_true hc) ?_
    refine s_skip ?_
    refine s_skip ?_
    refine sR (.bool true) (r_pick rfl rfl (fun _ => rfl) (fun h => by cases h)) ?_
    refine HL_nil ?_
    show b48J1 v_1 value_2 b3 b6 R _ _
    exact ⟨_, rfl, rfl, rfl, rfl, rfl, h⟩
   ·
    replace h := h.2 hc
    refine kN 16 (decide_eq_false hc) ?_
    refine kN 17 (decide_eq_false hc) ?_
    refine sR (.int .i64 v_1) (r_move rfl rfl) ?_
    refine sR (.bool (decide ((63 : Int) < v_1))) (r_gtr rfl rfl rfl) ?_
    refine sR (.bool (decide ((63 : Int) < v_1))) (r_pick rfl rfl (fun h => by cases h) (fun _ => rfl)) ?_
    refine HL_nil ?_
    show b48J1 v_1 value_2 b3 b6 R _ _
    exact ⟨_, rfl, rfl, rfl, rfl, rfl, h⟩

/- 49 koine.koineref02.Exists -/
def b49j1 (v_1 : Int) (b2 : Nat) (b4 : Nat) (v_18 : Bool) (R : Value → PH → Prop) (F : PH) : Prop :=
 ((v_18 = true →
  (#[.slice none 0 0, .int .i64 0] : Array Value).size = 2 ∧ (∀ v ∈ (#[.slice none 0 0, .int .i64 0] : Array Value).toList, storable v) ∧ ∃ c e, F (Addr.mk b4 0 none).block = some (.cells c e (0, 0)) ∧ (Addr.mk b4 0 none).spot = none ∧ (Addr.mk b4 0 none).off + 2 ≤ c.size ∧
  atF (F.set (Addr.mk b4 0 none).block (.cells (wr c (Addr.mk b4 0 none).off (#[.slice none 0 0, .int .i64 0] : Array Value).toList) e)) fun F =>
  ∃ vres_4_1 : Array Value, vres_4_1.size = 2 ∧ F.row (Addr.mk b4 0 none) vres_4_1 ∧ R (.tuple #[(.agg vres_4_1), (.int .i64 (1 : Int))]) F) ∧
 (v_18 = false →
  ∃ v_20 : Array Value, v_20.size = 2 ∧ F.row (Addr.mk b2 0 none) v_20 ∧
  ∃ v_23 : Array Value, v_23.size = 2 ∧ F.row (Addr.mk b2 0 none) v_23 ∧
  Spec prog 87 #[(.agg v_20), (.int .i64 v_1), (.bool false)] F fun v F => ∃ v_22 : Array Value, v = (.agg v_22) ∧
  F.row (Addr.mk b2 0 none) v_23 ∧ Spec prog 87 #[(.agg v_23), (.int .i64 v_1), (.bool true)] F fun v F => ∃ v_25 : Array Value, v = (.agg v_25) ∧
  Spec prog 82 #[(.agg v_22), (.agg v_25)] F fun v F => ∃ v_26 : Array Value, v = (.agg v_26) ∧
  Spec prog 81 #[(.agg v_26)] F fun v F => ∃ v_27 : Array Value, ∃ v_27_1 : Int, v = (.tuple #[(.agg v_27), (.int .i64 v_27_1)]) ∧
  v_27.size = 2 ∧ (∀ v ∈ v_27.toList, storable v) ∧ ∃ c e, F (Addr.mk b4 0 none).block = some (.cells c e (0, 0)) ∧ (Addr.mk b4 0 none).spot = none ∧ (Addr.mk b4 0 none).off + 2 ≤ c.size ∧
  atF (F.set (Addr.mk b4 0 none).block (.cells (wr c (Addr.mk b4 0 none).off v_27.toList) e)) fun F =>
  ∃ vres_4_2 : Array Value, vres_4_2.size = 2 ∧ F.row (Addr.mk b4 0 none) vres_4_2 ∧ R (.tuple #[(.agg vres_4_2), (.int .i64 v_27_1)]) F))
abbrev b49J1 (v_1 : Int) (b2 : Nat) (b4 : Nat) (R : Value → PH → Prop) (E : En) (F : PH) : Prop := ∃ v_18 : Bool, E 1 = (.int .i64 v_1) ∧ E 2 = (.pointer (some (Addr.mk b2 0 none))) ∧ E 4 = (.pointer (some (Addr.mk b4 0 none))) ∧ E 18 = (.bool v_18) ∧ b49j1 v_1 b2 b4 v_18 R F
def b49 (a_0 : Array Value) (v_1 : Int) (R : Value → PH → Prop) (F : PH) : Prop :=
 ∀ b2, F b2 = none → atF (F.set b2 (.cells a_0 28)) fun F =>
 ∀ b4, F b4 = none → atF (F.set b4 (.cells (#[.slice none 0 0, .int .i64 0]) 28)) fun F =>
 ∃ v_7 : Array Value, v_7.size = 2 ∧ F.row (Addr.mk b2 0 none) v_7 ∧
 Spec prog 40 #[(.agg v_7)] F fun v F => ∃ v_8 : Int, v = (.int .i64 v_8) ∧
 ((v_8 ≠ (0 : Int) →
  (#[.slice none 0 0, .int .i64 0] : Array Value).size = 2 ∧ (∀ v ∈ (#[.slice none 0 0, .int .i64 0] : Array Value).toList, storable v) ∧ ∃ c e, F (Addr.mk b4 0 none).block = some (.cells c e (0, 0)) ∧ (Addr.mk b4 0 none).spot = none ∧ (Addr.mk b4 0 none).off + 2 ≤ c.size ∧
  atF (F.set (Addr.mk b4 0 none).block (.cells (wr c (Addr.mk b4 0 none).off (#[.slice none 0 0, .int .i64 0] : Array Value).toList) e)) fun F =>
  ∃ vres_4 : Array Value, vres_4.size = 2 ∧ F.row (Addr.mk b4 0 none) vres_4 ∧ R (.tuple #[(.agg vres_4), (.int .i64 v_8)]) F) ∧
 (¬ (v_8 ≠ (0 : Int)) →
  ((v_1 < (0 : Int) →
   b49j1 v_1 b2 b4 true R F) ∧
  (¬ (v_1 < (0 : Int)) →
   b49j1 v_1 b2 b4 (decide ((63 : Int) < v_1)) R F))))
theorem c49 {a_0 : Array Value} {v_1 : Int} {R : Value → PH → Prop} {F : PH} (h : b49 a_0 v_1 R F) : Spec prog 49 #[(.agg a_0), (.int .i64 v_1)] F R := by
 refine spec_of (args := [(.agg a_0), (.int .i64 v_1)]) func49 rfl ntmps49 rfl ?_
 unfold b49 at h
 refine cR ?_
 refine s_ef (k_box (cs := a_0) rfl rfl ?_)
 intro b2 hf_b2
 replace h := atE (h b2 hf_b2)
 refine s_ef (k_alloc zr28 ?_)
 intro b4 hf_b4
 replace h := atE (h b4 hf_b4)
 refine sR (.int .i64 (0 : Int)) (r_assign rfl rfl) ?_
 refine HL_nil ?_
 refine cR ?_
 obtain ⟨v_7, hs7, hc7, h⟩ := h
 refine sR (.agg v_7) (w_loadN rfl underlying28 rfl sz28 hs7 hc7) ?_
 refine s_ef (k_call (vs := [(.agg v_7)]) cb40 (evC rfl evN) (h.mono ?_))
 clear h; rintro v F ⟨v_8, rfl, h⟩
 refine sR (.int .i64 v_8) (r_assign rfl rfl) ?_
 refine HL_nil ?_
 refine HC_seq ?_
 refine cR ?_
 refine sR (.int .i64 v_8) (r_move rfl rfl) ?_
 refine sR (.bool (decide (v_8 ≠ (0 : Int)))) (w_neq rfl rfl) ?_
 refine HL_nil ?_
 refine HC_cond (t := (decide (v_8 ≠ (0 : Int)))) rfl (fun hc => ?_) (fun hc => ?_)
 ·
  replace h := h.1 (of_decide_eq_true hc)
  clear hc
  refine cR ?_
  refine sR (.agg (#[.slice none 0 0, .int .i64 0] : Array Value)) (w_buildStruct (cells := #[.slice none 0 0, .int .i64 0]) underlying28 zr28 kf28 (evPN) (fillN rfl)) ?_
  refine sR (.int .i64 v_8) (r_move rfl rfl) ?_
  refine s_ef0 (k_storeN (vs := (#[.slice none 0 0, .int .i64 0] : Array Value)) rfl rfl sz28 (by decide) ?_)
  obtain ⟨hz1, hz2, c, e, hz3, hz4, hz5, h⟩ := h
  refine ⟨hz1, hz2, c, e, hz3, hz4, hz5, ?_⟩
  replace h := atE h
  refine sR (.int .i64 v_8) (r_assign rfl rfl) ?_
  refine HL_nil ?_
  obtain ⟨vres_4, hs4, hr4, h⟩ := h
  exact HC_ret (show endQ prog f49 R .ret _ _ from ⟨_, res2 rfl (rv_cellN rfl underlying28 rfl sz28 hs4 hr4) (rv_tmp rfl), h⟩)
 ·
  replace h := h.2 (of_decide_eq_false hc)
  clear hc
  refine HC_skip ?_
  refine HC_seq ?_
  refine HC_seqJ (b49J1 v_1 b2 b4 R) ?_ ?_
  ·
   clear h; rintro E F ⟨v_18, h1, h2, h4, h18, h⟩
   unfold b49j1 at h
   refine HC_cond (t := v_18) h18 (fun hc => ?_) (fun hc => ?_)
   ·
    replace h := h.1 hc
    clear hc
    refine cR ?_
    refine sR (.agg (#[.slice none 0 0, .int .i64 0] : Array Value)) (w_buildStruct (cells := #[.slice none 0 0, .int .i64 0]) underlying28 zr28 kf28 (evPN) (fillN rfl)) ?_
    refine s_ef0 (k_storeN (vs := (#[.slice none 0 0, .int .i64 0] : Array Value)) h4 rfl sz28 (by decide) ?_)
    obtain ⟨hz1, hz2, c, e, hz3, hz4, hz5, h⟩ := h
    refine ⟨hz1, hz2, c, e, hz3, hz4, hz5, ?_⟩
    replace h := atE h
    refine sR (.int .i64 (1 : Int)) (r_assign rfl rfl) ?_
    refine HL_nil ?_
    obtain ⟨vres_4_1, hs4, hr4, h⟩ := h
    exact HC_ret (show endQ prog f49 R .ret _ _ from ⟨_, res2 rfl (rv_cellN h4 underlying28 rfl sz28 hs4 hr4) (rv_tmp rfl), h⟩)
   ·
    replace h := h.2 hc
    clear hc
    refine HC_skip ?_
    refine HC_seq ?_
    refine HC_draw0 (by kernel_rfl) (fun hp => ?_)
    obtain ⟨v_20, hs20, hc20, h⟩ := h
    refine gR 0 (.agg v_20) rfl (w_loadN h2 underlying28 rfl sz28 hs20 hc20) hp (fun S0 q0 => ?_)
    replace hp := holdC (i := 0) (q0 _ (w_loadN h2 underlying28 rfl sz28 hs20 hc20)) hp
    refine gU 1 (.int .i64 v_1) rfl (fun _ => r_move rfl h1) hp ?_
    obtain ⟨v_23, hs23, hc23, h⟩ := h
    refine gR 3 (.agg v_23) rfl (w_loadN h2 underlying28 rfl sz28 hs23 hc23) hp (fun S3 q3 => ?_)
    replace hp := holdC (i := 3) (q3 _ (w_loadN h2 underlying28 rfl sz28 hs23 hc23)) hp
    refine gU 4 (.int .i64 v_1) rfl (fun _ => r_move rfl h1) hp ?_
    refine RG_eff1 (i := 2) (by kernel_rfl) (g_op (Sp' := [(3, S3)]) rfl rfl (k_call (vs := [(.agg v_20), (.int .i64 v_1), (.bool false)]) cb87 (evC rfl (evC rfl (evC rfl evN))) (h.mono ?_)))
    clear h; rintro v F ⟨v_22, rfl, h⟩
    obtain ⟨hk_2, h⟩ := h
    refine holdI (holdC (i := 3) (q3 _ (w_loadN h2 underlying28 rfl sz28 hs23 hk_2)) hold0) (fun hp => ?_)
    refine RG_eff1 (i := 5) (by kernel_rfl) (g_op (Sp' := []) rfl rfl (k_call (vs := [(.agg v_23), (.int .i64 v_1), (.bool true)]) cb87 (evC rfl (evC rfl (evC rfl evN))) (h.mono ?_)))
    clear h; rintro v F ⟨v_25, rfl, h⟩
    refine holdI hold0 (fun hp => ?_)
    refine RG_eff1 (i := 6) (by kernel_rfl) (g_op (Sp' := []) rfl rfl (k_call (vs := [(.agg v_22), (.agg v_25)]) cb82 (evC rfl (evC rfl evN)) (h.mono ?_)))
    clear h; rintro v F ⟨v_26, rfl, h⟩
    refine holdI hold0 (fun hp => ?_)
    refine RG_eff1 (i := 7) (by kernel_rfl) (g_op (Sp' := []) rfl rfl (k_call (vs := [(.agg v_26)]) cb81 (evC rfl evN) (h.mono ?_)))
    clear h; rintro v F ⟨v_27, v_27_1, rfl, h⟩
    refine holdI hold0 (fun hp => ?_)
    refine gU 8 (.agg v_27) rfl (fun _ => r_extract rfl rfl rfl) hp ?_
    refine gU 9 (.int .i64 v_27_1) rfl (fun _ => r_extract rfl rfl rfl) hp ?_
    refine RG_eff1 (i := 10) (by kernel_rfl) (g_op0 (Sp' := []) rfl rfl (k_storeN (vs := v_27) h4 rfl sz28 (by decide) ?_))
    obtain ⟨hz1, hz2, c, e, hz3, hz4, hz5, h⟩ := h
    refine ⟨hz1, hz2, c, e, hz3, hz4, hz5, ?_⟩
    replace h := atE h
    refine holdI hold0 (fun hp => ?_)
    refine gU 11 (.int .i64 v_27_1) rfl (fun _ => r_assign rfl rfl) hp ?_
    refine RG_done (by kernel_rfl) ?_
    obtain ⟨vres_4_2, hs4, hr4, h⟩ := h
    exact HC_ret (show endQ prog f49 R .ret _ _ from ⟨_, res2 rfl (rv_cellN h4 underlying28 rfl sz28 hs4 hr4) (rv_tmp rfl), h⟩)
  ·
   skip
   refine HC_region ?_
   refine sR (.int .i64 v_1) (r_move rfl rfl) ?_
   refine sR (.bool (decide (v_1 < (0 : Int)))) (r_lss rfl rfl rfl) ?_
   refine sR (.bool (decide (v_1 < (0 : Int)))) (r_move rfl rfl) ?_
   by_cases hc : v_1 < (0 : Int)
   ·
    replace h := h.1 hc
    refine kN 14 (decide_eq_true hc) ?_
    refine kN 15 (decide_eq_true hc) ?_
    refine s_skip ?_
    refine s_skip ?_
    refine sR (.bool true) (r_pick rfl rfl (fun _ => rfl) (fun h => by cases h)) ?_
    refine HL_nil ?_
    show b49J1 v_1 b2 b4 R _ _
    exact ⟨_, rfl, rfl, rfl, rfl, h⟩
   ·
    replace h := h.2 hc
    refine kN 14 (decide_eq_false hc) ?_
    refine kN 15 (decide_eq_false hc) ?_
    refine sR (.int .i64 v_1) (r_move rfl rfl) ?_
    refine sR (.bool (decide ((63 : Int) < v_1))) (r_gtr rfl rfl rfl) ?_
    refine sR (.bool (decide ((63 : Int) < v_1))) (r_pick rfl rfl (fun h => by cases h) (fun _ => rfl)) ?_
    refine HL_nil ?_
    show b49J1 v_1 b2 b4 R _ _
    exact ⟨_, rfl, rfl, rfl, rfl, h⟩

/- 50 koine.koineref02.Count -/
def b50j3 (n_1 : Int) (b2 : Nat) (counts_8 : Sl) (R : Value → PH → Prop) (F : PH) : Prop :=
 ∃ v_90 : Array Value, v_90.size = 2 ∧ F.row (Addr.mk b2 0 none) v_90 ∧
 ∃ v_93 : Int, F.cell (Addr.mk b2 1 none) = some (.int .i64 v_93) ∧
 Spec prog 89 #[(.agg v_90), (Sl.v counts_8), (.int .i64 v_93), (.int .i64 n_1), (.int .i64 (0 : Int))] F fun v F => ∃ v_95 : Int, v = (.int .u64 v_95) ∧
 Spec prog 88 #[(.int .u64 v_95)] F fun v F => ∃ v_96 : Sl, v = (Sl.v v_96) ∧
 R (.tuple #[(Sl.v v_96), (.int .i64 (0 : Int))]) F
abbrev b50J3 (n_1 : Int) (b2 : Nat) (R : Value → PH → Prop) (E : En) (F : PH) : Prop := ∃ counts_8 : Sl, E 1 = (.int .i64 n_1) ∧ E 2 = (.pointer (some (Addr.mk b2 0 none))) ∧ E 8 = (Sl.v counts_8) ∧ b50j3 n_1 b2 counts_8 R F
def b50L1 (N1 : Sl → Int → PH → Prop) (n_1 : Int) (b2 : Nat) (R : Value → PH → Prop) (counts_8_1 : Sl) (i_9 : Int) (F : PH) : Prop :=
 ∃ v_58 : Sl, F.cell (Addr.mk b2 0 none) = some (Sl.v v_58) ∧
 ((i_9 < (v_58.len : Int) →
  ∃ v_64 : Sl, F.cell (Addr.mk b2 0 none) = some (Sl.v v_64) ∧
  ∃ a66_ : Addr, v_64.base = some a66_ ∧ 0 ≤ i_9 ∧ i_9 < (v_64.len : Int) ∧
  ∃ v_67 : Array Value, v_67.size = 3 ∧ F.row (Addr.add a66_ (Int.toNat i_9 * 3)) v_67 ∧
  ∀ b10, F b10 = none → atF (F.set b10 (.cells (#[.int .i64 0, .int .i64 0, .int .i64 0]) 72)) fun F =>
  v_67.size = 3 ∧ (∀ v ∈ v_67.toList, storable v) ∧ ∃ c e, F (Addr.mk b10 0 none).block = some (.cells c e (0, 0)) ∧ (Addr.mk b10 0 none).spot = none ∧ (Addr.mk b10 0 none).off + 3 ≤ c.size ∧
  atF (F.set (Addr.mk b10 0 none).block (.cells (wr c (Addr.mk b10 0 none).off v_67.toList) e)) fun F =>
  ∃ v_69 : Array Value, v_69.size = 2 ∧ F.row (Addr.mk b2 0 none) v_69 ∧
  ∃ v_72 : Int, F.cell (Addr.mk b10 1 none) = some (.int .i64 v_72) ∧
  ∃ v_75 : Int, F.cell (Addr.mk b10 0 none) = some (.int .i64 v_75) ∧
  ∃ v_78 : Array Value, v_78.size = 2 ∧ F.row (Addr.mk b2 0 none) v_78 ∧
  ∃ v_81 : Int, F.cell (Addr.mk b10 2 none) = some (.int .i64 v_81) ∧
  ∃ v_84 : Int, F.cell (Addr.mk b10 0 none) = some (.int .i64 v_84) ∧
  Spec prog 89 #[(.agg v_69), (Sl.v counts_8_1), (.int .i64 v_72), (.int .i64 n_1), (.int .i64 (IntKind.i64.wrap (v_75 + (1 : Int))))] F fun v F => ∃ v_77 : Int, v = (.int .u64 v_77) ∧
  F.cell (Addr.mk b10 0 none) = some (.int .i64 v_84) ∧ F.cell (Addr.mk b10 2 none) = some (.int .i64 v_81) ∧ F.row (Addr.mk b2 0 none) v_78 ∧ F.cell (Addr.mk b10 0 none) = some (.int .i64 v_75) ∧ Spec prog 89 #[(.agg v_78), (Sl.v counts_8_1), (.int .i64 v_81), (.int .i64 n_1), (.int .i64 (IntKind.i64.wrap (v_84 + (1 : Int))))] F fun v F => ∃ v_86 : Int, v = (.int .u64 v_86) ∧
  F.cell (Addr.mk b10 0 none) = some (.int .i64 v_84) ∧ F.cell (Addr.mk b10 0 none) = some (.int .i64 v_75) ∧ ∀ b88, F b88 = none → atF (F.set b88 (.cells #[(.int .u64 (IntKind.u64.wrap (v_77 + v_86)))] 38)) fun F =>
  runs prog (Builtin.append_ #[104, 104] 104 #[(Sl.v counts_8_1), (Sl.v (Sl.mk (some (Addr.mk b88 0 none)) 1 1))]) F fun v F => ∃ v_89 : Sl, v = (Sl.v v_89) ∧
  F.cell (Addr.mk b10 0 none) = some (.int .i64 v_84) ∧ F.cell (Addr.mk b10 0 none) = some (.int .i64 v_75) ∧ N1 v_89 (IntKind.i64.wrap (i_9 + (1 : Int))) F) ∧
 (¬ (i_9 < (v_58.len : Int)) →
  b50j3 n_1 b2 counts_8_1 R F))
def b50j2 (n_1 : Int) (b2 : Nat) (v_43 : Bool) (R : Value → PH → Prop) (F : PH) : Prop :=
 ((v_43 = true →
  ∀ b44, F b44 = none → atF (F.set b44 (.cells #[(.int .u32 (0 : Int)), (.int .u32 (0 : Int)), (.int .u32 (1 : Int))] 75)) fun F =>
  R (.tuple #[(Sl.v (Sl.mk (some (Addr.mk b44 0 none)) 3 3)), (.int .i64 (0 : Int))]) F) ∧
 (v_43 = false →
  ∃ v_46 : Int, F.cell (Addr.mk b2 1 none) = some (.int .i64 v_46) ∧
  ((v_46 < (2 : Int) →
   ∃ v_49 : Int, F.cell (Addr.mk b2 1 none) = some (.int .i64 v_49) ∧
   0 ≤ (IntKind.u64.wrap n_1) ∧ Spec prog 88 #[(.int .u64 (IntKind.u64.wrap ((IntKind.u64.wrap v_49) * 2 ^ (min (Int.toNat (IntKind.u64.wrap n_1)) (IntKind.u64).bits))))] F fun v F => ∃ v_54 : Sl, v = (Sl.v v_54) ∧
   R (.tuple #[(Sl.v v_54), (.int .i64 (0 : Int))]) F) ∧
  (¬ (v_46 < (2 : Int)) →
   ∀ b55, F b55 = none → atF (F.set b55 (.cells #[] 38)) fun F =>
   (∃ (I1 : Nat → Sl → Int → PH → Prop) (m1 : Nat), I1 m1 (Sl.mk (some (Addr.mk b55 0 none)) 0 0) (0 : Int) F ∧ ∀ m1 counts_8_1 i_9 F, I1 m1 counts_8_1 i_9 F →
    b50L1 (fun counts_8_1 i_9 F => ∃ m', m' < m1 ∧ I1 m' counts_8_1 i_9 F) n_1 b2 R counts_8_1 i_9 F)))))
abbrev b50J2 (n_1 : Int) (b2 : Nat) (R : Value → PH → Prop) (E : En) (F : PH) : Prop := ∃ v_43 : Bool, E 1 = (.int .i64 n_1) ∧ E 2 = (.pointer (some (Addr.mk b2 0 none))) ∧ E 43 = (.bool v_43) ∧ b50j2 n_1 b2 v_43 R F
def b50j1 (n_1 : Int) (b2 : Nat) (R : Value → PH → Prop) (F : PH) : Prop :=
 ∃ v_38 : Int, F.cell (Addr.mk b2 1 none) = some (.int .i64 v_38) ∧
 ((v_38 = (1 : Int) →
  b50j2 n_1 b2 (decide (n_1 = (64 : Int))) R F) ∧
 (¬ (v_38 = (1 : Int)) →
  b50j2 n_1 b2 false R F))
abbrev b50J1 (n_1 : Int) (b2 : Nat) (R : Value → PH → Prop) (E : En) (F : PH) : Prop := E 1 = (.int .i64 n_1) ∧ E 2 = (.pointer (some (Addr.mk b2 0 none))) ∧ b50j1 n_1 b2 R F
def b50L2 (N2 : Int → PH → Prop) (n_1 : Int) (b2 : Nat) (R : Value → PH → Prop) (i_7 : Int) (F : PH) : Prop :=
 ∃ v_24 : Sl, F.cell (Addr.mk b2 0 none) = some (Sl.v v_24) ∧
 ((i_7 < (v_24.len : Int) →
  ∃ v_30 : Sl, F.cell (Addr.mk b2 0 none) = some (Sl.v v_30) ∧
  ∃ a32_ : Addr, v_30.base = some a32_ ∧ 0 ≤ i_7 ∧ i_7 < (v_30.len : Int) ∧
  ∃ v_34 : Int, F.cell (Addr.add a32_ (Int.toNat i_7 * 3)) = some (.int .i64 v_34) ∧
  ((n_1 ≤ v_34 →
   R (.tuple #[(Sl.v Sl.nil), (.int .i64 (1 : Int))]) F) ∧
  (¬ (n_1 ≤ v_34) →
   N2 (IntKind.i64.wrap (i_7 + (1 : Int))) F))) ∧
 (¬ (i_7 < (v_24.len : Int)) →
  b50j1 n_1 b2 R F))
def b50 (a_0 : Array Value) (n_1 : Int) (R : Value → PH → Prop) (F : PH) : Prop :=
 ∀ b2, F b2 = none → atF (F.set b2 (.cells a_0 28)) fun F =>
 ∃ v_11 : Array Value, v_11.size = 2 ∧ F.row (Addr.mk b2 0 none) v_11 ∧
 Spec prog 40 #[(.agg v_11)] F fun v F => ∃ v_12 : Int, v = (.int .i64 v_12) ∧
 ((v_12 ≠ (0 : Int) →
  R (.tuple #[(Sl.v Sl.nil), (.int .i64 v_12)]) F) ∧
 (¬ (v_12 ≠ (0 : Int)) →
  ((n_1 < (0 : Int) →
   R (.tuple #[(Sl.v Sl.nil), (.int .i64 (1 : Int))]) F) ∧
  (¬ (n_1 < (0 : Int)) →
   (((64 : Int) < n_1 →
    R (.tuple #[(Sl.v Sl.nil), (.int .i64 (1 : Int))]) F) ∧
   (¬ ((64 : Int) < n_1) →
    (∃ (I2 : Nat → Int → PH → Prop) (m2 : Nat), I2 m2 (0 : Int) F ∧ ∀ m2 i_7 F, I2 m2 i_7 F →
     b50L2 (fun i_7 F => ∃ m', m' < m2 ∧ I2 m' i_7 F) n_1 b2 R i_7 F)))))))
theorem c50 {a_0 : Array Value} {n_1 : Int} {R : Value → PH → Prop} {F : PH} (h : b50 a_0 n_1 R F) : Spec prog 50 #[(.agg a_0), (.int .i64 n_1)] F R := by
 refine spec_of (args := [(.agg a_0), (.int .i64 n_1)]) func50 rfl ntmps50 rfl ?_
 unfold b50 at h
 refine cR ?_
 refine s_ef (k_box (cs := a_0) rfl rfl ?_)
 intro b2 hf_b2
 replace h := atE (h b2 hf_b2)
 refine sR (Sl.v Sl.nil) (r_assign rfl rfl) ?_
 refine sR (.int .i64 (0 : Int)) (r_assign rfl rfl) ?_
 refine HL_nil ?_
 refine cR ?_
 obtain ⟨v_11, hs11, hc11, h⟩ := h
 refine sR (.agg v_11) (w_loadN rfl underlying28 rfl sz28 hs11 hc11) ?_
 refine s_ef (k_call (vs := [(.agg v_11)]) cb40 (evC rfl evN) (h.mono ?_))
 clear h; rintro v F ⟨v_12, rfl, h⟩
 refine sR (.int .i64 v_12) (r_assign rfl rfl) ?_
 refine HL_nil ?_
 refine HC_seq ?_
 refine cR ?_
 refine sR (.int .i64 v_12) (r_move rfl rfl) ?_
 refine sR (.bool (decide (v_12 ≠ (0 : Int)))) (w_neq rfl rfl) ?_
 refine HL_nil ?_
 refine HC_cond (t := (decide (v_12 ≠ (0 : Int)))) rfl (fun hc => ?_) (fun hc => ?_)
 ·
  replace h := h.1 (of_decide_eq_true hc)
  clear hc
  refine cR ?_
  refine sR (.int .i64 v_12) (r_move rfl rfl) ?_
  refine sR (Sl.v Sl.nil) (r_assign rfl rfl) ?_
  refine sR (.int .i64 v_12) (r_assign rfl rfl) ?_
  refine HL_nil ?_
  exact HC_ret (show endQ prog f50 R .ret _ _ from ⟨_, res2 rfl (rv_tmp rfl) (rv_tmp rfl), h⟩)
 ·
  replace h := h.2 (of_decide_eq_false hc)
  clear hc
  refine HC_skip ?_
  refine HC_seq ?_
  refine cR ?_
  refine sR (.int .i64 n_1) (r_move rfl rfl) ?_
  refine sR (.bool (decide (n_1 < (0 : Int)))) (r_lss rfl rfl rfl) ?_
  refine sR (.bool (decide (n_1 < (0 : Int)))) (r_move rfl rfl) ?_
  by_cases hc : n_1 < (0 : Int)
  ·
   replace h := h.1 hc
   refine kN 17 (decide_eq_true hc) ?_
   refine kN 18 (decide_eq_true hc) ?_
   refine s_skip ?_
   refine s_skip ?_
   refine sR (.bool true) (r_pick rfl rfl (fun _ => rfl) (fun h => by cases h)) ?_
   refine HL_nil ?_
   refine HC_condT rfl ?_
   refine cR ?_
   refine sR (Sl.v Sl.nil) (r_assign rfl rfl) ?_
   refine sR (.int .i64 (1 : Int)) (r_assign rfl rfl) ?_
   refine HL_nil ?_
   exact HC_ret (show endQ prog f50 R .ret _ _ from ⟨_, res2 rfl (rv_tmp rfl) (rv_tmp rfl), h⟩)
  ·
   replace h := h.2 hc
   refine kN 17 (decide_eq_false hc) ?_
   refine kN 18 (decide_eq_false hc) ?_
   refine sR (.int .i64 n_1) (r_move rfl rfl) ?_
   refine sR (.bool (decide ((64 : Int) < n_1))) (r_gtr rfl rfl rfl) ?_
   refine sR (.bool (decide ((64 : Int) < n_1))) (r_pick rfl rfl (fun h => by cases h) (fun _ => rfl)) ?_
   refine HL_nil ?_
   refine HC_cond (t := (decide ((64 : Int) < n_1))) rfl (fun hc => ?_) (fun hc => ?_)
   ·
    replace h := h.1 (of_decide_eq_true hc)
    clear hc
    refine cR ?_
    refine sR (Sl.v Sl.nil) (r_assign rfl rfl) ?_
    refine sR (.int .i64 (1 : Int)) (r_assign rfl rfl) ?_
    refine HL_nil ?_
    exact HC_ret (show endQ prog f50 R .ret _ _ from ⟨_, res2 rfl (rv_tmp rfl) (rv_tmp rfl), h⟩)
   ·
    replace h := h.2 (of_decide_eq_false hc)
    clear hc
    refine HC_skip ?_
    refine HC_seqJ (b50J1 n_1 b2 R) ?_ ?_
    ·
     clear h; rintro E F ⟨h1, h2, h⟩
     unfold b50j1 at h
     refine HC_seq ?_
     refine HC_seqJ (b50J2 n_1 b2 R) ?_ ?_
     ·
      clear h; rintro E F ⟨v_43, h1, h2, h43, h⟩
      unfold b50j2 at h
      refine HC_cond (t := v_43) h43 (fun hc => ?_) (fun hc => ?_)
      ·
       replace h := h.1 hc
       clear hc
       refine cR ?_
       refine s_ef (k_buildSeq (l := [(.int .u32 (0 : Int)), (.int .u32 (0 : Int)), (.int .u32 (1 : Int))]) underlying57 sz75 (by decide) zr75 rfl rfl ⟨rfl, rfl, rfl, trivial⟩ (evPC rfl (evPC rfl (evPC rfl evPN))) ?_)
       intro b44 hf_b44
       replace h := atE (h b44 hf_b44)
       refine sR (Sl.v (Sl.mk (some (Addr.mk b44 0 none)) 3 3)) (r_assign rfl rfl) ?_
       refine sR (.int .i64 (0 : Int)) (r_assign rfl rfl) ?_
       refine HL_nil ?_
       exact HC_ret (show endQ prog f50 R .ret _ _ from ⟨_, res2 rfl (rv_tmp rfl) (rv_tmp rfl), h⟩)
      ·
       replace h := h.2 hc
       clear hc
       refine HC_skip ?_
       refine HC_seq ?_
       refine cR ?_
       refine sR (.pointer (some (Addr.mk b2 1 none))) (w_fieldAddr (a' := (Addr.mk b2 1 none)) h2 underlying28 rfl rfl sz3 rfl rfl) ?_
       obtain ⟨v_46, hc46, h⟩ := h
       refine sR (.int .i64 v_46) (r_load1 rfl rfl underlying3 rfl hc46) ?_
       refine sR (.bool (decide (v_46 < (2 : Int)))) (r_lss rfl rfl rfl) ?_
       refine HL_nil ?_
       refine HC_cond (t := (decide (v_46 < (2 : Int)))) rfl (fun hc => ?_) (fun hc => ?_)
       ·
        replace h := h.1 (of_decide_eq_true hc)
        clear hc
        refine cR ?_
        refine sR (.pointer (some (Addr.mk b2 1 none))) (w_fieldAddr (a' := (Addr.mk b2 1 none)) h2 underlying28 rfl rfl sz3 rfl rfl) ?_
        obtain ⟨v_49, hc49, h⟩ := h
        refine sR (.int .i64 v_49) (r_load1 rfl rfl underlying3 rfl hc49) ?_
        refine sR (.int .u64 (IntKind.u64.wrap v_49)) (r_convInt rfl rfl underlying3 underlying38) ?_
        refine sR (.int .i64 n_1) (r_move rfl h1) ?_
        refine sR (.int .u64 (IntKind.u64.wrap n_1)) (r_convInt rfl rfl underlying3 underlying31) ?_
        obtain ⟨hd53, h⟩ := h
        refine sR (.int .u64 (IntKind.u64.wrap ((IntKind.u64.wrap v_49) * 2 ^ (min (Int.toNat (IntKind.u64.wrap n_1)) (IntKind.u64).bits)))) (r_shl rfl rfl rfl hd53) ?_
        refine s_ef (k_call (vs := [(.int .u64 (IntKind.u64.wrap ((IntKind.u64.wrap v_49) * 2 ^ (min (Int.toNat (IntKind.u64.wrap n_1)) (IntKind.u64).bits))))]) cb88 (evC rfl evN) (h.mono ?_))
        clear h; rintro v F ⟨v_54, rfl, h⟩
        refine sR (Sl.v v_54) (r_assign rfl rfl) ?_
        refine sR (.int .i64 (0 : Int)) (r_assign rfl rfl) ?_
        refine HL_nil ?_
        exact HC_ret (show endQ prog f50 R .ret _ _ from ⟨_, res2 rfl (rv_tmp rfl) (rv_tmp rfl), h⟩)
       ·
        replace h := h.2 (of_decide_eq_false hc)
        clear hc
        refine HC_skip ?_
        refine cR ?_
        refine s_ef (k_buildSeq (l := []) underlying104 sz38 (by decide) zr38 rfl rfl trivial evPN ?_)
        intro b55 hf_b55
        replace h := atE (h b55 hf_b55)
        refine sR (Sl.v (Sl.mk (some (Addr.mk b55 0 none)) 0 0)) (r_assign rfl rfl) ?_
        refine HL_nil ?_
        refine HC_seqJ (b50J3 n_1 b2 R) ?_ ?_
        ·
         clear h; rintro E F ⟨counts_8, h1, h2, h8, h⟩
         unfold b50j3 at h
         refine cR ?_
         obtain ⟨v_90, hs90, hc90, h⟩ := h
         refine sR (.agg v_90) (w_loadN h2 underlying28 rfl sz28 hs90 hc90) ?_
         refine sR (Sl.v counts_8) (r_move rfl h8) ?_
         refine sR (.pointer (some (Addr.mk b2 1 none))) (w_fieldAddr (a' := (Addr.mk b2 1 none)) h2 underlying28 rfl rfl sz3 rfl rfl) ?_
         obtain ⟨v_93, hc93, h⟩ := h
         refine sR (.int .i64 v_93) (r_load1 rfl rfl underlying3 rfl hc93) ?_
         refine sR (.int .i64 n_1) (r_move rfl h1) ?_
         refine s_ef (k_call (vs := [(.agg v_90), (Sl.v counts_8), (.int .i64 v_93), (.int .i64 n_1), (.int .i64 (0 : Int))]) cb89 (evC rfl (evC rfl (evC rfl (evC rfl (evC rfl evN))))) (h.mono ?_))
         clear h; rintro v F ⟨v_95, rfl, h⟩
         refine s_ef (k_call (vs := [(.int .u64 v_95)]) cb88 (evC rfl evN) (h.mono ?_))
         clear h; rintro v F ⟨v_96, rfl, h⟩
         refine sR (Sl.v v_96) (r_assign rfl rfl) ?_
         refine sR (.int .i64 (0 : Int)) (r_assign rfl rfl) ?_
         refine HL_nil ?_
         exact HC_ret (show endQ prog f50 R .ret _ _ from ⟨_, res2 rfl (rv_tmp rfl) (rv_tmp rfl), h⟩)
        ·
         skip
         refine cR ?_
         refine sR (.int .i64 (0 : Int)) (r_assign rfl rfl) ?_
         refine HL_nil ?_
         refine HC_block ?_
         obtain ⟨I1, m1, hI0, hr⟩ := h
         refine HC_loop (fun m1 E F => ∃ counts_8_1 : Sl, ∃ i_9 : Int, E 1 = (.int .i64 n_1) ∧ E 2 = (.pointer (some (Addr.mk b2 0 none))) ∧ E 8 = (Sl.v counts_8_1) ∧ E 9 = (.int .i64 i_9) ∧ I1 m1 counts_8_1 i_9 F) m1 ⟨_, _, h1, h2, rfl, rfl, hI0⟩ ?_
         clear hI0; rintro m1 E F ⟨counts_8_1, i_9, h1, h2, h8, h9, hI⟩
         have h := hr m1 counts_8_1 i_9 F hI
         clear hr hI
         unfold b50L1 at h
         refine HC_seq ?_
         refine cR ?_
         refine sR (.int .i64 i_9) (r_move rfl h9) ?_
         refine sR (.pointer (some (Addr.mk b2 0 none))) (w_fieldAddr (a' := (Addr.mk b2 0 none)) h2 underlying28 rfl rfl sz26 rfl rfl) ?_
         obtain ⟨v_58, hc58, h⟩ := h
         refine sR (Sl.v v_58) (r_load1 rfl rfl underlying26 rfl hc58) ?_
         refine sR (.int .i64 (v_58.len : Int)) (r_lenSl rfl rfl underlying26) ?_
         refine sR (.bool (decide (i_9 < (v_58.len : Int)))) (r_lss rfl rfl rfl) ?_
         refine HL_nil ?_
         refine HC_cond (t := (decide (i_9 < (v_58.len : Int)))) rfl (fun hc => ?_) (fun hc => ?_)
         ·
          replace h := h.1 (of_decide_eq_true hc)
          clear hc
          refine HC_skip ?_
          refine HC_seq ?_
          refine HC_block ?_
          refine cR ?_
          refine sR (.pointer (some (Addr.mk b2 0 none))) (w_fieldAddr (a' := (Addr.mk b2 0 none)) h2 underlying28 rfl rfl sz26 rfl rfl) ?_
          obtain ⟨v_64, hc64, h⟩ := h
          refine sR (Sl.v v_64) (r_load1 rfl rfl underlying26 rfl hc64) ?_
          refine sR (.int .i64 i_9) (r_move rfl h9) ?_
          obtain ⟨a66_, hb66, hl66, hu66, h⟩ := h
          refine sR (.pointer (some (Addr.add a66_ (Int.toNat i_9 * 3)))) (w_indexAddr rfl rfl underlying26 sz72 hb66 hl66 hu66) ?_
          obtain ⟨v_67, hs67, hc67, h⟩ := h
          refine sR (.agg v_67) (w_loadN rfl underlying72 rfl sz72 hs67 hc67) ?_
          refine s_ef (k_alloc zr72 ?_)
          intro b10 hf_b10
          replace h := atE (h b10 hf_b10)
          refine s_ef0 (k_storeN (vs := v_67) rfl rfl sz72 (by decide) ?_)
          obtain ⟨hz1, hz2, c, e, hz3, hz4, hz5, h⟩ := h
          refine ⟨hz1, hz2, c, e, hz3, hz4, hz5, ?_⟩
          replace h := atE h
          refine HL_nil ?_
          refine HC_draw0 (by kernel_rfl) (fun hp => ?_)
          refine gU 0 (Sl.v counts_8_1) rfl (fun _ => r_move rfl h8) hp ?_
          obtain ⟨v_69, hs69, hc69, h⟩ := h
          refine gR 1 (.agg v_69) rfl (w_loadN h2 underlying28 rfl sz28 hs69 hc69) hp (fun S1 q1 => ?_)
          replace hp := holdC (i := 1) (q1 _ (w_loadN h2 underlying28 rfl sz28 hs69 hc69)) hp
          refine gU 2 (Sl.v counts_8_1) rfl (fun _ => r_move rfl h8) hp ?_
          refine gU 3 (.pointer (some (Addr.mk b10 1 none))) rfl (fun _ => w_fieldAddr (a' := (Addr.mk b10 1 none)) rfl underlying72 rfl rfl sz3 rfl rfl) hp ?_
          obtain ⟨v_72, hc72, h⟩ := h
          refine gR 4 (.int .i64 v_72) rfl (r_load1 rfl rfl underlying3 rfl hc72) hp (fun S4 q4 => ?_)
          replace hp := holdC (i := 4) (q4 _ (r_load1 rfl rfl underlying3 rfl hc72)) hp
          refine gU 5 (.int .i64 n_1) rfl (fun _ => r_move rfl h1) hp ?_
          refine gU 6 (.pointer (some (Addr.mk b10 0 none))) rfl (fun _ => w_fieldAddr (a' := (Addr.mk b10 0 none)) rfl underlying72 rfl rfl sz3 rfl rfl) hp ?_
          obtain ⟨v_75, hc75, h⟩ := h
          refine gR 7 (.int .i64 v_75) rfl (r_load1 rfl rfl underlying3 rfl hc75) hp (fun S7 q7 => ?_)
          replace hp := holdC (i := 7) (q7 _ (r_load1 rfl rfl underlying3 rfl hc75)) hp
          refine gU 8 (.int .i64 (IntKind.i64.wrap (v_75 + (1 : Int)))) rfl (fun _ => r_add rfl rfl rfl) hp ?_
          obtain ⟨v_78, hs78, hc78, h⟩ := h
          refine gR 10 (.agg v_78) rfl (w_loadN h2 underlying28 rfl sz28 hs78 hc78) hp (fun S10 q10 => ?_)
          replace hp := holdC (i := 10) (q10 _ (w_loadN h2 underlying28 rfl sz28 hs78 hc78)) hp
          refine gU 11 (Sl.v counts_8_1) rfl (fun _ => r_move rfl h8) hp ?_
          refine gU 12 (.pointer (some (Addr.mk b10 2 none))) rfl (fun _ => w_fieldAddr (a' := (Addr.mk b10 2 none)) rfl underlying72 rfl rfl sz3 rfl rfl) hp ?_
          obtain ⟨v_81, hc81, h⟩ := h
          refine gR 13 (.int .i64 v_81) rfl (r_load1 rfl rfl underlying3 rfl hc81) hp (fun S13 q13 => ?_)
          replace hp := holdC (i := 13) (q13 _ (r_load1 rfl rfl underlying3 rfl hc81)) hp
          refine gU 14 (.int .i64 n_1) rfl (fun _ => r_move rfl h1) hp ?_
          refine gU 15 (.pointer (some (Addr.mk b10 0 none))) rfl (fun _ => w_fieldAddr (a' := (Addr.mk b10 0 none)) rfl underlying72 rfl rfl sz3 rfl rfl) hp ?_
          obtain ⟨v_84, hc84, h⟩ := h
          refine gR 16 (.int .i64 v_84) rfl (r_load1 rfl rfl underlying3 rfl hc84) hp (fun S16 q16 => ?_)
          replace hp := holdC (i := 16) (q16 _ (r_load1 rfl rfl underlying3 rfl hc84)) hp
          refine gU 17 (.int .i64 (IntKind.i64.wrap (v_84 + (1 : Int)))) rfl (fun _ => r_add rfl rfl rfl) hp ?_
          refine RG_eff1 (i := 9) (by kernel_rfl) (g_op (Sp' := [(16, S16), (13, S13), (10, S10), (7, S7)]) rfl rfl (k_call (vs := [(.agg v_69), (Sl.v counts_8_1), (.int .i64 v_72), (.int .i64 n_1), (.int .i64 (IntKind.i64.wrap (v_75 + (1 : Int))))]) cb89 (evC rfl (evC rfl (evC rfl (evC rfl (evC rfl evN))))) (h.mono ?_)))
          clear h; rintro v F ⟨v_77, rfl, h⟩
          obtain ⟨hk_25, hk_26, hk_27, hk_28, h⟩ := h
          refine holdI (holdC (i := 16) (q16 _ (r_load1 rfl rfl underlying3 rfl hk_25)) (holdC (i := 13) (q13 _ (r_load1 rfl rfl underlying3 rfl hk_26)) (holdC (i := 10) (q10 _ (w_loadN h2 underlying28 rfl sz28 hs78 hk_27)) (holdC (i := 7) (q7 _ (r_load1 rfl rfl underlying3 rfl hk_28)) hold0)))) (fun hp => ?_)
          refine RG_eff1 (i := 18) (by kernel_rfl) (g_op (Sp' := [(16, S16), (7, S7)]) rfl rfl (k_call (vs := [(.agg v_78), (Sl.v counts_8_1), (.int .i64 v_81), (.int .i64 n_1), (.int .i64 (IntKind.i64.wrap (v_84 + (1 : Int))))]) cb89 (evC rfl (evC rfl (evC rfl (evC rfl (evC rfl evN))))) (h.mono ?_)))
          clear h; rintro v F ⟨v_86, rfl, h⟩
          obtain ⟨hk_29, hk_30, h⟩ := h
          refine holdI (holdC (i := 16) (q16 _ (r_load1 rfl rfl underlying3 rfl hk_29)) (holdC (i := 7) (q7 _ (r_load1 rfl rfl underlying3 rfl hk_30)) hold0)) (fun hp => ?_)
          refine gU 19 (.int .u64 (IntKind.u64.wrap (v_77 + v_86))) rfl (fun _ => r_add rfl rfl rfl) hp ?_
          refine RG_eff1 (i := 20) (by kernel_rfl) (g_op (Sp' := [(16, S16), (7, S7)]) rfl rfl (k_buildSeq (l := [(.int .u64 (IntKind.u64.wrap (v_77 + v_86)))]) underlying104 sz38 (by decide) zr38 rfl rfl ⟨rfl, trivial⟩ (evPC rfl evPN) ?_))
          intro b88 hf_b88
          replace h := atE (h b88 hf_b88)
          refine holdI (holdC (i := 16) (q16 _ (r_load1 rfl rfl underlying3 rfl (cell_set_fresh hf_b88 hk_29))) (holdC (i := 7) (q7 _ (r_load1 rfl rfl underlying3 rfl (cell_set_fresh hf_b88 hk_30))) hold0)) (fun hp => ?_)
          refine RG_eff1 (i := 21) (by kernel_rfl) (g_op (Sp' := [(16, S16), (7, S7)]) rfl rfl (k_append rfl rfl (runs_mono _ _ h ?_)))
          clear h; rintro v F ⟨v_89, rfl, h⟩
          obtain ⟨hk_31, hk_32, h⟩ := h
          refine holdI (holdC (i := 16) (q16 _ (r_load1 rfl rfl underlying3 rfl hk_31)) (holdC (i := 7) (q7 _ (r_load1 rfl rfl underlying3 rfl hk_32)) hold0)) (fun hp => ?_)
          refine gU 22 (Sl.v v_89) rfl (fun _ => r_assign rfl rfl) hp ?_
          refine RG_done (by kernel_rfl) ?_
          refine HC_region ?_
          refine sR (.int .i64 i_9) (r_move rfl h9) ?_
          refine sR (.int .i64 (IntKind.i64.wrap (i_9 + (1 : Int)))) (r_add rfl rfl rfl) ?_
          refine sR (.int .i64 (IntKind.i64.wrap (i_9 + (1 : Int)))) (r_assign rfl rfl) ?_
          refine HL_nil ?_
          obtain ⟨m', hm, h⟩ := h
          exact ⟨m', hm, _, _, h1, h2, rfl, rfl, h⟩
         ·
          replace h := h.2 (of_decide_eq_false hc)
          clear hc
          refine HC_exit ?_
          show b50J3 n_1 b2 R _ _
          exact ⟨_, h1, h2, h8, h⟩
     ·
      skip
      refine HC_region ?_
      refine sR (.pointer (some (Addr.mk b2 1 none))) (w_fieldAddr (a' := (Addr.mk b2 1 none)) h2 underlying28 rfl rfl sz3 rfl rfl) ?_
      obtain ⟨v_38, hc38, h⟩ := h
      refine sR (.int .i64 v_38) (r_load1 rfl rfl underlying3 rfl hc38) ?_
      refine sR (.bool (decide (v_38 = (1 : Int)))) (w_eql rfl rfl) ?_
      refine sR (.bool (decide (v_38 = (1 : Int)))) (r_move rfl rfl) ?_
      by_cases hc : v_38 = (1 : Int)
      ·
       replace h := h.1 hc
       refine kN 39 (decide_eq_true hc) ?_
       refine kN 40 (decide_eq_true hc) ?_
       refine sR (.int .i64 n_1) (r_move rfl h1) ?_
       refine sR (.bool (decide (n_1 = (64 : Int)))) (w_eql rfl rfl) ?_
       refine sR (.bool (decide (n_1 = (64 : Int)))) (r_pick rfl rfl (fun _ => rfl) (fun h => by cases h)) ?_
       refine HL_nil ?_
       show b50J2 n_1 b2 R _ _
       exact ⟨_, h1, h2, rfl, h⟩
      ·
       replace h := h.2 hc
       refine kN 39 (decide_eq_false hc) ?_
       refine kN 40 (decide_eq_false hc) ?_
       refine s_skip ?_
       refine s_skip ?_
       refine sR (.bool false) (r_pick rfl rfl (fun h => by cases h) (fun _ => rfl)) ?_
       refine HL_nil ?_
       show b50J2 n_1 b2 R _ _
       exact ⟨_, h1, h2, rfl, h⟩
    ·
     skip
     refine cR ?_
     refine sR (.int .i64 (0 : Int)) (r_assign rfl rfl) ?_
     refine HL_nil ?_
     refine HC_block ?_
     obtain ⟨I2, m2, hI0, hr⟩ := h
     refine HC_loop (fun m2 E F => ∃ i_7 : Int, E 1 = (.int .i64 n_1) ∧ E 2 = (.pointer (some (Addr.mk b2 0 none))) ∧ E 7 = (.int .i64 i_7) ∧ I2 m2 i_7 F) m2 ⟨_, rfl, rfl, rfl, hI0⟩ ?_
     clear hI0; rintro m2 E F ⟨i_7, h1, h2, h7, hI⟩
     have h := hr m2 i_7 F hI
     clear hr hI
     unfold b50L2 at h
     refine HC_seq ?_
     refine cR ?_
     refine sR (.int .i64 i_7) (r_move rfl h7) ?_
     refine sR (.pointer (some (Addr.mk b2 0 none))) (w_fieldAddr (a' := (Addr.mk b2 0 none)) h2 underlying28 rfl rfl sz26 rfl rfl) ?_
     obtain ⟨v_24, hc24, h⟩ := h
     refine sR (Sl.v v_24) (r_load1 rfl rfl underlying26 rfl hc24) ?_
     refine sR (.int .i64 (v_24.len : Int)) (r_lenSl rfl rfl underlying26) ?_
     refine sR (.bool (decide (i_7 < (v_24.len : Int)))) (r_lss rfl rfl rfl) ?_
     refine HL_nil ?_
     refine HC_cond (t := (decide (i_7 < (v_24.len : Int)))) rfl (fun hc => ?_) (fun hc => ?_)
     ·
      replace h := h.1 (of_decide_eq_true hc)
      clear hc
      refine HC_skip ?_
      refine HC_seq ?_
      refine HC_block ?_
      refine cR ?_
      refine sR (.pointer (some (Addr.mk b2 0 none))) (w_fieldAddr (a' := (Addr.mk b2 0 none)) h2 underlying28 rfl rfl sz26 rfl rfl) ?_
      obtain ⟨v_30, hc30, h⟩ := h
      refine sR (Sl.v v_30) (r_load1 rfl rfl underlying26 rfl hc30) ?_
      refine sR (.int .i64 i_7) (r_move rfl h7) ?_
      obtain ⟨a32_, hb32, hl32, hu32, h⟩ := h
      refine sR (.pointer (some (Addr.add a32_ (Int.toNat i_7 * 3)))) (w_indexAddr rfl rfl underlying26 sz72 hb32 hl32 hu32) ?_
      refine sR (.pointer (some (Addr.add a32_ (Int.toNat i_7 * 3)))) (w_fieldAddr (a' := (Addr.add a32_ (Int.toNat i_7 * 3))) rfl underlying72 rfl rfl sz3 rfl rfl) ?_
      obtain ⟨v_34, hc34, h⟩ := h
      refine sR (.int .i64 v_34) (r_load1 rfl rfl underlying3 rfl hc34) ?_
      refine sR (.int .i64 n_1) (r_move rfl h1) ?_
      refine sR (.bool (decide (n_1 ≤ v_34))) (r_geq rfl rfl rfl) ?_
      refine HL_nil ?_
      refine HC_cond (t := (decide (n_1 ≤ v_34))) rfl (fun hc => ?_) (fun hc => ?_)
      ·
       replace h := h.1 (of_decide_eq_true hc)
       clear hc
       refine cR ?_
       refine sR (Sl.v Sl.nil) (r_assign rfl rfl) ?_
       refine sR (.int .i64 (1 : Int)) (r_assign rfl rfl) ?_
       refine HL_nil ?_
       exact HC_ret (show endQ prog f50 R .ret _ _ from ⟨_, res2 rfl (rv_tmp rfl) (rv_tmp rfl), h⟩)
      ·
       replace h := h.2 (of_decide_eq_false hc)
       clear hc
       refine HC_skip ?_
       refine HC_region ?_
       refine sR (.int .i64 i_7) (r_move rfl h7) ?_
       refine sR (.int .i64 (IntKind.i64.wrap (i_7 + (1 : Int)))) (r_add rfl rfl rfl) ?_
       refine sR (.int .i64 (IntKind.i64.wrap (i_7 + (1 : Int)))) (r_assign rfl rfl) ?_
       refine HL_nil ?_
       obtain ⟨m', hm, h⟩ := h
       exact ⟨m', hm, _, h1, h2, rfl, h⟩
     ·
      replace h := h.2 (of_decide_eq_false hc)
      clear hc
      refine HC_exit ?_
      show b50J1 n_1 b2 R _ _
      exact ⟨h1, h2, h⟩

/- 51 koine.koineref02.Least -/
def b51j1 (b1 : Nat) (least_4 : Sl) (R : Value → PH → Prop) (F : PH) : Prop :=
 ∃ v_65 : Int, F.cell (Addr.mk b1 1 none) = some (.int .i64 v_65) ∧
 ∃ a66_ : Addr, least_4.base = some a66_ ∧ 0 ≤ v_65 ∧ v_65 < (least_4.len : Int) ∧
 ∃ v_67 : Int, F.cell (Addr.add a66_ (Int.toNat v_65 * 1)) = some (.int .u64 v_67) ∧
 R (.tuple #[(.int .u64 v_67), (.bool true)]) F
abbrev b51J1 (b1 : Nat) (R : Value → PH → Prop) (E : En) (F : PH) : Prop := ∃ least_4 : Sl, E 1 = (.pointer (some (Addr.mk b1 0 none))) ∧ E 4 = (Sl.v least_4) ∧ b51j1 b1 least_4 R F
def b51j2 (N1 : Sl → Int → PH → Prop) (b1 : Nat) (least_4_1 : Sl) (i_5 : Int) (low_7 : Int) (R : Value → PH → Prop) (F : PH) : Prop :=
 ∀ b61, F b61 = none → atF (F.set b61 (.cells #[(.int .u64 low_7)] 39)) fun F =>
 runs prog (Builtin.append_ #[92, 92] 92 #[(Sl.v least_4_1), (Sl.v (Sl.mk (some (Addr.mk b61 0 none)) 1 1))]) F fun v F => ∃ v_62 : Sl, v = (Sl.v v_62) ∧
 N1 v_62 (IntKind.i64.wrap (i_5 + (1 : Int))) F
abbrev b51J2 (N1 : Sl → Int → PH → Prop) (b1 : Nat) (least_4_1 : Sl) (i_5 : Int) (R : Value → PH → Prop) (E : En) (F : PH) : Prop := ∃ low_7 : Int, E 1 = (.pointer (some (Addr.mk b1 0 none))) ∧ E 4 = (Sl.v least_4_1) ∧ E 5 = (.int .i64 i_5) ∧ E 7 = (.int .u64 low_7) ∧ b51j2 N1 b1 least_4_1 i_5 low_7 R F
def b51L1 (N1 : Sl → Int → PH → Prop) (b1 : Nat) (R : Value → PH → Prop) (least_4_1 : Sl) (i_5 : Int) (F : PH) : Prop :=
 ∃ v_20 : Sl, F.cell (Addr.mk b1 0 none) = some (Sl.v v_20) ∧
 ((i_5 < (v_20.len : Int) →
  ∃ v_26 : Sl, F.cell (Addr.mk b1 0 none) = some (Sl.v v_26) ∧
  ∃ a28_ : Addr, v_26.base = some a28_ ∧ 0 ≤ i_5 ∧ i_5 < (v_26.len : Int) ∧
  ∃ v_29 : Array Value, v_29.size = 3 ∧ F.row (Addr.add a28_ (Int.toNat i_5 * 3)) v_29 ∧
  ∀ b6, F b6 = none → atF (F.set b6 (.cells (#[.int .i64 0, .int .i64 0, .int .i64 0]) 72)) fun F =>
  v_29.size = 3 ∧ (∀ v ∈ v_29.toList, storable v) ∧ ∃ c e, F (Addr.mk b6 0 none).block = some (.cells c e (0, 0)) ∧ (Addr.mk b6 0 none).spot = none ∧ (Addr.mk b6 0 none).off + 3 ≤ c.size ∧
  atF (F.set (Addr.mk b6 0 none).block (.cells (wr c (Addr.mk b6 0 none).off v_29.toList) e)) fun F =>
  ∃ v_32 : Int, F.cell (Addr.mk b6 1 none) = some (.int .i64 v_32) ∧
  ∃ a33_ : Addr, least_4_1.base = some a33_ ∧ 0 ≤ v_32 ∧ v_32 < (least_4_1.len : Int) ∧
  ∃ v_34 : Int, F.cell (Addr.add a33_ (Int.toNat v_32 * 1)) = some (.int .u64 v_34) ∧
  ∃ v_37 : Int, F.cell (Addr.mk b6 2 none) = some (.int .i64 v_37) ∧
  ∃ a38_ : Addr, least_4_1.base = some a38_ ∧ 0 ≤ v_37 ∧ v_37 < (least_4_1.len : Int) ∧
  ∃ v_39 : Int, F.cell (Addr.add a38_ (Int.toNat v_37 * 1)) = some (.int .u64 v_39) ∧
  ∃ v_41 : Int, F.cell (Addr.mk b6 0 none) = some (.int .i64 v_41) ∧
  0 ≤ (IntKind.u64.wrap v_41) ∧ ∃ v_46 : Int, F.cell (Addr.mk b6 1 none) = some (.int .i64 v_46) ∧
  ((v_46 = (0 : Int) →
   b51j2 N1 b1 least_4_1 i_5 (IntKind.u64.wrap ((BitVec.ofInt (IntKind.u64).bits v_39 ||| BitVec.ofInt (IntKind.u64).bits (IntKind.u64.wrap ((1 : Int) * 2 ^ (min (Int.toNat (IntKind.u64.wrap v_41)) (IntKind.u64).bits)))).toNat)) R F) ∧
  (¬ (v_46 = (0 : Int)) →
   ∃ v_50 : Int, F.cell (Addr.mk b6 2 none) = some (.int .i64 v_50) ∧
   ((v_50 ≠ (0 : Int) →
    (((IntKind.u64.wrap ((BitVec.ofInt (IntKind.u64).bits v_39 ||| BitVec.ofInt (IntKind.u64).bits (IntKind.u64.wrap ((1 : Int) * 2 ^ (min (Int.toNat (IntKind.u64.wrap v_41)) (IntKind.u64).bits)))).toNat)) < v_34 →
     b51j2 N1 b1 least_4_1 i_5 (IntKind.u64.wrap ((BitVec.ofInt (IntKind.u64).bits v_39 ||| BitVec.ofInt (IntKind.u64).bits (IntKind.u64.wrap ((1 : Int) * 2 ^ (min (Int.toNat (IntKind.u64.wrap v_41)) (IntKind.u64).bits)))).toNat)) R F) ∧
    (¬ ((IntKind.u64.wrap ((BitVec.ofInt (IntKind.u64).bits v_39 ||| BitVec.ofInt (IntKind.u64).bits (IntKind.u64.wrap ((1 : Int) * 2 ^ (min (Int.toNat (IntKind.u64.wrap v_41)) (IntKind.u64).bits)))).toNat)) < v_34) →
     b51j2 N1 b1 least_4_1 i_5 v_34 R F))) ∧
   (¬ (v_50 ≠ (0 : Int)) →
    b51j2 N1 b1 least_4_1 i_5 v_34 R F))))) ∧
 (¬ (i_5 < (v_20.len : Int)) →
  b51j1 b1 least_4_1 R F))
def b51 (a_0 : Array Value) (R : Value → PH → Prop) (F : PH) : Prop :=
 ∀ b1, F b1 = none → atF (F.set b1 (.cells a_0 28)) fun F =>
 ∃ v_9 : Array Value, v_9.size = 2 ∧ F.row (Addr.mk b1 0 none) v_9 ∧
 Spec prog 40 #[(.agg v_9)] F fun v F => ∃ v_10 : Int, v = (.int .i64 v_10) ∧
 ((v_10 ≠ (0 : Int) →
  R (.tuple #[(.int .u64 (0 : Int)), (.bool false)]) F) ∧
 (¬ (v_10 ≠ (0 : Int)) →
  ∃ v_14 : Int, F.cell (Addr.mk b1 1 none) = some (.int .i64 v_14) ∧
  ((v_14 = (0 : Int) →
   R (.tuple #[(.int .u64 (0 : Int)), (.bool false)]) F) ∧
  (¬ (v_14 = (0 : Int)) →
   ∀ b17, F b17 = none → atF (F.set b17 (.cells #[(.int .u64 (0 : Int)), (.int .u64 (0 : Int))] 39)) fun F =>
   (∃ (I1 : Nat → Sl → Int → PH → Prop) (m1 : Nat), I1 m1 (Sl.mk (some (Addr.mk b17 0 none)) 2 2) (0 : Int) F ∧ ∀ m1 least_4_1 i_5 F, I1 m1 least_4_1 i_5 F →
    b51L1 (fun least_4_1 i_5 F => ∃ m', m' < m1 ∧ I1 m' least_4_1 i_5 F) b1 R least_4_1 i_5 F)))))
theorem c51 {a_0 : Array Value} {R : Value → PH → Prop} {F : PH} (h : b51 a_0 R F) : Spec prog 51 #[(.agg a_0)] F R := by
 refine spec_of (args := [(.agg a_0)]) func51 rfl ntmps51 rfl ?_
 unfold b51 at h
 refine cR ?_
 refine s_ef (k_box (cs := a_0) rfl rfl ?_)
 intro b1 hf_b1
 replace h := atE (h b1 hf_b1)
 refine sR (.int .u64 (0 : Int)) (r_assign rfl rfl) ?_
 refine sR (.bool false) (r_assign rfl rfl) ?_
 refine HL_nil ?_
 refine HC_seq ?_
 refine cR ?_
 obtain ⟨v_9, hs9, hc9, h⟩ := h
 refine sR (.agg v_9) (w_loadN rfl underlying28 rfl sz28 hs9 hc9) ?_
 refine s_ef (k_call (vs := [(.agg v_9)]) cb40 (evC rfl evN) (h.mono ?_))
 clear h; rintro v F ⟨v_10, rfl, h⟩
 refine sR (.bool (decide (v_10 ≠ (0 : Int)))) (w_neq rfl rfl) ?_
 refine sR (.bool (decide (v_10 ≠ (0 : Int)))) (r_move rfl rfl) ?_
 by_cases hc : v_10 ≠ (0 : Int)
 ·
  replace h := h.1 hc
  refine kN 11 (decide_eq_true hc) ?_
  refine kN 12 (decide_eq_true hc) ?_
  refine s_skip ?_
  refine s_skip ?_
  refine s_skip ?_
  refine sR (.bool true) (r_pick rfl rfl (fun _ => rfl) (fun h => by cases h)) ?_
  refine HL_nil ?_
  refine HC_condT rfl ?_
  refine cR ?_
  refine sR (.int .u64 (0 : Int)) (r_assign rfl rfl) ?_
  refine sR (.bool false) (r_assign rfl rfl) ?_
  refine HL_nil ?_
  exact HC_ret (show endQ prog f51 R .ret _ _ from ⟨_, res2 rfl (rv_tmp rfl) (rv_tmp rfl), h⟩)
 ·
  replace h := h.2 hc
  refine kN 11 (decide_eq_false hc) ?_
  refine kN 12 (decide_eq_false hc) ?_
  refine sR (.pointer (some (Addr.mk b1 1 none))) (w_fieldAddr (a' := (Addr.mk b1 1 none)) rfl underlying28 rfl rfl sz3 rfl rfl) ?_
  obtain ⟨v_14, hc14, h⟩ := h
  refine sR (.int .i64 v_14) (r_load1 rfl rfl underlying3 rfl hc14) ?_
  refine sR (.bool (decide (v_14 = (0 : Int)))) (w_eql rfl rfl) ?_
  refine sR (.bool (decide (v_14 = (0 : Int)))) (r_pick rfl rfl (fun h => by cases h) (fun _ => rfl)) ?_
  refine HL_nil ?_
  refine HC_cond (t := (decide (v_14 = (0 : Int)))) rfl (fun hc => ?_) (fun hc => ?_)
  ·
   replace h := h.1 (of_decide_eq_true hc)
   clear hc
   refine cR ?_
   refine sR (.int .u64 (0 : Int)) (r_assign rfl rfl) ?_
   refine sR (.bool false) (r_assign rfl rfl) ?_
   refine HL_nil ?_
   exact HC_ret (show endQ prog f51 R .ret _ _ from ⟨_, res2 rfl (rv_tmp rfl) (rv_tmp rfl), h⟩)
  ·
   replace h := h.2 (of_decide_eq_false hc)
   clear hc
   refine HC_skip ?_
   refine cR ?_
   refine s_ef (k_buildSeq (l := [(.int .u64 (0 : Int)), (.int .u64 (0 : Int))]) underlying92 sz39 (by decide) zr39 rfl rfl ⟨rfl, rfl, trivial⟩ (evPC rfl (evPC rfl evPN)) ?_)
   intro b17 hf_b17
   replace h := atE (h b17 hf_b17)
   refine sR (Sl.v (Sl.mk (some (Addr.mk b17 0 none)) 2 2)) (r_assign rfl rfl) ?_
   refine HL_nil ?_
   refine HC_seqJ (b51J1 b1 R) ?_ ?_
   ·
    clear h; rintro E F ⟨least_4, h1, h4, h⟩
    unfold b51j1 at h
    refine cR ?_
    refine sR (Sl.v least_4) (r_move rfl h4) ?_
    refine sR (.pointer (some (Addr.mk b1 1 none))) (w_fieldAddr (a' := (Addr.mk b1 1 none)) h1 underlying28 rfl rfl sz3 rfl rfl) ?_
    obtain ⟨v_65, hc65, h⟩ := h
    refine sR (.int .i64 v_65) (r_load1 rfl rfl underlying3 rfl hc65) ?_
    obtain ⟨a66_, hb66, hl66, hu66, h⟩ := h
    refine sR (.pointer (some (Addr.add a66_ (Int.toNat v_65 * 1)))) (w_indexAddr rfl rfl underlying92 sz39 hb66 hl66 hu66) ?_
    obtain ⟨v_67, hc67, h⟩ := h
    refine sR (.int .u64 v_67) (r_load1 rfl rfl underlying39 rfl hc67) ?_
    refine sR (.int .u64 v_67) (r_assign rfl rfl) ?_
    refine sR (.bool true) (r_assign rfl rfl) ?_
    refine HL_nil ?_
    exact HC_ret (show endQ prog f51 R .ret _ _ from ⟨_, res2 rfl (rv_tmp rfl) (rv_tmp rfl), h⟩)
   ·
    skip
    refine cR ?_
    refine sR (.int .i64 (0 : Int)) (r_assign rfl rfl) ?_
    refine HL_nil ?_
    refine HC_block ?_
    obtain ⟨I1, m1, hI0, hr⟩ := h
    refine HC_loop (fun m1 E F => ∃ least_4_1 : Sl, ∃ i_5 : Int, E 1 = (.pointer (some (Addr.mk b1 0 none))) ∧ E 4 = (Sl.v least_4_1) ∧ E 5 = (.int .i64 i_5) ∧ I1 m1 least_4_1 i_5 F) m1 ⟨_, _, rfl, rfl, rfl, hI0⟩ ?_
    clear hI0; rintro m1 E F ⟨least_4_1, i_5, h1, h4, h5, hI⟩
    have h := hr m1 least_4_1 i_5 F hI
    clear hr hI
    unfold b51L1 at h
    refine HC_seq ?_
    refine cR ?_
    refine sR (.int .i64 i_5) (r_move rfl h5) ?_
    refine sR (.pointer (some (Addr.mk b1 0 none))) (w_fieldAddr (a' := (Addr.mk b1 0 none)) h1 underlying28 rfl rfl sz26 rfl rfl) ?_
    obtain ⟨v_20, hc20, h⟩ := h
    refine sR (Sl.v v_20) (r_load1 rfl rfl underlying26 rfl hc20) ?_
    refine sR (.int .i64 (v_20.len : Int)) (r_lenSl rfl rfl underlying26) ?_
    refine sR (.bool (decide (i_5 < (v_20.len : Int)))) (r_lss rfl rfl rfl) ?_
    refine HL_nil ?_
    refine HC_cond (t := (decide (i_5 < (v_20.len : Int)))) rfl (fun hc => ?_) (fun hc => ?_)
    ·
     replace h := h.1 (of_decide_eq_true hc)
     clear hc
     refine HC_skip ?_
     refine HC_seq ?_
     refine HC_block ?_
     refine cR ?_
     refine sR (.pointer (some (Addr.mk b1 0 none))) (w_fieldAddr (a' := (Addr.mk b1 0 none)) h1 underlying28 rfl rfl sz26 rfl rfl) ?_
     obtain ⟨v_26, hc26, h⟩ := h
     refine sR (Sl.v v_26) (r_load1 rfl rfl underlying26 rfl hc26) ?_
     refine sR (.int .i64 i_5) (r_move rfl h5) ?_
     obtain ⟨a28_, hb28, hl28, hu28, h⟩ := h
     refine sR (.pointer (some (Addr.add a28_ (Int.toNat i_5 * 3)))) (w_indexAddr rfl rfl underlying26 sz72 hb28 hl28 hu28) ?_
     obtain ⟨v_29, hs29, hc29, h⟩ := h
     refine sR (.agg v_29) (w_loadN rfl underlying72 rfl sz72 hs29 hc29) ?_
     refine s_ef (k_alloc zr72 ?_)
     intro b6 hf_b6
     replace h := atE (h b6 hf_b6)
     refine s_ef0 (k_storeN (vs := v_29) rfl rfl sz72 (by decide) ?_)
     obtain ⟨hz1, hz2, c, e, hz3, hz4, hz5, h⟩ := h
     refine ⟨hz1, hz2, c, e, hz3, hz4, hz5, ?_⟩
     replace h := atE h
     refine HL_nil ?_
     refine cR ?_
     refine sR (Sl.v least_4_1) (r_move rfl h4) ?_
     refine sR (.pointer (some (Addr.mk b6 1 none))) (w_fieldAddr (a' := (Addr.mk b6 1 none)) rfl underlying72 rfl rfl sz3 rfl rfl) ?_
     obtain ⟨v_32, hc32, h⟩ := h
     refine sR (.int .i64 v_32) (r_load1 rfl rfl underlying3 rfl hc32) ?_
     obtain ⟨a33_, hb33, hl33, hu33, h⟩ := h
     refine sR (.pointer (some (Addr.add a33_ (Int.toNat v_32 * 1)))) (w_indexAddr rfl rfl underlying92 sz39 hb33 hl33 hu33) ?_
     obtain ⟨v_34, hc34, h⟩ := h
     refine sR (.int .u64 v_34) (r_load1 rfl rfl underlying39 rfl hc34) ?_
     refine sR (.int .u64 v_34) (r_assign rfl rfl) ?_
     refine HL_nil ?_
     refine HC_seq ?_
     refine HC_draw0 (by kernel_rfl) (fun hp => ?_)
     refine gU 0 (Sl.v least_4_1) rfl (fun _ => r_move rfl h4) hp ?_
     refine gU 1 (.pointer (some (Addr.mk b6 2 none))) rfl (fun _ => w_fieldAddr (a' := (Addr.mk b6 2 none)) rfl underlying72 rfl rfl sz3 rfl rfl) hp ?_
     obtain ⟨v_37, hc37, h⟩ := h
     refine gR 2 (.int .i64 v_37) rfl (r_load1 rfl rfl underlying3 rfl hc37) hp (fun S2 q2 => ?_)
     replace hp := holdC (i := 2) (q2 _ (r_load1 rfl rfl underlying3 rfl hc37)) hp
     obtain ⟨a38_, hb38, hl38, hu38, h⟩ := h
     refine gU 3 (.pointer (some (Addr.add a38_ (Int.toNat v_37 * 1)))) rfl (fun _ => w_indexAddr rfl rfl underlying92 sz39 hb38 hl38 hu38) hp ?_
     obtain ⟨v_39, hc39, h⟩ := h
     refine gR 4 (.int .u64 v_39) rfl (r_load1 rfl rfl underlying39 rfl hc39) hp (fun S4 q4 => ?_)
     replace hp := holdC (i := 4) (q4 _ (r_load1 rfl rfl underlying39 rfl hc39)) hp
     refine gU 5 (.pointer (some (Addr.mk b6 0 none))) rfl (fun _ => w_fieldAddr (a' := (Addr.mk b6 0 none)) rfl underlying72 rfl rfl sz3 rfl rfl) hp ?_
     obtain ⟨v_41, hc41, h⟩ := h
     refine gR 6 (.int .i64 v_41) rfl (r_load1 rfl rfl underlying3 rfl hc41) hp (fun S6 q6 => ?_)
     replace hp := holdC (i := 6) (q6 _ (r_load1 rfl rfl underlying3 rfl hc41)) hp
     refine gU 7 (.int .u64 (IntKind.u64.wrap v_41)) rfl (fun _ => r_convInt rfl rfl underlying3 underlying31) hp ?_
     obtain ⟨hd43, h⟩ := h
     refine gU 8 (.int .u64 (IntKind.u64.wrap ((1 : Int) * 2 ^ (min (Int.toNat (IntKind.u64.wrap v_41)) (IntKind.u64).bits)))) rfl (fun _ => r_shl rfl rfl rfl hd43) hp ?_
     refine gU 9 (.int .u64 (IntKind.u64.wrap ((BitVec.ofInt (IntKind.u64).bits v_39 ||| BitVec.ofInt (IntKind.u64).bits (IntKind.u64.wrap ((1 : Int) * 2 ^ (min (Int.toNat (IntKind.u64.wrap v_41)) (IntKind.u64).bits)))).toNat))) rfl (fun _ => r_or rfl rfl rfl) hp ?_
     refine gU 10 (.int .u64 (IntKind.u64.wrap ((BitVec.ofInt (IntKind.u64).bits v_39 ||| BitVec.ofInt (IntKind.u64).bits (IntKind.u64.wrap ((1 : Int) * 2 ^ (min (Int.toNat (IntKind.u64.wrap v_41)) (IntKind.u64).bits)))).toNat))) rfl (fun _ => r_assign rfl rfl) hp ?_
     refine RG_done (by kernel_rfl) ?_
     refine HC_seqJ (b51J2 (fun least_4_1 i_5 F => ∃ m', m' < m1 ∧ I1 m' least_4_1 i_5 F) b1 least_4_1 i_5 R) ?_ ?_
     ·
      clear h; rintro E F ⟨low_7, h1, h4, h5, h7, h⟩
      unfold b51j2 at h
      refine HC_region ?_
      refine sR (Sl.v least_4_1) (r_move rfl h4) ?_
      refine sR (.int .u64 low_7) (r_move rfl h7) ?_
      refine s_ef (k_buildSeq (l := [(.int .u64 low_7)]) underlying92 sz39 (by decide) zr39 rfl rfl ⟨rfl, trivial⟩ (evPC rfl evPN) ?_)
      intro b61 hf_b61
      replace h := atE (h b61 hf_b61)
      refine s_ef (k_append rfl rfl (runs_mono _ _ h ?_))
      clear h; rintro v F ⟨v_62, rfl, h⟩
      refine sR (Sl.v v_62) (r_assign rfl rfl) ?_
      refine HL_nil ?_
      refine HC_region ?_
      refine sR (.int .i64 i_5) (r_move rfl h5) ?_
      refine sR (.int .i64 (IntKind.i64.wrap (i_5 + (1 : Int)))) (r_add rfl rfl rfl) ?_
      refine sR (.int .i64 (IntKind.i64.wrap (i_5 + (1 : Int)))) (r_assign rfl rfl) ?_
      refine HL_nil ?_
      obtain ⟨m', hm, h⟩ := h
      exact ⟨m', hm, _, _, h1, rfl, rfl, h⟩
     ·
      skip
      refine cR ?_
      refine sR (.pointer (some (Addr.mk b6 1 none))) (w_fieldAddr (a' := (Addr.mk b6 1 none)) rfl underlying72 rfl rfl sz3 rfl rfl) ?_
      obtain ⟨v_46, hc46, h⟩ := h
      refine sR (.int .i64 v_46) (r_load1 rfl rfl underlying3 rfl hc46) ?_
      refine sR (.bool (decide (v_46 = (0 : Int)))) (w_eql rfl rfl) ?_
      refine sR (.bool (decide (v_46 = (0 : Int)))) (r_move rfl rfl) ?_
      by_cases hc : v_46 = (0 : Int)
      ·
       replace h := h.1 hc
       refine kN 47 (decide_eq_true hc) ?_
       refine kN 48 (decide_eq_true hc) ?_
       refine s_skip ?_
       refine s_skip ?_
       refine s_skip ?_
       refine s_skip ?_
       refine s_skip ?_
       refine s_skip ?_
       refine s_skip ?_
       refine s_skip ?_
       refine sR (.bool true) (r_pick rfl rfl (fun _ => rfl) (fun h => by cases h)) ?_
       refine HL_nil ?_
       refine HC_condT rfl ?_
       refine HC_region ?_
       refine sR (.int .u64 (IntKind.u64.wrap ((BitVec.ofInt (IntKind.u64).bits v_39 ||| BitVec.ofInt (IntKind.u64).bits (IntKind.u64.wrap ((1 : Int) * 2 ^ (min (Int.toNat (IntKind.u64.wrap v_41)) (IntKind.u64).bits)))).toNat))) (r_move rfl rfl) ?_
       refine sR (.int .u64 (IntKind.u64.wrap ((BitVec.ofInt (IntKind.u64).bits v_39 ||| BitVec.ofInt (IntKind.u64).bits (IntKind.u64.wrap ((1 : Int) * 2 ^ (min (Int.toNat (IntKind.u64.wrap v_41)) (IntKind.u64).bits)))).toNat))) (r_assign rfl rfl) ?_
       refine HL_nil ?_
       show b51J2 (fun least_4_1 i_5 F => ∃ m', m' < m1 ∧ I1 m' least_4_1 i_5 F) b1 least_4_1 i_5 R _ _
       exact ⟨_, h1, h4, h5, rfl, h⟩
      ·
       replace h := h.2 hc
       refine kN 47 (decide_eq_false hc) ?_
       refine kN 48 (decide_eq_false hc) ?_
       refine sR (.pointer (some (Addr.mk b6 2 none))) (w_fieldAddr (a' := (Addr.mk b6 2 none)) rfl underlying72 rfl rfl sz3 rfl rfl) ?_
       obtain ⟨v_50, hc50, h⟩ := h
       refine sR (.int .i64 v_50) (r_load1 rfl rfl underlying3 rfl hc50) ?_
       refine sR (.bool (decide (v_50 ≠ (0 : Int)))) (w_neq rfl rfl) ?_
       refine sR (.bool (decide (v_50 ≠ (0 : Int)))) (r_move rfl rfl) ?_
       by_cases hc : v_50 ≠ (0 : Int)
       ·
        replace h := h.1 hc
        refine kN 51 (decide_eq_true hc) ?_
        refine kN 52 (decide_eq_true hc) ?_
        refine sR (.int .u64 (IntKind.u64.wrap ((BitVec.ofInt (IntKind.u64).bits v_39 ||| BitVec.ofInt (IntKind.u64).bits (IntKind.u64.wrap ((1 : Int) * 2 ^ (min (Int.toNat (IntKind.u64.wrap v_41)) (IntKind.u64).bits)))).toNat))) (r_move rfl rfl) ?_
        refine sR (.int .u64 v_34) (r_move rfl rfl) ?_
        refine sR (.bool (decide ((IntKind.u64.wrap ((BitVec.ofInt (IntKind.u64).bits v_39 ||| BitVec.ofInt (IntKind.u64).bits (IntKind.u64.wrap ((1 : Int) * 2 ^ (min (Int.toNat (IntKind.u64.wrap v_41)) (IntKind.u64).bits)))).toNat)) < v_34))) (r_lss rfl rfl rfl) ?_
        refine sR (.bool (decide ((IntKind.u64.wrap ((BitVec.ofInt (IntKind.u64).bits v_39 ||| BitVec.ofInt (IntKind.u64).bits (IntKind.u64.wrap ((1 : Int) * 2 ^ (min (Int.toNat (IntKind.u64.wrap v_41)) (IntKind.u64).bits)))).toNat)) < v_34))) (r_pick rfl rfl (fun _ => rfl) (fun h => by cases h)) ?_
        refine sR (.bool (decide ((IntKind.u64.wrap ((BitVec.ofInt (IntKind.u64).bits v_39 ||| BitVec.ofInt (IntKind.u64).bits (IntKind.u64.wrap ((1 : Int) * 2 ^ (min (Int.toNat (IntKind.u64.wrap v_41)) (IntKind.u64).bits)))).toNat)) < v_34))) (r_pick rfl rfl (fun h => by cases h) (fun _ => rfl)) ?_
        refine HL_nil ?_
        refine HC_cond (t := (decide ((IntKind.u64.wrap ((BitVec.ofInt (IntKind.u64).bits v_39 ||| BitVec.ofInt (IntKind.u64).bits (IntKind.u64.wrap ((1 : Int) * 2 ^ (min (Int.toNat (IntKind.u64.wrap v_41)) (IntKind.u64).bits)))).toNat)) < v_34))) rfl (fun hc => ?_) (fun hc => ?_)
        ·
         replace h := h.1 (of_decide_eq_true hc)
         clear hc
         refine HC_region ?_
         refine sR (.int .u64 (IntKind.u64.wrap ((BitVec.ofInt (IntKind.u64).bits v_39 ||| BitVec.ofInt (IntKind.u64).bits (IntKind.u64.wrap ((1 : Int) * 2 ^ (min (Int.toNat (IntKind.u64.wrap v_41)) (IntKind.u64).bits)))).toNat))) (r_move rfl rfl) ?_
         refine sR (.int .u64 (IntKind.u64.wrap ((BitVec.ofInt (IntKind.u64).bits v_39 ||| BitVec.ofInt (IntKind.u64).bits (IntKind.u64.wrap ((1 : Int) * 2 ^ (min (Int.toNat (IntKind.u64.wrap v_41)) (IntKind.u64).bits)))).toNat))) (r_assign rfl rfl) ?_
         refine HL_nil ?_
         show b51J2 (fun least_4_1 i_5 F => ∃ m', m' < m1 ∧ I1 m' least_4_1 i_5 F) b1 least_4_1 i_5 R _ _
         exact ⟨_, h1, h4, h5, rfl, h⟩
        ·
         replace h := h.2 (of_decide_eq_false hc)
         clear hc
         refine HC_skip ?_
         show b51J2 (fun least_4_1 i_5 F => ∃ m', m' < m1 ∧ I1 m' least_4_1 i_5 F) b1 least_4_1 i_5 R _ _
         exact ⟨_, h1, h4, h5, rfl, h⟩
       ·
        replace h := h.2 hc
        refine kN 51 (decide_eq_false hc) ?_
        refine kN 52 (decide_eq_false hc) ?_
        refine s_skip ?_
        refine s_skip ?_
        refine s_skip ?_
        refine sR (.bool false) (r_pick rfl rfl (fun h => by cases h) (fun _ => rfl)) ?_
        refine sR (.bool false) (r_pick rfl rfl (fun h => by cases h) (fun _ => rfl)) ?_
        refine HL_nil ?_
        refine HC_condF rfl ?_
        refine HC_skip ?_
        show b51J2 (fun least_4_1 i_5 F => ∃ m', m' < m1 ∧ I1 m' least_4_1 i_5 F) b1 least_4_1 i_5 R _ _
        exact ⟨_, h1, h4, h5, rfl, h⟩
    ·
     replace h := h.2 (of_decide_eq_false hc)
     clear hc
     refine HC_exit ?_
     show b51J1 b1 R _ _
     exact ⟨_, h1, h4, h⟩

/- 54 koine.koineref02.Holds -/
def b54 (a_0 : Array Value) (c_1 : Int) (R : Value → PH → Prop) (F : PH) : Prop :=
 ∀ b2, F b2 = none → atF (F.set b2 (.cells a_0 28)) fun F =>
 ∃ v_5 : Array Value, v_5.size = 2 ∧ F.row (Addr.mk b2 0 none) v_5 ∧
 Spec prog 40 #[(.agg v_5)] F fun v F => ∃ v_6 : Int, v = (.int .i64 v_6) ∧
 ((v_6 = (0 : Int) →
  ∃ v_9 : Array Value, v_9.size = 2 ∧ F.row (Addr.mk b2 0 none) v_9 ∧
  Spec prog 90 #[(.agg v_9), (.int .u64 c_1)] F fun v F => ∃ v_11 : Bool, v = (.bool v_11) ∧
  R (.bool v_11) F) ∧
 (¬ (v_6 = (0 : Int)) →
  R (.bool false) F))
theorem c54 {a_0 : Array Value} {c_1 : Int} {R : Value → PH → Prop} {F : PH} (h : b54 a_0 c_1 R F) : Spec prog 54 #[(.agg a_0), (.int .u64 c_1)] F R := by
 refine spec_of (args := [(.agg a_0), (.int .u64 c_1)]) func54 rfl ntmps54 rfl ?_
 unfold b54 at h
 refine cR ?_
 refine s_ef (k_box (cs := a_0) rfl rfl ?_)
 intro b2 hf_b2
 replace h := atE (h b2 hf_b2)
 refine sR (.bool false) (r_assign rfl rfl) ?_
 refine HL_nil ?_
 refine cR ?_
 obtain ⟨v_5, hs5, hc5, h⟩ := h
 refine sR (.agg v_5) (w_loadN rfl underlying28 rfl sz28 hs5 hc5) ?_
 refine s_ef (k_call (vs := [(.agg v_5)]) cb40 (evC rfl evN) (h.mono ?_))
 clear h; rintro v F ⟨v_6, rfl, h⟩
 refine sR (.bool (decide (v_6 = (0 : Int)))) (w_eql rfl rfl) ?_
 refine sR (.bool (decide (v_6 = (0 : Int)))) (r_move rfl rfl) ?_
 by_cases hc : v_6 = (0 : Int)
 ·
  replace h := h.1 hc
  refine kN 7 (decide_eq_true hc) ?_
  refine kN 8 (decide_eq_true hc) ?_
  obtain ⟨v_9, hs9, hc9, h⟩ := h
  refine sR (.agg v_9) (w_loadN rfl underlying28 rfl sz28 hs9 hc9) ?_
  refine sR (.int .u64 c_1) (r_move rfl rfl) ?_
  refine s_ef (k_call (vs := [(.agg v_9), (.int .u64 c_1)]) cb90 (evC rfl (evC rfl evN)) (h.mono ?_))
  clear h; rintro v F ⟨v_11, rfl, h⟩
  refine sR (.bool v_11) (r_pick rfl rfl (fun _ => rfl) (fun h => by cases h)) ?_
  refine sR (.bool v_11) (r_assign rfl rfl) ?_
  refine HL_nil ?_
  exact HC_ret (show endQ prog f54 R .ret _ _ from ⟨_, res1 rfl (rv_tmp rfl), h⟩)
 ·
  replace h := h.2 hc
  refine kN 7 (decide_eq_false hc) ?_
  refine kN 8 (decide_eq_false hc) ?_
  refine s_skip ?_
  refine s_skip ?_
  refine s_skip ?_
  refine sR (.bool false) (r_pick rfl rfl (fun h => by cases h) (fun _ => rfl)) ?_
  refine sR (.bool false) (r_assign rfl rfl) ?_
  refine HL_nil ?_
  exact HC_ret (show endQ prog f54 R .ret _ _ from ⟨_, res1 rfl (rv_tmp rfl), h⟩)

/- 57 koine.koineref02.Support -/
def b57j1 (out_3 : Sl) (R : Value → PH → Prop) (F : PH) : Prop :=
 R (Sl.v out_3) F
abbrev b57J1 (R : Value → PH → Prop) (E : En) (F : PH) : Prop := ∃ out_3 : Sl, E 3 = (Sl.v out_3) ∧ b57j1 out_3 R F
def b57j2 (N1 : Sl → Int → PH → Prop) (b1 : Nat) (v_4 : Int) (out_3_2 : Sl) (R : Value → PH → Prop) (F : PH) : Prop :=
 N1 out_3_2 (IntKind.i64.wrap (v_4 + (1 : Int))) F
abbrev b57J2 (N1 : Sl → Int → PH → Prop) (b1 : Nat) (v_4 : Int) (R : Value → PH → Prop) (E : En) (F : PH) : Prop := ∃ out_3_2 : Sl, E 1 = (.pointer (some (Addr.mk b1 0 none))) ∧ E 3 = (Sl.v out_3_2) ∧ E 4 = (.int .i64 v_4) ∧ b57j2 N1 b1 v_4 out_3_2 R F
def b57j3 (N1 : Sl → Int → PH → Prop) (b1 : Nat) (out_3_1 : Sl) (v_4 : Int) (found_5 : Bool) (R : Value → PH → Prop) (F : PH) : Prop :=
 ((found_5 = true →
  ∀ b37, F b37 = none → atF (F.set b37 (.cells #[(.int .i64 v_4)] 3)) fun F =>
  runs prog (Builtin.append_ #[68, 68] 68 #[(Sl.v out_3_1), (Sl.v (Sl.mk (some (Addr.mk b37 0 none)) 1 1))]) F fun v F => ∃ v_38 : Sl, v = (Sl.v v_38) ∧
  b57j2 N1 b1 v_4 v_38 R F) ∧
 (found_5 = false →
  b57j2 N1 b1 v_4 out_3_1 R F))
abbrev b57J3 (N1 : Sl → Int → PH → Prop) (b1 : Nat) (out_3_1 : Sl) (v_4 : Int) (R : Value → PH → Prop) (E : En) (F : PH) : Prop := ∃ found_5 : Bool, E 1 = (.pointer (some (Addr.mk b1 0 none))) ∧ E 3 = (Sl.v out_3_1) ∧ E 4 = (.int .i64 v_4) ∧ E 5 = (.bool found_5) ∧ b57j3 N1 b1 out_3_1 v_4 found_5 R F
def b57j4 (N1 : Sl → Int → PH → Prop) (N2 : Bool → Int → PH → Prop) (b1 : Nat) (out_3_1 : Sl) (v_4 : Int) (i_6 : Int) (found_5_2 : Bool) (R : Value → PH → Prop) (F : PH) : Prop :=
 N2 found_5_2 (IntKind.i64.wrap (i_6 + (1 : Int))) F
abbrev b57J4 (N1 : Sl → Int → PH → Prop) (N2 : Bool → Int → PH → Prop) (b1 : Nat) (out_3_1 : Sl) (v_4 : Int) (i_6 : Int) (R : Value → PH → Prop) (E : En) (F : PH) : Prop := ∃ found_5_2 : Bool, E 1 = (.pointer (some (Addr.mk b1 0 none))) ∧ E 3 = (Sl.v out_3_1) ∧ E 4 = (.int .i64 v_4) ∧ E 5 = (.bool found_5_2) ∧ E 6 = (.int .i64 i_6) ∧ b57j4 N1 N2 b1 out_3_1 v_4 i_6 found_5_2 R F
def b57L2 (N1 : Sl → Int → PH → Prop) (N2 : Bool → Int → PH → Prop) (b1 : Nat) (out_3_1 : Sl) (v_4 : Int) (R : Value → PH → Prop) (found_5_1 : Bool) (i_6 : Int) (F : PH) : Prop :=
 ∃ v_18 : Sl, F.cell (Addr.mk b1 0 none) = some (Sl.v v_18) ∧
 ((i_6 < (v_18.len : Int) →
  ((found_5_1 = true →
   b57j4 N1 N2 b1 out_3_1 v_4 i_6 true R F) ∧
  (found_5_1 = false →
   ∃ v_26 : Sl, F.cell (Addr.mk b1 0 none) = some (Sl.v v_26) ∧
   ∃ a28_ : Addr, v_26.base = some a28_ ∧ 0 ≤ i_6 ∧ i_6 < (v_26.len : Int) ∧
   ∃ v_30 : Int, F.cell (Addr.add a28_ (Int.toNat i_6 * 3)) = some (.int .i64 v_30) ∧
   b57j4 N1 N2 b1 out_3_1 v_4 i_6 (decide (v_30 = v_4)) R F))) ∧
 (¬ (i_6 < (v_18.len : Int)) →
  b57j3 N1 b1 out_3_1 v_4 found_5_1 R F))
def b57L1 (N1 : Sl → Int → PH → Prop) (b1 : Nat) (R : Value → PH → Prop) (out_3_1 : Sl) (v_4 : Int) (F : PH) : Prop :=
 ((v_4 < (64 : Int) →
  (∃ (I2 : Nat → Bool → Int → PH → Prop) (m2 : Nat), I2 m2 false (0 : Int) F ∧ ∀ m2 found_5_1 i_6 F, I2 m2 found_5_1 i_6 F →
   b57L2 N1 (fun found_5_1 i_6 F => ∃ m', m' < m2 ∧ I2 m' found_5_1 i_6 F) b1 out_3_1 v_4 R found_5_1 i_6 F)) ∧
 (¬ (v_4 < (64 : Int)) →
  b57j1 out_3_1 R F))
def b57 (a_0 : Array Value) (R : Value → PH → Prop) (F : PH) : Prop :=
 ∀ b1, F b1 = none → atF (F.set b1 (.cells a_0 28)) fun F =>
 ∀ b7, F b7 = none → atF (F.set b7 (.cells #[] 3)) fun F =>
 ∃ v_8 : Array Value, v_8.size = 2 ∧ F.row (Addr.mk b1 0 none) v_8 ∧
 Spec prog 40 #[(.agg v_8)] F fun v F => ∃ v_9 : Int, v = (.int .i64 v_9) ∧
 ((v_9 ≠ (0 : Int) →
  R (Sl.v (Sl.mk (some (Addr.mk b7 0 none)) 0 0)) F) ∧
 (¬ (v_9 ≠ (0 : Int)) →
  (∃ (I1 : Nat → Sl → Int → PH → Prop) (m1 : Nat), I1 m1 (Sl.mk (some (Addr.mk b7 0 none)) 0 0) (0 : Int) F ∧ ∀ m1 out_3_1 v_4 F, I1 m1 out_3_1 v_4 F →
   b57L1 (fun out_3_1 v_4 F => ∃ m', m' < m1 ∧ I1 m' out_3_1 v_4 F) b1 R out_3_1 v_4 F)))
theorem c57 {a_0 : Array Value} {R : Value → PH → Prop} {F : PH} (h : b57 a_0 R F) : Spec prog 57 #[(.agg a_0)] F R := by
 refine spec_of (args := [(.agg a_0)]) func57 rfl ntmps57 rfl ?_
 unfold b57 at h
 refine cR ?_
 refine s_ef (k_box (cs := a_0) rfl rfl ?_)
 intro b1 hf_b1
 replace h := atE (h b1 hf_b1)
 refine sR (Sl.v Sl.nil) (r_assign rfl rfl) ?_
 refine HL_nil ?_
 refine cR ?_
 refine s_ef (k_buildSeq (l := []) underlying68 sz3 (by decide) zr3 rfl rfl trivial evPN ?_)
 intro b7 hf_b7
 replace h := atE (h b7 hf_b7)
 refine sR (Sl.v (Sl.mk (some (Addr.mk b7 0 none)) 0 0)) (r_assign rfl rfl) ?_
 refine HL_nil ?_
 refine HC_seq ?_
 refine cR ?_
 obtain ⟨v_8, hs8, hc8, h⟩ := h
 refine sR (.agg v_8) (w_loadN rfl underlying28 rfl sz28 hs8 hc8) ?_
 refine s_ef (k_call (vs := [(.agg v_8)]) cb40 (evC rfl evN) (h.mono ?_))
 clear h; rintro v F ⟨v_9, rfl, h⟩
 refine sR (.bool (decide (v_9 ≠ (0 : Int)))) (w_neq rfl rfl) ?_
 refine HL_nil ?_
 refine HC_cond (t := (decide (v_9 ≠ (0 : Int)))) rfl (fun hc => ?_) (fun hc => ?_)
 ·
  replace h := h.1 (of_decide_eq_true hc)
  clear hc
  refine cR ?_
  refine sR (Sl.v (Sl.mk (some (Addr.mk b7 0 none)) 0 0)) (r_move rfl rfl) ?_
  refine sR (Sl.v (Sl.mk (some (Addr.mk b7 0 none)) 0 0)) (r_assign rfl rfl) ?_
  refine HL_nil ?_
  exact HC_ret (show endQ prog f57 R .ret _ _ from ⟨_, res1 rfl (rv_tmp rfl), h⟩)
 ·
  replace h := h.2 (of_decide_eq_false hc)
  clear hc
  refine HC_skip ?_
  refine HC_seqJ (b57J1 R) ?_ ?_
  ·
   clear h; rintro E F ⟨out_3, h3, h⟩
   unfold b57j1 at h
   refine cR ?_
   refine sR (Sl.v out_3) (r_move rfl h3) ?_
   refine sR (Sl.v out_3) (r_assign rfl rfl) ?_
   refine HL_nil ?_
   exact HC_ret (show endQ prog f57 R .ret _ _ from ⟨_, res1 rfl (rv_tmp rfl), h⟩)
  ·
   skip
   refine cR ?_
   refine sR (.int .i64 (0 : Int)) (r_assign rfl rfl) ?_
   refine HL_nil ?_
   refine HC_block ?_
   obtain ⟨I1, m1, hI0, hr⟩ := h
   refine HC_loop (fun m1 E F => ∃ out_3_1 : Sl, ∃ v_4 : Int, E 1 = (.pointer (some (Addr.mk b1 0 none))) ∧ E 3 = (Sl.v out_3_1) ∧ E 4 = (.int .i64 v_4) ∧ I1 m1 out_3_1 v_4 F) m1 ⟨_, _, rfl, rfl, rfl, hI0⟩ ?_
   clear hI0; rintro m1 E F ⟨out_3_1, v_4, h1, h3, h4, hI⟩
   have h := hr m1 out_3_1 v_4 F hI
   clear hr hI
   unfold b57L1 at h
   refine HC_seq ?_
   refine cR ?_
   refine sR (.int .i64 v_4) (r_move rfl h4) ?_
   refine sR (.bool (decide (v_4 < (64 : Int)))) (r_lss rfl rfl rfl) ?_
   refine HL_nil ?_
   refine HC_cond (t := (decide (v_4 < (64 : Int)))) rfl (fun hc => ?_) (fun hc => ?_)
   ·
    replace h := h.1 (of_decide_eq_true hc)
    clear hc
    refine HC_skip ?_
    refine HC_seqJ (b57J2 (fun out_3_1 v_4 F => ∃ m', m' < m1 ∧ I1 m' out_3_1 v_4 F) b1 v_4 R) ?_ ?_
    ·
     clear h; rintro E F ⟨out_3_2, h1, h3, h4, h⟩
     unfold b57j2 at h
     refine HC_region ?_
     refine sR (.int .i64 v_4) (r_move rfl h4) ?_
     refine sR (.int .i64 (IntKind.i64.wrap (v_4 + (1 : Int)))) (r_add rfl rfl rfl) ?_
     refine sR (.int .i64 (IntKind.i64.wrap (v_4 + (1 : Int)))) (r_assign rfl rfl) ?_
     refine HL_nil ?_
     obtain ⟨m', hm, h⟩ := h
     exact ⟨m', hm, _, _, h1, h3, rfl, h⟩
    ·
     skip
     refine HC_block ?_
     refine cR ?_
     refine sR (.bool false) (r_assign rfl rfl) ?_
     refine HL_nil ?_
     refine HC_seqJ (b57J3 (fun out_3_1 v_4 F => ∃ m', m' < m1 ∧ I1 m' out_3_1 v_4 F) b1 out_3_1 v_4 R) ?_ ?_
     ·
      clear h; rintro E F ⟨found_5, h1, h3, h4, h5, h⟩
      unfold b57j3 at h
      refine cR ?_
      refine sR (.bool found_5) (r_move rfl h5) ?_
      refine HL_nil ?_
      refine HC_cond (t := found_5) rfl (fun hc => ?_) (fun hc => ?_)
      ·
       replace h := h.1 hc
       clear hc
       refine HC_region ?_
       refine sR (Sl.v out_3_1) (r_move rfl h3) ?_
       refine sR (.int .i64 v_4) (r_move rfl h4) ?_
       refine s_ef (k_buildSeq (l := [(.int .i64 v_4)]) underlying68 sz3 (by decide) zr3 rfl rfl ⟨rfl, trivial⟩ (evPC rfl evPN) ?_)
       intro b37 hf_b37
       replace h := atE (h b37 hf_b37)
       refine s_ef (k_append rfl rfl (runs_mono _ _ h ?_))
       clear h; rintro v F ⟨v_38, rfl, h⟩
       refine sR (Sl.v v_38) (r_assign rfl rfl) ?_
       refine HL_nil ?_
       show b57J2 (fun out_3_1 v_4 F => ∃ m', m' < m1 ∧ I1 m' out_3_1 v_4 F) b1 v_4 R _ _
       exact ⟨_, h1, rfl, h4, h⟩
      ·
       replace h := h.2 hc
       clear hc
       refine HC_skip ?_
       show b57J2 (fun out_3_1 v_4 F => ∃ m', m' < m1 ∧ I1 m' out_3_1 v_4 F) b1 v_4 R _ _
       exact ⟨_, h1, h3, h4, h⟩
     ·
      skip
      refine cR ?_
      refine sR (.int .i64 (0 : Int)) (r_assign rfl rfl) ?_
      refine HL_nil ?_
      refine HC_block ?_
      obtain ⟨I2, m2, hI0, hr⟩ := h
      refine HC_loop (fun m2 E F => ∃ found_5_1 : Bool, ∃ i_6 : Int, E 1 = (.pointer (some (Addr.mk b1 0 none))) ∧ E 3 = (Sl.v out_3_1) ∧ E 4 = (.int .i64 v_4) ∧ E 5 = (.bool found_5_1) ∧ E 6 = (.int .i64 i_6) ∧ I2 m2 found_5_1 i_6 F) m2 ⟨_, _, h1, h3, h4, rfl, rfl, hI0⟩ ?_
      clear hI0; rintro m2 E F ⟨found_5_1, i_6, h1, h3, h4, h5, h6, hI⟩
      have h := hr m2 found_5_1 i_6 F hI
      clear hr hI
      unfold b57L2 at h
      refine HC_seq ?_
      refine cR ?_
      refine sR (.int .i64 i_6) (r_move rfl h6) ?_
      refine sR (.pointer (some (Addr.mk b1 0 none))) (w_fieldAddr (a' := (Addr.mk b1 0 none)) h1 underlying28 rfl rfl sz26 rfl rfl) ?_
      obtain ⟨v_18, hc18, h⟩ := h
      refine sR (Sl.v v_18) (r_load1 rfl rfl underlying26 rfl hc18) ?_
      refine sR (.int .i64 (v_18.len : Int)) (r_lenSl rfl rfl underlying26) ?_
      refine sR (.bool (decide (i_6 < (v_18.len : Int)))) (r_lss rfl rfl rfl) ?_
      refine HL_nil ?_
      refine HC_cond (t := (decide (i_6 < (v_18.len : Int)))) rfl (fun hc => ?_) (fun hc => ?_)
      ·
       replace h := h.1 (of_decide_eq_true hc)
       clear hc
       refine HC_skip ?_
       refine HC_seqJ (b57J4 (fun out_3_1 v_4 F => ∃ m', m' < m1 ∧ I1 m' out_3_1 v_4 F) (fun found_5_1 i_6 F => ∃ m', m' < m2 ∧ I2 m' found_5_1 i_6 F) b1 out_3_1 v_4 i_6 R) ?_ ?_
       ·
        clear h; rintro E F ⟨found_5_2, h1, h3, h4, h5, h6, h⟩
        unfold b57j4 at h
        refine HC_region ?_
        refine sR (.int .i64 i_6) (r_move rfl h6) ?_
        refine sR (.int .i64 (IntKind.i64.wrap (i_6 + (1 : Int)))) (r_add rfl rfl rfl) ?_
        refine sR (.int .i64 (IntKind.i64.wrap (i_6 + (1 : Int)))) (r_assign rfl rfl) ?_
        refine HL_nil ?_
        obtain ⟨m', hm, h⟩ := h
        exact ⟨m', hm, _, _, h1, h3, h4, h5, rfl, h⟩
       ·
        skip
        refine HC_block ?_
        refine HC_region ?_
        refine sR (.bool found_5_1) (r_move rfl h5) ?_
        refine sR (.bool found_5_1) (r_move rfl rfl) ?_
        by_cases hc : found_5_1 = true
        ·
         replace h := h.1 hc
         refine HL_known (t := 5) (v := .bool true) (h5.trans (congrArg Value.bool hc)) ?_
         refine kN 23 hc ?_
         refine kN 24 hc ?_
         refine s_skip ?_
         refine s_skip ?_
         refine s_skip ?_
         refine s_skip ?_
         refine s_skip ?_
         refine s_skip ?_
         refine s_skip ?_
         refine s_skip ?_
         refine sR (.bool true) (r_pick rfl rfl (fun _ => rfl) (fun h => by cases h)) ?_
         refine sR (.bool true) (r_assign rfl rfl) ?_
         refine HL_nil ?_
         show b57J4 (fun out_3_1 v_4 F => ∃ m', m' < m1 ∧ I1 m' out_3_1 v_4 F) (fun found_5_1 i_6 F => ∃ m', m' < m2 ∧ I2 m' found_5_1 i_6 F) b1 out_3_1 v_4 i_6 R _ _
         exact ⟨_, h1, h3, h4, rfl, h6, h⟩
        ·
         replace hc := eq_false_of_ne_true hc; replace h := h.2 hc
         refine HL_known (t := 5) (v := .bool false) (h5.trans (congrArg Value.bool hc)) ?_
         refine kN 23 hc ?_
         refine kN 24 hc ?_
         refine sR (.pointer (some (Addr.mk b1 0 none))) (w_fieldAddr (a' := (Addr.mk b1 0 none)) h1 underlying28 rfl rfl sz26 rfl rfl) ?_
         obtain ⟨v_26, hc26, h⟩ := h
         refine sR (Sl.v v_26) (r_load1 rfl rfl underlying26 rfl hc26) ?_
         refine sR (.int .i64 i_6) (r_move rfl h6) ?_
         obtain ⟨a28_, hb28, hl28, hu28, h⟩ := h
         refine sR (.pointer (some (Addr.add a28_ (Int.toNat i_6 * 3)))) (w_indexAddr rfl rfl underlying26 sz72 hb28 hl28 hu28) ?_
         refine sR (.pointer (some (Addr.add a28_ (Int.toNat i_6 * 3)))) (w_fieldAddr (a' := (Addr.add a28_ (Int.toNat i_6 * 3))) rfl underlying72 rfl rfl sz3 rfl rfl) ?_
         obtain ⟨v_30, hc30, h⟩ := h
         refine sR (.int .i64 v_30) (r_load1 rfl rfl underlying3 rfl hc30) ?_
         refine sR (.int .i64 v_4) (r_move rfl h4) ?_
         refine sR (.bool (decide (v_30 = v_4))) (w_eql rfl rfl) ?_
         refine sR (.bool (decide (v_30 = v_4))) (r_pick rfl rfl (fun h => by cases h) (fun _ => rfl)) ?_
         refine sR (.bool (decide (v_30 = v_4))) (r_assign rfl rfl) ?_
         refine HL_nil ?_
         show b57J4 (fun out_3_1 v_4 F => ∃ m', m' < m1 ∧ I1 m' out_3_1 v_4 F) (fun found_5_1 i_6 F => ∃ m', m' < m2 ∧ I2 m' found_5_1 i_6 F) b1 out_3_1 v_4 i_6 R _ _
         exact ⟨_, h1, h3, h4, rfl, h6, h⟩
      ·
       replace h := h.2 (of_decide_eq_false hc)
       clear hc
       refine HC_exit ?_
       show b57J3 (fun out_3_1 v_4 F => ∃ m', m' < m1 ∧ I1 m' out_3_1 v_4 F) b1 out_3_1 v_4 R _ _
       exact ⟨_, h1, h3, h4, h5, h⟩
   ·
    replace h := h.2 (of_decide_eq_false hc)
    clear hc
    refine HC_exit ?_
    show b57J1 R _ _
    exact ⟨_, h3, h⟩

/- 87 koine.koineref02.Fixed -/
def b87j1 (b3 : Nat) (b6 : Nat) (number_7 : Sl) (nodes_8 : Sl) (R : Value → PH → Prop) (F : PH) : Prop :=
 ∃ v_70 : Int, F.cell (Addr.mk b3 1 none) = some (.int .i64 v_70) ∧
 ∃ a71_ : Addr, number_7.base = some a71_ ∧ 0 ≤ v_70 ∧ v_70 < (number_7.len : Int) ∧
 ∃ v_72 : Int, F.cell (Addr.add a71_ (Int.toNat v_70 * 1)) = some (.int .i64 v_72) ∧
 Spec prog 102 #[(Sl.v nodes_8), (.int .i64 v_72)] F fun v F => ∃ v_73 : Array Value, v = (.agg v_73) ∧
 v_73.size = 2 ∧ (∀ v ∈ v_73.toList, storable v) ∧ ∃ c e, F (Addr.mk b6 0 none).block = some (.cells c e (0, 0)) ∧ (Addr.mk b6 0 none).spot = none ∧ (Addr.mk b6 0 none).off + 2 ≤ c.size ∧
 atF (F.set (Addr.mk b6 0 none).block (.cells (wr c (Addr.mk b6 0 none).off v_73.toList) e)) fun F =>
 ∃ vres_6 : Array Value, vres_6.size = 2 ∧ F.row (Addr.mk b6 0 none) vres_6 ∧ R (.agg vres_6) F
abbrev b87J1 (b3 : Nat) (b6 : Nat) (R : Value → PH → Prop) (E : En) (F : PH) : Prop := ∃ number_7 : Sl, ∃ nodes_8 : Sl, E 3 = (.pointer (some (Addr.mk b3 0 none))) ∧ E 6 = (.pointer (some (Addr.mk b6 0 none))) ∧ E 7 = (Sl.v number_7) ∧ E 8 = (Sl.v nodes_8) ∧ b87j1 b3 b6 number_7 nodes_8 R F
def b87j3 (N1 : Sl → Sl → Int → PH → Prop) (v_1 : Int) (value_2 : Bool) (b3 : Nat) (b6 : Nat) (number_7_1 : Sl) (nodes_8_1 : Sl) (i_9 : Int) (b10 : Nat) (low_11 : Int) (high_12 : Int) (R : Value → PH → Prop) (F : PH) : Prop :=
 ∃ v_55 : Int, F.cell (Addr.mk b10 0 none) = some (.int .i64 v_55) ∧
 Spec prog 105 #[(Sl.v nodes_8_1), (.agg (#[(.int .i64 v_55), (.int .i64 low_11), (.int .i64 high_12)] : Array Value))] F fun v F => ∃ v_59 : Sl, ∃ v_59_1 : Int, v = (.tuple #[(Sl.v v_59), (.int .i64 v_59_1)]) ∧
 ∀ b65, F b65 = none → atF (F.set b65 (.cells #[(.int .i64 v_59_1)] 3)) fun F =>
 runs prog (Builtin.append_ #[68, 68] 68 #[(Sl.v number_7_1), (Sl.v (Sl.mk (some (Addr.mk b65 0 none)) 1 1))]) F fun v F => ∃ v_66 : Sl, v = (Sl.v v_66) ∧
 N1 v_66 v_59 (IntKind.i64.wrap (i_9 + (1 : Int))) F
abbrev b87J3 (N1 : Sl → Sl → Int → PH → Prop) (v_1 : Int) (value_2 : Bool) (b3 : Nat) (b6 : Nat) (number_7_1 : Sl) (nodes_8_1 : Sl) (i_9 : Int) (b10 : Nat) (low_11 : Int) (R : Value → PH → Prop) (E : En) (F : PH) : Prop := ∃ high_12 : Int, E 1 = (.int .i64 v_1) ∧ E 2 = (.bool value_2) ∧ E 3 = (.pointer (some (Addr.mk b3 0 none))) ∧ E 6 = (.pointer (some (Addr.mk b6 0 none))) ∧ E 7 = (Sl.v number_7_1) ∧ E 8 = (Sl.v nodes_8_1) ∧ E 9 = (.int .i64 i_9) ∧ E 10 = (.pointer (some (Addr.mk b10 0 none))) ∧ E 11 = (.int .i64 low_11) ∧ E 12 = (.int .i64 high_12) ∧ b87j3 N1 v_1 value_2 b3 b6 number_7_1 nodes_8_1 i_9 b10 low_11 high_12 R F
def b87j2 (N1 : Sl → Sl → Int → PH → Prop) (v_1 : Int) (value_2 : Bool) (b3 : Nat) (b6 : Nat) (number_7_1 : Sl) (nodes_8_1 : Sl) (i_9 : Int) (b10 : Nat) (v_38 : Int) (low_11 : Int) (R : Value → PH → Prop) (F : PH) : Prop :=
 ∃ v_48 : Int, F.cell (Addr.mk b10 0 none) = some (.int .i64 v_48) ∧
 ((v_48 = v_1 →
  b87j3 N1 v_1 value_2 b3 b6 number_7_1 nodes_8_1 i_9 b10 low_11 low_11 R F) ∧
 (¬ (v_48 = v_1) →
  b87j3 N1 v_1 value_2 b3 b6 number_7_1 nodes_8_1 i_9 b10 low_11 v_38 R F))
abbrev b87J2 (N1 : Sl → Sl → Int → PH → Prop) (v_1 : Int) (value_2 : Bool) (b3 : Nat) (b6 : Nat) (number_7_1 : Sl) (nodes_8_1 : Sl) (i_9 : Int) (b10 : Nat) (v_38 : Int) (R : Value → PH → Prop) (E : En) (F : PH) : Prop := ∃ low_11 : Int, E 1 = (.int .i64 v_1) ∧ E 2 = (.bool value_2) ∧ E 3 = (.pointer (some (Addr.mk b3 0 none))) ∧ E 6 = (.pointer (some (Addr.mk b6 0 none))) ∧ E 7 = (Sl.v number_7_1) ∧ E 8 = (Sl.v nodes_8_1) ∧ E 9 = (.int .i64 i_9) ∧ E 10 = (.pointer (some (Addr.mk b10 0 none))) ∧ E 11 = (.int .i64 low_11) ∧ E 12 = (.int .i64 v_38) ∧ b87j2 N1 v_1 value_2 b3 b6 number_7_1 nodes_8_1 i_9 b10 v_38 low_11 R F
def b87L1 (N1 : Sl → Sl → Int → PH → Prop) (v_1 : Int) (value_2 : Bool) (b3 : Nat) (b6 : Nat) (R : Value → PH → Prop) (number_7_1 : Sl) (nodes_8_1 : Sl) (i_9 : Int) (F : PH) : Prop :=
 ∃ v_19 : Sl, F.cell (Addr.mk b3 0 none) = some (Sl.v v_19) ∧
 ((i_9 < (v_19.len : Int) →
  ∃ v_25 : Sl, F.cell (Addr.mk b3 0 none) = some (Sl.v v_25) ∧
  ∃ a27_ : Addr, v_25.base = some a27_ ∧ 0 ≤ i_9 ∧ i_9 < (v_25.len : Int) ∧
  ∃ v_28 : Array Value, v_28.size = 3 ∧ F.row (Addr.add a27_ (Int.toNat i_9 * 3)) v_28 ∧
  ∀ b10, F b10 = none → atF (F.set b10 (.cells (#[.int .i64 0, .int .i64 0, .int .i64 0]) 72)) fun F =>
  v_28.size = 3 ∧ (∀ v ∈ v_28.toList, storable v) ∧ ∃ c e, F (Addr.mk b10 0 none).block = some (.cells c e (0, 0)) ∧ (Addr.mk b10 0 none).spot = none ∧ (Addr.mk b10 0 none).off + 3 ≤ c.size ∧
  atF (F.set (Addr.mk b10 0 none).block (.cells (wr c (Addr.mk b10 0 none).off v_28.toList) e)) fun F =>
  ∃ v_31 : Int, F.cell (Addr.mk b10 1 none) = some (.int .i64 v_31) ∧
  ∃ a32_ : Addr, number_7_1.base = some a32_ ∧ 0 ≤ v_31 ∧ v_31 < (number_7_1.len : Int) ∧
  ∃ v_33 : Int, F.cell (Addr.add a32_ (Int.toNat v_31 * 1)) = some (.int .i64 v_33) ∧
  ∃ v_36 : Int, F.cell (Addr.mk b10 2 none) = some (.int .i64 v_36) ∧
  ∃ a37_ : Addr, number_7_1.base = some a37_ ∧ 0 ≤ v_36 ∧ v_36 < (number_7_1.len : Int) ∧
  ∃ v_38 : Int, F.cell (Addr.add a37_ (Int.toNat v_36 * 1)) = some (.int .i64 v_38) ∧
  ∃ v_40 : Int, F.cell (Addr.mk b10 0 none) = some (.int .i64 v_40) ∧
  ((v_40 = v_1 →
   ((value_2 = true →
    b87j2 N1 v_1 value_2 b3 b6 number_7_1 nodes_8_1 i_9 b10 v_38 v_38 R F) ∧
   (value_2 = false →
    b87j2 N1 v_1 value_2 b3 b6 number_7_1 nodes_8_1 i_9 b10 v_38 v_33 R F))) ∧
  (¬ (v_40 = v_1) →
   b87j2 N1 v_1 value_2 b3 b6 number_7_1 nodes_8_1 i_9 b10 v_38 v_33 R F))) ∧
 (¬ (i_9 < (v_19.len : Int)) →
  b87j1 b3 b6 number_7_1 nodes_8_1 R F))
def b87 (a_0 : Array Value) (v_1 : Int) (value_2 : Bool) (R : Value → PH → Prop) (F : PH) : Prop :=
 ∀ b3, F b3 = none → atF (F.set b3 (.cells a_0 28)) fun F =>
 ∀ b6, F b6 = none → atF (F.set b6 (.cells (#[.slice none 0 0, .int .i64 0]) 28)) fun F =>
 ∀ b15, F b15 = none → atF (F.set b15 (.cells #[(.int .i64 (0 : Int)), (.int .i64 (1 : Int))] 3)) fun F =>
 ∀ b16, F b16 = none → atF (F.set b16 (.cells #[] 72)) fun F =>
 (∃ (I1 : Nat → Sl → Sl → Int → PH → Prop) (m1 : Nat), I1 m1 (Sl.mk (some (Addr.mk b15 0 none)) 2 2) (Sl.mk (some (Addr.mk b16 0 none)) 0 0) (0 : Int) F ∧ ∀ m1 number_7_1 nodes_8_1 i_9 F, I1 m1 number_7_1 nodes_8_1 i_9 F →
  b87L1 (fun number_7_1 nodes_8_1 i_9 F => ∃ m', m' < m1 ∧ I1 m' number_7_1 nodes_8_1 i_9 F) v_1 value_2 b3 b6 R number_7_1 nodes_8_1 i_9 F)
theorem c87 {a_0 : Array Value} {v_1 : Int} {value_2 : Bool} {R : Value → PH → Prop} {F : PH} (h : b87 a_0 v_1 value_2 R F) : Spec prog 87 #[(.agg a_0), (.int .i64 v_1), (.bool value_2)] F R := by
 refine spec_of (args := [(.agg a_0), (.int .i64 v_1), (.bool value_2)]) func87 rfl ntmps87 rfl ?_
 unfold b87 at h
 refine cR ?_
 refine s_ef (k_box (cs := a_0) rfl rfl ?_)
 intro b3 hf_b3
 replace h := atE (h b3 hf_b3)
 refine s_ef (k_alloc zr28 ?_)
 intro b6 hf_b6
 replace h := atE (h b6 hf_b6)
 refine HL_nil ?_
 refine cR ?_
 refine s_ef (k_buildSeq (l := [(.int .i64 (0 : Int)), (.int .i64 (1 : Int))]) underlying68 sz3 (by decide) zr3 rfl rfl ⟨rfl, rfl, trivial⟩ (evPC rfl (evPC rfl evPN)) ?_)
 intro b15 hf_b15
 replace h := atE (h b15 hf_b15)
 refine sR (Sl.v (Sl.mk (some (Addr.mk b15 0 none)) 2 2)) (r_assign rfl rfl) ?_
 refine HL_nil ?_
 refine cR ?_
 refine s_ef (k_buildSlice (cells := #[]) underlying26 sz72 (by decide) zr72 ((zc_flat _ rfl _).trans (rfl : _ = (#[] : Array Value))) evPN (fillN rfl) rfl ?_)
 intro b16 hf_b16
 replace h := atE (h b16 hf_b16)
 refine sR (Sl.v (Sl.mk (some (Addr.mk b16 0 none)) 0 0)) (r_assign rfl rfl) ?_
 refine HL_nil ?_
 refine HC_seqJ (b87J1 b3 b6 R) ?_ ?_
 ·
  clear h; rintro E F ⟨number_7, nodes_8, h3, h6, h7, h8, h⟩
  unfold b87j1 at h
  refine cR ?_
  refine sR (Sl.v nodes_8) (r_move rfl h8) ?_
  refine sR (Sl.v number_7) (r_move rfl h7) ?_
  refine sR (.pointer (some (Addr.mk b3 1 none))) (w_fieldAddr (a' := (Addr.mk b3 1 none)) h3 underlying28 rfl rfl sz3 rfl rfl) ?_
  obtain ⟨v_70, hc70, h⟩ := h
  refine sR (.int .i64 v_70) (r_load1 rfl rfl underlying3 rfl hc70) ?_
  obtain ⟨a71_, hb71, hl71, hu71, h⟩ := h
  refine sR (.pointer (some (Addr.add a71_ (Int.toNat v_70 * 1)))) (w_indexAddr rfl rfl underlying68 sz3 hb71 hl71 hu71) ?_
  obtain ⟨v_72, hc72, h⟩ := h
  refine sR (.int .i64 v_72) (r_load1 rfl rfl underlying3 rfl hc72) ?_
  refine s_ef (k_call (vs := [(Sl.v nodes_8), (.int .i64 v_72)]) cb102 (evC rfl (evC rfl evN)) (h.mono ?_))
  clear h; rintro v F ⟨v_73, rfl, h⟩
  refine s_ef0 (k_storeN (vs := v_73) h6 rfl sz28 (by decide) ?_)
  obtain ⟨hz1, hz2, c, e, hz3, hz4, hz5, h⟩ := h
  refine ⟨hz1, hz2, c, e, hz3, hz4, hz5, ?_⟩
  replace h := atE h
  refine HL_nil ?_
  obtain ⟨vres_6, hs6, hr6, h⟩ := h
  exact HC_ret (show endQ prog f87 R .ret _ _ from ⟨_, res1 rfl (rv_cellN h6 underlying28 rfl sz28 hs6 hr6), h⟩)
 ·
  skip
  refine cR ?_
  refine sR (.int .i64 (0 : Int)) (r_assign rfl rfl) ?_
  refine HL_nil ?_
  refine HC_block ?_
  obtain ⟨I1, m1, hI0, hr⟩ := h
  refine HC_loop (fun m1 E F => ∃ number_7_1 : Sl, ∃ nodes_8_1 : Sl, ∃ i_9 : Int, E 1 = (.int .i64 v_1) ∧ E 2 = (.bool value_2) ∧ E 3 = (.pointer (some (Addr.mk b3 0 none))) ∧ E 6 = (.pointer (some (Addr.mk b6 0 none))) ∧ E 7 = (Sl.v number_7_1) ∧ E 8 = (Sl.v nodes_8_1) ∧ E 9 = (.int .i64 i_9) ∧ I1 m1 number_7_1 nodes_8_1 i_9 F) m1 ⟨_, _, _, rfl, rfl, rfl, rfl, rfl, rfl, rfl, hI0⟩ ?_
  clear hI0; rintro m1 E F ⟨number_7_1, nodes_8_1, i_9, h1, h2, h3, h6, h7, h8, h9, hI⟩
  have h := hr m1 number_7_1 nodes_8_1 i_9 F hI
  clear hr hI
  unfold b87L1 at h
  refine HC_seq ?_
  refine cR ?_
  refine sR (.int .i64 i_9) (r_move rfl h9) ?_
  refine sR (.pointer (some (Addr.mk b3 0 none))) (w_fieldAddr (a' := (Addr.mk b3 0 none)) h3 underlying28 rfl rfl sz26 rfl rfl) ?_
  obtain ⟨v_19, hc19, h⟩ := h
  refine sR (Sl.v v_19) (r_load1 rfl rfl underlying26 rfl hc19) ?_
  refine sR (.int .i64 (v_19.len : Int)) (r_lenSl rfl rfl underlying26) ?_
  refine sR (.bool (decide (i_9 < (v_19.len : Int)))) (r_lss rfl rfl rfl) ?_
  refine HL_nil ?_
  refine HC_cond (t := (decide (i_9 < (v_19.len : Int)))) rfl (fun hc => ?_) (fun hc => ?_)
  ·
   replace h := h.1 (of_decide_eq_true hc)
   clear hc
   refine HC_skip ?_
   refine HC_seq ?_
   refine HC_block ?_
   refine cR ?_
   refine sR (.pointer (some (Addr.mk b3 0 none))) (w_fieldAddr (a' := (Addr.mk b3 0 none)) h3 underlying28 rfl rfl sz26 rfl rfl) ?_
   obtain ⟨v_25, hc25, h⟩ := h
   refine sR (Sl.v v_25) (r_load1 rfl rfl underlying26 rfl hc25) ?_
   refine sR (.int .i64 i_9) (r_move rfl h9) ?_
   obtain ⟨a27_, hb27, hl27, hu27, h⟩ := h
   refine sR (.pointer (some (Addr.add a27_ (Int.toNat i_9 * 3)))) (w_indexAddr rfl rfl underlying26 sz72 hb27 hl27 hu27) ?_
   obtain ⟨v_28, hs28, hc28, h⟩ := h
   refine sR (.agg v_28) (w_loadN rfl underlying72 rfl sz72 hs28 hc28) ?_
   refine s_ef (k_alloc zr72 ?_)
   intro b10 hf_b10
   replace h := atE (h b10 hf_b10)
   refine s_ef0 (k_storeN (vs := v_28) rfl rfl sz72 (by decide) ?_)
   obtain ⟨hz1, hz2, c, e, hz3, hz4, hz5, h⟩ := h
   refine ⟨hz1, hz2, c, e, hz3, hz4, hz5, ?_⟩
   replace h := atE h
   refine HL_nil ?_
   refine cR ?_
   refine sR (Sl.v number_7_1) (r_move rfl h7) ?_
   refine sR (.pointer (some (Addr.mk b10 1 none))) (w_fieldAddr (a' := (Addr.mk b10 1 none)) rfl underlying72 rfl rfl sz3 rfl rfl) ?_
   obtain ⟨v_31, hc31, h⟩ := h
   refine sR (.int .i64 v_31) (r_load1 rfl rfl underlying3 rfl hc31) ?_
   obtain ⟨a32_, hb32, hl32, hu32, h⟩ := h
   refine sR (.pointer (some (Addr.add a32_ (Int.toNat v_31 * 1)))) (w_indexAddr rfl rfl underlying68 sz3 hb32 hl32 hu32) ?_
   obtain ⟨v_33, hc33, h⟩ := h
   refine sR (.int .i64 v_33) (r_load1 rfl rfl underlying3 rfl hc33) ?_
   refine sR (.int .i64 v_33) (r_assign rfl rfl) ?_
   refine HL_nil ?_
   refine cR ?_
   refine sR (Sl.v number_7_1) (r_move rfl h7) ?_
   refine sR (.pointer (some (Addr.mk b10 2 none))) (w_fieldAddr (a' := (Addr.mk b10 2 none)) rfl underlying72 rfl rfl sz3 rfl rfl) ?_
   obtain ⟨v_36, hc36, h⟩ := h
   refine sR (.int .i64 v_36) (r_load1 rfl rfl underlying3 rfl hc36) ?_
   obtain ⟨a37_, hb37, hl37, hu37, h⟩ := h
   refine sR (.pointer (some (Addr.add a37_ (Int.toNat v_36 * 1)))) (w_indexAddr rfl rfl underlying68 sz3 hb37 hl37 hu37) ?_
   obtain ⟨v_38, hc38, h⟩ := h
   refine sR (.int .i64 v_38) (r_load1 rfl rfl underlying3 rfl hc38) ?_
   refine sR (.int .i64 v_38) (r_assign rfl rfl) ?_
   refine HL_nil ?_
   refine HC_seqJ (b87J2 (fun number_7_1 nodes_8_1 i_9 F => ∃ m', m' < m1 ∧ I1 m' number_7_1 nodes_8_1 i_9 F) v_1 value_2 b3 b6 number_7_1 nodes_8_1 i_9 b10 v_38 R) ?_ ?_
   ·
    clear h; rintro E F ⟨low_11, h1, h2, h3, h6, h7, h8, h9, h10, h11, h12, h⟩
    unfold b87j2 at h
    refine HC_seqJ (b87J3 (fun number_7_1 nodes_8_1 i_9 F => ∃ m', m' < m1 ∧ I1 m' number_7_1 nodes_8_1 i_9 F) v_1 value_2 b3 b6 number_7_1 nodes_8_1 i_9 b10 low_11 R) ?_ ?_
    ·
     clear h; rintro E F ⟨high_12, h1, h2, h3, h6, h7, h8, h9, h10, h11, h12, h⟩
     unfold b87j3 at h
     refine cR ?_
     refine sR (Sl.v nodes_8_1) (r_move rfl h8) ?_
     refine sR (.pointer (some (Addr.mk b10 0 none))) (w_fieldAddr (a' := (Addr.mk b10 0 none)) h10 underlying72 rfl rfl sz3 rfl rfl) ?_
     obtain ⟨v_55, hc55, h⟩ := h
     refine sR (.int .i64 v_55) (r_load1 rfl rfl underlying3 rfl hc55) ?_
     refine sR (.int .i64 low_11) (r_move rfl h11) ?_
     refine sR (.int .i64 high_12) (r_move rfl h12) ?_
     refine sR (.agg (#[(.int .i64 v_55), (.int .i64 low_11), (.int .i64 high_12)] : Array Value)) (w_buildStruct (cells := #[(.int .i64 v_55), (.int .i64 low_11), (.int .i64 high_12)]) underlying72 zr72 kf72 (evPC rfl (evPC rfl (evPC rfl evPN))) (fill1 (place_of rfl rfl sz3) rfl rfl (fill1 (place_of rfl rfl sz3) rfl rfl (fill1 (place_of rfl rfl sz3) rfl rfl (fillN rfl))))) ?_
     refine s_ef (k_call (vs := [(Sl.v nodes_8_1), (.agg (#[(.int .i64 v_55), (.int .i64 low_11), (.int .i64 high_12)] : Array Value))]) cb105 (evC rfl (evC rfl evN)) (h.mono ?_))
     clear h; rintro v F ⟨v_59, v_59_1, rfl, h⟩
     refine sR (.tuple #[(Sl.v v_59), (.int .i64 v_59_1)]) (r_move rfl rfl) ?_
     refine sR (Sl.v v_59) (r_extract rfl rfl rfl) ?_
     refine sR (.int .i64 v_59_1) (r_extract rfl rfl rfl) ?_
     refine sR (Sl.v v_59) (r_assign rfl rfl) ?_
     refine sR (.int .i64 v_59_1) (r_assign rfl rfl) ?_
     refine HL_nil ?_
     refine cR ?_
     refine sR (Sl.v v_59) (r_move rfl rfl) ?_
     refine sR (Sl.v v_59) (r_assign rfl rfl) ?_
     refine HL_nil ?_
     refine HC_region ?_
     refine sR (Sl.v number_7_1) (r_move rfl h7) ?_
     refine sR (.int .i64 v_59_1) (r_move rfl rfl) ?_
     refine s_ef (k_buildSeq (l := [(.int .i64 v_59_1)]) underlying68 sz3 (by decide) zr3 rfl rfl ⟨rfl, trivial⟩ (evPC rfl evPN) ?_)
     intro b65 hf_b65
     replace h := atE (h b65 hf_b65)
     refine s_ef (k_append rfl rfl (runs_mono _ _ h ?_))
     clear h; rintro v F ⟨v_66, rfl, h⟩
     refine sR (Sl.v v_66) (r_assign rfl rfl) ?_
     refine HL_nil ?_
     refine HC_region ?_
     refine sR (.int .i64 i_9) (r_move rfl h9) ?_
     refine sR (.int .i64 (IntKind.i64.wrap (i_9 + (1 : Int)))) (r_add rfl rfl rfl) ?_
     refine sR (.int .i64 (IntKind.i64.wrap (i_9 + (1 : Int)))) (r_assign rfl rfl) ?_
     refine HL_nil ?_
     obtain ⟨m', hm, h⟩ := h
     exact ⟨m', hm, _, _, _, h1, h2, h3, h6, rfl, rfl, rfl, h⟩
    ·
     skip
     refine cR ?_
     refine sR (.pointer (some (Addr.mk b10 0 none))) (w_fieldAddr (a' := (Addr.mk b10 0 none)) h10 underlying72 rfl rfl sz3 rfl rfl) ?_
     obtain ⟨v_48, hc48, h⟩ := h
     refine sR (.int .i64 v_48) (r_load1 rfl rfl underlying3 rfl hc48) ?_
     refine sR (.int .i64 v_1) (r_move rfl h1) ?_
     refine sR (.bool (decide (v_48 = v_1))) (w_eql rfl rfl) ?_
     refine HL_nil ?_
     refine HC_cond (t := (decide (v_48 = v_1))) rfl (fun hc => ?_) (fun hc => ?_)
     ·
      replace h := h.1 (of_decide_eq_true hc)
      clear hc
      refine HC_region ?_
      refine sR (.int .i64 low_11) (r_move rfl h11) ?_
      refine sR (.int .i64 low_11) (r_assign rfl rfl) ?_
      refine HL_nil ?_
      show b87J3 (fun number_7_1 nodes_8_1 i_9 F => ∃ m', m' < m1 ∧ I1 m' number_7_1 nodes_8_1 i_9 F) v_1 value_2 b3 b6 number_7_1 nodes_8_1 i_9 b10 low_11 R _ _
      exact ⟨_, h1, h2, h3, h6, h7, h8, h9, h10, h11, rfl, h⟩
     ·
      replace h := h.2 (of_decide_eq_false hc)
      clear hc
      refine HC_skip ?_
      show b87J3 (fun number_7_1 nodes_8_1 i_9 F => ∃ m', m' < m1 ∧ I1 m' number_7_1 nodes_8_1 i_9 F) v_1 value_2 b3 b6 number_7_1 nodes_8_1 i_9 b10 low_11 R _ _
      exact ⟨_, h1, h2, h3, h6, h7, h8, h9, h10, h11, h12, h⟩
   ·
    skip
    refine cR ?_
    refine sR (.pointer (some (Addr.mk b10 0 none))) (w_fieldAddr (a' := (Addr.mk b10 0 none)) rfl underlying72 rfl rfl sz3 rfl rfl) ?_
    obtain ⟨v_40, hc40, h⟩ := h
    refine sR (.int .i64 v_40) (r_load1 rfl rfl underlying3 rfl hc40) ?_
    refine sR (.int .i64 v_1) (r_move rfl h1) ?_
    refine sR (.bool (decide (v_40 = v_1))) (w_eql rfl rfl) ?_
    refine sR (.bool (decide (v_40 = v_1))) (r_move rfl rfl) ?_
    by_cases hc : v_40 = v_1
    ·
     replace h := h.1 hc
     refine kN 42 (decide_eq_true hc) ?_
     refine kN 43 (decide_eq_true hc) ?_
     refine sR (.bool value_2) (r_move rfl h2) ?_
     refine sR (.bool value_2) (r_pick rfl rfl (fun _ => rfl) (fun h => by cases h)) ?_
     refine HL_nil ?_
     refine HC_cond (t := value_2) rfl (fun hc => ?_) (fun hc => ?_)
     ·
      replace h := h.1 hc
      clear hc
      refine HC_region ?_
      refine sR (.int .i64 v_38) (r_move rfl rfl) ?_
      refine sR (.int .i64 v_38) (r_assign rfl rfl) ?_
      refine HL_nil ?_
      show b87J2 (fun number_7_1 nodes_8_1 i_9 F => ∃ m', m' < m1 ∧ I1 m' number_7_1 nodes_8_1 i_9 F) v_1 value_2 b3 b6 number_7_1 nodes_8_1 i_9 b10 v_38 R _ _
      exact ⟨_, h1, h2, h3, h6, h7, h8, h9, rfl, rfl, rfl, h⟩
     ·
      replace h := h.2 hc
      clear hc
      refine HC_skip ?_
      show b87J2 (fun number_7_1 nodes_8_1 i_9 F => ∃ m', m' < m1 ∧ I1 m' number_7_1 nodes_8_1 i_9 F) v_1 value_2 b3 b6 number_7_1 nodes_8_1 i_9 b10 v_38 R _ _
      exact ⟨_, h1, h2, h3, h6, h7, h8, h9, rfl, rfl, rfl, h⟩
    ·
     replace h := h.2 hc
     refine kN 42 (decide_eq_false hc) ?_
     refine kN 43 (decide_eq_false hc) ?_
     refine s_skip ?_
     refine sR (.bool false) (r_pick rfl rfl (fun h => by cases h) (fun _ => rfl)) ?_
     refine HL_nil ?_
     refine HC_condF rfl ?_
     refine HC_skip ?_
     show b87J2 (fun number_7_1 nodes_8_1 i_9 F => ∃ m', m' < m1 ∧ I1 m' number_7_1 nodes_8_1 i_9 F) v_1 value_2 b3 b6 number_7_1 nodes_8_1 i_9 b10 v_38 R _ _
     exact ⟨_, h1, h2, h3, h6, h7, h8, h9, rfl, rfl, rfl, h⟩
  ·
   replace h := h.2 (of_decide_eq_false hc)
   clear hc
   refine HC_exit ?_
   show b87J1 b3 b6 R _ _
   exact ⟨_, _, h3, h6, h7, h8, h⟩

/- 88 koine.koineref02.nat -/
def b88j1 (out_3 : Sl) (R : Value → PH → Prop) (F : PH) : Prop :=
 R (Sl.v out_3) F
abbrev b88J1 (R : Value → PH → Prop) (E : En) (F : PH) : Prop := ∃ out_3 : Sl, E 3 = (Sl.v out_3) ∧ b88j1 out_3 R F
def b88L1 (N1 : Sl → PH → Prop) (R : Value → PH → Prop) (out_3_1 : Sl) (F : PH) : Prop :=
 (((0 : Int) < (out_3_1.len : Int) →
  ∃ a18_ : Addr, out_3_1.base = some a18_ ∧ 0 ≤ (IntKind.i64.wrap ((out_3_1.len : Int) - (1 : Int))) ∧ (IntKind.i64.wrap ((out_3_1.len : Int) - (1 : Int))) < (out_3_1.len : Int) ∧
  ∃ v_19 : Int, F.cell (Addr.add a18_ (Int.toNat (IntKind.i64.wrap ((out_3_1.len : Int) - (1 : Int))) * 1)) = some (.int .u32 v_19) ∧
  ((v_19 = (0 : Int) →
   0 ≤ (IntKind.i64.wrap ((out_3_1.len : Int) - (1 : Int))) ∧ 0 ≤ (Int.toNat (IntKind.i64.wrap ((out_3_1.len : Int) - (1 : Int)))) ∧ (Int.toNat (IntKind.i64.wrap ((out_3_1.len : Int) - (1 : Int)))) ≤ out_3_1.cap ∧ 
   N1 (Sl.cut out_3_1 1 0 (Int.toNat (IntKind.i64.wrap ((out_3_1.len : Int) - (1 : Int)))) out_3_1.cap) F) ∧
  (¬ (v_19 = (0 : Int)) →
   b88j1 out_3_1 R F))) ∧
 (¬ ((0 : Int) < (out_3_1.len : Int)) →
  b88j1 out_3_1 R F))
def b88 (n_0 : Int) (R : Value → PH → Prop) (F : PH) : Prop :=
 ∀ b9, F b9 = none → atF (F.set b9 (.cells #[(.int .u32 (IntKind.u32.wrap n_0)), (.int .u32 (IntKind.u32.wrap (Int.fdiv n_0 (2 ^ (min (Int.toNat (32 : Int)) (IntKind.u64).bits)))))] 75)) fun F =>
 (∃ (I1 : Nat → Sl → PH → Prop) (m1 : Nat), I1 m1 (Sl.mk (some (Addr.mk b9 0 none)) 2 2) F ∧ ∀ m1 out_3_1 F, I1 m1 out_3_1 F →
  b88L1 (fun out_3_1 F => ∃ m', m' < m1 ∧ I1 m' out_3_1 F) R out_3_1 F)
theorem c88 {n_0 : Int} {R : Value → PH → Prop} {F : PH} (h : b88 n_0 R F) : Spec prog 88 #[(.int .u64 n_0)] F R := by
 refine spec_of (args := [(.int .u64 n_0)]) func88 rfl ntmps88 rfl ?_
 unfold b88 at h
 refine cR ?_
 refine sR (Sl.v Sl.nil) (r_assign rfl rfl) ?_
 refine HL_nil ?_
 refine cR ?_
 refine sR (.int .u64 n_0) (r_move rfl rfl) ?_
 refine sR (.int .u32 (IntKind.u32.wrap n_0)) (r_convInt rfl rfl underlying38 underlying75) ?_
 refine sR (.int .u64 n_0) (r_move rfl rfl) ?_
 refine sR (.int .u64 (Int.fdiv n_0 (2 ^ (min (Int.toNat (32 : Int)) (IntKind.u64).bits)))) (r_shr rfl rfl rfl (by decide)) ?_
 refine sR (.int .u32 (IntKind.u32.wrap (Int.fdiv n_0 (2 ^ (min (Int.toNat (32 : Int)) (IntKind.u64).bits))))) (r_convInt rfl rfl underlying38 underlying75) ?_
 refine s_ef (k_buildSeq (l := [(.int .u32 (IntKind.u32.wrap n_0)), (.int .u32 (IntKind.u32.wrap (Int.fdiv n_0 (2 ^ (min (Int.toNat (32 : Int)) (IntKind.u64).bits)))))]) underlying57 sz75 (by decide) zr75 rfl rfl ⟨rfl, rfl, trivial⟩ (evPC rfl (evPC rfl evPN)) ?_)
 intro b9 hf_b9
 replace h := atE (h b9 hf_b9)
 refine sR (Sl.v (Sl.mk (some (Addr.mk b9 0 none)) 2 2)) (r_assign rfl rfl) ?_
 refine HL_nil ?_
 refine HC_seqJ (b88J1 R) ?_ ?_
 ·
  clear h; rintro E F ⟨out_3, h3, h⟩
  unfold b88j1 at h
  refine cR ?_
  refine sR (Sl.v out_3) (r_move rfl h3) ?_
  refine sR (Sl.v out_3) (r_assign rfl rfl) ?_
  refine HL_nil ?_
  exact HC_ret (show endQ prog f88 R .ret _ _ from ⟨_, res1 rfl (rv_tmp rfl), h⟩)
 ·
  skip
  refine HC_block ?_
  obtain ⟨I1, m1, hI0, hr⟩ := h
  refine HC_loop (fun m1 E F => ∃ out_3_1 : Sl, E 3 = (Sl.v out_3_1) ∧ I1 m1 out_3_1 F) m1 ⟨_, rfl, hI0⟩ ?_
  clear hI0; rintro m1 E F ⟨out_3_1, h3, hI⟩
  have h := hr m1 out_3_1 F hI
  clear hr hI
  unfold b88L1 at h
  refine HC_seq ?_
  refine cR ?_
  refine sR (Sl.v out_3_1) (r_move rfl h3) ?_
  refine sR (.int .i64 (out_3_1.len : Int)) (r_lenSl rfl rfl underlying57) ?_
  refine sR (.bool (decide ((0 : Int) < (out_3_1.len : Int)))) (r_gtr rfl rfl rfl) ?_
  refine sR (.bool (decide ((0 : Int) < (out_3_1.len : Int)))) (r_move rfl rfl) ?_
  by_cases hc : (0 : Int) < (out_3_1.len : Int)
  ·
   replace h := h.1 hc
   refine kN 12 (decide_eq_true hc) ?_
   refine kN 13 (decide_eq_true hc) ?_
   refine sR (Sl.v out_3_1) (r_move rfl h3) ?_
   refine sR (Sl.v out_3_1) (r_move rfl h3) ?_
   refine sR (.int .i64 (out_3_1.len : Int)) (r_lenSl rfl rfl underlying57) ?_
   refine sR (.int .i64 (IntKind.i64.wrap ((out_3_1.len : Int) - (1 : Int)))) (r_sub rfl rfl rfl) ?_
   obtain ⟨a18_, hb18, hl18, hu18, h⟩ := h
   refine sR (.pointer (some (Addr.add a18_ (Int.toNat (IntKind.i64.wrap ((out_3_1.len : Int) - (1 : Int))) * 1)))) (w_indexAddr rfl rfl underlying57 sz75 hb18 hl18 hu18) ?_
   obtain ⟨v_19, hc19, h⟩ := h
   refine sR (.int .u32 v_19) (r_load1 rfl rfl underlying75 rfl hc19) ?_
   refine sR (.bool (decide (v_19 = (0 : Int)))) (w_eql rfl rfl) ?_
   refine sR (.bool (decide (v_19 = (0 : Int)))) (r_pick rfl rfl (fun _ => rfl) (fun h => by cases h)) ?_
   refine HL_nil ?_
   refine HC_cond (t := (decide (v_19 = (0 : Int)))) rfl (fun hc => ?_) (fun hc => ?_)
   ·
    replace h := h.1 (of_decide_eq_true hc)
    clear hc
    refine HC_skip ?_
    refine HC_block ?_
    refine HC_region ?_
    refine sR (Sl.v out_3_1) (r_move rfl h3) ?_
    refine sR (Sl.v out_3_1) (r_move rfl h3) ?_
    refine sR (.int .i64 (out_3_1.len : Int)) (r_lenSl rfl rfl underlying57) ?_
    refine sR (.int .i64 (IntKind.i64.wrap ((out_3_1.len : Int) - (1 : Int)))) (r_sub rfl rfl rfl) ?_
    obtain ⟨hq26_0, hr26_0, hr26_1, h⟩ := h
    refine sR (Sl.v (Sl.cut out_3_1 1 0 (Int.toNat (IntKind.i64.wrap ((out_3_1.len : Int) - (1 : Int)))) out_3_1.cap)) (r_sliceSl rfl rfl underlying57 sz75 bo_none (bo_ev rfl hq26_0) hr26_0 hr26_1) ?_
    refine sR (Sl.v (Sl.cut out_3_1 1 0 (Int.toNat (IntKind.i64.wrap ((out_3_1.len : Int) - (1 : Int)))) out_3_1.cap)) (r_assign rfl rfl) ?_
    refine HL_nil ?_
    obtain ⟨m', hm, h⟩ := h
    exact ⟨m', hm, _, rfl, h⟩
   ·
    replace h := h.2 (of_decide_eq_false hc)
    clear hc
    refine HC_exit ?_
    show b88J1 R _ _
    exact ⟨_, h3, h⟩
  ·
   replace h := h.2 hc
   refine kN 12 (decide_eq_false hc) ?_
   refine kN 13 (decide_eq_false hc) ?_
   refine s_skip ?_
   refine s_skip ?_
   refine s_skip ?_
   refine s_skip ?_
   refine s_skip ?_
   refine s_skip ?_
   refine s_skip ?_
   refine sR (.bool false) (r_pick rfl rfl (fun h => by cases h) (fun _ => rfl)) ?_
   refine HL_nil ?_
   refine HC_condF rfl ?_
   refine HC_exit ?_
   show b88J1 R _ _
   exact ⟨_, h3, h⟩

/- 89 koine.koineref02.side -/
def b89 (a_0 : Array Value) (counts_1 : Sl) (x_2 : Int) (n_3 : Int) (from_4 : Int) (R : Value → PH → Prop) (F : PH) : Prop :=
 ∀ b5, F b5 = none → atF (F.set b5 (.cells a_0 28)) fun F =>
 ((x_2 < (2 : Int) →
  0 ≤ (IntKind.u64.wrap (IntKind.i64.wrap (n_3 - from_4))) ∧ R (.int .u64 (IntKind.u64.wrap ((IntKind.u64.wrap x_2) * 2 ^ (min (Int.toNat (IntKind.u64.wrap (IntKind.i64.wrap (n_3 - from_4)))) (IntKind.u64).bits)))) F) ∧
 (¬ (x_2 < (2 : Int)) →
  ∃ a23_ : Addr, counts_1.base = some a23_ ∧ 0 ≤ (IntKind.i64.wrap (x_2 - (2 : Int))) ∧ (IntKind.i64.wrap (x_2 - (2 : Int))) < (counts_1.len : Int) ∧
  ∃ v_24 : Int, F.cell (Addr.add a23_ (Int.toNat (IntKind.i64.wrap (x_2 - (2 : Int))) * 1)) = some (.int .u64 v_24) ∧
  ∃ v_26 : Sl, F.cell (Addr.mk b5 0 none) = some (Sl.v v_26) ∧
  ∃ a29_ : Addr, v_26.base = some a29_ ∧ 0 ≤ (IntKind.i64.wrap (x_2 - (2 : Int))) ∧ (IntKind.i64.wrap (x_2 - (2 : Int))) < (v_26.len : Int) ∧
  ∃ v_31 : Int, F.cell (Addr.add a29_ (Int.toNat (IntKind.i64.wrap (x_2 - (2 : Int))) * 3)) = some (.int .i64 v_31) ∧
  0 ≤ (IntKind.u64.wrap (IntKind.i64.wrap (v_31 - from_4))) ∧ R (.int .u64 (IntKind.u64.wrap (v_24 * 2 ^ (min (Int.toNat (IntKind.u64.wrap (IntKind.i64.wrap (v_31 - from_4)))) (IntKind.u64).bits)))) F))
theorem c89 {a_0 : Array Value} {counts_1 : Sl} {x_2 : Int} {n_3 : Int} {from_4 : Int} {R : Value → PH → Prop} {F : PH} (h : b89 a_0 counts_1 x_2 n_3 from_4 R F) : Spec prog 89 #[(.agg a_0), (Sl.v counts_1), (.int .i64 x_2), (.int .i64 n_3), (.int .i64 from_4)] F R := by
 refine spec_of (args := [(.agg a_0), (Sl.v counts_1), (.int .i64 x_2), (.int .i64 n_3), (.int .i64 from_4)]) func89 rfl ntmps89 rfl ?_
 unfold b89 at h
 refine cR ?_
 refine s_ef (k_box (cs := a_0) rfl rfl ?_)
 intro b5 hf_b5
 replace h := atE (h b5 hf_b5)
 refine sR (.int .u64 (0 : Int)) (r_assign rfl rfl) ?_
 refine HL_nil ?_
 refine HC_seq ?_
 refine cR ?_
 refine sR (.int .i64 x_2) (r_move rfl rfl) ?_
 refine sR (.bool (decide (x_2 < (2 : Int)))) (r_lss rfl rfl rfl) ?_
 refine HL_nil ?_
 refine HC_cond (t := (decide (x_2 < (2 : Int)))) rfl (fun hc => ?_) (fun hc => ?_)
 ·
  replace h := h.1 (of_decide_eq_true hc)
  clear hc
  refine cR ?_
  refine sR (.int .i64 x_2) (r_move rfl rfl) ?_
  refine sR (.int .u64 (IntKind.u64.wrap x_2)) (r_convInt rfl rfl underlying3 underlying38) ?_
  refine sR (.int .i64 n_3) (r_move rfl rfl) ?_
  refine sR (.int .i64 from_4) (r_move rfl rfl) ?_
  refine sR (.int .i64 (IntKind.i64.wrap (n_3 - from_4))) (r_sub rfl rfl rfl) ?_
  refine sR (.int .u64 (IntKind.u64.wrap (IntKind.i64.wrap (n_3 - from_4)))) (r_convInt rfl rfl underlying3 underlying31) ?_
  obtain ⟨hd19, h⟩ := h
  refine sR (.int .u64 (IntKind.u64.wrap ((IntKind.u64.wrap x_2) * 2 ^ (min (Int.toNat (IntKind.u64.wrap (IntKind.i64.wrap (n_3 - from_4)))) (IntKind.u64).bits)))) (r_shl rfl rfl rfl hd19) ?_
  refine sR (.int .u64 (IntKind.u64.wrap ((IntKind.u64.wrap x_2) * 2 ^ (min (Int.toNat (IntKind.u64.wrap (IntKind.i64.wrap (n_3 - from_4)))) (IntKind.u64).bits)))) (r_assign rfl rfl) ?_
  refine HL_nil ?_
  exact HC_ret (show endQ prog f89 R .ret _ _ from ⟨_, res1 rfl (rv_tmp rfl), h⟩)
 ·
  replace h := h.2 (of_decide_eq_false hc)
  clear hc
  refine HC_skip ?_
  refine HC_seq ?_
  refine HC_draw0 (by kernel_rfl) (fun hp => ?_)
  refine gU 0 (Sl.v counts_1) rfl (fun _ => r_move rfl rfl) hp ?_
  refine gU 1 (.int .i64 x_2) rfl (fun _ => r_move rfl rfl) hp ?_
  refine gU 2 (.int .i64 (IntKind.i64.wrap (x_2 - (2 : Int)))) rfl (fun _ => r_sub rfl rfl rfl) hp ?_
  obtain ⟨a23_, hb23, hl23, hu23, h⟩ := h
  refine gU 3 (.pointer (some (Addr.add a23_ (Int.toNat (IntKind.i64.wrap (x_2 - (2 : Int))) * 1)))) rfl (fun _ => w_indexAddr rfl rfl underlying104 sz38 hb23 hl23 hu23) hp ?_
  obtain ⟨v_24, hc24, h⟩ := h
  refine gR 4 (.int .u64 v_24) rfl (r_load1 rfl rfl underlying38 rfl hc24) hp (fun S4 q4 => ?_)
  replace hp := holdC (i := 4) (q4 _ (r_load1 rfl rfl underlying38 rfl hc24)) hp
  refine gU 5 (.pointer (some (Addr.mk b5 0 none))) rfl (fun _ => w_fieldAddr (a' := (Addr.mk b5 0 none)) rfl underlying28 rfl rfl sz26 rfl rfl) hp ?_
  obtain ⟨v_26, hc26, h⟩ := h
  refine gR 6 (Sl.v v_26) rfl (r_load1 rfl rfl underlying26 rfl hc26) hp (fun S6 q6 => ?_)
  replace hp := holdC (i := 6) (q6 _ (r_load1 rfl rfl underlying26 rfl hc26)) hp
  refine gU 7 (.int .i64 x_2) rfl (fun _ => r_move rfl rfl) hp ?_
  refine gU 8 (.int .i64 (IntKind.i64.wrap (x_2 - (2 : Int)))) rfl (fun _ => r_sub rfl rfl rfl) hp ?_
  obtain ⟨a29_, hb29, hl29, hu29, h⟩ := h
  refine gU 9 (.pointer (some (Addr.add a29_ (Int.toNat (IntKind.i64.wrap (x_2 - (2 : Int))) * 3)))) rfl (fun _ => w_indexAddr rfl rfl underlying26 sz72 hb29 hl29 hu29) hp ?_
  refine gU 10 (.pointer (some (Addr.add a29_ (Int.toNat (IntKind.i64.wrap (x_2 - (2 : Int))) * 3)))) rfl (fun _ => w_fieldAddr (a' := (Addr.add a29_ (Int.toNat (IntKind.i64.wrap (x_2 - (2 : Int))) * 3))) rfl underlying72 rfl rfl sz3 rfl rfl) hp ?_
  obtain ⟨v_31, hc31, h⟩ := h
  refine gR 11 (.int .i64 v_31) rfl (r_load1 rfl rfl underlying3 rfl hc31) hp (fun S11 q11 => ?_)
  replace hp := holdC (i := 11) (q11 _ (r_load1 rfl rfl underlying3 rfl hc31)) hp
  refine gU 12 (.int .i64 from_4) rfl (fun _ => r_move rfl rfl) hp ?_
  refine gU 13 (.int .i64 (IntKind.i64.wrap (v_31 - from_4))) rfl (fun _ => r_sub rfl rfl rfl) hp ?_
  refine gU 14 (.int .u64 (IntKind.u64.wrap (IntKind.i64.wrap (v_31 - from_4)))) rfl (fun _ => r_convInt rfl rfl underlying3 underlying31) hp ?_
  obtain ⟨hd35, h⟩ := h
  refine gU 15 (.int .u64 (IntKind.u64.wrap (v_24 * 2 ^ (min (Int.toNat (IntKind.u64.wrap (IntKind.i64.wrap (v_31 - from_4)))) (IntKind.u64).bits)))) rfl (fun _ => r_shl rfl rfl rfl hd35) hp ?_
  refine gU 16 (.int .u64 (IntKind.u64.wrap (v_24 * 2 ^ (min (Int.toNat (IntKind.u64.wrap (IntKind.i64.wrap (v_31 - from_4)))) (IntKind.u64).bits)))) rfl (fun _ => r_assign rfl rfl) hp ?_
  refine RG_done (by kernel_rfl) ?_
  exact HC_ret (show endQ prog f89 R .ret _ _ from ⟨_, res1 rfl (rv_tmp rfl), h⟩)

/- 90 koine.koineref02.In -/
def b90j1 (n_5 : Int) (R : Value → PH → Prop) (F : PH) : Prop :=
 R (.bool (decide (n_5 = (1 : Int)))) F
abbrev b90J1 (R : Value → PH → Prop) (E : En) (F : PH) : Prop := ∃ n_5 : Int, E 5 = (.int .i64 n_5) ∧ b90j1 n_5 R F
def b90L1 (N1 : Int → PH → Prop) (c_1 : Int) (b2 : Nat) (R : Value → PH → Prop) (n_5_1 : Int) (F : PH) : Prop :=
 (((1 : Int) < n_5_1 →
  ∃ v_12 : Sl, F.cell (Addr.mk b2 0 none) = some (Sl.v v_12) ∧
  ∃ a15_ : Addr, v_12.base = some a15_ ∧ 0 ≤ (IntKind.i64.wrap (n_5_1 - (2 : Int))) ∧ (IntKind.i64.wrap (n_5_1 - (2 : Int))) < (v_12.len : Int) ∧
  ∃ v_16 : Array Value, v_16.size = 3 ∧ F.row (Addr.add a15_ (Int.toNat (IntKind.i64.wrap (n_5_1 - (2 : Int))) * 3)) v_16 ∧
  ∀ b6, F b6 = none → atF (F.set b6 (.cells (#[.int .i64 0, .int .i64 0, .int .i64 0]) 72)) fun F =>
  v_16.size = 3 ∧ (∀ v ∈ v_16.toList, storable v) ∧ ∃ c e, F (Addr.mk b6 0 none).block = some (.cells c e (0, 0)) ∧ (Addr.mk b6 0 none).spot = none ∧ (Addr.mk b6 0 none).off + 3 ≤ c.size ∧
  atF (F.set (Addr.mk b6 0 none).block (.cells (wr c (Addr.mk b6 0 none).off v_16.toList) e)) fun F =>
  ∃ v_19 : Int, F.cell (Addr.mk b6 0 none) = some (.int .i64 v_19) ∧
  0 ≤ (IntKind.u64.wrap v_19) ∧ (((IntKind.u64.wrap ((BitVec.ofInt (IntKind.u64).bits (Int.fdiv c_1 (2 ^ (min (Int.toNat (IntKind.u64.wrap v_19)) (IntKind.u64).bits))) &&& BitVec.ofInt (IntKind.u64).bits (1 : Int)).toNat)) = (1 : Int) →
   ∃ v_25 : Int, F.cell (Addr.mk b6 2 none) = some (.int .i64 v_25) ∧
   N1 v_25 F) ∧
  (¬ ((IntKind.u64.wrap ((BitVec.ofInt (IntKind.u64).bits (Int.fdiv c_1 (2 ^ (min (Int.toNat (IntKind.u64.wrap v_19)) (IntKind.u64).bits))) &&& BitVec.ofInt (IntKind.u64).bits (1 : Int)).toNat)) = (1 : Int)) →
   ∃ v_27 : Int, F.cell (Addr.mk b6 1 none) = some (.int .i64 v_27) ∧
   N1 v_27 F))) ∧
 (¬ ((1 : Int) < n_5_1) →
  b90j1 n_5_1 R F))
def b90 (a_0 : Array Value) (c_1 : Int) (R : Value → PH → Prop) (F : PH) : Prop :=
 ∀ b2, F b2 = none → atF (F.set b2 (.cells a_0 28)) fun F =>
 ∃ v_8 : Int, F.cell (Addr.mk b2 1 none) = some (.int .i64 v_8) ∧
 (∃ (I1 : Nat → Int → PH → Prop) (m1 : Nat), I1 m1 v_8 F ∧ ∀ m1 n_5_1 F, I1 m1 n_5_1 F →
  b90L1 (fun n_5_1 F => ∃ m', m' < m1 ∧ I1 m' n_5_1 F) c_1 b2 R n_5_1 F)
theorem c90 {a_0 : Array Value} {c_1 : Int} {R : Value → PH → Prop} {F : PH} (h : b90 a_0 c_1 R F) : Spec prog 90 #[(.agg a_0), (.int .u64 c_1)] F R := by
 refine spec_of (args := [(.agg a_0), (.int .u64 c_1)]) func90 rfl ntmps90 rfl ?_
 unfold b90 at h
 refine cR ?_
 refine s_ef (k_box (cs := a_0) rfl rfl ?_)
 intro b2 hf_b2
 replace h := atE (h b2 hf_b2)
 refine sR (.bool false) (r_assign rfl rfl) ?_
 refine HL_nil ?_
 refine cR ?_
 refine sR (.pointer (some (Addr.mk b2 1 none))) (w_fieldAddr (a' := (Addr.mk b2 1 none)) rfl underlying28 rfl rfl sz3 rfl rfl) ?_
 obtain ⟨v_8, hc8, h⟩ := h
 refine sR (.int .i64 v_8) (r_load1 rfl rfl underlying3 rfl hc8) ?_
 refine sR (.int .i64 v_8) (r_assign rfl rfl) ?_
 refine HL_nil ?_
 refine HC_seqJ (b90J1 R) ?_ ?_
 ·
  clear h; rintro E F ⟨n_5, h5, h⟩
  unfold b90j1 at h
  refine cR ?_
  refine sR (.int .i64 n_5) (r_move rfl h5) ?_
  refine sR (.bool (decide (n_5 = (1 : Int)))) (w_eql rfl rfl) ?_
  refine sR (.bool (decide (n_5 = (1 : Int)))) (r_assign rfl rfl) ?_
  refine HL_nil ?_
  exact HC_ret (show endQ prog f90 R .ret _ _ from ⟨_, res1 rfl (rv_tmp rfl), h⟩)
 ·
  skip
  refine HC_block ?_
  obtain ⟨I1, m1, hI0, hr⟩ := h
  refine HC_loop (fun m1 E F => ∃ n_5_1 : Int, E 1 = (.int .u64 c_1) ∧ E 2 = (.pointer (some (Addr.mk b2 0 none))) ∧ E 5 = (.int .i64 n_5_1) ∧ I1 m1 n_5_1 F) m1 ⟨_, rfl, rfl, rfl, hI0⟩ ?_
  clear hI0; rintro m1 E F ⟨n_5_1, h1, h2, h5, hI⟩
  have h := hr m1 n_5_1 F hI
  clear hr hI
  unfold b90L1 at h
  refine HC_seq ?_
  refine cR ?_
  refine sR (.int .i64 n_5_1) (r_move rfl h5) ?_
  refine sR (.bool (decide ((1 : Int) < n_5_1))) (r_gtr rfl rfl rfl) ?_
  refine HL_nil ?_
  refine HC_cond (t := (decide ((1 : Int) < n_5_1))) rfl (fun hc => ?_) (fun hc => ?_)
  ·
   replace h := h.1 (of_decide_eq_true hc)
   clear hc
   refine HC_skip ?_
   refine HC_block ?_
   refine cR ?_
   refine sR (.pointer (some (Addr.mk b2 0 none))) (w_fieldAddr (a' := (Addr.mk b2 0 none)) h2 underlying28 rfl rfl sz26 rfl rfl) ?_
   obtain ⟨v_12, hc12, h⟩ := h
   refine sR (Sl.v v_12) (r_load1 rfl rfl underlying26 rfl hc12) ?_
   refine sR (.int .i64 n_5_1) (r_move rfl h5) ?_
   refine sR (.int .i64 (IntKind.i64.wrap (n_5_1 - (2 : Int)))) (r_sub rfl rfl rfl) ?_
   obtain ⟨a15_, hb15, hl15, hu15, h⟩ := h
   refine sR (.pointer (some (Addr.add a15_ (Int.toNat (IntKind.i64.wrap (n_5_1 - (2 : Int))) * 3)))) (w_indexAddr rfl rfl underlying26 sz72 hb15 hl15 hu15) ?_
   obtain ⟨v_16, hs16, hc16, h⟩ := h
   refine sR (.agg v_16) (w_loadN rfl underlying72 rfl sz72 hs16 hc16) ?_
   refine s_ef (k_alloc zr72 ?_)
   intro b6 hf_b6
   replace h := atE (h b6 hf_b6)
   refine s_ef0 (k_storeN (vs := v_16) rfl rfl sz72 (by decide) ?_)
   obtain ⟨hz1, hz2, c, e, hz3, hz4, hz5, h⟩ := h
   refine ⟨hz1, hz2, c, e, hz3, hz4, hz5, ?_⟩
   replace h := atE h
   refine HL_nil ?_
   refine cR ?_
   refine sR (.int .u64 c_1) (r_move rfl h1) ?_
   refine sR (.pointer (some (Addr.mk b6 0 none))) (w_fieldAddr (a' := (Addr.mk b6 0 none)) rfl underlying72 rfl rfl sz3 rfl rfl) ?_
   obtain ⟨v_19, hc19, h⟩ := h
   refine sR (.int .i64 v_19) (r_load1 rfl rfl underlying3 rfl hc19) ?_
   refine sR (.int .u64 (IntKind.u64.wrap v_19)) (r_convInt rfl rfl underlying3 underlying31) ?_
   obtain ⟨hd21, h⟩ := h
   refine sR (.int .u64 (Int.fdiv c_1 (2 ^ (min (Int.toNat (IntKind.u64.wrap v_19)) (IntKind.u64).bits)))) (r_shr rfl rfl rfl hd21) ?_
   refine sR (.int .u64 (IntKind.u64.wrap ((BitVec.ofInt (IntKind.u64).bits (Int.fdiv c_1 (2 ^ (min (Int.toNat (IntKind.u64.wrap v_19)) (IntKind.u64).bits))) &&& BitVec.ofInt (IntKind.u64).bits (1 : Int)).toNat))) (r_and rfl rfl rfl) ?_
   refine sR (.bool (decide ((IntKind.u64.wrap ((BitVec.ofInt (IntKind.u64).bits (Int.fdiv c_1 (2 ^ (min (Int.toNat (IntKind.u64.wrap v_19)) (IntKind.u64).bits))) &&& BitVec.ofInt (IntKind.u64).bits (1 : Int)).toNat)) = (1 : Int)))) (w_eql rfl rfl) ?_
   refine HL_nil ?_
   refine HC_cond (t := (decide ((IntKind.u64.wrap ((BitVec.ofInt (IntKind.u64).bits (Int.fdiv c_1 (2 ^ (min (Int.toNat (IntKind.u64.wrap v_19)) (IntKind.u64).bits))) &&& BitVec.ofInt (IntKind.u64).bits (1 : Int)).toNat)) = (1 : Int)))) rfl (fun hc => ?_) (fun hc => ?_)
   ·
    replace h := h.1 (of_decide_eq_true hc)
    clear hc
    refine HC_region ?_
    refine sR (.pointer (some (Addr.mk b6 2 none))) (w_fieldAddr (a' := (Addr.mk b6 2 none)) rfl underlying72 rfl rfl sz3 rfl rfl) ?_
    obtain ⟨v_25, hc25, h⟩ := h
    refine sR (.int .i64 v_25) (r_load1 rfl rfl underlying3 rfl hc25) ?_
    refine sR (.int .i64 v_25) (r_assign rfl rfl) ?_
    refine HL_nil ?_
    obtain ⟨m', hm, h⟩ := h
    exact ⟨m', hm, _, h1, h2, rfl, h⟩
   ·
    replace h := h.2 (of_decide_eq_false hc)
    clear hc
    refine HC_region ?_
    refine sR (.pointer (some (Addr.mk b6 1 none))) (w_fieldAddr (a' := (Addr.mk b6 1 none)) rfl underlying72 rfl rfl sz3 rfl rfl) ?_
    obtain ⟨v_27, hc27, h⟩ := h
    refine sR (.int .i64 v_27) (r_load1 rfl rfl underlying3 rfl hc27) ?_
    refine sR (.int .i64 v_27) (r_assign rfl rfl) ?_
    refine HL_nil ?_
    obtain ⟨m', hm, h⟩ := h
    exact ⟨m', hm, _, h1, h2, rfl, h⟩
  ·
   replace h := h.2 (of_decide_eq_false hc)
   clear hc
   refine HC_exit ?_
   show b90J1 R _ _
   exact ⟨_, h5, h⟩

end Go.Proofs.Ytafojmoeaneedaa
