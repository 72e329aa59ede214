/-
  What functions of the program do, in a clean form, each with the proof that its code does so. Printed by a program.
-/
import Derived.Test.YtafojmoeaneedaaGf
namespace Go.Proofs.Ytafojmoeaneedaa
open Go Go.Proofs.Try
set_option maxRecDepth 10000
set_option maxHeartbeats 4000000
/- 7 koine.koinelaw02.DiagramLeast -/
def b7j1 (v_8 : Bool) (b4 : Nat) (v_13 : Int) (R : Value → PH → Prop) (F : PH) : Prop :=
  ∃ v_40 : Array Value, v_40.size = 2 ∧ F.row (Addr.mk b4 0 none) v_40 ∧
  Spec prog 21 #[(Value.agg v_40), (Value.int .u64 v_13)] F fun v F => ∃ v_42 : Bool, v = (Value.bool v_42) ∧
  ((v_42 = true →
    ((v_13 < (64 : Int) →
      R (Value.bool v_8) F) ∧
    (¬ (v_13 < (64 : Int)) →
      R (Value.bool false) F))) ∧
  (v_42 = false →
    R (Value.bool false) F))
abbrev b7J1 (v_8 : Bool) (b4 : Nat) (v_13 : Int) (R : Value → PH → Prop) (E : En) (F : PH) : Prop := E 3 = (Value.bool v_8) ∧ E 4 = (Value.pointer (some (Addr.mk b4 0 none))) ∧ E 5 = (Value.int .u64 v_13) ∧ b7j1 v_8 b4 v_13 R F
def b7L1 (N1 : Int → PH → Prop) (v_8 : Bool) (b4 : Nat) (v_13 : Int) (R : Value → PH → Prop) (k_7 : Int) (F : PH) : Prop :=
  ((k_7 < v_13 →
    ((k_7 < (64 : Int) →
      ∃ v_37 : Array Value, v_37.size = 2 ∧ F.row (Addr.mk b4 0 none) v_37 ∧
      Spec prog 21 #[(Value.agg v_37), (Value.int .u64 k_7)] F fun v F => ∃ v_39 : Bool, v = (Value.bool v_39) ∧
      ((v_39 = true →
        R (Value.bool false) F) ∧
      (v_39 = false →
        N1 (IntKind.u64.wrap (k_7 + (1 : Int))) F))) ∧
    (¬ (k_7 < (64 : Int)) →
      b7j1 v_8 b4 v_13 R F))) ∧
  (¬ (k_7 < v_13) →
    b7j1 v_8 b4 v_13 R F))
def b7 (s_0 : Array Value) (R : Value → PH → Prop) (F : PH) : Prop :=
  ∀ b1, F b1 = none → atF (F.set b1 (.cells s_0 24)) fun F =>
  Spec prog 15 #[] F fun v F => ∃ v_8 : Bool, v = (Value.bool v_8) ∧
  ∃ v_9 : Array Value, v_9.size = 2 ∧ F.row (Addr.mk b1 0 none) v_9 ∧
  Spec prog 16 #[(Value.agg v_9)] F fun v F => ∃ v_10 : Array Value, v = (Value.agg v_10) ∧
  ∀ b4, F b4 = none → atF (F.set b4 (.cells (#[Value.slice none 0 0, Value.int .i64 0]) 28)) fun F =>
  v_10.size = 2 ∧ (∀ v ∈ v_10.toList, storable v) ∧ ∃ c e, F (Addr.mk b4 0 none).block = some (.cells c e (0, 0)) ∧ (Addr.mk b4 0 none).spot = none ∧ (Addr.mk b4 0 none).off + 2 ≤ c.size ∧
  atF (F.set (Addr.mk b4 0 none).block (.cells (wr c (Addr.mk b4 0 none).off v_10.toList) e)) fun F =>
  ∃ v_12 : Array Value, v_12.size = 2 ∧ F.row (Addr.mk b4 0 none) v_12 ∧
  Spec prog 31 #[(Value.agg v_12)] F fun v F => ∃ v_13 : Int, ∃ v_13_1 : Bool, v = (Value.tuple #[(Value.int .u64 v_13), (Value.bool v_13_1)]) ∧
  (((!v_13_1) = true →
    ∃ v_18 : Array Value, v_18.size = 2 ∧ F.row (Addr.mk b4 0 none) v_18 ∧
    Spec prog 17 #[(Value.bool false)] F fun v F => ∃ v_19 : Array Value, v = (Value.agg v_19) ∧
    F.row (Addr.mk b4 0 none) v_18 ∧ Spec prog 24 #[(Value.agg v_18), (Value.agg v_19)] F fun v F => ∃ v_20 : Bool, v = (Value.bool v_20) ∧
    ((v_20 = true →
      ((v_13 = (0 : Int) →
        R (Value.bool v_8) F) ∧
      (¬ (v_13 = (0 : Int)) →
        R (Value.bool false) F))) ∧
    (v_20 = false →
      R (Value.bool false) F))) ∧
  ((!v_13_1) = false →
    (∃ (I1 : Nat → Int → PH → Prop) (m1 : Nat), I1 m1 (0 : Int) F ∧ ∀ m1 k_7 F, I1 m1 k_7 F →
      b7L1 (fun k_7 F => ∃ m', m' < m1 ∧ I1 m' k_7 F) v_8 b4 v_13 R k_7 F)))
theorem c7 {s_0 : Array Value} {R : Value → PH → Prop} {F : PH} (h : b7 s_0 R F) : Spec prog 7 #[(Value.agg s_0)] F R := by
  refine spec_of (args := [(Value.agg s_0)]) func7 rfl ntmps7 rfl ?_
  unfold b7 at h
  refine HC_seq ?_
  refine HC_region ?_
  refine s_ef (k_box (cs := s_0) rfl rfl ?_)
  intro b1 hf_b1
  replace h := atE (h b1 hf_b1)
  refine s_rd (v := (Value.bool false)) (r_assign rfl rfl) ?_
  refine HL_nil ?_
  refine HC_seq ?_
  refine HC_region ?_
  refine s_ef (k_call (vs := []) cb15 evN (h.mono ?_))
  clear h; rintro v F ⟨v_8, rfl, h⟩
  refine s_rd (v := (Value.bool v_8)) (r_assign rfl rfl) ?_
  refine HL_nil ?_
  refine HC_seq ?_
  refine HC_region ?_
  obtain ⟨v_9, hs9, hc9, h⟩ := h
  refine s_rd (v := (Value.agg v_9)) (w_loadN rfl underlying24 rfl sz24 hs9 hc9) ?_
  refine s_ef (k_call (vs := [(Value.agg v_9)]) cb16 (evC rfl evN) (h.mono ?_))
  clear h; rintro v F ⟨v_10, rfl, h⟩
  refine s_ef (k_alloc zr28 ?_)
  intro b4 hf_b4
  replace h := atE (h b4 hf_b4)
  refine s_ef0 (k_storeN (vs := v_10) rfl rfl sz28 (by decide) ?_)
  obtain ⟨hz1, hz2, c, e, hz3, hz4, hz5, h⟩ := h
  refine ⟨hz1, hz2, c, e, hz3, hz4, hz5, ?_⟩
  replace h := atE h
  refine HL_nil ?_
  refine HC_seq ?_
  refine HC_region ?_
  obtain ⟨v_12, hs12, hc12, h⟩ := h
  refine s_rd (v := (Value.agg v_12)) (w_loadN rfl underlying28 rfl sz28 hs12 hc12) ?_
  refine s_ef (k_call (vs := [(Value.agg v_12)]) cb31 (evC rfl evN) (h.mono ?_))
  clear h; rintro v F ⟨v_13, v_13_1, rfl, h⟩
  refine s_rd (v := (Value.tuple #[(Value.int .u64 v_13), (Value.bool v_13_1)])) (r_move rfl rfl) ?_
  refine s_rd (v := (Value.int .u64 v_13)) (r_extract rfl rfl rfl) ?_
  refine s_rd (v := (Value.bool v_13_1)) (r_extract rfl rfl rfl) ?_
  refine s_rd (v := (Value.int .u64 v_13)) (r_assign rfl rfl) ?_
  refine s_rd (v := (Value.bool v_13_1)) (r_assign rfl rfl) ?_
  refine HL_nil ?_
  refine HC_seq ?_
  refine HC_seq ?_
  refine HC_region ?_
  refine s_rd (v := (Value.bool v_13_1)) (r_move rfl rfl) ?_
  refine s_rd (v := (Value.bool (!v_13_1))) (r_not rfl rfl) ?_
  refine HL_nil ?_
  refine HC_cond (t := (!v_13_1)) rfl (fun hc => ?_) (fun hc => ?_)
  · replace h := h.1 hc
    clear hc
    refine HC_seq ?_
    refine HC_draw0 (by kernel_rfl) (fun hp => ?_)
    obtain ⟨v_18, hs18, hc18, h⟩ := h
    refine g_rd (i := 0) (v := (Value.agg v_18)) rfl (by kernel_rfl) (by kernel_rfl) (by kernel_rfl) (fun _ _ _ h => h) (w_loadN rfl underlying28 rfl sz28 hs18 hc18) hp (fun S0 q0 => ?_)
    replace hp := holdC (i := 0) (q0 _ (w_loadN rfl underlying28 rfl sz28 hs18 hc18)) hp
    refine RG_eff1 (i := 1) (by kernel_rfl) (g_op (Sp' := [(0, S0)]) rfl rfl (k_call (vs := [(Value.bool false)]) cb17 (evC rfl evN) (h.mono ?_)))
    clear h; rintro v F ⟨v_19, rfl, h⟩
    obtain ⟨hk_4, h⟩ := h
    refine holdI (holdC (i := 0) (q0 _ (w_loadN rfl underlying28 rfl sz28 hs18 hk_4)) hold0) (fun hp => ?_)
    refine RG_eff1 (i := 2) (by kernel_rfl) (g_op (Sp' := []) rfl rfl (k_call (vs := [(Value.agg v_18), (Value.agg v_19)]) cb24 (evC rfl (evC rfl evN)) (h.mono ?_)))
    clear h; rintro v F ⟨v_20, rfl, h⟩
    refine holdI hold0 (fun hp => ?_)
    refine g_pu (i := 3) (v := (Value.bool v_20)) rfl (by kernel_rfl) (by kernel_rfl) (by kernel_rfl) (fun _ _ _ h => h) (fun _ => r_move rfl rfl) hp ?_
    by_cases hc : v_20 = true
    · replace h := h.1 hc
      refine RG_known (t := 20) (v := .bool true) (congrArg Value.bool hc) ?_
      refine RG_known (t := 21) (v := .bool true) (congrArg Value.bool hc) ?_
      refine g_pu (i := 4) (v := (Value.int .u64 v_13)) rfl (by kernel_rfl) (by kernel_rfl) (by kernel_rfl) (fun _ _ _ h => h) (fun _ => r_move rfl rfl) hp ?_
      refine g_pu (i := 5) (v := (Value.bool (decide (v_13 = (0 : Int))))) rfl (by kernel_rfl) (by kernel_rfl) (by kernel_rfl) (fun _ _ _ h => h) (fun _ => w_eql rfl rfl) hp ?_
      refine g_pu (i := 6) (v := (Value.bool (decide (v_13 = (0 : Int))))) rfl (by kernel_rfl) (by kernel_rfl) (by kernel_rfl) (fun _ _ _ h => h) (fun _ => r_pick rfl rfl (fun _ => rfl) (fun h => by cases h)) hp ?_
      refine g_pu (i := 7) (v := (Value.bool (decide (v_13 = (0 : Int))))) rfl (by kernel_rfl) (by kernel_rfl) (by kernel_rfl) (fun _ _ _ h => h) (fun _ => r_move rfl rfl) hp ?_
      by_cases hc : v_13 = (0 : Int)
      · replace h := h.1 hc
        refine RG_known (t := 23) (v := .bool true) (congrArg Value.bool (decide_eq_true hc)) ?_
        refine RG_known (t := 24) (v := .bool true) (congrArg Value.bool (decide_eq_true hc)) ?_
        refine RG_known (t := 25) (v := .bool true) (congrArg Value.bool (decide_eq_true hc)) ?_
        refine g_pu (i := 8) (v := (Value.bool v_8)) rfl (by kernel_rfl) (by kernel_rfl) (by kernel_rfl) (fun _ _ _ h => h) (fun _ => r_move rfl rfl) hp ?_
        refine g_pu (i := 9) (v := (Value.bool v_8)) rfl (by kernel_rfl) (by kernel_rfl) (by kernel_rfl) (fun _ _ _ h => h) (fun _ => r_pick rfl rfl (fun _ => rfl) (fun h => by cases h)) hp ?_
        refine g_pu (i := 10) (v := (Value.bool v_8)) rfl (by kernel_rfl) (by kernel_rfl) (by kernel_rfl) (fun _ _ _ h => h) (fun _ => r_assign rfl rfl) hp ?_
        refine RG_done (by kernel_rfl) ?_
        exact HC_ret (show endQ prog f7 R .ret _ _ from ⟨_, res1 rfl (rv_tmp rfl), h⟩)
      · replace h := h.2 hc
        refine RG_known (t := 23) (v := .bool false) (congrArg Value.bool (decide_eq_false hc)) ?_
        refine RG_known (t := 24) (v := .bool false) (congrArg Value.bool (decide_eq_false hc)) ?_
        refine RG_known (t := 25) (v := .bool false) (congrArg Value.bool (decide_eq_false hc)) ?_
        refine g_skip (i := 8) rfl (by kernel_rfl) (by kernel_rfl) (by kernel_rfl) (fun _ _ _ h => h) hp ?_
        refine g_pu (i := 9) (v := (Value.bool false)) rfl (by kernel_rfl) (by kernel_rfl) (by kernel_rfl) (fun _ _ _ h => h) (fun _ => r_pick rfl rfl (fun h => by cases h) (fun _ => rfl)) hp ?_
        refine g_pu (i := 10) (v := (Value.bool false)) rfl (by kernel_rfl) (by kernel_rfl) (by kernel_rfl) (fun _ _ _ h => h) (fun _ => r_assign rfl rfl) hp ?_
        refine RG_done (by kernel_rfl) ?_
        exact HC_ret (show endQ prog f7 R .ret _ _ from ⟨_, res1 rfl (rv_tmp rfl), h⟩)
    · replace hc := eq_false_of_ne_true hc; replace h := h.2 hc
      refine RG_known (t := 20) (v := .bool false) (congrArg Value.bool hc) ?_
      refine RG_known (t := 21) (v := .bool false) (congrArg Value.bool hc) ?_
      refine g_skip (i := 4) rfl (by kernel_rfl) (by kernel_rfl) (by kernel_rfl) (fun _ _ _ h => h) hp ?_
      refine g_skip (i := 5) rfl (by kernel_rfl) (by kernel_rfl) (by kernel_rfl) (fun _ _ _ h => h) hp ?_
      refine g_pu (i := 6) (v := (Value.bool false)) rfl (by kernel_rfl) (by kernel_rfl) (by kernel_rfl) (fun _ _ _ h => h) (fun _ => r_pick rfl rfl (fun h => by cases h) (fun _ => rfl)) hp ?_
      refine g_pu (i := 7) (v := (Value.bool false)) rfl (by kernel_rfl) (by kernel_rfl) (by kernel_rfl) (fun _ _ _ h => h) (fun _ => r_move rfl rfl) hp ?_
      refine g_skip (i := 8) rfl (by kernel_rfl) (by kernel_rfl) (by kernel_rfl) (fun _ _ _ h => h) hp ?_
      refine g_pu (i := 9) (v := (Value.bool false)) rfl (by kernel_rfl) (by kernel_rfl) (by kernel_rfl) (fun _ _ _ h => h) (fun _ => r_pick rfl rfl (fun h => by cases h) (fun _ => rfl)) hp ?_
      refine g_pu (i := 10) (v := (Value.bool false)) rfl (by kernel_rfl) (by kernel_rfl) (by kernel_rfl) (fun _ _ _ h => h) (fun _ => r_assign rfl rfl) hp ?_
      refine RG_done (by kernel_rfl) ?_
      exact HC_ret (show endQ prog f7 R .ret _ _ from ⟨_, res1 rfl (rv_tmp rfl), h⟩)
  · replace h := h.2 hc
    clear hc
    refine HC_skip ?_
    refine HC_seqJ (b7J1 v_8 b4 v_13 R) ?_ ?_
    · clear h; rintro E F ⟨h3, h4, h5, h⟩
      unfold b7j1 at h
      refine HC_seq ?_
      refine HC_region ?_
      obtain ⟨v_40, hs40, hc40, h⟩ := h
      refine s_rd (v := (Value.agg v_40)) (w_loadN h4 underlying28 rfl sz28 hs40 hc40) ?_
      refine s_rd (v := (Value.int .u64 v_13)) (r_move rfl h5) ?_
      refine s_ef (k_call (vs := [(Value.agg v_40), (Value.int .u64 v_13)]) cb21 (evC rfl (evC rfl evN)) (h.mono ?_))
      clear h; rintro v F ⟨v_42, rfl, h⟩
      refine s_rd (v := (Value.bool v_42)) (r_move rfl rfl) ?_
      by_cases hc : v_42 = true
      · replace h := h.1 hc
        refine HL_known (t := 42) (v := .bool true) (congrArg Value.bool hc) ?_
        refine HL_known (t := 43) (v := .bool true) (congrArg Value.bool hc) ?_
        refine s_rd (v := (Value.int .u64 v_13)) (r_move rfl h5) ?_
        refine s_rd (v := (Value.bool (decide (v_13 < (64 : Int))))) (r_lss rfl rfl rfl) ?_
        refine s_rd (v := (Value.bool (decide (v_13 < (64 : Int))))) (r_pick rfl rfl (fun _ => rfl) (fun h => by cases h)) ?_
        refine s_rd (v := (Value.bool (decide (v_13 < (64 : Int))))) (r_move rfl rfl) ?_
        by_cases hc : v_13 < (64 : Int)
        · replace h := h.1 hc
          refine HL_known (t := 45) (v := .bool true) (congrArg Value.bool (decide_eq_true hc)) ?_
          refine HL_known (t := 46) (v := .bool true) (congrArg Value.bool (decide_eq_true hc)) ?_
          refine HL_known (t := 47) (v := .bool true) (congrArg Value.bool (decide_eq_true hc)) ?_
          refine s_rd (v := (Value.bool v_8)) (r_move rfl h3) ?_
          refine s_rd (v := (Value.bool v_8)) (r_pick rfl rfl (fun _ => rfl) (fun h => by cases h)) ?_
          refine s_rd (v := (Value.bool v_8)) (r_assign rfl rfl) ?_
          refine HL_nil ?_
          exact HC_ret (show endQ prog f7 R .ret _ _ from ⟨_, res1 rfl (rv_tmp rfl), h⟩)
        · replace h := h.2 hc
          refine HL_known (t := 45) (v := .bool false) (congrArg Value.bool (decide_eq_false hc)) ?_
          refine HL_known (t := 46) (v := .bool false) (congrArg Value.bool (decide_eq_false hc)) ?_
          refine HL_known (t := 47) (v := .bool false) (congrArg Value.bool (decide_eq_false hc)) ?_
          refine s_skip ?_
          refine s_rd (v := (Value.bool false)) (r_pick rfl rfl (fun h => by cases h) (fun _ => rfl)) ?_
          refine s_rd (v := (Value.bool false)) (r_assign rfl rfl) ?_
          refine HL_nil ?_
          exact HC_ret (show endQ prog f7 R .ret _ _ from ⟨_, res1 rfl (rv_tmp rfl), h⟩)
      · replace hc := eq_false_of_ne_true hc; replace h := h.2 hc
        refine HL_known (t := 42) (v := .bool false) (congrArg Value.bool hc) ?_
        refine HL_known (t := 43) (v := .bool false) (congrArg Value.bool hc) ?_
        refine s_skip ?_
        refine s_skip ?_
        refine s_rd (v := (Value.bool false)) (r_pick rfl rfl (fun h => by cases h) (fun _ => rfl)) ?_
        refine s_rd (v := (Value.bool false)) (r_move rfl rfl) ?_
        refine s_skip ?_
        refine s_rd (v := (Value.bool false)) (r_pick rfl rfl (fun h => by cases h) (fun _ => rfl)) ?_
        refine s_rd (v := (Value.bool false)) (r_assign rfl rfl) ?_
        refine HL_nil ?_
        exact HC_ret (show endQ prog f7 R .ret _ _ from ⟨_, res1 rfl (rv_tmp rfl), h⟩)
    · skip
      refine HC_seq ?_
      refine HC_region ?_
      refine s_rd (v := (Value.int .u64 (0 : Int))) (r_assign rfl rfl) ?_
      refine HL_nil ?_
      refine HC_block ?_
      obtain ⟨I1, m1, hI0, hr⟩ := h
      refine HC_loop (fun m1 E F => ∃ k_7 : Int, E 3 = (Value.bool v_8) ∧ E 4 = (Value.pointer (some (Addr.mk b4 0 none))) ∧ E 5 = (Value.int .u64 v_13) ∧ E 7 = (Value.int .u64 k_7) ∧ I1 m1 k_7 F) m1 ⟨_, rfl, rfl, rfl, rfl, hI0⟩ ?_
      clear hI0; rintro m1 E F ⟨k_7, h3, h4, h5, h7, hI⟩
      have h := hr m1 k_7 F hI
      clear hr hI
      unfold b7L1 at h
      refine HC_seq ?_
      refine HC_seq ?_
      refine HC_region ?_
      refine s_rd (v := (Value.int .u64 k_7)) (r_move rfl h7) ?_
      refine s_rd (v := (Value.int .u64 v_13)) (r_move rfl h5) ?_
      refine s_rd (v := (Value.bool (decide (k_7 < v_13)))) (r_lss rfl rfl rfl) ?_
      refine s_rd (v := (Value.bool (decide (k_7 < v_13)))) (r_move rfl rfl) ?_
      by_cases hc : k_7 < v_13
      · replace h := h.1 hc
        refine HL_known (t := 30) (v := .bool true) (congrArg Value.bool (decide_eq_true hc)) ?_
        refine HL_known (t := 31) (v := .bool true) (congrArg Value.bool (decide_eq_true hc)) ?_
        refine s_rd (v := (Value.int .u64 k_7)) (r_move rfl h7) ?_
        refine s_rd (v := (Value.bool (decide (k_7 < (64 : Int))))) (r_lss rfl rfl rfl) ?_
        refine s_rd (v := (Value.bool (decide (k_7 < (64 : Int))))) (r_pick rfl rfl (fun _ => rfl) (fun h => by cases h)) ?_
        refine HL_nil ?_
        refine HC_cond (t := (decide (k_7 < (64 : Int)))) rfl (fun hc => ?_) (fun hc => ?_)
        · replace h := h.1 (of_decide_eq_true hc)
          clear hc
          refine HC_skip ?_
          refine HC_seq ?_
          refine HC_block ?_
          refine HC_seq ?_
          refine HC_region ?_
          obtain ⟨v_37, hs37, hc37, h⟩ := h
          refine s_rd (v := (Value.agg v_37)) (w_loadN h4 underlying28 rfl sz28 hs37 hc37) ?_
          refine s_rd (v := (Value.int .u64 k_7)) (r_move rfl h7) ?_
          refine s_ef (k_call (vs := [(Value.agg v_37), (Value.int .u64 k_7)]) cb21 (evC rfl (evC rfl evN)) (h.mono ?_))
          clear h; rintro v F ⟨v_39, rfl, h⟩
          refine HL_nil ?_
          refine HC_cond (t := v_39) rfl (fun hc => ?_) (fun hc => ?_)
          · replace h := h.1 hc
            clear hc
            refine HC_seq ?_
            refine HC_region ?_
            refine s_rd (v := (Value.bool false)) (r_assign rfl rfl) ?_
            refine HL_nil ?_
            exact HC_ret (show endQ prog f7 R .ret _ _ from ⟨_, res1 rfl (rv_tmp rfl), h⟩)
          · replace h := h.2 hc
            clear hc
            refine HC_skip ?_
            refine HC_region ?_
            refine s_rd (v := (Value.int .u64 k_7)) (r_move rfl h7) ?_
            refine s_rd (v := (Value.int .u64 (IntKind.u64.wrap (k_7 + (1 : Int))))) (r_add rfl rfl rfl) ?_
            refine s_rd (v := (Value.int .u64 (IntKind.u64.wrap (k_7 + (1 : Int))))) (r_assign rfl rfl) ?_
            refine HL_nil ?_
            obtain ⟨m', hm, h⟩ := h
            exact ⟨m', hm, _, h3, h4, h5, rfl, h⟩
        · replace h := h.2 (of_decide_eq_false hc)
          clear hc
          refine HC_exit ?_
          show b7J1 v_8 b4 v_13 R _ _
          exact ⟨h3, h4, h5, h⟩
      · replace h := h.2 hc
        refine HL_known (t := 30) (v := .bool false) (congrArg Value.bool (decide_eq_false hc)) ?_
        refine HL_known (t := 31) (v := .bool false) (congrArg Value.bool (decide_eq_false hc)) ?_
        refine s_skip ?_
        refine s_skip ?_
        refine s_rd (v := (Value.bool false)) (r_pick rfl rfl (fun h => by cases h) (fun _ => rfl)) ?_
        refine HL_nil ?_
        refine HC_condF rfl ?_
        refine HC_exit ?_
        show b7J1 v_8 b4 v_13 R _ _
        exact ⟨h3, h4, h5, h⟩

end Go.Proofs.Ytafojmoeaneedaa
