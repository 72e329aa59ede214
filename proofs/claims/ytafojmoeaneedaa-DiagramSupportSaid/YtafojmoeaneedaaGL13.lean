/-
  What functions of the program do, in a clean form, each with the proof that its code does so. Printed by a program.
-/
import Derived.Test.YtafojmoeaneedaaGf
namespace Go.Proofs.Ytafojmoeaneedaa
open Go Go.Proofs.Try
set_option maxRecDepth 10000
set_option maxHeartbeats 4000000
/- 13 koine.koinelaw02.DiagramSupport -/
def b13j1 (v_12 : Bool) (v_16 : Sl) (at_6 : Int) (R : Value → PH → Prop) (F : PH) : Prop :=
  ((at_6 = (v_16.len : Int) →
    R (Value.bool v_12) F) ∧
  (¬ (at_6 = (v_16.len : Int)) →
    R (Value.bool false) F))
abbrev b13J1 (v_12 : Bool) (v_16 : Sl) (R : Value → PH → Prop) (E : En) (F : PH) : Prop := ∃ at_6 : Int, E 3 = (Value.bool v_12) ∧ E 5 = (Sl.v v_16) ∧ E 6 = (Value.int .i64 at_6) ∧ b13j1 v_12 v_16 at_6 R F
def b13j2 (N1 : Int → Int → PH → Prop) (v_12 : Bool) (b4 : Nat) (v_16 : Sl) (v_7 : Int) (at_6_2 : Int) (R : Value → PH → Prop) (F : PH) : Prop :=
  N1 at_6_2 (IntKind.i64.wrap (v_7 + (1 : Int))) F
abbrev b13J2 (N1 : Int → Int → PH → Prop) (v_12 : Bool) (b4 : Nat) (v_16 : Sl) (v_7 : Int) (R : Value → PH → Prop) (E : En) (F : PH) : Prop := ∃ at_6_2 : Int, E 3 = (Value.bool v_12) ∧ E 4 = (Value.pointer (some (Addr.mk b4 0 none))) ∧ E 5 = (Sl.v v_16) ∧ E 6 = (Value.int .i64 at_6_2) ∧ E 7 = (Value.int .i64 v_7) ∧ b13j2 N1 v_12 b4 v_16 v_7 at_6_2 R F
def b13L1 (N1 : Int → Int → PH → Prop) (v_12 : Bool) (b4 : Nat) (v_16 : Sl) (R : Value → PH → Prop) (at_6_1 : Int) (v_7 : Int) (F : PH) : Prop :=
  ((v_7 < (64 : Int) →
    ∃ v_22 : Array Value, v_22.size = 2 ∧ F.row (Addr.mk b4 0 none) v_22 ∧
    Spec prog 28 #[(Value.agg v_22), (Value.int .i64 v_7), (Value.bool true)] F fun v F => ∃ v_24 : Array Value, ∃ v_24_1 : Int, v = (Value.tuple #[(Value.agg v_24), (Value.int .i64 v_24_1)]) ∧
    ∀ b8, F b8 = none → atF (F.set b8 (.cells (#[Value.slice none 0 0, Value.int .i64 0]) 28)) fun F =>
    v_24.size = 2 ∧ (∀ v ∈ v_24.toList, storable v) ∧ ∃ c e, F (Addr.mk b8 0 none).block = some (.cells c e (0, 0)) ∧ (Addr.mk b8 0 none).spot = none ∧ (Addr.mk b8 0 none).off + 2 ≤ c.size ∧
    atF (F.set (Addr.mk b8 0 none).block (.cells (wr c (Addr.mk b8 0 none).off v_24.toList) e)) fun F =>
    ∃ v_28 : Array Value, v_28.size = 2 ∧ F.row (Addr.mk b4 0 none) v_28 ∧
    Spec prog 28 #[(Value.agg v_28), (Value.int .i64 v_7), (Value.bool false)] F fun v F => ∃ v_30 : Array Value, ∃ v_30_1 : Int, v = (Value.tuple #[(Value.agg v_30), (Value.int .i64 v_30_1)]) ∧
    ∀ b10, F b10 = none → atF (F.set b10 (.cells (#[Value.slice none 0 0, Value.int .i64 0]) 28)) fun F =>
    v_30.size = 2 ∧ (∀ v ∈ v_30.toList, storable v) ∧ ∃ c e, F (Addr.mk b10 0 none).block = some (.cells c e (0, 0)) ∧ (Addr.mk b10 0 none).spot = none ∧ (Addr.mk b10 0 none).off + 2 ≤ c.size ∧
    atF (F.set (Addr.mk b10 0 none).block (.cells (wr c (Addr.mk b10 0 none).off v_30.toList) e)) fun F =>
    ((v_24_1 ≠ (0 : Int) →
      R (Value.bool false) F) ∧
    (¬ (v_24_1 ≠ (0 : Int)) →
      ((v_30_1 ≠ (0 : Int) →
        R (Value.bool false) F) ∧
      (¬ (v_30_1 ≠ (0 : Int)) →
        ∃ v_39 : Array Value, v_39.size = 2 ∧ F.row (Addr.mk b8 0 none) v_39 ∧
        ∃ v_40 : Array Value, v_40.size = 2 ∧ F.row (Addr.mk b10 0 none) v_40 ∧
        Spec prog 24 #[(Value.agg v_39), (Value.agg v_40)] F fun v F => ∃ v_41 : Bool, v = (Value.bool v_41) ∧
        ((v_41 = true →
          b13j2 N1 v_12 b4 v_16 v_7 at_6_1 R F) ∧
        (v_41 = false →
          (((v_16.len : Int) ≤ at_6_1 →
            R (Value.bool false) F) ∧
          (¬ ((v_16.len : Int) ≤ at_6_1) →
            ∃ a49_ : Addr, v_16.base = some a49_ ∧ 0 ≤ at_6_1 ∧ at_6_1 < (v_16.len : Int) ∧
            ∃ v_50 : Int, F.cell (Addr.add a49_ (Int.toNat at_6_1 * 1)) = some (Value.int .i64 v_50) ∧
            ((v_50 ≠ v_7 →
              R (Value.bool false) F) ∧
            (¬ (v_50 ≠ v_7) →
              b13j2 N1 v_12 b4 v_16 v_7 (IntKind.i64.wrap (at_6_1 + (1 : Int))) R F))))))))))) ∧
  (¬ (v_7 < (64 : Int)) →
    b13j1 v_12 v_16 at_6_1 R F))
def b13 (s_0 : Array Value) (R : Value → PH → Prop) (F : PH) : Prop :=
  ∀ b1, F b1 = none → atF (F.set b1 (.cells s_0 24)) fun F =>
  Spec prog 15 #[] F fun v F => ∃ v_12 : Bool, v = (Value.bool v_12) ∧
  ∃ v_13 : Array Value, v_13.size = 2 ∧ F.row (Addr.mk b1 0 none) v_13 ∧
  Spec prog 16 #[(Value.agg v_13)] F fun v F => ∃ v_14 : Array Value, v = (Value.agg v_14) ∧
  ∀ b4, F b4 = none → atF (F.set b4 (.cells (#[Value.slice none 0 0, Value.int .i64 0]) 28)) fun F =>
  v_14.size = 2 ∧ (∀ v ∈ v_14.toList, storable v) ∧ ∃ c e, F (Addr.mk b4 0 none).block = some (.cells c e (0, 0)) ∧ (Addr.mk b4 0 none).spot = none ∧ (Addr.mk b4 0 none).off + 2 ≤ c.size ∧
  atF (F.set (Addr.mk b4 0 none).block (.cells (wr c (Addr.mk b4 0 none).off v_14.toList) e)) fun F =>
  ∃ v_15 : Array Value, v_15.size = 2 ∧ F.row (Addr.mk b4 0 none) v_15 ∧
  Spec prog 56 #[(Value.agg v_15)] F fun v F => ∃ v_16 : Sl, v = (Sl.v v_16) ∧
  (∃ (I1 : Nat → Int → Int → PH → Prop) (m1 : Nat), I1 m1 (0 : Int) (0 : Int) F ∧ ∀ m1 at_6_1 v_7 F, I1 m1 at_6_1 v_7 F →
    b13L1 (fun at_6_1 v_7 F => ∃ m', m' < m1 ∧ I1 m' at_6_1 v_7 F) v_12 b4 v_16 R at_6_1 v_7 F)
theorem c13 {s_0 : Array Value} {R : Value → PH → Prop} {F : PH} (h : b13 s_0 R F) : Spec prog 13 #[(Value.agg s_0)] F R := by
  refine spec_of (args := [(Value.agg s_0)]) func13 rfl ntmps13 rfl ?_
  unfold b13 at h
  refine HC_seq ?_
  refine HC_region ?_
  refine s_ef (k_box (cs := s_0) rfl rfl ?_)
  intro b1 hf_b1
  replace h := atE (h b1 hf_b1)
  refine s_rd (v := (Value.bool false)) (r_assign rfl rfl) ?_
  refine HL_nil ?_
  refine HC_seq ?_
  refine HC_region ?_
  refine s_ef (k_call (vs := []) cb15 evN (h.mono ?_))
  clear h; rintro v F ⟨v_12, rfl, h⟩
  refine s_rd (v := (Value.bool v_12)) (r_assign rfl rfl) ?_
  refine HL_nil ?_
  refine HC_seq ?_
  refine HC_region ?_
  obtain ⟨v_13, hs13, hc13, h⟩ := h
  refine s_rd (v := (Value.agg v_13)) (w_loadN rfl underlying24 rfl sz24 hs13 hc13) ?_
  refine s_ef (k_call (vs := [(Value.agg v_13)]) cb16 (evC rfl evN) (h.mono ?_))
  clear h; rintro v F ⟨v_14, rfl, h⟩
  refine s_ef (k_alloc zr28 ?_)
  intro b4 hf_b4
  replace h := atE (h b4 hf_b4)
  refine s_ef0 (k_storeN (vs := v_14) rfl rfl sz28 (by decide) ?_)
  obtain ⟨hz1, hz2, c, e, hz3, hz4, hz5, h⟩ := h
  refine ⟨hz1, hz2, c, e, hz3, hz4, hz5, ?_⟩
  replace h := atE h
  refine HL_nil ?_
  refine HC_seq ?_
  refine HC_region ?_
  obtain ⟨v_15, hs15, hc15, h⟩ := h
  refine s_rd (v := (Value.agg v_15)) (w_loadN rfl underlying28 rfl sz28 hs15 hc15) ?_
  refine s_ef (k_call (vs := [(Value.agg v_15)]) cb56 (evC rfl evN) (h.mono ?_))
  clear h; rintro v F ⟨v_16, rfl, h⟩
  refine s_rd (v := (Sl.v v_16)) (r_assign rfl rfl) ?_
  refine HL_nil ?_
  refine HC_seq ?_
  refine HC_region ?_
  refine s_rd (v := (Value.int .i64 (0 : Int))) (r_assign rfl rfl) ?_
  refine HL_nil ?_
  refine HC_seqJ (b13J1 v_12 v_16 R) ?_ ?_
  · clear h; rintro E F ⟨at_6, h3, h5, h6, h⟩
    unfold b13j1 at h
    refine HC_seq ?_
    refine HC_region ?_
    refine s_rd (v := (Value.int .i64 at_6)) (r_move rfl h6) ?_
    refine s_rd (v := (Sl.v v_16)) (r_move rfl h5) ?_
    refine s_rd (v := (Value.int .i64 (v_16.len : Int))) (r_lenSl rfl rfl underlying68) ?_
    refine s_rd (v := (Value.bool (decide (at_6 = (v_16.len : Int))))) (w_eql rfl rfl) ?_
    refine s_rd (v := (Value.bool (decide (at_6 = (v_16.len : Int))))) (r_move rfl rfl) ?_
    by_cases hc : at_6 = (v_16.len : Int)
    · replace h := h.1 hc
      refine HL_known (t := 59) (v := .bool true) (congrArg Value.bool (decide_eq_true hc)) ?_
      refine HL_known (t := 60) (v := .bool true) (congrArg Value.bool (decide_eq_true hc)) ?_
      refine s_rd (v := (Value.bool v_12)) (r_move rfl h3) ?_
      refine s_rd (v := (Value.bool v_12)) (r_pick rfl rfl (fun _ => rfl) (fun h => by cases h)) ?_
      refine s_rd (v := (Value.bool v_12)) (r_assign rfl rfl) ?_
      refine HL_nil ?_
      exact HC_ret (show endQ prog f13 R .ret _ _ from ⟨_, res1 rfl (rv_tmp rfl), h⟩)
    · replace h := h.2 hc
      refine HL_known (t := 59) (v := .bool false) (congrArg Value.bool (decide_eq_false hc)) ?_
      refine HL_known (t := 60) (v := .bool false) (congrArg Value.bool (decide_eq_false hc)) ?_
      refine s_skip ?_
      refine s_rd (v := (Value.bool false)) (r_pick rfl rfl (fun h => by cases h) (fun _ => rfl)) ?_
      refine s_rd (v := (Value.bool false)) (r_assign rfl rfl) ?_
      refine HL_nil ?_
      exact HC_ret (show endQ prog f13 R .ret _ _ from ⟨_, res1 rfl (rv_tmp rfl), h⟩)
  · skip
    refine HC_seq ?_
    refine HC_region ?_
    refine s_rd (v := (Value.int .i64 (0 : Int))) (r_assign rfl rfl) ?_
    refine HL_nil ?_
    refine HC_block ?_
    obtain ⟨I1, m1, hI0, hr⟩ := h
    refine HC_loop (fun m1 E F => ∃ at_6_1 : Int, ∃ v_7 : Int, E 3 = (Value.bool v_12) ∧ E 4 = (Value.pointer (some (Addr.mk b4 0 none))) ∧ E 5 = (Sl.v v_16) ∧ E 6 = (Value.int .i64 at_6_1) ∧ E 7 = (Value.int .i64 v_7) ∧ I1 m1 at_6_1 v_7 F) m1 ⟨_, _, rfl, rfl, rfl, rfl, rfl, hI0⟩ ?_
    clear hI0; rintro m1 E F ⟨at_6_1, v_7, h3, h4, h5, h6, h7, hI⟩
    have h := hr m1 at_6_1 v_7 F hI
    clear hr hI
    unfold b13L1 at h
    refine HC_seq ?_
    refine HC_seq ?_
    refine HC_region ?_
    refine s_rd (v := (Value.int .i64 v_7)) (r_move rfl h7) ?_
    refine s_rd (v := (Value.bool (decide (v_7 < (64 : Int))))) (r_lss rfl rfl rfl) ?_
    refine HL_nil ?_
    refine HC_cond (t := (decide (v_7 < (64 : Int)))) rfl (fun hc => ?_) (fun hc => ?_)
    · replace h := h.1 (of_decide_eq_true hc)
      clear hc
      refine HC_skip ?_
      refine HC_seqJ (b13J2 (fun at_6_1 v_7 F => ∃ m', m' < m1 ∧ I1 m' at_6_1 v_7 F) v_12 b4 v_16 v_7 R) ?_ ?_
      · clear h; rintro E F ⟨at_6_2, h3, h4, h5, h6, h7, h⟩
        unfold b13j2 at h
        refine HC_region ?_
        refine s_rd (v := (Value.int .i64 v_7)) (r_move rfl h7) ?_
        refine s_rd (v := (Value.int .i64 (IntKind.i64.wrap (v_7 + (1 : Int))))) (r_add rfl rfl rfl) ?_
        refine s_rd (v := (Value.int .i64 (IntKind.i64.wrap (v_7 + (1 : Int))))) (r_assign rfl rfl) ?_
        refine HL_nil ?_
        obtain ⟨m', hm, h⟩ := h
        exact ⟨m', hm, _, _, h3, h4, h5, h6, rfl, h⟩
      · skip
        refine HC_block ?_
        refine HC_seq ?_
        refine HC_region ?_
        obtain ⟨v_22, hs22, hc22, h⟩ := h
        refine s_rd (v := (Value.agg v_22)) (w_loadN h4 underlying28 rfl sz28 hs22 hc22) ?_
        refine s_rd (v := (Value.int .i64 v_7)) (r_move rfl h7) ?_
        refine s_ef (k_call (vs := [(Value.agg v_22), (Value.int .i64 v_7), (Value.bool true)]) cb28 (evC rfl (evC rfl (evC rfl evN))) (h.mono ?_))
        clear h; rintro v F ⟨v_24, v_24_1, rfl, h⟩
        refine s_rd (v := (Value.tuple #[(Value.agg v_24), (Value.int .i64 v_24_1)])) (r_move rfl rfl) ?_
        refine s_rd (v := (Value.agg v_24)) (r_extract rfl rfl rfl) ?_
        refine s_rd (v := (Value.int .i64 v_24_1)) (r_extract rfl rfl rfl) ?_
        refine s_ef (k_alloc zr28 ?_)
        intro b8 hf_b8
        replace h := atE (h b8 hf_b8)
        refine s_ef0 (k_storeN (vs := v_24) rfl rfl sz28 (by decide) ?_)
        obtain ⟨hz1, hz2, c, e, hz3, hz4, hz5, h⟩ := h
        refine ⟨hz1, hz2, c, e, hz3, hz4, hz5, ?_⟩
        replace h := atE h
        refine s_rd (v := (Value.int .i64 v_24_1)) (r_assign rfl rfl) ?_
        refine HL_nil ?_
        refine HC_seq ?_
        refine HC_region ?_
        obtain ⟨v_28, hs28, hc28, h⟩ := h
        refine s_rd (v := (Value.agg v_28)) (w_loadN h4 underlying28 rfl sz28 hs28 hc28) ?_
        refine s_rd (v := (Value.int .i64 v_7)) (r_move rfl h7) ?_
        refine s_ef (k_call (vs := [(Value.agg v_28), (Value.int .i64 v_7), (Value.bool false)]) cb28 (evC rfl (evC rfl (evC rfl evN))) (h.mono ?_))
        clear h; rintro v F ⟨v_30, v_30_1, rfl, h⟩
        refine s_rd (v := (Value.tuple #[(Value.agg v_30), (Value.int .i64 v_30_1)])) (r_move rfl rfl) ?_
        refine s_rd (v := (Value.agg v_30)) (r_extract rfl rfl rfl) ?_
        refine s_rd (v := (Value.int .i64 v_30_1)) (r_extract rfl rfl rfl) ?_
        refine s_ef (k_alloc zr28 ?_)
        intro b10 hf_b10
        replace h := atE (h b10 hf_b10)
        refine s_ef0 (k_storeN (vs := v_30) rfl rfl sz28 (by decide) ?_)
        obtain ⟨hz1, hz2, c, e, hz3, hz4, hz5, h⟩ := h
        refine ⟨hz1, hz2, c, e, hz3, hz4, hz5, ?_⟩
        replace h := atE h
        refine s_rd (v := (Value.int .i64 v_30_1)) (r_assign rfl rfl) ?_
        refine HL_nil ?_
        refine HC_seq ?_
        refine HC_seq ?_
        refine HC_region ?_
        refine s_rd (v := (Value.int .i64 v_24_1)) (r_move rfl rfl) ?_
        refine s_rd (v := (Value.bool (decide (v_24_1 ≠ (0 : Int))))) (w_neq rfl rfl) ?_
        refine s_rd (v := (Value.bool (decide (v_24_1 ≠ (0 : Int))))) (r_move rfl rfl) ?_
        by_cases hc : v_24_1 ≠ (0 : Int)
        · replace h := h.1 hc
          refine HL_known (t := 34) (v := .bool true) (congrArg Value.bool (decide_eq_true hc)) ?_
          refine HL_known (t := 35) (v := .bool true) (congrArg Value.bool (decide_eq_true hc)) ?_
          refine s_skip ?_
          refine s_skip ?_
          refine s_rd (v := (Value.bool true)) (r_pick rfl rfl (fun _ => rfl) (fun h => by cases h)) ?_
          refine HL_nil ?_
          refine HC_condT rfl ?_
          refine HC_seq ?_
          refine HC_region ?_
          refine s_rd (v := (Value.bool false)) (r_assign rfl rfl) ?_
          refine HL_nil ?_
          exact HC_ret (show endQ prog f13 R .ret _ _ from ⟨_, res1 rfl (rv_tmp rfl), h⟩)
        · replace h := h.2 hc
          refine HL_known (t := 34) (v := .bool false) (congrArg Value.bool (decide_eq_false hc)) ?_
          refine HL_known (t := 35) (v := .bool false) (congrArg Value.bool (decide_eq_false hc)) ?_
          refine s_rd (v := (Value.int .i64 v_30_1)) (r_move rfl rfl) ?_
          refine s_rd (v := (Value.bool (decide (v_30_1 ≠ (0 : Int))))) (w_neq rfl rfl) ?_
          refine s_rd (v := (Value.bool (decide (v_30_1 ≠ (0 : Int))))) (r_pick rfl rfl (fun h => by cases h) (fun _ => rfl)) ?_
          refine HL_nil ?_
          refine HC_cond (t := (decide (v_30_1 ≠ (0 : Int)))) rfl (fun hc => ?_) (fun hc => ?_)
          · replace h := h.1 (of_decide_eq_true hc)
            clear hc
            refine HC_seq ?_
            refine HC_region ?_
            refine s_rd (v := (Value.bool false)) (r_assign rfl rfl) ?_
            refine HL_nil ?_
            exact HC_ret (show endQ prog f13 R .ret _ _ from ⟨_, res1 rfl (rv_tmp rfl), h⟩)
          · replace h := h.2 (of_decide_eq_false hc)
            clear hc
            refine HC_skip ?_
            refine HC_seq ?_
            refine HC_seq ?_
            refine HC_region ?_
            obtain ⟨v_39, hs39, hc39, h⟩ := h
            refine s_rd (v := (Value.agg v_39)) (w_loadN rfl underlying28 rfl sz28 hs39 hc39) ?_
            obtain ⟨v_40, hs40, hc40, h⟩ := h
            refine s_rd (v := (Value.agg v_40)) (w_loadN rfl underlying28 rfl sz28 hs40 hc40) ?_
            refine s_ef (k_call (vs := [(Value.agg v_39), (Value.agg v_40)]) cb24 (evC rfl (evC rfl evN)) (h.mono ?_))
            clear h; rintro v F ⟨v_41, rfl, h⟩
            refine HL_nil ?_
            refine HC_cond (t := v_41) rfl (fun hc => ?_) (fun hc => ?_)
            · replace h := h.1 hc
              clear hc
              refine HC_exit ?_
              show b13J2 (fun at_6_1 v_7 F => ∃ m', m' < m1 ∧ I1 m' at_6_1 v_7 F) v_12 b4 v_16 v_7 R _ _
              exact ⟨_, h3, h4, h5, h6, h7, h⟩
            · replace h := h.2 hc
              clear hc
              refine HC_skip ?_
              refine HC_seq ?_
              refine HC_seq ?_
              refine HC_region ?_
              refine s_rd (v := (Value.int .i64 at_6_1)) (r_move rfl h6) ?_
              refine s_rd (v := (Sl.v v_16)) (r_move rfl h5) ?_
              refine s_rd (v := (Value.int .i64 (v_16.len : Int))) (r_lenSl rfl rfl underlying68) ?_
              refine s_rd (v := (Value.bool (decide ((v_16.len : Int) ≤ at_6_1)))) (r_geq rfl rfl rfl) ?_
              refine s_rd (v := (Value.bool (decide ((v_16.len : Int) ≤ at_6_1)))) (r_move rfl rfl) ?_
              by_cases hc : (v_16.len : Int) ≤ at_6_1
              · replace h := h.1 hc
                refine HL_known (t := 45) (v := .bool true) (congrArg Value.bool (decide_eq_true hc)) ?_
                refine HL_known (t := 46) (v := .bool true) (congrArg Value.bool (decide_eq_true hc)) ?_
                refine s_skip ?_
                refine s_skip ?_
                refine s_skip ?_
                refine s_skip ?_
                refine s_skip ?_
                refine s_skip ?_
                refine s_rd (v := (Value.bool true)) (r_pick rfl rfl (fun _ => rfl) (fun h => by cases h)) ?_
                refine HL_nil ?_
                refine HC_condT rfl ?_
                refine HC_seq ?_
                refine HC_region ?_
                refine s_rd (v := (Value.bool false)) (r_assign rfl rfl) ?_
                refine HL_nil ?_
                exact HC_ret (show endQ prog f13 R .ret _ _ from ⟨_, res1 rfl (rv_tmp rfl), h⟩)
              · replace h := h.2 hc
                refine HL_known (t := 45) (v := .bool false) (congrArg Value.bool (decide_eq_false hc)) ?_
                refine HL_known (t := 46) (v := .bool false) (congrArg Value.bool (decide_eq_false hc)) ?_
                refine s_rd (v := (Sl.v v_16)) (r_move rfl h5) ?_
                refine s_rd (v := (Value.int .i64 at_6_1)) (r_move rfl h6) ?_
                obtain ⟨a49_, hb49, hl49, hu49, h⟩ := h
                refine s_rd (v := (Value.pointer (some (Addr.add a49_ (Int.toNat at_6_1 * 1))))) (w_indexAddr rfl rfl underlying68 sz3 hb49 hl49 hu49) ?_
                obtain ⟨v_50, hc50, h⟩ := h
                refine s_rd (v := (Value.int .i64 v_50)) (r_load1 rfl rfl underlying3 rfl hc50) ?_
                refine s_rd (v := (Value.int .i64 v_7)) (r_move rfl h7) ?_
                refine s_rd (v := (Value.bool (decide (v_50 ≠ v_7)))) (w_neq rfl rfl) ?_
                refine s_rd (v := (Value.bool (decide (v_50 ≠ v_7)))) (r_pick rfl rfl (fun h => by cases h) (fun _ => rfl)) ?_
                refine HL_nil ?_
                refine HC_cond (t := (decide (v_50 ≠ v_7))) rfl (fun hc => ?_) (fun hc => ?_)
                · replace h := h.1 (of_decide_eq_true hc)
                  clear hc
                  refine HC_seq ?_
                  refine HC_region ?_
                  refine s_rd (v := (Value.bool false)) (r_assign rfl rfl) ?_
                  refine HL_nil ?_
                  exact HC_ret (show endQ prog f13 R .ret _ _ from ⟨_, res1 rfl (rv_tmp rfl), h⟩)
                · replace h := h.2 (of_decide_eq_false hc)
                  clear hc
                  refine HC_skip ?_
                  refine HC_region ?_
                  refine s_rd (v := (Value.int .i64 at_6_1)) (r_move rfl h6) ?_
                  refine s_rd (v := (Value.int .i64 (IntKind.i64.wrap (at_6_1 + (1 : Int))))) (r_add rfl rfl rfl) ?_
                  refine s_rd (v := (Value.int .i64 (IntKind.i64.wrap (at_6_1 + (1 : Int))))) (r_assign rfl rfl) ?_
                  refine HL_nil ?_
                  show b13J2 (fun at_6_1 v_7 F => ∃ m', m' < m1 ∧ I1 m' at_6_1 v_7 F) v_12 b4 v_16 v_7 R _ _
                  exact ⟨_, h3, h4, h5, rfl, h7, h⟩
    · replace h := h.2 (of_decide_eq_false hc)
      clear hc
      refine HC_exit ?_
      show b13J1 v_12 v_16 R _ _
      exact ⟨_, h3, h5, h6, h⟩

end Go.Proofs.Ytafojmoeaneedaa
