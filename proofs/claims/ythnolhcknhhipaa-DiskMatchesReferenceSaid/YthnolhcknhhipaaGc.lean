/-
  What functions of the program do, in a clean form, each with the proof that its code does so. Printed by a program.
-/
import Derived.Test.YthnolhcknhhipaaGf
namespace Go.Proofs.Ythnolhcknhhipaa
open Go Go.Proofs.Try
set_option maxRecDepth 10000
/- 10 koine.koinelaw34.sanity -/
def b10j2 (v_18 : Option Addr) (v_47 : Sl) (v_54 : Sl) (bad_11 : Bool) (v_78 : Sl) (codes_16 : Bool) (R : Value → PH → Prop) (F : PH) : Prop :=
  ((codes_16 = true →
    ((bad_11 = true →
      Spec prog 18 #[(Sl.v v_47), (Sl.v v_54)] F fun v F => ∃ v_118 : Bool, v = (Value.bool v_118) ∧
      ((v_118 = true →
        Spec prog 15 #[(Value.int .u8 (97 : Int))] F fun v F => ∃ v_122 : Sl, v = (Sl.v v_122) ∧
        Spec prog 18 #[(Sl.v v_78), (Sl.v v_122)] F fun v F => ∃ v_123 : Bool, v = (Value.bool v_123) ∧
        ((v_123 = true →
          Spec prog 13 #[(Value.pointer v_18)] F fun v F => ∃ v_127 : Int, v = (Value.int .i64 v_127) ∧
          ((v_127 = (0 : Int) →
            Spec prog 25 #[(Value.pointer v_18)] F fun v F => ∃ v_132 : Int, v = (Value.int .i64 v_132) ∧
            R (Value.bool (decide (v_132 = (2 : Int)))) F) ∧
          (¬ (v_127 = (0 : Int)) →
            R (Value.bool false) F))) ∧
        (v_123 = false →
          R (Value.bool false) F))) ∧
      (v_118 = false →
        R (Value.bool false) F))) ∧
    (bad_11 = false →
      R (Value.bool false) F))) ∧
  (codes_16 = false →
    R (Value.bool false) F))
abbrev b10J2 (v_18 : Option Addr) (v_47 : Sl) (v_54 : Sl) (bad_11 : Bool) (v_78 : Sl) (R : Value → PH → Prop) (E : En) (F : PH) : Prop := ∃ codes_16 : Bool, E 1 = (Value.pointer v_18) ∧ E 8 = (Sl.v v_47) ∧ E 10 = (Sl.v v_54) ∧ E 11 = (Value.bool bad_11) ∧ E 14 = (Sl.v v_78) ∧ E 16 = (Value.bool codes_16) ∧ b10j2 v_18 v_47 v_54 bad_11 v_78 codes_16 R F
def b10j1 (v_18 : Option Addr) (v_29 : Int) (v_31 : Int) (v_34 : Int) (v_40_1 : Int) (v_47 : Sl) (v_47_1 : Int) (v_54 : Sl) (bad_11 : Bool) (R : Value → PH → Prop) (F : PH) : Prop :=
  Spec prog 15 #[(Value.int .u8 (97 : Int))] F fun v F => ∃ v_70 : Sl, v = (Sl.v v_70) ∧
  Spec prog 14 #[(Value.pointer v_18), (Value.int .i64 (1 : Int)), (Sl.v v_70)] F fun v F => ∃ v_71 : Int, v = (Value.int .i64 v_71) ∧
  Spec prog 17 #[(Value.pointer v_18)] F fun v F => ∃ v_73 : Int, v = (Value.int .i64 v_73) ∧
  Spec prog 20 #[(Value.pointer v_18)] F fun v F => v = Value.tuple #[] ∧
  Spec prog 16 #[(Value.pointer v_18), (Value.int .i64 (1 : Int))] F fun v F => ∃ v_78 : Sl, ∃ v_78_1 : Int, v = (Value.tuple #[(Sl.v v_78), (Value.int .i64 v_78_1)]) ∧
  ((v_29 = (0 : Int) →
    ((v_31 = (0 : Int) →
      ((v_34 = (0 : Int) →
        ((v_40_1 = (340 : Int) →
          ((v_47_1 = (0 : Int) →
            ((v_71 = (0 : Int) →
              ((v_73 = (340 : Int) →
                b10j2 v_18 v_47 v_54 bad_11 v_78 (decide (v_78_1 = (0 : Int))) R F) ∧
              (¬ (v_73 = (340 : Int)) →
                b10j2 v_18 v_47 v_54 bad_11 v_78 false R F))) ∧
            (¬ (v_71 = (0 : Int)) →
              b10j2 v_18 v_47 v_54 bad_11 v_78 false R F))) ∧
          (¬ (v_47_1 = (0 : Int)) →
            b10j2 v_18 v_47 v_54 bad_11 v_78 false R F))) ∧
        (¬ (v_40_1 = (340 : Int)) →
          b10j2 v_18 v_47 v_54 bad_11 v_78 false R F))) ∧
      (¬ (v_34 = (0 : Int)) →
        b10j2 v_18 v_47 v_54 bad_11 v_78 false R F))) ∧
    (¬ (v_31 = (0 : Int)) →
      b10j2 v_18 v_47 v_54 bad_11 v_78 false R F))) ∧
  (¬ (v_29 = (0 : Int)) →
    b10j2 v_18 v_47 v_54 bad_11 v_78 false R F))
abbrev b10J1 (v_18 : Option Addr) (v_29 : Int) (v_31 : Int) (v_34 : Int) (v_40_1 : Int) (v_47 : Sl) (v_47_1 : Int) (v_54 : Sl) (R : Value → PH → Prop) (E : En) (F : PH) : Prop := ∃ bad_11 : Bool, E 1 = (Value.pointer v_18) ∧ E 3 = (Value.int .i64 v_29) ∧ E 4 = (Value.int .i64 v_31) ∧ E 5 = (Value.int .i64 v_34) ∧ E 7 = (Value.int .i64 v_40_1) ∧ E 8 = (Sl.v v_47) ∧ E 9 = (Value.int .i64 v_47_1) ∧ E 10 = (Sl.v v_54) ∧ E 11 = (Value.bool bad_11) ∧ b10j1 v_18 v_29 v_31 v_34 v_40_1 v_47 v_47_1 v_54 bad_11 R F
def b10 (R : Value → PH → Prop) (F : PH) : Prop :=
  Spec prog 21 #[(Value.int .i64 (2 : Int))] F fun v F => ∃ v_18 : Option Addr, ∃ v_18_1 : Int, v = (Value.tuple #[(Value.pointer v_18), (Value.int .i64 v_18_1)]) ∧
  ((v_18_1 ≠ (0 : Int) →
    R (Value.bool false) F) ∧
  (¬ (v_18_1 ≠ (0 : Int)) →
    (((v_18.isNone) = true →
      R (Value.bool false) F) ∧
    ((v_18.isNone) = false →
      Spec prog 15 #[(Value.int .u8 (97 : Int))] F fun v F => ∃ v_28 : Sl, v = (Sl.v v_28) ∧
      Spec prog 14 #[(Value.pointer v_18), (Value.int .i64 (0 : Int)), (Sl.v v_28)] F fun v F => ∃ v_29 : Int, v = (Value.int .i64 v_29) ∧
      Spec prog 17 #[(Value.pointer v_18)] F fun v F => ∃ v_31 : Int, v = (Value.int .i64 v_31) ∧
      Spec prog 15 #[(Value.int .u8 (98 : Int))] F fun v F => ∃ v_33 : Sl, v = (Sl.v v_33) ∧
      Spec prog 14 #[(Value.pointer v_18), (Value.int .i64 (0 : Int)), (Sl.v v_33)] F fun v F => ∃ v_34 : Int, v = (Value.int .i64 v_34) ∧
      ∀ b36, F b36 = none → atF (F.set b36 (.cells #[(Value.int .i64 (3 : Int))] 3)) fun F =>
      Spec prog 19 #[(Value.pointer v_18), (Sl.v (Sl.mk (some (Addr.mk b36 0 none)) 1 1))] F fun v F => v = Value.tuple #[] ∧
      Spec prog 16 #[(Value.pointer v_18), (Value.int .i64 (0 : Int))] F fun v F => ∃ v_40 : Sl, ∃ v_40_1 : Int, v = (Value.tuple #[(Sl.v v_40), (Value.int .i64 v_40_1)]) ∧
      Spec prog 20 #[(Value.pointer v_18)] F fun v F => v = Value.tuple #[] ∧
      Spec prog 16 #[(Value.pointer v_18), (Value.int .i64 (0 : Int))] F fun v F => ∃ v_47 : Sl, ∃ v_47_1 : Int, v = (Value.tuple #[(Sl.v v_47), (Value.int .i64 v_47_1)]) ∧
      Spec prog 15 #[(Value.int .u8 (98 : Int))] F fun v F => ∃ v_50 : Sl, v = (Sl.v v_50) ∧
      0 ≤ (3 : Int) ∧ 0 ≤ (3 : Int) ∧ 0 ≤ Int.toNat (3 : Int) ∧ (3 : Int) ≤ (3 : Int) ∧ (3 : Int) ≤ (v_50.cap : Int) ∧ 
      Spec prog 15 #[(Value.int .u8 (97 : Int))] F fun v F => ∃ v_52 : Sl, v = (Sl.v v_52) ∧
      0 ≤ 61 ∧ 61 ≤ v_52.cap ∧ 
      runs prog (Builtin.append_ #[26, 26] 26 #[(Sl.v (Sl.cut v_50 1 0 (Int.toNat (3 : Int)) (Int.toNat (3 : Int)))), (Sl.v (Sl.cut v_52 1 0 61 v_52.cap))]) F fun v F => ∃ v_54 : Sl, v = (Sl.v v_54) ∧
      ∀ b56, F b56 = none → atF (F.set b56 (.cells #[(Value.int .i64 (64 : Int))] 3)) fun F =>
      Spec prog 29 #[(Value.pointer v_18), (Value.int .i64 (2 : Int)), (Sl.v (Sl.mk (some (Addr.mk b56 0 none)) 1 1))] F fun v F => v = Value.tuple #[] ∧
      Spec prog 15 #[(Value.int .u8 (97 : Int))] F fun v F => ∃ v_59 : Sl, v = (Sl.v v_59) ∧
      Spec prog 14 #[(Value.pointer v_18), (Value.int .i64 (2 : Int)), (Sl.v v_59)] F fun v F => ∃ v_60 : Int, v = (Value.int .i64 v_60) ∧
      ((v_60 = (1 : Int) →
        Spec prog 15 #[(Value.int .u8 (97 : Int))] F fun v F => ∃ v_64 : Sl, v = (Sl.v v_64) ∧
        0 ≤ 63 ∧ 63 ≤ v_64.cap ∧ 
        Spec prog 14 #[(Value.pointer v_18), (Value.int .i64 (0 : Int)), (Sl.v (Sl.cut v_64 1 0 63 v_64.cap))] F fun v F => ∃ v_66 : Int, v = (Value.int .i64 v_66) ∧
        b10j1 v_18 v_29 v_31 v_34 v_40_1 v_47 v_47_1 v_54 (decide (v_66 = (1 : Int))) R F) ∧
      (¬ (v_60 = (1 : Int)) →
        b10j1 v_18 v_29 v_31 v_34 v_40_1 v_47 v_47_1 v_54 false R F))))))
theorem c10 {R : Value → PH → Prop} {F : PH} (h : b10 R F) : Spec prog 10 #[] F R := by
  refine spec_of (args := []) func10 rfl ntmps10 rfl ?_
  unfold b10 at h
  refine HC_seq ?_
  refine HC_region ?_
  refine s_rd (v := (Value.bool false)) (r_assign rfl rfl) ?_
  refine HL_nil ?_
  refine HC_seq ?_
  refine HC_region ?_
  refine s_ef (k_call (vs := [(Value.int .i64 (2 : Int))]) cb21 (evC rfl evN) (h.mono ?_))
  clear h; rintro v F ⟨v_18, v_18_1, rfl, h⟩
  refine s_rd (v := (Value.tuple #[(Value.pointer v_18), (Value.int .i64 v_18_1)])) (r_move rfl rfl) ?_
  refine s_rd (v := (Value.pointer v_18)) (r_extract rfl rfl rfl) ?_
  refine s_rd (v := (Value.int .i64 v_18_1)) (r_extract rfl rfl rfl) ?_
  refine s_rd (v := (Value.pointer v_18)) (r_assign rfl rfl) ?_
  refine s_rd (v := (Value.int .i64 v_18_1)) (r_assign rfl rfl) ?_
  refine HL_nil ?_
  refine HC_seq ?_
  refine HC_seq ?_
  refine HC_region ?_
  refine s_rd (v := (Value.int .i64 v_18_1)) (r_move rfl rfl) ?_
  refine s_rd (v := (Value.bool (decide (v_18_1 ≠ (0 : Int))))) (w_neq rfl rfl) ?_
  refine s_rd (v := (Value.bool (decide (v_18_1 ≠ (0 : Int))))) (r_move rfl rfl) ?_
  by_cases hc : v_18_1 ≠ (0 : Int)
  · replace h := h.1 hc
    refine HL_known (t := 22) (v := .bool true) (congrArg Value.bool (decide_eq_true hc)) ?_
    refine HL_known (t := 23) (v := .bool true) (congrArg Value.bool (decide_eq_true hc)) ?_
    refine s_skip ?_
    refine s_skip ?_
    refine s_rd (v := (Value.bool true)) (r_pick rfl rfl (fun _ => rfl) (fun h => by cases h)) ?_
    refine HL_nil ?_
    refine HC_condT rfl ?_
    refine HC_seq ?_
    refine HC_region ?_
    refine s_rd (v := (Value.bool false)) (r_assign rfl rfl) ?_
    refine HL_nil ?_
    exact HC_ret (show endQ prog f10 R .ret _ _ from ⟨_, res1 rfl (rv_tmp rfl), h⟩)
  · replace h := h.2 hc
    refine HL_known (t := 22) (v := .bool false) (congrArg Value.bool (decide_eq_false hc)) ?_
    refine HL_known (t := 23) (v := .bool false) (congrArg Value.bool (decide_eq_false hc)) ?_
    refine s_rd (v := (Value.pointer v_18)) (r_move rfl rfl) ?_
    refine s_rd (v := (Value.bool (v_18.isNone))) (r_eqlNil rfl rfl rfl underlying24) ?_
    refine s_rd (v := (Value.bool (v_18.isNone))) (r_pick rfl rfl (fun h => by cases h) (fun _ => rfl)) ?_
    refine HL_nil ?_
    refine HC_cond (t := (v_18.isNone)) rfl (fun hc => ?_) (fun hc => ?_)
    · replace h := h.1 hc
      clear hc
      refine HC_seq ?_
      refine HC_region ?_
      refine s_rd (v := (Value.bool false)) (r_assign rfl rfl) ?_
      refine HL_nil ?_
      exact HC_ret (show endQ prog f10 R .ret _ _ from ⟨_, res1 rfl (rv_tmp rfl), h⟩)
    · replace h := h.2 hc
      clear hc
      refine HC_skip ?_
      refine HC_seq ?_
      refine HC_region ?_
      refine s_rd (v := (Value.pointer v_18)) (r_move rfl rfl) ?_
      refine s_ef (k_call (vs := [(Value.int .u8 (97 : Int))]) cb15 (evC rfl evN) (h.mono ?_))
      clear h; rintro v F ⟨v_28, rfl, h⟩
      refine s_ef (k_call (vs := [(Value.pointer v_18), (Value.int .i64 (0 : Int)), (Sl.v v_28)]) cb14 (evC rfl (evC rfl (evC rfl evN))) (h.mono ?_))
      clear h; rintro v F ⟨v_29, rfl, h⟩
      refine s_rd (v := (Value.int .i64 v_29)) (r_assign rfl rfl) ?_
      refine HL_nil ?_
      refine HC_seq ?_
      refine HC_region ?_
      refine s_rd (v := (Value.pointer v_18)) (r_move rfl rfl) ?_
      refine s_ef (k_call (vs := [(Value.pointer v_18)]) cb17 (evC rfl evN) (h.mono ?_))
      clear h; rintro v F ⟨v_31, rfl, h⟩
      refine s_rd (v := (Value.int .i64 v_31)) (r_assign rfl rfl) ?_
      refine HL_nil ?_
      refine HC_seq ?_
      refine HC_region ?_
      refine s_rd (v := (Value.pointer v_18)) (r_move rfl rfl) ?_
      refine s_ef (k_call (vs := [(Value.int .u8 (98 : Int))]) cb15 (evC rfl evN) (h.mono ?_))
      clear h; rintro v F ⟨v_33, rfl, h⟩
      refine s_ef (k_call (vs := [(Value.pointer v_18), (Value.int .i64 (0 : Int)), (Sl.v v_33)]) cb14 (evC rfl (evC rfl (evC rfl evN))) (h.mono ?_))
      clear h; rintro v F ⟨v_34, rfl, h⟩
      refine s_rd (v := (Value.int .i64 v_34)) (r_assign rfl rfl) ?_
      refine HL_nil ?_
      refine HC_seq ?_
      refine HC_region ?_
      refine s_rd (v := (Value.pointer v_18)) (r_move rfl rfl) ?_
      refine s_ef (k_buildSeq (l := [(Value.int .i64 (3 : Int))]) underlying37 sz3 (by decide) zr3 rfl rfl ⟨rfl, trivial⟩ (evPC rfl evPN) ?_)
      intro b36 hf_b36
      replace h := atE (h b36 hf_b36)
      refine s_ef (k_call (vs := [(Value.pointer v_18), (Sl.v (Sl.mk (some (Addr.mk b36 0 none)) 1 1))]) cb19 (evC rfl (evC rfl evN)) (h.mono ?_))
      clear h; rintro v F ⟨rfl, h⟩
      refine HL_nil ?_
      refine HC_seq ?_
      refine HC_region ?_
      refine s_rd (v := (Value.pointer v_18)) (r_move rfl rfl) ?_
      refine s_ef (k_call (vs := [(Value.pointer v_18), (Value.int .i64 (0 : Int))]) cb16 (evC rfl (evC rfl evN)) (h.mono ?_))
      clear h; rintro v F ⟨v_40, v_40_1, rfl, h⟩
      refine s_rd (v := (Value.tuple #[(Sl.v v_40), (Value.int .i64 v_40_1)])) (r_move rfl rfl) ?_
      refine s_rd (v := (Sl.v v_40)) (r_extract rfl rfl rfl) ?_
      refine s_rd (v := (Value.int .i64 v_40_1)) (r_extract rfl rfl rfl) ?_
      refine s_rd (v := (Sl.v v_40)) (r_assign rfl rfl) ?_
      refine s_rd (v := (Value.int .i64 v_40_1)) (r_assign rfl rfl) ?_
      refine HL_nil ?_
      refine HC_seq ?_
      refine HC_region ?_
      refine s_rd (v := (Value.pointer v_18)) (r_move rfl rfl) ?_
      refine s_ef (k_call (vs := [(Value.pointer v_18)]) cb20 (evC rfl evN) (h.mono ?_))
      clear h; rintro v F ⟨rfl, h⟩
      refine HL_nil ?_
      refine HC_seq ?_
      refine HC_region ?_
      refine s_rd (v := (Value.pointer v_18)) (r_move rfl rfl) ?_
      refine s_ef (k_call (vs := [(Value.pointer v_18), (Value.int .i64 (0 : Int))]) cb16 (evC rfl (evC rfl evN)) (h.mono ?_))
      clear h; rintro v F ⟨v_47, v_47_1, rfl, h⟩
      refine s_rd (v := (Value.tuple #[(Sl.v v_47), (Value.int .i64 v_47_1)])) (r_move rfl rfl) ?_
      refine s_rd (v := (Sl.v v_47)) (r_extract rfl rfl rfl) ?_
      refine s_rd (v := (Value.int .i64 v_47_1)) (r_extract rfl rfl rfl) ?_
      refine s_rd (v := (Sl.v v_47)) (r_assign rfl rfl) ?_
      refine s_rd (v := (Value.int .i64 v_47_1)) (r_assign rfl rfl) ?_
      refine HL_nil ?_
      refine HC_seq ?_
      refine HC_draw0 (by kernel_rfl) (fun hp => ?_)
      refine RG_eff1 (i := 0) (by kernel_rfl) (g_op (Sp' := []) rfl rfl (k_call (vs := [(Value.int .u8 (98 : Int))]) cb15 (evC rfl evN) (h.mono ?_)))
      clear h; rintro v F ⟨v_50, rfl, h⟩
      refine holdI hold0 (fun hp => ?_)
      obtain ⟨hr51_0, hr51_1, hr51_2, hr51_3, hr51_4, h⟩ := h
      refine g_pu (i := 1) (v := (Sl.v (Sl.cut v_50 1 0 (Int.toNat (3 : Int)) (Int.toNat (3 : Int))))) rfl (by kernel_rfl) (by kernel_rfl) (by kernel_rfl) (fun _ _ _ h => h) (fun _ => r_sliceSl3 rfl rfl underlying26 sz5 bo_none rfl rfl hr51_0 hr51_1 hr51_2 hr51_3 hr51_4) hp ?_
      refine RG_eff1 (i := 2) (by kernel_rfl) (g_op (Sp' := []) rfl rfl (k_call (vs := [(Value.int .u8 (97 : Int))]) cb15 (evC rfl evN) (h.mono ?_)))
      clear h; rintro v F ⟨v_52, rfl, h⟩
      refine holdI hold0 (fun hp => ?_)
      obtain ⟨hr53_0, hr53_1, h⟩ := h
      refine g_pu (i := 3) (v := (Sl.v (Sl.cut v_52 1 0 61 v_52.cap))) rfl (by kernel_rfl) (by kernel_rfl) (by kernel_rfl) (fun _ _ _ h => h) (fun _ => r_sliceSl rfl rfl underlying26 sz5 bo_none (bo_ev (i := 61) rfl (by decide)) hr53_0 hr53_1) hp ?_
      refine RG_eff1 (i := 4) (by kernel_rfl) (g_op (Sp' := []) rfl rfl (k_append rfl rfl (runs_mono _ _ h ?_)))
      clear h; rintro v F ⟨v_54, rfl, h⟩
      refine holdI hold0 (fun hp => ?_)
      refine g_pu (i := 5) (v := (Sl.v v_54)) rfl (by kernel_rfl) (by kernel_rfl) (by kernel_rfl) (fun _ _ _ h => h) (fun _ => r_assign rfl rfl) hp ?_
      refine RG_done (by kernel_rfl) ?_
      refine HC_seq ?_
      refine HC_region ?_
      refine s_rd (v := (Value.pointer v_18)) (r_move rfl rfl) ?_
      refine s_ef (k_buildSeq (l := [(Value.int .i64 (64 : Int))]) underlying37 sz3 (by decide) zr3 rfl rfl ⟨rfl, trivial⟩ (evPC rfl evPN) ?_)
      intro b56 hf_b56
      replace h := atE (h b56 hf_b56)
      refine s_ef (k_call (vs := [(Value.pointer v_18), (Value.int .i64 (2 : Int)), (Sl.v (Sl.mk (some (Addr.mk b56 0 none)) 1 1))]) cb29 (evC rfl (evC rfl (evC rfl evN))) (h.mono ?_))
      clear h; rintro v F ⟨rfl, h⟩
      refine HL_nil ?_
      refine HC_seqJ (b10J1 v_18 v_29 v_31 v_34 v_40_1 v_47 v_47_1 v_54 R) ?_ ?_
      · clear h; rintro E F ⟨bad_11, h1, h3, h4, h5, h7, h8, h9, h10, h11, h⟩
        unfold b10j1 at h
        refine HC_seq ?_
        refine HC_region ?_
        refine s_rd (v := (Value.pointer v_18)) (r_move rfl h1) ?_
        refine s_ef (k_call (vs := [(Value.int .u8 (97 : Int))]) cb15 (evC rfl evN) (h.mono ?_))
        clear h; rintro v F ⟨v_70, rfl, h⟩
        refine s_ef (k_call (vs := [(Value.pointer v_18), (Value.int .i64 (1 : Int)), (Sl.v v_70)]) cb14 (evC rfl (evC rfl (evC rfl evN))) (h.mono ?_))
        clear h; rintro v F ⟨v_71, rfl, h⟩
        refine s_rd (v := (Value.int .i64 v_71)) (r_assign rfl rfl) ?_
        refine HL_nil ?_
        refine HC_seq ?_
        refine HC_region ?_
        refine s_rd (v := (Value.pointer v_18)) (r_move rfl h1) ?_
        refine s_ef (k_call (vs := [(Value.pointer v_18)]) cb17 (evC rfl evN) (h.mono ?_))
        clear h; rintro v F ⟨v_73, rfl, h⟩
        refine s_rd (v := (Value.int .i64 v_73)) (r_assign rfl rfl) ?_
        refine HL_nil ?_
        refine HC_seq ?_
        refine HC_region ?_
        refine s_rd (v := (Value.pointer v_18)) (r_move rfl h1) ?_
        refine s_ef (k_call (vs := [(Value.pointer v_18)]) cb20 (evC rfl evN) (h.mono ?_))
        clear h; rintro v F ⟨rfl, h⟩
        refine HL_nil ?_
        refine HC_seq ?_
        refine HC_region ?_
        refine s_rd (v := (Value.pointer v_18)) (r_move rfl h1) ?_
        refine s_ef (k_call (vs := [(Value.pointer v_18), (Value.int .i64 (1 : Int))]) cb16 (evC rfl (evC rfl evN)) (h.mono ?_))
        clear h; rintro v F ⟨v_78, v_78_1, rfl, h⟩
        refine s_rd (v := (Value.tuple #[(Sl.v v_78), (Value.int .i64 v_78_1)])) (r_move rfl rfl) ?_
        refine s_rd (v := (Sl.v v_78)) (r_extract rfl rfl rfl) ?_
        refine s_rd (v := (Value.int .i64 v_78_1)) (r_extract rfl rfl rfl) ?_
        refine s_rd (v := (Sl.v v_78)) (r_assign rfl rfl) ?_
        refine s_rd (v := (Value.int .i64 v_78_1)) (r_assign rfl rfl) ?_
        refine HL_nil ?_
        refine HC_seqJ (b10J2 v_18 v_47 v_54 bad_11 v_78 R) ?_ ?_
        · clear h; rintro E F ⟨codes_16, h1, h8, h10, h11, h14, h16, h⟩
          unfold b10j2 at h
          refine HC_seq ?_
          refine HC_region ?_
          refine s_rd (v := (Value.bool codes_16)) (r_move rfl h16) ?_
          refine s_rd (v := (Value.bool codes_16)) (r_move rfl rfl) ?_
          by_cases hc : codes_16 = true
          · replace h := h.1 hc
            refine HL_known (t := 16) (v := .bool true) (h16.trans (congrArg Value.bool hc)) ?_
            refine HL_known (t := 111) (v := .bool true) (congrArg Value.bool hc) ?_
            refine HL_known (t := 112) (v := .bool true) (congrArg Value.bool hc) ?_
            refine s_rd (v := (Value.bool bad_11)) (r_move rfl h11) ?_
            refine s_rd (v := (Value.bool bad_11)) (r_pick rfl rfl (fun _ => rfl) (fun h => by cases h)) ?_
            refine s_rd (v := (Value.bool bad_11)) (r_move rfl rfl) ?_
            by_cases hc : bad_11 = true
            · replace h := h.1 hc
              refine HL_known (t := 11) (v := .bool true) (h11.trans (congrArg Value.bool hc)) ?_
              refine HL_known (t := 113) (v := .bool true) (congrArg Value.bool hc) ?_
              refine HL_known (t := 114) (v := .bool true) (congrArg Value.bool hc) ?_
              refine HL_known (t := 115) (v := .bool true) (congrArg Value.bool hc) ?_
              refine s_rd (v := (Sl.v v_47)) (r_move rfl h8) ?_
              refine s_rd (v := (Sl.v v_54)) (r_move rfl h10) ?_
              refine s_ef (k_call (vs := [(Sl.v v_47), (Sl.v v_54)]) cb18 (evC rfl (evC rfl evN)) (h.mono ?_))
              clear h; rintro v F ⟨v_118, rfl, h⟩
              refine s_rd (v := (Value.bool v_118)) (r_pick rfl rfl (fun _ => rfl) (fun h => by cases h)) ?_
              refine s_rd (v := (Value.bool v_118)) (r_move rfl rfl) ?_
              by_cases hc : v_118 = true
              · replace h := h.1 hc
                refine HL_known (t := 118) (v := .bool true) (congrArg Value.bool hc) ?_
                refine HL_known (t := 119) (v := .bool true) (congrArg Value.bool hc) ?_
                refine HL_known (t := 120) (v := .bool true) (congrArg Value.bool hc) ?_
                refine s_rd (v := (Sl.v v_78)) (r_move rfl h14) ?_
                refine s_ef (k_call (vs := [(Value.int .u8 (97 : Int))]) cb15 (evC rfl evN) (h.mono ?_))
                clear h; rintro v F ⟨v_122, rfl, h⟩
                refine s_ef (k_call (vs := [(Sl.v v_78), (Sl.v v_122)]) cb18 (evC rfl (evC rfl evN)) (h.mono ?_))
                clear h; rintro v F ⟨v_123, rfl, h⟩
                refine s_rd (v := (Value.bool v_123)) (r_pick rfl rfl (fun _ => rfl) (fun h => by cases h)) ?_
                refine s_rd (v := (Value.bool v_123)) (r_move rfl rfl) ?_
                by_cases hc : v_123 = true
                · replace h := h.1 hc
                  refine HL_known (t := 123) (v := .bool true) (congrArg Value.bool hc) ?_
                  refine HL_known (t := 124) (v := .bool true) (congrArg Value.bool hc) ?_
                  refine HL_known (t := 125) (v := .bool true) (congrArg Value.bool hc) ?_
                  refine s_rd (v := (Value.pointer v_18)) (r_move rfl h1) ?_
                  refine s_ef (k_call (vs := [(Value.pointer v_18)]) cb13 (evC rfl evN) (h.mono ?_))
                  clear h; rintro v F ⟨v_127, rfl, h⟩
                  refine s_rd (v := (Value.bool (decide (v_127 = (0 : Int))))) (w_eql rfl rfl) ?_
                  refine s_rd (v := (Value.bool (decide (v_127 = (0 : Int))))) (r_pick rfl rfl (fun _ => rfl) (fun h => by cases h)) ?_
                  refine s_rd (v := (Value.bool (decide (v_127 = (0 : Int))))) (r_move rfl rfl) ?_
                  by_cases hc : v_127 = (0 : Int)
                  · replace h := h.1 hc
                    refine HL_known (t := 128) (v := .bool true) (congrArg Value.bool (decide_eq_true hc)) ?_
                    refine HL_known (t := 129) (v := .bool true) (congrArg Value.bool (decide_eq_true hc)) ?_
                    refine HL_known (t := 130) (v := .bool true) (congrArg Value.bool (decide_eq_true hc)) ?_
                    refine s_rd (v := (Value.pointer v_18)) (r_move rfl h1) ?_
                    refine s_ef (k_call (vs := [(Value.pointer v_18)]) cb25 (evC rfl evN) (h.mono ?_))
                    clear h; rintro v F ⟨v_132, rfl, h⟩
                    refine s_rd (v := (Value.bool (decide (v_132 = (2 : Int))))) (w_eql rfl rfl) ?_
                    refine s_rd (v := (Value.bool (decide (v_132 = (2 : Int))))) (r_pick rfl rfl (fun _ => rfl) (fun h => by cases h)) ?_
                    refine s_rd (v := (Value.bool (decide (v_132 = (2 : Int))))) (r_assign rfl rfl) ?_
                    refine HL_nil ?_
                    exact HC_ret (show endQ prog f10 R .ret _ _ from ⟨_, res1 rfl (rv_tmp rfl), h⟩)
                  · replace h := h.2 hc
                    refine HL_known (t := 128) (v := .bool false) (congrArg Value.bool (decide_eq_false hc)) ?_
                    refine HL_known (t := 129) (v := .bool false) (congrArg Value.bool (decide_eq_false hc)) ?_
                    refine HL_known (t := 130) (v := .bool false) (congrArg Value.bool (decide_eq_false hc)) ?_
                    refine s_skip ?_
                    refine s_skip ?_
                    refine s_skip ?_
                    refine s_rd (v := (Value.bool false)) (r_pick rfl rfl (fun h => by cases h) (fun _ => rfl)) ?_
                    refine s_rd (v := (Value.bool false)) (r_assign rfl rfl) ?_
                    refine HL_nil ?_
                    exact HC_ret (show endQ prog f10 R .ret _ _ from ⟨_, res1 rfl (rv_tmp rfl), h⟩)
                · replace hc := eq_false_of_ne_true hc; replace h := h.2 hc
                  refine HL_known (t := 123) (v := .bool false) (congrArg Value.bool hc) ?_
                  refine HL_known (t := 124) (v := .bool false) (congrArg Value.bool hc) ?_
                  refine HL_known (t := 125) (v := .bool false) (congrArg Value.bool hc) ?_
                  refine s_skip ?_
                  refine s_skip ?_
                  refine s_skip ?_
                  refine s_rd (v := (Value.bool false)) (r_pick rfl rfl (fun h => by cases h) (fun _ => rfl)) ?_
                  refine s_rd (v := (Value.bool false)) (r_move rfl rfl) ?_
                  refine s_skip ?_
                  refine s_skip ?_
                  refine s_skip ?_
                  refine s_rd (v := (Value.bool false)) (r_pick rfl rfl (fun h => by cases h) (fun _ => rfl)) ?_
                  refine s_rd (v := (Value.bool false)) (r_assign rfl rfl) ?_
                  refine HL_nil ?_
                  exact HC_ret (show endQ prog f10 R .ret _ _ from ⟨_, res1 rfl (rv_tmp rfl), h⟩)
              · replace hc := eq_false_of_ne_true hc; replace h := h.2 hc
                refine HL_known (t := 118) (v := .bool false) (congrArg Value.bool hc) ?_
                refine HL_known (t := 119) (v := .bool false) (congrArg Value.bool hc) ?_
                refine HL_known (t := 120) (v := .bool false) (congrArg Value.bool hc) ?_
                refine s_skip ?_
                refine s_skip ?_
                refine s_skip ?_
                refine s_rd (v := (Value.bool false)) (r_pick rfl rfl (fun h => by cases h) (fun _ => rfl)) ?_
                refine s_rd (v := (Value.bool false)) (r_move rfl rfl) ?_
                refine s_skip ?_
                refine s_skip ?_
                refine s_skip ?_
                refine s_rd (v := (Value.bool false)) (r_pick rfl rfl (fun h => by cases h) (fun _ => rfl)) ?_
                refine s_rd (v := (Value.bool false)) (r_move rfl rfl) ?_
                refine s_skip ?_
                refine s_skip ?_
                refine s_skip ?_
                refine s_rd (v := (Value.bool false)) (r_pick rfl rfl (fun h => by cases h) (fun _ => rfl)) ?_
                refine s_rd (v := (Value.bool false)) (r_assign rfl rfl) ?_
                refine HL_nil ?_
                exact HC_ret (show endQ prog f10 R .ret _ _ from ⟨_, res1 rfl (rv_tmp rfl), h⟩)
            · replace hc := eq_false_of_ne_true hc; replace h := h.2 hc
              refine HL_known (t := 11) (v := .bool false) (h11.trans (congrArg Value.bool hc)) ?_
              refine HL_known (t := 113) (v := .bool false) (congrArg Value.bool hc) ?_
              refine HL_known (t := 114) (v := .bool false) (congrArg Value.bool hc) ?_
              refine HL_known (t := 115) (v := .bool false) (congrArg Value.bool hc) ?_
              refine s_skip ?_
              refine s_skip ?_
              refine s_skip ?_
              refine s_rd (v := (Value.bool false)) (r_pick rfl rfl (fun h => by cases h) (fun _ => rfl)) ?_
              refine s_rd (v := (Value.bool false)) (r_move rfl rfl) ?_
              refine s_skip ?_
              refine s_skip ?_
              refine s_skip ?_
              refine s_rd (v := (Value.bool false)) (r_pick rfl rfl (fun h => by cases h) (fun _ => rfl)) ?_
              refine s_rd (v := (Value.bool false)) (r_move rfl rfl) ?_
              refine s_skip ?_
              refine s_skip ?_
              refine s_skip ?_
              refine s_rd (v := (Value.bool false)) (r_pick rfl rfl (fun h => by cases h) (fun _ => rfl)) ?_
              refine s_rd (v := (Value.bool false)) (r_move rfl rfl) ?_
              refine s_skip ?_
              refine s_skip ?_
              refine s_skip ?_
              refine s_rd (v := (Value.bool false)) (r_pick rfl rfl (fun h => by cases h) (fun _ => rfl)) ?_
              refine s_rd (v := (Value.bool false)) (r_assign rfl rfl) ?_
              refine HL_nil ?_
              exact HC_ret (show endQ prog f10 R .ret _ _ from ⟨_, res1 rfl (rv_tmp rfl), h⟩)
          · replace hc := eq_false_of_ne_true hc; replace h := h.2 hc
            refine HL_known (t := 16) (v := .bool false) (h16.trans (congrArg Value.bool hc)) ?_
            refine HL_known (t := 111) (v := .bool false) (congrArg Value.bool hc) ?_
            refine HL_known (t := 112) (v := .bool false) (congrArg Value.bool hc) ?_
            refine s_skip ?_
            refine s_rd (v := (Value.bool false)) (r_pick rfl rfl (fun h => by cases h) (fun _ => rfl)) ?_
            refine s_rd (v := (Value.bool false)) (r_move rfl rfl) ?_
            refine s_skip ?_
            refine s_skip ?_
            refine s_skip ?_
            refine s_rd (v := (Value.bool false)) (r_pick rfl rfl (fun h => by cases h) (fun _ => rfl)) ?_
            refine s_rd (v := (Value.bool false)) (r_move rfl rfl) ?_
            refine s_skip ?_
            refine s_skip ?_
            refine s_skip ?_
            refine s_rd (v := (Value.bool false)) (r_pick rfl rfl (fun h => by cases h) (fun _ => rfl)) ?_
            refine s_rd (v := (Value.bool false)) (r_move rfl rfl) ?_
            refine s_skip ?_
            refine s_skip ?_
            refine s_skip ?_
            refine s_rd (v := (Value.bool false)) (r_pick rfl rfl (fun h => by cases h) (fun _ => rfl)) ?_
            refine s_rd (v := (Value.bool false)) (r_move rfl rfl) ?_
            refine s_skip ?_
            refine s_skip ?_
            refine s_skip ?_
            refine s_rd (v := (Value.bool false)) (r_pick rfl rfl (fun h => by cases h) (fun _ => rfl)) ?_
            refine s_rd (v := (Value.bool false)) (r_assign rfl rfl) ?_
            refine HL_nil ?_
            exact HC_ret (show endQ prog f10 R .ret _ _ from ⟨_, res1 rfl (rv_tmp rfl), h⟩)
        · skip
          refine HC_region ?_
          refine s_rd (v := (Value.int .i64 v_29)) (r_move rfl h3) ?_
          refine s_rd (v := (Value.bool (decide (v_29 = (0 : Int))))) (w_eql rfl rfl) ?_
          refine s_rd (v := (Value.bool (decide (v_29 = (0 : Int))))) (r_move rfl rfl) ?_
          by_cases hc : v_29 = (0 : Int)
          · replace h := h.1 hc
            refine HL_known (t := 82) (v := .bool true) (congrArg Value.bool (decide_eq_true hc)) ?_
            refine HL_known (t := 83) (v := .bool true) (congrArg Value.bool (decide_eq_true hc)) ?_
            refine s_rd (v := (Value.int .i64 v_31)) (r_move rfl h4) ?_
            refine s_rd (v := (Value.bool (decide (v_31 = (0 : Int))))) (w_eql rfl rfl) ?_
            refine s_rd (v := (Value.bool (decide (v_31 = (0 : Int))))) (r_pick rfl rfl (fun _ => rfl) (fun h => by cases h)) ?_
            refine s_rd (v := (Value.bool (decide (v_31 = (0 : Int))))) (r_move rfl rfl) ?_
            by_cases hc : v_31 = (0 : Int)
            · replace h := h.1 hc
              refine HL_known (t := 85) (v := .bool true) (congrArg Value.bool (decide_eq_true hc)) ?_
              refine HL_known (t := 86) (v := .bool true) (congrArg Value.bool (decide_eq_true hc)) ?_
              refine HL_known (t := 87) (v := .bool true) (congrArg Value.bool (decide_eq_true hc)) ?_
              refine s_rd (v := (Value.int .i64 v_34)) (r_move rfl h5) ?_
              refine s_rd (v := (Value.bool (decide (v_34 = (0 : Int))))) (w_eql rfl rfl) ?_
              refine s_rd (v := (Value.bool (decide (v_34 = (0 : Int))))) (r_pick rfl rfl (fun _ => rfl) (fun h => by cases h)) ?_
              refine s_rd (v := (Value.bool (decide (v_34 = (0 : Int))))) (r_move rfl rfl) ?_
              by_cases hc : v_34 = (0 : Int)
              · replace h := h.1 hc
                refine HL_known (t := 89) (v := .bool true) (congrArg Value.bool (decide_eq_true hc)) ?_
                refine HL_known (t := 90) (v := .bool true) (congrArg Value.bool (decide_eq_true hc)) ?_
                refine HL_known (t := 91) (v := .bool true) (congrArg Value.bool (decide_eq_true hc)) ?_
                refine s_rd (v := (Value.int .i64 v_40_1)) (r_move rfl h7) ?_
                refine s_rd (v := (Value.bool (decide (v_40_1 = (340 : Int))))) (w_eql rfl rfl) ?_
                refine s_rd (v := (Value.bool (decide (v_40_1 = (340 : Int))))) (r_pick rfl rfl (fun _ => rfl) (fun h => by cases h)) ?_
                refine s_rd (v := (Value.bool (decide (v_40_1 = (340 : Int))))) (r_move rfl rfl) ?_
                by_cases hc : v_40_1 = (340 : Int)
                · replace h := h.1 hc
                  refine HL_known (t := 93) (v := .bool true) (congrArg Value.bool (decide_eq_true hc)) ?_
                  refine HL_known (t := 94) (v := .bool true) (congrArg Value.bool (decide_eq_true hc)) ?_
                  refine HL_known (t := 95) (v := .bool true) (congrArg Value.bool (decide_eq_true hc)) ?_
                  refine s_rd (v := (Value.int .i64 v_47_1)) (r_move rfl h9) ?_
                  refine s_rd (v := (Value.bool (decide (v_47_1 = (0 : Int))))) (w_eql rfl rfl) ?_
                  refine s_rd (v := (Value.bool (decide (v_47_1 = (0 : Int))))) (r_pick rfl rfl (fun _ => rfl) (fun h => by cases h)) ?_
                  refine s_rd (v := (Value.bool (decide (v_47_1 = (0 : Int))))) (r_move rfl rfl) ?_
                  by_cases hc : v_47_1 = (0 : Int)
                  · replace h := h.1 hc
                    refine HL_known (t := 97) (v := .bool true) (congrArg Value.bool (decide_eq_true hc)) ?_
                    refine HL_known (t := 98) (v := .bool true) (congrArg Value.bool (decide_eq_true hc)) ?_
                    refine HL_known (t := 99) (v := .bool true) (congrArg Value.bool (decide_eq_true hc)) ?_
                    refine s_rd (v := (Value.int .i64 v_71)) (r_move rfl rfl) ?_
                    refine s_rd (v := (Value.bool (decide (v_71 = (0 : Int))))) (w_eql rfl rfl) ?_
                    refine s_rd (v := (Value.bool (decide (v_71 = (0 : Int))))) (r_pick rfl rfl (fun _ => rfl) (fun h => by cases h)) ?_
                    refine s_rd (v := (Value.bool (decide (v_71 = (0 : Int))))) (r_move rfl rfl) ?_
                    by_cases hc : v_71 = (0 : Int)
                    · replace h := h.1 hc
                      refine HL_known (t := 101) (v := .bool true) (congrArg Value.bool (decide_eq_true hc)) ?_
                      refine HL_known (t := 102) (v := .bool true) (congrArg Value.bool (decide_eq_true hc)) ?_
                      refine HL_known (t := 103) (v := .bool true) (congrArg Value.bool (decide_eq_true hc)) ?_
                      refine s_rd (v := (Value.int .i64 v_73)) (r_move rfl rfl) ?_
                      refine s_rd (v := (Value.bool (decide (v_73 = (340 : Int))))) (w_eql rfl rfl) ?_
                      refine s_rd (v := (Value.bool (decide (v_73 = (340 : Int))))) (r_pick rfl rfl (fun _ => rfl) (fun h => by cases h)) ?_
                      refine s_rd (v := (Value.bool (decide (v_73 = (340 : Int))))) (r_move rfl rfl) ?_
                      by_cases hc : v_73 = (340 : Int)
                      · replace h := h.1 hc
                        refine HL_known (t := 105) (v := .bool true) (congrArg Value.bool (decide_eq_true hc)) ?_
                        refine HL_known (t := 106) (v := .bool true) (congrArg Value.bool (decide_eq_true hc)) ?_
                        refine HL_known (t := 107) (v := .bool true) (congrArg Value.bool (decide_eq_true hc)) ?_
                        refine s_rd (v := (Value.int .i64 v_78_1)) (r_move rfl rfl) ?_
                        refine s_rd (v := (Value.bool (decide (v_78_1 = (0 : Int))))) (w_eql rfl rfl) ?_
                        refine s_rd (v := (Value.bool (decide (v_78_1 = (0 : Int))))) (r_pick rfl rfl (fun _ => rfl) (fun h => by cases h)) ?_
                        refine s_rd (v := (Value.bool (decide (v_78_1 = (0 : Int))))) (r_assign rfl rfl) ?_
                        refine HL_nil ?_
                        show b10J2 v_18 v_47 v_54 bad_11 v_78 R _ _
                        exact ⟨_, h1, h8, h10, h11, rfl, rfl, h⟩
                      · replace h := h.2 hc
                        refine HL_known (t := 105) (v := .bool false) (congrArg Value.bool (decide_eq_false hc)) ?_
                        refine HL_known (t := 106) (v := .bool false) (congrArg Value.bool (decide_eq_false hc)) ?_
                        refine HL_known (t := 107) (v := .bool false) (congrArg Value.bool (decide_eq_false hc)) ?_
                        refine s_skip ?_
                        refine s_skip ?_
                        refine s_rd (v := (Value.bool false)) (r_pick rfl rfl (fun h => by cases h) (fun _ => rfl)) ?_
                        refine s_rd (v := (Value.bool false)) (r_assign rfl rfl) ?_
                        refine HL_nil ?_
                        show b10J2 v_18 v_47 v_54 bad_11 v_78 R _ _
                        exact ⟨_, h1, h8, h10, h11, rfl, rfl, h⟩
                    · replace h := h.2 hc
                      refine HL_known (t := 101) (v := .bool false) (congrArg Value.bool (decide_eq_false hc)) ?_
                      refine HL_known (t := 102) (v := .bool false) (congrArg Value.bool (decide_eq_false hc)) ?_
                      refine HL_known (t := 103) (v := .bool false) (congrArg Value.bool (decide_eq_false hc)) ?_
                      refine s_skip ?_
                      refine s_skip ?_
                      refine s_rd (v := (Value.bool false)) (r_pick rfl rfl (fun h => by cases h) (fun _ => rfl)) ?_
                      refine s_rd (v := (Value.bool false)) (r_move rfl rfl) ?_
                      refine s_skip ?_
                      refine s_skip ?_
                      refine s_rd (v := (Value.bool false)) (r_pick rfl rfl (fun h => by cases h) (fun _ => rfl)) ?_
                      refine s_rd (v := (Value.bool false)) (r_assign rfl rfl) ?_
                      refine HL_nil ?_
                      show b10J2 v_18 v_47 v_54 bad_11 v_78 R _ _
                      exact ⟨_, h1, h8, h10, h11, rfl, rfl, h⟩
                  · replace h := h.2 hc
                    refine HL_known (t := 97) (v := .bool false) (congrArg Value.bool (decide_eq_false hc)) ?_
                    refine HL_known (t := 98) (v := .bool false) (congrArg Value.bool (decide_eq_false hc)) ?_
                    refine HL_known (t := 99) (v := .bool false) (congrArg Value.bool (decide_eq_false hc)) ?_
                    refine s_skip ?_
                    refine s_skip ?_
                    refine s_rd (v := (Value.bool false)) (r_pick rfl rfl (fun h => by cases h) (fun _ => rfl)) ?_
                    refine s_rd (v := (Value.bool false)) (r_move rfl rfl) ?_
                    refine s_skip ?_
                    refine s_skip ?_
                    refine s_rd (v := (Value.bool false)) (r_pick rfl rfl (fun h => by cases h) (fun _ => rfl)) ?_
                    refine s_rd (v := (Value.bool false)) (r_move rfl rfl) ?_
                    refine s_skip ?_
                    refine s_skip ?_
                    refine s_rd (v := (Value.bool false)) (r_pick rfl rfl (fun h => by cases h) (fun _ => rfl)) ?_
                    refine s_rd (v := (Value.bool false)) (r_assign rfl rfl) ?_
                    refine HL_nil ?_
                    show b10J2 v_18 v_47 v_54 bad_11 v_78 R _ _
                    exact ⟨_, h1, h8, h10, h11, rfl, rfl, h⟩
                · replace h := h.2 hc
                  refine HL_known (t := 93) (v := .bool false) (congrArg Value.bool (decide_eq_false hc)) ?_
                  refine HL_known (t := 94) (v := .bool false) (congrArg Value.bool (decide_eq_false hc)) ?_
                  refine HL_known (t := 95) (v := .bool false) (congrArg Value.bool (decide_eq_false hc)) ?_
                  refine s_skip ?_
                  refine s_skip ?_
                  refine s_rd (v := (Value.bool false)) (r_pick rfl rfl (fun h => by cases h) (fun _ => rfl)) ?_
                  refine s_rd (v := (Value.bool false)) (r_move rfl rfl) ?_
                  refine s_skip ?_
                  refine s_skip ?_
                  refine s_rd (v := (Value.bool false)) (r_pick rfl rfl (fun h => by cases h) (fun _ => rfl)) ?_
                  refine s_rd (v := (Value.bool false)) (r_move rfl rfl) ?_
                  refine s_skip ?_
                  refine s_skip ?_
                  refine s_rd (v := (Value.bool false)) (r_pick rfl rfl (fun h => by cases h) (fun _ => rfl)) ?_
                  refine s_rd (v := (Value.bool false)) (r_move rfl rfl) ?_
                  refine s_skip ?_
                  refine s_skip ?_
                  refine s_rd (v := (Value.bool false)) (r_pick rfl rfl (fun h => by cases h) (fun _ => rfl)) ?_
                  refine s_rd (v := (Value.bool false)) (r_assign rfl rfl) ?_
                  refine HL_nil ?_
                  show b10J2 v_18 v_47 v_54 bad_11 v_78 R _ _
                  exact ⟨_, h1, h8, h10, h11, rfl, rfl, h⟩
              · replace h := h.2 hc
                refine HL_known (t := 89) (v := .bool false) (congrArg Value.bool (decide_eq_false hc)) ?_
                refine HL_known (t := 90) (v := .bool false) (congrArg Value.bool (decide_eq_false hc)) ?_
                refine HL_known (t := 91) (v := .bool false) (congrArg Value.bool (decide_eq_false hc)) ?_
                refine s_skip ?_
                refine s_skip ?_
                refine s_rd (v := (Value.bool false)) (r_pick rfl rfl (fun h => by cases h) (fun _ => rfl)) ?_
                refine s_rd (v := (Value.bool false)) (r_move rfl rfl) ?_
                refine s_skip ?_
                refine s_skip ?_
                refine s_rd (v := (Value.bool false)) (r_pick rfl rfl (fun h => by cases h) (fun _ => rfl)) ?_
                refine s_rd (v := (Value.bool false)) (r_move rfl rfl) ?_
                refine s_skip ?_
                refine s_skip ?_
                refine s_rd (v := (Value.bool false)) (r_pick rfl rfl (fun h => by cases h) (fun _ => rfl)) ?_
                refine s_rd (v := (Value.bool false)) (r_move rfl rfl) ?_
                refine s_skip ?_
                refine s_skip ?_
                refine s_rd (v := (Value.bool false)) (r_pick rfl rfl (fun h => by cases h) (fun _ => rfl)) ?_
                refine s_rd (v := (Value.bool false)) (r_move rfl rfl) ?_
                refine s_skip ?_
                refine s_skip ?_
                refine s_rd (v := (Value.bool false)) (r_pick rfl rfl (fun h => by cases h) (fun _ => rfl)) ?_
                refine s_rd (v := (Value.bool false)) (r_assign rfl rfl) ?_
                refine HL_nil ?_
                show b10J2 v_18 v_47 v_54 bad_11 v_78 R _ _
                exact ⟨_, h1, h8, h10, h11, rfl, rfl, h⟩
            · replace h := h.2 hc
              refine HL_known (t := 85) (v := .bool false) (congrArg Value.bool (decide_eq_false hc)) ?_
              refine HL_known (t := 86) (v := .bool false) (congrArg Value.bool (decide_eq_false hc)) ?_
              refine HL_known (t := 87) (v := .bool false) (congrArg Value.bool (decide_eq_false hc)) ?_
              refine s_skip ?_
              refine s_skip ?_
              refine s_rd (v := (Value.bool false)) (r_pick rfl rfl (fun h => by cases h) (fun _ => rfl)) ?_
              refine s_rd (v := (Value.bool false)) (r_move rfl rfl) ?_
              refine s_skip ?_
              refine s_skip ?_
              refine s_rd (v := (Value.bool false)) (r_pick rfl rfl (fun h => by cases h) (fun _ => rfl)) ?_
              refine s_rd (v := (Value.bool false)) (r_move rfl rfl) ?_
              refine s_skip ?_
              refine s_skip ?_
              refine s_rd (v := (Value.bool false)) (r_pick rfl rfl (fun h => by cases h) (fun _ => rfl)) ?_
              refine s_rd (v := (Value.bool false)) (r_move rfl rfl) ?_
              refine s_skip ?_
              refine s_skip ?_
              refine s_rd (v := (Value.bool false)) (r_pick rfl rfl (fun h => by cases h) (fun _ => rfl)) ?_
              refine s_rd (v := (Value.bool false)) (r_move rfl rfl) ?_
              refine s_skip ?_
              refine s_skip ?_
              refine s_rd (v := (Value.bool false)) (r_pick rfl rfl (fun h => by cases h) (fun _ => rfl)) ?_
              refine s_rd (v := (Value.bool false)) (r_move rfl rfl) ?_
              refine s_skip ?_
              refine s_skip ?_
              refine s_rd (v := (Value.bool false)) (r_pick rfl rfl (fun h => by cases h) (fun _ => rfl)) ?_
              refine s_rd (v := (Value.bool false)) (r_assign rfl rfl) ?_
              refine HL_nil ?_
              show b10J2 v_18 v_47 v_54 bad_11 v_78 R _ _
              exact ⟨_, h1, h8, h10, h11, rfl, rfl, h⟩
          · replace h := h.2 hc
            refine HL_known (t := 82) (v := .bool false) (congrArg Value.bool (decide_eq_false hc)) ?_
            refine HL_known (t := 83) (v := .bool false) (congrArg Value.bool (decide_eq_false hc)) ?_
            refine s_skip ?_
            refine s_skip ?_
            refine s_rd (v := (Value.bool false)) (r_pick rfl rfl (fun h => by cases h) (fun _ => rfl)) ?_
            refine s_rd (v := (Value.bool false)) (r_move rfl rfl) ?_
            refine s_skip ?_
            refine s_skip ?_
            refine s_rd (v := (Value.bool false)) (r_pick rfl rfl (fun h => by cases h) (fun _ => rfl)) ?_
            refine s_rd (v := (Value.bool false)) (r_move rfl rfl) ?_
            refine s_skip ?_
            refine s_skip ?_
            refine s_rd (v := (Value.bool false)) (r_pick rfl rfl (fun h => by cases h) (fun _ => rfl)) ?_
            refine s_rd (v := (Value.bool false)) (r_move rfl rfl) ?_
            refine s_skip ?_
            refine s_skip ?_
            refine s_rd (v := (Value.bool false)) (r_pick rfl rfl (fun h => by cases h) (fun _ => rfl)) ?_
            refine s_rd (v := (Value.bool false)) (r_move rfl rfl) ?_
            refine s_skip ?_
            refine s_skip ?_
            refine s_rd (v := (Value.bool false)) (r_pick rfl rfl (fun h => by cases h) (fun _ => rfl)) ?_
            refine s_rd (v := (Value.bool false)) (r_move rfl rfl) ?_
            refine s_skip ?_
            refine s_skip ?_
            refine s_rd (v := (Value.bool false)) (r_pick rfl rfl (fun h => by cases h) (fun _ => rfl)) ?_
            refine s_rd (v := (Value.bool false)) (r_move rfl rfl) ?_
            refine s_skip ?_
            refine s_skip ?_
            refine s_rd (v := (Value.bool false)) (r_pick rfl rfl (fun h => by cases h) (fun _ => rfl)) ?_
            refine s_rd (v := (Value.bool false)) (r_assign rfl rfl) ?_
            refine HL_nil ?_
            show b10J2 v_18 v_47 v_54 bad_11 v_78 R _ _
            exact ⟨_, h1, h8, h10, h11, rfl, rfl, h⟩
      · skip
        refine HC_region ?_
        refine s_rd (v := (Value.pointer v_18)) (r_move rfl rfl) ?_
        refine s_ef (k_call (vs := [(Value.int .u8 (97 : Int))]) cb15 (evC rfl evN) (h.mono ?_))
        clear h; rintro v F ⟨v_59, rfl, h⟩
        refine s_ef (k_call (vs := [(Value.pointer v_18), (Value.int .i64 (2 : Int)), (Sl.v v_59)]) cb14 (evC rfl (evC rfl (evC rfl evN))) (h.mono ?_))
        clear h; rintro v F ⟨v_60, rfl, h⟩
        refine s_rd (v := (Value.bool (decide (v_60 = (1 : Int))))) (w_eql rfl rfl) ?_
        refine s_rd (v := (Value.bool (decide (v_60 = (1 : Int))))) (r_move rfl rfl) ?_
        by_cases hc : v_60 = (1 : Int)
        · replace h := h.1 hc
          refine HL_known (t := 61) (v := .bool true) (congrArg Value.bool (decide_eq_true hc)) ?_
          refine HL_known (t := 62) (v := .bool true) (congrArg Value.bool (decide_eq_true hc)) ?_
          refine s_rd (v := (Value.pointer v_18)) (r_move rfl rfl) ?_
          refine s_ef (k_call (vs := [(Value.int .u8 (97 : Int))]) cb15 (evC rfl evN) (h.mono ?_))
          clear h; rintro v F ⟨v_64, rfl, h⟩
          obtain ⟨hr65_0, hr65_1, h⟩ := h
          refine s_rd (v := (Sl.v (Sl.cut v_64 1 0 63 v_64.cap))) (r_sliceSl rfl rfl underlying26 sz5 bo_none (bo_ev (i := 63) rfl (by decide)) hr65_0 hr65_1) ?_
          refine s_ef (k_call (vs := [(Value.pointer v_18), (Value.int .i64 (0 : Int)), (Sl.v (Sl.cut v_64 1 0 63 v_64.cap))]) cb14 (evC rfl (evC rfl (evC rfl evN))) (h.mono ?_))
          clear h; rintro v F ⟨v_66, rfl, h⟩
          refine s_rd (v := (Value.bool (decide (v_66 = (1 : Int))))) (w_eql rfl rfl) ?_
          refine s_rd (v := (Value.bool (decide (v_66 = (1 : Int))))) (r_pick rfl rfl (fun _ => rfl) (fun h => by cases h)) ?_
          refine s_rd (v := (Value.bool (decide (v_66 = (1 : Int))))) (r_assign rfl rfl) ?_
          refine HL_nil ?_
          show b10J1 v_18 v_29 v_31 v_34 v_40_1 v_47 v_47_1 v_54 R _ _
          exact ⟨_, rfl, rfl, rfl, rfl, rfl, rfl, rfl, rfl, rfl, h⟩
        · replace h := h.2 hc
          refine HL_known (t := 61) (v := .bool false) (congrArg Value.bool (decide_eq_false hc)) ?_
          refine HL_known (t := 62) (v := .bool false) (congrArg Value.bool (decide_eq_false hc)) ?_
          refine s_skip ?_
          refine s_skip ?_
          refine s_skip ?_
          refine s_skip ?_
          refine s_skip ?_
          refine s_rd (v := (Value.bool false)) (r_pick rfl rfl (fun h => by cases h) (fun _ => rfl)) ?_
          refine s_rd (v := (Value.bool false)) (r_assign rfl rfl) ?_
          refine HL_nil ?_
          show b10J1 v_18 v_29 v_31 v_34 v_40_1 v_47 v_47_1 v_54 R _ _
          exact ⟨_, rfl, rfl, rfl, rfl, rfl, rfl, rfl, rfl, rfl, h⟩

/- 11 koine.koinelaw34.prepared -/
def b11j1 (v_7 : Option Addr) (R : Value → PH → Prop) (F : PH) : Prop :=
  R (Value.pointer v_7) F
abbrev b11J1 (v_7 : Option Addr) (R : Value → PH → Prop) (E : En) (F : PH) : Prop := E 3 = (Value.pointer v_7) ∧ b11j1 v_7 R F
def b11j2 (N1 : Int → PH → Prop) (l_0 : Sl) (v_7 : Option Addr) (i_5 : Int) (R : Value → PH → Prop) (F : PH) : Prop :=
  N1 (IntKind.i64.wrap (i_5 + (1 : Int))) F
abbrev b11J2 (N1 : Int → PH → Prop) (l_0 : Sl) (v_7 : Option Addr) (i_5 : Int) (R : Value → PH → Prop) (E : En) (F : PH) : Prop := E 0 = (Sl.v l_0) ∧ E 3 = (Value.pointer v_7) ∧ E 5 = (Value.int .i64 i_5) ∧ b11j2 N1 l_0 v_7 i_5 R F
def b11L1 (N1 : Int → PH → Prop) (l_0 : Sl) (v_7 : Option Addr) (R : Value → PH → Prop) (i_5 : Int) (F : PH) : Prop :=
  ((i_5 < (l_0.len : Int) →
    ((i_5 < (20 : Int) →
      ∃ a22_ : Addr, l_0.base = some a22_ ∧ 0 ≤ i_5 ∧ i_5 < (l_0.len : Int) ∧
      ∃ v_24 : Int, F.cell (Addr.add a22_ (Int.toNat i_5 * 5)) = some (Value.int .u8 v_24) ∧
      (((Int.tmod v_24 (10 : Int)) = (4 : Int) →
        Spec prog 17 #[(Value.pointer v_7)] F fun v F => ∃ v_28 : Int, v = (Value.int .i64 v_28) ∧
        b11j2 N1 l_0 v_7 i_5 R F) ∧
      (¬ ((Int.tmod v_24 (10 : Int)) = (4 : Int)) →
        ∃ a32_ : Addr, l_0.base = some a32_ ∧ 0 ≤ i_5 ∧ i_5 < (l_0.len : Int) ∧
        ∃ v_34 : Int, F.cell (Addr.add (Addr.add a32_ (Int.toNat i_5 * 5)) 1) = some (Value.int .i64 v_34) ∧
        ∃ a40_ : Addr, l_0.base = some a40_ ∧ 0 ≤ i_5 ∧ i_5 < (l_0.len : Int) ∧
        ∃ v_42 : Int, F.cell (Addr.add (Addr.add a40_ (Int.toNat i_5 * 5)) 2) = some (Value.int .u8 v_42) ∧
        Spec prog 15 #[(Value.int .u8 v_42)] F fun v F => ∃ v_43 : Sl, v = (Sl.v v_43) ∧
        F.cell (Addr.add (Addr.add a32_ (Int.toNat i_5 * 5)) 1) = some (Value.int .i64 v_34) ∧ Spec prog 14 #[(Value.pointer v_7), (Value.int .i64 (Int.tmod (IntKind.i64.wrap ((Int.tmod v_34 (4 : Int)) + (4 : Int))) (4 : Int))), (Sl.v v_43)] F fun v F => ∃ v_44 : Int, v = (Value.int .i64 v_44) ∧
        F.cell (Addr.add (Addr.add a32_ (Int.toNat i_5 * 5)) 1) = some (Value.int .i64 v_34) ∧ b11j2 N1 l_0 v_7 i_5 R F))) ∧
    (¬ (i_5 < (20 : Int)) →
      b11j1 v_7 R F))) ∧
  (¬ (i_5 < (l_0.len : Int)) →
    b11j1 v_7 R F))
def b11 (l_0 : Sl) (R : Value → PH → Prop) (F : PH) : Prop :=
  Spec prog 21 #[(Value.int .i64 (4 : Int))] F fun v F => ∃ v_7 : Option Addr, ∃ v_7_1 : Int, v = (Value.tuple #[(Value.pointer v_7), (Value.int .i64 v_7_1)]) ∧
  (∃ (I1 : Nat → Int → PH → Prop) (m1 : Nat), I1 m1 (0 : Int) F ∧ ∀ m1 i_5 F, I1 m1 i_5 F →
    b11L1 (fun i_5 F => ∃ m', m' < m1 ∧ I1 m' i_5 F) l_0 v_7 R i_5 F)
theorem c11 {l_0 : Sl} {R : Value → PH → Prop} {F : PH} (h : b11 l_0 R F) : Spec prog 11 #[(Sl.v l_0)] F R := by
  refine spec_of (args := [(Sl.v l_0)]) func11 rfl ntmps11 rfl ?_
  unfold b11 at h
  refine HC_seq ?_
  refine HC_region ?_
  refine s_rd (v := (Value.pointer none)) (r_assign rfl rfl) ?_
  refine HL_nil ?_
  refine HC_seq ?_
  refine HC_region ?_
  refine s_ef (k_call (vs := [(Value.int .i64 (4 : Int))]) cb21 (evC rfl evN) (h.mono ?_))
  clear h; rintro v F ⟨v_7, v_7_1, rfl, h⟩
  refine s_rd (v := (Value.tuple #[(Value.pointer v_7), (Value.int .i64 v_7_1)])) (r_move rfl rfl) ?_
  refine s_rd (v := (Value.pointer v_7)) (r_extract rfl rfl rfl) ?_
  refine s_rd (v := (Value.int .i64 v_7_1)) (r_extract rfl rfl rfl) ?_
  refine s_rd (v := (Value.pointer v_7)) (r_assign rfl rfl) ?_
  refine s_rd (v := (Value.int .i64 v_7_1)) (r_assign rfl rfl) ?_
  refine HL_nil ?_
  refine HC_seqJ (b11J1 v_7 R) ?_ ?_
  · clear h; rintro E F ⟨h3, h⟩
    unfold b11j1 at h
    refine HC_seq ?_
    refine HC_region ?_
    refine s_rd (v := (Value.pointer v_7)) (r_move rfl h3) ?_
    refine s_rd (v := (Value.pointer v_7)) (r_assign rfl rfl) ?_
    refine HL_nil ?_
    exact HC_ret (show endQ prog f11 R .ret _ _ from ⟨_, res1 rfl (rv_tmp rfl), h⟩)
  · skip
    refine HC_seq ?_
    refine HC_region ?_
    refine s_rd (v := (Value.int .i64 (0 : Int))) (r_assign rfl rfl) ?_
    refine HL_nil ?_
    refine HC_block ?_
    obtain ⟨I1, m1, hI0, hr⟩ := h
    refine HC_loop (fun m1 E F => ∃ i_5 : Int, E 0 = (Sl.v l_0) ∧ E 3 = (Value.pointer v_7) ∧ E 5 = (Value.int .i64 i_5) ∧ I1 m1 i_5 F) m1 ⟨_, rfl, rfl, rfl, hI0⟩ ?_
    clear hI0; rintro m1 E F ⟨i_5, h0, h3, h5, hI⟩
    have h := hr m1 i_5 F hI
    clear hr hI
    unfold b11L1 at h
    refine HC_seq ?_
    refine HC_seq ?_
    refine HC_region ?_
    refine s_rd (v := (Value.int .i64 i_5)) (r_move rfl h5) ?_
    refine s_rd (v := (Sl.v l_0)) (r_move rfl h0) ?_
    refine s_rd (v := (Value.int .i64 (l_0.len : Int))) (r_lenSl rfl rfl underlying22) ?_
    refine s_rd (v := (Value.bool (decide (i_5 < (l_0.len : Int))))) (r_lss rfl rfl rfl) ?_
    refine s_rd (v := (Value.bool (decide (i_5 < (l_0.len : Int))))) (r_move rfl rfl) ?_
    by_cases hc : i_5 < (l_0.len : Int)
    · replace h := h.1 hc
      refine HL_known (t := 13) (v := .bool true) (congrArg Value.bool (decide_eq_true hc)) ?_
      refine HL_known (t := 14) (v := .bool true) (congrArg Value.bool (decide_eq_true hc)) ?_
      refine s_rd (v := (Value.int .i64 i_5)) (r_move rfl h5) ?_
      refine s_rd (v := (Value.bool (decide (i_5 < (20 : Int))))) (r_lss rfl rfl rfl) ?_
      refine s_rd (v := (Value.bool (decide (i_5 < (20 : Int))))) (r_pick rfl rfl (fun _ => rfl) (fun h => by cases h)) ?_
      refine HL_nil ?_
      refine HC_cond (t := (decide (i_5 < (20 : Int)))) rfl (fun hc => ?_) (fun hc => ?_)
      · replace h := h.1 (of_decide_eq_true hc)
        clear hc
        refine HC_skip ?_
        refine HC_seqJ (b11J2 (fun i_5 F => ∃ m', m' < m1 ∧ I1 m' i_5 F) l_0 v_7 i_5 R) ?_ ?_
        · clear h; rintro E F ⟨h0, h3, h5, h⟩
          unfold b11j2 at h
          refine HC_region ?_
          refine s_rd (v := (Value.int .i64 i_5)) (r_move rfl h5) ?_
          refine s_rd (v := (Value.int .i64 (IntKind.i64.wrap (i_5 + (1 : Int))))) (r_add rfl rfl rfl) ?_
          refine s_rd (v := (Value.int .i64 (IntKind.i64.wrap (i_5 + (1 : Int))))) (r_assign rfl rfl) ?_
          refine HL_nil ?_
          obtain ⟨m', hm, h⟩ := h
          exact ⟨m', hm, _, h0, h3, rfl, h⟩
        · skip
          refine HC_block ?_
          refine HC_seq ?_
          refine HC_region ?_
          refine s_rd (v := (Sl.v l_0)) (r_move rfl h0) ?_
          refine s_rd (v := (Value.int .i64 i_5)) (r_move rfl h5) ?_
          obtain ⟨a22_, hb22, hl22, hu22, h⟩ := h
          refine s_rd (v := (Value.pointer (some (Addr.add a22_ (Int.toNat i_5 * 5))))) (w_indexAddr rfl rfl underlying22 sz40 hb22 hl22 hu22) ?_
          refine s_rd (v := (Value.pointer (some (Addr.add a22_ (Int.toNat i_5 * 5))))) (w_fieldAddr (a' := (Addr.add a22_ (Int.toNat i_5 * 5))) rfl underlying40 rfl rfl sz5 rfl rfl) ?_
          obtain ⟨v_24, hc24, h⟩ := h
          refine s_rd (v := (Value.int .u8 v_24)) (r_load1 rfl rfl underlying5 rfl hc24) ?_
          refine s_rd (v := (Value.int .u8 (Int.tmod v_24 (10 : Int)))) (r_rem rfl rfl rfl (by decide)) ?_
          refine s_rd (v := (Value.bool (decide ((Int.tmod v_24 (10 : Int)) = (4 : Int))))) (w_eql rfl rfl) ?_
          refine HL_nil ?_
          refine HC_cond (t := (decide ((Int.tmod v_24 (10 : Int)) = (4 : Int)))) rfl (fun hc => ?_) (fun hc => ?_)
          · replace h := h.1 (of_decide_eq_true hc)
            clear hc
            refine HC_region ?_
            refine s_rd (v := (Value.pointer v_7)) (r_move rfl h3) ?_
            refine s_ef (k_call (vs := [(Value.pointer v_7)]) cb17 (evC rfl evN) (h.mono ?_))
            clear h; rintro v F ⟨v_28, rfl, h⟩
            refine HL_nil ?_
            show b11J2 (fun i_5 F => ∃ m', m' < m1 ∧ I1 m' i_5 F) l_0 v_7 i_5 R _ _
            exact ⟨h0, h3, h5, h⟩
          · replace h := h.2 (of_decide_eq_false hc)
            clear hc
            refine HC_draw0 (by kernel_rfl) (fun hp => ?_)
            refine g_pu (i := 0) (v := (Value.pointer v_7)) rfl (by kernel_rfl) (by kernel_rfl) (by kernel_rfl) (fun _ _ _ h => h) (fun _ => r_move rfl h3) hp ?_
            refine g_pu (i := 1) (v := (Sl.v l_0)) rfl (by kernel_rfl) (by kernel_rfl) (by kernel_rfl) (fun _ _ _ h => h) (fun _ => r_move rfl h0) hp ?_
            refine g_pu (i := 2) (v := (Value.int .i64 i_5)) rfl (by kernel_rfl) (by kernel_rfl) (by kernel_rfl) (fun _ _ _ h => h) (fun _ => r_move rfl h5) hp ?_
            obtain ⟨a32_, hb32, hl32, hu32, h⟩ := h
            refine g_pu (i := 3) (v := (Value.pointer (some (Addr.add a32_ (Int.toNat i_5 * 5))))) rfl (by kernel_rfl) (by kernel_rfl) (by kernel_rfl) (fun _ _ _ h => h) (fun _ => w_indexAddr rfl rfl underlying22 sz40 hb32 hl32 hu32) hp ?_
            refine g_pu (i := 4) (v := (Value.pointer (some (Addr.add (Addr.add a32_ (Int.toNat i_5 * 5)) 1)))) rfl (by kernel_rfl) (by kernel_rfl) (by kernel_rfl) (fun _ _ _ h => h) (fun _ => w_fieldAddr (a' := (Addr.add (Addr.add a32_ (Int.toNat i_5 * 5)) 1)) rfl underlying40 rfl rfl sz3 rfl rfl) hp ?_
            obtain ⟨v_34, hc34, h⟩ := h
            refine g_rd (i := 5) (v := (Value.int .i64 v_34)) rfl (by kernel_rfl) (by kernel_rfl) (by kernel_rfl) (fun _ _ _ h => h) (r_load1 rfl rfl underlying3 rfl hc34) hp (fun S5 q5 => ?_)
            replace hp := holdC (i := 5) (q5 _ (r_load1 rfl rfl underlying3 rfl hc34)) hp
            refine g_pu (i := 6) (v := (Value.int .i64 (Int.tmod v_34 (4 : Int)))) rfl (by kernel_rfl) (by kernel_rfl) (by kernel_rfl) (fun _ _ _ h => h) (fun _ => r_rem rfl rfl rfl (by decide)) hp ?_
            refine g_pu (i := 7) (v := (Value.int .i64 (IntKind.i64.wrap ((Int.tmod v_34 (4 : Int)) + (4 : Int))))) rfl (by kernel_rfl) (by kernel_rfl) (by kernel_rfl) (fun _ _ _ h => h) (fun _ => r_add rfl rfl rfl) hp ?_
            refine g_pu (i := 8) (v := (Value.int .i64 (Int.tmod (IntKind.i64.wrap ((Int.tmod v_34 (4 : Int)) + (4 : Int))) (4 : Int)))) rfl (by kernel_rfl) (by kernel_rfl) (by kernel_rfl) (fun _ _ _ h => h) (fun _ => r_rem rfl rfl rfl (by decide)) hp ?_
            refine g_pu (i := 9) (v := (Sl.v l_0)) rfl (by kernel_rfl) (by kernel_rfl) (by kernel_rfl) (fun _ _ _ h => h) (fun _ => r_move rfl h0) hp ?_
            refine g_pu (i := 10) (v := (Value.int .i64 i_5)) rfl (by kernel_rfl) (by kernel_rfl) (by kernel_rfl) (fun _ _ _ h => h) (fun _ => r_move rfl h5) hp ?_
            obtain ⟨a40_, hb40, hl40, hu40, h⟩ := h
            refine g_pu (i := 11) (v := (Value.pointer (some (Addr.add a40_ (Int.toNat i_5 * 5))))) rfl (by kernel_rfl) (by kernel_rfl) (by kernel_rfl) (fun _ _ _ h => h) (fun _ => w_indexAddr rfl rfl underlying22 sz40 hb40 hl40 hu40) hp ?_
            refine g_pu (i := 12) (v := (Value.pointer (some (Addr.add (Addr.add a40_ (Int.toNat i_5 * 5)) 2)))) rfl (by kernel_rfl) (by kernel_rfl) (by kernel_rfl) (fun _ _ _ h => h) (fun _ => w_fieldAddr (a' := (Addr.add (Addr.add a40_ (Int.toNat i_5 * 5)) 2)) rfl underlying40 rfl rfl sz5 rfl rfl) hp ?_
            obtain ⟨v_42, hc42, h⟩ := h
            refine g_rd (i := 13) (v := (Value.int .u8 v_42)) rfl (by kernel_rfl) (by kernel_rfl) (by kernel_rfl) (fun _ _ _ h => h) (r_load1 rfl rfl underlying5 rfl hc42) hp (fun S13 q13 => ?_)
            replace hp := holdC (i := 13) (q13 _ (r_load1 rfl rfl underlying5 rfl hc42)) hp
            refine RG_eff1 (i := 14) (by kernel_rfl) (g_op (Sp' := [(5, S5)]) rfl rfl (k_call (vs := [(Value.int .u8 v_42)]) cb15 (evC rfl evN) (h.mono ?_)))
            clear h; rintro v F ⟨v_43, rfl, h⟩
            obtain ⟨hc34', h⟩ := h
            refine holdI (holdC (i := 5) (q5 _ (r_load1 rfl rfl underlying3 rfl hc34')) hold0) (fun hp => ?_)
            refine RG_eff1 (i := 15) (by kernel_rfl) (g_op (Sp' := [(5, S5)]) rfl rfl (k_call (vs := [(Value.pointer v_7), (Value.int .i64 (Int.tmod (IntKind.i64.wrap ((Int.tmod v_34 (4 : Int)) + (4 : Int))) (4 : Int))), (Sl.v v_43)]) cb14 (evC rfl (evC rfl (evC rfl evN))) (h.mono ?_)))
            clear h; rintro v F ⟨v_44, rfl, h⟩
            obtain ⟨hc34'', h⟩ := h
            refine holdI (holdC (i := 5) (q5 _ (r_load1 rfl rfl underlying3 rfl hc34'')) hold0) (fun hp => ?_)
            refine RG_done (by kernel_rfl) ?_
            show b11J2 (fun i_5 F => ∃ m', m' < m1 ∧ I1 m' i_5 F) l_0 v_7 i_5 R _ _
            exact ⟨h0, h3, h5, h⟩
      · replace h := h.2 (of_decide_eq_false hc)
        clear hc
        refine HC_exit ?_
        show b11J1 v_7 R _ _
        exact ⟨h3, h⟩
    · replace h := h.2 hc
      refine HL_known (t := 13) (v := .bool false) (congrArg Value.bool (decide_eq_false hc)) ?_
      refine HL_known (t := 14) (v := .bool false) (congrArg Value.bool (decide_eq_false hc)) ?_
      refine s_skip ?_
      refine s_skip ?_
      refine s_rd (v := (Value.bool false)) (r_pick rfl rfl (fun h => by cases h) (fun _ => rfl)) ?_
      refine HL_nil ?_
      refine HC_condF rfl ?_
      refine HC_exit ?_
      show b11J1 v_7 R _ _
      exact ⟨h3, h⟩

/- 12 koine.koinelaw34.contents -/
def b12j1 (out_3 : Sl) (R : Value → PH → Prop) (F : PH) : Prop :=
  R (Sl.v out_3) F
abbrev b12J1 (R : Value → PH → Prop) (E : En) (F : PH) : Prop := ∃ out_3 : Sl, E 3 = (Sl.v out_3) ∧ b12j1 out_3 R F
def b12L1 (N1 : Sl → Int → PH → Prop) (d_0 : Option Addr) (R : Value → PH → Prop) (out_3_1 : Sl) (at_4 : Int) (F : PH) : Prop :=
  ((at_4 < (4 : Int) →
    Spec prog 16 #[(Value.pointer d_0), (Value.int .i64 at_4)] F fun v F => ∃ v_15 : Sl, ∃ v_15_1 : Int, v = (Value.tuple #[(Sl.v v_15), (Value.int .i64 v_15_1)]) ∧
    runs prog (Builtin.append_ #[26, 26] 26 #[(Sl.v out_3_1), (Sl.v v_15)]) F fun v F => ∃ v_20 : Sl, v = (Sl.v v_20) ∧
    N1 v_20 (IntKind.i64.wrap (at_4 + (1 : Int))) F) ∧
  (¬ (at_4 < (4 : Int)) →
    b12j1 out_3_1 R F))
def b12 (d_0 : Option Addr) (R : Value → PH → Prop) (F : PH) : Prop :=
  ∀ b7, F b7 = none → atF (F.set b7 (.cells #[] 5)) fun F =>
  (∃ (I1 : Nat → Sl → Int → PH → Prop) (m1 : Nat), I1 m1 (Sl.mk (some (Addr.mk b7 0 none)) 0 0) (0 : Int) F ∧ ∀ m1 out_3_1 at_4 F, I1 m1 out_3_1 at_4 F →
    b12L1 (fun out_3_1 at_4 F => ∃ m', m' < m1 ∧ I1 m' out_3_1 at_4 F) d_0 R out_3_1 at_4 F)
theorem c12 {d_0 : Option Addr} {R : Value → PH → Prop} {F : PH} (h : b12 d_0 R F) : Spec prog 12 #[(Value.pointer d_0)] F R := by
  refine spec_of (args := [(Value.pointer d_0)]) func12 rfl ntmps12 rfl ?_
  unfold b12 at h
  refine HC_seq ?_
  refine HC_region ?_
  refine s_rd (v := (Sl.v Sl.nil)) (r_assign rfl rfl) ?_
  refine HL_nil ?_
  refine HC_seq ?_
  refine HC_region ?_
  refine s_ef (k_buildSeq (l := []) underlying26 sz5 (by decide) zr5 rfl rfl trivial evPN ?_)
  intro b7 hf_b7
  replace h := atE (h b7 hf_b7)
  refine s_rd (v := (Sl.v (Sl.mk (some (Addr.mk b7 0 none)) 0 0))) (r_assign rfl rfl) ?_
  refine HL_nil ?_
  refine HC_seqJ (b12J1 R) ?_ ?_
  · clear h; rintro E F ⟨out_3, h3, h⟩
    unfold b12j1 at h
    refine HC_seq ?_
    refine HC_region ?_
    refine s_rd (v := (Sl.v out_3)) (r_move rfl h3) ?_
    refine s_rd (v := (Sl.v out_3)) (r_assign rfl rfl) ?_
    refine HL_nil ?_
    exact HC_ret (show endQ prog f12 R .ret _ _ from ⟨_, res1 rfl (rv_tmp rfl), h⟩)
  · skip
    refine HC_seq ?_
    refine HC_region ?_
    refine s_rd (v := (Value.int .i64 (0 : Int))) (r_assign rfl rfl) ?_
    refine HL_nil ?_
    refine HC_block ?_
    obtain ⟨I1, m1, hI0, hr⟩ := h
    refine HC_loop (fun m1 E F => ∃ out_3_1 : Sl, ∃ at_4 : Int, E 0 = (Value.pointer d_0) ∧ E 3 = (Sl.v out_3_1) ∧ E 4 = (Value.int .i64 at_4) ∧ I1 m1 out_3_1 at_4 F) m1 ⟨_, _, rfl, rfl, rfl, hI0⟩ ?_
    clear hI0; rintro m1 E F ⟨out_3_1, at_4, h0, h3, h4, hI⟩
    have h := hr m1 out_3_1 at_4 F hI
    clear hr hI
    unfold b12L1 at h
    refine HC_seq ?_
    refine HC_seq ?_
    refine HC_region ?_
    refine s_rd (v := (Value.int .i64 at_4)) (r_move rfl h4) ?_
    refine s_rd (v := (Value.bool (decide (at_4 < (4 : Int))))) (r_lss rfl rfl rfl) ?_
    refine HL_nil ?_
    refine HC_cond (t := (decide (at_4 < (4 : Int)))) rfl (fun hc => ?_) (fun hc => ?_)
    · replace h := h.1 (of_decide_eq_true hc)
      clear hc
      refine HC_skip ?_
      refine HC_seq ?_
      refine HC_block ?_
      refine HC_seq ?_
      refine HC_region ?_
      refine s_rd (v := (Value.pointer d_0)) (r_move rfl h0) ?_
      refine s_rd (v := (Value.int .i64 at_4)) (r_move rfl h4) ?_
      refine s_ef (k_call (vs := [(Value.pointer d_0), (Value.int .i64 at_4)]) cb16 (evC rfl (evC rfl evN)) (h.mono ?_))
      clear h; rintro v F ⟨v_15, v_15_1, rfl, h⟩
      refine s_rd (v := (Value.tuple #[(Sl.v v_15), (Value.int .i64 v_15_1)])) (r_move rfl rfl) ?_
      refine s_rd (v := (Sl.v v_15)) (r_extract rfl rfl rfl) ?_
      refine s_rd (v := (Value.int .i64 v_15_1)) (r_extract rfl rfl rfl) ?_
      refine s_rd (v := (Sl.v v_15)) (r_assign rfl rfl) ?_
      refine s_rd (v := (Value.int .i64 v_15_1)) (r_assign rfl rfl) ?_
      refine HL_nil ?_
      refine HC_region ?_
      refine s_rd (v := (Sl.v out_3_1)) (r_move rfl h3) ?_
      refine s_rd (v := (Sl.v v_15)) (r_move rfl rfl) ?_
      refine s_ef (k_append rfl rfl (runs_mono _ _ h ?_))
      clear h; rintro v F ⟨v_20, rfl, h⟩
      refine s_rd (v := (Sl.v v_20)) (r_assign rfl rfl) ?_
      refine HL_nil ?_
      refine HC_region ?_
      refine s_rd (v := (Value.int .i64 at_4)) (r_move rfl h4) ?_
      refine s_rd (v := (Value.int .i64 (IntKind.i64.wrap (at_4 + (1 : Int))))) (r_add rfl rfl rfl) ?_
      refine s_rd (v := (Value.int .i64 (IntKind.i64.wrap (at_4 + (1 : Int))))) (r_assign rfl rfl) ?_
      refine HL_nil ?_
      obtain ⟨m', hm, h⟩ := h
      exact ⟨m', hm, _, _, h0, rfl, rfl, h⟩
    · replace h := h.2 (of_decide_eq_false hc)
      clear hc
      refine HC_exit ?_
      show b12J1 R _ _
      exact ⟨_, h3, h⟩

/- 23 koine.koinelaw34.do -/
def b23 (d_0 : Option Addr) (x_1 : Array Value) (R : Value → PH → Prop) (F : PH) : Prop :=
  ∀ b3, F b3 = none → atF (F.set b3 (.cells x_1 40)) fun F =>
  ∃ v_9 : Int, F.cell (Addr.mk b3 0 none) = some (Value.int .u8 v_9) ∧
  (((Int.tmod v_9 (10 : Int)) = (4 : Int) →
    Spec prog 17 #[(Value.pointer d_0)] F fun v F => ∃ v_22 : Int, v = (Value.int .i64 v_22) ∧
    R (Value.tuple #[(Value.pointer d_0), (Value.int .i64 v_22)]) F) ∧
  (¬ ((Int.tmod v_9 (10 : Int)) = (4 : Int)) →
    (((Int.tmod v_9 (10 : Int)) = (5 : Int) →
      ∃ v_27 : Sl, F.cell (Addr.mk b3 4 none) = some (Sl.v v_27) ∧
      Spec prog 19 #[(Value.pointer d_0), (Sl.v v_27)] F fun v F => v = Value.tuple #[] ∧
      R (Value.tuple #[(Value.pointer d_0), (Value.int .i64 (0 : Int))]) F) ∧
    (¬ ((Int.tmod v_9 (10 : Int)) = (5 : Int)) →
      (((Int.tmod v_9 (10 : Int)) = (6 : Int) →
        Spec prog 20 #[(Value.pointer d_0)] F fun v F => v = Value.tuple #[] ∧
        R (Value.tuple #[(Value.pointer d_0), (Value.int .i64 (0 : Int))]) F) ∧
      (¬ ((Int.tmod v_9 (10 : Int)) = (6 : Int)) →
        (((Int.tmod v_9 (10 : Int)) = (7 : Int) →
          ∃ v_37 : Int, F.cell (Addr.mk b3 1 none) = some (Value.int .i64 v_37) ∧
          ∃ v_39 : Sl, F.cell (Addr.mk b3 4 none) = some (Sl.v v_39) ∧
          Spec prog 29 #[(Value.pointer d_0), (Value.int .i64 v_37), (Sl.v v_39)] F fun v F => v = Value.tuple #[] ∧
          R (Value.tuple #[(Value.pointer d_0), (Value.int .i64 (0 : Int))]) F) ∧
        (¬ ((Int.tmod v_9 (10 : Int)) = (7 : Int)) →
          (((Int.tmod v_9 (10 : Int)) = (8 : Int) →
            Spec prog 27 #[(Value.pointer d_0)] F fun v F => ∃ v_44 : Option Addr, v = (Value.pointer v_44) ∧
            (((v_44.isNone) = true →
              R (Value.tuple #[(Value.pointer d_0), (Value.int .i64 (3 : Int))]) F) ∧
            ((v_44.isNone) = false →
              Spec prog 15 #[(Value.int .u8 (120 : Int))] F fun v F => ∃ v_49 : Sl, v = (Sl.v v_49) ∧
              Spec prog 14 #[(Value.pointer d_0), (Value.int .i64 (0 : Int)), (Sl.v v_49)] F fun v F => ∃ v_50 : Int, v = (Value.int .i64 v_50) ∧
              Spec prog 19 #[(Value.pointer d_0), (Sl.v Sl.nil)] F fun v F => v = Value.tuple #[] ∧
              R (Value.tuple #[(Value.pointer v_44), (Value.int .i64 (0 : Int))]) F))) ∧
          (¬ ((Int.tmod v_9 (10 : Int)) = (8 : Int)) →
            (((Int.tmod v_9 (10 : Int)) = (9 : Int) →
              Spec prog 27 #[(Value.pointer d_0)] F fun v F => ∃ v_57 : Option Addr, v = (Value.pointer v_57) ∧
              (((v_57.isNone) = true →
                R (Value.tuple #[(Value.pointer d_0), (Value.int .i64 (3 : Int))]) F) ∧
              ((v_57.isNone) = false →
                Spec prog 20 #[(Value.pointer v_57)] F fun v F => v = Value.tuple #[] ∧
                Spec prog 15 #[(Value.int .u8 (121 : Int))] F fun v F => ∃ v_64 : Sl, v = (Sl.v v_64) ∧
                Spec prog 14 #[(Value.pointer v_57), (Value.int .i64 (0 : Int)), (Sl.v v_64)] F fun v F => ∃ v_65 : Int, v = (Value.int .i64 v_65) ∧
                Spec prog 17 #[(Value.pointer v_57)] F fun v F => ∃ v_67 : Int, v = (Value.int .i64 v_67) ∧
                R (Value.tuple #[(Value.pointer d_0), (Value.int .i64 (0 : Int))]) F))) ∧
            (¬ ((Int.tmod v_9 (10 : Int)) = (9 : Int)) →
              ∃ v_14 : Int, F.cell (Addr.mk b3 1 none) = some (Value.int .i64 v_14) ∧
              ∃ v_15 : Array Value, v_15.size = 5 ∧ F.row (Addr.mk b3 0 none) v_15 ∧
              Spec prog 28 #[(Value.agg v_15)] F fun v F => ∃ v_16 : Sl, v = (Sl.v v_16) ∧
              F.cell (Addr.mk b3 1 none) = some (Value.int .i64 v_14) ∧ Spec prog 14 #[(Value.pointer d_0), (Value.int .i64 v_14), (Sl.v v_16)] F fun v F => ∃ v_17 : Int, v = (Value.int .i64 v_17) ∧
              R (Value.tuple #[(Value.pointer d_0), (Value.int .i64 v_17)]) F))))))))))))
theorem c23 {d_0 : Option Addr} {x_1 : Array Value} {R : Value → PH → Prop} {F : PH} (h : b23 d_0 x_1 R F) : Spec prog 23 #[(Value.pointer d_0), (Value.agg x_1)] F R := by
  refine spec_of (args := [(Value.pointer d_0), (Value.agg x_1)]) func23 rfl ntmps23 rfl ?_
  unfold b23 at h
  refine HC_seq ?_
  refine HC_region ?_
  refine s_ef (k_box (cs := x_1) rfl rfl ?_)
  intro b3 hf_b3
  replace h := atE (h b3 hf_b3)
  refine s_rd (v := (Value.pointer none)) (r_assign rfl rfl) ?_
  refine s_rd (v := (Value.int .i64 (0 : Int))) (r_assign rfl rfl) ?_
  refine HL_nil ?_
  refine HC_seq ?_
  refine HC_seq ?_
  refine HC_region ?_
  refine s_rd (v := (Value.pointer (some (Addr.mk b3 0 none)))) (w_fieldAddr (a' := (Addr.mk b3 0 none)) rfl underlying40 rfl rfl sz5 rfl rfl) ?_
  obtain ⟨v_9, hc9, h⟩ := h
  refine s_rd (v := (Value.int .u8 v_9)) (r_load1 rfl rfl underlying5 rfl hc9) ?_
  refine s_rd (v := (Value.int .u8 (Int.tmod v_9 (10 : Int)))) (r_rem rfl rfl rfl (by decide)) ?_
  refine HL_nil ?_
  refine HC_block ?_
  refine HC_seq ?_
  refine HC_region ?_
  refine s_rd (v := (Value.bool (decide ((Int.tmod v_9 (10 : Int)) = (4 : Int))))) (w_eql rfl rfl) ?_
  refine s_rd (v := (Value.bool (decide ((Int.tmod v_9 (10 : Int)) = (4 : Int))))) (r_assign rfl rfl) ?_
  refine HL_nil ?_
  refine HC_cond (t := (decide ((Int.tmod v_9 (10 : Int)) = (4 : Int)))) rfl (fun hc => ?_) (fun hc => ?_)
  · replace h := h.1 (of_decide_eq_true hc)
    clear hc
    refine HC_seq ?_
    refine HC_region ?_
    refine s_rd (v := (Value.pointer d_0)) (r_move rfl rfl) ?_
    refine s_rd (v := (Value.pointer d_0)) (r_move rfl rfl) ?_
    refine s_ef (k_call (vs := [(Value.pointer d_0)]) cb17 (evC rfl evN) (h.mono ?_))
    clear h; rintro v F ⟨v_22, rfl, h⟩
    refine s_rd (v := (Value.pointer d_0)) (r_assign rfl rfl) ?_
    refine s_rd (v := (Value.int .i64 v_22)) (r_assign rfl rfl) ?_
    refine HL_nil ?_
    exact HC_ret (show endQ prog f23 R .ret _ _ from ⟨_, res2 rfl (rv_tmp rfl) (rv_tmp rfl), h⟩)
  · replace h := h.2 (of_decide_eq_false hc)
    clear hc
    refine HC_seq ?_
    refine HC_region ?_
    refine s_rd (v := (Value.bool (decide ((Int.tmod v_9 (10 : Int)) = (5 : Int))))) (w_eql rfl rfl) ?_
    refine s_rd (v := (Value.bool (decide ((Int.tmod v_9 (10 : Int)) = (5 : Int))))) (r_assign rfl rfl) ?_
    refine HL_nil ?_
    refine HC_cond (t := (decide ((Int.tmod v_9 (10 : Int)) = (5 : Int)))) rfl (fun hc => ?_) (fun hc => ?_)
    · replace h := h.1 (of_decide_eq_true hc)
      clear hc
      refine HC_region ?_
      refine s_rd (v := (Value.pointer d_0)) (r_move rfl rfl) ?_
      refine s_rd (v := (Value.pointer (some (Addr.mk b3 4 none)))) (w_fieldAddr (a' := (Addr.mk b3 4 none)) rfl underlying40 rfl rfl sz37 rfl rfl) ?_
      obtain ⟨v_27, hc27, h⟩ := h
      refine s_rd (v := (Sl.v v_27)) (r_load1 rfl rfl underlying37 rfl hc27) ?_
      refine s_ef (k_call (vs := [(Value.pointer d_0), (Sl.v v_27)]) cb19 (evC rfl (evC rfl evN)) (h.mono ?_))
      clear h; rintro v F ⟨rfl, h⟩
      refine HL_nil ?_
      refine HC_seq ?_
      refine HC_region ?_
      refine s_rd (v := (Value.pointer d_0)) (r_move rfl rfl) ?_
      refine s_rd (v := (Value.pointer d_0)) (r_assign rfl rfl) ?_
      refine s_rd (v := (Value.int .i64 (0 : Int))) (r_assign rfl rfl) ?_
      refine HL_nil ?_
      exact HC_ret (show endQ prog f23 R .ret _ _ from ⟨_, res2 rfl (rv_tmp rfl) (rv_tmp rfl), h⟩)
    · replace h := h.2 (of_decide_eq_false hc)
      clear hc
      refine HC_seq ?_
      refine HC_region ?_
      refine s_rd (v := (Value.bool (decide ((Int.tmod v_9 (10 : Int)) = (6 : Int))))) (w_eql rfl rfl) ?_
      refine s_rd (v := (Value.bool (decide ((Int.tmod v_9 (10 : Int)) = (6 : Int))))) (r_assign rfl rfl) ?_
      refine HL_nil ?_
      refine HC_cond (t := (decide ((Int.tmod v_9 (10 : Int)) = (6 : Int)))) rfl (fun hc => ?_) (fun hc => ?_)
      · replace h := h.1 (of_decide_eq_true hc)
        clear hc
        refine HC_region ?_
        refine s_rd (v := (Value.pointer d_0)) (r_move rfl rfl) ?_
        refine s_ef (k_call (vs := [(Value.pointer d_0)]) cb20 (evC rfl evN) (h.mono ?_))
        clear h; rintro v F ⟨rfl, h⟩
        refine HL_nil ?_
        refine HC_seq ?_
        refine HC_region ?_
        refine s_rd (v := (Value.pointer d_0)) (r_move rfl rfl) ?_
        refine s_rd (v := (Value.pointer d_0)) (r_assign rfl rfl) ?_
        refine s_rd (v := (Value.int .i64 (0 : Int))) (r_assign rfl rfl) ?_
        refine HL_nil ?_
        exact HC_ret (show endQ prog f23 R .ret _ _ from ⟨_, res2 rfl (rv_tmp rfl) (rv_tmp rfl), h⟩)
      · replace h := h.2 (of_decide_eq_false hc)
        clear hc
        refine HC_seq ?_
        refine HC_region ?_
        refine s_rd (v := (Value.bool (decide ((Int.tmod v_9 (10 : Int)) = (7 : Int))))) (w_eql rfl rfl) ?_
        refine s_rd (v := (Value.bool (decide ((Int.tmod v_9 (10 : Int)) = (7 : Int))))) (r_assign rfl rfl) ?_
        refine HL_nil ?_
        refine HC_cond (t := (decide ((Int.tmod v_9 (10 : Int)) = (7 : Int)))) rfl (fun hc => ?_) (fun hc => ?_)
        · replace h := h.1 (of_decide_eq_true hc)
          clear hc
          refine HC_region ?_
          refine s_rd (v := (Value.pointer d_0)) (r_move rfl rfl) ?_
          refine s_rd (v := (Value.pointer (some (Addr.mk b3 1 none)))) (w_fieldAddr (a' := (Addr.mk b3 1 none)) rfl underlying40 rfl rfl sz3 rfl rfl) ?_
          obtain ⟨v_37, hc37, h⟩ := h
          refine s_rd (v := (Value.int .i64 v_37)) (r_load1 rfl rfl underlying3 rfl hc37) ?_
          refine s_rd (v := (Value.pointer (some (Addr.mk b3 4 none)))) (w_fieldAddr (a' := (Addr.mk b3 4 none)) rfl underlying40 rfl rfl sz37 rfl rfl) ?_
          obtain ⟨v_39, hc39, h⟩ := h
          refine s_rd (v := (Sl.v v_39)) (r_load1 rfl rfl underlying37 rfl hc39) ?_
          refine s_ef (k_call (vs := [(Value.pointer d_0), (Value.int .i64 v_37), (Sl.v v_39)]) cb29 (evC rfl (evC rfl (evC rfl evN))) (h.mono ?_))
          clear h; rintro v F ⟨rfl, h⟩
          refine HL_nil ?_
          refine HC_seq ?_
          refine HC_region ?_
          refine s_rd (v := (Value.pointer d_0)) (r_move rfl rfl) ?_
          refine s_rd (v := (Value.pointer d_0)) (r_assign rfl rfl) ?_
          refine s_rd (v := (Value.int .i64 (0 : Int))) (r_assign rfl rfl) ?_
          refine HL_nil ?_
          exact HC_ret (show endQ prog f23 R .ret _ _ from ⟨_, res2 rfl (rv_tmp rfl) (rv_tmp rfl), h⟩)
        · replace h := h.2 (of_decide_eq_false hc)
          clear hc
          refine HC_seq ?_
          refine HC_region ?_
          refine s_rd (v := (Value.bool (decide ((Int.tmod v_9 (10 : Int)) = (8 : Int))))) (w_eql rfl rfl) ?_
          refine s_rd (v := (Value.bool (decide ((Int.tmod v_9 (10 : Int)) = (8 : Int))))) (r_assign rfl rfl) ?_
          refine HL_nil ?_
          refine HC_cond (t := (decide ((Int.tmod v_9 (10 : Int)) = (8 : Int)))) rfl (fun hc => ?_) (fun hc => ?_)
          · replace h := h.1 (of_decide_eq_true hc)
            clear hc
            refine HC_seq ?_
            refine HC_region ?_
            refine s_rd (v := (Value.pointer d_0)) (r_move rfl rfl) ?_
            refine s_ef (k_call (vs := [(Value.pointer d_0)]) cb27 (evC rfl evN) (h.mono ?_))
            clear h; rintro v F ⟨v_44, rfl, h⟩
            refine s_rd (v := (Value.pointer v_44)) (r_assign rfl rfl) ?_
            refine HL_nil ?_
            refine HC_seq ?_
            refine HC_seq ?_
            refine HC_region ?_
            refine s_rd (v := (Value.pointer v_44)) (r_move rfl rfl) ?_
            refine s_rd (v := (Value.bool (v_44.isNone))) (r_eqlNil rfl rfl rfl underlying24) ?_
            refine HL_nil ?_
            refine HC_cond (t := (v_44.isNone)) rfl (fun hc => ?_) (fun hc => ?_)
            · replace h := h.1 hc
              clear hc
              refine HC_seq ?_
              refine HC_region ?_
              refine s_rd (v := (Value.pointer d_0)) (r_move rfl rfl) ?_
              refine s_rd (v := (Value.pointer d_0)) (r_assign rfl rfl) ?_
              refine s_rd (v := (Value.int .i64 (3 : Int))) (r_assign rfl rfl) ?_
              refine HL_nil ?_
              exact HC_ret (show endQ prog f23 R .ret _ _ from ⟨_, res2 rfl (rv_tmp rfl) (rv_tmp rfl), h⟩)
            · replace h := h.2 hc
              clear hc
              refine HC_skip ?_
              refine HC_seq ?_
              refine HC_region ?_
              refine s_rd (v := (Value.pointer d_0)) (r_move rfl rfl) ?_
              refine s_ef (k_call (vs := [(Value.int .u8 (120 : Int))]) cb15 (evC rfl evN) (h.mono ?_))
              clear h; rintro v F ⟨v_49, rfl, h⟩
              refine s_ef (k_call (vs := [(Value.pointer d_0), (Value.int .i64 (0 : Int)), (Sl.v v_49)]) cb14 (evC rfl (evC rfl (evC rfl evN))) (h.mono ?_))
              clear h; rintro v F ⟨v_50, rfl, h⟩
              refine HL_nil ?_
              refine HC_seq ?_
              refine HC_region ?_
              refine s_rd (v := (Value.pointer d_0)) (r_move rfl rfl) ?_
              refine s_ef (k_call (vs := [(Value.pointer d_0), (Sl.v Sl.nil)]) cb19 (evC rfl (evC rfl evN)) (h.mono ?_))
              clear h; rintro v F ⟨rfl, h⟩
              refine HL_nil ?_
              refine HC_seq ?_
              refine HC_region ?_
              refine s_rd (v := (Value.pointer v_44)) (r_move rfl rfl) ?_
              refine s_rd (v := (Value.pointer v_44)) (r_assign rfl rfl) ?_
              refine s_rd (v := (Value.int .i64 (0 : Int))) (r_assign rfl rfl) ?_
              refine HL_nil ?_
              exact HC_ret (show endQ prog f23 R .ret _ _ from ⟨_, res2 rfl (rv_tmp rfl) (rv_tmp rfl), h⟩)
          · replace h := h.2 (of_decide_eq_false hc)
            clear hc
            refine HC_seq ?_
            refine HC_region ?_
            refine s_rd (v := (Value.bool (decide ((Int.tmod v_9 (10 : Int)) = (9 : Int))))) (w_eql rfl rfl) ?_
            refine s_rd (v := (Value.bool (decide ((Int.tmod v_9 (10 : Int)) = (9 : Int))))) (r_assign rfl rfl) ?_
            refine HL_nil ?_
            refine HC_cond (t := (decide ((Int.tmod v_9 (10 : Int)) = (9 : Int)))) rfl (fun hc => ?_) (fun hc => ?_)
            · replace h := h.1 (of_decide_eq_true hc)
              clear hc
              refine HC_seq ?_
              refine HC_region ?_
              refine s_rd (v := (Value.pointer d_0)) (r_move rfl rfl) ?_
              refine s_ef (k_call (vs := [(Value.pointer d_0)]) cb27 (evC rfl evN) (h.mono ?_))
              clear h; rintro v F ⟨v_57, rfl, h⟩
              refine s_rd (v := (Value.pointer v_57)) (r_assign rfl rfl) ?_
              refine HL_nil ?_
              refine HC_seq ?_
              refine HC_seq ?_
              refine HC_region ?_
              refine s_rd (v := (Value.pointer v_57)) (r_move rfl rfl) ?_
              refine s_rd (v := (Value.bool (v_57.isNone))) (r_eqlNil rfl rfl rfl underlying24) ?_
              refine HL_nil ?_
              refine HC_cond (t := (v_57.isNone)) rfl (fun hc => ?_) (fun hc => ?_)
              · replace h := h.1 hc
                clear hc
                refine HC_seq ?_
                refine HC_region ?_
                refine s_rd (v := (Value.pointer d_0)) (r_move rfl rfl) ?_
                refine s_rd (v := (Value.pointer d_0)) (r_assign rfl rfl) ?_
                refine s_rd (v := (Value.int .i64 (3 : Int))) (r_assign rfl rfl) ?_
                refine HL_nil ?_
                exact HC_ret (show endQ prog f23 R .ret _ _ from ⟨_, res2 rfl (rv_tmp rfl) (rv_tmp rfl), h⟩)
              · replace h := h.2 hc
                clear hc
                refine HC_skip ?_
                refine HC_seq ?_
                refine HC_region ?_
                refine s_rd (v := (Value.pointer v_57)) (r_move rfl rfl) ?_
                refine s_ef (k_call (vs := [(Value.pointer v_57)]) cb20 (evC rfl evN) (h.mono ?_))
                clear h; rintro v F ⟨rfl, h⟩
                refine HL_nil ?_
                refine HC_seq ?_
                refine HC_region ?_
                refine s_rd (v := (Value.pointer v_57)) (r_move rfl rfl) ?_
                refine s_ef (k_call (vs := [(Value.int .u8 (121 : Int))]) cb15 (evC rfl evN) (h.mono ?_))
                clear h; rintro v F ⟨v_64, rfl, h⟩
                refine s_ef (k_call (vs := [(Value.pointer v_57), (Value.int .i64 (0 : Int)), (Sl.v v_64)]) cb14 (evC rfl (evC rfl (evC rfl evN))) (h.mono ?_))
                clear h; rintro v F ⟨v_65, rfl, h⟩
                refine HL_nil ?_
                refine HC_region ?_
                refine s_rd (v := (Value.pointer v_57)) (r_move rfl rfl) ?_
                refine s_ef (k_call (vs := [(Value.pointer v_57)]) cb17 (evC rfl evN) (h.mono ?_))
                clear h; rintro v F ⟨v_67, rfl, h⟩
                refine HL_nil ?_
                refine HC_seq ?_
                refine HC_region ?_
                refine s_rd (v := (Value.pointer d_0)) (r_move rfl rfl) ?_
                refine s_rd (v := (Value.pointer d_0)) (r_assign rfl rfl) ?_
                refine s_rd (v := (Value.int .i64 (0 : Int))) (r_assign rfl rfl) ?_
                refine HL_nil ?_
                exact HC_ret (show endQ prog f23 R .ret _ _ from ⟨_, res2 rfl (rv_tmp rfl) (rv_tmp rfl), h⟩)
            · replace h := h.2 (of_decide_eq_false hc)
              clear hc
              refine HC_seq ?_
              refine HC_draw0 (by kernel_rfl) (fun hp => ?_)
              refine g_pu (i := 0) (v := (Value.pointer d_0)) rfl (by kernel_rfl) (by kernel_rfl) (by kernel_rfl) (fun _ _ _ h => h) (fun _ => r_move rfl rfl) hp ?_
              refine g_pu (i := 1) (v := (Value.pointer d_0)) rfl (by kernel_rfl) (by kernel_rfl) (by kernel_rfl) (fun _ _ _ h => h) (fun _ => r_move rfl rfl) hp ?_
              refine g_pu (i := 2) (v := (Value.pointer (some (Addr.mk b3 1 none)))) rfl (by kernel_rfl) (by kernel_rfl) (by kernel_rfl) (fun _ _ _ h => h) (fun _ => w_fieldAddr (a' := (Addr.mk b3 1 none)) rfl underlying40 rfl rfl sz3 rfl rfl) hp ?_
              obtain ⟨v_14, hc14, h⟩ := h
              refine g_rd (i := 3) (v := (Value.int .i64 v_14)) rfl (by kernel_rfl) (by kernel_rfl) (by kernel_rfl) (fun _ _ _ h => h) (r_load1 rfl rfl underlying3 rfl hc14) hp (fun S3 q3 => ?_)
              replace hp := holdC (i := 3) (q3 _ (r_load1 rfl rfl underlying3 rfl hc14)) hp
              obtain ⟨v_15, hs15, hc15, h⟩ := h
              refine g_rd (i := 4) (v := (Value.agg v_15)) rfl (by kernel_rfl) (by kernel_rfl) (by kernel_rfl) (fun _ _ _ h => h) (w_loadN rfl underlying40 rfl sz40 hs15 hc15) hp (fun S4 q4 => ?_)
              replace hp := holdC (i := 4) (q4 _ (w_loadN rfl underlying40 rfl sz40 hs15 hc15)) hp
              refine RG_eff1 (i := 5) (by kernel_rfl) (g_op (Sp' := [(3, S3)]) rfl rfl (k_call (vs := [(Value.agg v_15)]) cb28 (evC rfl evN) (h.mono ?_)))
              clear h; rintro v F ⟨v_16, rfl, h⟩
              obtain ⟨hc14', h⟩ := h
              refine holdI (holdC (i := 3) (q3 _ (r_load1 rfl rfl underlying3 rfl hc14')) hold0) (fun hp => ?_)
              refine RG_eff1 (i := 6) (by kernel_rfl) (g_op (Sp' := []) rfl rfl (k_call (vs := [(Value.pointer d_0), (Value.int .i64 v_14), (Sl.v v_16)]) cb14 (evC rfl (evC rfl (evC rfl evN))) (h.mono ?_)))
              clear h; rintro v F ⟨v_17, rfl, h⟩
              refine holdI hold0 (fun hp => ?_)
              refine g_pu (i := 7) (v := (Value.pointer d_0)) rfl (by kernel_rfl) (by kernel_rfl) (by kernel_rfl) (fun _ _ _ h => h) (fun _ => r_assign rfl rfl) hp ?_
              refine g_pu (i := 8) (v := (Value.int .i64 v_17)) rfl (by kernel_rfl) (by kernel_rfl) (by kernel_rfl) (fun _ _ _ h => h) (fun _ => r_assign rfl rfl) hp ?_
              refine RG_done (by kernel_rfl) ?_
              exact HC_ret (show endQ prog f23 R .ret _ _ from ⟨_, res2 rfl (rv_tmp rfl) (rv_tmp rfl), h⟩)

end Go.Proofs.Ythnolhcknhhipaa
