/-
  What functions of the program do, in a clean form, each with the proof that its code does so. Printed by a program.
-/
import Derived.Test.YthnolhcknhhipaaGf
namespace Go.Proofs.Ythnolhcknhhipaa
open Go Go.Proofs.Try
set_option maxRecDepth 10000
/- 13 (*koine.disk.Disk).Pending -/
def b13 (d_0 : Option Addr) (R : Value → PH → Prop) (F : PH) : Prop :=
  ∃ d0a_ : Addr, d_0 = some d0a_ ∧ ∃ v_6 : Sl, F.cell (Addr.add d0a_ 1) = some (Sl.v v_6) ∧
  R (Value.int .i64 (v_6.len : Int)) F
theorem c13 {d_0 : Option Addr} {R : Value → PH → Prop} {F : PH} (h : b13 d_0 R F) : Spec prog 13 #[(Value.pointer d_0)] F R := by
  refine spec_of (args := [(Value.pointer d_0)]) func13 rfl ntmps13 rfl ?_
  unfold b13 at h
  refine HC_seq ?_
  refine HC_region ?_
  refine s_rd (v := (Value.int .i64 (0 : Int))) (r_assign rfl rfl) ?_
  refine HL_nil ?_
  refine HC_seq ?_
  refine HC_region ?_
  refine s_rd (v := (Value.pointer d_0)) (r_move rfl rfl) ?_
  obtain ⟨d0a_, rfl, h⟩ := h
  refine s_rd (v := (Value.pointer (some d0a_))) (r_nilCheck rfl rfl) ?_
  refine s_rd (v := (Value.pointer (some (Addr.add d0a_ 1)))) (w_fieldAddr (a' := (Addr.add d0a_ 1)) rfl underlying63 rfl rfl sz61 rfl rfl) ?_
  obtain ⟨v_6, hc6, h⟩ := h
  refine s_rd (v := (Sl.v v_6)) (r_load1 rfl rfl underlying61 rfl hc6) ?_
  refine s_rd (v := (Value.int .i64 (v_6.len : Int))) (r_lenSl rfl rfl underlying61) ?_
  refine s_rd (v := (Value.int .i64 (v_6.len : Int))) (r_assign rfl rfl) ?_
  refine HL_nil ?_
  exact HC_ret (show endQ prog f13 R .ret _ _ from ⟨_, res1 rfl (rv_tmp rfl), h⟩)

/- 25 (*koine.disk.Disk).Sectors -/
def b25 (d_0 : Option Addr) (R : Value → PH → Prop) (F : PH) : Prop :=
  ∃ d0a_ : Addr, d_0 = some d0a_ ∧ ∃ v_6 : Sl, F.cell d0a_ = some (Sl.v v_6) ∧
  R (Value.int .i64 (IntKind.i64.wrap (Int.tdiv (v_6.len : Int) (64 : Int)))) F
theorem c25 {d_0 : Option Addr} {R : Value → PH → Prop} {F : PH} (h : b25 d_0 R F) : Spec prog 25 #[(Value.pointer d_0)] F R := by
  refine spec_of (args := [(Value.pointer d_0)]) func25 rfl ntmps25 rfl ?_
  unfold b25 at h
  refine HC_seq ?_
  refine HC_region ?_
  refine s_rd (v := (Value.int .i64 (0 : Int))) (r_assign rfl rfl) ?_
  refine HL_nil ?_
  refine HC_seq ?_
  refine HC_region ?_
  refine s_rd (v := (Value.pointer d_0)) (r_move rfl rfl) ?_
  obtain ⟨d0a_, rfl, h⟩ := h
  refine s_rd (v := (Value.pointer (some d0a_))) (r_nilCheck rfl rfl) ?_
  refine s_rd (v := (Value.pointer (some d0a_))) (w_fieldAddr (a' := d0a_) rfl underlying63 rfl rfl sz26 rfl rfl) ?_
  obtain ⟨v_6, hc6, h⟩ := h
  refine s_rd (v := (Sl.v v_6)) (r_load1 rfl rfl underlying26 rfl hc6) ?_
  refine s_rd (v := (Value.int .i64 (v_6.len : Int))) (r_lenSl rfl rfl underlying26) ?_
  refine s_rd (v := (Value.int .i64 (IntKind.i64.wrap (Int.tdiv (v_6.len : Int) (64 : Int))))) (r_quo rfl rfl rfl (by decide)) ?_
  refine s_rd (v := (Value.int .i64 (IntKind.i64.wrap (Int.tdiv (v_6.len : Int) (64 : Int))))) (r_assign rfl rfl) ?_
  refine HL_nil ?_
  exact HC_ret (show endQ prog f25 R .ret _ _ from ⟨_, res1 rfl (rv_tmp rfl), h⟩)

/- 31 (*koine.disk.Disk).sector -/
def b31 (d_0 : Option Addr) (at_1 : Int) (R : Value → PH → Prop) (F : PH) : Prop :=
  ∃ d0a_ : Addr, d_0 = some d0a_ ∧ ∃ v_8 : Sl, F.cell d0a_ = some (Sl.v v_8) ∧
  0 ≤ (IntKind.i64.wrap (at_1 * (64 : Int))) ∧ 0 ≤ (IntKind.i64.wrap ((IntKind.i64.wrap (at_1 + (1 : Int))) * (64 : Int))) ∧ 0 ≤ (IntKind.i64.wrap ((IntKind.i64.wrap (at_1 + (1 : Int))) * (64 : Int))) ∧ (Int.toNat (IntKind.i64.wrap (at_1 * (64 : Int)))) ≤ Int.toNat (IntKind.i64.wrap ((IntKind.i64.wrap (at_1 + (1 : Int))) * (64 : Int))) ∧ (IntKind.i64.wrap ((IntKind.i64.wrap (at_1 + (1 : Int))) * (64 : Int))) ≤ (IntKind.i64.wrap ((IntKind.i64.wrap (at_1 + (1 : Int))) * (64 : Int))) ∧ (IntKind.i64.wrap ((IntKind.i64.wrap (at_1 + (1 : Int))) * (64 : Int))) ≤ (v_8.cap : Int) ∧ 
  R (Sl.v (Sl.cut v_8 1 (Int.toNat (IntKind.i64.wrap (at_1 * (64 : Int)))) (Int.toNat (IntKind.i64.wrap ((IntKind.i64.wrap (at_1 + (1 : Int))) * (64 : Int)))) (Int.toNat (IntKind.i64.wrap ((IntKind.i64.wrap (at_1 + (1 : Int))) * (64 : Int)))))) F
theorem c31 {d_0 : Option Addr} {at_1 : Int} {R : Value → PH → Prop} {F : PH} (h : b31 d_0 at_1 R F) : Spec prog 31 #[(Value.pointer d_0), (Value.int .i64 at_1)] F R := by
  refine spec_of (args := [(Value.pointer d_0), (Value.int .i64 at_1)]) func31 rfl ntmps31 rfl ?_
  unfold b31 at h
  refine HC_seq ?_
  refine HC_region ?_
  refine s_rd (v := (Sl.v Sl.nil)) (r_assign rfl rfl) ?_
  refine HL_nil ?_
  refine HC_seq ?_
  refine HC_region ?_
  refine s_rd (v := (Value.pointer d_0)) (r_move rfl rfl) ?_
  obtain ⟨d0a_, rfl, h⟩ := h
  refine s_rd (v := (Value.pointer (some d0a_))) (r_nilCheck rfl rfl) ?_
  refine s_rd (v := (Value.pointer (some d0a_))) (w_fieldAddr (a' := d0a_) rfl underlying63 rfl rfl sz26 rfl rfl) ?_
  obtain ⟨v_8, hc8, h⟩ := h
  refine s_rd (v := (Sl.v v_8)) (r_load1 rfl rfl underlying26 rfl hc8) ?_
  refine s_rd (v := (Value.int .i64 at_1)) (r_move rfl rfl) ?_
  refine s_rd (v := (Value.int .i64 (IntKind.i64.wrap (at_1 * (64 : Int))))) (r_mul rfl rfl rfl) ?_
  refine s_rd (v := (Value.int .i64 at_1)) (r_move rfl rfl) ?_
  refine s_rd (v := (Value.int .i64 (IntKind.i64.wrap (at_1 + (1 : Int))))) (r_add rfl rfl rfl) ?_
  refine s_rd (v := (Value.int .i64 (IntKind.i64.wrap ((IntKind.i64.wrap (at_1 + (1 : Int))) * (64 : Int))))) (r_mul rfl rfl rfl) ?_
  refine s_rd (v := (Value.int .i64 at_1)) (r_move rfl rfl) ?_
  refine s_rd (v := (Value.int .i64 (IntKind.i64.wrap (at_1 + (1 : Int))))) (r_add rfl rfl rfl) ?_
  refine s_rd (v := (Value.int .i64 (IntKind.i64.wrap ((IntKind.i64.wrap (at_1 + (1 : Int))) * (64 : Int))))) (r_mul rfl rfl rfl) ?_
  obtain ⟨hq17_0, hr17_0, hr17_1, hr17_2, hr17_3, hr17_4, h⟩ := h
  refine s_rd (v := (Sl.v (Sl.cut v_8 1 (Int.toNat (IntKind.i64.wrap (at_1 * (64 : Int)))) (Int.toNat (IntKind.i64.wrap ((IntKind.i64.wrap (at_1 + (1 : Int))) * (64 : Int)))) (Int.toNat (IntKind.i64.wrap ((IntKind.i64.wrap (at_1 + (1 : Int))) * (64 : Int))))))) (r_sliceSl3 rfl rfl underlying26 sz5 (bo_ev rfl hq17_0) rfl rfl hr17_0 hr17_1 hr17_2 hr17_3 hr17_4) ?_
  refine s_rd (v := (Sl.v (Sl.cut v_8 1 (Int.toNat (IntKind.i64.wrap (at_1 * (64 : Int)))) (Int.toNat (IntKind.i64.wrap ((IntKind.i64.wrap (at_1 + (1 : Int))) * (64 : Int)))) (Int.toNat (IntKind.i64.wrap ((IntKind.i64.wrap (at_1 + (1 : Int))) * (64 : Int))))))) (r_assign rfl rfl) ?_
  refine HL_nil ?_
  exact HC_ret (show endQ prog f31 R .ret _ _ from ⟨_, res1 rfl (rv_tmp rfl), h⟩)

/- 14 (*koine.disk.Disk).Write -/
def b14 (d_0 : Option Addr) (at_1 : Int) (data_2 : Sl) (R : Value → PH → Prop) (F : PH) : Prop :=
  ((at_1 < (0 : Int) →
    R (Value.int .i64 (1 : Int)) F) ∧
  (¬ (at_1 < (0 : Int)) →
    Spec prog 25 #[(Value.pointer d_0)] F fun v F => ∃ v_14 : Int, v = (Value.int .i64 v_14) ∧
    ((v_14 ≤ at_1 →
      R (Value.int .i64 (1 : Int)) F) ∧
    (¬ (v_14 ≤ at_1) →
      (((data_2.len : Int) ≠ (64 : Int) →
        R (Value.int .i64 (1 : Int)) F) ∧
      (¬ ((data_2.len : Int) ≠ (64 : Int)) →
        Spec prog 30 #[(Value.pointer d_0)] F fun v F => ∃ v_23 : Int, v = (Value.int .i64 v_23) ∧
        ((v_23 ≠ (0 : Int) →
          R (Value.int .i64 v_23) F) ∧
        (¬ (v_23 ≠ (0 : Int)) →
          ∀ b8, F b8 = none → atF (F.set b8 (.cells (#[Value.int .i64 0] ++ Array.replicate 64 (Value.int .u8 0)) 66)) fun F =>
          (Array.setIfInBounds (#[Value.int .i64 0] ++ Array.replicate 64 (Value.int .u8 0)) 0 (Value.int .i64 at_1)).size = 65 ∧ (∀ v ∈ (Array.setIfInBounds (#[Value.int .i64 0] ++ Array.replicate 64 (Value.int .u8 0)) 0 (Value.int .i64 at_1)).toList, storable v) ∧ ∃ c e, F (Addr.mk b8 0 none).block = some (.cells c e (0, 0)) ∧ (Addr.mk b8 0 none).spot = none ∧ (Addr.mk b8 0 none).off + 65 ≤ c.size ∧
          atF (F.set (Addr.mk b8 0 none).block (.cells (wr c (Addr.mk b8 0 none).off (Array.setIfInBounds (#[Value.int .i64 0] ++ Array.replicate 64 (Value.int .u8 0)) 0 (Value.int .i64 at_1)).toList) e)) fun F =>
          runs prog (Builtin.copy_ #[26, 26] 3 #[(Sl.v (Sl.cut ⟨some (Addr.mk b8 1 none), 64, 64⟩ 1 0 64 64)), (Sl.v data_2)]) F fun v F => ∃ v_32 : Int, v = (Value.int .i64 v_32) ∧
          ∃ d0a_ : Addr, d_0 = some d0a_ ∧ ∃ v_37 : Sl, F.cell (Addr.add d0a_ 1) = some (Sl.v v_37) ∧
          ∃ v_38 : Array Value, v_38.size = 65 ∧ F.row (Addr.mk b8 0 none) v_38 ∧
          v_38.size = 65 ∧ ∀ b39, F b39 = none → atF (F.set b39 (.cells v_38 66)) fun F =>
          runs prog (Builtin.append_ #[61, 61] 61 #[(Sl.v v_37), (Sl.v (Sl.mk (some (Addr.mk b39 0 none)) 1 1))]) F fun v F => ∃ v_40 : Sl, v = (Sl.v v_40) ∧
          ∃ c e, F (Addr.add d0a_ 1).block = some (.cells c e (0, 0)) ∧ (Addr.add d0a_ 1).spot = none ∧ (Addr.add d0a_ 1).off < c.size ∧
          atF (F.set (Addr.add d0a_ 1).block (.cells (c.setIfInBounds (Addr.add d0a_ 1).off (Sl.v v_40)) e)) fun F =>
          R (Value.int .i64 (0 : Int)) F))))))))
theorem c14 {d_0 : Option Addr} {at_1 : Int} {data_2 : Sl} {R : Value → PH → Prop} {F : PH} (h : b14 d_0 at_1 data_2 R F) : Spec prog 14 #[(Value.pointer d_0), (Value.int .i64 at_1), (Sl.v data_2)] F R := by
  refine spec_of (args := [(Value.pointer d_0), (Value.int .i64 at_1), (Sl.v data_2)]) func14 rfl ntmps14 rfl ?_
  unfold b14 at h
  refine HC_seq ?_
  refine HC_region ?_
  refine s_rd (v := (Value.int .i64 (0 : Int))) (r_assign rfl rfl) ?_
  refine HL_nil ?_
  refine HC_seq ?_
  refine HC_seq ?_
  refine HC_region ?_
  refine s_rd (v := (Value.int .i64 at_1)) (r_move rfl rfl) ?_
  refine s_rd (v := (Value.bool (decide (at_1 < (0 : Int))))) (r_lss rfl rfl rfl) ?_
  refine s_rd (v := (Value.bool (decide (at_1 < (0 : Int))))) (r_move rfl rfl) ?_
  by_cases hc : at_1 < (0 : Int)
  · replace h := h.1 hc
    refine HL_known (t := 10) (v := .bool true) (congrArg Value.bool (decide_eq_true hc)) ?_
    refine HL_known (t := 11) (v := .bool true) (congrArg Value.bool (decide_eq_true hc)) ?_
    refine s_skip ?_
    refine s_skip ?_
    refine s_skip ?_
    refine s_skip ?_
    refine s_rd (v := (Value.bool true)) (r_pick rfl rfl (fun _ => rfl) (fun h => by cases h)) ?_
    refine s_rd (v := (Value.bool true)) (r_move rfl rfl) ?_
    refine s_skip ?_
    refine s_skip ?_
    refine s_skip ?_
    refine s_rd (v := (Value.bool true)) (r_pick rfl rfl (fun _ => rfl) (fun h => by cases h)) ?_
    refine HL_nil ?_
    refine HC_condT rfl ?_
    refine HC_seq ?_
    refine HC_region ?_
    refine s_rd (v := (Value.int .i64 (1 : Int))) (r_assign rfl rfl) ?_
    refine HL_nil ?_
    exact HC_ret (show endQ prog f14 R .ret _ _ from ⟨_, res1 rfl (rv_tmp rfl), h⟩)
  · replace h := h.2 hc
    refine HL_known (t := 10) (v := .bool false) (congrArg Value.bool (decide_eq_false hc)) ?_
    refine HL_known (t := 11) (v := .bool false) (congrArg Value.bool (decide_eq_false hc)) ?_
    refine s_rd (v := (Value.int .i64 at_1)) (r_move rfl rfl) ?_
    refine s_rd (v := (Value.pointer d_0)) (r_move rfl rfl) ?_
    refine s_ef (k_call (vs := [(Value.pointer d_0)]) cb25 (evC rfl evN) (h.mono ?_))
    clear h; rintro v F ⟨v_14, rfl, h⟩
    refine s_rd (v := (Value.bool (decide (v_14 ≤ at_1)))) (r_geq rfl rfl rfl) ?_
    refine s_rd (v := (Value.bool (decide (v_14 ≤ at_1)))) (r_pick rfl rfl (fun h => by cases h) (fun _ => rfl)) ?_
    refine s_rd (v := (Value.bool (decide (v_14 ≤ at_1)))) (r_move rfl rfl) ?_
    by_cases hc : v_14 ≤ at_1
    · replace h := h.1 hc
      refine HL_known (t := 15) (v := .bool true) (congrArg Value.bool (decide_eq_true hc)) ?_
      refine HL_known (t := 16) (v := .bool true) (congrArg Value.bool (decide_eq_true hc)) ?_
      refine HL_known (t := 17) (v := .bool true) (congrArg Value.bool (decide_eq_true hc)) ?_
      refine s_skip ?_
      refine s_skip ?_
      refine s_skip ?_
      refine s_rd (v := (Value.bool true)) (r_pick rfl rfl (fun _ => rfl) (fun h => by cases h)) ?_
      refine HL_nil ?_
      refine HC_condT rfl ?_
      refine HC_seq ?_
      refine HC_region ?_
      refine s_rd (v := (Value.int .i64 (1 : Int))) (r_assign rfl rfl) ?_
      refine HL_nil ?_
      exact HC_ret (show endQ prog f14 R .ret _ _ from ⟨_, res1 rfl (rv_tmp rfl), h⟩)
    · replace h := h.2 hc
      refine HL_known (t := 15) (v := .bool false) (congrArg Value.bool (decide_eq_false hc)) ?_
      refine HL_known (t := 16) (v := .bool false) (congrArg Value.bool (decide_eq_false hc)) ?_
      refine HL_known (t := 17) (v := .bool false) (congrArg Value.bool (decide_eq_false hc)) ?_
      refine s_rd (v := (Sl.v data_2)) (r_move rfl rfl) ?_
      refine s_rd (v := (Value.int .i64 (data_2.len : Int))) (r_lenSl rfl rfl underlying26) ?_
      refine s_rd (v := (Value.bool (decide ((data_2.len : Int) ≠ (64 : Int))))) (w_neq rfl rfl) ?_
      refine s_rd (v := (Value.bool (decide ((data_2.len : Int) ≠ (64 : Int))))) (r_pick rfl rfl (fun h => by cases h) (fun _ => rfl)) ?_
      refine HL_nil ?_
      refine HC_cond (t := (decide ((data_2.len : Int) ≠ (64 : Int)))) rfl (fun hc => ?_) (fun hc => ?_)
      · replace h := h.1 (of_decide_eq_true hc)
        clear hc
        refine HC_seq ?_
        refine HC_region ?_
        refine s_rd (v := (Value.int .i64 (1 : Int))) (r_assign rfl rfl) ?_
        refine HL_nil ?_
        exact HC_ret (show endQ prog f14 R .ret _ _ from ⟨_, res1 rfl (rv_tmp rfl), h⟩)
      · replace h := h.2 (of_decide_eq_false hc)
        clear hc
        refine HC_skip ?_
        refine HC_seq ?_
        refine HC_seq ?_
        refine HC_region ?_
        refine s_rd (v := (Value.pointer d_0)) (r_move rfl rfl) ?_
        refine s_ef (k_call (vs := [(Value.pointer d_0)]) cb30 (evC rfl evN) (h.mono ?_))
        clear h; rintro v F ⟨v_23, rfl, h⟩
        refine s_rd (v := (Value.int .i64 v_23)) (r_assign rfl rfl) ?_
        refine HL_nil ?_
        refine HC_seq ?_
        refine HC_region ?_
        refine s_rd (v := (Value.int .i64 v_23)) (r_move rfl rfl) ?_
        refine s_rd (v := (Value.bool (decide (v_23 ≠ (0 : Int))))) (w_neq rfl rfl) ?_
        refine HL_nil ?_
        refine HC_cond (t := (decide (v_23 ≠ (0 : Int)))) rfl (fun hc => ?_) (fun hc => ?_)
        · replace h := h.1 (of_decide_eq_true hc)
          clear hc
          refine HC_seq ?_
          refine HC_region ?_
          refine s_rd (v := (Value.int .i64 v_23)) (r_move rfl rfl) ?_
          refine s_rd (v := (Value.int .i64 v_23)) (r_assign rfl rfl) ?_
          refine HL_nil ?_
          exact HC_ret (show endQ prog f14 R .ret _ _ from ⟨_, res1 rfl (rv_tmp rfl), h⟩)
        · replace h := h.2 (of_decide_eq_false hc)
          clear hc
          refine HC_skip ?_
          refine HC_seq ?_
          refine HC_region ?_
          refine s_rd (v := (Value.int .i64 at_1)) (r_move rfl rfl) ?_
          refine s_rd (v := (Value.agg (Array.setIfInBounds (#[Value.int .i64 0] ++ Array.replicate 64 (Value.int .u8 0)) 0 (Value.int .i64 at_1)))) (w_buildStruct (cells := (Array.setIfInBounds (#[Value.int .i64 0] ++ Array.replicate 64 (Value.int .u8 0)) 0 (Value.int .i64 at_1))) underlying66 zr66 kf66 (evPC rfl evPN) (fill1 (place_of rfl rfl sz3) rfl rfl (fillN rfl))) ?_
          refine s_ef (k_alloc zr66 ?_)
          intro b8 hf_b8
          replace h := atE (h b8 hf_b8)
          refine s_ef0 (k_storeN (vs := (Array.setIfInBounds (#[Value.int .i64 0] ++ Array.replicate 64 (Value.int .u8 0)) 0 (Value.int .i64 at_1))) rfl rfl sz66 (by decide) ?_)
          obtain ⟨hz1, hz2, c, e, hz3, hz4, hz5, h⟩ := h
          refine ⟨hz1, hz2, c, e, hz3, hz4, hz5, ?_⟩
          replace h := atE h
          refine HL_nil ?_
          refine HC_seq ?_
          refine HC_region ?_
          refine s_rd (v := (Value.pointer (some (Addr.mk b8 1 none)))) (w_fieldAddr (a' := (Addr.mk b8 1 none)) rfl underlying66 rfl rfl sz64 rfl rfl) ?_
          refine s_rd (v := (Sl.v (Sl.cut ⟨some (Addr.mk b8 1 none), 64, 64⟩ 1 0 64 64))) (r_sliceAr rfl rfl underlying64 sz5 bo_none bo_none (Nat.zero_le _) (Nat.le_refl _)) ?_
          refine s_rd (v := (Sl.v data_2)) (r_move rfl rfl) ?_
          refine s_ef (k_copy rfl rfl (runs_mono _ _ h ?_))
          clear h; rintro v F ⟨v_32, rfl, h⟩
          refine HL_nil ?_
          refine HC_seq ?_
          refine HC_draw0 (by kernel_rfl) (fun hp => ?_)
          refine g_pu (i := 0) (v := (Value.pointer d_0)) rfl (by kernel_rfl) (by kernel_rfl) (by kernel_rfl) (fun _ _ _ h => h) (fun _ => r_move rfl rfl) hp ?_
          refine g_pu (i := 1) (v := (Value.pointer d_0)) rfl (by kernel_rfl) (by kernel_rfl) (by kernel_rfl) (fun _ _ _ h => h) (fun _ => r_move rfl rfl) hp ?_
          obtain ⟨d0a_, rfl, h⟩ := h
          refine g_pu (i := 2) (v := (Value.pointer (some d0a_))) rfl (by kernel_rfl) (by kernel_rfl) (by kernel_rfl) (fun _ _ _ h => h) (fun _ => r_nilCheck rfl rfl) hp ?_
          refine g_pu (i := 3) (v := (Value.pointer (some (Addr.add d0a_ 1)))) rfl (by kernel_rfl) (by kernel_rfl) (by kernel_rfl) (fun _ _ _ h => h) (fun _ => w_fieldAddr (a' := (Addr.add d0a_ 1)) rfl underlying63 rfl rfl sz61 rfl rfl) hp ?_
          obtain ⟨v_37, hc37, h⟩ := h
          refine g_rd (i := 4) (v := (Sl.v v_37)) rfl (by kernel_rfl) (by kernel_rfl) (by kernel_rfl) (fun _ _ _ h => h) (r_load1 rfl rfl underlying61 rfl hc37) hp (fun S4 q4 => ?_)
          replace hp := holdC (i := 4) (q4 _ (r_load1 rfl rfl underlying61 rfl hc37)) hp
          obtain ⟨v_38, hs38, hc38, h⟩ := h
          refine g_rd (i := 5) (v := (Value.agg v_38)) rfl (by kernel_rfl) (by kernel_rfl) (by kernel_rfl) (fun _ _ _ h => h) (w_loadN rfl underlying66 rfl sz66 hs38 hc38) hp (fun S5 q5 => ?_)
          replace hp := holdC (i := 5) (q5 _ (w_loadN rfl underlying66 rfl sz66 hs38 hc38)) hp
          obtain ⟨hz39, h⟩ := h
          refine RG_eff1 (i := 6) (by kernel_rfl) (g_op (Sp' := [(4, S4)]) rfl rfl (k_buildSlice (cells := v_38) underlying61 sz66 (by decide) zr66 rfl (evPC rfl evPN) (fillWhole hz39 rfl rfl) rfl ?_))
          intro b39 hf_b39
          replace h := atE (h b39 hf_b39)
          refine holdI (holdC (i := 4) (q4 _ (r_load1 rfl rfl underlying61 rfl (cell_set_fresh hf_b39 hc37))) hold0) (fun hp => ?_)
          refine RG_eff1 (i := 7) (by kernel_rfl) (g_op (Sp' := []) rfl rfl (k_append rfl rfl (runs_mono _ _ h ?_)))
          clear h; rintro v F ⟨v_40, rfl, h⟩
          refine holdI hold0 (fun hp => ?_)
          refine g_pu (i := 8) (v := (Value.pointer (some d0a_))) rfl (by kernel_rfl) (by kernel_rfl) (by kernel_rfl) (fun _ _ _ h => h) (fun _ => r_nilCheck rfl rfl) hp ?_
          refine g_pu (i := 9) (v := (Value.pointer (some (Addr.add d0a_ 1)))) rfl (by kernel_rfl) (by kernel_rfl) (by kernel_rfl) (fun _ _ _ h => h) (fun _ => w_fieldAddr (a' := (Addr.add d0a_ 1)) rfl underlying63 rfl rfl sz61 rfl rfl) hp ?_
          refine RG_eff1 (i := 10) (by kernel_rfl) (g_op0 (Sp' := []) rfl rfl (k_store1 (v := (Sl.v v_40)) rfl rfl sz61 rfl st_sl ?_))
          obtain ⟨c, e, hz3, hz4, hz5, h⟩ := h
          refine ⟨c, e, hz3, hz4, hz5, ?_⟩
          replace h := atE h
          refine holdI hold0 (fun hp => ?_)
          refine RG_done (by kernel_rfl) ?_
          refine HC_seq ?_
          refine HC_region ?_
          refine s_rd (v := (Value.int .i64 (0 : Int))) (r_assign rfl rfl) ?_
          refine HL_nil ?_
          exact HC_ret (show endQ prog f14 R .ret _ _ from ⟨_, res1 rfl (rv_tmp rfl), h⟩)

/- 30 (*koine.disk.Disk).ready -/
def b30 (d_0 : Option Addr) (R : Value → PH → Prop) (F : PH) : Prop :=
  ∃ d0a_ : Addr, d_0 = some d0a_ ∧ ∃ v_6 : Bool, F.cell (Addr.add d0a_ 2) = some (Value.bool v_6) ∧
  ((v_6 = true →
    R (Value.int .i64 (340 : Int)) F) ∧
  (v_6 = false →
    ∃ v_10 : Int, F.cell (Addr.add d0a_ 3) = some (Value.int .i64 v_10) ∧
    ((v_10 = (1 : Int) →
      ∃ v_16 : Sl, F.cell (Addr.add d0a_ 4) = some (Sl.v v_16) ∧
      Spec prog 19 #[(Value.pointer (some d0a_)), (Sl.v v_16)] F fun v F => v = Value.tuple #[] ∧
      R (Value.int .i64 (340 : Int)) F) ∧
    (¬ (v_10 = (1 : Int)) →
      ∃ v_22 : Int, F.cell (Addr.add d0a_ 3) = some (Value.int .i64 v_22) ∧
      ∃ c e, F (Addr.add d0a_ 3).block = some (.cells c e (0, 0)) ∧ (Addr.add d0a_ 3).spot = none ∧ (Addr.add d0a_ 3).off < c.size ∧
      atF (F.set (Addr.add d0a_ 3).block (.cells (c.setIfInBounds (Addr.add d0a_ 3).off (Value.int .i64 (max (IntKind.i64.wrap (v_22 - (1 : Int))) (0 : Int)))) e)) fun F =>
      R (Value.int .i64 (0 : Int)) F))))
theorem c30 {d_0 : Option Addr} {R : Value → PH → Prop} {F : PH} (h : b30 d_0 R F) : Spec prog 30 #[(Value.pointer d_0)] F R := by
  refine spec_of (args := [(Value.pointer d_0)]) func30 rfl ntmps30 rfl ?_
  unfold b30 at h
  refine HC_seq ?_
  refine HC_region ?_
  refine s_rd (v := (Value.int .i64 (0 : Int))) (r_assign rfl rfl) ?_
  refine HL_nil ?_
  refine HC_seq ?_
  refine HC_seq ?_
  refine HC_region ?_
  refine s_rd (v := (Value.pointer d_0)) (r_move rfl rfl) ?_
  obtain ⟨d0a_, rfl, h⟩ := h
  refine s_rd (v := (Value.pointer (some d0a_))) (r_nilCheck rfl rfl) ?_
  refine s_rd (v := (Value.pointer (some (Addr.add d0a_ 2)))) (w_fieldAddr (a' := (Addr.add d0a_ 2)) rfl underlying63 rfl rfl sz4 rfl rfl) ?_
  obtain ⟨v_6, hc6, h⟩ := h
  refine s_rd (v := (Value.bool v_6)) (r_load1 rfl rfl underlying4 rfl hc6) ?_
  refine HL_nil ?_
  refine HC_cond (t := v_6) rfl (fun hc => ?_) (fun hc => ?_)
  · replace h := h.1 hc
    clear hc
    refine HC_seq ?_
    refine HC_region ?_
    refine s_rd (v := (Value.int .i64 (340 : Int))) (r_assign rfl rfl) ?_
    refine HL_nil ?_
    exact HC_ret (show endQ prog f30 R .ret _ _ from ⟨_, res1 rfl (rv_tmp rfl), h⟩)
  · replace h := h.2 hc
    clear hc
    refine HC_skip ?_
    refine HC_seq ?_
    refine HC_seq ?_
    refine HC_region ?_
    refine s_rd (v := (Value.pointer (some d0a_))) (r_move rfl rfl) ?_
    refine s_rd (v := (Value.pointer (some d0a_))) (r_nilCheck rfl rfl) ?_
    refine s_rd (v := (Value.pointer (some (Addr.add d0a_ 3)))) (w_fieldAddr (a' := (Addr.add d0a_ 3)) rfl underlying63 rfl rfl sz3 rfl rfl) ?_
    obtain ⟨v_10, hc10, h⟩ := h
    refine s_rd (v := (Value.int .i64 v_10)) (r_load1 rfl rfl underlying3 rfl hc10) ?_
    refine s_rd (v := (Value.bool (decide (v_10 = (1 : Int))))) (w_eql rfl rfl) ?_
    refine HL_nil ?_
    refine HC_cond (t := (decide (v_10 = (1 : Int)))) rfl (fun hc => ?_) (fun hc => ?_)
    · replace h := h.1 (of_decide_eq_true hc)
      clear hc
      refine HC_seq ?_
      refine HC_region ?_
      refine s_rd (v := (Value.pointer (some d0a_))) (r_move rfl rfl) ?_
      refine s_rd (v := (Value.pointer (some d0a_))) (r_move rfl rfl) ?_
      refine s_rd (v := (Value.pointer (some d0a_))) (r_nilCheck rfl rfl) ?_
      refine s_rd (v := (Value.pointer (some (Addr.add d0a_ 4)))) (w_fieldAddr (a' := (Addr.add d0a_ 4)) rfl underlying63 rfl rfl sz37 rfl rfl) ?_
      obtain ⟨v_16, hc16, h⟩ := h
      refine s_rd (v := (Sl.v v_16)) (r_load1 rfl rfl underlying37 rfl hc16) ?_
      refine s_ef (k_call (vs := [(Value.pointer (some d0a_)), (Sl.v v_16)]) cb19 (evC rfl (evC rfl evN)) (h.mono ?_))
      clear h; rintro v F ⟨rfl, h⟩
      refine HL_nil ?_
      refine HC_seq ?_
      refine HC_region ?_
      refine s_rd (v := (Value.int .i64 (340 : Int))) (r_assign rfl rfl) ?_
      refine HL_nil ?_
      exact HC_ret (show endQ prog f30 R .ret _ _ from ⟨_, res1 rfl (rv_tmp rfl), h⟩)
    · replace h := h.2 (of_decide_eq_false hc)
      clear hc
      refine HC_skip ?_
      refine HC_seq ?_
      refine HC_region ?_
      refine s_rd (v := (Value.pointer (some d0a_))) (r_move rfl rfl) ?_
      refine s_rd (v := (Value.pointer (some d0a_))) (r_move rfl rfl) ?_
      refine s_rd (v := (Value.pointer (some d0a_))) (r_nilCheck rfl rfl) ?_
      refine s_rd (v := (Value.pointer (some (Addr.add d0a_ 3)))) (w_fieldAddr (a' := (Addr.add d0a_ 3)) rfl underlying63 rfl rfl sz3 rfl rfl) ?_
      obtain ⟨v_22, hc22, h⟩ := h
      refine s_rd (v := (Value.int .i64 v_22)) (r_load1 rfl rfl underlying3 rfl hc22) ?_
      refine s_rd (v := (Value.int .i64 (IntKind.i64.wrap (v_22 - (1 : Int))))) (r_sub rfl rfl rfl) ?_
      refine s_rd (v := (Value.int .i64 (max (IntKind.i64.wrap (v_22 - (1 : Int))) (0 : Int)))) (r_max2 rfl rfl rfl) ?_
      refine s_rd (v := (Value.pointer (some d0a_))) (r_nilCheck rfl rfl) ?_
      refine s_rd (v := (Value.pointer (some (Addr.add d0a_ 3)))) (w_fieldAddr (a' := (Addr.add d0a_ 3)) rfl underlying63 rfl rfl sz3 rfl rfl) ?_
      refine s_ef0 (k_store1 (v := (Value.int .i64 (max (IntKind.i64.wrap (v_22 - (1 : Int))) (0 : Int)))) rfl rfl sz3 rfl st_int ?_)
      obtain ⟨c, e, hz3, hz4, hz5, h⟩ := h
      refine ⟨c, e, hz3, hz4, hz5, ?_⟩
      replace h := atE h
      refine HL_nil ?_
      refine HC_seq ?_
      refine HC_region ?_
      refine s_rd (v := (Value.int .i64 (0 : Int))) (r_assign rfl rfl) ?_
      refine HL_nil ?_
      exact HC_ret (show endQ prog f30 R .ret _ _ from ⟨_, res1 rfl (rv_tmp rfl), h⟩)

/- 19 (*koine.disk.Disk).Crash -/
def b19j1 (d0a_ : Addr) (R : Value → PH → Prop) (F : PH) : Prop :=
  ∃ c e, F (Addr.add d0a_ 1).block = some (.cells c e (0, 0)) ∧ (Addr.add d0a_ 1).spot = none ∧ (Addr.add d0a_ 1).off < c.size ∧
  atF (F.set (Addr.add d0a_ 1).block (.cells (c.setIfInBounds (Addr.add d0a_ 1).off (Sl.v Sl.nil)) e)) fun F =>
  ∃ c e, F (Addr.add d0a_ 4).block = some (.cells c e (0, 0)) ∧ (Addr.add d0a_ 4).spot = none ∧ (Addr.add d0a_ 4).off < c.size ∧
  atF (F.set (Addr.add d0a_ 4).block (.cells (c.setIfInBounds (Addr.add d0a_ 4).off (Sl.v Sl.nil)) e)) fun F =>
  ∃ c e, F (Addr.add d0a_ 3).block = some (.cells c e (0, 0)) ∧ (Addr.add d0a_ 3).spot = none ∧ (Addr.add d0a_ 3).off < c.size ∧
  atF (F.set (Addr.add d0a_ 3).block (.cells (c.setIfInBounds (Addr.add d0a_ 3).off (Value.int .i64 (0 : Int))) e)) fun F =>
  ∃ c e, F (Addr.add d0a_ 2).block = some (.cells c e (0, 0)) ∧ (Addr.add d0a_ 2).spot = none ∧ (Addr.add d0a_ 2).off < c.size ∧
  atF (F.set (Addr.add d0a_ 2).block (.cells (c.setIfInBounds (Addr.add d0a_ 2).off (Value.bool true)) e)) fun F =>
  R (Value.tuple #[]) F
abbrev b19J1 (d0a_ : Addr) (R : Value → PH → Prop) (E : En) (F : PH) : Prop := E 0 = (Value.pointer (some d0a_)) ∧ b19j1 d0a_ R F
def b19j2 (N1 : Int → PH → Prop) (d0a_ : Addr) (kept_1 : Sl) (v_14 : Sl) (v_16 : Int) (R : Value → PH → Prop) (F : PH) : Prop :=
  N1 (IntKind.i64.wrap (v_16 + (1 : Int))) F
abbrev b19J2 (N1 : Int → PH → Prop) (d0a_ : Addr) (kept_1 : Sl) (v_14 : Sl) (v_16 : Int) (R : Value → PH → Prop) (E : En) (F : PH) : Prop := E 0 = (Value.pointer (some d0a_)) ∧ E 1 = (Sl.v kept_1) ∧ E 14 = (Sl.v v_14) ∧ E 15 = (Value.int .i64 (v_14.len : Int)) ∧ E 16 = (Value.int .i64 v_16) ∧ b19j2 N1 d0a_ kept_1 v_14 v_16 R F
def b19L1 (N1 : Int → PH → Prop) (d0a_ : Addr) (kept_1 : Sl) (v_14 : Sl) (R : Value → PH → Prop) (v_16 : Int) (F : PH) : Prop :=
  ((v_16 < (v_14.len : Int) →
    ∃ a19_ : Addr, v_14.base = some a19_ ∧ 0 ≤ v_16 ∧ v_16 < (v_14.len : Int) ∧
    ∃ v_20 : Array Value, v_20.size = 65 ∧ F.row (Addr.add a19_ (Int.toNat v_16 * 65)) v_20 ∧
    ∀ b5, F b5 = none → atF (F.set b5 (.cells (#[Value.int .i64 0] ++ Array.replicate 64 (Value.int .u8 0)) 66)) fun F =>
    v_20.size = 65 ∧ (∀ v ∈ v_20.toList, storable v) ∧ ∃ c e, F (Addr.mk b5 0 none).block = some (.cells c e (0, 0)) ∧ (Addr.mk b5 0 none).spot = none ∧ (Addr.mk b5 0 none).off + 65 ≤ c.size ∧
    atF (F.set (Addr.mk b5 0 none).block (.cells (wr c (Addr.mk b5 0 none).off v_20.toList) e)) fun F =>
    ((v_16 < (kept_1.len : Int) →
      ∃ a27_ : Addr, kept_1.base = some a27_ ∧ 0 ≤ v_16 ∧ v_16 < (kept_1.len : Int) ∧
      ∃ v_28 : Int, F.cell (Addr.add a27_ (Int.toNat v_16 * 1)) = some (Value.int .i64 v_28) ∧
      ∃ v_33 : Int, F.cell (Addr.mk b5 0 none) = some (Value.int .i64 v_33) ∧
      0 ≤ (min (max v_28 (0 : Int)) (64 : Int)) ∧ 0 ≤ (Int.toNat (min (max v_28 (0 : Int)) (64 : Int))) ∧ (Int.toNat (min (max v_28 (0 : Int)) (64 : Int))) ≤ 64 ∧ Spec prog 31 #[(Value.pointer (some d0a_)), (Value.int .i64 v_33)] F fun v F => ∃ v_34 : Sl, v = (Sl.v v_34) ∧
      runs prog (Builtin.copy_ #[26, 26] 3 #[(Sl.v v_34), (Sl.v (Sl.cut ⟨some (Addr.mk b5 1 none), 64, 64⟩ 1 0 (Int.toNat (min (max v_28 (0 : Int)) (64 : Int))) 64))]) F fun v F => ∃ v_38 : Int, v = (Value.int .i64 v_38) ∧
      b19j2 N1 d0a_ kept_1 v_14 v_16 R F) ∧
    (¬ (v_16 < (kept_1.len : Int)) →
      b19j2 N1 d0a_ kept_1 v_14 v_16 R F))) ∧
  (¬ (v_16 < (v_14.len : Int)) →
    b19j1 d0a_ R F))
def b19 (d_0 : Option Addr) (kept_1 : Sl) (R : Value → PH → Prop) (F : PH) : Prop :=
  ∃ d0a_ : Addr, d_0 = some d0a_ ∧ ∃ v_10 : Bool, F.cell (Addr.add d0a_ 2) = some (Value.bool v_10) ∧
  ((v_10 = true →
    R (Value.tuple #[]) F) ∧
  (v_10 = false →
    ∃ v_14 : Sl, F.cell (Addr.add d0a_ 1) = some (Sl.v v_14) ∧
    (∃ (I1 : Nat → Int → PH → Prop) (m1 : Nat), I1 m1 (0 : Int) F ∧ ∀ m1 v_16 F, I1 m1 v_16 F →
      b19L1 (fun v_16 F => ∃ m', m' < m1 ∧ I1 m' v_16 F) d0a_ kept_1 v_14 R v_16 F)))
theorem c19 {d_0 : Option Addr} {kept_1 : Sl} {R : Value → PH → Prop} {F : PH} (h : b19 d_0 kept_1 R F) : Spec prog 19 #[(Value.pointer d_0), (Sl.v kept_1)] F R := by
  refine spec_of (args := [(Value.pointer d_0), (Sl.v kept_1)]) func19 rfl ntmps19 rfl ?_
  unfold b19 at h
  refine HC_seq ?_
  refine HC_seq ?_
  refine HC_region ?_
  refine s_rd (v := (Value.pointer d_0)) (r_move rfl rfl) ?_
  obtain ⟨d0a_, rfl, h⟩ := h
  refine s_rd (v := (Value.pointer (some d0a_))) (r_nilCheck rfl rfl) ?_
  refine s_rd (v := (Value.pointer (some (Addr.add d0a_ 2)))) (w_fieldAddr (a' := (Addr.add d0a_ 2)) rfl underlying63 rfl rfl sz4 rfl rfl) ?_
  obtain ⟨v_10, hc10, h⟩ := h
  refine s_rd (v := (Value.bool v_10)) (r_load1 rfl rfl underlying4 rfl hc10) ?_
  refine HL_nil ?_
  refine HC_cond (t := v_10) rfl (fun hc => ?_) (fun hc => ?_)
  · replace h := h.1 hc
    clear hc
    exact HC_ret (show endQ prog f19 R .ret _ _ from ⟨_, res0 rfl, h⟩)
  · replace h := h.2 hc
    clear hc
    refine HC_skip ?_
    refine HC_seqJ (b19J1 d0a_ R) ?_ ?_
    · clear h; rintro E F ⟨h0, h⟩
      unfold b19j1 at h
      refine HC_region ?_
      refine s_rd (v := (Value.pointer (some d0a_))) (r_move rfl h0) ?_
      refine s_rd (v := (Value.pointer (some d0a_))) (r_move rfl h0) ?_
      refine s_rd (v := (Value.pointer (some d0a_))) (r_move rfl h0) ?_
      refine s_rd (v := (Value.pointer (some d0a_))) (r_move rfl h0) ?_
      refine s_rd (v := (Value.pointer (some d0a_))) (r_nilCheck rfl rfl) ?_
      refine s_rd (v := (Value.pointer (some (Addr.add d0a_ 1)))) (w_fieldAddr (a' := (Addr.add d0a_ 1)) rfl underlying63 rfl rfl sz61 rfl rfl) ?_
      refine s_ef0 (k_store1 (v := (Sl.v Sl.nil)) rfl rfl sz61 rfl st_sl ?_)
      obtain ⟨c, e, hz3, hz4, hz5, h⟩ := h
      refine ⟨c, e, hz3, hz4, hz5, ?_⟩
      replace h := atE h
      refine s_rd (v := (Value.pointer (some d0a_))) (r_nilCheck rfl rfl) ?_
      refine s_rd (v := (Value.pointer (some (Addr.add d0a_ 4)))) (w_fieldAddr (a' := (Addr.add d0a_ 4)) rfl underlying63 rfl rfl sz37 rfl rfl) ?_
      refine s_ef0 (k_store1 (v := (Sl.v Sl.nil)) rfl rfl sz37 rfl st_sl ?_)
      obtain ⟨c, e, hz3, hz4, hz5, h⟩ := h
      refine ⟨c, e, hz3, hz4, hz5, ?_⟩
      replace h := atE h
      refine s_rd (v := (Value.pointer (some d0a_))) (r_nilCheck rfl rfl) ?_
      refine s_rd (v := (Value.pointer (some (Addr.add d0a_ 3)))) (w_fieldAddr (a' := (Addr.add d0a_ 3)) rfl underlying63 rfl rfl sz3 rfl rfl) ?_
      refine s_ef0 (k_store1 (v := (Value.int .i64 (0 : Int))) rfl rfl sz3 rfl st_int ?_)
      obtain ⟨c, e, hz3, hz4, hz5, h⟩ := h
      refine ⟨c, e, hz3, hz4, hz5, ?_⟩
      replace h := atE h
      refine s_rd (v := (Value.pointer (some d0a_))) (r_nilCheck rfl rfl) ?_
      refine s_rd (v := (Value.pointer (some (Addr.add d0a_ 2)))) (w_fieldAddr (a' := (Addr.add d0a_ 2)) rfl underlying63 rfl rfl sz4 rfl rfl) ?_
      refine s_ef0 (k_store1 (v := (Value.bool true)) rfl rfl sz4 rfl st_bool ?_)
      obtain ⟨c, e, hz3, hz4, hz5, h⟩ := h
      refine ⟨c, e, hz3, hz4, hz5, ?_⟩
      replace h := atE h
      refine HL_nil ?_
      exact (show endQ prog f19 R .normal _ _ from ⟨_, res0 rfl, h⟩)
    · skip
      refine HC_seq ?_
      refine HC_region ?_
      refine s_rd (v := (Value.pointer (some d0a_))) (r_move rfl rfl) ?_
      refine s_rd (v := (Value.pointer (some d0a_))) (r_nilCheck rfl rfl) ?_
      refine s_rd (v := (Value.pointer (some (Addr.add d0a_ 1)))) (w_fieldAddr (a' := (Addr.add d0a_ 1)) rfl underlying63 rfl rfl sz61 rfl rfl) ?_
      obtain ⟨v_14, hc14, h⟩ := h
      refine s_rd (v := (Sl.v v_14)) (r_load1 rfl rfl underlying61 rfl hc14) ?_
      refine s_rd (v := (Value.int .i64 (v_14.len : Int))) (r_lenSl rfl rfl underlying61) ?_
      refine s_rd (v := (Value.int .i64 (0 : Int))) (r_move rfl rfl) ?_
      refine HL_nil ?_
      refine HC_block ?_
      obtain ⟨I1, m1, hI0, hr⟩ := h
      refine HC_loop (fun m1 E F => ∃ v_16 : Int, E 0 = (Value.pointer (some d0a_)) ∧ E 1 = (Sl.v kept_1) ∧ E 14 = (Sl.v v_14) ∧ E 15 = (Value.int .i64 (v_14.len : Int)) ∧ E 16 = (Value.int .i64 v_16) ∧ I1 m1 v_16 F) m1 ⟨_, rfl, rfl, rfl, rfl, rfl, hI0⟩ ?_
      clear hI0; rintro m1 E F ⟨v_16, h0, h1, h14, h15, h16, hI⟩
      have h := hr m1 v_16 F hI
      clear hr hI
      unfold b19L1 at h
      refine HC_seq ?_
      refine HC_region ?_
      refine s_rd (v := (Value.bool (decide (v_16 < (v_14.len : Int))))) (r_lss rfl h16 h15) ?_
      refine HL_nil ?_
      refine HC_seq ?_
      refine HC_cond (t := (decide (v_16 < (v_14.len : Int)))) rfl (fun hc => ?_) (fun hc => ?_)
      · replace h := h.1 (of_decide_eq_true hc)
        clear hc
        refine HC_skip ?_
        refine HC_seqJ (b19J2 (fun v_16 F => ∃ m', m' < m1 ∧ I1 m' v_16 F) d0a_ kept_1 v_14 v_16 R) ?_ ?_
        · clear h; rintro E F ⟨h0, h1, h14, h15, h16, h⟩
          unfold b19j2 at h
          refine HC_region ?_
          refine s_rd (v := (Value.int .i64 (IntKind.i64.wrap (v_16 + (1 : Int))))) (r_add rfl h16 rfl) ?_
          refine s_rd (v := (Value.int .i64 (IntKind.i64.wrap (v_16 + (1 : Int))))) (r_move rfl rfl) ?_
          refine HL_nil ?_
          obtain ⟨m', hm, h⟩ := h
          exact ⟨m', hm, _, h0, h1, h14, h15, rfl, h⟩
        · skip
          refine HC_block ?_
          refine HC_seq ?_
          refine HC_region ?_
          refine s_rd (v := (Value.int .i64 v_16)) (r_move rfl h16) ?_
          obtain ⟨a19_, hb19, hl19, hu19, h⟩ := h
          refine s_rd (v := (Value.pointer (some (Addr.add a19_ (Int.toNat v_16 * 65))))) (w_indexAddr h14 h16 underlying61 sz66 hb19 hl19 hu19) ?_
          obtain ⟨v_20, hs20, hc20, h⟩ := h
          refine s_rd (v := (Value.agg v_20)) (w_loadN rfl underlying66 rfl sz66 hs20 hc20) ?_
          refine s_ef (k_alloc zr66 ?_)
          intro b5 hf_b5
          replace h := atE (h b5 hf_b5)
          refine s_rd (v := (Value.int .i64 v_16)) (r_assign rfl rfl) ?_
          refine s_ef0 (k_storeN (vs := v_20) rfl rfl sz66 (by decide) ?_)
          obtain ⟨hz1, hz2, c, e, hz3, hz4, hz5, h⟩ := h
          refine ⟨hz1, hz2, c, e, hz3, hz4, hz5, ?_⟩
          replace h := atE h
          refine HL_nil ?_
          refine HC_seq ?_
          refine HC_region ?_
          refine s_rd (v := (Value.int .i64 v_16)) (r_move rfl rfl) ?_
          refine s_rd (v := (Sl.v kept_1)) (r_move rfl h1) ?_
          refine s_rd (v := (Value.int .i64 (kept_1.len : Int))) (r_lenSl rfl rfl underlying37) ?_
          refine s_rd (v := (Value.bool (decide (v_16 < (kept_1.len : Int))))) (r_lss rfl rfl rfl) ?_
          refine HL_nil ?_
          refine HC_cond (t := (decide (v_16 < (kept_1.len : Int)))) rfl (fun hc => ?_) (fun hc => ?_)
          · replace h := h.1 (of_decide_eq_true hc)
            clear hc
            refine HC_seq ?_
            refine HC_region ?_
            refine s_rd (v := (Sl.v kept_1)) (r_move rfl h1) ?_
            refine s_rd (v := (Value.int .i64 v_16)) (r_move rfl rfl) ?_
            obtain ⟨a27_, hb27, hl27, hu27, h⟩ := h
            refine s_rd (v := (Value.pointer (some (Addr.add a27_ (Int.toNat v_16 * 1))))) (w_indexAddr rfl rfl underlying37 sz3 hb27 hl27 hu27) ?_
            obtain ⟨v_28, hc28, h⟩ := h
            refine s_rd (v := (Value.int .i64 v_28)) (r_load1 rfl rfl underlying3 rfl hc28) ?_
            refine s_rd (v := (Value.int .i64 (max v_28 (0 : Int)))) (r_max2 rfl rfl rfl) ?_
            refine s_rd (v := (Value.int .i64 (min (max v_28 (0 : Int)) (64 : Int)))) (r_min2 rfl rfl rfl) ?_
            refine s_rd (v := (Value.int .i64 (min (max v_28 (0 : Int)) (64 : Int)))) (r_assign rfl rfl) ?_
            refine HL_nil ?_
            refine HC_draw0 (by kernel_rfl) (fun hp => ?_)
            refine g_pu (i := 0) (v := (Value.pointer (some d0a_))) rfl (by kernel_rfl) (by kernel_rfl) (by kernel_rfl) (fun _ _ _ h => h) (fun _ => r_move rfl h0) hp ?_
            refine g_pu (i := 1) (v := (Value.pointer (some (Addr.mk b5 0 none)))) rfl (by kernel_rfl) (by kernel_rfl) (by kernel_rfl) (fun _ _ _ h => h) (fun _ => w_fieldAddr (a' := (Addr.mk b5 0 none)) rfl underlying66 rfl rfl sz3 rfl rfl) hp ?_
            obtain ⟨v_33, hc33, h⟩ := h
            refine g_rd (i := 2) (v := (Value.int .i64 v_33)) rfl (by kernel_rfl) (by kernel_rfl) (by kernel_rfl) (fun _ _ _ h => h) (r_load1 rfl rfl underlying3 rfl hc33) hp (fun S2 q2 => ?_)
            replace hp := holdC (i := 2) (q2 _ (r_load1 rfl rfl underlying3 rfl hc33)) hp
            refine g_pu (i := 4) (v := (Value.pointer (some (Addr.mk b5 1 none)))) rfl (by kernel_rfl) (by kernel_rfl) (by kernel_rfl) (fun _ _ _ h => h) (fun _ => w_fieldAddr (a' := (Addr.mk b5 1 none)) rfl underlying66 rfl rfl sz64 rfl rfl) hp ?_
            refine g_pu (i := 5) (v := (Value.int .i64 (min (max v_28 (0 : Int)) (64 : Int)))) rfl (by kernel_rfl) (by kernel_rfl) (by kernel_rfl) (fun _ _ _ h => h) (fun _ => r_move rfl rfl) hp ?_
            obtain ⟨hq37_0, hr37_0, hr37_1, h⟩ := h
            refine g_pu (i := 6) (v := (Sl.v (Sl.cut ⟨some (Addr.mk b5 1 none), 64, 64⟩ 1 0 (Int.toNat (min (max v_28 (0 : Int)) (64 : Int))) 64))) rfl (by kernel_rfl) (by kernel_rfl) (by kernel_rfl) (fun _ _ _ h => h) (fun _ => r_sliceAr rfl rfl underlying64 sz5 bo_none (bo_ev rfl hq37_0) hr37_0 hr37_1) hp ?_
            refine RG_eff1 (i := 3) (by kernel_rfl) (g_op (Sp' := []) rfl rfl (k_call (vs := [(Value.pointer (some d0a_)), (Value.int .i64 v_33)]) cb31 (evC rfl (evC rfl evN)) (h.mono ?_)))
            clear h; rintro v F ⟨v_34, rfl, h⟩
            refine holdI hold0 (fun hp => ?_)
            refine RG_eff1 (i := 7) (by kernel_rfl) (g_op (Sp' := []) rfl rfl (k_copy rfl rfl (runs_mono _ _ h ?_)))
            clear h; rintro v F ⟨v_38, rfl, h⟩
            refine holdI hold0 (fun hp => ?_)
            refine RG_done (by kernel_rfl) ?_
            show b19J2 (fun v_16 F => ∃ m', m' < m1 ∧ I1 m' v_16 F) d0a_ kept_1 v_14 v_16 R _ _
            exact ⟨h0, h1, h14, h15, h16, h⟩
          · replace h := h.2 (of_decide_eq_false hc)
            clear hc
            refine HC_skip ?_
            show b19J2 (fun v_16 F => ∃ m', m' < m1 ∧ I1 m' v_16 F) d0a_ kept_1 v_14 v_16 R _ _
            exact ⟨h0, h1, h14, h15, h16, h⟩
      · replace h := h.2 (of_decide_eq_false hc)
        clear hc
        refine HC_exit ?_
        show b19J1 d0a_ R _ _
        exact ⟨h0, h⟩

/- 15 koine.koinelaw34.filled -/
def b15j1 (v_5 : Sl) (R : Value → PH → Prop) (F : PH) : Prop :=
  R (Sl.v v_5) F
abbrev b15J1 (v_5 : Sl) (R : Value → PH → Prop) (E : En) (F : PH) : Prop := E 3 = (Sl.v v_5) ∧ b15j1 v_5 R F
def b15L1 (N1 : Int → PH → Prop) (b_0 : Int) (v_5 : Sl) (R : Value → PH → Prop) (i_4 : Int) (F : PH) : Prop :=
  ((i_4 < (64 : Int) →
    ∃ a13_ : Addr, v_5.base = some a13_ ∧ 0 ≤ i_4 ∧ i_4 < (v_5.len : Int) ∧
    ∃ c e, F (Addr.add a13_ (Int.toNat i_4 * 1)).block = some (.cells c e (0, 0)) ∧ (Addr.add a13_ (Int.toNat i_4 * 1)).spot = none ∧ (Addr.add a13_ (Int.toNat i_4 * 1)).off < c.size ∧
    atF (F.set (Addr.add a13_ (Int.toNat i_4 * 1)).block (.cells (c.setIfInBounds (Addr.add a13_ (Int.toNat i_4 * 1)).off (Value.int .u8 b_0)) e)) fun F =>
    N1 (IntKind.i64.wrap (i_4 + (1 : Int))) F) ∧
  (¬ (i_4 < (64 : Int)) →
    b15j1 v_5 R F))
def b15 (b_0 : Int) (R : Value → PH → Prop) (F : PH) : Prop :=
  runs prog (Instr.makeSlice 26 (Value.int .i64 (64 : Int)) (Value.int .i64 (64 : Int))) F fun v F => ∃ v_5 : Sl, v = (Sl.v v_5) ∧
  (∃ (I1 : Nat → Int → PH → Prop) (m1 : Nat), I1 m1 (0 : Int) F ∧ ∀ m1 i_4 F, I1 m1 i_4 F →
    b15L1 (fun i_4 F => ∃ m', m' < m1 ∧ I1 m' i_4 F) b_0 v_5 R i_4 F)
theorem c15 {b_0 : Int} {R : Value → PH → Prop} {F : PH} (h : b15 b_0 R F) : Spec prog 15 #[(Value.int .u8 b_0)] F R := by
  refine spec_of (args := [(Value.int .u8 b_0)]) func15 rfl ntmps15 rfl ?_
  unfold b15 at h
  refine HC_seq ?_
  refine HC_region ?_
  refine s_rd (v := (Sl.v Sl.nil)) (r_assign rfl rfl) ?_
  refine HL_nil ?_
  refine HC_seq ?_
  refine HC_region ?_
  refine s_ef (k_makeSlice rfl rfl (runs_mono _ _ h ?_))
  clear h; rintro v F ⟨v_5, rfl, h⟩
  refine s_rd (v := (Sl.v v_5)) (r_assign rfl rfl) ?_
  refine HL_nil ?_
  refine HC_seqJ (b15J1 v_5 R) ?_ ?_
  · clear h; rintro E F ⟨h3, h⟩
    unfold b15j1 at h
    refine HC_seq ?_
    refine HC_region ?_
    refine s_rd (v := (Sl.v v_5)) (r_move rfl h3) ?_
    refine s_rd (v := (Sl.v v_5)) (r_assign rfl rfl) ?_
    refine HL_nil ?_
    exact HC_ret (show endQ prog f15 R .ret _ _ from ⟨_, res1 rfl (rv_tmp rfl), h⟩)
  · skip
    refine HC_seq ?_
    refine HC_region ?_
    refine s_rd (v := (Value.int .i64 (0 : Int))) (r_assign rfl rfl) ?_
    refine HL_nil ?_
    refine HC_block ?_
    obtain ⟨I1, m1, hI0, hr⟩ := h
    refine HC_loop (fun m1 E F => ∃ i_4 : Int, E 0 = (Value.int .u8 b_0) ∧ E 3 = (Sl.v v_5) ∧ E 4 = (Value.int .i64 i_4) ∧ I1 m1 i_4 F) m1 ⟨_, rfl, rfl, rfl, hI0⟩ ?_
    clear hI0; rintro m1 E F ⟨i_4, h0, h3, h4, hI⟩
    have h := hr m1 i_4 F hI
    clear hr hI
    unfold b15L1 at h
    refine HC_seq ?_
    refine HC_seq ?_
    refine HC_region ?_
    refine s_rd (v := (Value.int .i64 i_4)) (r_move rfl h4) ?_
    refine s_rd (v := (Value.bool (decide (i_4 < (64 : Int))))) (r_lss rfl rfl rfl) ?_
    refine HL_nil ?_
    refine HC_cond (t := (decide (i_4 < (64 : Int)))) rfl (fun hc => ?_) (fun hc => ?_)
    · replace h := h.1 (of_decide_eq_true hc)
      clear hc
      refine HC_skip ?_
      refine HC_seq ?_
      refine HC_block ?_
      refine HC_region ?_
      refine s_rd (v := (Sl.v v_5)) (r_move rfl h3) ?_
      refine s_rd (v := (Value.int .i64 i_4)) (r_move rfl h4) ?_
      refine s_rd (v := (Value.int .u8 b_0)) (r_move rfl h0) ?_
      obtain ⟨a13_, hb13, hl13, hu13, h⟩ := h
      refine s_rd (v := (Value.pointer (some (Addr.add a13_ (Int.toNat i_4 * 1))))) (w_indexAddr rfl rfl underlying26 sz5 hb13 hl13 hu13) ?_
      refine s_ef0 (k_store1 (v := (Value.int .u8 b_0)) rfl rfl sz5 rfl st_int ?_)
      obtain ⟨c, e, hz3, hz4, hz5, h⟩ := h
      refine ⟨c, e, hz3, hz4, hz5, ?_⟩
      replace h := atE h
      refine HL_nil ?_
      refine HC_region ?_
      refine s_rd (v := (Value.int .i64 i_4)) (r_move rfl h4) ?_
      refine s_rd (v := (Value.int .i64 (IntKind.i64.wrap (i_4 + (1 : Int))))) (r_add rfl rfl rfl) ?_
      refine s_rd (v := (Value.int .i64 (IntKind.i64.wrap (i_4 + (1 : Int))))) (r_assign rfl rfl) ?_
      refine HL_nil ?_
      obtain ⟨m', hm, h⟩ := h
      exact ⟨m', hm, _, h0, h3, rfl, h⟩
    · replace h := h.2 (of_decide_eq_false hc)
      clear hc
      refine HC_exit ?_
      show b15J1 v_5 R _ _
      exact ⟨h3, h⟩

/- 16 (*koine.disk.Disk).Read -/
def b16j1 (v_21 : Sl) (R : Value → PH → Prop) (F : PH) : Prop :=
  R (Value.tuple #[(Sl.v v_21), (Value.int .i64 (0 : Int))]) F
abbrev b16J1 (v_21 : Sl) (R : Value → PH → Prop) (E : En) (F : PH) : Prop := E 6 = (Sl.v v_21) ∧ b16j1 v_21 R F
def b16j2 (N1 : Int → PH → Prop) (at_1 : Int) (v_21 : Sl) (v_30 : Sl) (v_32 : Int) (R : Value → PH → Prop) (F : PH) : Prop :=
  N1 (IntKind.i64.wrap (v_32 + (1 : Int))) F
abbrev b16J2 (N1 : Int → PH → Prop) (at_1 : Int) (v_21 : Sl) (v_30 : Sl) (v_32 : Int) (R : Value → PH → Prop) (E : En) (F : PH) : Prop := E 1 = (Value.int .i64 at_1) ∧ E 6 = (Sl.v v_21) ∧ E 30 = (Sl.v v_30) ∧ E 31 = (Value.int .i64 (v_30.len : Int)) ∧ E 32 = (Value.int .i64 v_32) ∧ b16j2 N1 at_1 v_21 v_30 v_32 R F
def b16L1 (N1 : Int → PH → Prop) (at_1 : Int) (v_21 : Sl) (v_30 : Sl) (R : Value → PH → Prop) (v_32 : Int) (F : PH) : Prop :=
  ((v_32 < (v_30.len : Int) →
    ∃ a34_ : Addr, v_30.base = some a34_ ∧ 0 ≤ v_32 ∧ v_32 < (v_30.len : Int) ∧
    ∃ v_35 : Array Value, v_35.size = 65 ∧ F.row (Addr.add a34_ (Int.toNat v_32 * 65)) v_35 ∧
    ∀ b8, F b8 = none → atF (F.set b8 (.cells (#[Value.int .i64 0] ++ Array.replicate 64 (Value.int .u8 0)) 66)) fun F =>
    v_35.size = 65 ∧ (∀ v ∈ v_35.toList, storable v) ∧ ∃ c e, F (Addr.mk b8 0 none).block = some (.cells c e (0, 0)) ∧ (Addr.mk b8 0 none).spot = none ∧ (Addr.mk b8 0 none).off + 65 ≤ c.size ∧
    atF (F.set (Addr.mk b8 0 none).block (.cells (wr c (Addr.mk b8 0 none).off v_35.toList) e)) fun F =>
    ∃ v_37 : Int, F.cell (Addr.mk b8 0 none) = some (Value.int .i64 v_37) ∧
    ((v_37 = at_1 →
      runs prog (Builtin.copy_ #[26, 26] 3 #[(Sl.v v_21), (Sl.v (Sl.cut ⟨some (Addr.mk b8 1 none), 64, 64⟩ 1 0 64 64))]) F fun v F => ∃ v_43 : Int, v = (Value.int .i64 v_43) ∧
      b16j2 N1 at_1 v_21 v_30 v_32 R F) ∧
    (¬ (v_37 = at_1) →
      b16j2 N1 at_1 v_21 v_30 v_32 R F))) ∧
  (¬ (v_32 < (v_30.len : Int)) →
    b16j1 v_21 R F))
def b16 (d_0 : Option Addr) (at_1 : Int) (R : Value → PH → Prop) (F : PH) : Prop :=
  ((at_1 < (0 : Int) →
    R (Value.tuple #[(Sl.v Sl.nil), (Value.int .i64 (1 : Int))]) F) ∧
  (¬ (at_1 < (0 : Int)) →
    Spec prog 25 #[(Value.pointer d_0)] F fun v F => ∃ v_14 : Int, v = (Value.int .i64 v_14) ∧
    ((v_14 ≤ at_1 →
      R (Value.tuple #[(Sl.v Sl.nil), (Value.int .i64 (1 : Int))]) F) ∧
    (¬ (v_14 ≤ at_1) →
      ∃ d0a_ : Addr, d_0 = some d0a_ ∧ ∃ v_20 : Bool, F.cell (Addr.add d0a_ 2) = some (Value.bool v_20) ∧
      ((v_20 = true →
        R (Value.tuple #[(Sl.v Sl.nil), (Value.int .i64 (340 : Int))]) F) ∧
      (v_20 = false →
        runs prog (Instr.makeSlice 26 (Value.int .i64 (64 : Int)) (Value.int .i64 (64 : Int))) F fun v F => ∃ v_21 : Sl, v = (Sl.v v_21) ∧
        Spec prog 31 #[(Value.pointer (some d0a_)), (Value.int .i64 at_1)] F fun v F => ∃ v_25 : Sl, v = (Sl.v v_25) ∧
        runs prog (Builtin.copy_ #[26, 26] 3 #[(Sl.v v_21), (Sl.v v_25)]) F fun v F => ∃ v_26 : Int, v = (Value.int .i64 v_26) ∧
        ∃ v_30 : Sl, F.cell (Addr.add d0a_ 1) = some (Sl.v v_30) ∧
        (∃ (I1 : Nat → Int → PH → Prop) (m1 : Nat), I1 m1 (0 : Int) F ∧ ∀ m1 v_32 F, I1 m1 v_32 F →
          b16L1 (fun v_32 F => ∃ m', m' < m1 ∧ I1 m' v_32 F) at_1 v_21 v_30 R v_32 F)))))))
theorem c16 {d_0 : Option Addr} {at_1 : Int} {R : Value → PH → Prop} {F : PH} (h : b16 d_0 at_1 R F) : Spec prog 16 #[(Value.pointer d_0), (Value.int .i64 at_1)] F R := by
  refine spec_of (args := [(Value.pointer d_0), (Value.int .i64 at_1)]) func16 rfl ntmps16 rfl ?_
  unfold b16 at h
  refine HC_seq ?_
  refine HC_region ?_
  refine s_rd (v := (Sl.v Sl.nil)) (r_assign rfl rfl) ?_
  refine s_rd (v := (Value.int .i64 (0 : Int))) (r_assign rfl rfl) ?_
  refine HL_nil ?_
  refine HC_seq ?_
  refine HC_seq ?_
  refine HC_region ?_
  refine s_rd (v := (Value.int .i64 at_1)) (r_move rfl rfl) ?_
  refine s_rd (v := (Value.bool (decide (at_1 < (0 : Int))))) (r_lss rfl rfl rfl) ?_
  refine s_rd (v := (Value.bool (decide (at_1 < (0 : Int))))) (r_move rfl rfl) ?_
  by_cases hc : at_1 < (0 : Int)
  · replace h := h.1 hc
    refine HL_known (t := 10) (v := .bool true) (congrArg Value.bool (decide_eq_true hc)) ?_
    refine HL_known (t := 11) (v := .bool true) (congrArg Value.bool (decide_eq_true hc)) ?_
    refine s_skip ?_
    refine s_skip ?_
    refine s_skip ?_
    refine s_skip ?_
    refine s_rd (v := (Value.bool true)) (r_pick rfl rfl (fun _ => rfl) (fun h => by cases h)) ?_
    refine HL_nil ?_
    refine HC_condT rfl ?_
    refine HC_seq ?_
    refine HC_region ?_
    refine s_rd (v := (Sl.v Sl.nil)) (r_assign rfl rfl) ?_
    refine s_rd (v := (Value.int .i64 (1 : Int))) (r_assign rfl rfl) ?_
    refine HL_nil ?_
    exact HC_ret (show endQ prog f16 R .ret _ _ from ⟨_, res2 rfl (rv_tmp rfl) (rv_tmp rfl), h⟩)
  · replace h := h.2 hc
    refine HL_known (t := 10) (v := .bool false) (congrArg Value.bool (decide_eq_false hc)) ?_
    refine HL_known (t := 11) (v := .bool false) (congrArg Value.bool (decide_eq_false hc)) ?_
    refine s_rd (v := (Value.int .i64 at_1)) (r_move rfl rfl) ?_
    refine s_rd (v := (Value.pointer d_0)) (r_move rfl rfl) ?_
    refine s_ef (k_call (vs := [(Value.pointer d_0)]) cb25 (evC rfl evN) (h.mono ?_))
    clear h; rintro v F ⟨v_14, rfl, h⟩
    refine s_rd (v := (Value.bool (decide (v_14 ≤ at_1)))) (r_geq rfl rfl rfl) ?_
    refine s_rd (v := (Value.bool (decide (v_14 ≤ at_1)))) (r_pick rfl rfl (fun h => by cases h) (fun _ => rfl)) ?_
    refine HL_nil ?_
    refine HC_cond (t := (decide (v_14 ≤ at_1))) rfl (fun hc => ?_) (fun hc => ?_)
    · replace h := h.1 (of_decide_eq_true hc)
      clear hc
      refine HC_seq ?_
      refine HC_region ?_
      refine s_rd (v := (Sl.v Sl.nil)) (r_assign rfl rfl) ?_
      refine s_rd (v := (Value.int .i64 (1 : Int))) (r_assign rfl rfl) ?_
      refine HL_nil ?_
      exact HC_ret (show endQ prog f16 R .ret _ _ from ⟨_, res2 rfl (rv_tmp rfl) (rv_tmp rfl), h⟩)
    · replace h := h.2 (of_decide_eq_false hc)
      clear hc
      refine HC_skip ?_
      refine HC_seq ?_
      refine HC_seq ?_
      refine HC_region ?_
      refine s_rd (v := (Value.pointer d_0)) (r_move rfl rfl) ?_
      obtain ⟨d0a_, rfl, h⟩ := h
      refine s_rd (v := (Value.pointer (some d0a_))) (r_nilCheck rfl rfl) ?_
      refine s_rd (v := (Value.pointer (some (Addr.add d0a_ 2)))) (w_fieldAddr (a' := (Addr.add d0a_ 2)) rfl underlying63 rfl rfl sz4 rfl rfl) ?_
      obtain ⟨v_20, hc20, h⟩ := h
      refine s_rd (v := (Value.bool v_20)) (r_load1 rfl rfl underlying4 rfl hc20) ?_
      refine HL_nil ?_
      refine HC_cond (t := v_20) rfl (fun hc => ?_) (fun hc => ?_)
      · replace h := h.1 hc
        clear hc
        refine HC_seq ?_
        refine HC_region ?_
        refine s_rd (v := (Sl.v Sl.nil)) (r_assign rfl rfl) ?_
        refine s_rd (v := (Value.int .i64 (340 : Int))) (r_assign rfl rfl) ?_
        refine HL_nil ?_
        exact HC_ret (show endQ prog f16 R .ret _ _ from ⟨_, res2 rfl (rv_tmp rfl) (rv_tmp rfl), h⟩)
      · replace h := h.2 hc
        clear hc
        refine HC_skip ?_
        refine HC_seq ?_
        refine HC_region ?_
        refine s_ef (k_makeSlice rfl rfl (runs_mono _ _ h ?_))
        clear h; rintro v F ⟨v_21, rfl, h⟩
        refine s_rd (v := (Sl.v v_21)) (r_assign rfl rfl) ?_
        refine HL_nil ?_
        refine HC_seq ?_
        refine HC_region ?_
        refine s_rd (v := (Sl.v v_21)) (r_move rfl rfl) ?_
        refine s_rd (v := (Value.pointer (some d0a_))) (r_move rfl rfl) ?_
        refine s_rd (v := (Value.int .i64 at_1)) (r_move rfl rfl) ?_
        refine s_ef (k_call (vs := [(Value.pointer (some d0a_)), (Value.int .i64 at_1)]) cb31 (evC rfl (evC rfl evN)) (h.mono ?_))
        clear h; rintro v F ⟨v_25, rfl, h⟩
        refine s_ef (k_copy rfl rfl (runs_mono _ _ h ?_))
        clear h; rintro v F ⟨v_26, rfl, h⟩
        refine HL_nil ?_
        refine HC_seqJ (b16J1 v_21 R) ?_ ?_
        · clear h; rintro E F ⟨h6, h⟩
          unfold b16j1 at h
          refine HC_seq ?_
          refine HC_region ?_
          refine s_rd (v := (Sl.v v_21)) (r_move rfl h6) ?_
          refine s_rd (v := (Sl.v v_21)) (r_assign rfl rfl) ?_
          refine s_rd (v := (Value.int .i64 (0 : Int))) (r_assign rfl rfl) ?_
          refine HL_nil ?_
          exact HC_ret (show endQ prog f16 R .ret _ _ from ⟨_, res2 rfl (rv_tmp rfl) (rv_tmp rfl), h⟩)
        · skip
          refine HC_seq ?_
          refine HC_region ?_
          refine s_rd (v := (Value.pointer (some d0a_))) (r_move rfl rfl) ?_
          refine s_rd (v := (Value.pointer (some d0a_))) (r_nilCheck rfl rfl) ?_
          refine s_rd (v := (Value.pointer (some (Addr.add d0a_ 1)))) (w_fieldAddr (a' := (Addr.add d0a_ 1)) rfl underlying63 rfl rfl sz61 rfl rfl) ?_
          obtain ⟨v_30, hc30, h⟩ := h
          refine s_rd (v := (Sl.v v_30)) (r_load1 rfl rfl underlying61 rfl hc30) ?_
          refine s_rd (v := (Value.int .i64 (v_30.len : Int))) (r_lenSl rfl rfl underlying61) ?_
          refine s_rd (v := (Value.int .i64 (0 : Int))) (r_move rfl rfl) ?_
          refine HL_nil ?_
          refine HC_block ?_
          obtain ⟨I1, m1, hI0, hr⟩ := h
          refine HC_loop (fun m1 E F => ∃ v_32 : Int, E 1 = (Value.int .i64 at_1) ∧ E 6 = (Sl.v v_21) ∧ E 30 = (Sl.v v_30) ∧ E 31 = (Value.int .i64 (v_30.len : Int)) ∧ E 32 = (Value.int .i64 v_32) ∧ I1 m1 v_32 F) m1 ⟨_, rfl, rfl, rfl, rfl, rfl, hI0⟩ ?_
          clear hI0; rintro m1 E F ⟨v_32, h1, h6, h30, h31, h32, hI⟩
          have h := hr m1 v_32 F hI
          clear hr hI
          unfold b16L1 at h
          refine HC_seq ?_
          refine HC_region ?_
          refine s_rd (v := (Value.bool (decide (v_32 < (v_30.len : Int))))) (r_lss rfl h32 h31) ?_
          refine HL_nil ?_
          refine HC_seq ?_
          refine HC_cond (t := (decide (v_32 < (v_30.len : Int)))) rfl (fun hc => ?_) (fun hc => ?_)
          · replace h := h.1 (of_decide_eq_true hc)
            clear hc
            refine HC_skip ?_
            refine HC_seqJ (b16J2 (fun v_32 F => ∃ m', m' < m1 ∧ I1 m' v_32 F) at_1 v_21 v_30 v_32 R) ?_ ?_
            · clear h; rintro E F ⟨h1, h6, h30, h31, h32, h⟩
              unfold b16j2 at h
              refine HC_region ?_
              refine s_rd (v := (Value.int .i64 (IntKind.i64.wrap (v_32 + (1 : Int))))) (r_add rfl h32 rfl) ?_
              refine s_rd (v := (Value.int .i64 (IntKind.i64.wrap (v_32 + (1 : Int))))) (r_move rfl rfl) ?_
              refine HL_nil ?_
              obtain ⟨m', hm, h⟩ := h
              exact ⟨m', hm, _, h1, h6, h30, h31, rfl, h⟩
            · skip
              refine HC_block ?_
              refine HC_seq ?_
              refine HC_region ?_
              obtain ⟨a34_, hb34, hl34, hu34, h⟩ := h
              refine s_rd (v := (Value.pointer (some (Addr.add a34_ (Int.toNat v_32 * 65))))) (w_indexAddr h30 h32 underlying61 sz66 hb34 hl34 hu34) ?_
              obtain ⟨v_35, hs35, hc35, h⟩ := h
              refine s_rd (v := (Value.agg v_35)) (w_loadN rfl underlying66 rfl sz66 hs35 hc35) ?_
              refine s_ef (k_alloc zr66 ?_)
              intro b8 hf_b8
              replace h := atE (h b8 hf_b8)
              refine s_ef0 (k_storeN (vs := v_35) rfl rfl sz66 (by decide) ?_)
              obtain ⟨hz1, hz2, c, e, hz3, hz4, hz5, h⟩ := h
              refine ⟨hz1, hz2, c, e, hz3, hz4, hz5, ?_⟩
              replace h := atE h
              refine HL_nil ?_
              refine HC_seq ?_
              refine HC_region ?_
              refine s_rd (v := (Value.pointer (some (Addr.mk b8 0 none)))) (w_fieldAddr (a' := (Addr.mk b8 0 none)) rfl underlying66 rfl rfl sz3 rfl rfl) ?_
              obtain ⟨v_37, hc37, h⟩ := h
              refine s_rd (v := (Value.int .i64 v_37)) (r_load1 rfl rfl underlying3 rfl hc37) ?_
              refine s_rd (v := (Value.int .i64 at_1)) (r_move rfl h1) ?_
              refine s_rd (v := (Value.bool (decide (v_37 = at_1)))) (w_eql rfl rfl) ?_
              refine HL_nil ?_
              refine HC_cond (t := (decide (v_37 = at_1))) rfl (fun hc => ?_) (fun hc => ?_)
              · replace h := h.1 (of_decide_eq_true hc)
                clear hc
                refine HC_region ?_
                refine s_rd (v := (Sl.v v_21)) (r_move rfl h6) ?_
                refine s_rd (v := (Value.pointer (some (Addr.mk b8 1 none)))) (w_fieldAddr (a' := (Addr.mk b8 1 none)) rfl underlying66 rfl rfl sz64 rfl rfl) ?_
                refine s_rd (v := (Sl.v (Sl.cut ⟨some (Addr.mk b8 1 none), 64, 64⟩ 1 0 64 64))) (r_sliceAr rfl rfl underlying64 sz5 bo_none bo_none (Nat.zero_le _) (Nat.le_refl _)) ?_
                refine s_ef (k_copy rfl rfl (runs_mono _ _ h ?_))
                clear h; rintro v F ⟨v_43, rfl, h⟩
                refine HL_nil ?_
                show b16J2 (fun v_32 F => ∃ m', m' < m1 ∧ I1 m' v_32 F) at_1 v_21 v_30 v_32 R _ _
                exact ⟨h1, h6, h30, h31, h32, h⟩
              · replace h := h.2 (of_decide_eq_false hc)
                clear hc
                refine HC_skip ?_
                show b16J2 (fun v_32 F => ∃ m', m' < m1 ∧ I1 m' v_32 F) at_1 v_21 v_30 v_32 R _ _
                exact ⟨h1, h6, h30, h31, h32, h⟩
          · replace h := h.2 (of_decide_eq_false hc)
            clear hc
            refine HC_exit ?_
            show b16J1 v_21 R _ _
            exact ⟨h6, h⟩

/- 17 (*koine.disk.Disk).Flush -/
def b17j1 (d_0 : Option Addr) (R : Value → PH → Prop) (F : PH) : Prop :=
  ∃ d0a_ : Addr, d_0 = some d0a_ ∧ ∃ c e, F (Addr.add d0a_ 1).block = some (.cells c e (0, 0)) ∧ (Addr.add d0a_ 1).spot = none ∧ (Addr.add d0a_ 1).off < c.size ∧
  atF (F.set (Addr.add d0a_ 1).block (.cells (c.setIfInBounds (Addr.add d0a_ 1).off (Sl.v Sl.nil)) e)) fun F =>
  R (Value.int .i64 (0 : Int)) F
abbrev b17J1 (d_0 : Option Addr) (R : Value → PH → Prop) (E : En) (F : PH) : Prop := E 0 = (Value.pointer d_0) ∧ b17j1 d_0 R F
def b17L1 (N1 : Int → PH → Prop) (d0a__1 : Addr) (v_14 : Sl) (R : Value → PH → Prop) (v_16 : Int) (F : PH) : Prop :=
  ((v_16 < (v_14.len : Int) →
    ∃ a18_ : Addr, v_14.base = some a18_ ∧ 0 ≤ v_16 ∧ v_16 < (v_14.len : Int) ∧
    ∃ v_19 : Array Value, v_19.size = 65 ∧ F.row (Addr.add a18_ (Int.toNat v_16 * 65)) v_19 ∧
    ∀ b5, F b5 = none → atF (F.set b5 (.cells (#[Value.int .i64 0] ++ Array.replicate 64 (Value.int .u8 0)) 66)) fun F =>
    v_19.size = 65 ∧ (∀ v ∈ v_19.toList, storable v) ∧ ∃ c e, F (Addr.mk b5 0 none).block = some (.cells c e (0, 0)) ∧ (Addr.mk b5 0 none).spot = none ∧ (Addr.mk b5 0 none).off + 65 ≤ c.size ∧
    atF (F.set (Addr.mk b5 0 none).block (.cells (wr c (Addr.mk b5 0 none).off v_19.toList) e)) fun F =>
    ∃ v_22 : Int, F.cell (Addr.mk b5 0 none) = some (Value.int .i64 v_22) ∧
    Spec prog 31 #[(Value.pointer (some d0a__1)), (Value.int .i64 v_22)] F fun v F => ∃ v_23 : Sl, v = (Sl.v v_23) ∧
    runs prog (Builtin.copy_ #[26, 26] 3 #[(Sl.v v_23), (Sl.v (Sl.cut ⟨some (Addr.mk b5 1 none), 64, 64⟩ 1 0 64 64))]) F fun v F => ∃ v_26 : Int, v = (Value.int .i64 v_26) ∧
    N1 (IntKind.i64.wrap (v_16 + (1 : Int))) F) ∧
  (¬ (v_16 < (v_14.len : Int)) →
    b17j1 (some d0a__1) R F))
def b17 (d_0 : Option Addr) (R : Value → PH → Prop) (F : PH) : Prop :=
  Spec prog 30 #[(Value.pointer d_0)] F fun v F => ∃ v_7 : Int, v = (Value.int .i64 v_7) ∧
  ((v_7 ≠ (0 : Int) →
    R (Value.int .i64 v_7) F) ∧
  (¬ (v_7 ≠ (0 : Int)) →
    ∃ d0a__1 : Addr, d_0 = some d0a__1 ∧ ∃ v_14 : Sl, F.cell (Addr.add d0a__1 1) = some (Sl.v v_14) ∧
    (∃ (I1 : Nat → Int → PH → Prop) (m1 : Nat), I1 m1 (0 : Int) F ∧ ∀ m1 v_16 F, I1 m1 v_16 F →
      b17L1 (fun v_16 F => ∃ m', m' < m1 ∧ I1 m' v_16 F) d0a__1 v_14 R v_16 F)))
theorem c17 {d_0 : Option Addr} {R : Value → PH → Prop} {F : PH} (h : b17 d_0 R F) : Spec prog 17 #[(Value.pointer d_0)] F R := by
  refine spec_of (args := [(Value.pointer d_0)]) func17 rfl ntmps17 rfl ?_
  unfold b17 at h
  refine HC_seq ?_
  refine HC_region ?_
  refine s_rd (v := (Value.int .i64 (0 : Int))) (r_assign rfl rfl) ?_
  refine HL_nil ?_
  refine HC_seq ?_
  refine HC_seq ?_
  refine HC_region ?_
  refine s_rd (v := (Value.pointer d_0)) (r_move rfl rfl) ?_
  refine s_ef (k_call (vs := [(Value.pointer d_0)]) cb30 (evC rfl evN) (h.mono ?_))
  clear h; rintro v F ⟨v_7, rfl, h⟩
  refine s_rd (v := (Value.int .i64 v_7)) (r_assign rfl rfl) ?_
  refine HL_nil ?_
  refine HC_seq ?_
  refine HC_region ?_
  refine s_rd (v := (Value.int .i64 v_7)) (r_move rfl rfl) ?_
  refine s_rd (v := (Value.bool (decide (v_7 ≠ (0 : Int))))) (w_neq rfl rfl) ?_
  refine HL_nil ?_
  refine HC_cond (t := (decide (v_7 ≠ (0 : Int)))) rfl (fun hc => ?_) (fun hc => ?_)
  · replace h := h.1 (of_decide_eq_true hc)
    clear hc
    refine HC_seq ?_
    refine HC_region ?_
    refine s_rd (v := (Value.int .i64 v_7)) (r_move rfl rfl) ?_
    refine s_rd (v := (Value.int .i64 v_7)) (r_assign rfl rfl) ?_
    refine HL_nil ?_
    exact HC_ret (show endQ prog f17 R .ret _ _ from ⟨_, res1 rfl (rv_tmp rfl), h⟩)
  · replace h := h.2 (of_decide_eq_false hc)
    clear hc
    refine HC_skip ?_
    refine HC_seqJ (b17J1 d_0 R) ?_ ?_
    · clear h; rintro E F ⟨h0, h⟩
      unfold b17j1 at h
      refine HC_seq ?_
      refine HC_region ?_
      refine s_rd (v := (Value.pointer d_0)) (r_move rfl h0) ?_
      obtain ⟨d0a_, rfl, h⟩ := h
      refine s_rd (v := (Value.pointer (some d0a_))) (r_nilCheck rfl rfl) ?_
      refine s_rd (v := (Value.pointer (some (Addr.add d0a_ 1)))) (w_fieldAddr (a' := (Addr.add d0a_ 1)) rfl underlying63 rfl rfl sz61 rfl rfl) ?_
      refine s_ef0 (k_store1 (v := (Sl.v Sl.nil)) rfl rfl sz61 rfl st_sl ?_)
      obtain ⟨c, e, hz3, hz4, hz5, h⟩ := h
      refine ⟨c, e, hz3, hz4, hz5, ?_⟩
      replace h := atE h
      refine HL_nil ?_
      refine HC_seq ?_
      refine HC_region ?_
      refine s_rd (v := (Value.int .i64 (0 : Int))) (r_assign rfl rfl) ?_
      refine HL_nil ?_
      exact HC_ret (show endQ prog f17 R .ret _ _ from ⟨_, res1 rfl (rv_tmp rfl), h⟩)
    · skip
      refine HC_seq ?_
      refine HC_region ?_
      refine s_rd (v := (Value.pointer d_0)) (r_move rfl rfl) ?_
      obtain ⟨d0a__1, rfl, h⟩ := h
      refine s_rd (v := (Value.pointer (some d0a__1))) (r_nilCheck rfl rfl) ?_
      refine s_rd (v := (Value.pointer (some (Addr.add d0a__1 1)))) (w_fieldAddr (a' := (Addr.add d0a__1 1)) rfl underlying63 rfl rfl sz61 rfl rfl) ?_
      obtain ⟨v_14, hc14, h⟩ := h
      refine s_rd (v := (Sl.v v_14)) (r_load1 rfl rfl underlying61 rfl hc14) ?_
      refine s_rd (v := (Value.int .i64 (v_14.len : Int))) (r_lenSl rfl rfl underlying61) ?_
      refine s_rd (v := (Value.int .i64 (0 : Int))) (r_move rfl rfl) ?_
      refine HL_nil ?_
      refine HC_block ?_
      obtain ⟨I1, m1, hI0, hr⟩ := h
      refine HC_loop (fun m1 E F => ∃ v_16 : Int, E 0 = (Value.pointer (some d0a__1)) ∧ E 14 = (Sl.v v_14) ∧ E 15 = (Value.int .i64 (v_14.len : Int)) ∧ E 16 = (Value.int .i64 v_16) ∧ I1 m1 v_16 F) m1 ⟨_, rfl, rfl, rfl, rfl, hI0⟩ ?_
      clear hI0; rintro m1 E F ⟨v_16, h0, h14, h15, h16, hI⟩
      have h := hr m1 v_16 F hI
      clear hr hI
      unfold b17L1 at h
      refine HC_seq ?_
      refine HC_region ?_
      refine s_rd (v := (Value.bool (decide (v_16 < (v_14.len : Int))))) (r_lss rfl h16 h15) ?_
      refine HL_nil ?_
      refine HC_seq ?_
      refine HC_cond (t := (decide (v_16 < (v_14.len : Int)))) rfl (fun hc => ?_) (fun hc => ?_)
      · replace h := h.1 (of_decide_eq_true hc)
        clear hc
        refine HC_skip ?_
        refine HC_seq ?_
        refine HC_block ?_
        refine HC_seq ?_
        refine HC_region ?_
        obtain ⟨a18_, hb18, hl18, hu18, h⟩ := h
        refine s_rd (v := (Value.pointer (some (Addr.add a18_ (Int.toNat v_16 * 65))))) (w_indexAddr h14 h16 underlying61 sz66 hb18 hl18 hu18) ?_
        obtain ⟨v_19, hs19, hc19, h⟩ := h
        refine s_rd (v := (Value.agg v_19)) (w_loadN rfl underlying66 rfl sz66 hs19 hc19) ?_
        refine s_ef (k_alloc zr66 ?_)
        intro b5 hf_b5
        replace h := atE (h b5 hf_b5)
        refine s_ef0 (k_storeN (vs := v_19) rfl rfl sz66 (by decide) ?_)
        obtain ⟨hz1, hz2, c, e, hz3, hz4, hz5, h⟩ := h
        refine ⟨hz1, hz2, c, e, hz3, hz4, hz5, ?_⟩
        replace h := atE h
        refine HL_nil ?_
        refine HC_draw0 (by kernel_rfl) (fun hp => ?_)
        refine g_pu (i := 0) (v := (Value.pointer (some d0a__1))) rfl (by kernel_rfl) (by kernel_rfl) (by kernel_rfl) (fun _ _ _ h => h) (fun _ => r_move rfl h0) hp ?_
        refine g_pu (i := 1) (v := (Value.pointer (some (Addr.mk b5 0 none)))) rfl (by kernel_rfl) (by kernel_rfl) (by kernel_rfl) (fun _ _ _ h => h) (fun _ => w_fieldAddr (a' := (Addr.mk b5 0 none)) rfl underlying66 rfl rfl sz3 rfl rfl) hp ?_
        obtain ⟨v_22, hc22, h⟩ := h
        refine g_rd (i := 2) (v := (Value.int .i64 v_22)) rfl (by kernel_rfl) (by kernel_rfl) (by kernel_rfl) (fun _ _ _ h => h) (r_load1 rfl rfl underlying3 rfl hc22) hp (fun S2 q2 => ?_)
        replace hp := holdC (i := 2) (q2 _ (r_load1 rfl rfl underlying3 rfl hc22)) hp
        refine g_pu (i := 4) (v := (Value.pointer (some (Addr.mk b5 1 none)))) rfl (by kernel_rfl) (by kernel_rfl) (by kernel_rfl) (fun _ _ _ h => h) (fun _ => w_fieldAddr (a' := (Addr.mk b5 1 none)) rfl underlying66 rfl rfl sz64 rfl rfl) hp ?_
        refine g_pu (i := 5) (v := (Sl.v (Sl.cut ⟨some (Addr.mk b5 1 none), 64, 64⟩ 1 0 64 64))) rfl (by kernel_rfl) (by kernel_rfl) (by kernel_rfl) (fun _ _ _ h => h) (fun _ => r_sliceAr rfl rfl underlying64 sz5 bo_none bo_none (Nat.zero_le _) (Nat.le_refl _)) hp ?_
        refine RG_eff1 (i := 3) (by kernel_rfl) (g_op (Sp' := []) rfl rfl (k_call (vs := [(Value.pointer (some d0a__1)), (Value.int .i64 v_22)]) cb31 (evC rfl (evC rfl evN)) (h.mono ?_)))
        clear h; rintro v F ⟨v_23, rfl, h⟩
        refine holdI hold0 (fun hp => ?_)
        refine RG_eff1 (i := 6) (by kernel_rfl) (g_op (Sp' := []) rfl rfl (k_copy rfl rfl (runs_mono _ _ h ?_)))
        clear h; rintro v F ⟨v_26, rfl, h⟩
        refine holdI hold0 (fun hp => ?_)
        refine RG_done (by kernel_rfl) ?_
        refine HC_region ?_
        refine s_rd (v := (Value.int .i64 (IntKind.i64.wrap (v_16 + (1 : Int))))) (r_add rfl h16 rfl) ?_
        refine s_rd (v := (Value.int .i64 (IntKind.i64.wrap (v_16 + (1 : Int))))) (r_move rfl rfl) ?_
        refine HL_nil ?_
        obtain ⟨m', hm, h⟩ := h
        exact ⟨m', hm, _, h0, h14, h15, rfl, h⟩
      · replace h := h.2 (of_decide_eq_false hc)
        clear hc
        refine HC_exit ?_
        show b17J1 (some d0a__1) R _ _
        exact ⟨h0, h⟩

/- 20 (*koine.disk.Disk).Power -/
def b20 (d_0 : Option Addr) (R : Value → PH → Prop) (F : PH) : Prop :=
  ∃ d0a_ : Addr, d_0 = some d0a_ ∧ ∃ c e, F (Addr.add d0a_ 2).block = some (.cells c e (0, 0)) ∧ (Addr.add d0a_ 2).spot = none ∧ (Addr.add d0a_ 2).off < c.size ∧
  atF (F.set (Addr.add d0a_ 2).block (.cells (c.setIfInBounds (Addr.add d0a_ 2).off (Value.bool false)) e)) fun F =>
  R (Value.tuple #[]) F
theorem c20 {d_0 : Option Addr} {R : Value → PH → Prop} {F : PH} (h : b20 d_0 R F) : Spec prog 20 #[(Value.pointer d_0)] F R := by
  refine spec_of (args := [(Value.pointer d_0)]) func20 rfl ntmps20 rfl ?_
  unfold b20 at h
  refine HC_region ?_
  refine s_rd (v := (Value.pointer d_0)) (r_move rfl rfl) ?_
  obtain ⟨d0a_, rfl, h⟩ := h
  refine s_rd (v := (Value.pointer (some d0a_))) (r_nilCheck rfl rfl) ?_
  refine s_rd (v := (Value.pointer (some (Addr.add d0a_ 2)))) (w_fieldAddr (a' := (Addr.add d0a_ 2)) rfl underlying63 rfl rfl sz4 rfl rfl) ?_
  refine s_ef0 (k_store1 (v := (Value.bool false)) rfl rfl sz4 rfl st_bool ?_)
  obtain ⟨c, e, hz3, hz4, hz5, h⟩ := h
  refine ⟨c, e, hz3, hz4, hz5, ?_⟩
  replace h := atE h
  refine HL_nil ?_
  exact (show endQ prog f20 R .normal _ _ from ⟨_, res0 rfl, h⟩)

/- 21 koine.disk.New -/
def b21 (sectors_0 : Int) (R : Value → PH → Prop) (F : PH) : Prop :=
  ((sectors_0 < (1 : Int) →
    R (Value.tuple #[(Value.pointer none), (Value.int .i64 (1 : Int))]) F) ∧
  (¬ (sectors_0 < (1 : Int)) →
    (((65536 : Int) < sectors_0 →
      R (Value.tuple #[(Value.pointer none), (Value.int .i64 (2 : Int))]) F) ∧
    (¬ ((65536 : Int) < sectors_0) →
      runs prog (Instr.makeSlice 26 (Value.int .i64 (IntKind.i64.wrap (sectors_0 * (64 : Int)))) (Value.int .i64 (IntKind.i64.wrap (sectors_0 * (64 : Int))))) F fun v F => ∃ v_12 : Sl, v = (Sl.v v_12) ∧
      ∀ b14, F b14 = none → atF (F.set b14 (.cells (#[(Sl.v v_12), Value.slice none 0 0, Value.bool false, Value.int .i64 0, Value.slice none 0 0] : Array Value) 63)) fun F =>
      R (Value.tuple #[(Value.pointer (some (Addr.mk b14 0 none))), (Value.int .i64 (0 : Int))]) F))))
theorem c21 {sectors_0 : Int} {R : Value → PH → Prop} {F : PH} (h : b21 sectors_0 R F) : Spec prog 21 #[(Value.int .i64 sectors_0)] F R := by
  refine spec_of (args := [(Value.int .i64 sectors_0)]) func21 rfl ntmps21 rfl ?_
  unfold b21 at h
  refine HC_seq ?_
  refine HC_region ?_
  refine s_rd (v := (Value.pointer none)) (r_assign rfl rfl) ?_
  refine s_rd (v := (Value.int .i64 (0 : Int))) (r_assign rfl rfl) ?_
  refine HL_nil ?_
  refine HC_seq ?_
  refine HC_block ?_
  refine HC_seq ?_
  refine HC_region ?_
  refine s_rd (v := (Value.int .i64 sectors_0)) (r_move rfl rfl) ?_
  refine s_rd (v := (Value.bool (decide (sectors_0 < (1 : Int))))) (r_lss rfl rfl rfl) ?_
  refine s_rd (v := (Value.bool (decide (sectors_0 < (1 : Int))))) (r_assign rfl rfl) ?_
  refine HL_nil ?_
  refine HC_cond (t := (decide (sectors_0 < (1 : Int)))) rfl (fun hc => ?_) (fun hc => ?_)
  · replace h := h.1 (of_decide_eq_true hc)
    clear hc
    refine HC_seq ?_
    refine HC_region ?_
    refine s_rd (v := (Value.pointer none)) (r_assign rfl rfl) ?_
    refine s_rd (v := (Value.int .i64 (1 : Int))) (r_assign rfl rfl) ?_
    refine HL_nil ?_
    exact HC_ret (show endQ prog f21 R .ret _ _ from ⟨_, res2 rfl (rv_tmp rfl) (rv_tmp rfl), h⟩)
  · replace h := h.2 (of_decide_eq_false hc)
    clear hc
    refine HC_seq ?_
    refine HC_region ?_
    refine s_rd (v := (Value.int .i64 sectors_0)) (r_move rfl rfl) ?_
    refine s_rd (v := (Value.bool (decide ((65536 : Int) < sectors_0)))) (r_gtr rfl rfl rfl) ?_
    refine s_rd (v := (Value.bool (decide ((65536 : Int) < sectors_0)))) (r_assign rfl rfl) ?_
    refine HL_nil ?_
    refine HC_cond (t := (decide ((65536 : Int) < sectors_0))) rfl (fun hc => ?_) (fun hc => ?_)
    · replace h := h.1 (of_decide_eq_true hc)
      clear hc
      refine HC_seq ?_
      refine HC_region ?_
      refine s_rd (v := (Value.pointer none)) (r_assign rfl rfl) ?_
      refine s_rd (v := (Value.int .i64 (2 : Int))) (r_assign rfl rfl) ?_
      refine HL_nil ?_
      exact HC_ret (show endQ prog f21 R .ret _ _ from ⟨_, res2 rfl (rv_tmp rfl) (rv_tmp rfl), h⟩)
    · replace h := h.2 (of_decide_eq_false hc)
      clear hc
      refine HC_skip ?_
      refine HC_seq ?_
      refine HC_region ?_
      refine s_rd (v := (Value.int .i64 sectors_0)) (r_move rfl rfl) ?_
      refine s_rd (v := (Value.int .i64 (IntKind.i64.wrap (sectors_0 * (64 : Int))))) (r_mul rfl rfl rfl) ?_
      refine s_ef (k_makeSlice rfl rfl (runs_mono _ _ h ?_))
      clear h; rintro v F ⟨v_12, rfl, h⟩
      refine s_rd (v := (Value.agg (#[(Sl.v v_12), Value.slice none 0 0, Value.bool false, Value.int .i64 0, Value.slice none 0 0] : Array Value))) (w_buildStruct (cells := #[(Sl.v v_12), Value.slice none 0 0, Value.bool false, Value.int .i64 0, Value.slice none 0 0]) underlying63 zr63 kf63 (evPC rfl evPN) (fill1 (place_of rfl rfl sz26) rfl rfl (fillN rfl))) ?_
      refine s_ef (k_box (cs := (#[(Sl.v v_12), Value.slice none 0 0, Value.bool false, Value.int .i64 0, Value.slice none 0 0] : Array Value)) rfl rfl ?_)
      intro b14 hf_b14
      replace h := atE (h b14 hf_b14)
      refine s_rd (v := (Value.pointer (some (Addr.mk b14 0 none)))) (r_assign rfl rfl) ?_
      refine s_rd (v := (Value.int .i64 (0 : Int))) (r_assign rfl rfl) ?_
      refine HL_nil ?_
      exact HC_ret (show endQ prog f21 R .ret _ _ from ⟨_, res2 rfl (rv_tmp rfl) (rv_tmp rfl), h⟩)

/- 27 (*koine.disk.Disk).Copy -/
def b27 (d_0 : Option Addr) (R : Value → PH → Prop) (F : PH) : Prop :=
  ∃ d0a_ : Addr, d_0 = some d0a_ ∧ ∃ v_6 : Array Value, v_6.size = 5 ∧ F.row d0a_ v_6 ∧
  ∀ b3, F b3 = none → atF (F.set b3 (.cells (#[Value.slice none 0 0, Value.slice none 0 0, Value.bool false, Value.int .i64 0, Value.slice none 0 0]) 63)) fun F =>
  v_6.size = 5 ∧ (∀ v ∈ v_6.toList, storable v) ∧ ∃ c e, F (Addr.mk b3 0 none).block = some (.cells c e (0, 0)) ∧ (Addr.mk b3 0 none).spot = none ∧ (Addr.mk b3 0 none).off + 5 ≤ c.size ∧
  atF (F.set (Addr.mk b3 0 none).block (.cells (wr c (Addr.mk b3 0 none).off v_6.toList) e)) fun F =>
  ∃ v_10 : Sl, F.cell d0a_ = some (Sl.v v_10) ∧
  ∃ v_15 : Sl, F.cell (Addr.add d0a_ 1) = some (Sl.v v_15) ∧
  ∃ v_20 : Sl, F.cell (Addr.add d0a_ 4) = some (Sl.v v_20) ∧
  Spec prog 35 #[(Sl.v v_10)] F fun v F => ∃ v_11 : Sl, v = (Sl.v v_11) ∧
  F.cell (Addr.add d0a_ 4) = some (Sl.v v_20) ∧ F.cell (Addr.add d0a_ 1) = some (Sl.v v_15) ∧ Spec prog 36 #[(Sl.v v_15)] F fun v F => ∃ v_16 : Sl, v = (Sl.v v_16) ∧
  F.cell (Addr.add d0a_ 4) = some (Sl.v v_20) ∧ Spec prog 37 #[(Sl.v v_20)] F fun v F => ∃ v_21 : Sl, v = (Sl.v v_21) ∧
  ∃ c e, F (Addr.mk b3 0 none).block = some (.cells c e (0, 0)) ∧ (Addr.mk b3 0 none).spot = none ∧ (Addr.mk b3 0 none).off < c.size ∧
  atF (F.set (Addr.mk b3 0 none).block (.cells (c.setIfInBounds (Addr.mk b3 0 none).off (Sl.v v_11)) e)) fun F =>
  ∃ c e, F (Addr.mk b3 1 none).block = some (.cells c e (0, 0)) ∧ (Addr.mk b3 1 none).spot = none ∧ (Addr.mk b3 1 none).off < c.size ∧
  atF (F.set (Addr.mk b3 1 none).block (.cells (c.setIfInBounds (Addr.mk b3 1 none).off (Sl.v v_16)) e)) fun F =>
  ∃ c e, F (Addr.mk b3 4 none).block = some (.cells c e (0, 0)) ∧ (Addr.mk b3 4 none).spot = none ∧ (Addr.mk b3 4 none).off < c.size ∧
  atF (F.set (Addr.mk b3 4 none).block (.cells (c.setIfInBounds (Addr.mk b3 4 none).off (Sl.v v_21)) e)) fun F =>
  R (Value.pointer (some (Addr.mk b3 0 none))) F
theorem c27 {d_0 : Option Addr} {R : Value → PH → Prop} {F : PH} (h : b27 d_0 R F) : Spec prog 27 #[(Value.pointer d_0)] F R := by
  refine spec_of (args := [(Value.pointer d_0)]) func27 rfl ntmps27 rfl ?_
  unfold b27 at h
  refine HC_seq ?_
  refine HC_region ?_
  refine s_rd (v := (Value.pointer none)) (r_assign rfl rfl) ?_
  refine HL_nil ?_
  refine HC_seq ?_
  refine HC_region ?_
  refine s_rd (v := (Value.pointer d_0)) (r_move rfl rfl) ?_
  obtain ⟨d0a_, rfl, h⟩ := h
  refine s_rd (v := (Value.pointer (some d0a_))) (r_nilCheck rfl rfl) ?_
  obtain ⟨v_6, hs6, hc6, h⟩ := h
  refine s_rd (v := (Value.agg v_6)) (w_loadN rfl underlying63 rfl sz63 hs6 hc6) ?_
  refine s_ef (k_alloc zr63 ?_)
  intro b3 hf_b3
  replace h := atE (h b3 hf_b3)
  refine s_ef0 (k_storeN (vs := v_6) rfl rfl sz63 (by decide) ?_)
  obtain ⟨hz1, hz2, c, e, hz3, hz4, hz5, h⟩ := h
  refine ⟨hz1, hz2, c, e, hz3, hz4, hz5, ?_⟩
  replace h := atE h
  refine HL_nil ?_
  refine HC_seq ?_
  refine HC_draw0 (by kernel_rfl) (fun hp => ?_)
  refine g_pu (i := 0) (v := (Value.pointer (some d0a_))) rfl (by kernel_rfl) (by kernel_rfl) (by kernel_rfl) (fun _ _ _ h => h) (fun _ => r_move rfl rfl) hp ?_
  refine g_pu (i := 1) (v := (Value.pointer (some d0a_))) rfl (by kernel_rfl) (by kernel_rfl) (by kernel_rfl) (fun _ _ _ h => h) (fun _ => r_nilCheck rfl rfl) hp ?_
  refine g_pu (i := 2) (v := (Value.pointer (some d0a_))) rfl (by kernel_rfl) (by kernel_rfl) (by kernel_rfl) (fun _ _ _ h => h) (fun _ => w_fieldAddr (a' := d0a_) rfl underlying63 rfl rfl sz26 rfl rfl) hp ?_
  obtain ⟨v_10, hc10, h⟩ := h
  refine g_rd (i := 3) (v := (Sl.v v_10)) rfl (by kernel_rfl) (by kernel_rfl) (by kernel_rfl) (fun _ _ _ h => h) (r_load1 rfl rfl underlying26 rfl hc10) hp (fun S3 q3 => ?_)
  replace hp := holdC (i := 3) (q3 _ (r_load1 rfl rfl underlying26 rfl hc10)) hp
  refine g_pu (i := 5) (v := (Value.pointer (some d0a_))) rfl (by kernel_rfl) (by kernel_rfl) (by kernel_rfl) (fun _ _ _ h => h) (fun _ => r_move rfl rfl) hp ?_
  refine g_pu (i := 6) (v := (Value.pointer (some d0a_))) rfl (by kernel_rfl) (by kernel_rfl) (by kernel_rfl) (fun _ _ _ h => h) (fun _ => r_nilCheck rfl rfl) hp ?_
  refine g_pu (i := 7) (v := (Value.pointer (some (Addr.add d0a_ 1)))) rfl (by kernel_rfl) (by kernel_rfl) (by kernel_rfl) (fun _ _ _ h => h) (fun _ => w_fieldAddr (a' := (Addr.add d0a_ 1)) rfl underlying63 rfl rfl sz61 rfl rfl) hp ?_
  obtain ⟨v_15, hc15, h⟩ := h
  refine g_rd (i := 8) (v := (Sl.v v_15)) rfl (by kernel_rfl) (by kernel_rfl) (by kernel_rfl) (fun _ _ _ h => h) (r_load1 rfl rfl underlying61 rfl hc15) hp (fun S8 q8 => ?_)
  replace hp := holdC (i := 8) (q8 _ (r_load1 rfl rfl underlying61 rfl hc15)) hp
  refine g_pu (i := 10) (v := (Value.pointer (some d0a_))) rfl (by kernel_rfl) (by kernel_rfl) (by kernel_rfl) (fun _ _ _ h => h) (fun _ => r_move rfl rfl) hp ?_
  refine g_pu (i := 11) (v := (Value.pointer (some d0a_))) rfl (by kernel_rfl) (by kernel_rfl) (by kernel_rfl) (fun _ _ _ h => h) (fun _ => r_nilCheck rfl rfl) hp ?_
  refine g_pu (i := 12) (v := (Value.pointer (some (Addr.add d0a_ 4)))) rfl (by kernel_rfl) (by kernel_rfl) (by kernel_rfl) (fun _ _ _ h => h) (fun _ => w_fieldAddr (a' := (Addr.add d0a_ 4)) rfl underlying63 rfl rfl sz37 rfl rfl) hp ?_
  obtain ⟨v_20, hc20, h⟩ := h
  refine g_rd (i := 13) (v := (Sl.v v_20)) rfl (by kernel_rfl) (by kernel_rfl) (by kernel_rfl) (fun _ _ _ h => h) (r_load1 rfl rfl underlying37 rfl hc20) hp (fun S13 q13 => ?_)
  replace hp := holdC (i := 13) (q13 _ (r_load1 rfl rfl underlying37 rfl hc20)) hp
  refine RG_eff1 (i := 4) (by kernel_rfl) (g_op (Sp' := [(13, S13), (8, S8)]) rfl rfl (k_call (vs := [(Sl.v v_10)]) cb35 (evC rfl evN) (h.mono ?_)))
  clear h; rintro v F ⟨v_11, rfl, h⟩
  obtain ⟨hc20', hc15', h⟩ := h
  refine holdI (holdC (i := 13) (q13 _ (r_load1 rfl rfl underlying37 rfl hc20')) (holdC (i := 8) (q8 _ (r_load1 rfl rfl underlying61 rfl hc15')) hold0)) (fun hp => ?_)
  refine RG_eff1 (i := 9) (by kernel_rfl) (g_op (Sp' := [(13, S13)]) rfl rfl (k_call (vs := [(Sl.v v_15)]) cb36 (evC rfl evN) (h.mono ?_)))
  clear h; rintro v F ⟨v_16, rfl, h⟩
  obtain ⟨hc20'', h⟩ := h
  refine holdI (holdC (i := 13) (q13 _ (r_load1 rfl rfl underlying37 rfl hc20'')) hold0) (fun hp => ?_)
  refine RG_eff1 (i := 14) (by kernel_rfl) (g_op (Sp' := []) rfl rfl (k_call (vs := [(Sl.v v_20)]) cb37 (evC rfl evN) (h.mono ?_)))
  clear h; rintro v F ⟨v_21, rfl, h⟩
  refine holdI hold0 (fun hp => ?_)
  refine g_pu (i := 15) (v := (Value.pointer (some (Addr.mk b3 0 none)))) rfl (by kernel_rfl) (by kernel_rfl) (by kernel_rfl) (fun _ _ _ h => h) (fun _ => w_fieldAddr (a' := (Addr.mk b3 0 none)) rfl underlying63 rfl rfl sz26 rfl rfl) hp ?_
  refine RG_eff1 (i := 16) (by kernel_rfl) (g_op0 (Sp' := []) rfl rfl (k_store1 (v := (Sl.v v_11)) rfl rfl sz26 rfl st_sl ?_))
  obtain ⟨c, e, hz3, hz4, hz5, h⟩ := h
  refine ⟨c, e, hz3, hz4, hz5, ?_⟩
  replace h := atE h
  refine holdI hold0 (fun hp => ?_)
  refine g_pu (i := 17) (v := (Value.pointer (some (Addr.mk b3 1 none)))) rfl (by kernel_rfl) (by kernel_rfl) (by kernel_rfl) (fun _ _ _ h => h) (fun _ => w_fieldAddr (a' := (Addr.mk b3 1 none)) rfl underlying63 rfl rfl sz61 rfl rfl) hp ?_
  refine RG_eff1 (i := 18) (by kernel_rfl) (g_op0 (Sp' := []) rfl rfl (k_store1 (v := (Sl.v v_16)) rfl rfl sz61 rfl st_sl ?_))
  obtain ⟨c, e, hz3, hz4, hz5, h⟩ := h
  refine ⟨c, e, hz3, hz4, hz5, ?_⟩
  replace h := atE h
  refine holdI hold0 (fun hp => ?_)
  refine g_pu (i := 19) (v := (Value.pointer (some (Addr.mk b3 4 none)))) rfl (by kernel_rfl) (by kernel_rfl) (by kernel_rfl) (fun _ _ _ h => h) (fun _ => w_fieldAddr (a' := (Addr.mk b3 4 none)) rfl underlying63 rfl rfl sz37 rfl rfl) hp ?_
  refine RG_eff1 (i := 20) (by kernel_rfl) (g_op0 (Sp' := []) rfl rfl (k_store1 (v := (Sl.v v_21)) rfl rfl sz37 rfl st_sl ?_))
  obtain ⟨c, e, hz3, hz4, hz5, h⟩ := h
  refine ⟨c, e, hz3, hz4, hz5, ?_⟩
  replace h := atE h
  refine holdI hold0 (fun hp => ?_)
  refine RG_done (by kernel_rfl) ?_
  refine HC_seq ?_
  refine HC_region ?_
  refine s_rd (v := (Value.pointer (some (Addr.mk b3 0 none)))) (r_assign rfl rfl) ?_
  refine HL_nil ?_
  exact HC_ret (show endQ prog f27 R .ret _ _ from ⟨_, res1 rfl (rv_tmp rfl), h⟩)

/- 28 (koine.koineref34.Op).Data -/
def b28j1 (v_10 : Sl) (R : Value → PH → Prop) (F : PH) : Prop :=
  R (Sl.v v_10) F
abbrev b28J1 (v_10 : Sl) (R : Value → PH → Prop) (E : En) (F : PH) : Prop := E 3 = (Sl.v v_10) ∧ b28j1 v_10 R F
def b28L1 (N1 : Int → PH → Prop) (b1 : Nat) (v_10 : Sl) (R : Value → PH → Prop) (i_4 : Int) (F : PH) : Prop :=
  ((i_4 < (v_10.len : Int) →
    ∃ v_20 : Int, F.cell (Addr.mk b1 2 none) = some (Value.int .u8 v_20) ∧
    ∃ a24_ : Addr, v_10.base = some a24_ ∧ 0 ≤ i_4 ∧ i_4 < (v_10.len : Int) ∧
    ∃ c e, F (Addr.add a24_ (Int.toNat i_4 * 1)).block = some (.cells c e (0, 0)) ∧ (Addr.add a24_ (Int.toNat i_4 * 1)).spot = none ∧ (Addr.add a24_ (Int.toNat i_4 * 1)).off < c.size ∧
    atF (F.set (Addr.add a24_ (Int.toNat i_4 * 1)).block (.cells (c.setIfInBounds (Addr.add a24_ (Int.toNat i_4 * 1)).off (Value.int .u8 (IntKind.u8.wrap (v_20 + (IntKind.u8.wrap i_4))))) e)) fun F =>
    N1 (IntKind.i64.wrap (i_4 + (1 : Int))) F) ∧
  (¬ (i_4 < (v_10.len : Int)) →
    b28j1 v_10 R F))
def b28 (x_0 : Array Value) (R : Value → PH → Prop) (F : PH) : Prop :=
  ∀ b1, F b1 = none → atF (F.set b1 (.cells x_0 40)) fun F =>
  ∃ v_6 : Int, F.cell (Addr.mk b1 3 none) = some (Value.int .i64 v_6) ∧
  runs prog (Instr.makeSlice 26 (Value.int .i64 (min (max (IntKind.i64.wrap ((64 : Int) + v_6)) (0 : Int)) (70 : Int))) (Value.int .i64 (min (max (IntKind.i64.wrap ((64 : Int) + v_6)) (0 : Int)) (70 : Int)))) F fun v F => ∃ v_10 : Sl, v = (Sl.v v_10) ∧
  (∃ (I1 : Nat → Int → PH → Prop) (m1 : Nat), I1 m1 (0 : Int) F ∧ ∀ m1 i_4 F, I1 m1 i_4 F →
    b28L1 (fun i_4 F => ∃ m', m' < m1 ∧ I1 m' i_4 F) b1 v_10 R i_4 F)
theorem c28 {x_0 : Array Value} {R : Value → PH → Prop} {F : PH} (h : b28 x_0 R F) : Spec prog 28 #[(Value.agg x_0)] F R := by
  refine spec_of (args := [(Value.agg x_0)]) func28 rfl ntmps28 rfl ?_
  unfold b28 at h
  refine HC_seq ?_
  refine HC_region ?_
  refine s_ef (k_box (cs := x_0) rfl rfl ?_)
  intro b1 hf_b1
  replace h := atE (h b1 hf_b1)
  refine s_rd (v := (Sl.v Sl.nil)) (r_assign rfl rfl) ?_
  refine HL_nil ?_
  refine HC_seq ?_
  refine HC_region ?_
  refine s_rd (v := (Value.pointer (some (Addr.mk b1 3 none)))) (w_fieldAddr (a' := (Addr.mk b1 3 none)) rfl underlying40 rfl rfl sz3 rfl rfl) ?_
  obtain ⟨v_6, hc6, h⟩ := h
  refine s_rd (v := (Value.int .i64 v_6)) (r_load1 rfl rfl underlying3 rfl hc6) ?_
  refine s_rd (v := (Value.int .i64 (IntKind.i64.wrap ((64 : Int) + v_6)))) (r_add rfl rfl rfl) ?_
  refine s_rd (v := (Value.int .i64 (max (IntKind.i64.wrap ((64 : Int) + v_6)) (0 : Int)))) (r_max2 rfl rfl rfl) ?_
  refine s_rd (v := (Value.int .i64 (min (max (IntKind.i64.wrap ((64 : Int) + v_6)) (0 : Int)) (70 : Int)))) (r_min2 rfl rfl rfl) ?_
  refine s_ef (k_makeSlice rfl rfl (runs_mono _ _ h ?_))
  clear h; rintro v F ⟨v_10, rfl, h⟩
  refine s_rd (v := (Sl.v v_10)) (r_assign rfl rfl) ?_
  refine HL_nil ?_
  refine HC_seqJ (b28J1 v_10 R) ?_ ?_
  · clear h; rintro E F ⟨h3, h⟩
    unfold b28j1 at h
    refine HC_seq ?_
    refine HC_region ?_
    refine s_rd (v := (Sl.v v_10)) (r_move rfl h3) ?_
    refine s_rd (v := (Sl.v v_10)) (r_assign rfl rfl) ?_
    refine HL_nil ?_
    exact HC_ret (show endQ prog f28 R .ret _ _ from ⟨_, res1 rfl (rv_tmp rfl), h⟩)
  · skip
    refine HC_seq ?_
    refine HC_region ?_
    refine s_rd (v := (Value.int .i64 (0 : Int))) (r_assign rfl rfl) ?_
    refine HL_nil ?_
    refine HC_block ?_
    obtain ⟨I1, m1, hI0, hr⟩ := h
    refine HC_loop (fun m1 E F => ∃ i_4 : Int, E 1 = (Value.pointer (some (Addr.mk b1 0 none))) ∧ E 3 = (Sl.v v_10) ∧ E 4 = (Value.int .i64 i_4) ∧ I1 m1 i_4 F) m1 ⟨_, rfl, rfl, rfl, hI0⟩ ?_
    clear hI0; rintro m1 E F ⟨i_4, h1, h3, h4, hI⟩
    have h := hr m1 i_4 F hI
    clear hr hI
    unfold b28L1 at h
    refine HC_seq ?_
    refine HC_seq ?_
    refine HC_region ?_
    refine s_rd (v := (Value.int .i64 i_4)) (r_move rfl h4) ?_
    refine s_rd (v := (Sl.v v_10)) (r_move rfl h3) ?_
    refine s_rd (v := (Value.int .i64 (v_10.len : Int))) (r_lenSl rfl rfl underlying26) ?_
    refine s_rd (v := (Value.bool (decide (i_4 < (v_10.len : Int))))) (r_lss rfl rfl rfl) ?_
    refine HL_nil ?_
    refine HC_cond (t := (decide (i_4 < (v_10.len : Int)))) rfl (fun hc => ?_) (fun hc => ?_)
    · replace h := h.1 (of_decide_eq_true hc)
      clear hc
      refine HC_skip ?_
      refine HC_seq ?_
      refine HC_block ?_
      refine HC_region ?_
      refine s_rd (v := (Sl.v v_10)) (r_move rfl h3) ?_
      refine s_rd (v := (Value.int .i64 i_4)) (r_move rfl h4) ?_
      refine s_rd (v := (Value.pointer (some (Addr.mk b1 2 none)))) (w_fieldAddr (a' := (Addr.mk b1 2 none)) h1 underlying40 rfl rfl sz5 rfl rfl) ?_
      obtain ⟨v_20, hc20, h⟩ := h
      refine s_rd (v := (Value.int .u8 v_20)) (r_load1 rfl rfl underlying5 rfl hc20) ?_
      refine s_rd (v := (Value.int .i64 i_4)) (r_move rfl h4) ?_
      refine s_rd (v := (Value.int .u8 (IntKind.u8.wrap i_4))) (r_convInt rfl rfl underlying3 underlying5) ?_
      refine s_rd (v := (Value.int .u8 (IntKind.u8.wrap (v_20 + (IntKind.u8.wrap i_4))))) (r_add rfl rfl rfl) ?_
      obtain ⟨a24_, hb24, hl24, hu24, h⟩ := h
      refine s_rd (v := (Value.pointer (some (Addr.add a24_ (Int.toNat i_4 * 1))))) (w_indexAddr rfl rfl underlying26 sz5 hb24 hl24 hu24) ?_
      refine s_ef0 (k_store1 (v := (Value.int .u8 (IntKind.u8.wrap (v_20 + (IntKind.u8.wrap i_4))))) rfl rfl sz5 rfl st_int ?_)
      obtain ⟨c, e, hz3, hz4, hz5, h⟩ := h
      refine ⟨c, e, hz3, hz4, hz5, ?_⟩
      replace h := atE h
      refine HL_nil ?_
      refine HC_region ?_
      refine s_rd (v := (Value.int .i64 i_4)) (r_move rfl h4) ?_
      refine s_rd (v := (Value.int .i64 (IntKind.i64.wrap (i_4 + (1 : Int))))) (r_add rfl rfl rfl) ?_
      refine s_rd (v := (Value.int .i64 (IntKind.i64.wrap (i_4 + (1 : Int))))) (r_assign rfl rfl) ?_
      refine HL_nil ?_
      obtain ⟨m', hm, h⟩ := h
      exact ⟨m', hm, _, h1, h3, rfl, h⟩
    · replace h := h.2 (of_decide_eq_false hc)
      clear hc
      refine HC_exit ?_
      show b28J1 v_10 R _ _
      exact ⟨h3, h⟩

/- 29 (*koine.disk.Disk).Fuse -/
def b29 (d_0 : Option Addr) (n_1 : Int) (kept_2 : Sl) (R : Value → PH → Prop) (F : PH) : Prop :=
  Spec prog 37 #[(Sl.v kept_2)] F fun v F => ∃ v_11 : Sl, v = (Sl.v v_11) ∧
  ∃ d0a_ : Addr, d_0 = some d0a_ ∧ ∃ c e, F (Addr.add d0a_ 3).block = some (.cells c e (0, 0)) ∧ (Addr.add d0a_ 3).spot = none ∧ (Addr.add d0a_ 3).off < c.size ∧
  atF (F.set (Addr.add d0a_ 3).block (.cells (c.setIfInBounds (Addr.add d0a_ 3).off (Value.int .i64 (max n_1 (0 : Int)))) e)) fun F =>
  ∃ c e, F (Addr.add d0a_ 4).block = some (.cells c e (0, 0)) ∧ (Addr.add d0a_ 4).spot = none ∧ (Addr.add d0a_ 4).off < c.size ∧
  atF (F.set (Addr.add d0a_ 4).block (.cells (c.setIfInBounds (Addr.add d0a_ 4).off (Sl.v v_11)) e)) fun F =>
  R (Value.tuple #[]) F
theorem c29 {d_0 : Option Addr} {n_1 : Int} {kept_2 : Sl} {R : Value → PH → Prop} {F : PH} (h : b29 d_0 n_1 kept_2 R F) : Spec prog 29 #[(Value.pointer d_0), (Value.int .i64 n_1), (Sl.v kept_2)] F R := by
  refine spec_of (args := [(Value.pointer d_0), (Value.int .i64 n_1), (Sl.v kept_2)]) func29 rfl ntmps29 rfl ?_
  unfold b29 at h
  refine HC_region ?_
  refine s_rd (v := (Value.pointer d_0)) (r_move rfl rfl) ?_
  refine s_rd (v := (Value.pointer d_0)) (r_move rfl rfl) ?_
  refine s_rd (v := (Value.int .i64 n_1)) (r_move rfl rfl) ?_
  refine s_rd (v := (Value.int .i64 (max n_1 (0 : Int)))) (r_max2 rfl rfl rfl) ?_
  refine s_rd (v := (Sl.v kept_2)) (r_move rfl rfl) ?_
  refine s_ef (k_call (vs := [(Sl.v kept_2)]) cb37 (evC rfl evN) (h.mono ?_))
  clear h; rintro v F ⟨v_11, rfl, h⟩
  obtain ⟨d0a_, rfl, h⟩ := h
  refine s_rd (v := (Value.pointer (some d0a_))) (r_nilCheck rfl rfl) ?_
  refine s_rd (v := (Value.pointer (some (Addr.add d0a_ 3)))) (w_fieldAddr (a' := (Addr.add d0a_ 3)) rfl underlying63 rfl rfl sz3 rfl rfl) ?_
  refine s_ef0 (k_store1 (v := (Value.int .i64 (max n_1 (0 : Int)))) rfl rfl sz3 rfl st_int ?_)
  obtain ⟨c, e, hz3, hz4, hz5, h⟩ := h
  refine ⟨c, e, hz3, hz4, hz5, ?_⟩
  replace h := atE h
  refine s_rd (v := (Value.pointer (some d0a_))) (r_nilCheck rfl rfl) ?_
  refine s_rd (v := (Value.pointer (some (Addr.add d0a_ 4)))) (w_fieldAddr (a' := (Addr.add d0a_ 4)) rfl underlying63 rfl rfl sz37 rfl rfl) ?_
  refine s_ef0 (k_store1 (v := (Sl.v v_11)) rfl rfl sz37 rfl st_sl ?_)
  obtain ⟨c, e, hz3, hz4, hz5, h⟩ := h
  refine ⟨c, e, hz3, hz4, hz5, ?_⟩
  replace h := atE h
  refine HL_nil ?_
  exact (show endQ prog f29 R .normal _ _ from ⟨_, res0 rfl, h⟩)

/- 35 slices.Clone[[]byte,byte] -/
def b35 (s_0 : Sl) (R : Value → PH → Prop) (F : PH) : Prop :=
  (((s_0.base.isNone) = true →
    R (Sl.v Sl.nil) F) ∧
  ((s_0.base.isNone) = false →
    ∀ b5, F b5 = none → atF (F.set b5 (.cells #[] 5)) fun F =>
    runs prog (Builtin.append_ #[26, 26] 26 #[(Sl.v (Sl.mk (some (Addr.mk b5 0 none)) 0 0)), (Sl.v s_0)]) F fun v F => ∃ v_7 : Sl, v = (Sl.v v_7) ∧
    R (Sl.v v_7) F))
theorem c35 {s_0 : Sl} {R : Value → PH → Prop} {F : PH} (h : b35 s_0 R F) : Spec prog 35 #[(Sl.v s_0)] F R := by
  refine spec_of (args := [(Sl.v s_0)]) func35 rfl ntmps35 rfl ?_
  unfold b35 at h
  refine HC_seq ?_
  refine HC_region ?_
  refine s_rd (v := (Sl.v Sl.nil)) (r_assign rfl rfl) ?_
  refine HL_nil ?_
  refine HC_seq ?_
  refine HC_seq ?_
  refine HC_region ?_
  refine s_rd (v := (Sl.v s_0)) (r_move rfl rfl) ?_
  refine s_rd (v := (Value.bool (s_0.base.isNone))) (r_eqlSlNil rfl rfl rfl underlying26) ?_
  refine HL_nil ?_
  refine HC_cond (t := (s_0.base.isNone)) rfl (fun hc => ?_) (fun hc => ?_)
  · replace h := h.1 hc
    clear hc
    refine HC_seq ?_
    refine HC_region ?_
    refine s_rd (v := (Sl.v Sl.nil)) (r_assign rfl rfl) ?_
    refine HL_nil ?_
    exact HC_ret (show endQ prog f35 R .ret _ _ from ⟨_, res1 rfl (rv_tmp rfl), h⟩)
  · replace h := h.2 hc
    clear hc
    refine HC_skip ?_
    refine HC_seq ?_
    refine HC_region ?_
    refine s_ef (k_buildSeq (l := []) underlying26 sz5 (by decide) zr5 rfl rfl trivial evPN ?_)
    intro b5 hf_b5
    replace h := atE (h b5 hf_b5)
    refine s_rd (v := (Sl.v s_0)) (r_move rfl rfl) ?_
    refine s_ef (k_append rfl rfl (runs_mono _ _ h ?_))
    clear h; rintro v F ⟨v_7, rfl, h⟩
    refine s_rd (v := (Sl.v v_7)) (r_assign rfl rfl) ?_
    refine HL_nil ?_
    exact HC_ret (show endQ prog f35 R .ret _ _ from ⟨_, res1 rfl (rv_tmp rfl), h⟩)

/- 36 slices.Clone[[]koine.disk.pending,koine.disk.pending] -/
def b36 (s_0 : Sl) (R : Value → PH → Prop) (F : PH) : Prop :=
  (((s_0.base.isNone) = true →
    R (Sl.v Sl.nil) F) ∧
  ((s_0.base.isNone) = false →
    ∀ b5, F b5 = none → atF (F.set b5 (.cells #[] 66)) fun F =>
    runs prog (Builtin.append_ #[61, 61] 61 #[(Sl.v (Sl.mk (some (Addr.mk b5 0 none)) 0 0)), (Sl.v s_0)]) F fun v F => ∃ v_7 : Sl, v = (Sl.v v_7) ∧
    R (Sl.v v_7) F))
theorem c36 {s_0 : Sl} {R : Value → PH → Prop} {F : PH} (h : b36 s_0 R F) : Spec prog 36 #[(Sl.v s_0)] F R := by
  refine spec_of (args := [(Sl.v s_0)]) func36 rfl ntmps36 rfl ?_
  unfold b36 at h
  refine HC_seq ?_
  refine HC_region ?_
  refine s_rd (v := (Sl.v Sl.nil)) (r_assign rfl rfl) ?_
  refine HL_nil ?_
  refine HC_seq ?_
  refine HC_seq ?_
  refine HC_region ?_
  refine s_rd (v := (Sl.v s_0)) (r_move rfl rfl) ?_
  refine s_rd (v := (Value.bool (s_0.base.isNone))) (r_eqlSlNil rfl rfl rfl underlying61) ?_
  refine HL_nil ?_
  refine HC_cond (t := (s_0.base.isNone)) rfl (fun hc => ?_) (fun hc => ?_)
  · replace h := h.1 hc
    clear hc
    refine HC_seq ?_
    refine HC_region ?_
    refine s_rd (v := (Sl.v Sl.nil)) (r_assign rfl rfl) ?_
    refine HL_nil ?_
    exact HC_ret (show endQ prog f36 R .ret _ _ from ⟨_, res1 rfl (rv_tmp rfl), h⟩)
  · replace h := h.2 hc
    clear hc
    refine HC_skip ?_
    refine HC_seq ?_
    refine HC_region ?_
    refine s_ef (k_buildSlice (cells := #[]) underlying61 sz66 (by decide) zr66 ((zc_flat _ rfl _).trans (rfl : _ = (#[] : Array Value))) evPN (fillN rfl) rfl ?_)
    intro b5 hf_b5
    replace h := atE (h b5 hf_b5)
    refine s_rd (v := (Sl.v s_0)) (r_move rfl rfl) ?_
    refine s_ef (k_append rfl rfl (runs_mono _ _ h ?_))
    clear h; rintro v F ⟨v_7, rfl, h⟩
    refine s_rd (v := (Sl.v v_7)) (r_assign rfl rfl) ?_
    refine HL_nil ?_
    exact HC_ret (show endQ prog f36 R .ret _ _ from ⟨_, res1 rfl (rv_tmp rfl), h⟩)

/- 37 slices.Clone[[]int,int] -/
def b37 (s_0 : Sl) (R : Value → PH → Prop) (F : PH) : Prop :=
  (((s_0.base.isNone) = true →
    R (Sl.v Sl.nil) F) ∧
  ((s_0.base.isNone) = false →
    ∀ b5, F b5 = none → atF (F.set b5 (.cells #[] 3)) fun F =>
    runs prog (Builtin.append_ #[37, 37] 37 #[(Sl.v (Sl.mk (some (Addr.mk b5 0 none)) 0 0)), (Sl.v s_0)]) F fun v F => ∃ v_7 : Sl, v = (Sl.v v_7) ∧
    R (Sl.v v_7) F))
theorem c37 {s_0 : Sl} {R : Value → PH → Prop} {F : PH} (h : b37 s_0 R F) : Spec prog 37 #[(Sl.v s_0)] F R := by
  refine spec_of (args := [(Sl.v s_0)]) func37 rfl ntmps37 rfl ?_
  unfold b37 at h
  refine HC_seq ?_
  refine HC_region ?_
  refine s_rd (v := (Sl.v Sl.nil)) (r_assign rfl rfl) ?_
  refine HL_nil ?_
  refine HC_seq ?_
  refine HC_seq ?_
  refine HC_region ?_
  refine s_rd (v := (Sl.v s_0)) (r_move rfl rfl) ?_
  refine s_rd (v := (Value.bool (s_0.base.isNone))) (r_eqlSlNil rfl rfl rfl underlying37) ?_
  refine HL_nil ?_
  refine HC_cond (t := (s_0.base.isNone)) rfl (fun hc => ?_) (fun hc => ?_)
  · replace h := h.1 hc
    clear hc
    refine HC_seq ?_
    refine HC_region ?_
    refine s_rd (v := (Sl.v Sl.nil)) (r_assign rfl rfl) ?_
    refine HL_nil ?_
    exact HC_ret (show endQ prog f37 R .ret _ _ from ⟨_, res1 rfl (rv_tmp rfl), h⟩)
  · replace h := h.2 hc
    clear hc
    refine HC_skip ?_
    refine HC_seq ?_
    refine HC_region ?_
    refine s_ef (k_buildSeq (l := []) underlying37 sz3 (by decide) zr3 rfl rfl trivial evPN ?_)
    intro b5 hf_b5
    replace h := atE (h b5 hf_b5)
    refine s_rd (v := (Sl.v s_0)) (r_move rfl rfl) ?_
    refine s_ef (k_append rfl rfl (runs_mono _ _ h ?_))
    clear h; rintro v F ⟨v_7, rfl, h⟩
    refine s_rd (v := (Sl.v v_7)) (r_assign rfl rfl) ?_
    refine HL_nil ?_
    exact HC_ret (show endQ prog f37 R .ret _ _ from ⟨_, res1 rfl (rv_tmp rfl), h⟩)

end Go.Proofs.Ythnolhcknhhipaa
