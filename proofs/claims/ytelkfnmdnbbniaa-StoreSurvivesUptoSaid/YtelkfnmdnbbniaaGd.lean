/-
  What functions of the program do, in a clean form, each with the proof that its code does so. Printed by a program.
-/
import Derived.Test.YtelkfnmdnbbniaaGf
import Derived.Test.YtelkfnmdnbbniaaPhp
namespace Go.Proofs.Ytelkfnmdnbbniaa
open Go Go.Proofs.Try
set_option maxRecDepth 10000
set_option maxHeartbeats 4000000
/- 48 (*koine.store.Store).read -/
def b48j1 (data_9 : Sl) (R : VP) (F : PH) :=
 R (.tuple #[(Sl.v data_9), (.bool true), (.int .i64 0)]) F
abbrev b48J1 (R : VP) (E : En) (F : PH) : Prop := ∃ data_9 : Sl, E 9 = (Sl.v data_9) ∧ b48j1 data_9 R F
def b48L1 (N1 : Sl → Int → PH → Prop) (s0a_ : Addr) (v_16 : Int) (v_20 : Int) (v_26 : Int) (v_49 : Int) (R : VP) (data_9_1 : Sl) (i_10 : Int) (F : PH) :=
 Spec prog 51 #[(.int .i64 (IntKind.i64.wrap v_49))] F fun v F => ∃ v_83 : Int, v = (.int .i64 v_83) ∧
 ((i_10 < v_83 →
  ∃ v_91 : Option Addr, F.cell s0a_ = some (.pointer v_91) ∧
  Spec prog 38 #[(.pointer v_91), (.int .i64 (IntKind.i64.wrap ((IntKind.i64.wrap ((IntKind.i64.wrap ((IntKind.i64.wrap (v_16 * v_20)) + 1)) + v_26)) + i_10)))] F fun v F => ∃ v_95 : Sl, ∃ v_95_1 : Int, v = (.tuple #[(Sl.v v_95), (.int .i64 v_95_1)]) ∧
  ((v_95_1 ≠ 0 →
   R (.tuple #[(Sl.v Sl.nil), (.bool false), (.int .i64 v_95_1)]) F) ∧
  (¬ (v_95_1 ≠ 0) →
   0 ≤ (IntKind.i64.wrap (1 + (min 63 (IntKind.i64.wrap ((IntKind.i64.wrap v_49) - (data_9_1.len : Int)))))) ∧ 1 ≤ (Int.toNat (IntKind.i64.wrap (1 + (min 63 (IntKind.i64.wrap ((IntKind.i64.wrap v_49) - (data_9_1.len : Int))))))) ∧ (Int.toNat (IntKind.i64.wrap (1 + (min 63 (IntKind.i64.wrap ((IntKind.i64.wrap v_49) - (data_9_1.len : Int))))))) ≤ v_95.cap ∧ 
   runs prog (Builtin.append_ #[39, 39] 39 #[(Sl.v data_9_1), (Sl.v (Sl.cut v_95 1 1 (Int.toNat (IntKind.i64.wrap (1 + (min 63 (IntKind.i64.wrap ((IntKind.i64.wrap v_49) - (data_9_1.len : Int))))))) v_95.cap))]) F fun v F => ∃ v_111 : Sl, v = (Sl.v v_111) ∧
   N1 v_111 (IntKind.i64.wrap (i_10 + 1)) F))) ∧
 (¬ (i_10 < v_83) →
  b48j1 data_9_1 R F))
def b48 (s_0 : Option Addr) (R : VP) (F : PH) :=
 ∃ s0a_ : Addr, s_0 = some s0a_ ∧ ∃ v_16 : Int, F.cell (Addr.add s0a_ 2) = some (.int .i64 v_16) ∧
 ∃ v_20 : Int, F.cell (Addr.add s0a_ 1) = some (.int .i64 v_20) ∧
 ∃ v_26 : Int, F.cell (Addr.add s0a_ 4) = some (.int .i64 v_26) ∧
 ∃ v_31 : Int, F.cell (Addr.add s0a_ 4) = some (.int .i64 v_31) ∧
 Spec prog 44 #[(.pointer (some s0a_))] F fun v F => ∃ v_33 : Int, v = (.int .i64 v_33) ∧
 F.cell (Addr.add s0a_ 4) = some (.int .i64 v_31) ∧ ((v_33 ≤ v_31 →
  R (.tuple #[(Sl.v Sl.nil), (.bool false), (.int .i64 0)]) F) ∧
 (¬ (v_33 ≤ v_31) →
  ∃ v_39 : Option Addr, F.cell s0a_ = some (.pointer v_39) ∧
  Spec prog 38 #[(.pointer v_39), (.int .i64 (IntKind.i64.wrap ((IntKind.i64.wrap ((IntKind.i64.wrap (v_16 * v_20)) + 1)) + v_26)))] F fun v F => ∃ v_41 : Sl, ∃ v_41_1 : Int, v = (.tuple #[(Sl.v v_41), (.int .i64 v_41_1)]) ∧
  ((v_41_1 ≠ 0 →
   R (.tuple #[(Sl.v Sl.nil), (.bool false), (.int .i64 v_41_1)]) F) ∧
  (¬ (v_41_1 ≠ 0) →
   9 ≤ v_41.len ∧ v_41.len ≤ v_41.cap ∧ 
   Spec prog 47 #[(Sl.v (Sl.cut v_41 1 9 v_41.len v_41.cap))] F fun v F => ∃ v_49 : Int, v = (.int .u64 v_49) ∧
   ∃ a51_ : Addr, v_41.base = some a51_ ∧ 0 ≤ (0 : Int) ∧ (0 : Int) < (v_41.len : Int) ∧
   ∃ v_52 : Int, F.cell (Addr.add a51_ (Int.toNat 0 * 1)) = some (.int .u8 v_52) ∧
   ((v_52 ≠ 1 →
    R (.tuple #[(Sl.v Sl.nil), (.bool false), (.int .i64 0)]) F) ∧
   (¬ (v_52 ≠ 1) →
    1 ≤ v_41.len ∧ v_41.len ≤ v_41.cap ∧ 
    ∃ v_61 : Int, F.cell (Addr.add s0a_ 3) = some (.int .u64 v_61) ∧
    Spec prog 47 #[(Sl.v (Sl.cut v_41 1 1 v_41.len v_41.cap))] F fun v F => ∃ v_57 : Int, v = (.int .u64 v_57) ∧
    F.cell (Addr.add s0a_ 3) = some (.int .u64 v_61) ∧ F.cell (Addr.add a51_ (Int.toNat 0 * 1)) = some (.int .u8 v_52) ∧ ((v_57 ≠ v_61 →
     R (.tuple #[(Sl.v Sl.nil), (.bool false), (.int .i64 0)]) F) ∧
    (¬ (v_57 ≠ v_61) →
     ∃ v_71 : Int, F.cell (Addr.add s0a_ 4) = some (.int .i64 v_71) ∧
     Spec prog 44 #[(.pointer (some s0a_))] F fun v F => ∃ v_67 : Int, v = (.int .i64 v_67) ∧
     F.cell (Addr.add s0a_ 4) = some (.int .i64 v_71) ∧ F.cell (Addr.add s0a_ 3) = some (.int .u64 v_61) ∧ F.cell (Addr.add a51_ (Int.toNat 0 * 1)) = some (.int .u8 v_52) ∧ (((IntKind.u64.wrap (IntKind.i64.wrap (63 * (IntKind.i64.wrap ((IntKind.i64.wrap (v_67 - v_71)) - 1))))) < v_49 →
      R (.tuple #[(Sl.v Sl.nil), (.bool false), (.int .i64 0)]) F) ∧
     (¬ ((IntKind.u64.wrap (IntKind.i64.wrap (63 * (IntKind.i64.wrap ((IntKind.i64.wrap (v_67 - v_71)) - 1))))) < v_49) →
      runs prog (Instr.makeSlice 39 (.int .i64 0) (.int .u64 v_49)) F fun v F => ∃ v_79 : Sl, v = (Sl.v v_79) ∧
      (∃ (I1 : Nat → Sl → Int → PH → Prop) (m1 : Nat), I1 m1 v_79 1 F ∧ ∀ m1 data_9_1 i_10 F, I1 m1 data_9_1 i_10 F →
       b48L1 (nx2 I1 m1) s0a_ v_16 v_20 v_26 v_49 R data_9_1 i_10 F)))))))))))
theorem c48 {s_0 : Option Addr} {R : VP} {F : PH} (h : b48 s_0 R F) : Spec prog 48 #[(.pointer s_0)] F R := by
 refine spec_of (args := [(.pointer s_0)]) func48 rfl ntmps48 rfl ?_
 unfold b48 at h
 refine cR (sR (Sl.v Sl.nil) (r_assign rfl rfl) ?_)
 refine sR (.bool false) (r_assign rfl rfl) ?_
 refine sR (.int .i64 0) (r_assign rfl rfl) ?_
 refine HL_nil ?_
 refine HC_seq ?_
 refine HC_draw0 (by kernel_rfl) (fun hp => ?_)
 refine gU 0 (.pointer s_0) rfl (fun _ => r_move rfl rfl) hp ?_
 obtain ⟨s0a_, rfl, h⟩ := h
 refine gU 1 (.pointer (some s0a_)) rfl (fun _ => r_nilCheck rfl rfl) hp ?_
 refine gU 2 (.pointer (some (Addr.add s0a_ 2))) rfl (fun _ => w_fieldAddr rfl underlying84 rfl rfl sz3 rfl rfl) hp ?_
 obtain ⟨v_16, hc16, h⟩ := h
 refine gR 3 (.int .i64 v_16) rfl (r_load1 rfl rfl underlying3 rfl hc16) hp (fun S3 q3 => ?_)
 replace hp := holdC (i := 3) (q3 _ (r_load1 rfl rfl underlying3 rfl hc16)) hp
 refine gU 4 (.pointer (some s0a_)) rfl (fun _ => r_move rfl rfl) hp ?_
 refine gU 5 (.pointer (some s0a_)) rfl (fun _ => r_nilCheck rfl rfl) hp ?_
 refine gU 6 (.pointer (some (Addr.add s0a_ 1))) rfl (fun _ => w_fieldAddr rfl underlying84 rfl rfl sz3 rfl rfl) hp ?_
 obtain ⟨v_20, hc20, h⟩ := h
 refine gR 7 (.int .i64 v_20) rfl (r_load1 rfl rfl underlying3 rfl hc20) hp (fun S7 q7 => ?_)
 replace hp := holdC (i := 7) (q7 _ (r_load1 rfl rfl underlying3 rfl hc20)) hp
 refine gU 8 (.int .i64 (IntKind.i64.wrap (v_16 * v_20))) rfl (fun _ => r_mul rfl rfl rfl) hp ?_
 refine gU 9 (.int .i64 (IntKind.i64.wrap ((IntKind.i64.wrap (v_16 * v_20)) + 1))) rfl (fun _ => r_add rfl rfl rfl) hp ?_
 refine gU 10 (.pointer (some s0a_)) rfl (fun _ => r_move rfl rfl) hp ?_
 refine gU 11 (.pointer (some s0a_)) rfl (fun _ => r_nilCheck rfl rfl) hp ?_
 refine gU 12 (.pointer (some (Addr.add s0a_ 4))) rfl (fun _ => w_fieldAddr rfl underlying84 rfl rfl sz3 rfl rfl) hp ?_
 obtain ⟨v_26, hc26, h⟩ := h
 refine gR 13 (.int .i64 v_26) rfl (r_load1 rfl rfl underlying3 rfl hc26) hp (fun S13 q13 => ?_)
 replace hp := holdC (i := 13) (q13 _ (r_load1 rfl rfl underlying3 rfl hc26)) hp
 refine gU 14 (.int .i64 (IntKind.i64.wrap ((IntKind.i64.wrap ((IntKind.i64.wrap (v_16 * v_20)) + 1)) + v_26))) rfl (fun _ => r_add rfl rfl rfl) hp ?_
 refine gU 15 (.int .i64 (IntKind.i64.wrap ((IntKind.i64.wrap ((IntKind.i64.wrap (v_16 * v_20)) + 1)) + v_26))) rfl (fun _ => r_assign rfl rfl) hp ?_
 refine RG_done (by kernel_rfl) ?_
 refine HC_seq ?_
 refine HC_seq ?_
 refine HC_draw0 (by kernel_rfl) (fun hp => ?_)
 refine gU 0 (.pointer (some s0a_)) rfl (fun _ => r_move rfl rfl) hp ?_
 refine gU 1 (.pointer (some s0a_)) rfl (fun _ => r_nilCheck rfl rfl) hp ?_
 refine gU 2 (.pointer (some (Addr.add s0a_ 4))) rfl (fun _ => w_fieldAddr rfl underlying84 rfl rfl sz3 rfl rfl) hp ?_
 obtain ⟨v_31, hc31, h⟩ := h
 refine gR 3 (.int .i64 v_31) rfl (r_load1 rfl rfl underlying3 rfl hc31) hp (fun S3 q3 => ?_)
 replace hp := holdC (i := 3) (q3 _ (r_load1 rfl rfl underlying3 rfl hc31)) hp
 refine gU 4 (.pointer (some s0a_)) rfl (fun _ => r_move rfl rfl) hp ?_
 refine RG_eff1 (i := 5) (by kernel_rfl) (g_op (Sp' := [(3, S3)]) rfl rfl (k_call (vs := [(.pointer (some s0a_))]) cb44 (evC rfl evN) (h.mono ?_)))
 clear h; rintro v F ⟨v_33, rfl, h⟩
 obtain ⟨hk_4, h⟩ := h
 refine holdI (holdC (i := 3) (q3 _ (r_load1 rfl rfl underlying3 rfl hk_4)) hold0) (fun hp => ?_)
 refine gU 6 (.bool (decide (v_33 ≤ v_31))) rfl (fun _ => r_geq rfl rfl rfl) hp ?_
 refine RG_done (by kernel_rfl) ?_
 refine HC_cond (t := (decide (v_33 ≤ v_31))) rfl (fun hc => ?_) (fun hc => ?_)
 replace h := h.1 (of_decide_eq_true hc)
 clear hc
 refine cR (sR (Sl.v Sl.nil) (r_assign rfl rfl) ?_)
 refine sR (.bool false) (r_assign rfl rfl) ?_
 refine sR (.int .i64 0) (r_assign rfl rfl) ?_
 exact HL_nil (HC_ret (show endQ prog f48 R .ret _ _ from ⟨_, res3 rfl (rv_tmp rfl) (rv_tmp rfl) (rv_tmp rfl), h⟩))
 replace h := h.2 (of_decide_eq_false hc)
 clear hc
 refine HC_skip ?_
 refine cR (sR (.pointer (some s0a_)) (r_move rfl rfl) ?_)
 refine sR (.pointer (some s0a_)) (r_nilCheck rfl rfl) ?_
 refine sR (.pointer (some s0a_)) (w_fieldAddr rfl underlying84 rfl rfl sz24 rfl rfl) ?_
 obtain ⟨v_39, hc39, h⟩ := h
 refine sR (.pointer v_39) (r_load1 rfl rfl underlying24 rfl hc39) ?_
 refine sR (.int .i64 (IntKind.i64.wrap ((IntKind.i64.wrap ((IntKind.i64.wrap (v_16 * v_20)) + 1)) + v_26))) (r_move rfl rfl) ?_
 refine s_ef (k_call (vs := [(.pointer v_39), (.int .i64 (IntKind.i64.wrap ((IntKind.i64.wrap ((IntKind.i64.wrap (v_16 * v_20)) + 1)) + v_26)))]) cb38 (evC rfl (evC rfl evN)) (h.mono ?_))
 clear h; rintro v F ⟨v_41, v_41_1, rfl, h⟩
 refine sR (.tuple #[(Sl.v v_41), (.int .i64 v_41_1)]) (r_move rfl rfl) ?_
 refine sR (Sl.v v_41) (r_extract rfl rfl rfl) ?_
 refine sR (.int .i64 v_41_1) (r_extract rfl rfl rfl) ?_
 refine sR (Sl.v v_41) (r_assign rfl rfl) ?_
 refine sR (.int .i64 v_41_1) (r_assign rfl rfl) ?_
 refine HL_nil ?_
 refine HC_seq ?_
 refine cR (sR (.int .i64 v_41_1) (r_move rfl rfl) ?_)
 refine sR (.bool (decide (v_41_1 ≠ 0))) (w_neq rfl rfl) ?_
 refine HL_nil ?_
 refine HC_cond (t := (decide (v_41_1 ≠ 0))) rfl (fun hc => ?_) (fun hc => ?_)
 replace h := h.1 (of_decide_eq_true hc)
 clear hc
 refine cR (sR (.int .i64 v_41_1) (r_move rfl rfl) ?_)
 refine sR (Sl.v Sl.nil) (r_assign rfl rfl) ?_
 refine sR (.bool false) (r_assign rfl rfl) ?_
 refine sR (.int .i64 v_41_1) (r_assign rfl rfl) ?_
 exact HL_nil (HC_ret (show endQ prog f48 R .ret _ _ from ⟨_, res3 rfl (rv_tmp rfl) (rv_tmp rfl) (rv_tmp rfl), h⟩))
 replace h := h.2 (of_decide_eq_false hc)
 clear hc
 refine HC_skip ?_
 refine cR (sR (Sl.v v_41) (r_move rfl rfl) ?_)
 obtain ⟨hr48_0, hr48_1, h⟩ := h
 refine sR (Sl.v (Sl.cut v_41 1 9 v_41.len v_41.cap)) (r_sliceSl rfl rfl underlying39 sz5 (bo_ev (i := 9) rfl (by decide)) bo_none hr48_0 hr48_1) ?_
 refine s_ef (k_call (vs := [(Sl.v (Sl.cut v_41 1 9 v_41.len v_41.cap))]) cb47 (evC rfl evN) (h.mono ?_))
 clear h; rintro v F ⟨v_49, rfl, h⟩
 refine sR (.int .u64 v_49) (r_assign rfl rfl) ?_
 refine HL_nil ?_
 refine HC_seq ?_
 refine HC_seq ?_
 refine HC_draw0 (by kernel_rfl) (fun hp => ?_)
 refine gU 0 (Sl.v v_41) rfl (fun _ => r_move rfl rfl) hp ?_
 obtain ⟨a51_, hb51, hl51, hu51, h⟩ := h
 refine gU 1 (.pointer (some (Addr.add a51_ (Int.toNat 0 * 1)))) rfl (fun _ => w_indexAddr rfl rfl underlying39 sz5 hb51 hl51 hu51) hp ?_
 obtain ⟨v_52, hc52, h⟩ := h
 refine gR 2 (.int .u8 v_52) rfl (r_load1 rfl rfl underlying5 rfl hc52) hp (fun S2 q2 => ?_)
 replace hp := holdC (i := 2) (q2 _ (r_load1 rfl rfl underlying5 rfl hc52)) hp
 refine gU 3 (.bool (decide (v_52 ≠ 1))) rfl (fun _ => w_neq rfl rfl) hp ?_
 refine gU 4 (.bool (decide (v_52 ≠ 1))) rfl (fun _ => r_move rfl rfl) hp ?_
 by_cases hc : v_52 ≠ 1
 replace h := h.1 hc
 refine RG_known (t := 53) (v := .bool true) (congrArg Value.bool (decide_eq_true hc)) ?_
 refine RG_known (t := 54) (v := .bool true) (congrArg Value.bool (decide_eq_true hc)) ?_
 refine gS 5 rfl hp ?_
 refine gS 6 rfl hp ?_
 refine gS 7 rfl hp ?_
 refine gS 8 rfl hp ?_
 refine gS 9 rfl hp ?_
 refine gS 10 rfl hp ?_
 refine gS 11 rfl hp ?_
 refine gS 12 rfl hp ?_
 refine gU 13 (.bool true) rfl (fun _ => r_pick rfl rfl (fun _ => rfl) (fun h => by cases h)) hp ?_
 refine gU 14 (.bool true) rfl (fun _ => r_move rfl rfl) hp ?_
 refine gS 15 rfl hp ?_
 refine gS 16 rfl hp ?_
 refine gS 17 rfl hp ?_
 refine gS 18 rfl hp ?_
 refine gS 19 rfl hp ?_
 refine gS 20 rfl hp ?_
 refine gS 21 rfl hp ?_
 refine gS 22 rfl hp ?_
 refine gS 23 rfl hp ?_
 refine gS 24 rfl hp ?_
 refine gS 25 rfl hp ?_
 refine gS 26 rfl hp ?_
 refine gU 27 (.bool true) rfl (fun _ => r_pick rfl rfl (fun _ => rfl) (fun h => by cases h)) hp ?_
 refine RG_done (by kernel_rfl) ?_
 refine HC_condT rfl ?_
 refine cR (sR (Sl.v Sl.nil) (r_assign rfl rfl) ?_)
 refine sR (.bool false) (r_assign rfl rfl) ?_
 refine sR (.int .i64 0) (r_assign rfl rfl) ?_
 exact HL_nil (HC_ret (show endQ prog f48 R .ret _ _ from ⟨_, res3 rfl (rv_tmp rfl) (rv_tmp rfl) (rv_tmp rfl), h⟩))
 replace h := h.2 hc
 refine RG_known (t := 53) (v := .bool false) (congrArg Value.bool (decide_eq_false hc)) ?_
 refine RG_known (t := 54) (v := .bool false) (congrArg Value.bool (decide_eq_false hc)) ?_
 refine gU 5 (Sl.v v_41) rfl (fun _ => r_move rfl rfl) hp ?_
 obtain ⟨hr56_0, hr56_1, h⟩ := h
 refine gU 6 (Sl.v (Sl.cut v_41 1 1 v_41.len v_41.cap)) rfl (fun _ => r_sliceSl rfl rfl underlying39 sz5 (bo_ev (i := 1) rfl (by decide)) bo_none hr56_0 hr56_1) hp ?_
 refine gU 8 (.pointer (some s0a_)) rfl (fun _ => r_move rfl rfl) hp ?_
 refine gU 9 (.pointer (some s0a_)) rfl (fun _ => r_nilCheck rfl rfl) hp ?_
 refine gU 10 (.pointer (some (Addr.add s0a_ 3))) rfl (fun _ => w_fieldAddr rfl underlying84 rfl rfl sz81 rfl rfl) hp ?_
 obtain ⟨v_61, hc61, h⟩ := h
 refine gR 11 (.int .u64 v_61) rfl (r_load1 rfl rfl underlying81 rfl hc61) hp (fun S11 q11 => ?_)
 replace hp := holdC (i := 11) (q11 _ (r_load1 rfl rfl underlying81 rfl hc61)) hp
 refine RG_eff1 (i := 7) (by kernel_rfl) (g_op (Sp' := [(11, S11), (2, S2)]) rfl rfl (k_call (vs := [(Sl.v (Sl.cut v_41 1 1 v_41.len v_41.cap))]) cb47 (evC rfl evN) (h.mono ?_)))
 clear h; rintro v F ⟨v_57, rfl, h⟩
 obtain ⟨hk_20, hk_21, h⟩ := h
 refine holdI (holdC (i := 11) (q11 _ (r_load1 rfl rfl underlying81 rfl hk_20)) (holdC (i := 2) (q2 _ (r_load1 rfl rfl underlying5 rfl hk_21)) hold0)) (fun hp => ?_)
 refine gU 12 (.bool (decide (v_57 ≠ v_61))) rfl (fun _ => w_neq rfl rfl) hp ?_
 refine gU 13 (.bool (decide (v_57 ≠ v_61))) rfl (fun _ => r_pick rfl rfl (fun h => by cases h) (fun _ => rfl)) hp ?_
 refine gU 14 (.bool (decide (v_57 ≠ v_61))) rfl (fun _ => r_move rfl rfl) hp ?_
 by_cases hc : v_57 ≠ v_61
 replace h := h.1 hc
 refine RG_known (t := 62) (v := .bool true) (congrArg Value.bool (decide_eq_true hc)) ?_
 refine RG_known (t := 63) (v := .bool true) (congrArg Value.bool (decide_eq_true hc)) ?_
 refine RG_known (t := 64) (v := .bool true) (congrArg Value.bool (decide_eq_true hc)) ?_
 refine gS 15 rfl hp ?_
 refine gS 16 rfl hp ?_
 refine gS 17 rfl hp ?_
 refine gS 18 rfl hp ?_
 refine gS 19 rfl hp ?_
 refine gS 20 rfl hp ?_
 refine gS 21 rfl hp ?_
 refine gS 22 rfl hp ?_
 refine gS 23 rfl hp ?_
 refine gS 24 rfl hp ?_
 refine gS 25 rfl hp ?_
 refine gS 26 rfl hp ?_
 refine gU 27 (.bool true) rfl (fun _ => r_pick rfl rfl (fun _ => rfl) (fun h => by cases h)) hp ?_
 refine RG_done (by kernel_rfl) ?_
 refine HC_condT rfl ?_
 refine cR (sR (Sl.v Sl.nil) (r_assign rfl rfl) ?_)
 refine sR (.bool false) (r_assign rfl rfl) ?_
 refine sR (.int .i64 0) (r_assign rfl rfl) ?_
 exact HL_nil (HC_ret (show endQ prog f48 R .ret _ _ from ⟨_, res3 rfl (rv_tmp rfl) (rv_tmp rfl) (rv_tmp rfl), h⟩))
 replace h := h.2 hc
 refine RG_known (t := 62) (v := .bool false) (congrArg Value.bool (decide_eq_false hc)) ?_
 refine RG_known (t := 63) (v := .bool false) (congrArg Value.bool (decide_eq_false hc)) ?_
 refine RG_known (t := 64) (v := .bool false) (congrArg Value.bool (decide_eq_false hc)) ?_
 refine gU 15 (.int .u64 v_49) rfl (fun _ => r_move rfl rfl) hp ?_
 refine gU 16 (.pointer (some s0a_)) rfl (fun _ => r_move rfl rfl) hp ?_
 refine gU 18 (.pointer (some s0a_)) rfl (fun _ => r_move rfl rfl) hp ?_
 refine gU 19 (.pointer (some s0a_)) rfl (fun _ => r_nilCheck rfl rfl) hp ?_
 refine gU 20 (.pointer (some (Addr.add s0a_ 4))) rfl (fun _ => w_fieldAddr rfl underlying84 rfl rfl sz3 rfl rfl) hp ?_
 obtain ⟨v_71, hc71, h⟩ := h
 refine gR 21 (.int .i64 v_71) rfl (r_load1 rfl rfl underlying3 rfl hc71) hp (fun S21 q21 => ?_)
 replace hp := holdC (i := 21) (q21 _ (r_load1 rfl rfl underlying3 rfl hc71)) hp
 refine RG_eff1 (i := 17) (by kernel_rfl) (g_op (Sp' := [(21, S21), (11, S11), (2, S2)]) rfl rfl (k_call (vs := [(.pointer (some s0a_))]) cb44 (evC rfl evN) (h.mono ?_)))
 clear h; rintro v F ⟨v_67, rfl, h⟩
 obtain ⟨hk_22, hk_23, hk_24, h⟩ := h
 refine holdI (holdC (i := 21) (q21 _ (r_load1 rfl rfl underlying3 rfl hk_22)) (holdC (i := 11) (q11 _ (r_load1 rfl rfl underlying81 rfl hk_23)) (holdC (i := 2) (q2 _ (r_load1 rfl rfl underlying5 rfl hk_24)) hold0))) (fun hp => ?_)
 refine gU 22 (.int .i64 (IntKind.i64.wrap (v_67 - v_71))) rfl (fun _ => r_sub rfl rfl rfl) hp ?_
 refine gU 23 (.int .i64 (IntKind.i64.wrap ((IntKind.i64.wrap (v_67 - v_71)) - 1))) rfl (fun _ => r_sub rfl rfl rfl) hp ?_
 refine gU 24 (.int .i64 (IntKind.i64.wrap (63 * (IntKind.i64.wrap ((IntKind.i64.wrap (v_67 - v_71)) - 1))))) rfl (fun _ => r_mul rfl rfl rfl) hp ?_
 refine gU 25 (.int .u64 (IntKind.u64.wrap (IntKind.i64.wrap (63 * (IntKind.i64.wrap ((IntKind.i64.wrap (v_67 - v_71)) - 1)))))) rfl (fun _ => r_convInt rfl rfl underlying3 underlying81) hp ?_
 refine gU 26 (.bool (decide ((IntKind.u64.wrap (IntKind.i64.wrap (63 * (IntKind.i64.wrap ((IntKind.i64.wrap (v_67 - v_71)) - 1))))) < v_49))) rfl (fun _ => r_gtr rfl rfl rfl) hp ?_
 refine gU 27 (.bool (decide ((IntKind.u64.wrap (IntKind.i64.wrap (63 * (IntKind.i64.wrap ((IntKind.i64.wrap (v_67 - v_71)) - 1))))) < v_49))) rfl (fun _ => r_pick rfl rfl (fun h => by cases h) (fun _ => rfl)) hp ?_
 refine RG_done (by kernel_rfl) ?_
 refine HC_cond (t := (decide ((IntKind.u64.wrap (IntKind.i64.wrap (63 * (IntKind.i64.wrap ((IntKind.i64.wrap (v_67 - v_71)) - 1))))) < v_49))) rfl (fun hc => ?_) (fun hc => ?_)
 replace h := h.1 (of_decide_eq_true hc)
 clear hc
 refine cR (sR (Sl.v Sl.nil) (r_assign rfl rfl) ?_)
 refine sR (.bool false) (r_assign rfl rfl) ?_
 refine sR (.int .i64 0) (r_assign rfl rfl) ?_
 exact HL_nil (HC_ret (show endQ prog f48 R .ret _ _ from ⟨_, res3 rfl (rv_tmp rfl) (rv_tmp rfl) (rv_tmp rfl), h⟩))
 replace h := h.2 (of_decide_eq_false hc)
 clear hc
 refine HC_skip ?_
 refine cR (sR (.int .u64 v_49) (r_move rfl rfl) ?_)
 refine s_ef (k_makeSlice rfl rfl (runs_mono _ _ h ?_))
 clear h; rintro v F ⟨v_79, rfl, h⟩
 refine sR (Sl.v v_79) (r_assign rfl rfl) ?_
 refine HL_nil ?_
 refine HC_seqJ (b48J1 R) ?_ ?_
 clear h; rintro E F ⟨data_9, h9, h⟩
 unfold b48j1 at h
 refine cR (sR _ (r_move rfl h9) ?_)
 refine sR (Sl.v data_9) (r_assign rfl rfl) ?_
 refine sR (.bool true) (r_assign rfl rfl) ?_
 refine sR (.int .i64 0) (r_assign rfl rfl) ?_
 exact HL_nil (HC_ret (show endQ prog f48 R .ret _ _ from ⟨_, res3 rfl (rv_tmp rfl) (rv_tmp rfl) (rv_tmp rfl), h⟩))
 refine cR (sR (.int .i64 1) (r_assign rfl rfl) ?_)
 refine HL_nil ?_
 refine HC_block ?_
 obtain ⟨I1, m1, hI0, hr⟩ := h
 refine HC_loop (fun m1 E F => ∃ data_9_1 : Sl, ∃ i_10 : Int, E 0 = (.pointer (some s0a_)) ∧ E 5 = (.int .i64 (IntKind.i64.wrap ((IntKind.i64.wrap ((IntKind.i64.wrap (v_16 * v_20)) + 1)) + v_26))) ∧ E 8 = (.int .u64 v_49) ∧ E 9 = (Sl.v data_9_1) ∧ E 10 = (.int .i64 i_10) ∧ I1 m1 data_9_1 i_10 F) m1 ⟨_, _, rfl, rfl, rfl, rfl, rfl, hI0⟩ ?_
 clear hI0; rintro m1 E F ⟨data_9_1, i_10, h0, h5, h8, h9, h10, hI⟩
 have h := hr m1 data_9_1 i_10 F hI
 clear hr hI
 unfold b48L1 at h
 refine HC_seq ?_
 refine cR (sR _ (r_move rfl h10) ?_)
 refine sR _ (r_move rfl h8) ?_
 refine sR (.int .i64 (IntKind.i64.wrap v_49)) (r_convInt rfl rfl underlying81 underlying3) ?_
 refine s_ef (k_call (vs := [(.int .i64 (IntKind.i64.wrap v_49))]) cb51 (evC rfl evN) (h.mono ?_))
 clear h; rintro v F ⟨v_83, rfl, h⟩
 refine sR (.bool (decide (i_10 < v_83))) (r_lss rfl rfl rfl) ?_
 refine HL_nil ?_
 refine HC_cond (t := (decide (i_10 < v_83))) rfl (fun hc => ?_) (fun hc => ?_)
 replace h := h.1 (of_decide_eq_true hc)
 clear hc
 refine HC_skip ?_
 refine HC_seq ?_
 refine HC_block ?_
 refine cR (sR _ (r_move rfl h0) ?_)
 refine sR (.pointer (some s0a_)) (r_nilCheck rfl rfl) ?_
 refine sR (.pointer (some s0a_)) (w_fieldAddr rfl underlying84 rfl rfl sz24 rfl rfl) ?_
 obtain ⟨v_91, hc91, h⟩ := h
 refine sR (.pointer v_91) (r_load1 rfl rfl underlying24 rfl hc91) ?_
 refine sR _ (r_move rfl h5) ?_
 refine sR _ (r_move rfl h10) ?_
 refine sR (.int .i64 (IntKind.i64.wrap ((IntKind.i64.wrap ((IntKind.i64.wrap ((IntKind.i64.wrap (v_16 * v_20)) + 1)) + v_26)) + i_10))) (r_add rfl rfl rfl) ?_
 refine s_ef (k_call (vs := [(.pointer v_91), (.int .i64 (IntKind.i64.wrap ((IntKind.i64.wrap ((IntKind.i64.wrap ((IntKind.i64.wrap (v_16 * v_20)) + 1)) + v_26)) + i_10)))]) cb38 (evC rfl (evC rfl evN)) (h.mono ?_))
 clear h; rintro v F ⟨v_95, v_95_1, rfl, h⟩
 refine sR (.tuple #[(Sl.v v_95), (.int .i64 v_95_1)]) (r_move rfl rfl) ?_
 refine sR (Sl.v v_95) (r_extract rfl rfl rfl) ?_
 refine sR (.int .i64 v_95_1) (r_extract rfl rfl rfl) ?_
 refine sR (Sl.v v_95) (r_assign rfl rfl) ?_
 refine sR (.int .i64 v_95_1) (r_assign rfl rfl) ?_
 refine HL_nil ?_
 refine HC_seq ?_
 refine cR (sR (.int .i64 v_95_1) (r_move rfl rfl) ?_)
 refine sR (.bool (decide (v_95_1 ≠ 0))) (w_neq rfl rfl) ?_
 refine HL_nil ?_
 refine HC_cond (t := (decide (v_95_1 ≠ 0))) rfl (fun hc => ?_) (fun hc => ?_)
 replace h := h.1 (of_decide_eq_true hc)
 clear hc
 refine cR (sR (.int .i64 v_95_1) (r_move rfl rfl) ?_)
 refine sR (Sl.v Sl.nil) (r_assign rfl rfl) ?_
 refine sR (.bool false) (r_assign rfl rfl) ?_
 refine sR (.int .i64 v_95_1) (r_assign rfl rfl) ?_
 exact HL_nil (HC_ret (show endQ prog f48 R .ret _ _ from ⟨_, res3 rfl (rv_tmp rfl) (rv_tmp rfl) (rv_tmp rfl), h⟩))
 replace h := h.2 (of_decide_eq_false hc)
 clear hc
 refine HC_skip ?_
 refine HC_region ?_
 refine sR _ (r_move rfl h9) ?_
 refine sR (Sl.v v_95) (r_move rfl rfl) ?_
 refine sR _ (r_move rfl h8) ?_
 refine sR (.int .i64 (IntKind.i64.wrap v_49)) (r_convInt rfl rfl underlying81 underlying3) ?_
 refine sR _ (r_move rfl h9) ?_
 refine sR (.int .i64 (data_9_1.len : Int)) (r_lenSl rfl rfl underlying39) ?_
 refine sR (.int .i64 (IntKind.i64.wrap ((IntKind.i64.wrap v_49) - (data_9_1.len : Int)))) (r_sub rfl rfl rfl) ?_
 refine sR (.int .i64 (min 63 (IntKind.i64.wrap ((IntKind.i64.wrap v_49) - (data_9_1.len : Int))))) (r_min2 rfl rfl rfl) ?_
 refine sR (.int .i64 (IntKind.i64.wrap (1 + (min 63 (IntKind.i64.wrap ((IntKind.i64.wrap v_49) - (data_9_1.len : Int))))))) (r_add rfl rfl rfl) ?_
 obtain ⟨hq110_0, hr110_0, hr110_1, h⟩ := h
 refine sR (Sl.v (Sl.cut v_95 1 1 (Int.toNat (IntKind.i64.wrap (1 + (min 63 (IntKind.i64.wrap ((IntKind.i64.wrap v_49) - (data_9_1.len : Int))))))) v_95.cap)) (r_sliceSl rfl rfl underlying39 sz5 (bo_ev (i := 1) rfl (by decide)) (bo_ev rfl hq110_0) hr110_0 hr110_1) ?_
 refine s_ef (k_append rfl rfl (runs_mono _ _ h ?_))
 clear h; rintro v F ⟨v_111, rfl, h⟩
 refine sR (Sl.v v_111) (r_assign rfl rfl) ?_
 refine HL_nil ?_
 refine HC_region ?_
 refine sR _ (r_move rfl h10) ?_
 refine sR (.int .i64 (IntKind.i64.wrap (i_10 + 1))) (r_add rfl rfl rfl) ?_
 refine sR (.int .i64 (IntKind.i64.wrap (i_10 + 1))) (r_assign rfl rfl) ?_
 refine HL_nil ?_
 obtain ⟨m', hm, h⟩ := h
 exact ⟨m', hm, _, _, h0, h5, h8, rfl, rfl, h⟩
 replace h := h.2 (of_decide_eq_false hc)
 clear hc
 refine HC_exit ?_
 show b48J1 R _ _
 exact ⟨_, h9, h⟩
 /- 50 koine.store.records -/
def b50j1 (out_3 : Sl) (R : VP) (F : PH) :=
 R (Sl.v out_3) F
abbrev b50J1 (R : VP) (E : En) (F : PH) : Prop := ∃ out_3 : Sl, E 3 = (Sl.v out_3) ∧ b50j1 out_3 R F
def b50L1 (N1 : Sl → Sl → PH → Prop) (R : VP) (data_0_1 : Sl) (out_3_1 : Sl) (F : PH) :=
 (((0 : Int) < (data_0_1.len : Int) →
  ∃ a11_ : Addr, data_0_1.base = some a11_ ∧ 0 ≤ (0 : Int) ∧ (0 : Int) < (data_0_1.len : Int) ∧
  ∃ v_12 : Int, F.cell (Addr.add a11_ (Int.toNat 0 * 1)) = some (.int .u8 v_12) ∧
  0 ≤ (IntKind.i64.wrap (1 + (IntKind.i64.wrap v_12))) ∧ 1 ≤ (Int.toNat (IntKind.i64.wrap (1 + (IntKind.i64.wrap v_12)))) ∧ (Int.toNat (IntKind.i64.wrap (1 + (IntKind.i64.wrap v_12)))) ≤ data_0_1.cap ∧ 
  ∃ v_18 : ByteArray, rdo prog (Conv.bytesToString (Sl.v (Sl.cut data_0_1 1 1 (Int.toNat (IntKind.i64.wrap (1 + (IntKind.i64.wrap v_12)))) data_0_1.cap))) F (.string v_18) ∧
  ∀ b5, F b5 = none → atF (F.set b5 (.cells (#[.string ⟨#[]⟩, .slice none 0 0]) 41)) fun F =>
  (#[(.string v_18), .slice none 0 0] : Array Value).size = 2 ∧ (∀ v ∈ (#[(.string v_18), .slice none 0 0] : Array Value).toList, storable v) ∧ ∃ c e, F (Addr.mk b5 0 none).block = some (.cells c e (0, 0)) ∧ (Addr.mk b5 0 none).spot = none ∧ (Addr.mk b5 0 none).off + 2 ≤ c.size ∧
  atF (F.set (Addr.mk b5 0 none).block (.cells (wr c (Addr.mk b5 0 none).off (#[(.string v_18), .slice none 0 0] : Array Value).toList) e)) fun F =>
  0 ≤ (IntKind.i64.wrap (1 + (IntKind.i64.wrap v_12))) ∧ (Int.toNat (IntKind.i64.wrap (1 + (IntKind.i64.wrap v_12)))) ≤ data_0_1.len ∧ data_0_1.len ≤ data_0_1.cap ∧ 
  ∃ a25_ : Addr, (Sl.cut data_0_1 1 (Int.toNat (IntKind.i64.wrap (1 + (IntKind.i64.wrap v_12)))) data_0_1.len data_0_1.cap).base = some a25_ ∧ 0 ≤ (0 : Int) ∧ (0 : Int) < ((Sl.cut data_0_1 1 (Int.toNat (IntKind.i64.wrap (1 + (IntKind.i64.wrap v_12)))) data_0_1.len data_0_1.cap).len : Int) ∧
  ∃ v_26 : Int, F.cell (Addr.add a25_ (Int.toNat 0 * 1)) = some (.int .u8 v_26) ∧
  ∃ a30_ : Addr, (Sl.cut data_0_1 1 (Int.toNat (IntKind.i64.wrap (1 + (IntKind.i64.wrap v_12)))) data_0_1.len data_0_1.cap).base = some a30_ ∧ 0 ≤ (1 : Int) ∧ (1 : Int) < ((Sl.cut data_0_1 1 (Int.toNat (IntKind.i64.wrap (1 + (IntKind.i64.wrap v_12)))) data_0_1.len data_0_1.cap).len : Int) ∧
  ∃ v_31 : Int, F.cell (Addr.add a30_ (Int.toNat 1 * 1)) = some (.int .u8 v_31) ∧
  ∃ a36_ : Addr, (Sl.cut data_0_1 1 (Int.toNat (IntKind.i64.wrap (1 + (IntKind.i64.wrap v_12)))) data_0_1.len data_0_1.cap).base = some a36_ ∧ 0 ≤ (2 : Int) ∧ (2 : Int) < ((Sl.cut data_0_1 1 (Int.toNat (IntKind.i64.wrap (1 + (IntKind.i64.wrap v_12)))) data_0_1.len data_0_1.cap).len : Int) ∧
  ∃ v_37 : Int, F.cell (Addr.add a36_ (Int.toNat 2 * 1)) = some (.int .u8 v_37) ∧
  ∃ a42_ : Addr, (Sl.cut data_0_1 1 (Int.toNat (IntKind.i64.wrap (1 + (IntKind.i64.wrap v_12)))) data_0_1.len data_0_1.cap).base = some a42_ ∧ 0 ≤ (3 : Int) ∧ (3 : Int) < ((Sl.cut data_0_1 1 (Int.toNat (IntKind.i64.wrap (1 + (IntKind.i64.wrap v_12)))) data_0_1.len data_0_1.cap).len : Int) ∧
  ∃ v_43 : Int, F.cell (Addr.add a42_ (Int.toNat 3 * 1)) = some (.int .u8 v_43) ∧
  0 ≤ (IntKind.i64.wrap (4 + (IntKind.i64.wrap ((BitVec.ofInt (IntKind.i64).bits (IntKind.i64.wrap ((BitVec.ofInt (IntKind.i64).bits (IntKind.i64.wrap ((BitVec.ofInt (IntKind.i64).bits (IntKind.i64.wrap ((IntKind.i64.wrap v_26) * 2 ^ (min (Int.toNat 24) (IntKind.i64).bits))) ||| BitVec.ofInt (IntKind.i64).bits (IntKind.i64.wrap ((IntKind.i64.wrap v_31) * 2 ^ (min (Int.toNat 16) (IntKind.i64).bits)))).toNat)) ||| BitVec.ofInt (IntKind.i64).bits (IntKind.i64.wrap ((IntKind.i64.wrap v_37) * 2 ^ (min (Int.toNat 8) (IntKind.i64).bits)))).toNat)) ||| BitVec.ofInt (IntKind.i64).bits (IntKind.i64.wrap v_43)).toNat)))) ∧ 4 ≤ (Int.toNat (IntKind.i64.wrap (4 + (IntKind.i64.wrap ((BitVec.ofInt (IntKind.i64).bits (IntKind.i64.wrap ((BitVec.ofInt (IntKind.i64).bits (IntKind.i64.wrap ((BitVec.ofInt (IntKind.i64).bits (IntKind.i64.wrap ((IntKind.i64.wrap v_26) * 2 ^ (min (Int.toNat 24) (IntKind.i64).bits))) ||| BitVec.ofInt (IntKind.i64).bits (IntKind.i64.wrap ((IntKind.i64.wrap v_31) * 2 ^ (min (Int.toNat 16) (IntKind.i64).bits)))).toNat)) ||| BitVec.ofInt (IntKind.i64).bits (IntKind.i64.wrap ((IntKind.i64.wrap v_37) * 2 ^ (min (Int.toNat 8) (IntKind.i64).bits)))).toNat)) ||| BitVec.ofInt (IntKind.i64).bits (IntKind.i64.wrap v_43)).toNat))))) ∧ (Int.toNat (IntKind.i64.wrap (4 + (IntKind.i64.wrap ((BitVec.ofInt (IntKind.i64).bits (IntKind.i64.wrap ((BitVec.ofInt (IntKind.i64).bits (IntKind.i64.wrap ((BitVec.ofInt (IntKind.i64).bits (IntKind.i64.wrap ((IntKind.i64.wrap v_26) * 2 ^ (min (Int.toNat 24) (IntKind.i64).bits))) ||| BitVec.ofInt (IntKind.i64).bits (IntKind.i64.wrap ((IntKind.i64.wrap v_31) * 2 ^ (min (Int.toNat 16) (IntKind.i64).bits)))).toNat)) ||| BitVec.ofInt (IntKind.i64).bits (IntKind.i64.wrap ((IntKind.i64.wrap v_37) * 2 ^ (min (Int.toNat 8) (IntKind.i64).bits)))).toNat)) ||| BitVec.ofInt (IntKind.i64).bits (IntKind.i64.wrap v_43)).toNat))))) ≤ (Sl.cut data_0_1 1 (Int.toNat (IntKind.i64.wrap (1 + (IntKind.i64.wrap v_12)))) data_0_1.len data_0_1.cap).cap ∧ 
  ∃ c e, F (Addr.mk b5 1 none).block = some (.cells c e (0, 0)) ∧ (Addr.mk b5 1 none).spot = none ∧ (Addr.mk b5 1 none).off < c.size ∧
  atF (F.set (Addr.mk b5 1 none).block (.cells (c.setIfInBounds (Addr.mk b5 1 none).off (Sl.v (Sl.cut (Sl.cut data_0_1 1 (Int.toNat (IntKind.i64.wrap (1 + (IntKind.i64.wrap v_12)))) data_0_1.len data_0_1.cap) 1 4 (Int.toNat (IntKind.i64.wrap (4 + (IntKind.i64.wrap ((BitVec.ofInt (IntKind.i64).bits (IntKind.i64.wrap ((BitVec.ofInt (IntKind.i64).bits (IntKind.i64.wrap ((BitVec.ofInt (IntKind.i64).bits (IntKind.i64.wrap ((IntKind.i64.wrap v_26) * 2 ^ (min (Int.toNat 24) (IntKind.i64).bits))) ||| BitVec.ofInt (IntKind.i64).bits (IntKind.i64.wrap ((IntKind.i64.wrap v_31) * 2 ^ (min (Int.toNat 16) (IntKind.i64).bits)))).toNat)) ||| BitVec.ofInt (IntKind.i64).bits (IntKind.i64.wrap ((IntKind.i64.wrap v_37) * 2 ^ (min (Int.toNat 8) (IntKind.i64).bits)))).toNat)) ||| BitVec.ofInt (IntKind.i64).bits (IntKind.i64.wrap v_43)).toNat))))) (Sl.cut data_0_1 1 (Int.toNat (IntKind.i64.wrap (1 + (IntKind.i64.wrap v_12)))) data_0_1.len data_0_1.cap).cap))) e)) fun F =>
  0 ≤ (IntKind.i64.wrap (4 + (IntKind.i64.wrap ((BitVec.ofInt (IntKind.i64).bits (IntKind.i64.wrap ((BitVec.ofInt (IntKind.i64).bits (IntKind.i64.wrap ((BitVec.ofInt (IntKind.i64).bits (IntKind.i64.wrap ((IntKind.i64.wrap v_26) * 2 ^ (min (Int.toNat 24) (IntKind.i64).bits))) ||| BitVec.ofInt (IntKind.i64).bits (IntKind.i64.wrap ((IntKind.i64.wrap v_31) * 2 ^ (min (Int.toNat 16) (IntKind.i64).bits)))).toNat)) ||| BitVec.ofInt (IntKind.i64).bits (IntKind.i64.wrap ((IntKind.i64.wrap v_37) * 2 ^ (min (Int.toNat 8) (IntKind.i64).bits)))).toNat)) ||| BitVec.ofInt (IntKind.i64).bits (IntKind.i64.wrap v_43)).toNat)))) ∧ (Int.toNat (IntKind.i64.wrap (4 + (IntKind.i64.wrap ((BitVec.ofInt (IntKind.i64).bits (IntKind.i64.wrap ((BitVec.ofInt (IntKind.i64).bits (IntKind.i64.wrap ((BitVec.ofInt (IntKind.i64).bits (IntKind.i64.wrap ((IntKind.i64.wrap v_26) * 2 ^ (min (Int.toNat 24) (IntKind.i64).bits))) ||| BitVec.ofInt (IntKind.i64).bits (IntKind.i64.wrap ((IntKind.i64.wrap v_31) * 2 ^ (min (Int.toNat 16) (IntKind.i64).bits)))).toNat)) ||| BitVec.ofInt (IntKind.i64).bits (IntKind.i64.wrap ((IntKind.i64.wrap v_37) * 2 ^ (min (Int.toNat 8) (IntKind.i64).bits)))).toNat)) ||| BitVec.ofInt (IntKind.i64).bits (IntKind.i64.wrap v_43)).toNat))))) ≤ (Sl.cut data_0_1 1 (Int.toNat (IntKind.i64.wrap (1 + (IntKind.i64.wrap v_12)))) data_0_1.len data_0_1.cap).len ∧ (Sl.cut data_0_1 1 (Int.toNat (IntKind.i64.wrap (1 + (IntKind.i64.wrap v_12)))) data_0_1.len data_0_1.cap).len ≤ (Sl.cut data_0_1 1 (Int.toNat (IntKind.i64.wrap (1 + (IntKind.i64.wrap v_12)))) data_0_1.len data_0_1.cap).cap ∧ 
  ∃ v_56 : Array Value, v_56.size = 2 ∧ F.row (Addr.mk b5 0 none) v_56 ∧
  v_56.size = 2 ∧ ∀ b57, F b57 = none → atF (F.set b57 (.cells v_56 41)) fun F =>
  runs prog (Builtin.append_ #[26, 26] 26 #[(Sl.v out_3_1), (Sl.v (Sl.mk (some (Addr.mk b57 0 none)) 1 1))]) F fun v F => ∃ v_58 : Sl, v = (Sl.v v_58) ∧
  N1 (Sl.cut (Sl.cut data_0_1 1 (Int.toNat (IntKind.i64.wrap (1 + (IntKind.i64.wrap v_12)))) data_0_1.len data_0_1.cap) 1 (Int.toNat (IntKind.i64.wrap (4 + (IntKind.i64.wrap ((BitVec.ofInt (IntKind.i64).bits (IntKind.i64.wrap ((BitVec.ofInt (IntKind.i64).bits (IntKind.i64.wrap ((BitVec.ofInt (IntKind.i64).bits (IntKind.i64.wrap ((IntKind.i64.wrap v_26) * 2 ^ (min (Int.toNat 24) (IntKind.i64).bits))) ||| BitVec.ofInt (IntKind.i64).bits (IntKind.i64.wrap ((IntKind.i64.wrap v_31) * 2 ^ (min (Int.toNat 16) (IntKind.i64).bits)))).toNat)) ||| BitVec.ofInt (IntKind.i64).bits (IntKind.i64.wrap ((IntKind.i64.wrap v_37) * 2 ^ (min (Int.toNat 8) (IntKind.i64).bits)))).toNat)) ||| BitVec.ofInt (IntKind.i64).bits (IntKind.i64.wrap v_43)).toNat))))) (Sl.cut data_0_1 1 (Int.toNat (IntKind.i64.wrap (1 + (IntKind.i64.wrap v_12)))) data_0_1.len data_0_1.cap).len (Sl.cut data_0_1 1 (Int.toNat (IntKind.i64.wrap (1 + (IntKind.i64.wrap v_12)))) data_0_1.len data_0_1.cap).cap) v_58 F) ∧
 (¬ ((0 : Int) < (data_0_1.len : Int)) →
  b50j1 out_3_1 R F))
def b50 (data_0 : Sl) (R : VP) (F : PH) :=
 (∃ (I1 : Nat → Sl → Sl → PH → Prop) (m1 : Nat), I1 m1 data_0 Sl.nil F ∧ ∀ m1 data_0_1 out_3_1 F, I1 m1 data_0_1 out_3_1 F →
  b50L1 (nx2 I1 m1) R data_0_1 out_3_1 F)
theorem c50 {data_0 : Sl} {R : VP} {F : PH} (h : b50 data_0 R F) : Spec prog 50 #[(Sl.v data_0)] F R := by
 refine spec_of (args := [(Sl.v data_0)]) func50 rfl ntmps50 rfl ?_
 unfold b50 at h
 refine cR (sR (Sl.v Sl.nil) (r_assign rfl rfl) ?_)
 refine HL_nil ?_
 refine cR (sR (Sl.v Sl.nil) (r_assign rfl rfl) ?_)
 refine HL_nil ?_
 refine HC_seqJ (b50J1 R) ?_ ?_
 clear h; rintro E F ⟨out_3, h3, h⟩
 unfold b50j1 at h
 refine cR (sR _ (r_move rfl h3) ?_)
 refine sR (Sl.v out_3) (r_assign rfl rfl) ?_
 exact HL_nil (HC_ret (rt1 f50 R rfl rfl h))
 refine HC_block ?_
 obtain ⟨I1, m1, hI0, hr⟩ := h
 refine HC_loop (fun m1 E F => ∃ data_0_1 : Sl, ∃ out_3_1 : Sl, E 0 = (Sl.v data_0_1) ∧ E 3 = (Sl.v out_3_1) ∧ I1 m1 data_0_1 out_3_1 F) m1 ⟨_, _, rfl, rfl, hI0⟩ ?_
 clear hI0; rintro m1 E F ⟨data_0_1, out_3_1, h0, h3, hI⟩
 have h := hr m1 data_0_1 out_3_1 F hI
 clear hr hI
 unfold b50L1 at h
 refine HC_seq ?_
 refine cR (sR _ (r_move rfl h0) ?_)
 refine sR (.int .i64 (data_0_1.len : Int)) (r_lenSl rfl rfl underlying39) ?_
 refine sR (.bool (decide ((0 : Int) < (data_0_1.len : Int)))) (r_gtr rfl rfl rfl) ?_
 refine HL_nil ?_
 refine HC_cond (t := (decide ((0 : Int) < (data_0_1.len : Int)))) rfl (fun hc => ?_) (fun hc => ?_)
 replace h := h.1 (of_decide_eq_true hc)
 clear hc
 refine HC_skip ?_
 refine HC_block ?_
 refine cR (sR _ (r_move rfl h0) ?_)
 obtain ⟨a11_, hb11, hl11, hu11, h⟩ := h
 refine sR (.pointer (some (Addr.add a11_ (Int.toNat 0 * 1)))) (w_indexAddr rfl rfl underlying39 sz5 hb11 hl11 hu11) ?_
 obtain ⟨v_12, hc12, h⟩ := h
 refine sR (.int .u8 v_12) (r_load1 rfl rfl underlying5 rfl hc12) ?_
 refine sR (.int .i64 (IntKind.i64.wrap v_12)) (r_convInt rfl rfl underlying5 underlying3) ?_
 refine sR (.int .i64 (IntKind.i64.wrap v_12)) (r_assign rfl rfl) ?_
 refine HL_nil ?_
 refine cR (sR _ (r_move rfl h0) ?_)
 refine sR (.int .i64 (IntKind.i64.wrap v_12)) (r_move rfl rfl) ?_
 refine sR (.int .i64 (IntKind.i64.wrap (1 + (IntKind.i64.wrap v_12)))) (r_add rfl rfl rfl) ?_
 obtain ⟨hq17_0, hr17_0, hr17_1, h⟩ := h
 refine sR (Sl.v (Sl.cut data_0_1 1 1 (Int.toNat (IntKind.i64.wrap (1 + (IntKind.i64.wrap v_12)))) data_0_1.cap)) (r_sliceSl rfl rfl underlying39 sz5 (bo_ev (i := 1) rfl (by decide)) (bo_ev rfl hq17_0) hr17_0 hr17_1) ?_
 obtain ⟨v_18, hc18, h⟩ := h
 refine sR (.string v_18) (r_convBS rfl rfl underlying39 underlying9 underlying5 ⟨_, _, _, rfl⟩ hc18) ?_
 refine sR (.agg (#[(.string v_18), .slice none 0 0] : Array Value)) (w_buildStruct (cells := #[(.string v_18), .slice none 0 0]) underlying41 zr41 kf41 (evPC rfl evPN) (fill1 (place_of rfl rfl sz9) rfl rfl (fillN rfl))) ?_
 refine s_ef (k_alloc zr41 ?_)
 intro b5 hf_b5
 replace h := atE (h b5 hf_b5)
 refine s_ef0 (k_storeN (vs := (#[(.string v_18), .slice none 0 0] : Array Value)) rfl rfl sz41 (by decide) ?_)
 obtain ⟨hz1, hz2, c, e, hz3, hz4, hz5, h⟩ := h
 refine ⟨hz1, hz2, c, e, hz3, hz4, hz5, ?_⟩
 replace h := atE h
 refine HL_nil ?_
 refine cR (sR _ (r_move rfl h0) ?_)
 refine sR (.int .i64 (IntKind.i64.wrap v_12)) (r_move rfl rfl) ?_
 refine sR (.int .i64 (IntKind.i64.wrap (1 + (IntKind.i64.wrap v_12)))) (r_add rfl rfl rfl) ?_
 obtain ⟨hq23_0, hr23_0, hr23_1, h⟩ := h
 refine sR (Sl.v (Sl.cut data_0_1 1 (Int.toNat (IntKind.i64.wrap (1 + (IntKind.i64.wrap v_12)))) data_0_1.len data_0_1.cap)) (r_sliceSl rfl rfl underlying39 sz5 (bo_ev rfl hq23_0) bo_none hr23_0 hr23_1) ?_
 refine sR (Sl.v (Sl.cut data_0_1 1 (Int.toNat (IntKind.i64.wrap (1 + (IntKind.i64.wrap v_12)))) data_0_1.len data_0_1.cap)) (r_assign rfl rfl) ?_
 refine HL_nil ?_
 refine HC_seq ?_
 refine HC_draw0 (by kernel_rfl) (fun hp => ?_)
 refine gU 0 (Sl.v (Sl.cut data_0_1 1 (Int.toNat (IntKind.i64.wrap (1 + (IntKind.i64.wrap v_12)))) data_0_1.len data_0_1.cap)) rfl (fun _ => r_move rfl rfl) hp ?_
 obtain ⟨a25_, hb25, hl25, hu25, h⟩ := h
 refine gU 1 (.pointer (some (Addr.add a25_ (Int.toNat 0 * 1)))) rfl (fun _ => w_indexAddr rfl rfl underlying39 sz5 hb25 hl25 hu25) hp ?_
 obtain ⟨v_26, hc26, h⟩ := h
 refine gR 2 (.int .u8 v_26) rfl (r_load1 rfl rfl underlying5 rfl hc26) hp (fun S2 q2 => ?_)
 replace hp := holdC (i := 2) (q2 _ (r_load1 rfl rfl underlying5 rfl hc26)) hp
 refine gU 3 (.int .i64 (IntKind.i64.wrap v_26)) rfl (fun _ => r_convInt rfl rfl underlying5 underlying3) hp ?_
 refine gU 4 (.int .i64 (IntKind.i64.wrap ((IntKind.i64.wrap v_26) * 2 ^ (min (Int.toNat 24) (IntKind.i64).bits)))) rfl (fun _ => r_shl rfl rfl rfl (by decide)) hp ?_
 refine gU 5 (Sl.v (Sl.cut data_0_1 1 (Int.toNat (IntKind.i64.wrap (1 + (IntKind.i64.wrap v_12)))) data_0_1.len data_0_1.cap)) rfl (fun _ => r_move rfl rfl) hp ?_
 obtain ⟨a30_, hb30, hl30, hu30, h⟩ := h
 refine gU 6 (.pointer (some (Addr.add a30_ (Int.toNat 1 * 1)))) rfl (fun _ => w_indexAddr rfl rfl underlying39 sz5 hb30 hl30 hu30) hp ?_
 obtain ⟨v_31, hc31, h⟩ := h
 refine gR 7 (.int .u8 v_31) rfl (r_load1 rfl rfl underlying5 rfl hc31) hp (fun S7 q7 => ?_)
 replace hp := holdC (i := 7) (q7 _ (r_load1 rfl rfl underlying5 rfl hc31)) hp
 refine gU 8 (.int .i64 (IntKind.i64.wrap v_31)) rfl (fun _ => r_convInt rfl rfl underlying5 underlying3) hp ?_
 refine gU 9 (.int .i64 (IntKind.i64.wrap ((IntKind.i64.wrap v_31) * 2 ^ (min (Int.toNat 16) (IntKind.i64).bits)))) rfl (fun _ => r_shl rfl rfl rfl (by decide)) hp ?_
 refine gU 10 (.int .i64 (IntKind.i64.wrap ((BitVec.ofInt (IntKind.i64).bits (IntKind.i64.wrap ((IntKind.i64.wrap v_26) * 2 ^ (min (Int.toNat 24) (IntKind.i64).bits))) ||| BitVec.ofInt (IntKind.i64).bits (IntKind.i64.wrap ((IntKind.i64.wrap v_31) * 2 ^ (min (Int.toNat 16) (IntKind.i64).bits)))).toNat))) rfl (fun _ => r_or rfl rfl rfl) hp ?_
 refine gU 11 (Sl.v (Sl.cut data_0_1 1 (Int.toNat (IntKind.i64.wrap (1 + (IntKind.i64.wrap v_12)))) data_0_1.len data_0_1.cap)) rfl (fun _ => r_move rfl rfl) hp ?_
 obtain ⟨a36_, hb36, hl36, hu36, h⟩ := h
 refine gU 12 (.pointer (some (Addr.add a36_ (Int.toNat 2 * 1)))) rfl (fun _ => w_indexAddr rfl rfl underlying39 sz5 hb36 hl36 hu36) hp ?_
 obtain ⟨v_37, hc37, h⟩ := h
 refine gR 13 (.int .u8 v_37) rfl (r_load1 rfl rfl underlying5 rfl hc37) hp (fun S13 q13 => ?_)
 replace hp := holdC (i := 13) (q13 _ (r_load1 rfl rfl underlying5 rfl hc37)) hp
 refine gU 14 (.int .i64 (IntKind.i64.wrap v_37)) rfl (fun _ => r_convInt rfl rfl underlying5 underlying3) hp ?_
 refine gU 15 (.int .i64 (IntKind.i64.wrap ((IntKind.i64.wrap v_37) * 2 ^ (min (Int.toNat 8) (IntKind.i64).bits)))) rfl (fun _ => r_shl rfl rfl rfl (by decide)) hp ?_
 refine gU 16 (.int .i64 (IntKind.i64.wrap ((BitVec.ofInt (IntKind.i64).bits (IntKind.i64.wrap ((BitVec.ofInt (IntKind.i64).bits (IntKind.i64.wrap ((IntKind.i64.wrap v_26) * 2 ^ (min (Int.toNat 24) (IntKind.i64).bits))) ||| BitVec.ofInt (IntKind.i64).bits (IntKind.i64.wrap ((IntKind.i64.wrap v_31) * 2 ^ (min (Int.toNat 16) (IntKind.i64).bits)))).toNat)) ||| BitVec.ofInt (IntKind.i64).bits (IntKind.i64.wrap ((IntKind.i64.wrap v_37) * 2 ^ (min (Int.toNat 8) (IntKind.i64).bits)))).toNat))) rfl (fun _ => r_or rfl rfl rfl) hp ?_
 refine gU 17 (Sl.v (Sl.cut data_0_1 1 (Int.toNat (IntKind.i64.wrap (1 + (IntKind.i64.wrap v_12)))) data_0_1.len data_0_1.cap)) rfl (fun _ => r_move rfl rfl) hp ?_
 obtain ⟨a42_, hb42, hl42, hu42, h⟩ := h
 refine gU 18 (.pointer (some (Addr.add a42_ (Int.toNat 3 * 1)))) rfl (fun _ => w_indexAddr rfl rfl underlying39 sz5 hb42 hl42 hu42) hp ?_
 obtain ⟨v_43, hc43, h⟩ := h
 refine gR 19 (.int .u8 v_43) rfl (r_load1 rfl rfl underlying5 rfl hc43) hp (fun S19 q19 => ?_)
 replace hp := holdC (i := 19) (q19 _ (r_load1 rfl rfl underlying5 rfl hc43)) hp
 refine gU 20 (.int .i64 (IntKind.i64.wrap v_43)) rfl (fun _ => r_convInt rfl rfl underlying5 underlying3) hp ?_
 refine gU 21 (.int .i64 (IntKind.i64.wrap ((BitVec.ofInt (IntKind.i64).bits (IntKind.i64.wrap ((BitVec.ofInt (IntKind.i64).bits (IntKind.i64.wrap ((BitVec.ofInt (IntKind.i64).bits (IntKind.i64.wrap ((IntKind.i64.wrap v_26) * 2 ^ (min (Int.toNat 24) (IntKind.i64).bits))) ||| BitVec.ofInt (IntKind.i64).bits (IntKind.i64.wrap ((IntKind.i64.wrap v_31) * 2 ^ (min (Int.toNat 16) (IntKind.i64).bits)))).toNat)) ||| BitVec.ofInt (IntKind.i64).bits (IntKind.i64.wrap ((IntKind.i64.wrap v_37) * 2 ^ (min (Int.toNat 8) (IntKind.i64).bits)))).toNat)) ||| BitVec.ofInt (IntKind.i64).bits (IntKind.i64.wrap v_43)).toNat))) rfl (fun _ => r_or rfl rfl rfl) hp ?_
 refine gU 22 (.int .i64 (IntKind.i64.wrap ((BitVec.ofInt (IntKind.i64).bits (IntKind.i64.wrap ((BitVec.ofInt (IntKind.i64).bits (IntKind.i64.wrap ((BitVec.ofInt (IntKind.i64).bits (IntKind.i64.wrap ((IntKind.i64.wrap v_26) * 2 ^ (min (Int.toNat 24) (IntKind.i64).bits))) ||| BitVec.ofInt (IntKind.i64).bits (IntKind.i64.wrap ((IntKind.i64.wrap v_31) * 2 ^ (min (Int.toNat 16) (IntKind.i64).bits)))).toNat)) ||| BitVec.ofInt (IntKind.i64).bits (IntKind.i64.wrap ((IntKind.i64.wrap v_37) * 2 ^ (min (Int.toNat 8) (IntKind.i64).bits)))).toNat)) ||| BitVec.ofInt (IntKind.i64).bits (IntKind.i64.wrap v_43)).toNat))) rfl (fun _ => r_assign rfl rfl) hp ?_
 refine RG_done (by kernel_rfl) ?_
 refine cR (sR (Sl.v (Sl.cut data_0_1 1 (Int.toNat (IntKind.i64.wrap (1 + (IntKind.i64.wrap v_12)))) data_0_1.len data_0_1.cap)) (r_move rfl rfl) ?_)
 refine sR (.int .i64 (IntKind.i64.wrap ((BitVec.ofInt (IntKind.i64).bits (IntKind.i64.wrap ((BitVec.ofInt (IntKind.i64).bits (IntKind.i64.wrap ((BitVec.ofInt (IntKind.i64).bits (IntKind.i64.wrap ((IntKind.i64.wrap v_26) * 2 ^ (min (Int.toNat 24) (IntKind.i64).bits))) ||| BitVec.ofInt (IntKind.i64).bits (IntKind.i64.wrap ((IntKind.i64.wrap v_31) * 2 ^ (min (Int.toNat 16) (IntKind.i64).bits)))).toNat)) ||| BitVec.ofInt (IntKind.i64).bits (IntKind.i64.wrap ((IntKind.i64.wrap v_37) * 2 ^ (min (Int.toNat 8) (IntKind.i64).bits)))).toNat)) ||| BitVec.ofInt (IntKind.i64).bits (IntKind.i64.wrap v_43)).toNat))) (r_move rfl rfl) ?_
 refine sR (.int .i64 (IntKind.i64.wrap (4 + (IntKind.i64.wrap ((BitVec.ofInt (IntKind.i64).bits (IntKind.i64.wrap ((BitVec.ofInt (IntKind.i64).bits (IntKind.i64.wrap ((BitVec.ofInt (IntKind.i64).bits (IntKind.i64.wrap ((IntKind.i64.wrap v_26) * 2 ^ (min (Int.toNat 24) (IntKind.i64).bits))) ||| BitVec.ofInt (IntKind.i64).bits (IntKind.i64.wrap ((IntKind.i64.wrap v_31) * 2 ^ (min (Int.toNat 16) (IntKind.i64).bits)))).toNat)) ||| BitVec.ofInt (IntKind.i64).bits (IntKind.i64.wrap ((IntKind.i64.wrap v_37) * 2 ^ (min (Int.toNat 8) (IntKind.i64).bits)))).toNat)) ||| BitVec.ofInt (IntKind.i64).bits (IntKind.i64.wrap v_43)).toNat))))) (r_add rfl rfl rfl) ?_
 obtain ⟨hq49_0, hr49_0, hr49_1, h⟩ := h
 refine sR (Sl.v (Sl.cut (Sl.cut data_0_1 1 (Int.toNat (IntKind.i64.wrap (1 + (IntKind.i64.wrap v_12)))) data_0_1.len data_0_1.cap) 1 4 (Int.toNat (IntKind.i64.wrap (4 + (IntKind.i64.wrap ((BitVec.ofInt (IntKind.i64).bits (IntKind.i64.wrap ((BitVec.ofInt (IntKind.i64).bits (IntKind.i64.wrap ((BitVec.ofInt (IntKind.i64).bits (IntKind.i64.wrap ((IntKind.i64.wrap v_26) * 2 ^ (min (Int.toNat 24) (IntKind.i64).bits))) ||| BitVec.ofInt (IntKind.i64).bits (IntKind.i64.wrap ((IntKind.i64.wrap v_31) * 2 ^ (min (Int.toNat 16) (IntKind.i64).bits)))).toNat)) ||| BitVec.ofInt (IntKind.i64).bits (IntKind.i64.wrap ((IntKind.i64.wrap v_37) * 2 ^ (min (Int.toNat 8) (IntKind.i64).bits)))).toNat)) ||| BitVec.ofInt (IntKind.i64).bits (IntKind.i64.wrap v_43)).toNat))))) (Sl.cut data_0_1 1 (Int.toNat (IntKind.i64.wrap (1 + (IntKind.i64.wrap v_12)))) data_0_1.len data_0_1.cap).cap)) (r_sliceSl rfl rfl underlying39 sz5 (bo_ev (i := 4) rfl (by decide)) (bo_ev rfl hq49_0) hr49_0 hr49_1) ?_
 refine sR (.pointer (some (Addr.mk b5 1 none))) (w_fieldAddr rfl underlying41 rfl rfl sz39 rfl rfl) ?_
 refine s_ef0 (k_store1 (v := (Sl.v (Sl.cut (Sl.cut data_0_1 1 (Int.toNat (IntKind.i64.wrap (1 + (IntKind.i64.wrap v_12)))) data_0_1.len data_0_1.cap) 1 4 (Int.toNat (IntKind.i64.wrap (4 + (IntKind.i64.wrap ((BitVec.ofInt (IntKind.i64).bits (IntKind.i64.wrap ((BitVec.ofInt (IntKind.i64).bits (IntKind.i64.wrap ((BitVec.ofInt (IntKind.i64).bits (IntKind.i64.wrap ((IntKind.i64.wrap v_26) * 2 ^ (min (Int.toNat 24) (IntKind.i64).bits))) ||| BitVec.ofInt (IntKind.i64).bits (IntKind.i64.wrap ((IntKind.i64.wrap v_31) * 2 ^ (min (Int.toNat 16) (IntKind.i64).bits)))).toNat)) ||| BitVec.ofInt (IntKind.i64).bits (IntKind.i64.wrap ((IntKind.i64.wrap v_37) * 2 ^ (min (Int.toNat 8) (IntKind.i64).bits)))).toNat)) ||| BitVec.ofInt (IntKind.i64).bits (IntKind.i64.wrap v_43)).toNat))))) (Sl.cut data_0_1 1 (Int.toNat (IntKind.i64.wrap (1 + (IntKind.i64.wrap v_12)))) data_0_1.len data_0_1.cap).cap))) rfl rfl sz39 rfl st_sl ?_)
 obtain ⟨c, e, hz3, hz4, hz5, h⟩ := h
 refine ⟨c, e, hz3, hz4, hz5, ?_⟩
 replace h := atE h
 refine HL_nil ?_
 refine cR (sR (Sl.v (Sl.cut data_0_1 1 (Int.toNat (IntKind.i64.wrap (1 + (IntKind.i64.wrap v_12)))) data_0_1.len data_0_1.cap)) (r_move rfl rfl) ?_)
 refine sR (.int .i64 (IntKind.i64.wrap ((BitVec.ofInt (IntKind.i64).bits (IntKind.i64.wrap ((BitVec.ofInt (IntKind.i64).bits (IntKind.i64.wrap ((BitVec.ofInt (IntKind.i64).bits (IntKind.i64.wrap ((IntKind.i64.wrap v_26) * 2 ^ (min (Int.toNat 24) (IntKind.i64).bits))) ||| BitVec.ofInt (IntKind.i64).bits (IntKind.i64.wrap ((IntKind.i64.wrap v_31) * 2 ^ (min (Int.toNat 16) (IntKind.i64).bits)))).toNat)) ||| BitVec.ofInt (IntKind.i64).bits (IntKind.i64.wrap ((IntKind.i64.wrap v_37) * 2 ^ (min (Int.toNat 8) (IntKind.i64).bits)))).toNat)) ||| BitVec.ofInt (IntKind.i64).bits (IntKind.i64.wrap v_43)).toNat))) (r_move rfl rfl) ?_
 refine sR (.int .i64 (IntKind.i64.wrap (4 + (IntKind.i64.wrap ((BitVec.ofInt (IntKind.i64).bits (IntKind.i64.wrap ((BitVec.ofInt (IntKind.i64).bits (IntKind.i64.wrap ((BitVec.ofInt (IntKind.i64).bits (IntKind.i64.wrap ((IntKind.i64.wrap v_26) * 2 ^ (min (Int.toNat 24) (IntKind.i64).bits))) ||| BitVec.ofInt (IntKind.i64).bits (IntKind.i64.wrap ((IntKind.i64.wrap v_31) * 2 ^ (min (Int.toNat 16) (IntKind.i64).bits)))).toNat)) ||| BitVec.ofInt (IntKind.i64).bits (IntKind.i64.wrap ((IntKind.i64.wrap v_37) * 2 ^ (min (Int.toNat 8) (IntKind.i64).bits)))).toNat)) ||| BitVec.ofInt (IntKind.i64).bits (IntKind.i64.wrap v_43)).toNat))))) (r_add rfl rfl rfl) ?_
 obtain ⟨hq54_0, hr54_0, hr54_1, h⟩ := h
 refine sR (Sl.v (Sl.cut (Sl.cut data_0_1 1 (Int.toNat (IntKind.i64.wrap (1 + (IntKind.i64.wrap v_12)))) data_0_1.len data_0_1.cap) 1 (Int.toNat (IntKind.i64.wrap (4 + (IntKind.i64.wrap ((BitVec.ofInt (IntKind.i64).bits (IntKind.i64.wrap ((BitVec.ofInt (IntKind.i64).bits (IntKind.i64.wrap ((BitVec.ofInt (IntKind.i64).bits (IntKind.i64.wrap ((IntKind.i64.wrap v_26) * 2 ^ (min (Int.toNat 24) (IntKind.i64).bits))) ||| BitVec.ofInt (IntKind.i64).bits (IntKind.i64.wrap ((IntKind.i64.wrap v_31) * 2 ^ (min (Int.toNat 16) (IntKind.i64).bits)))).toNat)) ||| BitVec.ofInt (IntKind.i64).bits (IntKind.i64.wrap ((IntKind.i64.wrap v_37) * 2 ^ (min (Int.toNat 8) (IntKind.i64).bits)))).toNat)) ||| BitVec.ofInt (IntKind.i64).bits (IntKind.i64.wrap v_43)).toNat))))) (Sl.cut data_0_1 1 (Int.toNat (IntKind.i64.wrap (1 + (IntKind.i64.wrap v_12)))) data_0_1.len data_0_1.cap).len (Sl.cut data_0_1 1 (Int.toNat (IntKind.i64.wrap (1 + (IntKind.i64.wrap v_12)))) data_0_1.len data_0_1.cap).cap)) (r_sliceSl rfl rfl underlying39 sz5 (bo_ev rfl hq54_0) bo_none hr54_0 hr54_1) ?_
 refine sR (Sl.v (Sl.cut (Sl.cut data_0_1 1 (Int.toNat (IntKind.i64.wrap (1 + (IntKind.i64.wrap v_12)))) data_0_1.len data_0_1.cap) 1 (Int.toNat (IntKind.i64.wrap (4 + (IntKind.i64.wrap ((BitVec.ofInt (IntKind.i64).bits (IntKind.i64.wrap ((BitVec.ofInt (IntKind.i64).bits (IntKind.i64.wrap ((BitVec.ofInt (IntKind.i64).bits (IntKind.i64.wrap ((IntKind.i64.wrap v_26) * 2 ^ (min (Int.toNat 24) (IntKind.i64).bits))) ||| BitVec.ofInt (IntKind.i64).bits (IntKind.i64.wrap ((IntKind.i64.wrap v_31) * 2 ^ (min (Int.toNat 16) (IntKind.i64).bits)))).toNat)) ||| BitVec.ofInt (IntKind.i64).bits (IntKind.i64.wrap ((IntKind.i64.wrap v_37) * 2 ^ (min (Int.toNat 8) (IntKind.i64).bits)))).toNat)) ||| BitVec.ofInt (IntKind.i64).bits (IntKind.i64.wrap v_43)).toNat))))) (Sl.cut data_0_1 1 (Int.toNat (IntKind.i64.wrap (1 + (IntKind.i64.wrap v_12)))) data_0_1.len data_0_1.cap).len (Sl.cut data_0_1 1 (Int.toNat (IntKind.i64.wrap (1 + (IntKind.i64.wrap v_12)))) data_0_1.len data_0_1.cap).cap)) (r_assign rfl rfl) ?_
 refine HL_nil ?_
 refine HC_region ?_
 refine sR _ (r_move rfl h3) ?_
 obtain ⟨v_56, hs56, hc56, h⟩ := h
 refine sR (.agg v_56) (w_loadN rfl underlying41 rfl sz41 hs56 hc56) ?_
 obtain ⟨hz57, h⟩ := h
 refine s_ef (k_buildSlice (cells := v_56) underlying26 sz41 (by decide) zr41 rfl (evPC rfl evPN) (fillWhole hz57 rfl rfl) rfl ?_)
 intro b57 hf_b57
 replace h := atE (h b57 hf_b57)
 refine s_ef (k_append rfl rfl (runs_mono _ _ h ?_))
 clear h; rintro v F ⟨v_58, rfl, h⟩
 refine sR (Sl.v v_58) (r_assign rfl rfl) ?_
 refine HL_nil ?_
 obtain ⟨m', hm, h⟩ := h
 exact ⟨m', hm, _, _, rfl, rfl, h⟩
 replace h := h.2 (of_decide_eq_false hc)
 clear hc
 refine HC_exit ?_
 show b50J1 R _ _
 exact ⟨_, h3, h⟩
 /- 20 koine.store.Open -/
def b20L1 (N1 : PH → Prop) (b21 : Nat) (R : VP) (F : PH) :=
 Spec prog 48 #[(.pointer (some (Addr.mk b21 0 none)))] F fun v F => ∃ v_76 : Sl, ∃ v_76_1 : Bool, ∃ v_76_2 : Int, v = (.tuple #[(Sl.v v_76), (.bool v_76_1), (.int .i64 v_76_2)]) ∧
 ((v_76_2 ≠ 0 →
  R (.tuple #[(.pointer none), (.int .i64 v_76_2)]) F) ∧
 (¬ (v_76_2 ≠ 0) →
  (((!v_76_1) = true →
   R (.tuple #[(.pointer (some (Addr.mk b21 0 none))), (.int .i64 0)]) F) ∧
  ((!v_76_1) = false →
   ∃ v_89 : Option Nat, F.cell (Addr.mk b21 5 none) = some (.map v_89) ∧
   Spec prog 50 #[(Sl.v v_76)] F fun v F => ∃ v_91 : Sl, v = (Sl.v v_91) ∧
   F.cell (Addr.mk b21 5 none) = some (.map v_89) ∧ Spec prog 49 #[(.map v_89), (Sl.v v_91)] F fun v F => v = Value.tuple #[] ∧
   ∃ v_96 : Int, F.cell (Addr.mk b21 4 none) = some (.int .i64 v_96) ∧
   Spec prog 51 #[(.int .i64 (v_76.len : Int))] F fun v F => ∃ v_99 : Int, v = (.int .i64 v_99) ∧
   F.cell (Addr.mk b21 4 none) = some (.int .i64 v_96) ∧ ∃ c e, F (Addr.mk b21 4 none).block = some (.cells c e (0, 0)) ∧ (Addr.mk b21 4 none).spot = none ∧ (Addr.mk b21 4 none).off < c.size ∧
   atF (F.set (Addr.mk b21 4 none).block (.cells (c.setIfInBounds (Addr.mk b21 4 none).off (.int .i64 (IntKind.i64.wrap (v_96 + v_99)))) e)) fun F =>
   N1 F))))
def b20j1 (b21 : Nat) (R : VP) (F : PH) :=
 ∃ v_72 : Int, F.cell (Addr.mk b21 3 none) = some (.int .u64 v_72) ∧
 ((v_72 = 0 →
  R (.tuple #[(.pointer none), (.int .i64 350)]) F) ∧
 (¬ (v_72 = 0) →
  (∃ (I1 : Nat → PH → Prop) (m1 : Nat), I1 m1 F ∧ ∀ m1 F, I1 m1 F →
   b20L1 (fun F => ∃ m', m' < m1 ∧ I1 m' F) b21 R F)))
abbrev b20J1 (b21 : Nat) (R : VP) (E : En) (F : PH) : Prop := E 4 = (.pointer (some (Addr.mk b21 0 none))) ∧ b20j1 b21 R F
def b20j2 (N2 : Int → PH → Prop) (d_0 : Option Addr) (b21 : Nat) (v_22 : Int) (R : VP) (F : PH) :=
 N2 (IntKind.i64.wrap (v_22 + 1)) F
abbrev b20J2 (N2 : Int → PH → Prop) (d_0 : Option Addr) (b21 : Nat) (v_22 : Int) (R : VP) (E : En) (F : PH) : Prop := E 0 = (.pointer d_0) ∧ E 4 = (.pointer (some (Addr.mk b21 0 none))) ∧ E 22 = (.int .i64 v_22) ∧ b20j2 N2 d_0 b21 v_22 R F
def b20j3 (N2 : Int → PH → Prop) (d_0 : Option Addr) (b21 : Nat) (v_22 : Int) (v_41 : Int) (v_59 : Bool) (R : VP) (F : PH) :=
 ((v_59 = true →
  ∃ c e, F (Addr.mk b21 2 none).block = some (.cells c e (0, 0)) ∧ (Addr.mk b21 2 none).spot = none ∧ (Addr.mk b21 2 none).off < c.size ∧
  atF (F.set (Addr.mk b21 2 none).block (.cells (c.setIfInBounds (Addr.mk b21 2 none).off (.int .i64 v_22)) e)) fun F =>
  ∃ c e, F (Addr.mk b21 3 none).block = some (.cells c e (0, 0)) ∧ (Addr.mk b21 3 none).spot = none ∧ (Addr.mk b21 3 none).off < c.size ∧
  atF (F.set (Addr.mk b21 3 none).block (.cells (c.setIfInBounds (Addr.mk b21 3 none).off (.int .u64 v_41)) e)) fun F =>
  b20j2 N2 d_0 b21 v_22 R F) ∧
 (v_59 = false →
  b20j2 N2 d_0 b21 v_22 R F))
abbrev b20J3 (N2 : Int → PH → Prop) (d_0 : Option Addr) (b21 : Nat) (v_22 : Int) (v_41 : Int) (R : VP) (E : En) (F : PH) : Prop := ∃ v_59 : Bool, E 0 = (.pointer d_0) ∧ E 4 = (.pointer (some (Addr.mk b21 0 none))) ∧ E 5 = (.int .i64 v_22) ∧ E 8 = (.int .u64 v_41) ∧ E 22 = (.int .i64 v_22) ∧ E 59 = (.bool v_59) ∧ b20j3 N2 d_0 b21 v_22 v_41 v_59 R F
def b20L2 (N2 : Int → PH → Prop) (d_0 : Option Addr) (b21 : Nat) (R : VP) (v_22 : Int) (F : PH) :=
 ((v_22 < 2 →
  ∃ v_31 : Int, F.cell (Addr.mk b21 1 none) = some (.int .i64 v_31) ∧
  Spec prog 38 #[(.pointer d_0), (.int .i64 (IntKind.i64.wrap (v_22 * v_31)))] F fun v F => ∃ v_33 : Sl, ∃ v_33_1 : Int, v = (.tuple #[(Sl.v v_33), (.int .i64 v_33_1)]) ∧
  ((v_33_1 ≠ 0 →
   R (.tuple #[(.pointer none), (.int .i64 v_33_1)]) F) ∧
  (¬ (v_33_1 ≠ 0) →
   1 ≤ v_33.len ∧ v_33.len ≤ v_33.cap ∧ 
   Spec prog 47 #[(Sl.v (Sl.cut v_33 1 1 v_33.len v_33.cap))] F fun v F => ∃ v_41 : Int, v = (.int .u64 v_41) ∧
   ∃ a43_ : Addr, v_33.base = some a43_ ∧ 0 ≤ (0 : Int) ∧ (0 : Int) < (v_33.len : Int) ∧
   ∃ v_44 : Int, F.cell (Addr.add a43_ (Int.toNat 0 * 1)) = some (.int .u8 v_44) ∧
   ((v_44 = 1 →
    ∃ v_51 : Int, F.cell (Addr.mk b21 3 none) = some (.int .u64 v_51) ∧
    ((v_51 < v_41 →
     9 ≤ v_33.len ∧ v_33.len ≤ v_33.cap ∧ 
     Spec prog 47 #[(Sl.v (Sl.cut v_33 1 9 v_33.len v_33.cap))] F fun v F => ∃ v_57 : Int, v = (.int .u64 v_57) ∧
     b20j3 N2 d_0 b21 v_22 v_41 (decide (v_57 = 461430681189)) R F) ∧
    (¬ (v_51 < v_41) →
     b20j3 N2 d_0 b21 v_22 v_41 false R F))) ∧
   (¬ (v_44 = 1) →
    b20j3 N2 d_0 b21 v_22 v_41 false R F))))) ∧
 (¬ (v_22 < 2) →
  b20j1 b21 R F))
def b20 (d_0 : Option Addr) (R : VP) (F : PH) :=
 Spec prog 28 #[(.pointer d_0)] F fun v F => ∃ v_13 : Int, v = (.int .i64 v_13) ∧
 ((v_13 < 4 →
  R (.tuple #[(.pointer none), (.int .i64 1)]) F) ∧
 (¬ (v_13 < 4) →
  Spec prog 28 #[(.pointer d_0)] F fun v F => ∃ v_17 : Int, v = (.int .i64 v_17) ∧
  ∀ b19, F b19 = none → atF (F.set b19 (.map #[] 0)) fun F =>
  ∀ b21, F b21 = none → atF (F.set b21 (.cells (#[(.pointer d_0), (.int .i64 (IntKind.i64.wrap (Int.tdiv v_17 2))), .int .i64 0, .int .u64 0, .int .i64 0, (.map (some b19)), .bool false] : Array Value) 84)) fun F =>
  (∃ (I2 : Nat → Int → PH → Prop) (m2 : Nat), I2 m2 0 F ∧ ∀ m2 v_22 F, I2 m2 v_22 F →
   b20L2 (nx1 I2 m2) d_0 b21 R v_22 F)))
theorem c20 {d_0 : Option Addr} {R : VP} {F : PH} (h : b20 d_0 R F) : Spec prog 20 #[(.pointer d_0)] F R := by
 refine spec_of (args := [(.pointer d_0)]) func20 rfl ntmps20 rfl ?_
 unfold b20 at h
 refine cR (sR (.pointer none) (r_assign rfl rfl) ?_)
 refine sR (.int .i64 0) (r_assign rfl rfl) ?_
 refine HL_nil ?_
 refine HC_seq ?_
 refine cR (sR (.pointer d_0) (r_move rfl rfl) ?_)
 refine s_ef (k_call (vs := [(.pointer d_0)]) cb28 (evC rfl evN) (h.mono ?_))
 clear h; rintro v F ⟨v_13, rfl, h⟩
 refine sR (.bool (decide (v_13 < 4))) (r_lss rfl rfl rfl) ?_
 refine HL_nil ?_
 refine HC_cond (t := (decide (v_13 < 4))) rfl (fun hc => ?_) (fun hc => ?_)
 replace h := h.1 (of_decide_eq_true hc)
 clear hc
 refine cR (sR (.pointer none) (r_assign rfl rfl) ?_)
 refine sR (.int .i64 1) (r_assign rfl rfl) ?_
 exact HL_nil (HC_ret (rt2 f20 R rfl rfl rfl h))
 replace h := h.2 (of_decide_eq_false hc)
 clear hc
 refine HC_skip ?_
 refine cR (sR (.pointer d_0) (r_move rfl rfl) ?_)
 refine sR (.pointer d_0) (r_move rfl rfl) ?_
 refine s_ef (k_call (vs := [(.pointer d_0)]) cb28 (evC rfl evN) (h.mono ?_))
 clear h; rintro v F ⟨v_17, rfl, h⟩
 refine sR (.int .i64 (IntKind.i64.wrap (Int.tdiv v_17 2))) (r_quo rfl rfl rfl (by decide)) ?_
 refine s_ef (k_makeMap0 ?_)
 intro b19 hf_b19
 replace h := atE (h b19 hf_b19)
 refine sR (.agg (#[(.pointer d_0), (.int .i64 (IntKind.i64.wrap (Int.tdiv v_17 2))), .int .i64 0, .int .u64 0, .int .i64 0, (.map (some b19)), .bool false] : Array Value)) (w_buildStruct (cells := #[(.pointer d_0), (.int .i64 (IntKind.i64.wrap (Int.tdiv v_17 2))), .int .i64 0, .int .u64 0, .int .i64 0, (.map (some b19)), .bool false]) underlying84 zr84 kf84 (evPC rfl (evPC rfl (evPC rfl evPN))) (fill1 (place_of rfl rfl sz24) rfl rfl (fill1 (place_of rfl rfl sz3) rfl rfl (fill1 (place_of rfl rfl sz82) rfl rfl (fillN rfl))))) ?_
 refine s_ef (k_box (cs := (#[(.pointer d_0), (.int .i64 (IntKind.i64.wrap (Int.tdiv v_17 2))), .int .i64 0, .int .u64 0, .int .i64 0, (.map (some b19)), .bool false] : Array Value)) rfl rfl ?_)
 intro b21 hf_b21
 replace h := atE (h b21 hf_b21)
 refine sR (.pointer (some (Addr.mk b21 0 none))) (r_assign rfl rfl) ?_
 refine HL_nil ?_
 refine HC_seqJ (b20J1 b21 R) ?_ ?_
 clear h; rintro E F ⟨h4, h⟩
 unfold b20j1 at h
 refine HC_seq ?_
 refine cR (sR _ (r_move rfl h4) ?_)
 refine sR (.pointer (some (Addr.mk b21 0 none))) (r_nilCheck rfl rfl) ?_
 refine sR (.pointer (some (Addr.mk b21 3 none))) (w_fieldAddr rfl underlying84 rfl rfl sz81 rfl rfl) ?_
 obtain ⟨v_72, hc72, h⟩ := h
 refine sR (.int .u64 v_72) (r_load1 rfl rfl underlying81 rfl hc72) ?_
 refine sR (.bool (decide (v_72 = 0))) (w_eql rfl rfl) ?_
 refine HL_nil ?_
 refine HC_cond (t := (decide (v_72 = 0))) rfl (fun hc => ?_) (fun hc => ?_)
 replace h := h.1 (of_decide_eq_true hc)
 clear hc
 refine cR (sR (.pointer none) (r_assign rfl rfl) ?_)
 refine sR (.int .i64 350) (r_assign rfl rfl) ?_
 exact HL_nil (HC_ret (rt2 f20 R rfl rfl rfl h))
 replace h := h.2 (of_decide_eq_false hc)
 clear hc
 refine HC_skip ?_
 refine HC_block ?_
 obtain ⟨I1, m1, hI0, hr⟩ := h
 refine HC_loop (fun m1 E F => E 4 = (.pointer (some (Addr.mk b21 0 none))) ∧ I1 m1 F) m1 ⟨h4, hI0⟩ ?_
 clear hI0; rintro m1 E F ⟨h4, hI⟩
 have h := hr m1 F hI
 clear hr hI
 unfold b20L1 at h
 refine HC_block ?_
 refine cR (sR _ (r_move rfl h4) ?_)
 refine s_ef (k_call (vs := [(.pointer (some (Addr.mk b21 0 none)))]) cb48 (evC rfl evN) (h.mono ?_))
 clear h; rintro v F ⟨v_76, v_76_1, v_76_2, rfl, h⟩
 refine sR (.tuple #[(Sl.v v_76), (.bool v_76_1), (.int .i64 v_76_2)]) (r_move rfl rfl) ?_
 refine sR (Sl.v v_76) (r_extract rfl rfl rfl) ?_
 refine sR (.bool v_76_1) (r_extract rfl rfl rfl) ?_
 refine sR (.int .i64 v_76_2) (r_extract rfl rfl rfl) ?_
 refine sR (Sl.v v_76) (r_assign rfl rfl) ?_
 refine sR (.bool v_76_1) (r_assign rfl rfl) ?_
 refine sR (.int .i64 v_76_2) (r_assign rfl rfl) ?_
 refine HL_nil ?_
 refine HC_seq ?_
 refine cR (sR (.int .i64 v_76_2) (r_move rfl rfl) ?_)
 refine sR (.bool (decide (v_76_2 ≠ 0))) (w_neq rfl rfl) ?_
 refine HL_nil ?_
 refine HC_cond (t := (decide (v_76_2 ≠ 0))) rfl (fun hc => ?_) (fun hc => ?_)
 replace h := h.1 (of_decide_eq_true hc)
 clear hc
 refine cR (sR (.int .i64 v_76_2) (r_move rfl rfl) ?_)
 refine sR (.pointer none) (r_assign rfl rfl) ?_
 refine sR (.int .i64 v_76_2) (r_assign rfl rfl) ?_
 exact HL_nil (HC_ret (rt2 f20 R rfl rfl rfl h))
 replace h := h.2 (of_decide_eq_false hc)
 clear hc
 refine HC_skip ?_
 refine HC_seq ?_
 refine cR (sR (.bool v_76_1) (r_move rfl rfl) ?_)
 refine sR (.bool (!v_76_1)) (r_not rfl rfl) ?_
 refine HL_nil ?_
 refine HC_cond (t := (!v_76_1)) rfl (fun hc => ?_) (fun hc => ?_)
 replace h := h.1 hc
 clear hc
 refine cR (sR _ (r_move rfl h4) ?_)
 refine sR (.pointer (some (Addr.mk b21 0 none))) (r_assign rfl rfl) ?_
 refine sR (.int .i64 0) (r_assign rfl rfl) ?_
 exact HL_nil (HC_ret (rt2 f20 R rfl rfl rfl h))
 replace h := h.2 hc
 clear hc
 refine HC_skip ?_
 refine HC_seq ?_
 refine HC_draw0 (by kernel_rfl) (fun hp => ?_)
 refine gU 0 (.pointer (some (Addr.mk b21 0 none))) rfl (fun _ => r_move rfl h4) hp ?_
 refine gU 1 (.pointer (some (Addr.mk b21 0 none))) rfl (fun _ => r_nilCheck rfl rfl) hp ?_
 refine gU 2 (.pointer (some (Addr.mk b21 5 none))) rfl (fun _ => w_fieldAddr rfl underlying84 rfl rfl sz82 rfl rfl) hp ?_
 obtain ⟨v_89, hc89, h⟩ := h
 refine gR 3 (.map v_89) rfl (r_load1 rfl rfl underlying82 rfl hc89) hp (fun S3 q3 => ?_)
 replace hp := holdC (i := 3) (q3 _ (r_load1 rfl rfl underlying82 rfl hc89)) hp
 refine gU 4 (Sl.v v_76) rfl (fun _ => r_move rfl rfl) hp ?_
 refine RG_eff1 (i := 5) (by kernel_rfl) (g_op (Sp' := [(3, S3)]) rfl rfl (k_call (vs := [(Sl.v v_76)]) cb50 (evC rfl evN) (h.mono ?_)))
 clear h; rintro v F ⟨v_91, rfl, h⟩
 obtain ⟨hk_2, h⟩ := h
 refine holdI (holdC (i := 3) (q3 _ (r_load1 rfl rfl underlying82 rfl hk_2)) hold0) (fun hp => ?_)
 refine RG_eff1 (i := 6) (by kernel_rfl) (g_op (Sp' := []) rfl rfl (k_call (vs := [(.map v_89), (Sl.v v_91)]) cb49 (evC rfl (evC rfl evN)) (h.mono ?_)))
 clear h; rintro v F ⟨rfl, h⟩
 refine holdI hold0 (fun hp => ?_)
 refine RG_done (by kernel_rfl) ?_
 refine HC_draw0 (by kernel_rfl) (fun hp => ?_)
 refine gU 0 (.pointer (some (Addr.mk b21 0 none))) rfl (fun _ => r_move rfl h4) hp ?_
 refine gU 1 (.pointer (some (Addr.mk b21 0 none))) rfl (fun _ => r_nilCheck rfl rfl) hp ?_
 refine gU 2 (.pointer (some (Addr.mk b21 4 none))) rfl (fun _ => w_fieldAddr rfl underlying84 rfl rfl sz3 rfl rfl) hp ?_
 obtain ⟨v_96, hc96, h⟩ := h
 refine gR 3 (.int .i64 v_96) rfl (r_load1 rfl rfl underlying3 rfl hc96) hp (fun S3 q3 => ?_)
 replace hp := holdC (i := 3) (q3 _ (r_load1 rfl rfl underlying3 rfl hc96)) hp
 refine gU 4 (Sl.v v_76) rfl (fun _ => r_move rfl rfl) hp ?_
 refine gU 5 (.int .i64 (v_76.len : Int)) rfl (fun _ => r_lenSl rfl rfl underlying39) hp ?_
 refine RG_eff1 (i := 6) (by kernel_rfl) (g_op (Sp' := [(3, S3)]) rfl rfl (k_call (vs := [(.int .i64 (v_76.len : Int))]) cb51 (evC rfl evN) (h.mono ?_)))
 clear h; rintro v F ⟨v_99, rfl, h⟩
 obtain ⟨hk_3, h⟩ := h
 refine holdI (holdC (i := 3) (q3 _ (r_load1 rfl rfl underlying3 rfl hk_3)) hold0) (fun hp => ?_)
 refine gU 7 (.int .i64 (IntKind.i64.wrap (v_96 + v_99))) rfl (fun _ => r_add rfl rfl rfl) hp ?_
 refine gU 8 (.pointer (some (Addr.mk b21 0 none))) rfl (fun _ => r_nilCheck rfl rfl) hp ?_
 refine gU 9 (.pointer (some (Addr.mk b21 4 none))) rfl (fun _ => w_fieldAddr rfl underlying84 rfl rfl sz3 rfl rfl) hp ?_
 refine RG_eff1 (i := 10) (by kernel_rfl) (g_op0 (Sp' := []) rfl rfl (k_store1 (v := (.int .i64 (IntKind.i64.wrap (v_96 + v_99)))) rfl rfl sz3 rfl st_int ?_))
 obtain ⟨c, e, hz3, hz4, hz5, h⟩ := h
 refine ⟨c, e, hz3, hz4, hz5, ?_⟩
 replace h := atE h
 refine holdI hold0 (fun hp => ?_)
 refine RG_done (by kernel_rfl) ?_
 obtain ⟨m', hm, h⟩ := h
 exact ⟨m', hm, h4, h⟩
 refine cR (sR (.int .i64 0) (r_move rfl rfl) ?_)
 refine HL_nil ?_
 refine HC_block ?_
 obtain ⟨I2, m2, hI0, hr⟩ := h
 refine HC_loop (fun m2 E F => ∃ v_22 : Int, E 0 = (.pointer d_0) ∧ E 4 = (.pointer (some (Addr.mk b21 0 none))) ∧ E 22 = (.int .i64 v_22) ∧ I2 m2 v_22 F) m2 ⟨_, rfl, rfl, rfl, hI0⟩ ?_
 clear hI0; rintro m2 E F ⟨v_22, h0, h4, h22, hI⟩
 have h := hr m2 v_22 F hI
 clear hr hI
 unfold b20L2 at h
 refine cR (sR (.bool (decide (v_22 < 2))) (r_lss rfl h22 rfl) ?_)
 refine HL_nil ?_
 refine HC_seq ?_
 refine HC_cond (t := (decide (v_22 < 2))) rfl (fun hc => ?_) (fun hc => ?_)
 replace h := h.1 (of_decide_eq_true hc)
 clear hc
 refine HC_skip ?_
 refine HC_seqJ (b20J2 (nx1 I2 m2) d_0 b21 v_22 R) ?_ ?_
 clear h; rintro E F ⟨h0, h4, h22, h⟩
 unfold b20j2 at h
 refine HC_region ?_
 refine sR (.int .i64 (IntKind.i64.wrap (v_22 + 1))) (r_add rfl h22 rfl) ?_
 refine sR (.int .i64 (IntKind.i64.wrap (v_22 + 1))) (r_move rfl rfl) ?_
 refine HL_nil ?_
 obtain ⟨m', hm, h⟩ := h
 exact ⟨m', hm, _, h0, h4, rfl, h⟩
 refine HC_block ?_
 refine cR (sR _ (r_move rfl h22) ?_)
 refine sR (.int .i64 v_22) (r_assign rfl rfl) ?_
 refine HL_nil ?_
 refine cR (sR _ (r_move rfl h0) ?_)
 refine sR (.int .i64 v_22) (r_move rfl rfl) ?_
 refine sR _ (r_move rfl h4) ?_
 refine sR (.pointer (some (Addr.mk b21 0 none))) (r_nilCheck rfl rfl) ?_
 refine sR (.pointer (some (Addr.mk b21 1 none))) (w_fieldAddr rfl underlying84 rfl rfl sz3 rfl rfl) ?_
 obtain ⟨v_31, hc31, h⟩ := h
 refine sR (.int .i64 v_31) (r_load1 rfl rfl underlying3 rfl hc31) ?_
 refine sR (.int .i64 (IntKind.i64.wrap (v_22 * v_31))) (r_mul rfl rfl rfl) ?_
 refine s_ef (k_call (vs := [(.pointer d_0), (.int .i64 (IntKind.i64.wrap (v_22 * v_31)))]) cb38 (evC rfl (evC rfl evN)) (h.mono ?_))
 clear h; rintro v F ⟨v_33, v_33_1, rfl, h⟩
 refine sR (.tuple #[(Sl.v v_33), (.int .i64 v_33_1)]) (r_move rfl rfl) ?_
 refine sR (Sl.v v_33) (r_extract rfl rfl rfl) ?_
 refine sR (.int .i64 v_33_1) (r_extract rfl rfl rfl) ?_
 refine sR (Sl.v v_33) (r_assign rfl rfl) ?_
 refine sR (.int .i64 v_33_1) (r_assign rfl rfl) ?_
 refine HL_nil ?_
 refine HC_seq ?_
 refine cR (sR (.int .i64 v_33_1) (r_move rfl rfl) ?_)
 refine sR (.bool (decide (v_33_1 ≠ 0))) (w_neq rfl rfl) ?_
 refine HL_nil ?_
 refine HC_cond (t := (decide (v_33_1 ≠ 0))) rfl (fun hc => ?_) (fun hc => ?_)
 replace h := h.1 (of_decide_eq_true hc)
 clear hc
 refine cR (sR (.int .i64 v_33_1) (r_move rfl rfl) ?_)
 refine sR (.pointer none) (r_assign rfl rfl) ?_
 refine sR (.int .i64 v_33_1) (r_assign rfl rfl) ?_
 exact HL_nil (HC_ret (rt2 f20 R rfl rfl rfl h))
 replace h := h.2 (of_decide_eq_false hc)
 clear hc
 refine HC_skip ?_
 refine cR (sR (Sl.v v_33) (r_move rfl rfl) ?_)
 obtain ⟨hr40_0, hr40_1, h⟩ := h
 refine sR (Sl.v (Sl.cut v_33 1 1 v_33.len v_33.cap)) (r_sliceSl rfl rfl underlying39 sz5 (bo_ev (i := 1) rfl (by decide)) bo_none hr40_0 hr40_1) ?_
 refine s_ef (k_call (vs := [(Sl.v (Sl.cut v_33 1 1 v_33.len v_33.cap))]) cb47 (evC rfl evN) (h.mono ?_))
 clear h; rintro v F ⟨v_41, rfl, h⟩
 refine sR (.int .u64 v_41) (r_assign rfl rfl) ?_
 refine HL_nil ?_
 refine HC_seqJ (b20J3 (nx1 I2 m2) d_0 b21 v_22 v_41 R) ?_ ?_
 clear h; rintro E F ⟨v_59, h0, h4, h5, h8, h22, h59, h⟩
 unfold b20j3 at h
 refine HC_cond (t := v_59) h59 (fun hc => ?_) (fun hc => ?_)
 replace h := h.1 hc
 clear hc
 refine HC_region ?_
 refine sR _ (r_move rfl h4) ?_
 refine sR _ (r_move rfl h4) ?_
 refine sR _ (r_move rfl h5) ?_
 refine sR _ (r_move rfl h8) ?_
 refine sR (.pointer (some (Addr.mk b21 0 none))) (r_nilCheck rfl rfl) ?_
 refine sR (.pointer (some (Addr.mk b21 2 none))) (w_fieldAddr rfl underlying84 rfl rfl sz3 rfl rfl) ?_
 refine s_ef0 (k_store1 (v := (.int .i64 v_22)) rfl rfl sz3 rfl st_int ?_)
 obtain ⟨c, e, hz3, hz4, hz5, h⟩ := h
 refine ⟨c, e, hz3, hz4, hz5, ?_⟩
 replace h := atE h
 refine sR (.pointer (some (Addr.mk b21 0 none))) (r_nilCheck rfl rfl) ?_
 refine sR (.pointer (some (Addr.mk b21 3 none))) (w_fieldAddr rfl underlying84 rfl rfl sz81 rfl rfl) ?_
 refine s_ef0 (k_store1 (v := (.int .u64 v_41)) rfl rfl sz81 rfl st_int ?_)
 obtain ⟨c, e, hz3, hz4, hz5, h⟩ := h
 refine ⟨c, e, hz3, hz4, hz5, ?_⟩
 replace h := atE h
 refine HL_nil ?_
 show b20J2 (nx1 I2 m2) d_0 b21 v_22 R _ _
 exact ⟨h0, h4, h22, h⟩
 replace h := h.2 hc
 clear hc
 refine HC_skip ?_
 show b20J2 (nx1 I2 m2) d_0 b21 v_22 R _ _
 exact ⟨h0, h4, h22, h⟩
 refine HC_region ?_
 refine sR (Sl.v v_33) (r_move rfl rfl) ?_
 obtain ⟨a43_, hb43, hl43, hu43, h⟩ := h
 refine sR (.pointer (some (Addr.add a43_ (Int.toNat 0 * 1)))) (w_indexAddr rfl rfl underlying39 sz5 hb43 hl43 hu43) ?_
 obtain ⟨v_44, hc44, h⟩ := h
 refine sR (.int .u8 v_44) (r_load1 rfl rfl underlying5 rfl hc44) ?_
 refine sR (.bool (decide (v_44 = 1))) (w_eql rfl rfl) ?_
 refine sR (.bool (decide (v_44 = 1))) (r_move rfl rfl) ?_
 by_cases hc : v_44 = 1
 replace h := h.1 hc
 refine kN 45 (decide_eq_true hc) ?_
 refine kN 46 (decide_eq_true hc) ?_
 refine sR (.int .u64 v_41) (r_move rfl rfl) ?_
 refine sR _ (r_move rfl h4) ?_
 refine sR (.pointer (some (Addr.mk b21 0 none))) (r_nilCheck rfl rfl) ?_
 refine sR (.pointer (some (Addr.mk b21 3 none))) (w_fieldAddr rfl underlying84 rfl rfl sz81 rfl rfl) ?_
 obtain ⟨v_51, hc51, h⟩ := h
 refine sR (.int .u64 v_51) (r_load1 rfl rfl underlying81 rfl hc51) ?_
 refine sR (.bool (decide (v_51 < v_41))) (r_gtr rfl rfl rfl) ?_
 refine sR (.bool (decide (v_51 < v_41))) (r_pt rfl rfl) ?_
 refine sR (.bool (decide (v_51 < v_41))) (r_move rfl rfl) ?_
 by_cases hc : v_51 < v_41
 replace h := h.1 hc
 refine kN 52 (decide_eq_true hc) ?_
 refine kN 53 (decide_eq_true hc) ?_
 refine kN 54 (decide_eq_true hc) ?_
 refine sR (Sl.v v_33) (r_move rfl rfl) ?_
 obtain ⟨hr56_0, hr56_1, h⟩ := h
 refine sR (Sl.v (Sl.cut v_33 1 9 v_33.len v_33.cap)) (r_sliceSl rfl rfl underlying39 sz5 (bo_ev (i := 9) rfl (by decide)) bo_none hr56_0 hr56_1) ?_
 refine s_ef (k_call (vs := [(Sl.v (Sl.cut v_33 1 9 v_33.len v_33.cap))]) cb47 (evC rfl evN) (h.mono ?_))
 clear h; rintro v F ⟨v_57, rfl, h⟩
 refine sR (.bool (decide (v_57 = 461430681189))) (w_eql rfl rfl) ?_
 refine sR (.bool (decide (v_57 = 461430681189))) (r_pt rfl rfl) ?_
 refine HL_nil ?_
 show b20J3 (nx1 I2 m2) d_0 b21 v_22 v_41 R _ _
 exact ⟨_, h0, h4, rfl, rfl, h22, rfl, h⟩
 replace h := h.2 hc
 refine kN 52 (decide_eq_false hc) ?_
 refine kN 53 (decide_eq_false hc) ?_
 refine kN 54 (decide_eq_false hc) ?_
 iterate 4 refine s_skip ?_
 refine sR (.bool false) (r_pf rfl rfl) ?_
 refine HL_nil ?_
 show b20J3 (nx1 I2 m2) d_0 b21 v_22 v_41 R _ _
 exact ⟨_, h0, h4, rfl, rfl, h22, rfl, h⟩
 replace h := h.2 hc
 refine kN 45 (decide_eq_false hc) ?_
 refine kN 46 (decide_eq_false hc) ?_
 iterate 6 refine s_skip ?_
 refine sR (.bool false) (r_pf rfl rfl) ?_
 refine sR (.bool false) (r_move rfl rfl) ?_
 iterate 4 refine s_skip ?_
 refine sR (.bool false) (r_pf rfl rfl) ?_
 refine HL_nil ?_
 show b20J3 (nx1 I2 m2) d_0 b21 v_22 v_41 R _ _
 exact ⟨_, h0, h4, rfl, rfl, h22, rfl, h⟩
 replace h := h.2 (of_decide_eq_false hc)
 clear hc
 refine HC_exit ?_
 show b20J1 b21 R _ _
 exact ⟨h4, h⟩
end Go.Proofs.Ytelkfnmdnbbniaa
