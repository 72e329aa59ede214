/-
  What functions of the program do, in a clean form, each with the proof that its code does so. Printed by a program.
-/
import Derived.Test.YtelkfnmdnbbniaaGf
import Derived.Test.YtelkfnmdnbbniaaPhp
namespace Go.Proofs.Ytelkfnmdnbbniaa
open Go Go.Proofs.Try
set_option maxRecDepth 10000
set_option maxHeartbeats 4000000
/- 11 koine.koinelaw35.fresh -/
def b11 (n_0 : Int) (R : VP) (F : PH) :=
 ∀ b4, F b4 = none → atF (F.set b4 (.cells (#[.int .i64 0, .int .i64 0, .slice none 0 0]) 28)) fun F =>
 Spec prog 39 #[(.int .i64 n_0)] F fun v F => ∃ v_12 : Option Addr, ∃ v_12_1 : Int, v = (.tuple #[(.pointer v_12), (.int .i64 v_12_1)]) ∧
 ((v_12_1 ≠ 0 →
  (#[.int .i64 0, .int .i64 0, .slice none 0 0] : Array Value).size = 3 ∧ (∀ v ∈ (#[.int .i64 0, .int .i64 0, .slice none 0 0] : Array Value).toList, storable v) ∧ ∃ c e, F (Addr.mk b4 0 none).block = some (.cells c e (0, 0)) ∧ (Addr.mk b4 0 none).spot = none ∧ (Addr.mk b4 0 none).off + 3 ≤ c.size ∧
  atF (F.set (Addr.mk b4 0 none).block (.cells (wr c (Addr.mk b4 0 none).off (#[.int .i64 0, .int .i64 0, .slice none 0 0] : Array Value).toList) e)) fun F =>
  ∃ vres_4 : Array Value, vres_4.size = 3 ∧ F.row (Addr.mk b4 0 none) vres_4 ∧ R (.tuple #[(.pointer none), (.pointer none), (.agg vres_4), (.bool false)]) F) ∧
 (¬ (v_12_1 ≠ 0) →
  Spec prog 30 #[(.pointer v_12)] F fun v F => ∃ v_20 : Option Addr, ∃ v_20_1 : Int, v = (.tuple #[(.pointer v_20), (.int .i64 v_20_1)]) ∧
  (#[(.int .i64 n_0), .int .i64 0, .slice none 0 0] : Array Value).size = 3 ∧ (∀ v ∈ (#[(.int .i64 n_0), .int .i64 0, .slice none 0 0] : Array Value).toList, storable v) ∧ ∃ c e, F (Addr.mk b4 0 none).block = some (.cells c e (0, 0)) ∧ (Addr.mk b4 0 none).spot = none ∧ (Addr.mk b4 0 none).off + 3 ≤ c.size ∧
  atF (F.set (Addr.mk b4 0 none).block (.cells (wr c (Addr.mk b4 0 none).off (#[(.int .i64 n_0), .int .i64 0, .slice none 0 0] : Array Value).toList) e)) fun F =>
  ∃ vres_4_1 : Array Value, vres_4_1.size = 3 ∧ F.row (Addr.mk b4 0 none) vres_4_1 ∧ R (.tuple #[(.pointer v_12), (.pointer v_20), (.agg vres_4_1), (.bool (decide (v_20_1 = 0)))]) F))
theorem c11 {n_0 : Int} {R : VP} {F : PH} (h : b11 n_0 R F) : Spec prog 11 #[(.int .i64 n_0)] F R := by
 refine spec_of (args := [(.int .i64 n_0)]) func11 rfl ntmps11 rfl ?_
 unfold b11 at h
 refine cR (sR (.pointer none) (r_assign rfl rfl) ?_)
 refine sR (.pointer none) (r_assign rfl rfl) ?_
 refine s_ef (k_alloc zr28 ?_)
 intro b4 hf_b4
 replace h := atE (h b4 hf_b4)
 refine sR (.bool false) (r_assign rfl rfl) ?_
 refine HL_nil ?_
 refine cR (sR (.int .i64 n_0) (r_move rfl rfl) ?_)
 refine s_ef (k_call (vs := [(.int .i64 n_0)]) cb39 (evC rfl evN) (h.mono ?_))
 clear h; rintro v F ⟨v_12, v_12_1, rfl, h⟩
 refine sR (.tuple #[(.pointer v_12), (.int .i64 v_12_1)]) (r_move rfl rfl) ?_
 refine sR (.pointer v_12) (r_extract rfl rfl rfl) ?_
 refine sR (.int .i64 v_12_1) (r_extract rfl rfl rfl) ?_
 refine sR (.pointer v_12) (r_assign rfl rfl) ?_
 refine sR (.int .i64 v_12_1) (r_assign rfl rfl) ?_
 refine HL_nil ?_
 refine HC_seq ?_
 refine cR (sR (.int .i64 v_12_1) (r_move rfl rfl) ?_)
 refine sR (.bool (decide (v_12_1 ≠ 0))) (w_neq rfl rfl) ?_
 refine HL_nil ?_
 refine HC_cond (t := (decide (v_12_1 ≠ 0))) rfl (fun hc => ?_) (fun hc => ?_)
 replace h := h.1 (of_decide_eq_true hc)
 clear hc
 refine cR (sR (.agg (#[.int .i64 0, .int .i64 0, .slice none 0 0] : Array Value)) (w_buildStruct (cells := #[.int .i64 0, .int .i64 0, .slice none 0 0]) underlying28 zr28 kf28 (evPN) (fillN rfl)) ?_)
 refine sR (.pointer none) (r_assign rfl rfl) ?_
 refine sR (.pointer none) (r_assign rfl rfl) ?_
 refine s_ef0 (k_storeN (vs := (#[.int .i64 0, .int .i64 0, .slice none 0 0] : Array Value)) rfl rfl sz28 (by decide) ?_)
 obtain ⟨hz1, hz2, c, e, hz3, hz4, hz5, h⟩ := h
 refine ⟨hz1, hz2, c, e, hz3, hz4, hz5, ?_⟩
 replace h := atE h
 refine sR (.bool false) (r_assign rfl rfl) ?_
 refine HL_nil ?_
 obtain ⟨vres_4, hs4, hr4, h⟩ := h
 exact HC_ret (show endQ prog f11 R .ret _ _ from ⟨_, res4 rfl (rv_tmp rfl) (rv_tmp rfl) (rv_cellN rfl underlying28 rfl sz28 hs4 hr4) (rv_tmp rfl), h⟩)
 replace h := h.2 (of_decide_eq_false hc)
 clear hc
 refine HC_skip ?_
 refine cR (sR (.pointer v_12) (r_move rfl rfl) ?_)
 refine s_ef (k_call (vs := [(.pointer v_12)]) cb30 (evC rfl evN) (h.mono ?_))
 clear h; rintro v F ⟨v_20, v_20_1, rfl, h⟩
 refine sR (.tuple #[(.pointer v_20), (.int .i64 v_20_1)]) (r_move rfl rfl) ?_
 refine sR (.pointer v_20) (r_extract rfl rfl rfl) ?_
 refine sR (.int .i64 v_20_1) (r_extract rfl rfl rfl) ?_
 refine sR (.pointer v_20) (r_assign rfl rfl) ?_
 refine sR (.int .i64 v_20_1) (r_assign rfl rfl) ?_
 refine HL_nil ?_
 refine cR (sR (.pointer v_12) (r_move rfl rfl) ?_)
 refine sR (.pointer v_20) (r_move rfl rfl) ?_
 refine sR (.int .i64 n_0) (r_move rfl rfl) ?_
 refine sR (.agg (#[(.int .i64 n_0), .int .i64 0, .slice none 0 0] : Array Value)) (w_buildStruct (cells := #[(.int .i64 n_0), .int .i64 0, .slice none 0 0]) underlying28 zr28 kf28 (evPC rfl evPN) (fill1 (place_of rfl rfl sz3) rfl rfl (fillN rfl))) ?_
 refine sR (.int .i64 v_20_1) (r_move rfl rfl) ?_
 refine sR (.bool (decide (v_20_1 = 0))) (w_eql rfl rfl) ?_
 refine sR (.pointer v_12) (r_assign rfl rfl) ?_
 refine sR (.pointer v_20) (r_assign rfl rfl) ?_
 refine s_ef0 (k_storeN (vs := (#[(.int .i64 n_0), .int .i64 0, .slice none 0 0] : Array Value)) rfl rfl sz28 (by decide) ?_)
 obtain ⟨hz1, hz2, c, e, hz3, hz4, hz5, h⟩ := h
 refine ⟨hz1, hz2, c, e, hz3, hz4, hz5, ?_⟩
 replace h := atE h
 refine sR (.bool (decide (v_20_1 = 0))) (r_assign rfl rfl) ?_
 refine HL_nil ?_
 obtain ⟨vres_4_1, hs4, hr4, h⟩ := h
 exact HC_ret (show endQ prog f11 R .ret _ _ from ⟨_, res4 rfl (rv_tmp rfl) (rv_tmp rfl) (rv_cellN rfl underlying28 rfl sz28 hs4 hr4) (rv_tmp rfl), h⟩)
 /- 12 koine.koinelaw35.size -/
def b12 (n_0 : Int) (R : VP) (F : PH) :=
 R (.int .i64 (IntKind.i64.wrap (4 + (IntKind.i64.wrap (Int.tmod n_0 40))))) F
theorem c12 {n_0 : Int} {R : VP} {F : PH} (h : b12 n_0 R F) : Spec prog 12 #[(.int .u8 n_0)] F R := by
 refine spec_of (args := [(.int .u8 n_0)]) func12 rfl ntmps12 rfl ?_
 unfold b12 at h
 refine cR (sR (.int .i64 0) (r_assign rfl rfl) ?_)
 refine HL_nil ?_
 refine cR (sR (.int .u8 n_0) (r_move rfl rfl) ?_)
 refine sR (.int .u8 (Int.tmod n_0 40)) (r_rem rfl rfl rfl (by decide)) ?_
 refine sR (.int .i64 (IntKind.i64.wrap (Int.tmod n_0 40))) (r_convInt rfl rfl underlying5 underlying3) ?_
 refine sR (.int .i64 (IntKind.i64.wrap (4 + (IntKind.i64.wrap (Int.tmod n_0 40))))) (r_add rfl rfl rfl) ?_
 refine sR (.int .i64 (IntKind.i64.wrap (4 + (IntKind.i64.wrap (Int.tmod n_0 40))))) (r_assign rfl rfl) ?_
 exact HL_nil (HC_ret (rt1 f12 R rfl rfl h))
 /- 13 koine.koinelaw35.same -/
def b13 (s_0 : Option Addr) (vm_1 : Array Value) (R : VP) (F : PH) :=
 ∀ b3, F b3 = none → atF (F.set b3 (.cells vm_1 28)) fun F =>
 ∃ v_8 : Sl, F.cell (Addr.mk b3 2 none) = some (Sl.v v_8) ∧
 Spec prog 17 #[(.pointer s_0)] F fun v F => ∃ v_6 : Sl, v = (Sl.v v_6) ∧
 F.cell (Addr.mk b3 2 none) = some (Sl.v v_8) ∧ Spec prog 21 #[(Sl.v v_6), (Sl.v v_8)] F fun v F => ∃ v_9 : Bool, v = (.bool v_9) ∧
 ((v_9 = true →
  ∃ v_13 : Array Value, v_13.size = 3 ∧ F.row (Addr.mk b3 0 none) v_13 ∧
  Spec prog 18 #[(.pointer s_0)] F fun v F => ∃ v_12 : Int, v = (.int .i64 v_12) ∧
  F.row (Addr.mk b3 0 none) v_13 ∧ Spec prog 41 #[(.agg v_13)] F fun v F => ∃ v_14 : Int, v = (.int .i64 v_14) ∧
  R (.bool (decide (v_12 = v_14))) F) ∧
 (v_9 = false →
  R (.bool false) F))
theorem c13 {s_0 : Option Addr} {vm_1 : Array Value} {R : VP} {F : PH} (h : b13 s_0 vm_1 R F) : Spec prog 13 #[(.pointer s_0), (.agg vm_1)] F R := by
 refine spec_of (args := [(.pointer s_0), (.agg vm_1)]) func13 rfl ntmps13 rfl ?_
 unfold b13 at h
 refine cR ?_
 refine s_ef (k_box (cs := vm_1) rfl rfl ?_)
 intro b3 hf_b3
 replace h := atE (h b3 hf_b3)
 refine sR (.bool false) (r_assign rfl rfl) ?_
 refine HL_nil ?_
 refine HC_seq ?_
 refine HC_draw0 (by kernel_rfl) (fun hp => ?_)
 refine gU 0 (.pointer s_0) rfl (fun _ => r_move rfl rfl) hp ?_
 refine gU 2 (.pointer (some (Addr.mk b3 2 none))) rfl (fun _ => w_fieldAddr rfl underlying28 rfl rfl sz26 rfl rfl) hp ?_
 obtain ⟨v_8, hc8, h⟩ := h
 refine gR 3 (Sl.v v_8) rfl (r_load1 rfl rfl underlying26 rfl hc8) hp (fun S3 q3 => ?_)
 replace hp := holdC (i := 3) (q3 _ (r_load1 rfl rfl underlying26 rfl hc8)) hp
 refine RG_eff1 (i := 1) (by kernel_rfl) (g_op (Sp' := [(3, S3)]) rfl rfl (k_call (vs := [(.pointer s_0)]) cb17 (evC rfl evN) (h.mono ?_)))
 clear h; rintro v F ⟨v_6, rfl, h⟩
 obtain ⟨hk_3, h⟩ := h
 refine holdI (holdC (i := 3) (q3 _ (r_load1 rfl rfl underlying26 rfl hk_3)) hold0) (fun hp => ?_)
 refine RG_eff1 (i := 4) (by kernel_rfl) (g_op (Sp' := []) rfl rfl (k_call (vs := [(Sl.v v_6), (Sl.v v_8)]) cb21 (evC rfl (evC rfl evN)) (h.mono ?_)))
 clear h; rintro v F ⟨v_9, rfl, h⟩
 refine holdI hold0 (fun hp => ?_)
 refine gU 5 (.bool v_9) rfl (fun _ => r_move rfl rfl) hp ?_
 by_cases hc : v_9 = true
 replace h := h.1 hc
 refine RG_known (t := 9) (v := .bool true) (congrArg Value.bool hc) ?_
 refine RG_known (t := 10) (v := .bool true) (congrArg Value.bool hc) ?_
 refine gU 6 (.pointer s_0) rfl (fun _ => r_move rfl rfl) hp ?_
 obtain ⟨v_13, hs13, hc13, h⟩ := h
 refine gR 8 (.agg v_13) rfl (w_loadN rfl underlying28 rfl sz28 hs13 hc13) hp (fun S8 q8 => ?_)
 replace hp := holdC (i := 8) (q8 _ (w_loadN rfl underlying28 rfl sz28 hs13 hc13)) hp
 refine RG_eff1 (i := 7) (by kernel_rfl) (g_op (Sp' := [(8, S8)]) rfl rfl (k_call (vs := [(.pointer s_0)]) cb18 (evC rfl evN) (h.mono ?_)))
 clear h; rintro v F ⟨v_12, rfl, h⟩
 obtain ⟨hk_4, h⟩ := h
 refine holdI (holdC (i := 8) (q8 _ (w_loadN rfl underlying28 rfl sz28 hs13 hk_4)) hold0) (fun hp => ?_)
 refine RG_eff1 (i := 9) (by kernel_rfl) (g_op (Sp' := []) rfl rfl (k_call (vs := [(.agg v_13)]) cb41 (evC rfl evN) (h.mono ?_)))
 clear h; rintro v F ⟨v_14, rfl, h⟩
 refine holdI hold0 (fun hp => ?_)
 refine gU 10 (.bool (decide (v_12 = v_14))) rfl (fun _ => w_eql rfl rfl) hp ?_
 refine gU 11 (.bool (decide (v_12 = v_14))) rfl (fun _ => r_pick rfl rfl (fun _ => rfl) (fun h => by cases h)) hp ?_
 refine gU 12 (.bool (decide (v_12 = v_14))) rfl (fun _ => r_assign rfl rfl) hp ?_
 refine RG_done (by kernel_rfl) ?_
 exact HC_ret (rt1 f13 R rfl rfl h)
 replace hc := eq_false_of_ne_true hc; replace h := h.2 hc
 refine RG_known (t := 9) (v := .bool false) (congrArg Value.bool hc) ?_
 refine RG_known (t := 10) (v := .bool false) (congrArg Value.bool hc) ?_
 refine gS 6 rfl hp ?_
 refine gS 7 rfl hp ?_
 refine gS 8 rfl hp ?_
 refine gS 9 rfl hp ?_
 refine gS 10 rfl hp ?_
 refine gU 11 (.bool false) rfl (fun _ => r_pick rfl rfl (fun h => by cases h) (fun _ => rfl)) hp ?_
 refine gU 12 (.bool false) rfl (fun _ => r_assign rfl rfl) hp ?_
 refine RG_done (by kernel_rfl) ?_
 exact HC_ret (rt1 f13 R rfl rfl h)
 /- 14 koine.koinelaw35.run -/
def b14j2 (s_1 : Option Addr) (b9 : Nat) (v_56 : Int) (n_16 : Option Addr) (f_17 : Int) (R : VP) (F : PH) :=
 ∃ n16a_ : Addr, n_16 = some n16a_ ∧ ∃ v_65 : Array Value, v_65.size = 3 ∧ F.row n16a_ v_65 ∧
 ((v_56 = f_17 →
  v_65.size = 3 ∧ (∀ v ∈ v_65.toList, storable v) ∧ ∃ c e, F (Addr.mk b9 0 none).block = some (.cells c e (0, 0)) ∧ (Addr.mk b9 0 none).spot = none ∧ (Addr.mk b9 0 none).off + 3 ≤ c.size ∧
  atF (F.set (Addr.mk b9 0 none).block (.cells (wr c (Addr.mk b9 0 none).off v_65.toList) e)) fun F =>
  ∃ vres_9_4 : Array Value, vres_9_4.size = 3 ∧ F.row (Addr.mk b9 0 none) vres_9_4 ∧ R (.tuple #[(.pointer s_1), (.agg vres_9_4), (.int .i64 v_56), (.bool true)]) F) ∧
 (¬ (v_56 = f_17) →
  v_65.size = 3 ∧ (∀ v ∈ v_65.toList, storable v) ∧ ∃ c e, F (Addr.mk b9 0 none).block = some (.cells c e (0, 0)) ∧ (Addr.mk b9 0 none).spot = none ∧ (Addr.mk b9 0 none).off + 3 ≤ c.size ∧
  atF (F.set (Addr.mk b9 0 none).block (.cells (wr c (Addr.mk b9 0 none).off v_65.toList) e)) fun F =>
  ∃ vres_9_5 : Array Value, vres_9_5.size = 3 ∧ F.row (Addr.mk b9 0 none) vres_9_5 ∧ R (.tuple #[(.pointer s_1), (.agg vres_9_5), (.int .i64 v_56), (.bool (decide (v_56 = 340)))]) F))
abbrev b14J2 (s_1 : Option Addr) (b9 : Nat) (v_56 : Int) (R : VP) (E : En) (F : PH) : Prop := ∃ n_16 : Option Addr, ∃ f_17 : Int, E 1 = (.pointer s_1) ∧ E 9 = (.pointer (some (Addr.mk b9 0 none))) ∧ E 15 = (.int .i64 v_56) ∧ E 16 = (.pointer n_16) ∧ E 17 = (.int .i64 f_17) ∧ b14j2 s_1 b9 v_56 n_16 f_17 R F
def b14j1 (d_0 : Option Addr) (s_1 : Option Addr) (b6 : Nat) (b7 : Nat) (b9 : Nat) (v_35 : Bool) (R : VP) (F : PH) :=
 ((v_35 = true →
  Spec prog 20 #[(.pointer d_0)] F fun v F => ∃ v_40 : Option Addr, ∃ v_40_1 : Int, v = (.tuple #[(.pointer v_40), (.int .i64 v_40_1)]) ∧
  ((v_40_1 ≠ 0 →
   ∃ v_46 : Array Value, v_46.size = 3 ∧ F.row (Addr.mk b6 0 none) v_46 ∧
   v_46.size = 3 ∧ (∀ v ∈ v_46.toList, storable v) ∧ ∃ c e, F (Addr.mk b9 0 none).block = some (.cells c e (0, 0)) ∧ (Addr.mk b9 0 none).spot = none ∧ (Addr.mk b9 0 none).off + 3 ≤ c.size ∧
   atF (F.set (Addr.mk b9 0 none).block (.cells (wr c (Addr.mk b9 0 none).off v_46.toList) e)) fun F =>
   ∃ vres_9_2 : Array Value, vres_9_2.size = 3 ∧ F.row (Addr.mk b9 0 none) vres_9_2 ∧ R (.tuple #[(.pointer s_1), (.agg vres_9_2), (.int .i64 v_40_1), (.bool (decide (v_40_1 = 340)))]) F) ∧
  (¬ (v_40_1 ≠ 0) →
   ∃ v_51 : Array Value, v_51.size = 3 ∧ F.row (Addr.mk b6 0 none) v_51 ∧
   v_51.size = 3 ∧ (∀ v ∈ v_51.toList, storable v) ∧ ∃ c e, F (Addr.mk b9 0 none).block = some (.cells c e (0, 0)) ∧ (Addr.mk b9 0 none).spot = none ∧ (Addr.mk b9 0 none).off + 3 ≤ c.size ∧
   atF (F.set (Addr.mk b9 0 none).block (.cells (wr c (Addr.mk b9 0 none).off v_51.toList) e)) fun F =>
   ∃ vres_9_3 : Array Value, vres_9_3.size = 3 ∧ F.row (Addr.mk b9 0 none) vres_9_3 ∧ R (.tuple #[(.pointer v_40), (.agg vres_9_3), (.int .i64 v_40_1), (.bool true)]) F))) ∧
 (v_35 = false →
  ∃ v_54 : Array Value, v_54.size = 2 ∧ F.row (Addr.mk b7 0 none) v_54 ∧
  Spec prog 22 #[(.agg v_54)] F fun v F => ∃ v_55 : Sl, v = (Sl.v v_55) ∧
  Spec prog 25 #[(.pointer s_1), (Sl.v v_55)] F fun v F => ∃ v_56 : Int, v = (.int .i64 v_56) ∧
  ∃ v_58 : Array Value, v_58.size = 3 ∧ F.row (Addr.mk b6 0 none) v_58 ∧
  ∃ v_59 : Array Value, v_59.size = 2 ∧ F.row (Addr.mk b7 0 none) v_59 ∧
  ((Spec prog 22 #[(.agg v_59)] F fun v F => ∃ v_60 : Sl, v = (Sl.v v_60) ∧
  F.row (Addr.mk b6 0 none) v_58 ∧ ((Spec prog 42 #[(.agg v_58), (Sl.v v_60)] F fun v F => ∃ v_61 : Array Value, ∃ v_61_1 : Int, v = (.tuple #[(.agg v_61), (.int .i64 v_61_1)]) ∧
  ∀ b16, F b16 = none → atF (F.set b16 (.cells (#[.int .i64 0, .int .i64 0, .slice none 0 0]) 28)) fun F =>
  v_61.size = 3 ∧ (∀ v ∈ v_61.toList, storable v) ∧ ∃ c e, F (Addr.mk b16 0 none).block = some (.cells c e (0, 0)) ∧ (Addr.mk b16 0 none).spot = none ∧ (Addr.mk b16 0 none).off + 3 ≤ c.size ∧
  atF (F.set (Addr.mk b16 0 none).block (.cells (wr c (Addr.mk b16 0 none).off v_61.toList) e)) fun F =>
  b14j2 s_1 b9 v_56 (some (Addr.mk b16 0 none)) v_61_1 R F) ∧
  (∀ b16_1, F b16_1 = none → atF (F.set b16_1 (.cells (#[.int .i64 0, .int .i64 0, .slice none 0 0]) 28)) fun F =>
  Spec prog 42 #[(.agg v_58), (Sl.v v_60)] F fun v F => ∃ v_61_2 : Array Value, ∃ v_61_3 : Int, v = (.tuple #[(.agg v_61_2), (.int .i64 v_61_3)]) ∧
  v_61_2.size = 3 ∧ (∀ v ∈ v_61_2.toList, storable v) ∧ ∃ c e, F (Addr.mk b16_1 0 none).block = some (.cells c e (0, 0)) ∧ (Addr.mk b16_1 0 none).spot = none ∧ (Addr.mk b16_1 0 none).off + 3 ≤ c.size ∧
  atF (F.set (Addr.mk b16_1 0 none).block (.cells (wr c (Addr.mk b16_1 0 none).off v_61_2.toList) e)) fun F =>
  b14j2 s_1 b9 v_56 (some (Addr.mk b16_1 0 none)) v_61_3 R F))) ∧
  (∀ b16_2, F b16_2 = none → atF (F.set b16_2 (.cells (#[.int .i64 0, .int .i64 0, .slice none 0 0]) 28)) fun F =>
  Spec prog 22 #[(.agg v_59)] F fun v F => ∃ v_60_1 : Sl, v = (Sl.v v_60_1) ∧
  F.row (Addr.mk b6 0 none) v_58 ∧ Spec prog 42 #[(.agg v_58), (Sl.v v_60_1)] F fun v F => ∃ v_61_4 : Array Value, ∃ v_61_5 : Int, v = (.tuple #[(.agg v_61_4), (.int .i64 v_61_5)]) ∧
  v_61_4.size = 3 ∧ (∀ v ∈ v_61_4.toList, storable v) ∧ ∃ c e, F (Addr.mk b16_2 0 none).block = some (.cells c e (0, 0)) ∧ (Addr.mk b16_2 0 none).spot = none ∧ (Addr.mk b16_2 0 none).off + 3 ≤ c.size ∧
  atF (F.set (Addr.mk b16_2 0 none).block (.cells (wr c (Addr.mk b16_2 0 none).off v_61_4.toList) e)) fun F =>
  b14j2 s_1 b9 v_56 (some (Addr.mk b16_2 0 none)) v_61_5 R F))))
abbrev b14J1 (d_0 : Option Addr) (s_1 : Option Addr) (b6 : Nat) (b7 : Nat) (b9 : Nat) (R : VP) (E : En) (F : PH) : Prop := ∃ v_35 : Bool, E 0 = (.pointer d_0) ∧ E 1 = (.pointer s_1) ∧ E 6 = (.pointer (some (Addr.mk b6 0 none))) ∧ E 7 = (.pointer (some (Addr.mk b7 0 none))) ∧ E 9 = (.pointer (some (Addr.mk b9 0 none))) ∧ E 35 = (.bool v_35) ∧ b14j1 d_0 s_1 b6 b7 b9 v_35 R F
def b14 (d_0 : Option Addr) (s_1 : Option Addr) (vm_2 : Array Value) (x_3 : Array Value) (R : VP) (F : PH) :=
 ∀ b6, F b6 = none → atF (F.set b6 (.cells vm_2 28)) fun F =>
 ∀ b7, F b7 = none → atF (F.set b7 (.cells x_3 38)) fun F =>
 ∀ b9, F b9 = none → atF (F.set b9 (.cells (#[.int .i64 0, .int .i64 0, .slice none 0 0]) 28)) fun F =>
 ∃ v_19 : Int, F.cell (Addr.mk b7 0 none) = some (.int .u8 v_19) ∧
 (((Int.tmod v_19 8) = 5 →
  Spec prog 19 #[(.pointer s_1)] F fun v F => ∃ v_24 : Int, v = (.int .i64 v_24) ∧
  ∃ v_26 : Array Value, v_26.size = 3 ∧ F.row (Addr.mk b6 0 none) v_26 ∧
  Spec prog 35 #[(.agg v_26)] F fun v F => ∃ v_27 : Array Value, v = (.agg v_27) ∧
  ((v_24 = 0 →
   v_27.size = 3 ∧ (∀ v ∈ v_27.toList, storable v) ∧ ∃ c e, F (Addr.mk b9 0 none).block = some (.cells c e (0, 0)) ∧ (Addr.mk b9 0 none).spot = none ∧ (Addr.mk b9 0 none).off + 3 ≤ c.size ∧
   atF (F.set (Addr.mk b9 0 none).block (.cells (wr c (Addr.mk b9 0 none).off v_27.toList) e)) fun F =>
   ∃ vres_9 : Array Value, vres_9.size = 3 ∧ F.row (Addr.mk b9 0 none) vres_9 ∧ R (.tuple #[(.pointer s_1), (.agg vres_9), (.int .i64 v_24), (.bool true)]) F) ∧
  (¬ (v_24 = 0) →
   v_27.size = 3 ∧ (∀ v ∈ v_27.toList, storable v) ∧ ∃ c e, F (Addr.mk b9 0 none).block = some (.cells c e (0, 0)) ∧ (Addr.mk b9 0 none).spot = none ∧ (Addr.mk b9 0 none).off + 3 ≤ c.size ∧
   atF (F.set (Addr.mk b9 0 none).block (.cells (wr c (Addr.mk b9 0 none).off v_27.toList) e)) fun F =>
   ∃ vres_9_1 : Array Value, vres_9_1.size = 3 ∧ F.row (Addr.mk b9 0 none) vres_9_1 ∧ R (.tuple #[(.pointer s_1), (.agg vres_9_1), (.int .i64 v_24), (.bool (decide (v_24 = 340)))]) F))) ∧
 (¬ ((Int.tmod v_19 8) = 5) →
  (((Int.tmod v_19 8) = 6 →
   b14j1 d_0 s_1 b6 b7 b9 (decide ((Int.tmod v_19 8) = 6)) R F) ∧
  (¬ ((Int.tmod v_19 8) = 6) →
   b14j1 d_0 s_1 b6 b7 b9 (decide ((Int.tmod v_19 8) = 7)) R F))))
theorem c14 {d_0 : Option Addr} {s_1 : Option Addr} {vm_2 : Array Value} {x_3 : Array Value} {R : VP} {F : PH} (h : b14 d_0 s_1 vm_2 x_3 R F) : Spec prog 14 #[(.pointer d_0), (.pointer s_1), (.agg vm_2), (.agg x_3)] F R := by
 refine spec_of (args := [(.pointer d_0), (.pointer s_1), (.agg vm_2), (.agg x_3)]) func14 rfl ntmps14 rfl ?_
 unfold b14 at h
 refine cR ?_
 refine s_ef (k_box (cs := vm_2) rfl rfl ?_)
 intro b6 hf_b6
 replace h := atE (h b6 hf_b6)
 refine s_ef (k_box (cs := x_3) rfl rfl ?_)
 intro b7 hf_b7
 replace h := atE (h b7 hf_b7)
 refine sR (.pointer none) (r_assign rfl rfl) ?_
 refine s_ef (k_alloc zr28 ?_)
 intro b9 hf_b9
 replace h := atE (h b9 hf_b9)
 refine sR (.int .i64 0) (r_assign rfl rfl) ?_
 refine sR (.bool false) (r_assign rfl rfl) ?_
 refine HL_nil ?_
 refine HC_seq ?_
 refine cR (sR (.pointer (some (Addr.mk b7 0 none))) (w_fieldAddr rfl underlying38 rfl rfl sz5 rfl rfl) ?_)
 obtain ⟨v_19, hc19, h⟩ := h
 refine sR (.int .u8 v_19) (r_load1 rfl rfl underlying5 rfl hc19) ?_
 refine sR (.int .u8 (Int.tmod v_19 8)) (r_rem rfl rfl rfl (by decide)) ?_
 refine HL_nil ?_
 refine HC_block ?_
 refine cR (sR (.bool (decide ((Int.tmod v_19 8) = 5))) (w_eql rfl rfl) ?_)
 refine sR (.bool (decide ((Int.tmod v_19 8) = 5))) (r_assign rfl rfl) ?_
 refine HL_nil ?_
 refine HC_cond (t := (decide ((Int.tmod v_19 8) = 5))) rfl (fun hc => ?_) (fun hc => ?_)
 replace h := h.1 (of_decide_eq_true hc)
 clear hc
 refine cR (sR (.pointer s_1) (r_move rfl rfl) ?_)
 refine s_ef (k_call (vs := [(.pointer s_1)]) cb19 (evC rfl evN) (h.mono ?_))
 clear h; rintro v F ⟨v_24, rfl, h⟩
 refine sR (.int .i64 v_24) (r_assign rfl rfl) ?_
 refine HL_nil ?_
 refine cR (sR (.pointer s_1) (r_move rfl rfl) ?_)
 obtain ⟨v_26, hs26, hc26, h⟩ := h
 refine sR (.agg v_26) (w_loadN rfl underlying28 rfl sz28 hs26 hc26) ?_
 refine s_ef (k_call (vs := [(.agg v_26)]) cb35 (evC rfl evN) (h.mono ?_))
 clear h; rintro v F ⟨v_27, rfl, h⟩
 refine sR (.int .i64 v_24) (r_move rfl rfl) ?_
 refine sR (.int .i64 v_24) (r_move rfl rfl) ?_
 refine sR (.bool (decide (v_24 = 0))) (w_eql rfl rfl) ?_
 refine sR (.bool (decide (v_24 = 0))) (r_move rfl rfl) ?_
 by_cases hc : v_24 = 0
 replace h := h.1 hc
 refine kN 30 (decide_eq_true hc) ?_
 refine kN 31 (decide_eq_true hc) ?_
 iterate 2 refine s_skip ?_
 refine sR (.bool true) (r_pt rfl rfl) ?_
 refine sR (.pointer s_1) (r_assign rfl rfl) ?_
 refine s_ef0 (k_storeN (vs := v_27) rfl rfl sz28 (by decide) ?_)
 obtain ⟨hz1, hz2, c, e, hz3, hz4, hz5, h⟩ := h
 refine ⟨hz1, hz2, c, e, hz3, hz4, hz5, ?_⟩
 replace h := atE h
 refine sR (.int .i64 v_24) (r_assign rfl rfl) ?_
 refine sR (.bool true) (r_assign rfl rfl) ?_
 refine HL_nil ?_
 obtain ⟨vres_9, hs9, hr9, h⟩ := h
 exact HC_ret (show endQ prog f14 R .ret _ _ from ⟨_, res4 rfl (rv_tmp rfl) (rv_cellN rfl underlying28 rfl sz28 hs9 hr9) (rv_tmp rfl) (rv_tmp rfl), h⟩)
 replace h := h.2 hc
 refine kN 30 (decide_eq_false hc) ?_
 refine kN 31 (decide_eq_false hc) ?_
 refine sR (.int .i64 v_24) (r_move rfl rfl) ?_
 refine sR (.bool (decide (v_24 = 340))) (w_eql rfl rfl) ?_
 refine sR (.bool (decide (v_24 = 340))) (r_pf rfl rfl) ?_
 refine sR (.pointer s_1) (r_assign rfl rfl) ?_
 refine s_ef0 (k_storeN (vs := v_27) rfl rfl sz28 (by decide) ?_)
 obtain ⟨hz1, hz2, c, e, hz3, hz4, hz5, h⟩ := h
 refine ⟨hz1, hz2, c, e, hz3, hz4, hz5, ?_⟩
 replace h := atE h
 refine sR (.int .i64 v_24) (r_assign rfl rfl) ?_
 refine sR (.bool (decide (v_24 = 340))) (r_assign rfl rfl) ?_
 refine HL_nil ?_
 obtain ⟨vres_9_1, hs9, hr9, h⟩ := h
 exact HC_ret (show endQ prog f14 R .ret _ _ from ⟨_, res4 rfl (rv_tmp rfl) (rv_cellN rfl underlying28 rfl sz28 hs9 hr9) (rv_tmp rfl) (rv_tmp rfl), h⟩)
 replace h := h.2 (of_decide_eq_false hc)
 clear hc
 refine HC_seqJ (b14J1 d_0 s_1 b6 b7 b9 R) ?_ ?_
 clear h; rintro E F ⟨v_35, h0, h1, h6, h7, h9, h35, h⟩
 unfold b14j1 at h
 refine HC_cond (t := v_35) h35 (fun hc => ?_) (fun hc => ?_)
 replace h := h.1 hc
 clear hc
 refine cR (sR _ (r_move rfl h0) ?_)
 refine s_ef (k_call (vs := [(.pointer d_0)]) cb20 (evC rfl evN) (h.mono ?_))
 clear h; rintro v F ⟨v_40, v_40_1, rfl, h⟩
 refine sR (.tuple #[(.pointer v_40), (.int .i64 v_40_1)]) (r_move rfl rfl) ?_
 refine sR (.pointer v_40) (r_extract rfl rfl rfl) ?_
 refine sR (.int .i64 v_40_1) (r_extract rfl rfl rfl) ?_
 refine sR (.pointer v_40) (r_assign rfl rfl) ?_
 refine sR (.int .i64 v_40_1) (r_assign rfl rfl) ?_
 refine HL_nil ?_
 refine HC_seq ?_
 refine cR (sR (.int .i64 v_40_1) (r_move rfl rfl) ?_)
 refine sR (.bool (decide (v_40_1 ≠ 0))) (w_neq rfl rfl) ?_
 refine HL_nil ?_
 refine HC_cond (t := (decide (v_40_1 ≠ 0))) rfl (fun hc => ?_) (fun hc => ?_)
 replace h := h.1 (of_decide_eq_true hc)
 clear hc
 refine HC_seq ?_
 refine HC_draw0 (by kernel_rfl) (fun hp => ?_)
 refine gU 0 (.pointer s_1) rfl (fun _ => r_move rfl h1) hp ?_
 obtain ⟨v_46, hs46, hc46, h⟩ := h
 refine gR 1 (.agg v_46) rfl (w_loadN h6 underlying28 rfl sz28 hs46 hc46) hp (fun S1 q1 => ?_)
 replace hp := holdC (i := 1) (q1 _ (w_loadN h6 underlying28 rfl sz28 hs46 hc46)) hp
 refine gU 2 (.int .i64 v_40_1) rfl (fun _ => r_move rfl rfl) hp ?_
 refine gU 3 (.int .i64 v_40_1) rfl (fun _ => r_move rfl rfl) hp ?_
 refine gU 4 (.bool (decide (v_40_1 = 340))) rfl (fun _ => w_eql rfl rfl) hp ?_
 refine gU 5 (.pointer s_1) rfl (fun _ => r_assign rfl rfl) hp ?_
 refine RG_eff1 (i := 6) (by kernel_rfl) (g_op0 (Sp' := []) rfl rfl (k_storeN (vs := v_46) h9 rfl sz28 (by decide) ?_))
 obtain ⟨hz1, hz2, c, e, hz3, hz4, hz5, h⟩ := h
 refine ⟨hz1, hz2, c, e, hz3, hz4, hz5, ?_⟩
 replace h := atE h
 refine holdI hold0 (fun hp => ?_)
 refine gU 7 (.int .i64 v_40_1) rfl (fun _ => r_assign rfl rfl) hp ?_
 refine gU 8 (.bool (decide (v_40_1 = 340))) rfl (fun _ => r_assign rfl rfl) hp ?_
 refine RG_done (by kernel_rfl) ?_
 obtain ⟨vres_9_2, hs9, hr9, h⟩ := h
 exact HC_ret (show endQ prog f14 R .ret _ _ from ⟨_, res4 rfl (rv_tmp rfl) (rv_cellN h9 underlying28 rfl sz28 hs9 hr9) (rv_tmp rfl) (rv_tmp rfl), h⟩)
 replace h := h.2 (of_decide_eq_false hc)
 clear hc
 refine HC_skip ?_
 refine HC_seq ?_
 refine HC_draw0 (by kernel_rfl) (fun hp => ?_)
 refine gU 0 (.pointer v_40) rfl (fun _ => r_move rfl rfl) hp ?_
 obtain ⟨v_51, hs51, hc51, h⟩ := h
 refine gR 1 (.agg v_51) rfl (w_loadN h6 underlying28 rfl sz28 hs51 hc51) hp (fun S1 q1 => ?_)
 replace hp := holdC (i := 1) (q1 _ (w_loadN h6 underlying28 rfl sz28 hs51 hc51)) hp
 refine gU 2 (.int .i64 v_40_1) rfl (fun _ => r_move rfl rfl) hp ?_
 refine gU 3 (.pointer v_40) rfl (fun _ => r_assign rfl rfl) hp ?_
 refine RG_eff1 (i := 4) (by kernel_rfl) (g_op0 (Sp' := []) rfl rfl (k_storeN (vs := v_51) h9 rfl sz28 (by decide) ?_))
 obtain ⟨hz1, hz2, c, e, hz3, hz4, hz5, h⟩ := h
 refine ⟨hz1, hz2, c, e, hz3, hz4, hz5, ?_⟩
 replace h := atE h
 refine holdI hold0 (fun hp => ?_)
 refine gU 5 (.int .i64 v_40_1) rfl (fun _ => r_assign rfl rfl) hp ?_
 refine gU 6 (.bool true) rfl (fun _ => r_assign rfl rfl) hp ?_
 refine RG_done (by kernel_rfl) ?_
 obtain ⟨vres_9_3, hs9, hr9, h⟩ := h
 exact HC_ret (show endQ prog f14 R .ret _ _ from ⟨_, res4 rfl (rv_tmp rfl) (rv_cellN h9 underlying28 rfl sz28 hs9 hr9) (rv_tmp rfl) (rv_tmp rfl), h⟩)
 replace h := h.2 hc
 clear hc
 refine HC_skip ?_
 refine cR (sR _ (r_move rfl h1) ?_)
 obtain ⟨v_54, hs54, hc54, h⟩ := h
 refine sR (.agg v_54) (w_loadN h7 underlying38 rfl sz38 hs54 hc54) ?_
 refine s_ef (k_call (vs := [(.agg v_54)]) cb22 (evC rfl evN) (h.mono ?_))
 clear h; rintro v F ⟨v_55, rfl, h⟩
 refine s_ef (k_call (vs := [(.pointer s_1), (Sl.v v_55)]) cb25 (evC rfl (evC rfl evN)) (h.mono ?_))
 clear h; rintro v F ⟨v_56, rfl, h⟩
 refine sR (.int .i64 v_56) (r_assign rfl rfl) ?_
 refine HL_nil ?_
 refine HC_seqJ (b14J2 s_1 b9 v_56 R) ?_ ?_
 clear h; rintro E F ⟨n_16, f_17, h1, h9, h15, h16, h17, h⟩
 unfold b14j2 at h
 refine HC_seq ?_
 refine HC_draw0 (by kernel_rfl) (fun hp => ?_)
 refine gU 0 (.pointer s_1) rfl (fun _ => r_move rfl h1) hp ?_
 obtain ⟨n16a_, rfl, h⟩ := h
 obtain ⟨v_65, hs65, hc65, h⟩ := h
 refine gR 1 (.agg v_65) rfl (w_loadN h16 underlying28 rfl sz28 hs65 hc65) hp (fun S1 q1 => ?_)
 replace hp := holdC (i := 1) (q1 _ (w_loadN h16 underlying28 rfl sz28 hs65 hc65)) hp
 refine gU 2 (.int .i64 v_56) rfl (fun _ => r_move rfl h15) hp ?_
 refine gU 3 (.int .i64 v_56) rfl (fun _ => r_move rfl h15) hp ?_
 refine gU 4 (.int .i64 f_17) rfl (fun _ => r_move rfl h17) hp ?_
 refine gU 5 (.bool (decide (v_56 = f_17))) rfl (fun _ => w_eql rfl rfl) hp ?_
 refine gU 6 (.bool (decide (v_56 = f_17))) rfl (fun _ => r_move rfl rfl) hp ?_
 by_cases hc : v_56 = f_17
 replace h := h.1 hc
 refine RG_known (t := 69) (v := .bool true) (congrArg Value.bool (decide_eq_true hc)) ?_
 refine RG_known (t := 70) (v := .bool true) (congrArg Value.bool (decide_eq_true hc)) ?_
 refine gS 7 rfl hp ?_
 refine gS 8 rfl hp ?_
 refine gU 9 (.bool true) rfl (fun _ => r_pick rfl rfl (fun _ => rfl) (fun h => by cases h)) hp ?_
 refine gU 10 (.pointer s_1) rfl (fun _ => r_assign rfl rfl) hp ?_
 refine RG_eff1 (i := 11) (by kernel_rfl) (g_op0 (Sp' := []) rfl rfl (k_storeN (vs := v_65) h9 rfl sz28 (by decide) ?_))
 obtain ⟨hz1, hz2, c, e, hz3, hz4, hz5, h⟩ := h
 refine ⟨hz1, hz2, c, e, hz3, hz4, hz5, ?_⟩
 replace h := atE h
 refine holdI hold0 (fun hp => ?_)
 refine gU 12 (.int .i64 v_56) rfl (fun _ => r_assign rfl rfl) hp ?_
 refine gU 13 (.bool true) rfl (fun _ => r_assign rfl rfl) hp ?_
 refine RG_done (by kernel_rfl) ?_
 obtain ⟨vres_9_4, hs9, hr9, h⟩ := h
 exact HC_ret (show endQ prog f14 R .ret _ _ from ⟨_, res4 rfl (rv_tmp rfl) (rv_cellN h9 underlying28 rfl sz28 hs9 hr9) (rv_tmp rfl) (rv_tmp rfl), h⟩)
 replace h := h.2 hc
 refine RG_known (t := 69) (v := .bool false) (congrArg Value.bool (decide_eq_false hc)) ?_
 refine RG_known (t := 70) (v := .bool false) (congrArg Value.bool (decide_eq_false hc)) ?_
 refine gU 7 (.int .i64 v_56) rfl (fun _ => r_move rfl h15) hp ?_
 refine gU 8 (.bool (decide (v_56 = 340))) rfl (fun _ => w_eql rfl rfl) hp ?_
 refine gU 9 (.bool (decide (v_56 = 340))) rfl (fun _ => r_pick rfl rfl (fun h => by cases h) (fun _ => rfl)) hp ?_
 refine gU 10 (.pointer s_1) rfl (fun _ => r_assign rfl rfl) hp ?_
 refine RG_eff1 (i := 11) (by kernel_rfl) (g_op0 (Sp' := []) rfl rfl (k_storeN (vs := v_65) h9 rfl sz28 (by decide) ?_))
 obtain ⟨hz1, hz2, c, e, hz3, hz4, hz5, h⟩ := h
 refine ⟨hz1, hz2, c, e, hz3, hz4, hz5, ?_⟩
 replace h := atE h
 refine holdI hold0 (fun hp => ?_)
 refine gU 12 (.int .i64 v_56) rfl (fun _ => r_assign rfl rfl) hp ?_
 refine gU 13 (.bool (decide (v_56 = 340))) rfl (fun _ => r_assign rfl rfl) hp ?_
 refine RG_done (by kernel_rfl) ?_
 obtain ⟨vres_9_5, hs9, hr9, h⟩ := h
 exact HC_ret (show endQ prog f14 R .ret _ _ from ⟨_, res4 rfl (rv_tmp rfl) (rv_cellN h9 underlying28 rfl sz28 hs9 hr9) (rv_tmp rfl) (rv_tmp rfl), h⟩)
 refine HC_draw0 (by kernel_rfl) (fun hp => ?_)
 obtain ⟨v_58, hs58, hc58, h⟩ := h
 refine gR 0 (.agg v_58) rfl (w_loadN h6 underlying28 rfl sz28 hs58 hc58) hp (fun S0 q0 => ?_)
 replace hp := holdC (i := 0) (q0 _ (w_loadN h6 underlying28 rfl sz28 hs58 hc58)) hp
 obtain ⟨v_59, hs59, hc59, h⟩ := h
 refine gR 1 (.agg v_59) rfl (w_loadN h7 underlying38 rfl sz38 hs59 hc59) hp (fun S1 q1 => ?_)
 replace hp := holdC (i := 1) (q1 _ (w_loadN h7 underlying38 rfl sz38 hs59 hc59)) hp
 refine RG_eff (rs := [2, 7]) (by kernel_rfl) rfl ?_
 obtain ⟨ha0, ha1⟩ := h
 simp only [List.mem_cons, List.not_mem_nil, or_false, forall_eq_or_imp, forall_eq]
 refine ⟨?_, ?_⟩
 have h := ha0; clear ha0 ha1
 refine g_op (Sp' := [(0, S0)]) rfl rfl (k_call (vs := [(.agg v_59)]) cb22 (evC rfl evN) (h.mono ?_))
 clear h; rintro v F ⟨v_60, rfl, h⟩
 obtain ⟨hk_3, h⟩ := h
 refine holdI (holdC (i := 0) (q0 _ (w_loadN h6 underlying28 rfl sz28 hs58 hk_3)) hold0) (fun hp => ?_)
 refine RG_eff (rs := [3, 7]) (by kernel_rfl) rfl ?_
 obtain ⟨ha0, ha1⟩ := h
 simp only [List.mem_cons, List.not_mem_nil, or_false, forall_eq_or_imp, forall_eq]
 refine ⟨?_, ?_⟩
 have h := ha0; clear ha0 ha1
 refine g_op (Sp' := []) rfl rfl (k_call (vs := [(.agg v_58), (Sl.v v_60)]) cb42 (evC rfl (evC rfl evN)) (h.mono ?_))
 clear h; rintro v F ⟨v_61, v_61_1, rfl, h⟩
 refine holdI hold0 (fun hp => ?_)
 refine gU 4 (.tuple #[(.agg v_61), (.int .i64 v_61_1)]) rfl (fun _ => r_move rfl rfl) hp ?_
 refine gU 5 (.agg v_61) rfl (fun _ => r_extract rfl rfl rfl) hp ?_
 refine gU 6 (.int .i64 v_61_1) rfl (fun _ => r_extract rfl rfl rfl) hp ?_
 refine RG_eff1 (i := 7) (by kernel_rfl) (g_op (Sp' := []) rfl rfl (k_alloc zr28 ?_))
 intro b16 hf_b16
 replace h := atE (h b16 hf_b16)
 refine holdI hold0 (fun hp => ?_)
 refine RG_eff1 (i := 8) (by kernel_rfl) (g_op0 (Sp' := []) rfl rfl (k_storeN (vs := v_61) rfl rfl sz28 (by decide) ?_))
 obtain ⟨hz1, hz2, c, e, hz3, hz4, hz5, h⟩ := h
 refine ⟨hz1, hz2, c, e, hz3, hz4, hz5, ?_⟩
 replace h := atE h
 refine holdI hold0 (fun hp => ?_)
 refine gU 9 (.int .i64 v_61_1) rfl (fun _ => r_assign rfl rfl) hp ?_
 refine RG_done (by kernel_rfl) ?_
 show b14J2 s_1 b9 v_56 R _ _
 exact ⟨_, _, h1, h9, rfl, rfl, rfl, h⟩
 have h := ha1; clear ha0 ha1
 refine g_op (Sp' := [(0, S0)]) rfl rfl (k_alloc zr28 ?_)
 intro b16_1 hf_b16_1
 replace h := atE (h b16_1 hf_b16_1)
 refine holdI (holdC (i := 0) (q0 _ (w_loadN h6 underlying28 rfl sz28 hs58 (row_set_fresh hf_b16_1 hk_3))) hold0) (fun hp => ?_)
 refine RG_eff1 (i := 3) (by kernel_rfl) (g_op (Sp' := []) rfl rfl (k_call (vs := [(.agg v_58), (Sl.v v_60)]) cb42 (evC rfl (evC rfl evN)) (h.mono ?_)))
 clear h; rintro v F ⟨v_61_2, v_61_3, rfl, h⟩
 refine holdI hold0 (fun hp => ?_)
 refine gU 4 (.tuple #[(.agg v_61_2), (.int .i64 v_61_3)]) rfl (fun _ => r_move rfl rfl) hp ?_
 refine gU 5 (.agg v_61_2) rfl (fun _ => r_extract rfl rfl rfl) hp ?_
 refine gU 6 (.int .i64 v_61_3) rfl (fun _ => r_extract rfl rfl rfl) hp ?_
 refine RG_eff1 (i := 8) (by kernel_rfl) (g_op0 (Sp' := []) rfl rfl (k_storeN (vs := v_61_2) rfl rfl sz28 (by decide) ?_))
 obtain ⟨hz1, hz2, c, e, hz3, hz4, hz5, h⟩ := h
 refine ⟨hz1, hz2, c, e, hz3, hz4, hz5, ?_⟩
 replace h := atE h
 refine holdI hold0 (fun hp => ?_)
 refine gU 9 (.int .i64 v_61_3) rfl (fun _ => r_assign rfl rfl) hp ?_
 refine RG_done (by kernel_rfl) ?_
 show b14J2 s_1 b9 v_56 R _ _
 exact ⟨_, _, h1, h9, rfl, rfl, rfl, h⟩
 have h := ha1; clear ha0 ha1
 refine g_op (Sp' := [(1, S1), (0, S0)]) rfl rfl (k_alloc zr28 ?_)
 intro b16_2 hf_b16_2
 replace h := atE (h b16_2 hf_b16_2)
 refine holdI (holdC (i := 1) (q1 _ (w_loadN h7 underlying38 rfl sz38 hs59 (row_set_fresh hf_b16_2 hc59))) (holdC (i := 0) (q0 _ (w_loadN h6 underlying28 rfl sz28 hs58 (row_set_fresh hf_b16_2 hc58))) hold0)) (fun hp => ?_)
 refine RG_eff1 (i := 2) (by kernel_rfl) (g_op (Sp' := [(0, S0)]) rfl rfl (k_call (vs := [(.agg v_59)]) cb22 (evC rfl evN) (h.mono ?_)))
 clear h; rintro v F ⟨v_60_1, rfl, h⟩
 obtain ⟨hk_4, h⟩ := h
 refine holdI (holdC (i := 0) (q0 _ (w_loadN h6 underlying28 rfl sz28 hs58 hk_4)) hold0) (fun hp => ?_)
 refine RG_eff1 (i := 3) (by kernel_rfl) (g_op (Sp' := []) rfl rfl (k_call (vs := [(.agg v_58), (Sl.v v_60_1)]) cb42 (evC rfl (evC rfl evN)) (h.mono ?_)))
 clear h; rintro v F ⟨v_61_4, v_61_5, rfl, h⟩
 refine holdI hold0 (fun hp => ?_)
 refine gU 4 (.tuple #[(.agg v_61_4), (.int .i64 v_61_5)]) rfl (fun _ => r_move rfl rfl) hp ?_
 refine gU 5 (.agg v_61_4) rfl (fun _ => r_extract rfl rfl rfl) hp ?_
 refine gU 6 (.int .i64 v_61_5) rfl (fun _ => r_extract rfl rfl rfl) hp ?_
 refine RG_eff1 (i := 8) (by kernel_rfl) (g_op0 (Sp' := []) rfl rfl (k_storeN (vs := v_61_4) rfl rfl sz28 (by decide) ?_))
 obtain ⟨hz1, hz2, c, e, hz3, hz4, hz5, h⟩ := h
 refine ⟨hz1, hz2, c, e, hz3, hz4, hz5, ?_⟩
 replace h := atE h
 refine holdI hold0 (fun hp => ?_)
 refine gU 9 (.int .i64 v_61_5) rfl (fun _ => r_assign rfl rfl) hp ?_
 refine RG_done (by kernel_rfl) ?_
 show b14J2 s_1 b9 v_56 R _ _
 exact ⟨_, _, h1, h9, rfl, rfl, rfl, h⟩
 refine cR (sR (.bool (decide ((Int.tmod v_19 8) = 6))) (w_eql rfl rfl) ?_)
 refine sR (.bool (decide ((Int.tmod v_19 8) = 6))) (r_assign rfl rfl) ?_
 refine HL_nil ?_
 refine HC_cond (t := (decide ((Int.tmod v_19 8) = 6))) rfl (fun hc => ?_) (fun hc => ?_)
 replace h := h.1 (of_decide_eq_true hc)
 clear hc
 refine HC_skip ?_
 show b14J1 d_0 s_1 b6 b7 b9 R _ _
 exact ⟨_, rfl, rfl, rfl, rfl, rfl, rfl, h⟩
 replace h := h.2 (of_decide_eq_false hc)
 clear hc
 refine HC_region ?_
 refine sR (.bool (decide ((Int.tmod v_19 8) = 7))) (w_eql rfl rfl) ?_
 refine sR (.bool (decide ((Int.tmod v_19 8) = 7))) (r_assign rfl rfl) ?_
 refine HL_nil ?_
 show b14J1 d_0 s_1 b6 b7 b9 R _ _
 exact ⟨_, rfl, rfl, rfl, rfl, rfl, rfl, h⟩
 /- 17 koine.koinelaw35.contents -/
def b17j1 (out_3 : Sl) (R : VP) (F : PH) :=
 R (Sl.v out_3) F
abbrev b17J1 (R : VP) (E : En) (F : PH) : Prop := ∃ out_3 : Sl, E 3 = (Sl.v out_3) ∧ b17j1 out_3 R F
def b17j2 (N1 : Sl → Int → PH → Prop) (s_0 : Option Addr) (out_3_1 : Sl) (v_10 : Sl) (i_5 : Int) (v_6 : Sl) (R : VP) (F : PH) :=
 ∃ a31_ : Addr, v_10.base = some a31_ ∧ 0 ≤ i_5 ∧ i_5 < (v_10.len : Int) ∧
 ∃ v_32 : ByteArray, F.cell (Addr.add a31_ (Int.toNat i_5 * 1)) = some (.string v_32) ∧
 (#[(.string v_32), (Sl.v v_6)] : Array Value).size = 2 ∧ ∀ b35, F b35 = none → atF (F.set b35 (.cells (#[(.string v_32), (Sl.v v_6)] : Array Value) 41)) fun F =>
 runs prog (Builtin.append_ #[26, 26] 26 #[(Sl.v out_3_1), (Sl.v (Sl.mk (some (Addr.mk b35 0 none)) 1 1))]) F fun v F => ∃ v_36 : Sl, v = (Sl.v v_36) ∧
 N1 v_36 (IntKind.i64.wrap (i_5 + 1)) F
abbrev b17J2 (N1 : Sl → Int → PH → Prop) (s_0 : Option Addr) (out_3_1 : Sl) (v_10 : Sl) (i_5 : Int) (R : VP) (E : En) (F : PH) : Prop := ∃ v_6 : Sl, E 0 = (.pointer s_0) ∧ E 3 = (Sl.v out_3_1) ∧ E 4 = (Sl.v v_10) ∧ E 5 = (.int .i64 i_5) ∧ E 6 = (Sl.v v_6) ∧ b17j2 N1 s_0 out_3_1 v_10 i_5 v_6 R F
def b17L1 (N1 : Sl → Int → PH → Prop) (s_0 : Option Addr) (v_10 : Sl) (R : VP) (out_3_1 : Sl) (i_5 : Int) (F : PH) :=
 ((i_5 < (v_10.len : Int) →
  ∃ a21_ : Addr, v_10.base = some a21_ ∧ 0 ≤ i_5 ∧ i_5 < (v_10.len : Int) ∧
  ∃ v_22 : ByteArray, F.cell (Addr.add a21_ (Int.toNat i_5 * 1)) = some (.string v_22) ∧
  Spec prog 16 #[(.pointer s_0), (.string v_22)] F fun v F => ∃ v_23 : Sl, ∃ v_23_1 : Bool, v = (.tuple #[(Sl.v v_23), (.bool v_23_1)]) ∧
  (((!v_23_1) = true →
   b17j2 N1 s_0 out_3_1 v_10 i_5 Sl.nil R F) ∧
  ((!v_23_1) = false →
   b17j2 N1 s_0 out_3_1 v_10 i_5 v_23 R F))) ∧
 (¬ (i_5 < (v_10.len : Int)) →
  b17j1 out_3_1 R F))
def b17 (s_0 : Option Addr) (R : VP) (F : PH) :=
 ∀ b8, F b8 = none → atF (F.set b8 (.cells #[] 41)) fun F =>
 Spec prog 31 #[(.pointer s_0)] F fun v F => ∃ v_10 : Sl, v = (Sl.v v_10) ∧
 (∃ (I1 : Nat → Sl → Int → PH → Prop) (m1 : Nat), I1 m1 (Sl.mk (some (Addr.mk b8 0 none)) 0 0) 0 F ∧ ∀ m1 out_3_1 i_5 F, I1 m1 out_3_1 i_5 F →
  b17L1 (nx2 I1 m1) s_0 v_10 R out_3_1 i_5 F)
theorem c17 {s_0 : Option Addr} {R : VP} {F : PH} (h : b17 s_0 R F) : Spec prog 17 #[(.pointer s_0)] F R := by
 refine spec_of (args := [(.pointer s_0)]) func17 rfl ntmps17 rfl ?_
 unfold b17 at h
 refine cR (sR (Sl.v Sl.nil) (r_assign rfl rfl) ?_)
 refine HL_nil ?_
 refine cR ?_
 refine s_ef (k_buildSlice (cells := #[]) underlying26 sz41 (by decide) zr41 ((zc_flat _ rfl _).trans (rfl : _ = (#[] : Array Value))) evPN (fillN rfl) rfl ?_)
 intro b8 hf_b8
 replace h := atE (h b8 hf_b8)
 refine sR (Sl.v (Sl.mk (some (Addr.mk b8 0 none)) 0 0)) (r_assign rfl rfl) ?_
 refine HL_nil ?_
 refine cR (sR (.pointer s_0) (r_move rfl rfl) ?_)
 refine s_ef (k_call (vs := [(.pointer s_0)]) cb31 (evC rfl evN) (h.mono ?_))
 clear h; rintro v F ⟨v_10, rfl, h⟩
 refine sR (Sl.v v_10) (r_assign rfl rfl) ?_
 refine HL_nil ?_
 refine HC_seqJ (b17J1 R) ?_ ?_
 clear h; rintro E F ⟨out_3, h3, h⟩
 unfold b17j1 at h
 refine cR (sR _ (r_move rfl h3) ?_)
 refine sR (Sl.v out_3) (r_assign rfl rfl) ?_
 exact HL_nil (HC_ret (rt1 f17 R rfl rfl h))
 refine cR (sR (.int .i64 0) (r_assign rfl rfl) ?_)
 refine HL_nil ?_
 refine HC_block ?_
 obtain ⟨I1, m1, hI0, hr⟩ := h
 refine HC_loop (fun m1 E F => ∃ out_3_1 : Sl, ∃ i_5 : Int, E 0 = (.pointer s_0) ∧ E 3 = (Sl.v out_3_1) ∧ E 4 = (Sl.v v_10) ∧ E 5 = (.int .i64 i_5) ∧ I1 m1 out_3_1 i_5 F) m1 ⟨_, _, rfl, rfl, rfl, rfl, hI0⟩ ?_
 clear hI0; rintro m1 E F ⟨out_3_1, i_5, h0, h3, h4, h5, hI⟩
 have h := hr m1 out_3_1 i_5 F hI
 clear hr hI
 unfold b17L1 at h
 refine HC_seq ?_
 refine cR (sR _ (r_move rfl h5) ?_)
 refine sR _ (r_move rfl h4) ?_
 refine sR (.int .i64 (v_10.len : Int)) (r_lenSl rfl rfl underlying62) ?_
 refine sR (.bool (decide (i_5 < (v_10.len : Int)))) (r_lss rfl rfl rfl) ?_
 refine HL_nil ?_
 refine HC_cond (t := (decide (i_5 < (v_10.len : Int)))) rfl (fun hc => ?_) (fun hc => ?_)
 replace h := h.1 (of_decide_eq_true hc)
 clear hc
 refine HC_skip ?_
 refine HC_seq ?_
 refine HC_block ?_
 refine cR (sR _ (r_move rfl h0) ?_)
 refine sR _ (r_move rfl h4) ?_
 refine sR _ (r_move rfl h5) ?_
 obtain ⟨a21_, hb21, hl21, hu21, h⟩ := h
 refine sR (.pointer (some (Addr.add a21_ (Int.toNat i_5 * 1)))) (w_indexAddr rfl rfl underlying62 sz9 hb21 hl21 hu21) ?_
 obtain ⟨v_22, hc22, h⟩ := h
 refine sR (.string v_22) (r_load1 rfl rfl underlying9 rfl hc22) ?_
 refine s_ef (k_call (vs := [(.pointer s_0), (.string v_22)]) cb16 (evC rfl (evC rfl evN)) (h.mono ?_))
 clear h; rintro v F ⟨v_23, v_23_1, rfl, h⟩
 refine sR (.tuple #[(Sl.v v_23), (.bool v_23_1)]) (r_move rfl rfl) ?_
 refine sR (Sl.v v_23) (r_extract rfl rfl rfl) ?_
 refine sR (.bool v_23_1) (r_extract rfl rfl rfl) ?_
 refine sR (Sl.v v_23) (r_assign rfl rfl) ?_
 refine sR (.bool v_23_1) (r_assign rfl rfl) ?_
 refine HL_nil ?_
 refine HC_seqJ (b17J2 (nx2 I1 m1) s_0 out_3_1 v_10 i_5 R) ?_ ?_
 clear h; rintro E F ⟨v_6, h0, h3, h4, h5, h6, h⟩
 unfold b17j2 at h
 refine HC_region ?_
 refine sR _ (r_move rfl h3) ?_
 refine sR _ (r_move rfl h4) ?_
 refine sR _ (r_move rfl h5) ?_
 obtain ⟨a31_, hb31, hl31, hu31, h⟩ := h
 refine sR (.pointer (some (Addr.add a31_ (Int.toNat i_5 * 1)))) (w_indexAddr rfl rfl underlying62 sz9 hb31 hl31 hu31) ?_
 obtain ⟨v_32, hc32, h⟩ := h
 refine sR (.string v_32) (r_load1 rfl rfl underlying9 rfl hc32) ?_
 refine sR _ (r_move rfl h6) ?_
 refine sR (.agg (#[(.string v_32), (Sl.v v_6)] : Array Value)) (w_buildStruct (cells := #[(.string v_32), (Sl.v v_6)]) underlying41 zr41 kf41 (evPC rfl (evPC rfl evPN)) (fill1 (place_of rfl rfl sz9) rfl rfl (fill1 (place_of rfl rfl sz39) rfl rfl (fillN rfl)))) ?_
 obtain ⟨hz35, h⟩ := h
 refine s_ef (k_buildSlice (cells := (#[(.string v_32), (Sl.v v_6)] : Array Value)) underlying26 sz41 (by decide) zr41 rfl (evPC rfl evPN) (fillWhole hz35 rfl rfl) rfl ?_)
 intro b35 hf_b35
 replace h := atE (h b35 hf_b35)
 refine s_ef (k_append rfl rfl (runs_mono _ _ h ?_))
 clear h; rintro v F ⟨v_36, rfl, h⟩
 refine sR (Sl.v v_36) (r_assign rfl rfl) ?_
 refine HL_nil ?_
 refine HC_region ?_
 refine sR _ (r_move rfl h5) ?_
 refine sR (.int .i64 (IntKind.i64.wrap (i_5 + 1))) (r_add rfl rfl rfl) ?_
 refine sR (.int .i64 (IntKind.i64.wrap (i_5 + 1))) (r_assign rfl rfl) ?_
 refine HL_nil ?_
 obtain ⟨m', hm, h⟩ := h
 exact ⟨m', hm, _, _, h0, rfl, h4, rfl, h⟩
 refine cR (sR (.bool v_23_1) (r_move rfl rfl) ?_)
 refine sR (.bool (!v_23_1)) (r_not rfl rfl) ?_
 refine HL_nil ?_
 refine HC_cond (t := (!v_23_1)) rfl (fun hc => ?_) (fun hc => ?_)
 replace h := h.1 hc
 clear hc
 refine HC_region ?_
 refine sR (Sl.v Sl.nil) (r_assign rfl rfl) ?_
 refine HL_nil ?_
 show b17J2 (nx2 I1 m1) s_0 out_3_1 v_10 i_5 R _ _
 exact ⟨_, h0, h3, h4, h5, rfl, h⟩
 replace h := h.2 hc
 clear hc
 refine HC_skip ?_
 show b17J2 (nx2 I1 m1) s_0 out_3_1 v_10 i_5 R _ _
 exact ⟨_, h0, h3, h4, h5, rfl, h⟩
 replace h := h.2 (of_decide_eq_false hc)
 clear hc
 refine HC_exit ?_
 show b17J1 R _ _
 exact ⟨_, h3, h⟩
 /- 26 koine.koinelaw35.twice -/
def b26j1 (R : VP) (F : PH) :=
 R (.bool false) F
def b26L1 (N1 : Int → PH → Prop) (l_0 : Sl) (R : VP) (i_3 : Int) (F : PH) :=
 ((i_3 < (l_0.len : Int) →
  0 ≤ i_3 ∧ 0 ≤ (Int.toNat i_3) ∧ (Int.toNat i_3) ≤ l_0.cap ∧ 
  ∃ a15_ : Addr, l_0.base = some a15_ ∧ 0 ≤ i_3 ∧ i_3 < (l_0.len : Int) ∧
  ∃ v_17 : ByteArray, F.cell (Addr.add a15_ (Int.toNat i_3 * 2)) = some (.string v_17) ∧
  Spec prog 27 #[(Sl.v (Sl.cut l_0 2 0 (Int.toNat i_3) l_0.cap)), (.string v_17)] F fun v F => ∃ v_18 : Bool, v = (.bool v_18) ∧
  ((v_18 = true →
   R (.bool true) F) ∧
  (v_18 = false →
   N1 (IntKind.i64.wrap (i_3 + 1)) F))) ∧
 (¬ (i_3 < (l_0.len : Int)) →
  b26j1 R F))
def b26 (l_0 : Sl) (R : VP) (F : PH) :=
 (∃ (I1 : Nat → Int → PH → Prop) (m1 : Nat), I1 m1 0 F ∧ ∀ m1 i_3 F, I1 m1 i_3 F →
  b26L1 (nx1 I1 m1) l_0 R i_3 F)
def b33j1 (out_3 : Sl) (R : VP) (F : PH) :=
 R (Sl.v out_3) F
abbrev b33J1 (R : VP) (E : En) (F : PH) : Prop := ∃ out_3 : Sl, E 3 = (Sl.v out_3) ∧ b33j1 out_3 R F
def b33j2 (N1 : Sl → Int → PH → Prop) (l_0 : Sl) (out_3_1 : Sl) (i_4 : Int) (k_5 : Int) (R : VP) (F : PH) :=
 ∀ b26, F b26 = none → atF (F.set b26 (.cells #[(.int .i64 k_5)] 3)) fun F =>
 runs prog (Builtin.append_ #[68, 68] 68 #[(Sl.v out_3_1), (Sl.v (Sl.mk (some (Addr.mk b26 0 none)) 1 1))]) F fun v F => ∃ v_27 : Sl, v = (Sl.v v_27) ∧
 N1 v_27 (IntKind.i64.wrap (i_4 + 1)) F
abbrev b33J2 (N1 : Sl → Int → PH → Prop) (l_0 : Sl) (out_3_1 : Sl) (i_4 : Int) (R : VP) (E : En) (F : PH) : Prop := ∃ k_5 : Int, E 0 = (Sl.v l_0) ∧ E 3 = (Sl.v out_3_1) ∧ E 4 = (.int .i64 i_4) ∧ E 5 = (.int .i64 k_5) ∧ b33j2 N1 l_0 out_3_1 i_4 k_5 R F
def b33L1 (N1 : Sl → Int → PH → Prop) (l_0 : Sl) (R : VP) (out_3_1 : Sl) (i_4 : Int) (F : PH) :=
 ((i_4 < (l_0.len : Int) →
  ∃ a15_ : Addr, l_0.base = some a15_ ∧ 0 ≤ i_4 ∧ i_4 < (l_0.len : Int) ∧
  ∃ v_16 : Int, F.cell (Addr.add a15_ (Int.toNat i_4 * 1)) = some (.int .u8 v_16) ∧
  (((64 : Int) < (IntKind.i64.wrap (Int.tmod v_16 96)) →
   b33j2 N1 l_0 out_3_1 i_4 (IntKind.i64.wrap (64 * (Int.tmod (IntKind.i64.wrap (Int.tmod v_16 96)) 2))) R F) ∧
  (¬ ((64 : Int) < (IntKind.i64.wrap (Int.tmod v_16 96))) →
   b33j2 N1 l_0 out_3_1 i_4 (IntKind.i64.wrap (Int.tmod v_16 96)) R F))) ∧
 (¬ (i_4 < (l_0.len : Int)) →
  b33j1 out_3_1 R F))
def b33 (l_0 : Sl) (R : VP) (F : PH) :=
 ∀ b6, F b6 = none → atF (F.set b6 (.cells #[] 3)) fun F =>
 (∃ (I1 : Nat → Sl → Int → PH → Prop) (m1 : Nat), I1 m1 (Sl.mk (some (Addr.mk b6 0 none)) 0 0) 0 F ∧ ∀ m1 out_3_1 i_4 F, I1 m1 out_3_1 i_4 F →
  b33L1 (nx2 I1 m1) l_0 R out_3_1 i_4 F)
theorem c33 {l_0 : Sl} {R : VP} {F : PH} (h : b33 l_0 R F) : Spec prog 33 #[(Sl.v l_0)] F R := by
 refine spec_of (args := [(Sl.v l_0)]) func33 rfl ntmps33 rfl ?_
 unfold b33 at h
 refine cR (sR (Sl.v Sl.nil) (r_assign rfl rfl) ?_)
 refine HL_nil ?_
 refine cR ?_
 refine s_ef (k_buildSeq (l := []) underlying68 sz3 (by decide) zr3 rfl rfl trivial evPN ?_)
 intro b6 hf_b6
 replace h := atE (h b6 hf_b6)
 refine sR (Sl.v (Sl.mk (some (Addr.mk b6 0 none)) 0 0)) (r_assign rfl rfl) ?_
 refine HL_nil ?_
 refine HC_seqJ (b33J1 R) ?_ ?_
 clear h; rintro E F ⟨out_3, h3, h⟩
 unfold b33j1 at h
 refine cR (sR _ (r_move rfl h3) ?_)
 refine sR (Sl.v out_3) (r_assign rfl rfl) ?_
 exact HL_nil (HC_ret (rt1 f33 R rfl rfl h))
 refine cR (sR (.int .i64 0) (r_assign rfl rfl) ?_)
 refine HL_nil ?_
 refine HC_block ?_
 obtain ⟨I1, m1, hI0, hr⟩ := h
 refine HC_loop (fun m1 E F => ∃ out_3_1 : Sl, ∃ i_4 : Int, E 0 = (Sl.v l_0) ∧ E 3 = (Sl.v out_3_1) ∧ E 4 = (.int .i64 i_4) ∧ I1 m1 out_3_1 i_4 F) m1 ⟨_, _, rfl, rfl, rfl, hI0⟩ ?_
 clear hI0; rintro m1 E F ⟨out_3_1, i_4, h0, h3, h4, hI⟩
 have h := hr m1 out_3_1 i_4 F hI
 clear hr hI
 unfold b33L1 at h
 refine HC_seq ?_
 refine cR (sR _ (r_move rfl h4) ?_)
 refine sR _ (r_move rfl h0) ?_
 refine sR (.int .i64 (l_0.len : Int)) (r_lenSl rfl rfl underlying39) ?_
 refine sR (.bool (decide (i_4 < (l_0.len : Int)))) (r_lss rfl rfl rfl) ?_
 refine HL_nil ?_
 refine HC_cond (t := (decide (i_4 < (l_0.len : Int)))) rfl (fun hc => ?_) (fun hc => ?_)
 replace h := h.1 (of_decide_eq_true hc)
 clear hc
 refine HC_skip ?_
 refine HC_seq ?_
 refine HC_block ?_
 refine cR (sR _ (r_move rfl h0) ?_)
 refine sR _ (r_move rfl h4) ?_
 obtain ⟨a15_, hb15, hl15, hu15, h⟩ := h
 refine sR (.pointer (some (Addr.add a15_ (Int.toNat i_4 * 1)))) (w_indexAddr rfl rfl underlying39 sz5 hb15 hl15 hu15) ?_
 obtain ⟨v_16, hc16, h⟩ := h
 refine sR (.int .u8 v_16) (r_load1 rfl rfl underlying5 rfl hc16) ?_
 refine sR (.int .u8 (Int.tmod v_16 96)) (r_rem rfl rfl rfl (by decide)) ?_
 refine sR (.int .i64 (IntKind.i64.wrap (Int.tmod v_16 96))) (r_convInt rfl rfl underlying5 underlying3) ?_
 refine sR (.int .i64 (IntKind.i64.wrap (Int.tmod v_16 96))) (r_assign rfl rfl) ?_
 refine HL_nil ?_
 refine HC_seqJ (b33J2 (nx2 I1 m1) l_0 out_3_1 i_4 R) ?_ ?_
 clear h; rintro E F ⟨k_5, h0, h3, h4, h5, h⟩
 unfold b33j2 at h
 refine HC_region ?_
 refine sR _ (r_move rfl h3) ?_
 refine sR _ (r_move rfl h5) ?_
 refine s_ef (k_buildSeq (l := [(.int .i64 k_5)]) underlying68 sz3 (by decide) zr3 rfl rfl ⟨rfl, trivial⟩ (evPC rfl evPN) ?_)
 intro b26 hf_b26
 replace h := atE (h b26 hf_b26)
 refine s_ef (k_append rfl rfl (runs_mono _ _ h ?_))
 clear h; rintro v F ⟨v_27, rfl, h⟩
 refine sR (Sl.v v_27) (r_assign rfl rfl) ?_
 refine HL_nil ?_
 refine HC_region ?_
 refine sR _ (r_move rfl h4) ?_
 refine sR (.int .i64 (IntKind.i64.wrap (i_4 + 1))) (r_add rfl rfl rfl) ?_
 refine sR (.int .i64 (IntKind.i64.wrap (i_4 + 1))) (r_assign rfl rfl) ?_
 refine HL_nil ?_
 obtain ⟨m', hm, h⟩ := h
 exact ⟨m', hm, _, _, h0, rfl, rfl, h⟩
 refine cR (sR (.int .i64 (IntKind.i64.wrap (Int.tmod v_16 96))) (r_move rfl rfl) ?_)
 refine sR (.bool (decide ((64 : Int) < (IntKind.i64.wrap (Int.tmod v_16 96))))) (r_gtr rfl rfl rfl) ?_
 refine HL_nil ?_
 refine HC_cond (t := (decide ((64 : Int) < (IntKind.i64.wrap (Int.tmod v_16 96))))) rfl (fun hc => ?_) (fun hc => ?_)
 replace h := h.1 (of_decide_eq_true hc)
 clear hc
 refine HC_region ?_
 refine sR (.int .i64 (IntKind.i64.wrap (Int.tmod v_16 96))) (r_move rfl rfl) ?_
 refine sR (.int .i64 (Int.tmod (IntKind.i64.wrap (Int.tmod v_16 96)) 2)) (r_rem rfl rfl rfl (by decide)) ?_
 refine sR (.int .i64 (IntKind.i64.wrap (64 * (Int.tmod (IntKind.i64.wrap (Int.tmod v_16 96)) 2)))) (r_mul rfl rfl rfl) ?_
 refine sR (.int .i64 (IntKind.i64.wrap (64 * (Int.tmod (IntKind.i64.wrap (Int.tmod v_16 96)) 2)))) (r_assign rfl rfl) ?_
 refine HL_nil ?_
 show b33J2 (nx2 I1 m1) l_0 out_3_1 i_4 R _ _
 exact ⟨_, h0, h3, h4, rfl, h⟩
 replace h := h.2 (of_decide_eq_false hc)
 clear hc
 refine HC_skip ?_
 show b33J2 (nx2 I1 m1) l_0 out_3_1 i_4 R _ _
 exact ⟨_, h0, h3, h4, rfl, h⟩
 replace h := h.2 (of_decide_eq_false hc)
 clear hc
 refine HC_exit ?_
 show b33J1 R _ _
 exact ⟨_, h3, h⟩
 /- 40 koine.koinelaw35.record -/
def b40 (key_0 : ByteArray) (n_1 : Int) (R : VP) (F : PH) :=
 runs prog (Instr.makeSlice 39 (.int .i64 n_1) (.int .i64 n_1)) F fun v F => ∃ v_7 : Sl, v = (Sl.v v_7) ∧
 (#[(.string key_0), (Sl.v v_7)] : Array Value).size = 2 ∧ ∀ b9, F b9 = none → atF (F.set b9 (.cells (#[(.string key_0), (Sl.v v_7)] : Array Value) 41)) fun F =>
 R (Sl.v (Sl.mk (some (Addr.mk b9 0 none)) 1 1)) F
theorem c40 {key_0 : ByteArray} {n_1 : Int} {R : VP} {F : PH} (h : b40 key_0 n_1 R F) : Spec prog 40 #[(.string key_0), (.int .i64 n_1)] F R := by
 refine spec_of (args := [(.string key_0), (.int .i64 n_1)]) func40 rfl ntmps40 rfl ?_
 unfold b40 at h
 refine cR (sR (Sl.v Sl.nil) (r_assign rfl rfl) ?_)
 refine HL_nil ?_
 refine cR (sR (.string key_0) (r_move rfl rfl) ?_)
 refine sR (.int .i64 n_1) (r_move rfl rfl) ?_
 refine s_ef (k_makeSlice rfl rfl (runs_mono _ _ h ?_))
 clear h; rintro v F ⟨v_7, rfl, h⟩
 refine sR (.agg (#[(.string key_0), (Sl.v v_7)] : Array Value)) (w_buildStruct (cells := #[(.string key_0), (Sl.v v_7)]) underlying41 zr41 kf41 (evPC rfl (evPC rfl evPN)) (fill1 (place_of rfl rfl sz9) rfl rfl (fill1 (place_of rfl rfl sz39) rfl rfl (fillN rfl)))) ?_
 obtain ⟨hz9, h⟩ := h
 refine s_ef (k_buildSlice (cells := (#[(.string key_0), (Sl.v v_7)] : Array Value)) underlying26 sz41 (by decide) zr41 rfl (evPC rfl evPN) (fillWhole hz9 rfl rfl) rfl ?_)
 intro b9 hf_b9
 replace h := atE (h b9 hf_b9)
 refine sR (Sl.v (Sl.mk (some (Addr.mk b9 0 none)) 1 1)) (r_assign rfl rfl) ?_
 exact HL_nil (HC_ret (rt1 f40 R rfl rfl h))
end Go.Proofs.Ytelkfnmdnbbniaa
