/-
  What functions of the program do, in a clean form, each with the proof that its code does so. Printed by a program.
-/
import Derived.Test.YtnjcgpihfmklfaaDoorGf
import Derived.Test.YtnjcgpihfmklfaaDoorPhp
namespace Go.Proofs.YtnjcgpihfmklfaaDoor
open Go Go.Proofs.Tryd
set_option maxRecDepth 10000
set_option maxHeartbeats 4000000
/- 74 koine.pattern.plain -/
def b74j1 (b_0 : Int) (R : VP) (F : PH) :=
 ((32 < b_0 →
  R (.bool (decide (b_0 < 127))) F) ∧
 (¬ (32 < b_0) →
  R (.bool false) F))
abbrev b74J1 (b_0 : Int) (R : VP) (E : En) (F : PH) : Prop := E 0 = (.int .u8 b_0) ∧ b74j1 b_0 R F
def b74L1 (N1 : Int → PH → Prop) (b_0 : Int) (R : VP) (v_4 : Int) (F : PH) :=
 ((v_4 < 8 →
  0 ≤ v_4 ∧ v_4 < ((ByteArray.mk #[40, 41, 42, 45, 91, 92, 93, 124]).size : Int) ∧
  ∃ (hx : Int.toNat v_4 < (ByteArray.mk #[40, 41, 42, 45, 91, 92, 93, 124]).size) (v_8 : Int), v_8 = (((ByteArray.mk #[40, 41, 42, 45, 91, 92, 93, 124])[Int.toNat v_4]'hx).toNat : Int) ∧
  ((v_8 = b_0 →
   R (.bool false) F) ∧
  (¬ (v_8 = b_0) →
   N1 (IntKind.i64.wrap (v_4 + 1)) F))) ∧
 (¬ (v_4 < 8) →
  b74j1 b_0 R F))
def b74 (b_0 : Int) (R : VP) (F : PH) :=
 (∃ (I1 : Nat → Int → PH → Prop) (m1 : Nat), I1 m1 0 F ∧ ∀ m1 v_4 F, I1 m1 v_4 F →
  b74L1 (nx1 I1 m1) b_0 R v_4 F)
theorem c74 {b_0 : Int} {R : VP} {F : PH} (h : b74 b_0 R F) : Spec prog 74 #[(.int .u8 b_0)] F R := by
 refine spec_of (args := [(.int .u8 b_0)]) func74 rfl ntmps74 rfl ?_
 unfold b74 at h
 refine cR (sR (.bool false) (r_assign rfl rfl) ?_)
 refine HL_nil ?_
 refine HC_seqJ (b74J1 b_0 R) ?_ ?_
 clear h; rintro E F ⟨h0, h⟩
 unfold b74j1 at h
 refine cR (sR _ (r_move rfl h0) ?_)
 refine sR (.bool (decide (32 < b_0))) (r_gtr rfl rfl rfl) ?_
 refine sR (.bool (decide (32 < b_0))) (r_move rfl rfl) ?_
 by_cases hc : 32 < b_0
 replace h := h.1 hc
 refine kN 13 (decide_eq_true hc) ?_
 refine kN 14 (decide_eq_true hc) ?_
 refine sR _ (r_move rfl h0) ?_
 refine sR (.bool (decide (b_0 < 127))) (r_lss rfl rfl rfl) ?_
 refine sR (.bool (decide (b_0 < 127))) (r_pt rfl rfl) ?_
 refine sR (.bool (decide (b_0 < 127))) (r_assign rfl rfl) ?_
 exact HL_nil (HC_ret (rt1 f74 R rfl rfl h))
 replace h := h.2 hc
 refine kN 13 (decide_eq_false hc) ?_
 refine kN 14 (decide_eq_false hc) ?_
 iterate 2 refine s_skip ?_
 refine sR (.bool false) (r_pf rfl rfl) ?_
 refine sR (.bool false) (r_assign rfl rfl) ?_
 exact HL_nil (HC_ret (rt1 f74 R rfl rfl h))
 refine cR (sR (.int .i64 0) (r_move rfl rfl) ?_)
 refine HL_nil ?_
 refine HC_block ?_
 obtain ⟨I1, m1, hI0, hr⟩ := h
 refine HC_loop (fun m1 E F => ∃ v_4 : Int, E 0 = (.int .u8 b_0) ∧ E 4 = (.int .i64 v_4) ∧ I1 m1 v_4 F) m1 ⟨_, rfl, rfl, hI0⟩ ?_
 clear hI0; rintro m1 E F ⟨v_4, h0, h4, hI⟩
 have h := hr m1 v_4 F hI
 clear hr hI
 unfold b74L1 at h
 refine cR (sR (.bool (decide (v_4 < 8))) (r_lss rfl h4 rfl) ?_)
 refine HL_nil ?_
 refine HC_seq ?_
 refine HC_cond (t := (decide (v_4 < 8))) rfl (fun hc => ?_) (fun hc => ?_)
 replace h := h.1 (of_decide_eq_true hc)
 clear hc
 refine HC_skip ?_
 refine HC_seq ?_
 refine HC_block ?_
 refine cR (sR _ (r_move rfl h4) ?_)
 refine sR (.int .i64 v_4) (r_assign rfl rfl) ?_
 refine HL_nil ?_
 refine cR (sR (.int .i64 v_4) (r_move rfl rfl) ?_)
 obtain ⟨hl8, hu8, hx8, v_8, hv8, h⟩ := h
 refine sR (.int .u8 v_8) (w_indexStr rfl rfl underlying9 hl8 hu8 hv8) ?_
 refine sR _ (r_move rfl h0) ?_
 refine sR (.bool (decide (v_8 = b_0))) (w_eql rfl rfl) ?_
 refine HL_nil ?_
 refine HC_cond (t := (decide (v_8 = b_0))) rfl (fun hc => ?_) (fun hc => ?_)
 replace h := h.1 (of_decide_eq_true hc)
 clear hc
 refine cR (sR (.bool false) (r_assign rfl rfl) ?_)
 exact HL_nil (HC_ret (rt1 f74 R rfl rfl h))
 replace h := h.2 (of_decide_eq_false hc)
 clear hc
 refine HC_skip ?_
 refine HC_region ?_
 refine sR (.int .i64 (IntKind.i64.wrap (v_4 + 1))) (r_add rfl h4 rfl) ?_
 refine sR (.int .i64 (IntKind.i64.wrap (v_4 + 1))) (r_move rfl rfl) ?_
 refine HL_nil ?_
 obtain ⟨m', hm, h⟩ := h
 exact ⟨m', hm, _, h0, rfl, h⟩
 replace h := h.2 (of_decide_eq_false hc)
 clear hc
 refine HC_exit ?_
 show b74J1 b_0 R _ _
 exact ⟨h0, h⟩
 /- 78 (*koine.pattern.reader).next -/
def b78j1 (r_0 : Option Addr) (v_27 : Bool) (R : VP) (F : PH) :=
 ((v_27 = true →
  ∃ r0a_ : Addr, r_0 = some r0a_ ∧ ∃ v_31 : Int, F.cell (Addr.add r0a_ 1) = some (.int .i64 v_31) ∧
  ∃ c e, F (Addr.add r0a_ 1).block = some (.cells c e (0, 0)) ∧ (Addr.add r0a_ 1).spot = none ∧ (Addr.add r0a_ 1).off < c.size ∧
  atF (F.set (Addr.add r0a_ 1).block (.cells (c.setIfInBounds (Addr.add r0a_ 1).off (.int .i64 (IntKind.i64.wrap (v_31 + 1)))) e)) fun F =>
  R (.bool true) F) ∧
 (v_27 = false →
  R (.bool false) F))
abbrev b78J1 (r_0 : Option Addr) (R : VP) (E : En) (F : PH) : Prop := ∃ v_27 : Bool, E 0 = (.pointer r_0) ∧ E 27 = (.bool v_27) ∧ b78j1 r_0 v_27 R F
def b78 (r_0 : Option Addr) (b_1 : Int) (R : VP) (F : PH) :=
 ∃ r0a__1 : Addr, r_0 = some r0a__1 ∧ ∃ v_8 : Int, F.cell (Addr.add r0a__1 1) = some (.int .i64 v_8) ∧
 ∃ v_12 : ByteArray, F.cell r0a__1 = some (.string v_12) ∧
 ((v_8 < (v_12.size : Int) →
  ∃ v_19 : ByteArray, F.cell r0a__1 = some (.string v_19) ∧
  ∃ v_23 : Int, F.cell (Addr.add r0a__1 1) = some (.int .i64 v_23) ∧
  0 ≤ v_23 ∧ v_23 < (v_19.size : Int) ∧
  ∃ (hx : Int.toNat v_23 < v_19.size) (v_24 : Int), v_24 = ((v_19[Int.toNat v_23]'hx).toNat : Int) ∧
  b78j1 (some r0a__1) (decide (v_24 = b_1)) R F) ∧
 (¬ (v_8 < (v_12.size : Int)) →
  b78j1 (some r0a__1) false R F))
theorem c78 {r_0 : Option Addr} {b_1 : Int} {R : VP} {F : PH} (h : b78 r_0 b_1 R F) : Spec prog 78 #[(.pointer r_0), (.int .u8 b_1)] F R := by
 refine spec_of (args := [(.pointer r_0), (.int .u8 b_1)]) func78 rfl ntmps78 rfl ?_
 unfold b78 at h
 refine cR (sR (.bool false) (r_assign rfl rfl) ?_)
 refine HL_nil ?_
 refine HC_seq ?_
 refine HC_seqJ (b78J1 r_0 R) ?_ ?_
 clear h; rintro E F ⟨v_27, h0, h27, h⟩
 unfold b78j1 at h
 refine HC_cond (t := v_27) h27 (fun hc => ?_) (fun hc => ?_)
 replace h := h.1 hc
 clear hc
 refine cR (sR _ (r_move rfl h0) ?_)
 obtain ⟨r0a_, rfl, h⟩ := h
 refine sR (.pointer (some r0a_)) (r_nilCheck rfl rfl) ?_
 refine sR (.pointer (some (Addr.add r0a_ 1))) (w_fieldAddr rfl underlying83 rfl rfl sz3 rfl rfl) ?_
 obtain ⟨v_31, hc31, h⟩ := h
 refine sR (.int .i64 v_31) (r_load1 rfl rfl underlying3 rfl hc31) ?_
 refine sR (.int .i64 (IntKind.i64.wrap (v_31 + 1))) (r_add rfl rfl rfl) ?_
 refine sR (.pointer (some r0a_)) (r_nilCheck rfl rfl) ?_
 refine sR (.pointer (some (Addr.add r0a_ 1))) (w_fieldAddr rfl underlying83 rfl rfl sz3 rfl rfl) ?_
 refine s_ef0 (k_store1 (v := (.int .i64 (IntKind.i64.wrap (v_31 + 1)))) rfl rfl sz3 rfl st_int ?_)
 obtain ⟨c, e, hz3, hz4, hz5, h⟩ := h
 refine ⟨c, e, hz3, hz4, hz5, ?_⟩
 replace h := atE h
 refine HL_nil ?_
 refine cR (sR (.bool true) (r_assign rfl rfl) ?_)
 exact HL_nil (HC_ret (rt1 f78 R rfl rfl h))
 replace h := h.2 hc
 clear hc
 refine HC_skip ?_
 refine cR (sR (.bool false) (r_assign rfl rfl) ?_)
 exact HL_nil (HC_ret (rt1 f78 R rfl rfl h))
 refine HC_draw0 (by kernel_rfl) (fun hp => ?_)
 refine gU 0 (.pointer r_0) rfl (fun _ => r_move rfl rfl) hp ?_
 obtain ⟨r0a__1, rfl, h⟩ := h
 refine gU 1 (.pointer (some r0a__1)) rfl (fun _ => r_nilCheck rfl rfl) hp ?_
 refine gU 2 (.pointer (some (Addr.add r0a__1 1))) rfl (fun _ => w_fieldAddr rfl underlying83 rfl rfl sz3 rfl rfl) hp ?_
 obtain ⟨v_8, hc8, h⟩ := h
 refine gR 3 (.int .i64 v_8) rfl (r_load1 rfl rfl underlying3 rfl hc8) hp (fun S3 q3 => ?_)
 replace hp := holdC (i := 3) (q3 _ (r_load1 rfl rfl underlying3 rfl hc8)) hp
 refine gU 4 (.pointer (some r0a__1)) rfl (fun _ => r_move rfl rfl) hp ?_
 refine gU 5 (.pointer (some r0a__1)) rfl (fun _ => r_nilCheck rfl rfl) hp ?_
 refine gU 6 (.pointer (some r0a__1)) rfl (fun _ => w_fieldAddr rfl underlying83 rfl rfl sz9 rfl rfl) hp ?_
 obtain ⟨v_12, hc12, h⟩ := h
 refine gR 7 (.string v_12) rfl (r_load1 rfl rfl underlying9 rfl hc12) hp (fun S7 q7 => ?_)
 replace hp := holdC (i := 7) (q7 _ (r_load1 rfl rfl underlying9 rfl hc12)) hp
 refine gU 8 (.int .i64 (v_12.size : Int)) rfl (fun _ => r_lenStr rfl rfl underlying9) hp ?_
 refine gU 9 (.bool (decide (v_8 < (v_12.size : Int)))) rfl (fun _ => r_lss rfl rfl rfl) hp ?_
 refine gU 10 (.bool (decide (v_8 < (v_12.size : Int)))) rfl (fun _ => r_move rfl rfl) hp ?_
 by_cases hc : v_8 < (v_12.size : Int)
 replace h := h.1 hc
 refine RG_known (t := 14) (v := .bool true) (congrArg Value.bool (decide_eq_true hc)) ?_
 refine RG_known (t := 15) (v := .bool true) (congrArg Value.bool (decide_eq_true hc)) ?_
 refine gU 11 (.pointer (some r0a__1)) rfl (fun _ => r_move rfl rfl) hp ?_
 refine gU 12 (.pointer (some r0a__1)) rfl (fun _ => r_nilCheck rfl rfl) hp ?_
 refine gU 13 (.pointer (some r0a__1)) rfl (fun _ => w_fieldAddr rfl underlying83 rfl rfl sz9 rfl rfl) hp ?_
 obtain ⟨v_19, hc19, h⟩ := h
 refine gR 14 (.string v_19) rfl (r_load1 rfl rfl underlying9 rfl hc19) hp (fun S14 q14 => ?_)
 replace hp := holdC (i := 14) (q14 _ (r_load1 rfl rfl underlying9 rfl hc19)) hp
 refine gU 15 (.pointer (some r0a__1)) rfl (fun _ => r_move rfl rfl) hp ?_
 refine gU 16 (.pointer (some r0a__1)) rfl (fun _ => r_nilCheck rfl rfl) hp ?_
 refine gU 17 (.pointer (some (Addr.add r0a__1 1))) rfl (fun _ => w_fieldAddr rfl underlying83 rfl rfl sz3 rfl rfl) hp ?_
 obtain ⟨v_23, hc23, h⟩ := h
 refine gR 18 (.int .i64 v_23) rfl (r_load1 rfl rfl underlying3 rfl hc23) hp (fun S18 q18 => ?_)
 replace hp := holdC (i := 18) (q18 _ (r_load1 rfl rfl underlying3 rfl hc23)) hp
 obtain ⟨hl24, hu24, hx24, v_24, hv24, h⟩ := h
 refine gU 19 (.int .u8 v_24) rfl (fun _ => w_indexStr rfl rfl underlying9 hl24 hu24 hv24) hp ?_
 refine gU 20 (.int .u8 b_1) rfl (fun _ => r_move rfl rfl) hp ?_
 refine gU 21 (.bool (decide (v_24 = b_1))) rfl (fun _ => w_eql rfl rfl) hp ?_
 refine gU 22 (.bool (decide (v_24 = b_1))) rfl (fun _ => r_pick rfl rfl (fun _ => rfl) (fun h => by cases h)) hp ?_
 refine RG_done (by kernel_rfl) ?_
 show b78J1 (some r0a__1) R _ _
 exact ⟨_, rfl, rfl, h⟩
 replace h := h.2 hc
 refine RG_known (t := 14) (v := .bool false) (congrArg Value.bool (decide_eq_false hc)) ?_
 refine RG_known (t := 15) (v := .bool false) (congrArg Value.bool (decide_eq_false hc)) ?_
 refine gS 11 rfl hp ?_
 refine gS 12 rfl hp ?_
 refine gS 13 rfl hp ?_
 refine gS 14 rfl hp ?_
 refine gS 15 rfl hp ?_
 refine gS 16 rfl hp ?_
 refine gS 17 rfl hp ?_
 refine gS 18 rfl hp ?_
 refine gS 19 rfl hp ?_
 refine gS 20 rfl hp ?_
 refine gS 21 rfl hp ?_
 refine gU 22 (.bool false) rfl (fun _ => r_pick rfl rfl (fun h => by cases h) (fun _ => rfl)) hp ?_
 refine RG_done (by kernel_rfl) ?_
 show b78J1 (some r0a__1) R _ _
 exact ⟨_, rfl, rfl, h⟩
 /- 79 (*koine.pattern.reader).add -/
def b79 (r_0 : Option Addr) (x_1 : Array Value) (R : VP) (F : PH) :=
 ∀ b3, F b3 = none → atF (F.set b3 (.cells x_1 50)) fun F =>
 ∃ r0a_ : Addr, r_0 = some r0a_ ∧ ∃ v_9 : Sl, F.cell (Addr.add r0a_ 2) = some (Sl.v v_9) ∧
 ∃ v_10 : Array Value, v_10.size = 5 ∧ F.row (Addr.mk b3 0 none) v_10 ∧
 v_10.size = 5 ∧ ∀ b11, F b11 = none → atF (F.set b11 (.cells v_10 50)) fun F =>
 runs prog (Builtin.append_ #[25, 25] 25 #[(Sl.v v_9), (Sl.v (Sl.mk (some (Addr.mk b11 0 none)) 1 1))]) F fun v F => ∃ v_12 : Sl, v = (Sl.v v_12) ∧
 ∃ c e, F (Addr.add r0a_ 2).block = some (.cells c e (0, 0)) ∧ (Addr.add r0a_ 2).spot = none ∧ (Addr.add r0a_ 2).off < c.size ∧
 atF (F.set (Addr.add r0a_ 2).block (.cells (c.setIfInBounds (Addr.add r0a_ 2).off (Sl.v v_12)) e)) fun F =>
 ∃ v_18 : Sl, F.cell (Addr.add r0a_ 2) = some (Sl.v v_18) ∧
 R (.int .i64 (IntKind.i64.wrap ((v_18.len : Int) - 1))) F
theorem c79 {r_0 : Option Addr} {x_1 : Array Value} {R : VP} {F : PH} (h : b79 r_0 x_1 R F) : Spec prog 79 #[(.pointer r_0), (.agg x_1)] F R := by
 refine spec_of (args := [(.pointer r_0), (.agg x_1)]) func79 rfl ntmps79 rfl ?_
 unfold b79 at h
 refine cR ?_
 refine s_ef (k_box (cs := x_1) rfl rfl ?_)
 intro b3 hf_b3
 replace h := atE (h b3 hf_b3)
 refine sR (.int .i64 0) (r_assign rfl rfl) ?_
 refine HL_nil ?_
 refine HC_seq ?_
 refine HC_draw0 (by kernel_rfl) (fun hp => ?_)
 refine gU 0 (.pointer r_0) rfl (fun _ => r_move rfl rfl) hp ?_
 refine gU 1 (.pointer r_0) rfl (fun _ => r_move rfl rfl) hp ?_
 obtain ⟨r0a_, rfl, h⟩ := h
 refine gU 2 (.pointer (some r0a_)) rfl (fun _ => r_nilCheck rfl rfl) hp ?_
 refine gU 3 (.pointer (some (Addr.add r0a_ 2))) rfl (fun _ => w_fieldAddr rfl underlying83 rfl rfl sz25 rfl rfl) hp ?_
 obtain ⟨v_9, hc9, h⟩ := h
 refine gR 4 (Sl.v v_9) rfl (r_load1 rfl rfl underlying25 rfl hc9) hp (fun S4 q4 => ?_)
 replace hp := holdC (i := 4) (q4 _ (r_load1 rfl rfl underlying25 rfl hc9)) hp
 obtain ⟨v_10, hs10, hc10, h⟩ := h
 refine gR 5 (.agg v_10) rfl (w_loadN rfl underlying50 rfl sz50 hs10 hc10) hp (fun S5 q5 => ?_)
 replace hp := holdC (i := 5) (q5 _ (w_loadN rfl underlying50 rfl sz50 hs10 hc10)) hp
 obtain ⟨hz11, h⟩ := h
 refine RG_eff1 (i := 6) (by kernel_rfl) (g_op (Sp' := [(4, S4)]) rfl rfl (k_buildSlice (cells := v_10) underlying25 sz50 (by decide) zr50 rfl (evPC rfl evPN) (fillWhole hz11 rfl rfl) rfl ?_))
 intro b11 hf_b11
 replace h := atE (h b11 hf_b11)
 refine holdI (holdC (i := 4) (q4 _ (r_load1 rfl rfl underlying25 rfl (cell_set_fresh hf_b11 hc9))) hold0) (fun hp => ?_)
 refine RG_eff1 (i := 7) (by kernel_rfl) (g_op (Sp' := []) rfl rfl (k_append rfl rfl (runs_mono _ _ h ?_)))
 clear h; rintro v F ⟨v_12, rfl, h⟩
 refine holdI hold0 (fun hp => ?_)
 refine gU 8 (.pointer (some r0a_)) rfl (fun _ => r_nilCheck rfl rfl) hp ?_
 refine gU 9 (.pointer (some (Addr.add r0a_ 2))) rfl (fun _ => w_fieldAddr rfl underlying83 rfl rfl sz25 rfl rfl) hp ?_
 refine RG_eff1 (i := 10) (by kernel_rfl) (g_op0 (Sp' := []) rfl rfl (k_store1 (v := (Sl.v v_12)) rfl rfl sz25 rfl st_sl ?_))
 obtain ⟨c, e, hz3, hz4, hz5, h⟩ := h
 refine ⟨c, e, hz3, hz4, hz5, ?_⟩
 replace h := atE h
 refine holdI hold0 (fun hp => ?_)
 refine RG_done (by kernel_rfl) ?_
 refine cR (sR (.pointer (some r0a_)) (r_move rfl rfl) ?_)
 refine sR (.pointer (some r0a_)) (r_nilCheck rfl rfl) ?_
 refine sR (.pointer (some (Addr.add r0a_ 2))) (w_fieldAddr rfl underlying83 rfl rfl sz25 rfl rfl) ?_
 obtain ⟨v_18, hc18, h⟩ := h
 refine sR (Sl.v v_18) (r_load1 rfl rfl underlying25 rfl hc18) ?_
 refine sR (.int .i64 (v_18.len : Int)) (r_lenSl rfl rfl underlying25) ?_
 refine sR (.int .i64 (IntKind.i64.wrap ((v_18.len : Int) - 1))) (r_sub rfl rfl rfl) ?_
 refine sR (.int .i64 (IntKind.i64.wrap ((v_18.len : Int) - 1))) (r_assign rfl rfl) ?_
 exact HL_nil (HC_ret (rt1 f79 R rfl rfl h))
 /- 95 koine.pattern.hex -/
def b95j2 (b_0 : Int) (v_13 : Bool) (R : VP) (F : PH) :=
 ((v_13 = true →
  R (.int .i64 (IntKind.i64.wrap ((IntKind.i64.wrap (IntKind.u8.wrap (b_0 - 97))) + 10))) F) ∧
 (v_13 = false →
  R (.int .i64 (-1 : Int)) F))
abbrev b95J2 (b_0 : Int) (R : VP) (E : En) (F : PH) : Prop := ∃ v_13 : Bool, E 0 = (.int .u8 b_0) ∧ E 13 = (.bool v_13) ∧ b95j2 b_0 v_13 R F
def b95j1 (b_0 : Int) (v_3 : Bool) (R : VP) (F : PH) :=
 ((v_3 = true →
  R (.int .i64 (IntKind.i64.wrap (IntKind.u8.wrap (b_0 - 48)))) F) ∧
 (v_3 = false →
  ((97 ≤ b_0 →
   b95j2 b_0 (decide (b_0 ≤ (102 : Int))) R F) ∧
  (¬ (97 ≤ b_0) →
   b95j2 b_0 false R F))))
abbrev b95J1 (b_0 : Int) (R : VP) (E : En) (F : PH) : Prop := ∃ v_3 : Bool, E 0 = (.int .u8 b_0) ∧ E 3 = (.bool v_3) ∧ b95j1 b_0 v_3 R F
def b95 (b_0 : Int) (R : VP) (F : PH) :=
 ((48 ≤ b_0 →
  b95j1 b_0 (decide (b_0 ≤ (57 : Int))) R F) ∧
 (¬ (48 ≤ b_0) →
  b95j1 b_0 false R F))
theorem c95 {b_0 : Int} {R : VP} {F : PH} (h : b95 b_0 R F) : Spec prog 95 #[(.int .u8 b_0)] F R := by
 refine spec_of (args := [(.int .u8 b_0)]) func95 rfl ntmps95 rfl ?_
 unfold b95 at h
 refine cR (sR (.int .i64 0) (r_assign rfl rfl) ?_)
 refine HL_nil ?_
 refine HC_seq ?_
 refine HC_block ?_
 refine HC_seqJ (b95J1 b_0 R) ?_ ?_
 clear h; rintro E F ⟨v_3, h0, h3, h⟩
 unfold b95j1 at h
 refine HC_cond (t := v_3) h3 (fun hc => ?_) (fun hc => ?_)
 replace h := h.1 hc
 clear hc
 refine cR (sR _ (r_move rfl h0) ?_)
 refine sR (.int .u8 (IntKind.u8.wrap (b_0 - 48))) (r_sub rfl rfl rfl) ?_
 refine sR (.int .i64 (IntKind.i64.wrap (IntKind.u8.wrap (b_0 - 48)))) (r_convInt rfl rfl underlying5 underlying3) ?_
 refine sR (.int .i64 (IntKind.i64.wrap (IntKind.u8.wrap (b_0 - 48)))) (r_assign rfl rfl) ?_
 exact HL_nil (HC_ret (rt1 f95 R rfl rfl h))
 replace h := h.2 hc
 clear hc
 refine HC_seqJ (b95J2 b_0 R) ?_ ?_
 clear h; rintro E F ⟨v_13, h0, h13, h⟩
 unfold b95j2 at h
 refine HC_cond (t := v_13) h13 (fun hc => ?_) (fun hc => ?_)
 replace h := h.1 hc
 clear hc
 refine cR (sR _ (r_move rfl h0) ?_)
 refine sR (.int .u8 (IntKind.u8.wrap (b_0 - 97))) (r_sub rfl rfl rfl) ?_
 refine sR (.int .i64 (IntKind.i64.wrap (IntKind.u8.wrap (b_0 - 97)))) (r_convInt rfl rfl underlying5 underlying3) ?_
 refine sR (.int .i64 (IntKind.i64.wrap ((IntKind.i64.wrap (IntKind.u8.wrap (b_0 - 97))) + 10))) (r_add rfl rfl rfl) ?_
 refine sR (.int .i64 (IntKind.i64.wrap ((IntKind.i64.wrap (IntKind.u8.wrap (b_0 - 97))) + 10))) (r_assign rfl rfl) ?_
 exact HL_nil (HC_ret (rt1 f95 R rfl rfl h))
 replace h := h.2 hc
 clear hc
 refine HC_skip ?_
 refine cR (sR (.int .i64 (-1 : Int)) (r_assign rfl rfl) ?_)
 exact HL_nil (HC_ret (rt1 f95 R rfl rfl h))
 refine HC_region ?_
 refine sR _ (r_move rfl h0) ?_
 refine sR (.bool (decide (97 ≤ b_0))) (r_geq rfl rfl rfl) ?_
 refine sR (.bool (decide (97 ≤ b_0))) (r_move rfl rfl) ?_
 by_cases hc : 97 ≤ b_0
 replace h := h.1 hc
 refine kN 15 (decide_eq_true hc) ?_
 refine kN 16 (decide_eq_true hc) ?_
 refine sR _ (r_move rfl h0) ?_
 refine sR (.bool (decide (b_0 ≤ (102 : Int)))) (r_leq rfl rfl rfl) ?_
 refine sR (.bool (decide (b_0 ≤ (102 : Int)))) (r_pt rfl rfl) ?_
 refine sR (.bool (decide (b_0 ≤ (102 : Int)))) (r_assign rfl rfl) ?_
 refine HL_nil ?_
 show b95J2 b_0 R _ _
 exact ⟨_, h0, rfl, h⟩
 replace h := h.2 hc
 refine kN 15 (decide_eq_false hc) ?_
 refine kN 16 (decide_eq_false hc) ?_
 iterate 2 refine s_skip ?_
 refine sR (.bool false) (r_pf rfl rfl) ?_
 refine sR (.bool false) (r_assign rfl rfl) ?_
 refine HL_nil ?_
 show b95J2 b_0 R _ _
 exact ⟨_, h0, rfl, h⟩
 refine HC_region ?_
 refine sR (.int .u8 b_0) (r_move rfl rfl) ?_
 refine sR (.bool (decide (48 ≤ b_0))) (r_geq rfl rfl rfl) ?_
 refine sR (.bool (decide (48 ≤ b_0))) (r_move rfl rfl) ?_
 by_cases hc : 48 ≤ b_0
 replace h := h.1 hc
 refine kN 5 (decide_eq_true hc) ?_
 refine kN 6 (decide_eq_true hc) ?_
 refine sR (.int .u8 b_0) (r_move rfl rfl) ?_
 refine sR (.bool (decide (b_0 ≤ (57 : Int)))) (r_leq rfl rfl rfl) ?_
 refine sR (.bool (decide (b_0 ≤ (57 : Int)))) (r_pt rfl rfl) ?_
 refine sR (.bool (decide (b_0 ≤ (57 : Int)))) (r_assign rfl rfl) ?_
 refine HL_nil ?_
 show b95J1 b_0 R _ _
 exact ⟨_, rfl, rfl, h⟩
 replace h := h.2 hc
 refine kN 5 (decide_eq_false hc) ?_
 refine kN 6 (decide_eq_false hc) ?_
 iterate 2 refine s_skip ?_
 refine sR (.bool false) (r_pf rfl rfl) ?_
 refine sR (.bool false) (r_assign rfl rfl) ?_
 refine HL_nil ?_
 show b95J1 b_0 R _ _
 exact ⟨_, rfl, rfl, h⟩
 /- 93 (*koine.pattern.reader).character -/
def b93j2 (r_0 : Option Addr) (R : VP) (F : PH) :=
 ∃ r0a__1 : Addr, r_0 = some r0a__1 ∧ ∃ c e, F (Addr.add r0a__1 3).block = some (.cells c e (0, 0)) ∧ (Addr.add r0a__1 3).spot = none ∧ (Addr.add r0a__1 3).off < c.size ∧
 atF (F.set (Addr.add r0a__1 3).block (.cells (c.setIfInBounds (Addr.add r0a__1 3).off (.bool true)) e)) fun F =>
 R (.int .i64 0) F
abbrev b93J2 (r_0 : Option Addr) (R : VP) (E : En) (F : PH) : Prop := E 0 = (.pointer r_0) ∧ b93j2 r_0 R F
def b93j4 (r0a__2 : Addr) (v_73 : Int) (v_84 : Int) (v_97 : Bool) (R : VP) (F : PH) :=
 ((v_97 = true →
  R (.int .i64 (IntKind.i64.wrap ((IntKind.i64.wrap (16 * v_73)) + v_84))) F) ∧
 (v_97 = false →
  b93j2 (some r0a__2) R F))
abbrev b93J4 (r0a__2 : Addr) (v_73 : Int) (v_84 : Int) (R : VP) (E : En) (F : PH) : Prop := ∃ v_97 : Bool, E 0 = (.pointer (some r0a__2)) ∧ E 3 = (.int .i64 v_73) ∧ E 4 = (.int .i64 v_84) ∧ E 97 = (.bool v_97) ∧ b93j4 r0a__2 v_73 v_84 v_97 R F
def b93j3 (r_0 : Option Addr) (v_63 : Bool) (R : VP) (F : PH) :=
 ((v_63 = true →
  ∃ r0a__2 : Addr, r_0 = some r0a__2 ∧ ∃ v_67 : ByteArray, F.cell r0a__2 = some (.string v_67) ∧
  ∃ v_71 : Int, F.cell (Addr.add r0a__2 1) = some (.int .i64 v_71) ∧
  0 ≤ v_71 ∧ v_71 < (v_67.size : Int) ∧
  ∃ (hx : Int.toNat v_71 < v_67.size) (v_72 : Int), v_72 = ((v_67[Int.toNat v_71]'hx).toNat : Int) ∧
  ∃ v_77 : ByteArray, F.cell r0a__2 = some (.string v_77) ∧
  ∃ v_81 : Int, F.cell (Addr.add r0a__2 1) = some (.int .i64 v_81) ∧
  0 ≤ (IntKind.i64.wrap (v_81 + 1)) ∧ (IntKind.i64.wrap (v_81 + 1)) < (v_77.size : Int) ∧
  ∃ (hx : Int.toNat (IntKind.i64.wrap (v_81 + 1)) < v_77.size) (v_83 : Int), v_83 = ((v_77[Int.toNat (IntKind.i64.wrap (v_81 + 1))]'hx).toNat : Int) ∧
  Spec prog 95 #[(.int .u8 v_72)] F fun v F => ∃ v_73 : Int, v = (.int .i64 v_73) ∧
  F.cell (Addr.add r0a__2 1) = some (.int .i64 v_81) ∧ F.cell r0a__2 = some (.string v_77) ∧ F.cell (Addr.add r0a__2 1) = some (.int .i64 v_71) ∧ F.cell r0a__2 = some (.string v_67) ∧ Spec prog 95 #[(.int .u8 v_83)] F fun v F => ∃ v_84 : Int, v = (.int .i64 v_84) ∧
  F.cell (Addr.add r0a__2 1) = some (.int .i64 v_81) ∧ F.cell r0a__2 = some (.string v_77) ∧ F.cell (Addr.add r0a__2 1) = some (.int .i64 v_71) ∧ F.cell r0a__2 = some (.string v_67) ∧ ∃ v_88 : Int, F.cell (Addr.add r0a__2 1) = some (.int .i64 v_88) ∧
  ∃ c e, F (Addr.add r0a__2 1).block = some (.cells c e (0, 0)) ∧ (Addr.add r0a__2 1).spot = none ∧ (Addr.add r0a__2 1).off < c.size ∧
  atF (F.set (Addr.add r0a__2 1).block (.cells (c.setIfInBounds (Addr.add r0a__2 1).off (.int .i64 (IntKind.i64.wrap (v_88 + 2)))) e)) fun F =>
  ((0 ≤ v_73 →
   b93j4 r0a__2 v_73 v_84 (decide (0 ≤ v_84)) R F) ∧
  (¬ (0 ≤ v_73) →
   b93j4 r0a__2 v_73 v_84 false R F))) ∧
 (v_63 = false →
  b93j2 r_0 R F))
abbrev b93J3 (r_0 : Option Addr) (R : VP) (E : En) (F : PH) : Prop := ∃ v_63 : Bool, E 0 = (.pointer r_0) ∧ E 63 = (.bool v_63) ∧ b93j3 r_0 v_63 R F
def b93j1 (r_0 : Option Addr) (v_26 : Bool) (R : VP) (F : PH) :=
 ((v_26 = true →
  ∃ r0a_ : Addr, r_0 = some r0a_ ∧ ∃ v_30 : Int, F.cell (Addr.add r0a_ 1) = some (.int .i64 v_30) ∧
  ∃ c e, F (Addr.add r0a_ 1).block = some (.cells c e (0, 0)) ∧ (Addr.add r0a_ 1).spot = none ∧ (Addr.add r0a_ 1).off < c.size ∧
  atF (F.set (Addr.add r0a_ 1).block (.cells (c.setIfInBounds (Addr.add r0a_ 1).off (.int .i64 (IntKind.i64.wrap (v_30 + 1)))) e)) fun F =>
  ∃ v_37 : ByteArray, F.cell r0a_ = some (.string v_37) ∧
  ∃ v_41 : Int, F.cell (Addr.add r0a_ 1) = some (.int .i64 v_41) ∧
  0 ≤ (IntKind.i64.wrap (v_41 - 1)) ∧ (IntKind.i64.wrap (v_41 - 1)) < (v_37.size : Int) ∧
  ∃ (hx : Int.toNat (IntKind.i64.wrap (v_41 - 1)) < v_37.size) (v_43 : Int), v_43 = ((v_37[Int.toNat (IntKind.i64.wrap (v_41 - 1))]'hx).toNat : Int) ∧
  R (.int .i64 (IntKind.i64.wrap v_43)) F) ∧
 (v_26 = false →
  Spec prog 78 #[(.pointer r_0), (.int .u8 92)] F fun v F => ∃ v_46 : Bool, v = (.bool v_46) ∧
  ((v_46 = true →
   Spec prog 78 #[(.pointer r_0), (.int .u8 120)] F fun v F => ∃ v_49 : Bool, v = (.bool v_49) ∧
   ((v_49 = true →
    ∃ r0a__3 : Addr, r_0 = some r0a__3 ∧ ∃ v_55 : Int, F.cell (Addr.add r0a__3 1) = some (.int .i64 v_55) ∧
    ∃ v_60 : ByteArray, F.cell r0a__3 = some (.string v_60) ∧
    b93j3 (some r0a__3) (decide ((IntKind.i64.wrap (v_55 + 1)) < (v_60.size : Int))) R F) ∧
   (v_49 = false →
    b93j3 r_0 false R F))) ∧
  (v_46 = false →
   b93j3 r_0 false R F))))
abbrev b93J1 (r_0 : Option Addr) (R : VP) (E : En) (F : PH) : Prop := ∃ v_26 : Bool, E 0 = (.pointer r_0) ∧ E 26 = (.bool v_26) ∧ b93j1 r_0 v_26 R F
def b93 (r_0 : Option Addr) (R : VP) (F : PH) :=
 ∃ r0a__4 : Addr, r_0 = some r0a__4 ∧ ∃ v_8 : Int, F.cell (Addr.add r0a__4 1) = some (.int .i64 v_8) ∧
 ∃ v_12 : ByteArray, F.cell r0a__4 = some (.string v_12) ∧
 ((v_8 < (v_12.size : Int) →
  ∃ v_19 : ByteArray, F.cell r0a__4 = some (.string v_19) ∧
  ∃ v_23 : Int, F.cell (Addr.add r0a__4 1) = some (.int .i64 v_23) ∧
  0 ≤ v_23 ∧ v_23 < (v_19.size : Int) ∧
  ∃ (hx : Int.toNat v_23 < v_19.size) (v_24 : Int), v_24 = ((v_19[Int.toNat v_23]'hx).toNat : Int) ∧
  Spec prog 74 #[(.int .u8 v_24)] F fun v F => ∃ v_25 : Bool, v = (.bool v_25) ∧
  F.cell (Addr.add r0a__4 1) = some (.int .i64 v_23) ∧ F.cell r0a__4 = some (.string v_19) ∧ F.cell r0a__4 = some (.string v_12) ∧ F.cell (Addr.add r0a__4 1) = some (.int .i64 v_8) ∧ b93j1 (some r0a__4) v_25 R F) ∧
 (¬ (v_8 < (v_12.size : Int)) →
  b93j1 (some r0a__4) false R F))
theorem c93 {r_0 : Option Addr} {R : VP} {F : PH} (h : b93 r_0 R F) : Spec prog 93 #[(.pointer r_0)] F R := by
 refine spec_of (args := [(.pointer r_0)]) func93 rfl ntmps93 rfl ?_
 unfold b93 at h
 refine cR (sR (.int .i64 0) (r_assign rfl rfl) ?_)
 refine HL_nil ?_
 refine HC_seq ?_
 refine HC_seqJ (b93J1 r_0 R) ?_ ?_
 clear h; rintro E F ⟨v_26, h0, h26, h⟩
 unfold b93j1 at h
 refine HC_cond (t := v_26) h26 (fun hc => ?_) (fun hc => ?_)
 replace h := h.1 hc
 clear hc
 refine cR (sR _ (r_move rfl h0) ?_)
 obtain ⟨r0a_, rfl, h⟩ := h
 refine sR (.pointer (some r0a_)) (r_nilCheck rfl rfl) ?_
 refine sR (.pointer (some (Addr.add r0a_ 1))) (w_fieldAddr rfl underlying83 rfl rfl sz3 rfl rfl) ?_
 obtain ⟨v_30, hc30, h⟩ := h
 refine sR (.int .i64 v_30) (r_load1 rfl rfl underlying3 rfl hc30) ?_
 refine sR (.int .i64 (IntKind.i64.wrap (v_30 + 1))) (r_add rfl rfl rfl) ?_
 refine sR (.pointer (some r0a_)) (r_nilCheck rfl rfl) ?_
 refine sR (.pointer (some (Addr.add r0a_ 1))) (w_fieldAddr rfl underlying83 rfl rfl sz3 rfl rfl) ?_
 refine s_ef0 (k_store1 (v := (.int .i64 (IntKind.i64.wrap (v_30 + 1)))) rfl rfl sz3 rfl st_int ?_)
 obtain ⟨c, e, hz3, hz4, hz5, h⟩ := h
 refine ⟨c, e, hz3, hz4, hz5, ?_⟩
 replace h := atE h
 refine HL_nil ?_
 refine HC_seq ?_
 refine HC_draw0 (by kernel_rfl) (fun hp => ?_)
 refine gU 0 (.pointer (some r0a_)) rfl (fun _ => r_move rfl h0) hp ?_
 refine gU 1 (.pointer (some r0a_)) rfl (fun _ => r_nilCheck rfl rfl) hp ?_
 refine gU 2 (.pointer (some r0a_)) rfl (fun _ => w_fieldAddr rfl underlying83 rfl rfl sz9 rfl rfl) hp ?_
 obtain ⟨v_37, hc37, h⟩ := h
 refine gR 3 (.string v_37) rfl (r_load1 rfl rfl underlying9 rfl hc37) hp (fun S3 q3 => ?_)
 replace hp := holdC (i := 3) (q3 _ (r_load1 rfl rfl underlying9 rfl hc37)) hp
 refine gU 4 (.pointer (some r0a_)) rfl (fun _ => r_move rfl h0) hp ?_
 refine gU 5 (.pointer (some r0a_)) rfl (fun _ => r_nilCheck rfl rfl) hp ?_
 refine gU 6 (.pointer (some (Addr.add r0a_ 1))) rfl (fun _ => w_fieldAddr rfl underlying83 rfl rfl sz3 rfl rfl) hp ?_
 obtain ⟨v_41, hc41, h⟩ := h
 refine gR 7 (.int .i64 v_41) rfl (r_load1 rfl rfl underlying3 rfl hc41) hp (fun S7 q7 => ?_)
 replace hp := holdC (i := 7) (q7 _ (r_load1 rfl rfl underlying3 rfl hc41)) hp
 refine gU 8 (.int .i64 (IntKind.i64.wrap (v_41 - 1))) rfl (fun _ => r_sub rfl rfl rfl) hp ?_
 obtain ⟨hl43, hu43, hx43, v_43, hv43, h⟩ := h
 refine gU 9 (.int .u8 v_43) rfl (fun _ => w_indexStr rfl rfl underlying9 hl43 hu43 hv43) hp ?_
 refine gU 10 (.int .i64 (IntKind.i64.wrap v_43)) rfl (fun _ => r_convInt rfl rfl underlying5 underlying3) hp ?_
 refine gU 11 (.int .i64 (IntKind.i64.wrap v_43)) rfl (fun _ => r_assign rfl rfl) hp ?_
 refine RG_done (by kernel_rfl) ?_
 exact HC_ret (rt1 f93 R rfl rfl h)
 replace h := h.2 hc
 clear hc
 refine HC_skip ?_
 refine HC_seqJ (b93J2 r_0 R) ?_ ?_
 clear h; rintro E F ⟨h0, h⟩
 unfold b93j2 at h
 refine cR (sR _ (r_move rfl h0) ?_)
 obtain ⟨r0a__1, rfl, h⟩ := h
 refine sR (.pointer (some r0a__1)) (r_nilCheck rfl rfl) ?_
 refine sR (.pointer (some (Addr.add r0a__1 3))) (w_fieldAddr rfl underlying83 rfl rfl sz4 rfl rfl) ?_
 refine s_ef0 (k_store1 (v := (.bool true)) rfl rfl sz4 rfl st_bool ?_)
 obtain ⟨c, e, hz3, hz4, hz5, h⟩ := h
 refine ⟨c, e, hz3, hz4, hz5, ?_⟩
 replace h := atE h
 refine HL_nil ?_
 refine cR (sR (.int .i64 0) (r_assign rfl rfl) ?_)
 exact HL_nil (HC_ret (rt1 f93 R rfl rfl h))
 refine HC_seqJ (b93J3 r_0 R) ?_ ?_
 clear h; rintro E F ⟨v_63, h0, h63, h⟩
 unfold b93j3 at h
 refine HC_cond (t := v_63) h63 (fun hc => ?_) (fun hc => ?_)
 replace h := h.1 hc
 clear hc
 refine HC_seq ?_
 refine HC_draw0 (by kernel_rfl) (fun hp => ?_)
 refine gU 0 (.pointer r_0) rfl (fun _ => r_move rfl h0) hp ?_
 obtain ⟨r0a__2, rfl, h⟩ := h
 refine gU 1 (.pointer (some r0a__2)) rfl (fun _ => r_nilCheck rfl rfl) hp ?_
 refine gU 2 (.pointer (some r0a__2)) rfl (fun _ => w_fieldAddr rfl underlying83 rfl rfl sz9 rfl rfl) hp ?_
 obtain ⟨v_67, hc67, h⟩ := h
 refine gR 3 (.string v_67) rfl (r_load1 rfl rfl underlying9 rfl hc67) hp (fun S3 q3 => ?_)
 replace hp := holdC (i := 3) (q3 _ (r_load1 rfl rfl underlying9 rfl hc67)) hp
 refine gU 4 (.pointer (some r0a__2)) rfl (fun _ => r_move rfl h0) hp ?_
 refine gU 5 (.pointer (some r0a__2)) rfl (fun _ => r_nilCheck rfl rfl) hp ?_
 refine gU 6 (.pointer (some (Addr.add r0a__2 1))) rfl (fun _ => w_fieldAddr rfl underlying83 rfl rfl sz3 rfl rfl) hp ?_
 obtain ⟨v_71, hc71, h⟩ := h
 refine gR 7 (.int .i64 v_71) rfl (r_load1 rfl rfl underlying3 rfl hc71) hp (fun S7 q7 => ?_)
 replace hp := holdC (i := 7) (q7 _ (r_load1 rfl rfl underlying3 rfl hc71)) hp
 obtain ⟨hl72, hu72, hx72, v_72, hv72, h⟩ := h
 refine gU 8 (.int .u8 v_72) rfl (fun _ => w_indexStr rfl rfl underlying9 hl72 hu72 hv72) hp ?_
 refine gU 10 (.pointer (some r0a__2)) rfl (fun _ => r_move rfl h0) hp ?_
 refine gU 11 (.pointer (some r0a__2)) rfl (fun _ => r_nilCheck rfl rfl) hp ?_
 refine gU 12 (.pointer (some r0a__2)) rfl (fun _ => w_fieldAddr rfl underlying83 rfl rfl sz9 rfl rfl) hp ?_
 obtain ⟨v_77, hc77, h⟩ := h
 refine gR 13 (.string v_77) rfl (r_load1 rfl rfl underlying9 rfl hc77) hp (fun S13 q13 => ?_)
 replace hp := holdC (i := 13) (q13 _ (r_load1 rfl rfl underlying9 rfl hc77)) hp
 refine gU 14 (.pointer (some r0a__2)) rfl (fun _ => r_move rfl h0) hp ?_
 refine gU 15 (.pointer (some r0a__2)) rfl (fun _ => r_nilCheck rfl rfl) hp ?_
 refine gU 16 (.pointer (some (Addr.add r0a__2 1))) rfl (fun _ => w_fieldAddr rfl underlying83 rfl rfl sz3 rfl rfl) hp ?_
 obtain ⟨v_81, hc81, h⟩ := h
 refine gR 17 (.int .i64 v_81) rfl (r_load1 rfl rfl underlying3 rfl hc81) hp (fun S17 q17 => ?_)
 replace hp := holdC (i := 17) (q17 _ (r_load1 rfl rfl underlying3 rfl hc81)) hp
 refine gU 18 (.int .i64 (IntKind.i64.wrap (v_81 + 1))) rfl (fun _ => r_add rfl rfl rfl) hp ?_
 obtain ⟨hl83, hu83, hx83, v_83, hv83, h⟩ := h
 refine gU 19 (.int .u8 v_83) rfl (fun _ => w_indexStr rfl rfl underlying9 hl83 hu83 hv83) hp ?_
 refine RG_eff1 (i := 9) (by kernel_rfl) (g_op (Sp' := [(17, S17), (13, S13), (7, S7), (3, S3)]) rfl rfl (k_call (vs := [(.int .u8 v_72)]) cb95 (evC rfl evN) (h.mono ?_)))
 clear h; rintro v F ⟨v_73, rfl, h⟩
 obtain ⟨hk_37, hk_38, hk_39, hk_40, h⟩ := h
 refine holdI (holdC (i := 17) (q17 _ (r_load1 rfl rfl underlying3 rfl hk_37)) (holdC (i := 13) (q13 _ (r_load1 rfl rfl underlying9 rfl hk_38)) (holdC (i := 7) (q7 _ (r_load1 rfl rfl underlying3 rfl hk_39)) (holdC (i := 3) (q3 _ (r_load1 rfl rfl underlying9 rfl hk_40)) hold0)))) (fun hp => ?_)
 refine RG_eff1 (i := 20) (by kernel_rfl) (g_op (Sp' := [(17, S17), (13, S13), (7, S7), (3, S3)]) rfl rfl (k_call (vs := [(.int .u8 v_83)]) cb95 (evC rfl evN) (h.mono ?_)))
 clear h; rintro v F ⟨v_84, rfl, h⟩
 obtain ⟨hk_41, hk_42, hk_43, hk_44, h⟩ := h
 refine holdI (holdC (i := 17) (q17 _ (r_load1 rfl rfl underlying3 rfl hk_41)) (holdC (i := 13) (q13 _ (r_load1 rfl rfl underlying9 rfl hk_42)) (holdC (i := 7) (q7 _ (r_load1 rfl rfl underlying3 rfl hk_43)) (holdC (i := 3) (q3 _ (r_load1 rfl rfl underlying9 rfl hk_44)) hold0)))) (fun hp => ?_)
 refine gU 21 (.int .i64 v_73) rfl (fun _ => r_assign rfl rfl) hp ?_
 refine gU 22 (.int .i64 v_84) rfl (fun _ => r_assign rfl rfl) hp ?_
 refine RG_done (by kernel_rfl) ?_
 refine cR (sR _ (r_move rfl h0) ?_)
 refine sR (.pointer (some r0a__2)) (r_nilCheck rfl rfl) ?_
 refine sR (.pointer (some (Addr.add r0a__2 1))) (w_fieldAddr rfl underlying83 rfl rfl sz3 rfl rfl) ?_
 obtain ⟨v_88, hc88, h⟩ := h
 refine sR (.int .i64 v_88) (r_load1 rfl rfl underlying3 rfl hc88) ?_
 refine sR (.int .i64 (IntKind.i64.wrap (v_88 + 2))) (r_add rfl rfl rfl) ?_
 refine sR (.pointer (some r0a__2)) (r_nilCheck rfl rfl) ?_
 refine sR (.pointer (some (Addr.add r0a__2 1))) (w_fieldAddr rfl underlying83 rfl rfl sz3 rfl rfl) ?_
 refine s_ef0 (k_store1 (v := (.int .i64 (IntKind.i64.wrap (v_88 + 2)))) rfl rfl sz3 rfl st_int ?_)
 obtain ⟨c, e, hz3, hz4, hz5, h⟩ := h
 refine ⟨c, e, hz3, hz4, hz5, ?_⟩
 replace h := atE h
 refine HL_nil ?_
 refine HC_seqJ (b93J4 r0a__2 v_73 v_84 R) ?_ ?_
 clear h; rintro E F ⟨v_97, h0, h3, h4, h97, h⟩
 unfold b93j4 at h
 refine HC_cond (t := v_97) h97 (fun hc => ?_) (fun hc => ?_)
 replace h := h.1 hc
 clear hc
 refine cR (sR _ (r_move rfl h3) ?_)
 refine sR (.int .i64 (IntKind.i64.wrap (16 * v_73))) (r_mul rfl rfl rfl) ?_
 refine sR _ (r_move rfl h4) ?_
 refine sR (.int .i64 (IntKind.i64.wrap ((IntKind.i64.wrap (16 * v_73)) + v_84))) (r_add rfl rfl rfl) ?_
 refine sR (.int .i64 (IntKind.i64.wrap ((IntKind.i64.wrap (16 * v_73)) + v_84))) (r_assign rfl rfl) ?_
 exact HL_nil (HC_ret (rt1 f93 R rfl rfl h))
 replace h := h.2 hc
 clear hc
 refine HC_skip ?_
 show b93J2 (some r0a__2) R _ _
 exact ⟨h0, h⟩
 refine HC_region ?_
 refine sR (.int .i64 v_73) (r_move rfl rfl) ?_
 refine sR (.bool (decide (0 ≤ v_73))) (r_geq rfl rfl rfl) ?_
 refine sR (.bool (decide (0 ≤ v_73))) (r_move rfl rfl) ?_
 by_cases hc : 0 ≤ v_73
 replace h := h.1 hc
 refine kN 93 (decide_eq_true hc) ?_
 refine kN 94 (decide_eq_true hc) ?_
 refine sR (.int .i64 v_84) (r_move rfl rfl) ?_
 refine sR (.bool (decide (0 ≤ v_84))) (r_geq rfl rfl rfl) ?_
 refine sR (.bool (decide (0 ≤ v_84))) (r_pt rfl rfl) ?_
 refine HL_nil ?_
 show b93J4 r0a__2 v_73 v_84 R _ _
 exact ⟨_, h0, rfl, rfl, rfl, h⟩
 replace h := h.2 hc
 refine kN 93 (decide_eq_false hc) ?_
 refine kN 94 (decide_eq_false hc) ?_
 iterate 2 refine s_skip ?_
 refine sR (.bool false) (r_pf rfl rfl) ?_
 refine HL_nil ?_
 show b93J4 r0a__2 v_73 v_84 R _ _
 exact ⟨_, h0, rfl, rfl, rfl, h⟩
 replace h := h.2 hc
 clear hc
 refine HC_skip ?_
 show b93J2 r_0 R _ _
 exact ⟨h0, h⟩
 refine HC_draw0 (by kernel_rfl) (fun hp => ?_)
 refine gU 0 (.pointer r_0) rfl (fun _ => r_move rfl h0) hp ?_
 refine RG_eff1 (i := 1) (by kernel_rfl) (g_op (Sp' := []) rfl rfl (k_call (vs := [(.pointer r_0), (.int .u8 92)]) cb78 (evC rfl (evC rfl evN)) (h.mono ?_)))
 clear h; rintro v F ⟨v_46, rfl, h⟩
 refine holdI hold0 (fun hp => ?_)
 refine gU 2 (.bool v_46) rfl (fun _ => r_move rfl rfl) hp ?_
 by_cases hc : v_46 = true
 replace h := h.1 hc
 refine RG_known (t := 46) (v := .bool true) (congrArg Value.bool hc) ?_
 refine RG_known (t := 47) (v := .bool true) (congrArg Value.bool hc) ?_
 refine gU 3 (.pointer r_0) rfl (fun _ => r_move rfl h0) hp ?_
 refine RG_eff1 (i := 4) (by kernel_rfl) (g_op (Sp' := []) rfl rfl (k_call (vs := [(.pointer r_0), (.int .u8 120)]) cb78 (evC rfl (evC rfl evN)) (h.mono ?_)))
 clear h; rintro v F ⟨v_49, rfl, h⟩
 refine holdI hold0 (fun hp => ?_)
 refine gU 5 (.bool v_49) rfl (fun _ => r_pick rfl rfl (fun _ => rfl) (fun h => by cases h)) hp ?_
 refine gU 6 (.bool v_49) rfl (fun _ => r_move rfl rfl) hp ?_
 by_cases hc : v_49 = true
 replace h := h.1 hc
 refine RG_known (t := 49) (v := .bool true) (congrArg Value.bool hc) ?_
 refine RG_known (t := 50) (v := .bool true) (congrArg Value.bool hc) ?_
 refine RG_known (t := 51) (v := .bool true) (congrArg Value.bool hc) ?_
 refine gU 7 (.pointer r_0) rfl (fun _ => r_move rfl h0) hp ?_
 obtain ⟨r0a__3, rfl, h⟩ := h
 refine gU 8 (.pointer (some r0a__3)) rfl (fun _ => r_nilCheck rfl rfl) hp ?_
 refine gU 9 (.pointer (some (Addr.add r0a__3 1))) rfl (fun _ => w_fieldAddr rfl underlying83 rfl rfl sz3 rfl rfl) hp ?_
 obtain ⟨v_55, hc55, h⟩ := h
 refine gR 10 (.int .i64 v_55) rfl (r_load1 rfl rfl underlying3 rfl hc55) hp (fun S10 q10 => ?_)
 replace hp := holdC (i := 10) (q10 _ (r_load1 rfl rfl underlying3 rfl hc55)) hp
 refine gU 11 (.int .i64 (IntKind.i64.wrap (v_55 + 1))) rfl (fun _ => r_add rfl rfl rfl) hp ?_
 refine gU 12 (.pointer (some r0a__3)) rfl (fun _ => r_move rfl h0) hp ?_
 refine gU 13 (.pointer (some r0a__3)) rfl (fun _ => r_nilCheck rfl rfl) hp ?_
 refine gU 14 (.pointer (some r0a__3)) rfl (fun _ => w_fieldAddr rfl underlying83 rfl rfl sz9 rfl rfl) hp ?_
 obtain ⟨v_60, hc60, h⟩ := h
 refine gR 15 (.string v_60) rfl (r_load1 rfl rfl underlying9 rfl hc60) hp (fun S15 q15 => ?_)
 replace hp := holdC (i := 15) (q15 _ (r_load1 rfl rfl underlying9 rfl hc60)) hp
 refine gU 16 (.int .i64 (v_60.size : Int)) rfl (fun _ => r_lenStr rfl rfl underlying9) hp ?_
 refine gU 17 (.bool (decide ((IntKind.i64.wrap (v_55 + 1)) < (v_60.size : Int)))) rfl (fun _ => r_lss rfl rfl rfl) hp ?_
 refine gU 18 (.bool (decide ((IntKind.i64.wrap (v_55 + 1)) < (v_60.size : Int)))) rfl (fun _ => r_pick rfl rfl (fun _ => rfl) (fun h => by cases h)) hp ?_
 refine RG_done (by kernel_rfl) ?_
 show b93J3 (some r0a__3) R _ _
 exact ⟨_, h0, rfl, h⟩
 replace hc := eq_false_of_ne_true hc; replace h := h.2 hc
 refine RG_known (t := 49) (v := .bool false) (congrArg Value.bool hc) ?_
 refine RG_known (t := 50) (v := .bool false) (congrArg Value.bool hc) ?_
 refine RG_known (t := 51) (v := .bool false) (congrArg Value.bool hc) ?_
 refine gS 7 rfl hp ?_
 refine gS 8 rfl hp ?_
 refine gS 9 rfl hp ?_
 refine gS 10 rfl hp ?_
 refine gS 11 rfl hp ?_
 refine gS 12 rfl hp ?_
 refine gS 13 rfl hp ?_
 refine gS 14 rfl hp ?_
 refine gS 15 rfl hp ?_
 refine gS 16 rfl hp ?_
 refine gS 17 rfl hp ?_
 refine gU 18 (.bool false) rfl (fun _ => r_pick rfl rfl (fun h => by cases h) (fun _ => rfl)) hp ?_
 refine RG_done (by kernel_rfl) ?_
 show b93J3 r_0 R _ _
 exact ⟨_, h0, rfl, h⟩
 replace hc := eq_false_of_ne_true hc; replace h := h.2 hc
 refine RG_known (t := 46) (v := .bool false) (congrArg Value.bool hc) ?_
 refine RG_known (t := 47) (v := .bool false) (congrArg Value.bool hc) ?_
 refine gS 3 rfl hp ?_
 refine gS 4 rfl hp ?_
 refine gU 5 (.bool false) rfl (fun _ => r_pick rfl rfl (fun h => by cases h) (fun _ => rfl)) hp ?_
 refine gU 6 (.bool false) rfl (fun _ => r_move rfl rfl) hp ?_
 refine gS 7 rfl hp ?_
 refine gS 8 rfl hp ?_
 refine gS 9 rfl hp ?_
 refine gS 10 rfl hp ?_
 refine gS 11 rfl hp ?_
 refine gS 12 rfl hp ?_
 refine gS 13 rfl hp ?_
 refine gS 14 rfl hp ?_
 refine gS 15 rfl hp ?_
 refine gS 16 rfl hp ?_
 refine gS 17 rfl hp ?_
 refine gU 18 (.bool false) rfl (fun _ => r_pick rfl rfl (fun h => by cases h) (fun _ => rfl)) hp ?_
 refine RG_done (by kernel_rfl) ?_
 show b93J3 r_0 R _ _
 exact ⟨_, h0, rfl, h⟩
 refine HC_draw0 (by kernel_rfl) (fun hp => ?_)
 refine gU 0 (.pointer r_0) rfl (fun _ => r_move rfl rfl) hp ?_
 obtain ⟨r0a__4, rfl, h⟩ := h
 refine gU 1 (.pointer (some r0a__4)) rfl (fun _ => r_nilCheck rfl rfl) hp ?_
 refine gU 2 (.pointer (some (Addr.add r0a__4 1))) rfl (fun _ => w_fieldAddr rfl underlying83 rfl rfl sz3 rfl rfl) hp ?_
 obtain ⟨v_8, hc8, h⟩ := h
 refine gR 3 (.int .i64 v_8) rfl (r_load1 rfl rfl underlying3 rfl hc8) hp (fun S3 q3 => ?_)
 replace hp := holdC (i := 3) (q3 _ (r_load1 rfl rfl underlying3 rfl hc8)) hp
 refine gU 4 (.pointer (some r0a__4)) rfl (fun _ => r_move rfl rfl) hp ?_
 refine gU 5 (.pointer (some r0a__4)) rfl (fun _ => r_nilCheck rfl rfl) hp ?_
 refine gU 6 (.pointer (some r0a__4)) rfl (fun _ => w_fieldAddr rfl underlying83 rfl rfl sz9 rfl rfl) hp ?_
 obtain ⟨v_12, hc12, h⟩ := h
 refine gR 7 (.string v_12) rfl (r_load1 rfl rfl underlying9 rfl hc12) hp (fun S7 q7 => ?_)
 replace hp := holdC (i := 7) (q7 _ (r_load1 rfl rfl underlying9 rfl hc12)) hp
 refine gU 8 (.int .i64 (v_12.size : Int)) rfl (fun _ => r_lenStr rfl rfl underlying9) hp ?_
 refine gU 9 (.bool (decide (v_8 < (v_12.size : Int)))) rfl (fun _ => r_lss rfl rfl rfl) hp ?_
 refine gU 10 (.bool (decide (v_8 < (v_12.size : Int)))) rfl (fun _ => r_move rfl rfl) hp ?_
 by_cases hc : v_8 < (v_12.size : Int)
 replace h := h.1 hc
 refine RG_known (t := 14) (v := .bool true) (congrArg Value.bool (decide_eq_true hc)) ?_
 refine RG_known (t := 15) (v := .bool true) (congrArg Value.bool (decide_eq_true hc)) ?_
 refine gU 11 (.pointer (some r0a__4)) rfl (fun _ => r_move rfl rfl) hp ?_
 refine gU 12 (.pointer (some r0a__4)) rfl (fun _ => r_nilCheck rfl rfl) hp ?_
 refine gU 13 (.pointer (some r0a__4)) rfl (fun _ => w_fieldAddr rfl underlying83 rfl rfl sz9 rfl rfl) hp ?_
 obtain ⟨v_19, hc19, h⟩ := h
 refine gR 14 (.string v_19) rfl (r_load1 rfl rfl underlying9 rfl hc19) hp (fun S14 q14 => ?_)
 replace hp := holdC (i := 14) (q14 _ (r_load1 rfl rfl underlying9 rfl hc19)) hp
 refine gU 15 (.pointer (some r0a__4)) rfl (fun _ => r_move rfl rfl) hp ?_
 refine gU 16 (.pointer (some r0a__4)) rfl (fun _ => r_nilCheck rfl rfl) hp ?_
 refine gU 17 (.pointer (some (Addr.add r0a__4 1))) rfl (fun _ => w_fieldAddr rfl underlying83 rfl rfl sz3 rfl rfl) hp ?_
 obtain ⟨v_23, hc23, h⟩ := h
 refine gR 18 (.int .i64 v_23) rfl (r_load1 rfl rfl underlying3 rfl hc23) hp (fun S18 q18 => ?_)
 replace hp := holdC (i := 18) (q18 _ (r_load1 rfl rfl underlying3 rfl hc23)) hp
 obtain ⟨hl24, hu24, hx24, v_24, hv24, h⟩ := h
 refine gU 19 (.int .u8 v_24) rfl (fun _ => w_indexStr rfl rfl underlying9 hl24 hu24 hv24) hp ?_
 refine RG_eff1 (i := 20) (by kernel_rfl) (g_op (Sp' := [(18, S18), (14, S14), (7, S7), (3, S3)]) rfl rfl (k_call (vs := [(.int .u8 v_24)]) cb74 (evC rfl evN) (h.mono ?_)))
 clear h; rintro v F ⟨v_25, rfl, h⟩
 obtain ⟨hk_45, hk_46, hk_47, hk_48, h⟩ := h
 refine holdI (holdC (i := 18) (q18 _ (r_load1 rfl rfl underlying3 rfl hk_45)) (holdC (i := 14) (q14 _ (r_load1 rfl rfl underlying9 rfl hk_46)) (holdC (i := 7) (q7 _ (r_load1 rfl rfl underlying9 rfl hk_47)) (holdC (i := 3) (q3 _ (r_load1 rfl rfl underlying3 rfl hk_48)) hold0)))) (fun hp => ?_)
 refine gU 21 (.bool v_25) rfl (fun _ => r_pick rfl rfl (fun _ => rfl) (fun h => by cases h)) hp ?_
 refine RG_done (by kernel_rfl) ?_
 show b93J1 (some r0a__4) R _ _
 exact ⟨_, rfl, rfl, h⟩
 replace h := h.2 hc
 refine RG_known (t := 14) (v := .bool false) (congrArg Value.bool (decide_eq_false hc)) ?_
 refine RG_known (t := 15) (v := .bool false) (congrArg Value.bool (decide_eq_false hc)) ?_
 refine gS 11 rfl hp ?_
 refine gS 12 rfl hp ?_
 refine gS 13 rfl hp ?_
 refine gS 14 rfl hp ?_
 refine gS 15 rfl hp ?_
 refine gS 16 rfl hp ?_
 refine gS 17 rfl hp ?_
 refine gS 18 rfl hp ?_
 refine gS 19 rfl hp ?_
 refine gS 20 rfl hp ?_
 refine gU 21 (.bool false) rfl (fun _ => r_pick rfl rfl (fun h => by cases h) (fun _ => rfl)) hp ?_
 refine RG_done (by kernel_rfl) ?_
 show b93J1 (some r0a__4) R _ _
 exact ⟨_, rfl, rfl, h⟩
 /- 91 (*koine.pattern.reader).atom -/
def b91j2 (i_3_1 : Int) (R : VP) (F : PH) :=
 R (.int .i64 i_3_1) F
abbrev b91J2 (R : VP) (E : En) (F : PH) : Prop := ∃ i_3_1 : Int, E 3 = (.int .i64 i_3_1) ∧ b91j2 i_3_1 R F
def b91L1 (N1 : Int → PH → Prop) (r_0 : Option Addr) (R : VP) (i_3_2 : Int) (F : PH) :=
 ∃ r0a_ : Addr, r_0 = some r0a_ ∧ ∃ v_75 : Bool, F.cell (Addr.add r0a_ 3) = some (.bool v_75) ∧
 (((!v_75) = true →
  Spec prog 78 #[(.pointer (some r0a_)), (.int .u8 42)] F fun v F => ∃ v_79 : Bool, v = (.bool v_79) ∧
  ((v_79 = true →
   Spec prog 79 #[(.pointer (some r0a_)), (.agg (#[(.int .i64 4), .int .i64 0, .int .i64 0, (.int .i64 i_3_2), .int .i64 0] : Array Value))] F fun v F => ∃ v_84 : Int, v = (.int .i64 v_84) ∧
   N1 v_84 F) ∧
  (v_79 = false →
   b91j2 i_3_2 R F))) ∧
 ((!v_75) = false →
  b91j2 i_3_2 R F))
def b91j1 (r_0 : Option Addr) (i_3 : Int) (R : VP) (F : PH) :=
 (∃ (I1 : Nat → Int → PH → Prop) (m1 : Nat), I1 m1 i_3 F ∧ ∀ m1 i_3_2 F, I1 m1 i_3_2 F →
  b91L1 (nx1 I1 m1) r_0 R i_3_2 F)
abbrev b91J1 (r_0 : Option Addr) (R : VP) (E : En) (F : PH) : Prop := ∃ i_3 : Int, E 0 = (.pointer r_0) ∧ E 3 = (.int .i64 i_3) ∧ b91j1 r_0 i_3 R F
def b91j3 (r_0 : Option Addr) (v_19 : Int) (v_23 : Int) (R : VP) (F : PH) :=
 Spec prog 79 #[(.pointer r_0), (.agg (#[(.int .i64 1), (.int .i64 v_19), (.int .i64 v_23), .int .i64 0, .int .i64 0] : Array Value))] F fun v F => ∃ v_49 : Int, v = (.int .i64 v_49) ∧
 b91j1 r_0 v_49 R F
abbrev b91J3 (r_0 : Option Addr) (v_19 : Int) (v_23 : Int) (R : VP) (E : En) (F : PH) : Prop := E 0 = (.pointer r_0) ∧ E 4 = (.int .i64 v_19) ∧ E 6 = (.int .i64 v_23) ∧ b91j3 r_0 v_19 v_23 R F
def b91 (r_0 : Option Addr) (R : VP) (F : PH) :=
 Spec prog 78 #[(.pointer r_0), (.int .u8 91)] F fun v F => ∃ v_17 : Bool, v = (.bool v_17) ∧
 ((v_17 = true →
  Spec prog 93 #[(.pointer r_0)] F fun v F => ∃ v_19 : Int, v = (.int .i64 v_19) ∧
  Spec prog 78 #[(.pointer r_0), (.int .u8 45)] F fun v F => ∃ v_21 : Bool, v = (.bool v_21) ∧
  Spec prog 93 #[(.pointer r_0)] F fun v F => ∃ v_23 : Int, v = (.int .i64 v_23) ∧
  ∃ r0a__1 : Addr, r_0 = some r0a__1 ∧ ∃ v_28 : Bool, F.cell (Addr.add r0a__1 3) = some (.bool v_28) ∧
  ((v_28 = true →
   ∃ c e, F (Addr.add r0a__1 3).block = some (.cells c e (0, 0)) ∧ (Addr.add r0a__1 3).spot = none ∧ (Addr.add r0a__1 3).off < c.size ∧
   atF (F.set (Addr.add r0a__1 3).block (.cells (c.setIfInBounds (Addr.add r0a__1 3).off (.bool true)) e)) fun F =>
   b91j3 (some r0a__1) v_19 v_23 R F) ∧
  (v_28 = false →
   (((!v_21) = true →
    ∃ c e, F (Addr.add r0a__1 3).block = some (.cells c e (0, 0)) ∧ (Addr.add r0a__1 3).spot = none ∧ (Addr.add r0a__1 3).off < c.size ∧
    atF (F.set (Addr.add r0a__1 3).block (.cells (c.setIfInBounds (Addr.add r0a__1 3).off (.bool true)) e)) fun F =>
    b91j3 (some r0a__1) v_19 v_23 R F) ∧
   ((!v_21) = false →
    Spec prog 78 #[(.pointer (some r0a__1)), (.int .u8 93)] F fun v F => ∃ v_35 : Bool, v = (.bool v_35) ∧
    (((!v_35) = true →
     ∃ c e, F (Addr.add r0a__1 3).block = some (.cells c e (0, 0)) ∧ (Addr.add r0a__1 3).spot = none ∧ (Addr.add r0a__1 3).off < c.size ∧
     atF (F.set (Addr.add r0a__1 3).block (.cells (c.setIfInBounds (Addr.add r0a__1 3).off (.bool true)) e)) fun F =>
     b91j3 (some r0a__1) v_19 v_23 R F) ∧
    ((!v_35) = false →
     ∃ c e, F (Addr.add r0a__1 3).block = some (.cells c e (0, 0)) ∧ (Addr.add r0a__1 3).spot = none ∧ (Addr.add r0a__1 3).off < c.size ∧
     atF (F.set (Addr.add r0a__1 3).block (.cells (c.setIfInBounds (Addr.add r0a__1 3).off (.bool (decide (v_23 < v_19)))) e)) fun F =>
     b91j3 (some r0a__1) v_19 v_23 R F))))))) ∧
 (v_17 = false →
  Spec prog 78 #[(.pointer r_0), (.int .u8 40)] F fun v F => ∃ v_52 : Bool, v = (.bool v_52) ∧
  ((v_52 = true →
   Spec prog 78 #[(.pointer r_0), (.int .u8 41)] F fun v F => ∃ v_54 : Bool, v = (.bool v_54) ∧
   ((v_54 = true →
    Spec prog 79 #[(.pointer r_0), (.agg (#[(.int .i64 0), .int .i64 0, .int .i64 0, .int .i64 0, .int .i64 0] : Array Value))] F fun v F => ∃ v_57 : Int, v = (.int .i64 v_57) ∧
    b91j1 r_0 v_57 R F) ∧
   (v_54 = false →
    Spec prog 55 #[(.pointer r_0)] F fun v F => ∃ v_59 : Int, v = (.int .i64 v_59) ∧
    ∃ r0a__2 : Addr, r_0 = some r0a__2 ∧ ∃ v_64 : Bool, F.cell (Addr.add r0a__2 3) = some (.bool v_64) ∧
    ((v_64 = true →
     ∃ c e, F (Addr.add r0a__2 3).block = some (.cells c e (0, 0)) ∧ (Addr.add r0a__2 3).spot = none ∧ (Addr.add r0a__2 3).off < c.size ∧
     atF (F.set (Addr.add r0a__2 3).block (.cells (c.setIfInBounds (Addr.add r0a__2 3).off (.bool true)) e)) fun F =>
     b91j1 (some r0a__2) v_59 R F) ∧
    (v_64 = false →
     Spec prog 78 #[(.pointer (some r0a__2)), (.int .u8 41)] F fun v F => ∃ v_67 : Bool, v = (.bool v_67) ∧
     ∃ c e, F (Addr.add r0a__2 3).block = some (.cells c e (0, 0)) ∧ (Addr.add r0a__2 3).spot = none ∧ (Addr.add r0a__2 3).off < c.size ∧
     atF (F.set (Addr.add r0a__2 3).block (.cells (c.setIfInBounds (Addr.add r0a__2 3).off (.bool (!v_67))) e)) fun F =>
     b91j1 (some r0a__2) v_59 R F))))) ∧
  (v_52 = false →
   Spec prog 93 #[(.pointer r_0)] F fun v F => ∃ v_9 : Int, v = (.int .i64 v_9) ∧
   Spec prog 79 #[(.pointer r_0), (.agg (#[(.int .i64 1), (.int .i64 v_9), (.int .i64 v_9), .int .i64 0, .int .i64 0] : Array Value))] F fun v F => ∃ v_14 : Int, v = (.int .i64 v_14) ∧
   b91j1 r_0 v_14 R F))))
theorem c91 {r_0 : Option Addr} {R : VP} {F : PH} (h : b91 r_0 R F) : Spec prog 91 #[(.pointer r_0)] F R := by
 refine spec_of (args := [(.pointer r_0)]) func91 rfl ntmps91 rfl ?_
 unfold b91 at h
 refine cR (sR (.int .i64 0) (r_assign rfl rfl) ?_)
 refine HL_nil ?_
 refine cR (sR (.int .i64 0) (r_assign rfl rfl) ?_)
 refine HL_nil ?_
 refine HC_seqJ (b91J1 r_0 R) ?_ ?_
 clear h; rintro E F ⟨i_3, h0, h3, h⟩
 unfold b91j1 at h
 refine HC_seqJ (b91J2 R) ?_ ?_
 clear h; rintro E F ⟨i_3_1, h3, h⟩
 unfold b91j2 at h
 refine cR (sR _ (r_move rfl h3) ?_)
 refine sR (.int .i64 i_3_1) (r_assign rfl rfl) ?_
 exact HL_nil (HC_ret (rt1 f91 R rfl rfl h))
 refine HC_block ?_
 obtain ⟨I1, m1, hI0, hr⟩ := h
 refine HC_loop (fun m1 E F => ∃ i_3_2 : Int, E 0 = (.pointer r_0) ∧ E 3 = (.int .i64 i_3_2) ∧ I1 m1 i_3_2 F) m1 ⟨_, h0, h3, hI0⟩ ?_
 clear hI0; rintro m1 E F ⟨i_3_2, h0, h3, hI⟩
 have h := hr m1 i_3_2 F hI
 clear hr hI
 unfold b91L1 at h
 refine HC_seq ?_
 refine cR (sR _ (r_move rfl h0) ?_)
 obtain ⟨r0a_, rfl, h⟩ := h
 refine sR (.pointer (some r0a_)) (r_nilCheck rfl rfl) ?_
 refine sR (.pointer (some (Addr.add r0a_ 3))) (w_fieldAddr rfl underlying83 rfl rfl sz4 rfl rfl) ?_
 obtain ⟨v_75, hc75, h⟩ := h
 refine sR (.bool v_75) (r_load1 rfl rfl underlying4 rfl hc75) ?_
 refine sR (.bool (!v_75)) (r_not rfl rfl) ?_
 refine sR (.bool (!v_75)) (r_move rfl rfl) ?_
 by_cases hc : (!v_75) = true
 replace h := h.1 hc
 refine kN 76 hc ?_
 refine kN 77 hc ?_
 refine sR _ (r_move rfl h0) ?_
 refine s_ef (k_call (vs := [(.pointer (some r0a_)), (.int .u8 42)]) cb78 (evC rfl (evC rfl evN)) (h.mono ?_))
 clear h; rintro v F ⟨v_79, rfl, h⟩
 refine sR (.bool v_79) (r_pt rfl rfl) ?_
 refine HL_nil ?_
 refine HC_cond (t := v_79) rfl (fun hc => ?_) (fun hc => ?_)
 replace h := h.1 hc
 clear hc
 refine HC_skip ?_
 refine HC_block ?_
 refine HC_region ?_
 refine sR _ (r_move rfl h0) ?_
 refine sR _ (r_move rfl h3) ?_
 refine sR (.agg (#[(.int .i64 4), .int .i64 0, .int .i64 0, (.int .i64 i_3_2), .int .i64 0] : Array Value)) (w_buildStruct (cells := #[(.int .i64 4), .int .i64 0, .int .i64 0, (.int .i64 i_3_2), .int .i64 0]) underlying50 zr50 kf50 (evPC rfl (evPC rfl evPN)) (fill1 (place_of rfl rfl sz3) rfl rfl (fill1 (place_of rfl rfl sz3) rfl rfl (fillN rfl)))) ?_
 refine s_ef (k_call (vs := [(.pointer (some r0a_)), (.agg (#[(.int .i64 4), .int .i64 0, .int .i64 0, (.int .i64 i_3_2), .int .i64 0] : Array Value))]) cb79 (evC rfl (evC rfl evN)) (h.mono ?_))
 clear h; rintro v F ⟨v_84, rfl, h⟩
 refine sR (.int .i64 v_84) (r_assign rfl rfl) ?_
 refine HL_nil ?_
 obtain ⟨m', hm, h⟩ := h
 exact ⟨m', hm, _, h0, rfl, h⟩
 replace h := h.2 hc
 clear hc
 refine HC_exit ?_
 show b91J2 R _ _
 exact ⟨_, h3, h⟩
 replace hc := eq_false_of_ne_true hc; replace h := h.2 hc
 refine kN 76 hc ?_
 refine kN 77 hc ?_
 iterate 2 refine s_skip ?_
 refine sR (.bool false) (r_pf rfl rfl) ?_
 refine HL_nil ?_
 refine HC_condF rfl ?_
 refine HC_exit ?_
 show b91J2 R _ _
 exact ⟨_, h3, h⟩
 refine HC_block ?_
 refine cR (sR (.pointer r_0) (r_move rfl rfl) ?_)
 refine s_ef (k_call (vs := [(.pointer r_0), (.int .u8 91)]) cb78 (evC rfl (evC rfl evN)) (h.mono ?_))
 clear h; rintro v F ⟨v_17, rfl, h⟩
 refine sR (.bool v_17) (r_assign rfl rfl) ?_
 refine HL_nil ?_
 refine HC_cond (t := v_17) rfl (fun hc => ?_) (fun hc => ?_)
 replace h := h.1 hc
 clear hc
 refine cR (sR (.pointer r_0) (r_move rfl rfl) ?_)
 refine s_ef (k_call (vs := [(.pointer r_0)]) cb93 (evC rfl evN) (h.mono ?_))
 clear h; rintro v F ⟨v_19, rfl, h⟩
 refine sR (.int .i64 v_19) (r_assign rfl rfl) ?_
 refine HL_nil ?_
 refine cR (sR (.pointer r_0) (r_move rfl rfl) ?_)
 refine s_ef (k_call (vs := [(.pointer r_0), (.int .u8 45)]) cb78 (evC rfl (evC rfl evN)) (h.mono ?_))
 clear h; rintro v F ⟨v_21, rfl, h⟩
 refine sR (.bool v_21) (r_assign rfl rfl) ?_
 refine HL_nil ?_
 refine cR (sR (.pointer r_0) (r_move rfl rfl) ?_)
 refine s_ef (k_call (vs := [(.pointer r_0)]) cb93 (evC rfl evN) (h.mono ?_))
 clear h; rintro v F ⟨v_23, rfl, h⟩
 refine sR (.int .i64 v_23) (r_assign rfl rfl) ?_
 refine HL_nil ?_
 refine HC_seqJ (b91J3 r_0 v_19 v_23 R) ?_ ?_
 clear h; rintro E F ⟨h0, h4, h6, h⟩
 unfold b91j3 at h
 refine HC_region ?_
 refine sR _ (r_move rfl h0) ?_
 refine sR _ (r_move rfl h4) ?_
 refine sR _ (r_move rfl h6) ?_
 refine sR (.agg (#[(.int .i64 1), (.int .i64 v_19), (.int .i64 v_23), .int .i64 0, .int .i64 0] : Array Value)) (w_buildStruct (cells := #[(.int .i64 1), (.int .i64 v_19), (.int .i64 v_23), .int .i64 0, .int .i64 0]) underlying50 zr50 kf50 (evPC rfl (evPC rfl (evPC rfl evPN))) (fill1 (place_of rfl rfl sz3) rfl rfl (fill1 (place_of rfl rfl sz3) rfl rfl (fill1 (place_of rfl rfl sz3) rfl rfl (fillN rfl))))) ?_
 refine s_ef (k_call (vs := [(.pointer r_0), (.agg (#[(.int .i64 1), (.int .i64 v_19), (.int .i64 v_23), .int .i64 0, .int .i64 0] : Array Value))]) cb79 (evC rfl (evC rfl evN)) (h.mono ?_))
 clear h; rintro v F ⟨v_49, rfl, h⟩
 refine sR (.int .i64 v_49) (r_assign rfl rfl) ?_
 refine HL_nil ?_
 show b91J1 r_0 R _ _
 exact ⟨_, h0, rfl, h⟩
 refine HC_region ?_
 refine sR (.pointer r_0) (r_move rfl rfl) ?_
 refine sR (.pointer r_0) (r_move rfl rfl) ?_
 obtain ⟨r0a__1, rfl, h⟩ := h
 refine sR (.pointer (some r0a__1)) (r_nilCheck rfl rfl) ?_
 refine sR (.pointer (some (Addr.add r0a__1 3))) (w_fieldAddr rfl underlying83 rfl rfl sz4 rfl rfl) ?_
 obtain ⟨v_28, hc28, h⟩ := h
 refine sR (.bool v_28) (r_load1 rfl rfl underlying4 rfl hc28) ?_
 refine sR (.bool v_28) (r_move rfl rfl) ?_
 by_cases hc : v_28 = true
 replace h := h.1 hc
 refine kN 28 hc ?_
 refine kN 29 hc ?_
 iterate 2 refine s_skip ?_
 refine sR (.bool true) (r_pt rfl rfl) ?_
 refine sR (.bool true) (r_move rfl rfl) ?_
 iterate 3 refine s_skip ?_
 refine sR (.bool true) (r_pt rfl rfl) ?_
 refine sR (.bool true) (r_move rfl rfl) ?_
 iterate 3 refine s_skip ?_
 refine sR (.bool true) (r_pt rfl rfl) ?_
 refine sR (.pointer (some r0a__1)) (r_nilCheck rfl rfl) ?_
 refine sR (.pointer (some (Addr.add r0a__1 3))) (w_fieldAddr rfl underlying83 rfl rfl sz4 rfl rfl) ?_
 refine s_ef0 (k_store1 (v := (.bool true)) rfl rfl sz4 rfl st_bool ?_)
 obtain ⟨c, e, hz3, hz4, hz5, h⟩ := h
 refine ⟨c, e, hz3, hz4, hz5, ?_⟩
 replace h := atE h
 refine HL_nil ?_
 show b91J3 (some r0a__1) v_19 v_23 R _ _
 exact ⟨rfl, rfl, rfl, h⟩
 replace hc := eq_false_of_ne_true hc; replace h := h.2 hc
 refine kN 28 hc ?_
 refine kN 29 hc ?_
 refine sR (.bool v_21) (r_move rfl rfl) ?_
 refine sR (.bool (!v_21)) (r_not rfl rfl) ?_
 refine sR (.bool (!v_21)) (r_pf rfl rfl) ?_
 refine sR (.bool (!v_21)) (r_move rfl rfl) ?_
 by_cases hc : (!v_21) = true
 replace h := h.1 hc
 refine kN 31 hc ?_
 refine kN 32 hc ?_
 refine kN 33 hc ?_
 iterate 3 refine s_skip ?_
 refine sR (.bool true) (r_pt rfl rfl) ?_
 refine sR (.bool true) (r_move rfl rfl) ?_
 iterate 3 refine s_skip ?_
 refine sR (.bool true) (r_pt rfl rfl) ?_
 refine sR (.pointer (some r0a__1)) (r_nilCheck rfl rfl) ?_
 refine sR (.pointer (some (Addr.add r0a__1 3))) (w_fieldAddr rfl underlying83 rfl rfl sz4 rfl rfl) ?_
 refine s_ef0 (k_store1 (v := (.bool true)) rfl rfl sz4 rfl st_bool ?_)
 obtain ⟨c, e, hz3, hz4, hz5, h⟩ := h
 refine ⟨c, e, hz3, hz4, hz5, ?_⟩
 replace h := atE h
 refine HL_nil ?_
 show b91J3 (some r0a__1) v_19 v_23 R _ _
 exact ⟨rfl, rfl, rfl, h⟩
 replace hc := eq_false_of_ne_true hc; replace h := h.2 hc
 refine kN 31 hc ?_
 refine kN 32 hc ?_
 refine kN 33 hc ?_
 refine sR (.pointer (some r0a__1)) (r_move rfl rfl) ?_
 refine s_ef (k_call (vs := [(.pointer (some r0a__1)), (.int .u8 93)]) cb78 (evC rfl (evC rfl evN)) (h.mono ?_))
 clear h; rintro v F ⟨v_35, rfl, h⟩
 refine sR (.bool (!v_35)) (r_not rfl rfl) ?_
 refine sR (.bool (!v_35)) (r_pf rfl rfl) ?_
 refine sR (.bool (!v_35)) (r_move rfl rfl) ?_
 by_cases hc : (!v_35) = true
 replace h := h.1 hc
 refine kN 36 hc ?_
 refine kN 37 hc ?_
 refine kN 38 hc ?_
 iterate 3 refine s_skip ?_
 refine sR (.bool true) (r_pt rfl rfl) ?_
 refine sR (.pointer (some r0a__1)) (r_nilCheck rfl rfl) ?_
 refine sR (.pointer (some (Addr.add r0a__1 3))) (w_fieldAddr rfl underlying83 rfl rfl sz4 rfl rfl) ?_
 refine s_ef0 (k_store1 (v := (.bool true)) rfl rfl sz4 rfl st_bool ?_)
 obtain ⟨c, e, hz3, hz4, hz5, h⟩ := h
 refine ⟨c, e, hz3, hz4, hz5, ?_⟩
 replace h := atE h
 refine HL_nil ?_
 show b91J3 (some r0a__1) v_19 v_23 R _ _
 exact ⟨rfl, rfl, rfl, h⟩
 replace hc := eq_false_of_ne_true hc; replace h := h.2 hc
 refine kN 36 hc ?_
 refine kN 37 hc ?_
 refine kN 38 hc ?_
 refine sR (.int .i64 v_19) (r_move rfl rfl) ?_
 refine sR (.int .i64 v_23) (r_move rfl rfl) ?_
 refine sR (.bool (decide (v_23 < v_19))) (r_gtr rfl rfl rfl) ?_
 refine sR (.bool (decide (v_23 < v_19))) (r_pf rfl rfl) ?_
 refine sR (.pointer (some r0a__1)) (r_nilCheck rfl rfl) ?_
 refine sR (.pointer (some (Addr.add r0a__1 3))) (w_fieldAddr rfl underlying83 rfl rfl sz4 rfl rfl) ?_
 refine s_ef0 (k_store1 (v := (.bool (decide (v_23 < v_19)))) rfl rfl sz4 rfl st_bool ?_)
 obtain ⟨c, e, hz3, hz4, hz5, h⟩ := h
 refine ⟨c, e, hz3, hz4, hz5, ?_⟩
 replace h := atE h
 refine HL_nil ?_
 show b91J3 (some r0a__1) v_19 v_23 R _ _
 exact ⟨rfl, rfl, rfl, h⟩
 replace h := h.2 hc
 clear hc
 refine cR (sR (.pointer r_0) (r_move rfl rfl) ?_)
 refine s_ef (k_call (vs := [(.pointer r_0), (.int .u8 40)]) cb78 (evC rfl (evC rfl evN)) (h.mono ?_))
 clear h; rintro v F ⟨v_52, rfl, h⟩
 refine sR (.bool v_52) (r_assign rfl rfl) ?_
 refine HL_nil ?_
 refine HC_cond (t := v_52) rfl (fun hc => ?_) (fun hc => ?_)
 replace h := h.1 hc
 clear hc
 refine HC_seq ?_
 refine cR (sR (.pointer r_0) (r_move rfl rfl) ?_)
 refine s_ef (k_call (vs := [(.pointer r_0), (.int .u8 41)]) cb78 (evC rfl (evC rfl evN)) (h.mono ?_))
 clear h; rintro v F ⟨v_54, rfl, h⟩
 refine HL_nil ?_
 refine HC_cond (t := v_54) rfl (fun hc => ?_) (fun hc => ?_)
 replace h := h.1 hc
 clear hc
 refine cR (sR (.pointer r_0) (r_move rfl rfl) ?_)
 refine sR (.agg (#[(.int .i64 0), .int .i64 0, .int .i64 0, .int .i64 0, .int .i64 0] : Array Value)) (w_buildStruct (cells := #[(.int .i64 0), .int .i64 0, .int .i64 0, .int .i64 0, .int .i64 0]) underlying50 zr50 kf50 (evPC rfl evPN) (fill1 (place_of rfl rfl sz3) rfl rfl (fillN rfl))) ?_
 refine s_ef (k_call (vs := [(.pointer r_0), (.agg (#[(.int .i64 0), .int .i64 0, .int .i64 0, .int .i64 0, .int .i64 0] : Array Value))]) cb79 (evC rfl (evC rfl evN)) (h.mono ?_))
 clear h; rintro v F ⟨v_57, rfl, h⟩
 refine sR (.int .i64 v_57) (r_assign rfl rfl) ?_
 refine HL_nil ?_
 refine HC_exit ?_
 show b91J1 r_0 R _ _
 exact ⟨_, rfl, rfl, h⟩
 replace h := h.2 hc
 clear hc
 refine HC_skip ?_
 refine cR (sR (.pointer r_0) (r_move rfl rfl) ?_)
 refine s_ef (k_call (vs := [(.pointer r_0)]) cb55 (evC rfl evN) (h.mono ?_))
 clear h; rintro v F ⟨v_59, rfl, h⟩
 refine sR (.int .i64 v_59) (r_assign rfl rfl) ?_
 refine HL_nil ?_
 refine HC_region ?_
 refine sR (.pointer r_0) (r_move rfl rfl) ?_
 refine sR (.pointer r_0) (r_move rfl rfl) ?_
 obtain ⟨r0a__2, rfl, h⟩ := h
 refine sR (.pointer (some r0a__2)) (r_nilCheck rfl rfl) ?_
 refine sR (.pointer (some (Addr.add r0a__2 3))) (w_fieldAddr rfl underlying83 rfl rfl sz4 rfl rfl) ?_
 obtain ⟨v_64, hc64, h⟩ := h
 refine sR (.bool v_64) (r_load1 rfl rfl underlying4 rfl hc64) ?_
 refine sR (.bool v_64) (r_move rfl rfl) ?_
 by_cases hc : v_64 = true
 replace h := h.1 hc
 refine kN 64 hc ?_
 refine kN 65 hc ?_
 iterate 3 refine s_skip ?_
 refine sR (.bool true) (r_pt rfl rfl) ?_
 refine sR (.pointer (some r0a__2)) (r_nilCheck rfl rfl) ?_
 refine sR (.pointer (some (Addr.add r0a__2 3))) (w_fieldAddr rfl underlying83 rfl rfl sz4 rfl rfl) ?_
 refine s_ef0 (k_store1 (v := (.bool true)) rfl rfl sz4 rfl st_bool ?_)
 obtain ⟨c, e, hz3, hz4, hz5, h⟩ := h
 refine ⟨c, e, hz3, hz4, hz5, ?_⟩
 replace h := atE h
 refine HL_nil ?_
 show b91J1 (some r0a__2) R _ _
 exact ⟨_, rfl, rfl, h⟩
 replace hc := eq_false_of_ne_true hc; replace h := h.2 hc
 refine kN 64 hc ?_
 refine kN 65 hc ?_
 refine sR (.pointer (some r0a__2)) (r_move rfl rfl) ?_
 refine s_ef (k_call (vs := [(.pointer (some r0a__2)), (.int .u8 41)]) cb78 (evC rfl (evC rfl evN)) (h.mono ?_))
 clear h; rintro v F ⟨v_67, rfl, h⟩
 refine sR (.bool (!v_67)) (r_not rfl rfl) ?_
 refine sR (.bool (!v_67)) (r_pf rfl rfl) ?_
 refine sR (.pointer (some r0a__2)) (r_nilCheck rfl rfl) ?_
 refine sR (.pointer (some (Addr.add r0a__2 3))) (w_fieldAddr rfl underlying83 rfl rfl sz4 rfl rfl) ?_
 refine s_ef0 (k_store1 (v := (.bool (!v_67))) rfl rfl sz4 rfl st_bool ?_)
 obtain ⟨c, e, hz3, hz4, hz5, h⟩ := h
 refine ⟨c, e, hz3, hz4, hz5, ?_⟩
 replace h := atE h
 refine HL_nil ?_
 show b91J1 (some r0a__2) R _ _
 exact ⟨_, rfl, rfl, h⟩
 replace h := h.2 hc
 clear hc
 refine cR (sR (.pointer r_0) (r_move rfl rfl) ?_)
 refine s_ef (k_call (vs := [(.pointer r_0)]) cb93 (evC rfl evN) (h.mono ?_))
 clear h; rintro v F ⟨v_9, rfl, h⟩
 refine sR (.int .i64 v_9) (r_assign rfl rfl) ?_
 refine HL_nil ?_
 refine HC_region ?_
 refine sR (.pointer r_0) (r_move rfl rfl) ?_
 refine sR (.int .i64 v_9) (r_move rfl rfl) ?_
 refine sR (.int .i64 v_9) (r_move rfl rfl) ?_
 refine sR (.agg (#[(.int .i64 1), (.int .i64 v_9), (.int .i64 v_9), .int .i64 0, .int .i64 0] : Array Value)) (w_buildStruct (cells := #[(.int .i64 1), (.int .i64 v_9), (.int .i64 v_9), .int .i64 0, .int .i64 0]) underlying50 zr50 kf50 (evPC rfl (evPC rfl (evPC rfl evPN))) (fill1 (place_of rfl rfl sz3) rfl rfl (fill1 (place_of rfl rfl sz3) rfl rfl (fill1 (place_of rfl rfl sz3) rfl rfl (fillN rfl))))) ?_
 refine s_ef (k_call (vs := [(.pointer r_0), (.agg (#[(.int .i64 1), (.int .i64 v_9), (.int .i64 v_9), .int .i64 0, .int .i64 0] : Array Value))]) cb79 (evC rfl (evC rfl evN)) (h.mono ?_))
 clear h; rintro v F ⟨v_14, rfl, h⟩
 refine sR (.int .i64 v_14) (r_assign rfl rfl) ?_
 refine HL_nil ?_
 show b91J1 r_0 R _ _
 exact ⟨_, rfl, rfl, h⟩
 /- 77 (*koine.pattern.reader).sequence -/
def b77j1 (i_3 : Int) (R : VP) (F : PH) :=
 R (.int .i64 i_3) F
abbrev b77J1 (R : VP) (E : En) (F : PH) : Prop := ∃ i_3 : Int, E 3 = (.int .i64 i_3) ∧ b77j1 i_3 R F
def b77L1 (N1 : Int → PH → Prop) (r_0 : Option Addr) (R : VP) (i_3_1 : Int) (F : PH) :=
 ∃ r0a_ : Addr, r_0 = some r0a_ ∧ ∃ v_10 : Bool, F.cell (Addr.add r0a_ 3) = some (.bool v_10) ∧
 (((!v_10) = true →
  ∃ v_16 : Int, F.cell (Addr.add r0a_ 1) = some (.int .i64 v_16) ∧
  ∃ v_20 : ByteArray, F.cell r0a_ = some (.string v_20) ∧
  ((v_16 < (v_20.size : Int) →
   ∃ v_28 : ByteArray, F.cell r0a_ = some (.string v_28) ∧
   ∃ v_32 : Int, F.cell (Addr.add r0a_ 1) = some (.int .i64 v_32) ∧
   0 ≤ v_32 ∧ v_32 < (v_28.size : Int) ∧
   ∃ (hx : Int.toNat v_32 < v_28.size) (v_33 : Int), v_33 = ((v_28[Int.toNat v_32]'hx).toNat : Int) ∧
   ((v_33 ≠ 124 →
    ∃ v_40 : ByteArray, F.cell r0a_ = some (.string v_40) ∧
    ∃ v_44 : Int, F.cell (Addr.add r0a_ 1) = some (.int .i64 v_44) ∧
    0 ≤ v_44 ∧ v_44 < (v_40.size : Int) ∧
    ∃ (hx : Int.toNat v_44 < v_40.size) (v_45 : Int), v_45 = ((v_40[Int.toNat v_44]'hx).toNat : Int) ∧
    ((v_45 ≠ 41 →
     Spec prog 91 #[(.pointer (some r0a_))] F fun v F => ∃ v_49 : Int, v = (.int .i64 v_49) ∧
     Spec prog 79 #[(.pointer (some r0a_)), (.agg (#[(.int .i64 2), .int .i64 0, .int .i64 0, (.int .i64 i_3_1), (.int .i64 v_49)] : Array Value))] F fun v F => ∃ v_54 : Int, v = (.int .i64 v_54) ∧
     N1 v_54 F) ∧
    (¬ (v_45 ≠ 41) →
     b77j1 i_3_1 R F))) ∧
   (¬ (v_33 ≠ 124) →
    b77j1 i_3_1 R F))) ∧
  (¬ (v_16 < (v_20.size : Int)) →
   b77j1 i_3_1 R F))) ∧
 ((!v_10) = false →
  b77j1 i_3_1 R F))
def b77 (r_0 : Option Addr) (R : VP) (F : PH) :=
 Spec prog 91 #[(.pointer r_0)] F fun v F => ∃ v_6 : Int, v = (.int .i64 v_6) ∧
 (∃ (I1 : Nat → Int → PH → Prop) (m1 : Nat), I1 m1 v_6 F ∧ ∀ m1 i_3_1 F, I1 m1 i_3_1 F →
  b77L1 (nx1 I1 m1) r_0 R i_3_1 F)
theorem c77 {r_0 : Option Addr} {R : VP} {F : PH} (h : b77 r_0 R F) : Spec prog 77 #[(.pointer r_0)] F R := by
 refine spec_of (args := [(.pointer r_0)]) func77 rfl ntmps77 rfl ?_
 unfold b77 at h
 refine cR (sR (.int .i64 0) (r_assign rfl rfl) ?_)
 refine HL_nil ?_
 refine cR (sR (.pointer r_0) (r_move rfl rfl) ?_)
 refine s_ef (k_call (vs := [(.pointer r_0)]) cb91 (evC rfl evN) (h.mono ?_))
 clear h; rintro v F ⟨v_6, rfl, h⟩
 refine sR (.int .i64 v_6) (r_assign rfl rfl) ?_
 refine HL_nil ?_
 refine HC_seqJ (b77J1 R) ?_ ?_
 clear h; rintro E F ⟨i_3, h3, h⟩
 unfold b77j1 at h
 refine cR (sR _ (r_move rfl h3) ?_)
 refine sR (.int .i64 i_3) (r_assign rfl rfl) ?_
 exact HL_nil (HC_ret (rt1 f77 R rfl rfl h))
 refine HC_block ?_
 obtain ⟨I1, m1, hI0, hr⟩ := h
 refine HC_loop (fun m1 E F => ∃ i_3_1 : Int, E 0 = (.pointer r_0) ∧ E 3 = (.int .i64 i_3_1) ∧ I1 m1 i_3_1 F) m1 ⟨_, rfl, rfl, hI0⟩ ?_
 clear hI0; rintro m1 E F ⟨i_3_1, h0, h3, hI⟩
 have h := hr m1 i_3_1 F hI
 clear hr hI
 unfold b77L1 at h
 refine HC_seq ?_
 refine HC_seq ?_
 refine HC_draw0 (by kernel_rfl) (fun hp => ?_)
 refine gU 0 (.pointer r_0) rfl (fun _ => r_move rfl h0) hp ?_
 obtain ⟨r0a_, rfl, h⟩ := h
 refine gU 1 (.pointer (some r0a_)) rfl (fun _ => r_nilCheck rfl rfl) hp ?_
 refine gU 2 (.pointer (some (Addr.add r0a_ 3))) rfl (fun _ => w_fieldAddr rfl underlying83 rfl rfl sz4 rfl rfl) hp ?_
 obtain ⟨v_10, hc10, h⟩ := h
 refine gR 3 (.bool v_10) rfl (r_load1 rfl rfl underlying4 rfl hc10) hp (fun S3 q3 => ?_)
 replace hp := holdC (i := 3) (q3 _ (r_load1 rfl rfl underlying4 rfl hc10)) hp
 refine gU 4 (.bool (!v_10)) rfl (fun _ => r_not rfl rfl) hp ?_
 refine gU 5 (.bool (!v_10)) rfl (fun _ => r_move rfl rfl) hp ?_
 by_cases hc : (!v_10) = true
 replace h := h.1 hc
 refine RG_known (t := 11) (v := .bool true) (congrArg Value.bool hc) ?_
 refine RG_known (t := 12) (v := .bool true) (congrArg Value.bool hc) ?_
 refine gU 6 (.pointer (some r0a_)) rfl (fun _ => r_move rfl h0) hp ?_
 refine gU 7 (.pointer (some r0a_)) rfl (fun _ => r_nilCheck rfl rfl) hp ?_
 refine gU 8 (.pointer (some (Addr.add r0a_ 1))) rfl (fun _ => w_fieldAddr rfl underlying83 rfl rfl sz3 rfl rfl) hp ?_
 obtain ⟨v_16, hc16, h⟩ := h
 refine gR 9 (.int .i64 v_16) rfl (r_load1 rfl rfl underlying3 rfl hc16) hp (fun S9 q9 => ?_)
 replace hp := holdC (i := 9) (q9 _ (r_load1 rfl rfl underlying3 rfl hc16)) hp
 refine gU 10 (.pointer (some r0a_)) rfl (fun _ => r_move rfl h0) hp ?_
 refine gU 11 (.pointer (some r0a_)) rfl (fun _ => r_nilCheck rfl rfl) hp ?_
 refine gU 12 (.pointer (some r0a_)) rfl (fun _ => w_fieldAddr rfl underlying83 rfl rfl sz9 rfl rfl) hp ?_
 obtain ⟨v_20, hc20, h⟩ := h
 refine gR 13 (.string v_20) rfl (r_load1 rfl rfl underlying9 rfl hc20) hp (fun S13 q13 => ?_)
 replace hp := holdC (i := 13) (q13 _ (r_load1 rfl rfl underlying9 rfl hc20)) hp
 refine gU 14 (.int .i64 (v_20.size : Int)) rfl (fun _ => r_lenStr rfl rfl underlying9) hp ?_
 refine gU 15 (.bool (decide (v_16 < (v_20.size : Int)))) rfl (fun _ => r_lss rfl rfl rfl) hp ?_
 refine gU 16 (.bool (decide (v_16 < (v_20.size : Int)))) rfl (fun _ => r_pick rfl rfl (fun _ => rfl) (fun h => by cases h)) hp ?_
 refine gU 17 (.bool (decide (v_16 < (v_20.size : Int)))) rfl (fun _ => r_move rfl rfl) hp ?_
 by_cases hc : v_16 < (v_20.size : Int)
 replace h := h.1 hc
 refine RG_known (t := 22) (v := .bool true) (congrArg Value.bool (decide_eq_true hc)) ?_
 refine RG_known (t := 23) (v := .bool true) (congrArg Value.bool (decide_eq_true hc)) ?_
 refine RG_known (t := 24) (v := .bool true) (congrArg Value.bool (decide_eq_true hc)) ?_
 refine gU 18 (.pointer (some r0a_)) rfl (fun _ => r_move rfl h0) hp ?_
 refine gU 19 (.pointer (some r0a_)) rfl (fun _ => r_nilCheck rfl rfl) hp ?_
 refine gU 20 (.pointer (some r0a_)) rfl (fun _ => w_fieldAddr rfl underlying83 rfl rfl sz9 rfl rfl) hp ?_
 obtain ⟨v_28, hc28, h⟩ := h
 refine gR 21 (.string v_28) rfl (r_load1 rfl rfl underlying9 rfl hc28) hp (fun S21 q21 => ?_)
 replace hp := holdC (i := 21) (q21 _ (r_load1 rfl rfl underlying9 rfl hc28)) hp
 refine gU 22 (.pointer (some r0a_)) rfl (fun _ => r_move rfl h0) hp ?_
 refine gU 23 (.pointer (some r0a_)) rfl (fun _ => r_nilCheck rfl rfl) hp ?_
 refine gU 24 (.pointer (some (Addr.add r0a_ 1))) rfl (fun _ => w_fieldAddr rfl underlying83 rfl rfl sz3 rfl rfl) hp ?_
 obtain ⟨v_32, hc32, h⟩ := h
 refine gR 25 (.int .i64 v_32) rfl (r_load1 rfl rfl underlying3 rfl hc32) hp (fun S25 q25 => ?_)
 replace hp := holdC (i := 25) (q25 _ (r_load1 rfl rfl underlying3 rfl hc32)) hp
 obtain ⟨hl33, hu33, hx33, v_33, hv33, h⟩ := h
 refine gU 26 (.int .u8 v_33) rfl (fun _ => w_indexStr rfl rfl underlying9 hl33 hu33 hv33) hp ?_
 refine gU 27 (.bool (decide (v_33 ≠ 124))) rfl (fun _ => w_neq rfl rfl) hp ?_
 refine gU 28 (.bool (decide (v_33 ≠ 124))) rfl (fun _ => r_pick rfl rfl (fun _ => rfl) (fun h => by cases h)) hp ?_
 refine gU 29 (.bool (decide (v_33 ≠ 124))) rfl (fun _ => r_move rfl rfl) hp ?_
 by_cases hc : v_33 ≠ 124
 replace h := h.1 hc
 refine RG_known (t := 34) (v := .bool true) (congrArg Value.bool (decide_eq_true hc)) ?_
 refine RG_known (t := 35) (v := .bool true) (congrArg Value.bool (decide_eq_true hc)) ?_
 refine RG_known (t := 36) (v := .bool true) (congrArg Value.bool (decide_eq_true hc)) ?_
 refine gU 30 (.pointer (some r0a_)) rfl (fun _ => r_move rfl h0) hp ?_
 refine gU 31 (.pointer (some r0a_)) rfl (fun _ => r_nilCheck rfl rfl) hp ?_
 refine gU 32 (.pointer (some r0a_)) rfl (fun _ => w_fieldAddr rfl underlying83 rfl rfl sz9 rfl rfl) hp ?_
 obtain ⟨v_40, hc40, h⟩ := h
 refine gR 33 (.string v_40) rfl (r_load1 rfl rfl underlying9 rfl hc40) hp (fun S33 q33 => ?_)
 replace hp := holdC (i := 33) (q33 _ (r_load1 rfl rfl underlying9 rfl hc40)) hp
 refine gU 34 (.pointer (some r0a_)) rfl (fun _ => r_move rfl h0) hp ?_
 refine gU 35 (.pointer (some r0a_)) rfl (fun _ => r_nilCheck rfl rfl) hp ?_
 refine gU 36 (.pointer (some (Addr.add r0a_ 1))) rfl (fun _ => w_fieldAddr rfl underlying83 rfl rfl sz3 rfl rfl) hp ?_
 obtain ⟨v_44, hc44, h⟩ := h
 refine gR 37 (.int .i64 v_44) rfl (r_load1 rfl rfl underlying3 rfl hc44) hp (fun S37 q37 => ?_)
 replace hp := holdC (i := 37) (q37 _ (r_load1 rfl rfl underlying3 rfl hc44)) hp
 obtain ⟨hl45, hu45, hx45, v_45, hv45, h⟩ := h
 refine gU 38 (.int .u8 v_45) rfl (fun _ => w_indexStr rfl rfl underlying9 hl45 hu45 hv45) hp ?_
 refine gU 39 (.bool (decide (v_45 ≠ 41))) rfl (fun _ => w_neq rfl rfl) hp ?_
 refine gU 40 (.bool (decide (v_45 ≠ 41))) rfl (fun _ => r_pick rfl rfl (fun _ => rfl) (fun h => by cases h)) hp ?_
 refine RG_done (by kernel_rfl) ?_
 refine HC_cond (t := (decide (v_45 ≠ 41))) rfl (fun hc => ?_) (fun hc => ?_)
 replace h := h.1 (of_decide_eq_true hc)
 clear hc
 refine HC_skip ?_
 refine HC_block ?_
 refine cR (sR _ (r_move rfl h0) ?_)
 refine s_ef (k_call (vs := [(.pointer (some r0a_))]) cb91 (evC rfl evN) (h.mono ?_))
 clear h; rintro v F ⟨v_49, rfl, h⟩
 refine sR (.int .i64 v_49) (r_assign rfl rfl) ?_
 refine HL_nil ?_
 refine HC_region ?_
 refine sR _ (r_move rfl h0) ?_
 refine sR _ (r_move rfl h3) ?_
 refine sR (.int .i64 v_49) (r_move rfl rfl) ?_
 refine sR (.agg (#[(.int .i64 2), .int .i64 0, .int .i64 0, (.int .i64 i_3_1), (.int .i64 v_49)] : Array Value)) (w_buildStruct (cells := #[(.int .i64 2), .int .i64 0, .int .i64 0, (.int .i64 i_3_1), (.int .i64 v_49)]) underlying50 zr50 kf50 (evPC rfl (evPC rfl (evPC rfl evPN))) (fill1 (place_of rfl rfl sz3) rfl rfl (fill1 (place_of rfl rfl sz3) rfl rfl (fill1 (place_of rfl rfl sz3) rfl rfl (fillN rfl))))) ?_
 refine s_ef (k_call (vs := [(.pointer (some r0a_)), (.agg (#[(.int .i64 2), .int .i64 0, .int .i64 0, (.int .i64 i_3_1), (.int .i64 v_49)] : Array Value))]) cb79 (evC rfl (evC rfl evN)) (h.mono ?_))
 clear h; rintro v F ⟨v_54, rfl, h⟩
 refine sR (.int .i64 v_54) (r_assign rfl rfl) ?_
 refine HL_nil ?_
 obtain ⟨m', hm, h⟩ := h
 exact ⟨m', hm, _, h0, rfl, h⟩
 replace h := h.2 (of_decide_eq_false hc)
 clear hc
 refine HC_exit ?_
 show b77J1 R _ _
 exact ⟨_, h3, h⟩
 replace h := h.2 hc
 refine RG_known (t := 34) (v := .bool false) (congrArg Value.bool (decide_eq_false hc)) ?_
 refine RG_known (t := 35) (v := .bool false) (congrArg Value.bool (decide_eq_false hc)) ?_
 refine RG_known (t := 36) (v := .bool false) (congrArg Value.bool (decide_eq_false hc)) ?_
 refine gS 30 rfl hp ?_
 refine gS 31 rfl hp ?_
 refine gS 32 rfl hp ?_
 refine gS 33 rfl hp ?_
 refine gS 34 rfl hp ?_
 refine gS 35 rfl hp ?_
 refine gS 36 rfl hp ?_
 refine gS 37 rfl hp ?_
 refine gS 38 rfl hp ?_
 refine gS 39 rfl hp ?_
 refine gU 40 (.bool false) rfl (fun _ => r_pick rfl rfl (fun h => by cases h) (fun _ => rfl)) hp ?_
 refine RG_done (by kernel_rfl) ?_
 refine HC_condF rfl ?_
 refine HC_exit ?_
 show b77J1 R _ _
 exact ⟨_, h3, h⟩
 replace h := h.2 hc
 refine RG_known (t := 22) (v := .bool false) (congrArg Value.bool (decide_eq_false hc)) ?_
 refine RG_known (t := 23) (v := .bool false) (congrArg Value.bool (decide_eq_false hc)) ?_
 refine RG_known (t := 24) (v := .bool false) (congrArg Value.bool (decide_eq_false hc)) ?_
 refine gS 18 rfl hp ?_
 refine gS 19 rfl hp ?_
 refine gS 20 rfl hp ?_
 refine gS 21 rfl hp ?_
 refine gS 22 rfl hp ?_
 refine gS 23 rfl hp ?_
 refine gS 24 rfl hp ?_
 refine gS 25 rfl hp ?_
 refine gS 26 rfl hp ?_
 refine gS 27 rfl hp ?_
 refine gU 28 (.bool false) rfl (fun _ => r_pick rfl rfl (fun h => by cases h) (fun _ => rfl)) hp ?_
 refine gU 29 (.bool false) rfl (fun _ => r_move rfl rfl) hp ?_
 refine gS 30 rfl hp ?_
 refine gS 31 rfl hp ?_
 refine gS 32 rfl hp ?_
 refine gS 33 rfl hp ?_
 refine gS 34 rfl hp ?_
 refine gS 35 rfl hp ?_
 refine gS 36 rfl hp ?_
 refine gS 37 rfl hp ?_
 refine gS 38 rfl hp ?_
 refine gS 39 rfl hp ?_
 refine gU 40 (.bool false) rfl (fun _ => r_pick rfl rfl (fun h => by cases h) (fun _ => rfl)) hp ?_
 refine RG_done (by kernel_rfl) ?_
 refine HC_condF rfl ?_
 refine HC_exit ?_
 show b77J1 R _ _
 exact ⟨_, h3, h⟩
 replace hc := eq_false_of_ne_true hc; replace h := h.2 hc
 refine RG_known (t := 11) (v := .bool false) (congrArg Value.bool hc) ?_
 refine RG_known (t := 12) (v := .bool false) (congrArg Value.bool hc) ?_
 refine gS 6 rfl hp ?_
 refine gS 7 rfl hp ?_
 refine gS 8 rfl hp ?_
 refine gS 9 rfl hp ?_
 refine gS 10 rfl hp ?_
 refine gS 11 rfl hp ?_
 refine gS 12 rfl hp ?_
 refine gS 13 rfl hp ?_
 refine gS 14 rfl hp ?_
 refine gS 15 rfl hp ?_
 refine gU 16 (.bool false) rfl (fun _ => r_pick rfl rfl (fun h => by cases h) (fun _ => rfl)) hp ?_
 refine gU 17 (.bool false) rfl (fun _ => r_move rfl rfl) hp ?_
 refine gS 18 rfl hp ?_
 refine gS 19 rfl hp ?_
 refine gS 20 rfl hp ?_
 refine gS 21 rfl hp ?_
 refine gS 22 rfl hp ?_
 refine gS 23 rfl hp ?_
 refine gS 24 rfl hp ?_
 refine gS 25 rfl hp ?_
 refine gS 26 rfl hp ?_
 refine gS 27 rfl hp ?_
 refine gU 28 (.bool false) rfl (fun _ => r_pick rfl rfl (fun h => by cases h) (fun _ => rfl)) hp ?_
 refine gU 29 (.bool false) rfl (fun _ => r_move rfl rfl) hp ?_
 refine gS 30 rfl hp ?_
 refine gS 31 rfl hp ?_
 refine gS 32 rfl hp ?_
 refine gS 33 rfl hp ?_
 refine gS 34 rfl hp ?_
 refine gS 35 rfl hp ?_
 refine gS 36 rfl hp ?_
 refine gS 37 rfl hp ?_
 refine gS 38 rfl hp ?_
 refine gS 39 rfl hp ?_
 refine gU 40 (.bool false) rfl (fun _ => r_pick rfl rfl (fun h => by cases h) (fun _ => rfl)) hp ?_
 refine RG_done (by kernel_rfl) ?_
 refine HC_condF rfl ?_
 refine HC_exit ?_
 show b77J1 R _ _
 exact ⟨_, h3, h⟩
 /- 55 (*koine.pattern.reader).alternatives -/
def b55j1 (i_3 : Int) (R : VP) (F : PH) :=
 R (.int .i64 i_3) F
abbrev b55J1 (R : VP) (E : En) (F : PH) : Prop := ∃ i_3 : Int, E 3 = (.int .i64 i_3) ∧ b55j1 i_3 R F
def b55L1 (N1 : Int → PH → Prop) (r_0 : Option Addr) (R : VP) (i_3_1 : Int) (F : PH) :=
 ∃ r0a_ : Addr, r_0 = some r0a_ ∧ ∃ v_10 : Bool, F.cell (Addr.add r0a_ 3) = some (.bool v_10) ∧
 (((!v_10) = true →
  Spec prog 78 #[(.pointer (some r0a_)), (.int .u8 124)] F fun v F => ∃ v_14 : Bool, v = (.bool v_14) ∧
  ((v_14 = true →
   Spec prog 77 #[(.pointer (some r0a_))] F fun v F => ∃ v_17 : Int, v = (.int .i64 v_17) ∧
   Spec prog 79 #[(.pointer (some r0a_)), (.agg (#[(.int .i64 3), .int .i64 0, .int .i64 0, (.int .i64 i_3_1), (.int .i64 v_17)] : Array Value))] F fun v F => ∃ v_22 : Int, v = (.int .i64 v_22) ∧
   N1 v_22 F) ∧
  (v_14 = false →
   b55j1 i_3_1 R F))) ∧
 ((!v_10) = false →
  b55j1 i_3_1 R F))
def b55 (r_0 : Option Addr) (R : VP) (F : PH) :=
 Spec prog 77 #[(.pointer r_0)] F fun v F => ∃ v_6 : Int, v = (.int .i64 v_6) ∧
 (∃ (I1 : Nat → Int → PH → Prop) (m1 : Nat), I1 m1 v_6 F ∧ ∀ m1 i_3_1 F, I1 m1 i_3_1 F →
  b55L1 (nx1 I1 m1) r_0 R i_3_1 F)
theorem c55 {r_0 : Option Addr} {R : VP} {F : PH} (h : b55 r_0 R F) : Spec prog 55 #[(.pointer r_0)] F R := by
 refine spec_of (args := [(.pointer r_0)]) func55 rfl ntmps55 rfl ?_
 unfold b55 at h
 refine cR (sR (.int .i64 0) (r_assign rfl rfl) ?_)
 refine HL_nil ?_
 refine cR (sR (.pointer r_0) (r_move rfl rfl) ?_)
 refine s_ef (k_call (vs := [(.pointer r_0)]) cb77 (evC rfl evN) (h.mono ?_))
 clear h; rintro v F ⟨v_6, rfl, h⟩
 refine sR (.int .i64 v_6) (r_assign rfl rfl) ?_
 refine HL_nil ?_
 refine HC_seqJ (b55J1 R) ?_ ?_
 clear h; rintro E F ⟨i_3, h3, h⟩
 unfold b55j1 at h
 refine cR (sR _ (r_move rfl h3) ?_)
 refine sR (.int .i64 i_3) (r_assign rfl rfl) ?_
 exact HL_nil (HC_ret (rt1 f55 R rfl rfl h))
 refine HC_block ?_
 obtain ⟨I1, m1, hI0, hr⟩ := h
 refine HC_loop (fun m1 E F => ∃ i_3_1 : Int, E 0 = (.pointer r_0) ∧ E 3 = (.int .i64 i_3_1) ∧ I1 m1 i_3_1 F) m1 ⟨_, rfl, rfl, hI0⟩ ?_
 clear hI0; rintro m1 E F ⟨i_3_1, h0, h3, hI⟩
 have h := hr m1 i_3_1 F hI
 clear hr hI
 unfold b55L1 at h
 refine HC_seq ?_
 refine cR (sR _ (r_move rfl h0) ?_)
 obtain ⟨r0a_, rfl, h⟩ := h
 refine sR (.pointer (some r0a_)) (r_nilCheck rfl rfl) ?_
 refine sR (.pointer (some (Addr.add r0a_ 3))) (w_fieldAddr rfl underlying83 rfl rfl sz4 rfl rfl) ?_
 obtain ⟨v_10, hc10, h⟩ := h
 refine sR (.bool v_10) (r_load1 rfl rfl underlying4 rfl hc10) ?_
 refine sR (.bool (!v_10)) (r_not rfl rfl) ?_
 refine sR (.bool (!v_10)) (r_move rfl rfl) ?_
 by_cases hc : (!v_10) = true
 replace h := h.1 hc
 refine kN 11 hc ?_
 refine kN 12 hc ?_
 refine sR _ (r_move rfl h0) ?_
 refine s_ef (k_call (vs := [(.pointer (some r0a_)), (.int .u8 124)]) cb78 (evC rfl (evC rfl evN)) (h.mono ?_))
 clear h; rintro v F ⟨v_14, rfl, h⟩
 refine sR (.bool v_14) (r_pt rfl rfl) ?_
 refine HL_nil ?_
 refine HC_cond (t := v_14) rfl (fun hc => ?_) (fun hc => ?_)
 replace h := h.1 hc
 clear hc
 refine HC_skip ?_
 refine HC_block ?_
 refine cR (sR _ (r_move rfl h0) ?_)
 refine s_ef (k_call (vs := [(.pointer (some r0a_))]) cb77 (evC rfl evN) (h.mono ?_))
 clear h; rintro v F ⟨v_17, rfl, h⟩
 refine sR (.int .i64 v_17) (r_assign rfl rfl) ?_
 refine HL_nil ?_
 refine HC_region ?_
 refine sR _ (r_move rfl h0) ?_
 refine sR _ (r_move rfl h3) ?_
 refine sR (.int .i64 v_17) (r_move rfl rfl) ?_
 refine sR (.agg (#[(.int .i64 3), .int .i64 0, .int .i64 0, (.int .i64 i_3_1), (.int .i64 v_17)] : Array Value)) (w_buildStruct (cells := #[(.int .i64 3), .int .i64 0, .int .i64 0, (.int .i64 i_3_1), (.int .i64 v_17)]) underlying50 zr50 kf50 (evPC rfl (evPC rfl (evPC rfl evPN))) (fill1 (place_of rfl rfl sz3) rfl rfl (fill1 (place_of rfl rfl sz3) rfl rfl (fill1 (place_of rfl rfl sz3) rfl rfl (fillN rfl))))) ?_
 refine s_ef (k_call (vs := [(.pointer (some r0a_)), (.agg (#[(.int .i64 3), .int .i64 0, .int .i64 0, (.int .i64 i_3_1), (.int .i64 v_17)] : Array Value))]) cb79 (evC rfl (evC rfl evN)) (h.mono ?_))
 clear h; rintro v F ⟨v_22, rfl, h⟩
 refine sR (.int .i64 v_22) (r_assign rfl rfl) ?_
 refine HL_nil ?_
 obtain ⟨m', hm, h⟩ := h
 exact ⟨m', hm, _, h0, rfl, h⟩
 replace h := h.2 hc
 clear hc
 refine HC_exit ?_
 show b55J1 R _ _
 exact ⟨_, h3, h⟩
 replace hc := eq_false_of_ne_true hc; replace h := h.2 hc
 refine kN 11 hc ?_
 refine kN 12 hc ?_
 iterate 2 refine s_skip ?_
 refine sR (.bool false) (r_pf rfl rfl) ?_
 refine HL_nil ?_
 refine HC_condF rfl ?_
 refine HC_exit ?_
 show b55J1 R _ _
 exact ⟨_, h3, h⟩
 /- 25 koine.pattern.Parse -/
def b25j2 (b23 : Nat) (v_26 : Bool) (R : VP) (F : PH) :=
 ((v_26 = true →
  R (.tuple #[(Sl.v Sl.nil), (.int .i64 40)]) F) ∧
 (v_26 = false →
  ∃ v_44 : Sl, F.cell (Addr.mk b23 2 none) = some (Sl.v v_44) ∧
  ((512 < (v_44.len : Int) →
   R (.tuple #[(Sl.v Sl.nil), (.int .i64 2)]) F) ∧
  (¬ (512 < (v_44.len : Int)) →
   ∃ v_50 : Sl, F.cell (Addr.mk b23 2 none) = some (Sl.v v_50) ∧
   R (.tuple #[(Sl.v v_50), (.int .i64 0)]) F))))
abbrev b25J2 (b23 : Nat) (R : VP) (E : En) (F : PH) : Prop := ∃ v_26 : Bool, E 6 = (.pointer (some (Addr.mk b23 0 none))) ∧ E 26 = (.bool v_26) ∧ b25j2 b23 v_26 R F
def b25j1 (s_0 : ByteArray) (R : VP) (F : PH) :=
 ∀ b23, F b23 = none → atF (F.set b23 (.cells (#[(.string s_0), .int .i64 0, .slice none 0 0, .bool false] : Array Value) 83)) fun F =>
 Spec prog 55 #[(.pointer (some (Addr.mk b23 0 none)))] F fun v F => ∃ v_25 : Int, v = (.int .i64 v_25) ∧
 ∃ v_30 : Bool, F.cell (Addr.mk b23 3 none) = some (.bool v_30) ∧
 ((v_30 = true →
  b25j2 b23 true R F) ∧
 (v_30 = false →
  ∃ v_35 : Int, F.cell (Addr.mk b23 1 none) = some (.int .i64 v_35) ∧
  b25j2 b23 (decide (v_35 < (s_0.size : Int))) R F))
abbrev b25J1 (s_0 : ByteArray) (R : VP) (E : En) (F : PH) : Prop := E 0 = (.string s_0) ∧ b25j1 s_0 R F
def b25L1 (N1 : PH → Prop) (s_0 : ByteArray) (b11 : Nat) (R : VP) (F : PH) :=
 runs prog (Instr.next (.pointer (some (Addr.mk b11 0 none))) true 0) F fun v F => ∃ v_12 : Array Value, v = (.tuple v_12) ∧
 ∃ v_13 : Bool, v_12[0]? = some (.bool v_13) ∧
 ((v_13 = true →
  ∃ v_14 : Int, v_12[2]? = some (.int .i32 v_14) ∧
  ((v_14 < 33 →
   R (.tuple #[(Sl.v Sl.nil), (.int .i64 40)]) F) ∧
  (¬ (v_14 < 33) →
   ((126 < v_14 →
    R (.tuple #[(Sl.v Sl.nil), (.int .i64 40)]) F) ∧
   (¬ (126 < v_14) →
    N1 F))))) ∧
 (v_13 = false →
  b25j1 s_0 R F))
def b25 (s_0 : ByteArray) (R : VP) (F : PH) :=
 ((8192 < (s_0.size : Int) →
  R (.tuple #[(Sl.v Sl.nil), (.int .i64 2)]) F) ∧
 (¬ (8192 < (s_0.size : Int)) →
  ∀ b11, F b11 = none → atF (F.set b11 (.stringIter s_0 0)) fun F =>
  (∃ (I1 : Nat → PH → Prop) (m1 : Nat), I1 m1 F ∧ ∀ m1 F, I1 m1 F →
   b25L1 (fun F => ∃ m', m' < m1 ∧ I1 m' F) s_0 b11 R F)))
theorem c25 {s_0 : ByteArray} {R : VP} {F : PH} (h : b25 s_0 R F) : Spec prog 25 #[(.string s_0)] F R := by
 refine spec_of (args := [(.string s_0)]) func25 rfl ntmps25 rfl ?_
 unfold b25 at h
 refine cR (sR (Sl.v Sl.nil) (r_assign rfl rfl) ?_)
 refine sR (.int .i64 0) (r_assign rfl rfl) ?_
 refine HL_nil ?_
 refine HC_seq ?_
 refine cR (sR (.string s_0) (r_move rfl rfl) ?_)
 refine sR (.int .i64 (s_0.size : Int)) (r_lenStr rfl rfl underlying9) ?_
 refine sR (.bool (decide (8192 < (s_0.size : Int)))) (r_gtr rfl rfl rfl) ?_
 refine HL_nil ?_
 refine HC_cond (t := (decide (8192 < (s_0.size : Int)))) rfl (fun hc => ?_) (fun hc => ?_)
 replace h := h.1 (of_decide_eq_true hc)
 clear hc
 refine cR (sR (Sl.v Sl.nil) (r_assign rfl rfl) ?_)
 refine sR (.int .i64 2) (r_assign rfl rfl) ?_
 exact HL_nil (HC_ret (rt2 f25 R rfl rfl rfl h))
 replace h := h.2 (of_decide_eq_false hc)
 clear hc
 refine HC_skip ?_
 refine HC_seqJ (b25J1 s_0 R) ?_ ?_
 clear h; rintro E F ⟨h0, h⟩
 unfold b25j1 at h
 refine cR (sR _ (r_move rfl h0) ?_)
 refine sR (.agg (#[(.string s_0), .int .i64 0, .slice none 0 0, .bool false] : Array Value)) (w_buildStruct (cells := #[(.string s_0), .int .i64 0, .slice none 0 0, .bool false]) underlying83 zr83 kf83 (evPC rfl evPN) (fill1 (place_of rfl rfl sz9) rfl rfl (fillN rfl))) ?_
 refine s_ef (k_box (cs := (#[(.string s_0), .int .i64 0, .slice none 0 0, .bool false] : Array Value)) rfl rfl ?_)
 intro b23 hf_b23
 replace h := atE (h b23 hf_b23)
 refine sR (.pointer (some (Addr.mk b23 0 none))) (r_assign rfl rfl) ?_
 refine HL_nil ?_
 refine cR (sR (.pointer (some (Addr.mk b23 0 none))) (r_move rfl rfl) ?_)
 refine s_ef (k_call (vs := [(.pointer (some (Addr.mk b23 0 none)))]) cb55 (evC rfl evN) (h.mono ?_))
 clear h; rintro v F ⟨v_25, rfl, h⟩
 refine HL_nil ?_
 refine HC_seq ?_
 refine HC_block ?_
 refine HC_seqJ (b25J2 b23 R) ?_ ?_
 clear h; rintro E F ⟨v_26, h6, h26, h⟩
 unfold b25j2 at h
 refine HC_cond (t := v_26) h26 (fun hc => ?_) (fun hc => ?_)
 replace h := h.1 hc
 clear hc
 refine cR (sR (Sl.v Sl.nil) (r_assign rfl rfl) ?_)
 refine sR (.int .i64 40) (r_assign rfl rfl) ?_
 exact HL_nil (HC_ret (rt2 f25 R rfl rfl rfl h))
 replace h := h.2 hc
 clear hc
 refine cR (sR _ (r_move rfl h6) ?_)
 refine sR (.pointer (some (Addr.mk b23 0 none))) (r_nilCheck rfl rfl) ?_
 refine sR (.pointer (some (Addr.mk b23 2 none))) (w_fieldAddr rfl underlying83 rfl rfl sz25 rfl rfl) ?_
 obtain ⟨v_44, hc44, h⟩ := h
 refine sR (Sl.v v_44) (r_load1 rfl rfl underlying25 rfl hc44) ?_
 refine sR (.int .i64 (v_44.len : Int)) (r_lenSl rfl rfl underlying25) ?_
 refine sR (.bool (decide (512 < (v_44.len : Int)))) (r_gtr rfl rfl rfl) ?_
 refine sR (.bool (decide (512 < (v_44.len : Int)))) (r_assign rfl rfl) ?_
 refine HL_nil ?_
 refine HC_cond (t := (decide (512 < (v_44.len : Int)))) rfl (fun hc => ?_) (fun hc => ?_)
 replace h := h.1 (of_decide_eq_true hc)
 clear hc
 refine cR (sR (Sl.v Sl.nil) (r_assign rfl rfl) ?_)
 refine sR (.int .i64 2) (r_assign rfl rfl) ?_
 exact HL_nil (HC_ret (rt2 f25 R rfl rfl rfl h))
 replace h := h.2 (of_decide_eq_false hc)
 clear hc
 refine HC_skip ?_
 refine cR (sR _ (r_move rfl h6) ?_)
 refine sR (.pointer (some (Addr.mk b23 0 none))) (r_nilCheck rfl rfl) ?_
 refine sR (.pointer (some (Addr.mk b23 2 none))) (w_fieldAddr rfl underlying83 rfl rfl sz25 rfl rfl) ?_
 obtain ⟨v_50, hc50, h⟩ := h
 refine sR (Sl.v v_50) (r_load1 rfl rfl underlying25 rfl hc50) ?_
 refine sR (Sl.v v_50) (r_assign rfl rfl) ?_
 refine sR (.int .i64 0) (r_assign rfl rfl) ?_
 exact HL_nil (HC_ret (rt2 f25 R rfl rfl rfl h))
 refine HC_region ?_
 refine sR (.pointer (some (Addr.mk b23 0 none))) (r_move rfl rfl) ?_
 refine sR (.pointer (some (Addr.mk b23 0 none))) (r_nilCheck rfl rfl) ?_
 refine sR (.pointer (some (Addr.mk b23 3 none))) (w_fieldAddr rfl underlying83 rfl rfl sz4 rfl rfl) ?_
 obtain ⟨v_30, hc30, h⟩ := h
 refine sR (.bool v_30) (r_load1 rfl rfl underlying4 rfl hc30) ?_
 refine sR (.bool v_30) (r_move rfl rfl) ?_
 by_cases hc : v_30 = true
 replace h := h.1 hc
 refine kN 30 hc ?_
 refine kN 31 hc ?_
 iterate 7 refine s_skip ?_
 refine sR (.bool true) (r_pt rfl rfl) ?_
 refine sR (.bool true) (r_assign rfl rfl) ?_
 refine HL_nil ?_
 show b25J2 b23 R _ _
 exact ⟨_, rfl, rfl, h⟩
 replace hc := eq_false_of_ne_true hc; replace h := h.2 hc
 refine kN 30 hc ?_
 refine kN 31 hc ?_
 refine sR (.pointer (some (Addr.mk b23 0 none))) (r_move rfl rfl) ?_
 refine sR (.pointer (some (Addr.mk b23 0 none))) (r_nilCheck rfl rfl) ?_
 refine sR (.pointer (some (Addr.mk b23 1 none))) (w_fieldAddr rfl underlying83 rfl rfl sz3 rfl rfl) ?_
 obtain ⟨v_35, hc35, h⟩ := h
 refine sR (.int .i64 v_35) (r_load1 rfl rfl underlying3 rfl hc35) ?_
 refine sR _ (r_move rfl h0) ?_
 refine sR (.int .i64 (s_0.size : Int)) (r_lenStr rfl rfl underlying9) ?_
 refine sR (.bool (decide (v_35 < (s_0.size : Int)))) (r_lss rfl rfl rfl) ?_
 refine sR (.bool (decide (v_35 < (s_0.size : Int)))) (r_pf rfl rfl) ?_
 refine sR (.bool (decide (v_35 < (s_0.size : Int)))) (r_assign rfl rfl) ?_
 refine HL_nil ?_
 show b25J2 b23 R _ _
 exact ⟨_, rfl, rfl, h⟩
 refine cR (sR (.string s_0) (r_move rfl rfl) ?_)
 refine s_ef (k_rangeS rfl underlying9 ?_)
 intro b11 hf_b11
 replace h := atE (h b11 hf_b11)
 refine HL_nil ?_
 refine HC_block ?_
 obtain ⟨I1, m1, hI0, hr⟩ := h
 refine HC_loop (fun m1 E F => E 0 = (.string s_0) ∧ E 11 = (.pointer (some (Addr.mk b11 0 none))) ∧ I1 m1 F) m1 ⟨rfl, rfl, hI0⟩ ?_
 clear hI0; rintro m1 E F ⟨h0, h11, hI⟩
 have h := hr m1 F hI
 clear hr hI
 unfold b25L1 at h
 refine cR ?_
 refine s_ef (k_next h11 (runs_mono _ _ h ?_))
 clear h; rintro v F ⟨v_12, rfl, h⟩
 obtain ⟨v_13, hx13, h⟩ := h
 refine sR (.bool v_13) (r_extract rfl rfl hx13) ?_
 refine HL_nil ?_
 refine HC_seq ?_
 refine HC_cond (t := v_13) rfl (fun hc => ?_) (fun hc => ?_)
 replace h := h.1 hc
 clear hc
 refine HC_skip ?_
 refine HC_block ?_
 refine cR ?_
 obtain ⟨v_14, hx14, h⟩ := h
 refine sR (.int .i32 v_14) (r_extract rfl rfl hx14) ?_
 refine sR (.int .i32 v_14) (r_assign rfl rfl) ?_
 refine HL_nil ?_
 refine cR (sR (.int .i32 v_14) (r_move rfl rfl) ?_)
 refine sR (.bool (decide (v_14 < 33))) (r_lss rfl rfl rfl) ?_
 refine sR (.bool (decide (v_14 < 33))) (r_move rfl rfl) ?_
 by_cases hc : v_14 < 33
 replace h := h.1 hc
 refine kN 16 (decide_eq_true hc) ?_
 refine kN 17 (decide_eq_true hc) ?_
 iterate 2 refine s_skip ?_
 refine sR (.bool true) (r_pt rfl rfl) ?_
 refine HL_nil ?_
 refine HC_condT rfl ?_
 refine cR (sR (Sl.v Sl.nil) (r_assign rfl rfl) ?_)
 refine sR (.int .i64 40) (r_assign rfl rfl) ?_
 exact HL_nil (HC_ret (rt2 f25 R rfl rfl rfl h))
 replace h := h.2 hc
 refine kN 16 (decide_eq_false hc) ?_
 refine kN 17 (decide_eq_false hc) ?_
 refine sR (.int .i32 v_14) (r_move rfl rfl) ?_
 refine sR (.bool (decide (126 < v_14))) (r_gtr rfl rfl rfl) ?_
 refine sR (.bool (decide (126 < v_14))) (r_pf rfl rfl) ?_
 refine HL_nil ?_
 refine HC_cond (t := (decide (126 < v_14))) rfl (fun hc => ?_) (fun hc => ?_)
 replace h := h.1 (of_decide_eq_true hc)
 clear hc
 refine cR (sR (Sl.v Sl.nil) (r_assign rfl rfl) ?_)
 refine sR (.int .i64 40) (r_assign rfl rfl) ?_
 exact HL_nil (HC_ret (rt2 f25 R rfl rfl rfl h))
 replace h := h.2 (of_decide_eq_false hc)
 clear hc
 refine HC_skip ?_
 obtain ⟨m', hm, h⟩ := h
 exact ⟨m', hm, h0, h11, h⟩
 replace h := h.2 hc
 clear hc
 refine HC_exit ?_
 show b25J1 s_0 R _ _
 exact ⟨h0, h⟩
end Go.Proofs.YtnjcgpihfmklfaaDoor
