/-
  What functions of the program do, in a clean form, each with the proof that its code does so. Printed by a program.
-/
import Derived.Test.YtelkfnmdnbbniaaGf
import Derived.Test.YtelkfnmdnbbniaaPhp
namespace Go.Proofs.Ytelkfnmdnbbniaa
open Go Go.Proofs.Try
set_option maxRecDepth 10000
set_option maxHeartbeats 4000000
/- 28 (*koine.disk.Disk).Sectors -/
def b28 (d_0 : Option Addr) (R : VP) (F : PH) :=
 ∃ d0a_ : Addr, d_0 = some d0a_ ∧ ∃ v_6 : Sl, F.cell d0a_ = some (Sl.v v_6) ∧
 R (.int .i64 (IntKind.i64.wrap (Int.tdiv (v_6.len : Int) 64))) F
theorem c28 {d_0 : Option Addr} {R : VP} {F : PH} (h : b28 d_0 R F) : Spec prog 28 #[(.pointer d_0)] F R := by
 refine spec_of (args := [(.pointer d_0)]) func28 rfl ntmps28 rfl ?_
 unfold b28 at h
 refine cR (sR (.int .i64 0) (r_assign rfl rfl) ?_)
 refine HL_nil ?_
 refine cR (sR (.pointer d_0) (r_move rfl rfl) ?_)
 obtain ⟨d0a_, rfl, h⟩ := h
 refine sR (.pointer (some d0a_)) (r_nilCheck rfl rfl) ?_
 refine sR (.pointer (some d0a_)) (w_fieldAddr rfl underlying99 rfl rfl sz39 rfl rfl) ?_
 obtain ⟨v_6, hc6, h⟩ := h
 refine sR (Sl.v v_6) (r_load1 rfl rfl underlying39 rfl hc6) ?_
 refine sR (.int .i64 (v_6.len : Int)) (r_lenSl rfl rfl underlying39) ?_
 refine sR (.int .i64 (IntKind.i64.wrap (Int.tdiv (v_6.len : Int) 64))) (r_quo rfl rfl rfl (by decide)) ?_
 refine sR (.int .i64 (IntKind.i64.wrap (Int.tdiv (v_6.len : Int) 64))) (r_assign rfl rfl) ?_
 exact HL_nil (HC_ret (rt1 f28 R rfl rfl h))
 /- 64 (*koine.disk.Disk).sector -/
def b64 (d_0 : Option Addr) (at_1 : Int) (R : VP) (F : PH) :=
 ∃ d0a_ : Addr, d_0 = some d0a_ ∧ ∃ v_8 : Sl, F.cell d0a_ = some (Sl.v v_8) ∧
 0 ≤ (IntKind.i64.wrap (at_1 * 64)) ∧ 0 ≤ (IntKind.i64.wrap ((IntKind.i64.wrap (at_1 + 1)) * 64)) ∧ 0 ≤ (IntKind.i64.wrap ((IntKind.i64.wrap (at_1 + 1)) * 64)) ∧ (Int.toNat (IntKind.i64.wrap (at_1 * 64))) ≤ Int.toNat (IntKind.i64.wrap ((IntKind.i64.wrap (at_1 + 1)) * 64)) ∧ (IntKind.i64.wrap ((IntKind.i64.wrap (at_1 + 1)) * 64)) ≤ (IntKind.i64.wrap ((IntKind.i64.wrap (at_1 + 1)) * 64)) ∧ (IntKind.i64.wrap ((IntKind.i64.wrap (at_1 + 1)) * 64)) ≤ (v_8.cap : Int) ∧ 
 R (Sl.v (Sl.cut v_8 1 (Int.toNat (IntKind.i64.wrap (at_1 * 64))) (Int.toNat (IntKind.i64.wrap ((IntKind.i64.wrap (at_1 + 1)) * 64))) (Int.toNat (IntKind.i64.wrap ((IntKind.i64.wrap (at_1 + 1)) * 64))))) F
theorem c64 {d_0 : Option Addr} {at_1 : Int} {R : VP} {F : PH} (h : b64 d_0 at_1 R F) : Spec prog 64 #[(.pointer d_0), (.int .i64 at_1)] F R := by
 refine spec_of (args := [(.pointer d_0), (.int .i64 at_1)]) func64 rfl ntmps64 rfl ?_
 unfold b64 at h
 refine cR (sR (Sl.v Sl.nil) (r_assign rfl rfl) ?_)
 refine HL_nil ?_
 refine cR (sR (.pointer d_0) (r_move rfl rfl) ?_)
 obtain ⟨d0a_, rfl, h⟩ := h
 refine sR (.pointer (some d0a_)) (r_nilCheck rfl rfl) ?_
 refine sR (.pointer (some d0a_)) (w_fieldAddr rfl underlying99 rfl rfl sz39 rfl rfl) ?_
 obtain ⟨v_8, hc8, h⟩ := h
 refine sR (Sl.v v_8) (r_load1 rfl rfl underlying39 rfl hc8) ?_
 refine sR (.int .i64 at_1) (r_move rfl rfl) ?_
 refine sR (.int .i64 (IntKind.i64.wrap (at_1 * 64))) (r_mul rfl rfl rfl) ?_
 refine sR (.int .i64 at_1) (r_move rfl rfl) ?_
 refine sR (.int .i64 (IntKind.i64.wrap (at_1 + 1))) (r_add rfl rfl rfl) ?_
 refine sR (.int .i64 (IntKind.i64.wrap ((IntKind.i64.wrap (at_1 + 1)) * 64))) (r_mul rfl rfl rfl) ?_
 refine sR (.int .i64 at_1) (r_move rfl rfl) ?_
 refine sR (.int .i64 (IntKind.i64.wrap (at_1 + 1))) (r_add rfl rfl rfl) ?_
 refine sR (.int .i64 (IntKind.i64.wrap ((IntKind.i64.wrap (at_1 + 1)) * 64))) (r_mul rfl rfl rfl) ?_
 obtain ⟨hq17_0, hr17_0, hr17_1, hr17_2, hr17_3, hr17_4, h⟩ := h
 refine sR (Sl.v (Sl.cut v_8 1 (Int.toNat (IntKind.i64.wrap (at_1 * 64))) (Int.toNat (IntKind.i64.wrap ((IntKind.i64.wrap (at_1 + 1)) * 64))) (Int.toNat (IntKind.i64.wrap ((IntKind.i64.wrap (at_1 + 1)) * 64))))) (r_sliceSl3 rfl rfl underlying39 sz5 (bo_ev rfl hq17_0) rfl rfl hr17_0 hr17_1 hr17_2 hr17_3 hr17_4) ?_
 refine sR (Sl.v (Sl.cut v_8 1 (Int.toNat (IntKind.i64.wrap (at_1 * 64))) (Int.toNat (IntKind.i64.wrap ((IntKind.i64.wrap (at_1 + 1)) * 64))) (Int.toNat (IntKind.i64.wrap ((IntKind.i64.wrap (at_1 + 1)) * 64))))) (r_assign rfl rfl) ?_
 exact HL_nil (HC_ret (rt1 f64 R rfl rfl h))
 /- 34 (*koine.disk.Disk).Power -/
def b34 (d_0 : Option Addr) (R : VP) (F : PH) :=
 ∃ d0a_ : Addr, d_0 = some d0a_ ∧ ∃ c e, F (Addr.add d0a_ 2).block = some (.cells c e (0, 0)) ∧ (Addr.add d0a_ 2).spot = none ∧ (Addr.add d0a_ 2).off < c.size ∧
 atF (F.set (Addr.add d0a_ 2).block (.cells (c.setIfInBounds (Addr.add d0a_ 2).off (.bool false)) e)) fun F =>
 R (.tuple #[]) F
theorem c34 {d_0 : Option Addr} {R : VP} {F : PH} (h : b34 d_0 R F) : Spec prog 34 #[(.pointer d_0)] F R := by
 refine spec_of (args := [(.pointer d_0)]) func34 rfl ntmps34 rfl ?_
 unfold b34 at h
 refine HC_region ?_
 refine sR (.pointer d_0) (r_move rfl rfl) ?_
 obtain ⟨d0a_, rfl, h⟩ := h
 refine sR (.pointer (some d0a_)) (r_nilCheck rfl rfl) ?_
 refine sR (.pointer (some (Addr.add d0a_ 2))) (w_fieldAddr rfl underlying99 rfl rfl sz4 rfl rfl) ?_
 refine s_ef0 (k_store1 (v := (.bool false)) rfl rfl sz4 rfl st_bool ?_)
 obtain ⟨c, e, hz3, hz4, hz5, h⟩ := h
 refine ⟨c, e, hz3, hz4, hz5, ?_⟩
 replace h := atE h
 refine HL_nil ?_
 exact (show endQ prog f34 R .normal _ _ from ⟨_, res0 rfl, h⟩)
 /- 32 (*koine.disk.Disk).Fuse -/
def b32 (d_0 : Option Addr) (n_1 : Int) (kept_2 : Sl) (R : VP) (F : PH) :=
 Spec prog 61 #[(Sl.v kept_2)] F fun v F => ∃ v_11 : Sl, v = (Sl.v v_11) ∧
 ∃ d0a_ : Addr, d_0 = some d0a_ ∧ ∃ c e, F (Addr.add d0a_ 3).block = some (.cells c e (0, 0)) ∧ (Addr.add d0a_ 3).spot = none ∧ (Addr.add d0a_ 3).off < c.size ∧
 atF (F.set (Addr.add d0a_ 3).block (.cells (c.setIfInBounds (Addr.add d0a_ 3).off (.int .i64 (max n_1 0))) e)) fun F =>
 ∃ c e, F (Addr.add d0a_ 4).block = some (.cells c e (0, 0)) ∧ (Addr.add d0a_ 4).spot = none ∧ (Addr.add d0a_ 4).off < c.size ∧
 atF (F.set (Addr.add d0a_ 4).block (.cells (c.setIfInBounds (Addr.add d0a_ 4).off (Sl.v v_11)) e)) fun F =>
 R (.tuple #[]) F
theorem c32 {d_0 : Option Addr} {n_1 : Int} {kept_2 : Sl} {R : VP} {F : PH} (h : b32 d_0 n_1 kept_2 R F) : Spec prog 32 #[(.pointer d_0), (.int .i64 n_1), (Sl.v kept_2)] F R := by
 refine spec_of (args := [(.pointer d_0), (.int .i64 n_1), (Sl.v kept_2)]) func32 rfl ntmps32 rfl ?_
 unfold b32 at h
 refine HC_region ?_
 refine sR (.pointer d_0) (r_move rfl rfl) ?_
 refine sR (.pointer d_0) (r_move rfl rfl) ?_
 refine sR (.int .i64 n_1) (r_move rfl rfl) ?_
 refine sR (.int .i64 (max n_1 0)) (r_max2 rfl rfl rfl) ?_
 refine sR (Sl.v kept_2) (r_move rfl rfl) ?_
 refine s_ef (k_call (vs := [(Sl.v kept_2)]) cb61 (evC rfl evN) (h.mono ?_))
 clear h; rintro v F ⟨v_11, rfl, h⟩
 obtain ⟨d0a_, rfl, h⟩ := h
 refine sR (.pointer (some d0a_)) (r_nilCheck rfl rfl) ?_
 refine sR (.pointer (some (Addr.add d0a_ 3))) (w_fieldAddr rfl underlying99 rfl rfl sz3 rfl rfl) ?_
 refine s_ef0 (k_store1 (v := (.int .i64 (max n_1 0))) rfl rfl sz3 rfl st_int ?_)
 obtain ⟨c, e, hz3, hz4, hz5, h⟩ := h
 refine ⟨c, e, hz3, hz4, hz5, ?_⟩
 replace h := atE h
 refine sR (.pointer (some d0a_)) (r_nilCheck rfl rfl) ?_
 refine sR (.pointer (some (Addr.add d0a_ 4))) (w_fieldAddr rfl underlying99 rfl rfl sz68 rfl rfl) ?_
 refine s_ef0 (k_store1 (v := (Sl.v v_11)) rfl rfl sz68 rfl st_sl ?_)
 obtain ⟨c, e, hz3, hz4, hz5, h⟩ := h
 refine ⟨c, e, hz3, hz4, hz5, ?_⟩
 replace h := atE h
 refine HL_nil ?_
 exact (show endQ prog f32 R .normal _ _ from ⟨_, res0 rfl, h⟩)
 /- 37 (*koine.disk.Disk).Pending -/
def b39 (sectors_0 : Int) (R : VP) (F : PH) :=
 ((sectors_0 < 1 →
  R (.tuple #[(.pointer none), (.int .i64 1)]) F) ∧
 (¬ (sectors_0 < 1) →
  ((65536 < sectors_0 →
   R (.tuple #[(.pointer none), (.int .i64 2)]) F) ∧
  (¬ (65536 < sectors_0) →
   runs prog (Instr.makeSlice 39 (.int .i64 (IntKind.i64.wrap (sectors_0 * 64))) (.int .i64 (IntKind.i64.wrap (sectors_0 * 64)))) F fun v F => ∃ v_12 : Sl, v = (Sl.v v_12) ∧
   ∀ b14, F b14 = none → atF (F.set b14 (.cells (#[(Sl.v v_12), .slice none 0 0, .bool false, .int .i64 0, .slice none 0 0] : Array Value) 99)) fun F =>
   R (.tuple #[(.pointer (some (Addr.mk b14 0 none))), (.int .i64 0)]) F))))
theorem c39 {sectors_0 : Int} {R : VP} {F : PH} (h : b39 sectors_0 R F) : Spec prog 39 #[(.int .i64 sectors_0)] F R := by
 refine spec_of (args := [(.int .i64 sectors_0)]) func39 rfl ntmps39 rfl ?_
 unfold b39 at h
 refine cR (sR (.pointer none) (r_assign rfl rfl) ?_)
 refine sR (.int .i64 0) (r_assign rfl rfl) ?_
 refine HL_nil ?_
 refine HC_seq ?_
 refine HC_block ?_
 refine cR (sR (.int .i64 sectors_0) (r_move rfl rfl) ?_)
 refine sR (.bool (decide (sectors_0 < 1))) (r_lss rfl rfl rfl) ?_
 refine sR (.bool (decide (sectors_0 < 1))) (r_assign rfl rfl) ?_
 refine HL_nil ?_
 refine HC_cond (t := (decide (sectors_0 < 1))) rfl (fun hc => ?_) (fun hc => ?_)
 replace h := h.1 (of_decide_eq_true hc)
 clear hc
 refine cR (sR (.pointer none) (r_assign rfl rfl) ?_)
 refine sR (.int .i64 1) (r_assign rfl rfl) ?_
 exact HL_nil (HC_ret (rt2 f39 R rfl rfl rfl h))
 replace h := h.2 (of_decide_eq_false hc)
 clear hc
 refine cR (sR (.int .i64 sectors_0) (r_move rfl rfl) ?_)
 refine sR (.bool (decide (65536 < sectors_0))) (r_gtr rfl rfl rfl) ?_
 refine sR (.bool (decide (65536 < sectors_0))) (r_assign rfl rfl) ?_
 refine HL_nil ?_
 refine HC_cond (t := (decide (65536 < sectors_0))) rfl (fun hc => ?_) (fun hc => ?_)
 replace h := h.1 (of_decide_eq_true hc)
 clear hc
 refine cR (sR (.pointer none) (r_assign rfl rfl) ?_)
 refine sR (.int .i64 2) (r_assign rfl rfl) ?_
 exact HL_nil (HC_ret (rt2 f39 R rfl rfl rfl h))
 replace h := h.2 (of_decide_eq_false hc)
 clear hc
 refine HC_skip ?_
 refine cR (sR (.int .i64 sectors_0) (r_move rfl rfl) ?_)
 refine sR (.int .i64 (IntKind.i64.wrap (sectors_0 * 64))) (r_mul rfl rfl rfl) ?_
 refine s_ef (k_makeSlice rfl rfl (runs_mono _ _ h ?_))
 clear h; rintro v F ⟨v_12, rfl, h⟩
 refine sR (.agg (#[(Sl.v v_12), .slice none 0 0, .bool false, .int .i64 0, .slice none 0 0] : Array Value)) (w_buildStruct (cells := #[(Sl.v v_12), .slice none 0 0, .bool false, .int .i64 0, .slice none 0 0]) underlying99 zr99 kf99 (evPC rfl evPN) (fill1 (place_of rfl rfl sz39) rfl rfl (fillN rfl))) ?_
 refine s_ef (k_box (cs := (#[(Sl.v v_12), .slice none 0 0, .bool false, .int .i64 0, .slice none 0 0] : Array Value)) rfl rfl ?_)
 intro b14 hf_b14
 replace h := atE (h b14 hf_b14)
 refine sR (.pointer (some (Addr.mk b14 0 none))) (r_assign rfl rfl) ?_
 refine sR (.int .i64 0) (r_assign rfl rfl) ?_
 exact HL_nil (HC_ret (rt2 f39 R rfl rfl rfl h))
 /- 43 slices.Clone[[]byte,byte] -/
def b43 (s_0 : Sl) (R : VP) (F : PH) :=
 (((s_0.base.isNone) = true →
  R (Sl.v Sl.nil) F) ∧
 ((s_0.base.isNone) = false →
  ∀ b5, F b5 = none → atF (F.set b5 (.cells #[] 5)) fun F =>
  runs prog (Builtin.append_ #[39, 39] 39 #[(Sl.v (Sl.mk (some (Addr.mk b5 0 none)) 0 0)), (Sl.v s_0)]) F fun v F => ∃ v_7 : Sl, v = (Sl.v v_7) ∧
  R (Sl.v v_7) F))
theorem c43 {s_0 : Sl} {R : VP} {F : PH} (h : b43 s_0 R F) : Spec prog 43 #[(Sl.v s_0)] F R := by
 refine spec_of (args := [(Sl.v s_0)]) func43 rfl ntmps43 rfl ?_
 unfold b43 at h
 refine cR (sR (Sl.v Sl.nil) (r_assign rfl rfl) ?_)
 refine HL_nil ?_
 refine HC_seq ?_
 refine cR (sR (Sl.v s_0) (r_move rfl rfl) ?_)
 refine sR (.bool (s_0.base.isNone)) (r_eqlSlNil rfl rfl rfl underlying39) ?_
 refine HL_nil ?_
 refine HC_cond (t := (s_0.base.isNone)) rfl (fun hc => ?_) (fun hc => ?_)
 replace h := h.1 hc
 clear hc
 refine cR (sR (Sl.v Sl.nil) (r_assign rfl rfl) ?_)
 exact HL_nil (HC_ret (rt1 f43 R rfl rfl h))
 replace h := h.2 hc
 clear hc
 refine HC_skip ?_
 refine cR ?_
 refine s_ef (k_buildSeq (l := []) underlying39 sz5 (by decide) zr5 rfl rfl trivial evPN ?_)
 intro b5 hf_b5
 replace h := atE (h b5 hf_b5)
 refine sR (Sl.v s_0) (r_move rfl rfl) ?_
 refine s_ef (k_append rfl rfl (runs_mono _ _ h ?_))
 clear h; rintro v F ⟨v_7, rfl, h⟩
 refine sR (Sl.v v_7) (r_assign rfl rfl) ?_
 exact HL_nil (HC_ret (rt1 f43 R rfl rfl h))
 /- 61 slices.Clone[[]int,int] -/
def b61 (s_0 : Sl) (R : VP) (F : PH) :=
 (((s_0.base.isNone) = true →
  R (Sl.v Sl.nil) F) ∧
 ((s_0.base.isNone) = false →
  ∀ b5, F b5 = none → atF (F.set b5 (.cells #[] 3)) fun F =>
  runs prog (Builtin.append_ #[68, 68] 68 #[(Sl.v (Sl.mk (some (Addr.mk b5 0 none)) 0 0)), (Sl.v s_0)]) F fun v F => ∃ v_7 : Sl, v = (Sl.v v_7) ∧
  R (Sl.v v_7) F))
theorem c61 {s_0 : Sl} {R : VP} {F : PH} (h : b61 s_0 R F) : Spec prog 61 #[(Sl.v s_0)] F R := by
 refine spec_of (args := [(Sl.v s_0)]) func61 rfl ntmps61 rfl ?_
 unfold b61 at h
 refine cR (sR (Sl.v Sl.nil) (r_assign rfl rfl) ?_)
 refine HL_nil ?_
 refine HC_seq ?_
 refine cR (sR (Sl.v s_0) (r_move rfl rfl) ?_)
 refine sR (.bool (s_0.base.isNone)) (r_eqlSlNil rfl rfl rfl underlying68) ?_
 refine HL_nil ?_
 refine HC_cond (t := (s_0.base.isNone)) rfl (fun hc => ?_) (fun hc => ?_)
 replace h := h.1 hc
 clear hc
 refine cR (sR (Sl.v Sl.nil) (r_assign rfl rfl) ?_)
 exact HL_nil (HC_ret (rt1 f61 R rfl rfl h))
 replace h := h.2 hc
 clear hc
 refine HC_skip ?_
 refine cR ?_
 refine s_ef (k_buildSeq (l := []) underlying68 sz3 (by decide) zr3 rfl rfl trivial evPN ?_)
 intro b5 hf_b5
 replace h := atE (h b5 hf_b5)
 refine sR (Sl.v s_0) (r_move rfl rfl) ?_
 refine s_ef (k_append rfl rfl (runs_mono _ _ h ?_))
 clear h; rintro v F ⟨v_7, rfl, h⟩
 refine sR (Sl.v v_7) (r_assign rfl rfl) ?_
 exact HL_nil (HC_ret (rt1 f61 R rfl rfl h))
 /- 63 slices.Clone[[]koine.disk.pending,koine.disk.pending] -/
end Go.Proofs.Ytelkfnmdnbbniaa
