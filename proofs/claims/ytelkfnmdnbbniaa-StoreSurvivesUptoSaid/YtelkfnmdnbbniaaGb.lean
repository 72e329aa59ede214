/-
  What functions of the program do, in a clean form, each with the proof that its code does so. Printed by a program.
-/
import Derived.Test.YtelkfnmdnbbniaaGf
import Derived.Test.YtelkfnmdnbbniaaPhp
namespace Go.Proofs.Ytelkfnmdnbbniaa
open Go Go.Proofs.Try
set_option maxRecDepth 10000
set_option maxHeartbeats 4000000
/- 38 (*koine.disk.Disk).Read -/
def b38j1 (v_21 : Sl) (R : VP) (F : PH) :=
 R (.tuple #[(Sl.v v_21), (.int .i64 0)]) F
abbrev b38J1 (v_21 : Sl) (R : VP) (E : En) (F : PH) : Prop := E 6 = (Sl.v v_21) ∧ b38j1 v_21 R F
def b38j2 (N1 : Int → PH → Prop) (at_1 : Int) (v_21 : Sl) (v_30 : Sl) (v_32 : Int) (R : VP) (F : PH) :=
 N1 (IntKind.i64.wrap (v_32 + 1)) F
abbrev b38J2 (N1 : Int → PH → Prop) (at_1 : Int) (v_21 : Sl) (v_30 : Sl) (v_32 : Int) (R : VP) (E : En) (F : PH) : Prop := E 1 = (.int .i64 at_1) ∧ E 6 = (Sl.v v_21) ∧ E 30 = (Sl.v v_30) ∧ E 31 = (.int .i64 (v_30.len : Int)) ∧ E 32 = (.int .i64 v_32) ∧ b38j2 N1 at_1 v_21 v_30 v_32 R F
def b38L1 (N1 : Int → PH → Prop) (at_1 : Int) (v_21 : Sl) (v_30 : Sl) (R : VP) (v_32 : Int) (F : PH) :=
 ((v_32 < (v_30.len : Int) →
  ∃ a34_ : Addr, v_30.base = some a34_ ∧ 0 ≤ v_32 ∧ v_32 < (v_30.len : Int) ∧
  ∃ v_35 : Array Value, v_35.size = 65 ∧ F.row (Addr.add a34_ (Int.toNat v_32 * 65)) v_35 ∧
  ∀ b8, F b8 = none → atF (F.set b8 (.cells (#[Value.int .i64 0] ++ Array.replicate 64 (Value.int .u8 0)) 102)) fun F =>
  v_35.size = 65 ∧ (∀ v ∈ v_35.toList, storable v) ∧ ∃ c e, F (Addr.mk b8 0 none).block = some (.cells c e (0, 0)) ∧ (Addr.mk b8 0 none).spot = none ∧ (Addr.mk b8 0 none).off + 65 ≤ c.size ∧
  atF (F.set (Addr.mk b8 0 none).block (.cells (wr c (Addr.mk b8 0 none).off v_35.toList) e)) fun F =>
  ∃ v_37 : Int, F.cell (Addr.mk b8 0 none) = some (.int .i64 v_37) ∧
  ((v_37 = at_1 →
   runs prog (Builtin.copy_ #[39, 39] 3 #[(Sl.v v_21), (Sl.v (Sl.cut ⟨some (Addr.mk b8 1 none), 64, 64⟩ 1 0 64 64))]) F fun v F => ∃ v_43 : Int, v = (.int .i64 v_43) ∧
   b38j2 N1 at_1 v_21 v_30 v_32 R F) ∧
  (¬ (v_37 = at_1) →
   b38j2 N1 at_1 v_21 v_30 v_32 R F))) ∧
 (¬ (v_32 < (v_30.len : Int)) →
  b38j1 v_21 R F))
def b38 (d_0 : Option Addr) (at_1 : Int) (R : VP) (F : PH) :=
 ((at_1 < 0 →
  R (.tuple #[(Sl.v Sl.nil), (.int .i64 1)]) F) ∧
 (¬ (at_1 < 0) →
  Spec prog 28 #[(.pointer d_0)] F fun v F => ∃ v_14 : Int, v = (.int .i64 v_14) ∧
  ((v_14 ≤ at_1 →
   R (.tuple #[(Sl.v Sl.nil), (.int .i64 1)]) F) ∧
  (¬ (v_14 ≤ at_1) →
   ∃ d0a_ : Addr, d_0 = some d0a_ ∧ ∃ v_20 : Bool, F.cell (Addr.add d0a_ 2) = some (.bool v_20) ∧
   ((v_20 = true →
    R (.tuple #[(Sl.v Sl.nil), (.int .i64 340)]) F) ∧
   (v_20 = false →
    runs prog (Instr.makeSlice 39 (.int .i64 64) (.int .i64 64)) F fun v F => ∃ v_21 : Sl, v = (Sl.v v_21) ∧
    Spec prog 64 #[(.pointer (some d0a_)), (.int .i64 at_1)] F fun v F => ∃ v_25 : Sl, v = (Sl.v v_25) ∧
    runs prog (Builtin.copy_ #[39, 39] 3 #[(Sl.v v_21), (Sl.v v_25)]) F fun v F => ∃ v_26 : Int, v = (.int .i64 v_26) ∧
    ∃ v_30 : Sl, F.cell (Addr.add d0a_ 1) = some (Sl.v v_30) ∧
    (∃ (I1 : Nat → Int → PH → Prop) (m1 : Nat), I1 m1 0 F ∧ ∀ m1 v_32 F, I1 m1 v_32 F →
     b38L1 (nx1 I1 m1) at_1 v_21 v_30 R v_32 F)))))))
theorem c38 {d_0 : Option Addr} {at_1 : Int} {R : VP} {F : PH} (h : b38 d_0 at_1 R F) : Spec prog 38 #[(.pointer d_0), (.int .i64 at_1)] F R := by
 refine spec_of (args := [(.pointer d_0), (.int .i64 at_1)]) func38 rfl ntmps38 rfl ?_
 unfold b38 at h
 refine cR (sR (Sl.v Sl.nil) (r_assign rfl rfl) ?_)
 refine sR (.int .i64 0) (r_assign rfl rfl) ?_
 refine HL_nil ?_
 refine HC_seq ?_
 refine cR (sR (.int .i64 at_1) (r_move rfl rfl) ?_)
 refine sR (.bool (decide (at_1 < 0))) (r_lss rfl rfl rfl) ?_
 refine sR (.bool (decide (at_1 < 0))) (r_move rfl rfl) ?_
 by_cases hc : at_1 < 0
 replace h := h.1 hc
 refine kN 10 (decide_eq_true hc) ?_
 refine kN 11 (decide_eq_true hc) ?_
 iterate 4 refine s_skip ?_
 refine sR (.bool true) (r_pt rfl rfl) ?_
 refine HL_nil ?_
 refine HC_condT rfl ?_
 refine cR (sR (Sl.v Sl.nil) (r_assign rfl rfl) ?_)
 refine sR (.int .i64 1) (r_assign rfl rfl) ?_
 exact HL_nil (HC_ret (rt2 f38 R rfl rfl rfl h))
 replace h := h.2 hc
 refine kN 10 (decide_eq_false hc) ?_
 refine kN 11 (decide_eq_false hc) ?_
 refine sR (.int .i64 at_1) (r_move rfl rfl) ?_
 refine sR (.pointer d_0) (r_move rfl rfl) ?_
 refine s_ef (k_call (vs := [(.pointer d_0)]) cb28 (evC rfl evN) (h.mono ?_))
 clear h; rintro v F ⟨v_14, rfl, h⟩
 refine sR (.bool (decide (v_14 ≤ at_1))) (r_geq rfl rfl rfl) ?_
 refine sR (.bool (decide (v_14 ≤ at_1))) (r_pf rfl rfl) ?_
 refine HL_nil ?_
 refine HC_cond (t := (decide (v_14 ≤ at_1))) rfl (fun hc => ?_) (fun hc => ?_)
 replace h := h.1 (of_decide_eq_true hc)
 clear hc
 refine cR (sR (Sl.v Sl.nil) (r_assign rfl rfl) ?_)
 refine sR (.int .i64 1) (r_assign rfl rfl) ?_
 exact HL_nil (HC_ret (rt2 f38 R rfl rfl rfl h))
 replace h := h.2 (of_decide_eq_false hc)
 clear hc
 refine HC_skip ?_
 refine HC_seq ?_
 refine cR (sR (.pointer d_0) (r_move rfl rfl) ?_)
 obtain ⟨d0a_, rfl, h⟩ := h
 refine sR (.pointer (some d0a_)) (r_nilCheck rfl rfl) ?_
 refine sR (.pointer (some (Addr.add d0a_ 2))) (w_fieldAddr rfl underlying99 rfl rfl sz4 rfl rfl) ?_
 obtain ⟨v_20, hc20, h⟩ := h
 refine sR (.bool v_20) (r_load1 rfl rfl underlying4 rfl hc20) ?_
 refine HL_nil ?_
 refine HC_cond (t := v_20) rfl (fun hc => ?_) (fun hc => ?_)
 replace h := h.1 hc
 clear hc
 refine cR (sR (Sl.v Sl.nil) (r_assign rfl rfl) ?_)
 refine sR (.int .i64 340) (r_assign rfl rfl) ?_
 exact HL_nil (HC_ret (rt2 f38 R rfl rfl rfl h))
 replace h := h.2 hc
 clear hc
 refine HC_skip ?_
 refine cR ?_
 refine s_ef (k_makeSlice rfl rfl (runs_mono _ _ h ?_))
 clear h; rintro v F ⟨v_21, rfl, h⟩
 refine sR (Sl.v v_21) (r_assign rfl rfl) ?_
 refine HL_nil ?_
 refine cR (sR (Sl.v v_21) (r_move rfl rfl) ?_)
 refine sR (.pointer (some d0a_)) (r_move rfl rfl) ?_
 refine sR (.int .i64 at_1) (r_move rfl rfl) ?_
 refine s_ef (k_call (vs := [(.pointer (some d0a_)), (.int .i64 at_1)]) cb64 (evC rfl (evC rfl evN)) (h.mono ?_))
 clear h; rintro v F ⟨v_25, rfl, h⟩
 refine s_ef (k_copy rfl rfl (runs_mono _ _ h ?_))
 clear h; rintro v F ⟨v_26, rfl, h⟩
 refine HL_nil ?_
 refine HC_seqJ (b38J1 v_21 R) ?_ ?_
 clear h; rintro E F ⟨h6, h⟩
 unfold b38j1 at h
 refine cR (sR _ (r_move rfl h6) ?_)
 refine sR (Sl.v v_21) (r_assign rfl rfl) ?_
 refine sR (.int .i64 0) (r_assign rfl rfl) ?_
 exact HL_nil (HC_ret (rt2 f38 R rfl rfl rfl h))
 refine cR (sR (.pointer (some d0a_)) (r_move rfl rfl) ?_)
 refine sR (.pointer (some d0a_)) (r_nilCheck rfl rfl) ?_
 refine sR (.pointer (some (Addr.add d0a_ 1))) (w_fieldAddr rfl underlying99 rfl rfl sz97 rfl rfl) ?_
 obtain ⟨v_30, hc30, h⟩ := h
 refine sR (Sl.v v_30) (r_load1 rfl rfl underlying97 rfl hc30) ?_
 refine sR (.int .i64 (v_30.len : Int)) (r_lenSl rfl rfl underlying97) ?_
 refine sR (.int .i64 0) (r_move rfl rfl) ?_
 refine HL_nil ?_
 refine HC_block ?_
 obtain ⟨I1, m1, hI0, hr⟩ := h
 refine HC_loop (fun m1 E F => ∃ v_32 : Int, E 1 = (.int .i64 at_1) ∧ E 6 = (Sl.v v_21) ∧ E 30 = (Sl.v v_30) ∧ E 31 = (.int .i64 (v_30.len : Int)) ∧ E 32 = (.int .i64 v_32) ∧ I1 m1 v_32 F) m1 ⟨_, rfl, rfl, rfl, rfl, rfl, hI0⟩ ?_
 clear hI0; rintro m1 E F ⟨v_32, h1, h6, h30, h31, h32, hI⟩
 have h := hr m1 v_32 F hI
 clear hr hI
 unfold b38L1 at h
 refine cR (sR (.bool (decide (v_32 < (v_30.len : Int)))) (r_lss rfl h32 h31) ?_)
 refine HL_nil ?_
 refine HC_seq ?_
 refine HC_cond (t := (decide (v_32 < (v_30.len : Int)))) rfl (fun hc => ?_) (fun hc => ?_)
 replace h := h.1 (of_decide_eq_true hc)
 clear hc
 refine HC_skip ?_
 refine HC_seqJ (b38J2 (nx1 I1 m1) at_1 v_21 v_30 v_32 R) ?_ ?_
 clear h; rintro E F ⟨h1, h6, h30, h31, h32, h⟩
 unfold b38j2 at h
 refine HC_region ?_
 refine sR (.int .i64 (IntKind.i64.wrap (v_32 + 1))) (r_add rfl h32 rfl) ?_
 refine sR (.int .i64 (IntKind.i64.wrap (v_32 + 1))) (r_move rfl rfl) ?_
 refine HL_nil ?_
 obtain ⟨m', hm, h⟩ := h
 exact ⟨m', hm, _, h1, h6, h30, h31, rfl, h⟩
 refine HC_block ?_
 refine cR ?_
 obtain ⟨a34_, hb34, hl34, hu34, h⟩ := h
 refine sR (.pointer (some (Addr.add a34_ (Int.toNat v_32 * 65)))) (w_indexAddr h30 h32 underlying97 sz102 hb34 hl34 hu34) ?_
 obtain ⟨v_35, hs35, hc35, h⟩ := h
 refine sR (.agg v_35) (w_loadN rfl underlying102 rfl sz102 hs35 hc35) ?_
 refine s_ef (k_alloc zr102 ?_)
 intro b8 hf_b8
 replace h := atE (h b8 hf_b8)
 refine s_ef0 (k_storeN (vs := v_35) rfl rfl sz102 (by decide) ?_)
 obtain ⟨hz1, hz2, c, e, hz3, hz4, hz5, h⟩ := h
 refine ⟨hz1, hz2, c, e, hz3, hz4, hz5, ?_⟩
 replace h := atE h
 refine HL_nil ?_
 refine cR (sR (.pointer (some (Addr.mk b8 0 none))) (w_fieldAddr rfl underlying102 rfl rfl sz3 rfl rfl) ?_)
 obtain ⟨v_37, hc37, h⟩ := h
 refine sR (.int .i64 v_37) (r_load1 rfl rfl underlying3 rfl hc37) ?_
 refine sR _ (r_move rfl h1) ?_
 refine sR (.bool (decide (v_37 = at_1))) (w_eql rfl rfl) ?_
 refine HL_nil ?_
 refine HC_cond (t := (decide (v_37 = at_1))) rfl (fun hc => ?_) (fun hc => ?_)
 replace h := h.1 (of_decide_eq_true hc)
 clear hc
 refine HC_region ?_
 refine sR _ (r_move rfl h6) ?_
 refine sR (.pointer (some (Addr.mk b8 1 none))) (w_fieldAddr rfl underlying102 rfl rfl sz100 rfl rfl) ?_
 refine sR (Sl.v (Sl.cut ⟨some (Addr.mk b8 1 none), 64, 64⟩ 1 0 64 64)) (r_sliceAr rfl rfl underlying100 sz5 bo_none bo_none (Nat.zero_le _) (Nat.le_refl _)) ?_
 refine s_ef (k_copy rfl rfl (runs_mono _ _ h ?_))
 clear h; rintro v F ⟨v_43, rfl, h⟩
 refine HL_nil ?_
 show b38J2 (nx1 I1 m1) at_1 v_21 v_30 v_32 R _ _
 exact ⟨h1, h6, h30, h31, h32, h⟩
 replace h := h.2 (of_decide_eq_false hc)
 clear hc
 refine HC_skip ?_
 show b38J2 (nx1 I1 m1) at_1 v_21 v_30 v_32 R _ _
 exact ⟨h1, h6, h30, h31, h32, h⟩
 replace h := h.2 (of_decide_eq_false hc)
 clear hc
 refine HC_exit ?_
 show b38J1 v_21 R _ _
 exact ⟨h6, h⟩
 /- 56 (*koine.disk.Disk).ready -/
def b56 (d_0 : Option Addr) (R : VP) (F : PH) :=
 ∃ d0a_ : Addr, d_0 = some d0a_ ∧ ∃ v_6 : Bool, F.cell (Addr.add d0a_ 2) = some (.bool v_6) ∧
 ((v_6 = true →
  R (.int .i64 340) F) ∧
 (v_6 = false →
  ∃ v_10 : Int, F.cell (Addr.add d0a_ 3) = some (.int .i64 v_10) ∧
  ((v_10 = 1 →
   ∃ v_16 : Sl, F.cell (Addr.add d0a_ 4) = some (Sl.v v_16) ∧
   Spec prog 68 #[(.pointer (some d0a_)), (Sl.v v_16)] F fun v F => v = Value.tuple #[] ∧
   R (.int .i64 340) F) ∧
  (¬ (v_10 = 1) →
   ∃ v_22 : Int, F.cell (Addr.add d0a_ 3) = some (.int .i64 v_22) ∧
   ∃ c e, F (Addr.add d0a_ 3).block = some (.cells c e (0, 0)) ∧ (Addr.add d0a_ 3).spot = none ∧ (Addr.add d0a_ 3).off < c.size ∧
   atF (F.set (Addr.add d0a_ 3).block (.cells (c.setIfInBounds (Addr.add d0a_ 3).off (.int .i64 (max (IntKind.i64.wrap (v_22 - 1)) 0))) e)) fun F =>
   R (.int .i64 0) F))))
theorem c56 {d_0 : Option Addr} {R : VP} {F : PH} (h : b56 d_0 R F) : Spec prog 56 #[(.pointer d_0)] F R := by
 refine spec_of (args := [(.pointer d_0)]) func56 rfl ntmps56 rfl ?_
 unfold b56 at h
 refine cR (sR (.int .i64 0) (r_assign rfl rfl) ?_)
 refine HL_nil ?_
 refine HC_seq ?_
 refine cR (sR (.pointer d_0) (r_move rfl rfl) ?_)
 obtain ⟨d0a_, rfl, h⟩ := h
 refine sR (.pointer (some d0a_)) (r_nilCheck rfl rfl) ?_
 refine sR (.pointer (some (Addr.add d0a_ 2))) (w_fieldAddr rfl underlying99 rfl rfl sz4 rfl rfl) ?_
 obtain ⟨v_6, hc6, h⟩ := h
 refine sR (.bool v_6) (r_load1 rfl rfl underlying4 rfl hc6) ?_
 refine HL_nil ?_
 refine HC_cond (t := v_6) rfl (fun hc => ?_) (fun hc => ?_)
 replace h := h.1 hc
 clear hc
 refine cR (sR (.int .i64 340) (r_assign rfl rfl) ?_)
 exact HL_nil (HC_ret (rt1 f56 R rfl rfl h))
 replace h := h.2 hc
 clear hc
 refine HC_skip ?_
 refine HC_seq ?_
 refine cR (sR (.pointer (some d0a_)) (r_move rfl rfl) ?_)
 refine sR (.pointer (some d0a_)) (r_nilCheck rfl rfl) ?_
 refine sR (.pointer (some (Addr.add d0a_ 3))) (w_fieldAddr rfl underlying99 rfl rfl sz3 rfl rfl) ?_
 obtain ⟨v_10, hc10, h⟩ := h
 refine sR (.int .i64 v_10) (r_load1 rfl rfl underlying3 rfl hc10) ?_
 refine sR (.bool (decide (v_10 = 1))) (w_eql rfl rfl) ?_
 refine HL_nil ?_
 refine HC_cond (t := (decide (v_10 = 1))) rfl (fun hc => ?_) (fun hc => ?_)
 replace h := h.1 (of_decide_eq_true hc)
 clear hc
 refine cR (sR (.pointer (some d0a_)) (r_move rfl rfl) ?_)
 refine sR (.pointer (some d0a_)) (r_move rfl rfl) ?_
 refine sR (.pointer (some d0a_)) (r_nilCheck rfl rfl) ?_
 refine sR (.pointer (some (Addr.add d0a_ 4))) (w_fieldAddr rfl underlying99 rfl rfl sz68 rfl rfl) ?_
 obtain ⟨v_16, hc16, h⟩ := h
 refine sR (Sl.v v_16) (r_load1 rfl rfl underlying68 rfl hc16) ?_
 refine s_ef (k_call (vs := [(.pointer (some d0a_)), (Sl.v v_16)]) cb68 (evC rfl (evC rfl evN)) (h.mono ?_))
 clear h; rintro v F ⟨rfl, h⟩
 refine HL_nil ?_
 refine cR (sR (.int .i64 340) (r_assign rfl rfl) ?_)
 exact HL_nil (HC_ret (rt1 f56 R rfl rfl h))
 replace h := h.2 (of_decide_eq_false hc)
 clear hc
 refine HC_skip ?_
 refine cR (sR (.pointer (some d0a_)) (r_move rfl rfl) ?_)
 refine sR (.pointer (some d0a_)) (r_move rfl rfl) ?_
 refine sR (.pointer (some d0a_)) (r_nilCheck rfl rfl) ?_
 refine sR (.pointer (some (Addr.add d0a_ 3))) (w_fieldAddr rfl underlying99 rfl rfl sz3 rfl rfl) ?_
 obtain ⟨v_22, hc22, h⟩ := h
 refine sR (.int .i64 v_22) (r_load1 rfl rfl underlying3 rfl hc22) ?_
 refine sR (.int .i64 (IntKind.i64.wrap (v_22 - 1))) (r_sub rfl rfl rfl) ?_
 refine sR (.int .i64 (max (IntKind.i64.wrap (v_22 - 1)) 0)) (r_max2 rfl rfl rfl) ?_
 refine sR (.pointer (some d0a_)) (r_nilCheck rfl rfl) ?_
 refine sR (.pointer (some (Addr.add d0a_ 3))) (w_fieldAddr rfl underlying99 rfl rfl sz3 rfl rfl) ?_
 refine s_ef0 (k_store1 (v := (.int .i64 (max (IntKind.i64.wrap (v_22 - 1)) 0))) rfl rfl sz3 rfl st_int ?_)
 obtain ⟨c, e, hz3, hz4, hz5, h⟩ := h
 refine ⟨c, e, hz3, hz4, hz5, ?_⟩
 replace h := atE h
 refine HL_nil ?_
 refine cR (sR (.int .i64 0) (r_assign rfl rfl) ?_)
 exact HL_nil (HC_ret (rt1 f56 R rfl rfl h))
 /- 68 (*koine.disk.Disk).Crash -/
def b68j1 (d0a_ : Addr) (R : VP) (F : PH) :=
 ∃ c e, F (Addr.add d0a_ 1).block = some (.cells c e (0, 0)) ∧ (Addr.add d0a_ 1).spot = none ∧ (Addr.add d0a_ 1).off < c.size ∧
 atF (F.set (Addr.add d0a_ 1).block (.cells (c.setIfInBounds (Addr.add d0a_ 1).off (Sl.v Sl.nil)) e)) fun F =>
 ∃ c e, F (Addr.add d0a_ 4).block = some (.cells c e (0, 0)) ∧ (Addr.add d0a_ 4).spot = none ∧ (Addr.add d0a_ 4).off < c.size ∧
 atF (F.set (Addr.add d0a_ 4).block (.cells (c.setIfInBounds (Addr.add d0a_ 4).off (Sl.v Sl.nil)) e)) fun F =>
 ∃ c e, F (Addr.add d0a_ 3).block = some (.cells c e (0, 0)) ∧ (Addr.add d0a_ 3).spot = none ∧ (Addr.add d0a_ 3).off < c.size ∧
 atF (F.set (Addr.add d0a_ 3).block (.cells (c.setIfInBounds (Addr.add d0a_ 3).off (.int .i64 0)) e)) fun F =>
 ∃ c e, F (Addr.add d0a_ 2).block = some (.cells c e (0, 0)) ∧ (Addr.add d0a_ 2).spot = none ∧ (Addr.add d0a_ 2).off < c.size ∧
 atF (F.set (Addr.add d0a_ 2).block (.cells (c.setIfInBounds (Addr.add d0a_ 2).off (.bool true)) e)) fun F =>
 R (.tuple #[]) F
abbrev b68J1 (d0a_ : Addr) (R : VP) (E : En) (F : PH) : Prop := E 0 = (.pointer (some d0a_)) ∧ b68j1 d0a_ R F
def b68j2 (N1 : Int → PH → Prop) (d0a_ : Addr) (kept_1 : Sl) (v_14 : Sl) (v_16 : Int) (R : VP) (F : PH) :=
 N1 (IntKind.i64.wrap (v_16 + 1)) F
abbrev b68J2 (N1 : Int → PH → Prop) (d0a_ : Addr) (kept_1 : Sl) (v_14 : Sl) (v_16 : Int) (R : VP) (E : En) (F : PH) : Prop := E 0 = (.pointer (some d0a_)) ∧ E 1 = (Sl.v kept_1) ∧ E 14 = (Sl.v v_14) ∧ E 15 = (.int .i64 (v_14.len : Int)) ∧ E 16 = (.int .i64 v_16) ∧ b68j2 N1 d0a_ kept_1 v_14 v_16 R F
def b68L1 (N1 : Int → PH → Prop) (d0a_ : Addr) (kept_1 : Sl) (v_14 : Sl) (R : VP) (v_16 : Int) (F : PH) :=
 ((v_16 < (v_14.len : Int) →
  ∃ a19_ : Addr, v_14.base = some a19_ ∧ 0 ≤ v_16 ∧ v_16 < (v_14.len : Int) ∧
  ∃ v_20 : Array Value, v_20.size = 65 ∧ F.row (Addr.add a19_ (Int.toNat v_16 * 65)) v_20 ∧
  ∀ b5, F b5 = none → atF (F.set b5 (.cells (#[Value.int .i64 0] ++ Array.replicate 64 (Value.int .u8 0)) 102)) fun F =>
  v_20.size = 65 ∧ (∀ v ∈ v_20.toList, storable v) ∧ ∃ c e, F (Addr.mk b5 0 none).block = some (.cells c e (0, 0)) ∧ (Addr.mk b5 0 none).spot = none ∧ (Addr.mk b5 0 none).off + 65 ≤ c.size ∧
  atF (F.set (Addr.mk b5 0 none).block (.cells (wr c (Addr.mk b5 0 none).off v_20.toList) e)) fun F =>
  ((v_16 < (kept_1.len : Int) →
   ∃ a27_ : Addr, kept_1.base = some a27_ ∧ 0 ≤ v_16 ∧ v_16 < (kept_1.len : Int) ∧
   ∃ v_28 : Int, F.cell (Addr.add a27_ (Int.toNat v_16 * 1)) = some (.int .i64 v_28) ∧
   ∃ v_33 : Int, F.cell (Addr.mk b5 0 none) = some (.int .i64 v_33) ∧
   0 ≤ (min (max v_28 0) 64) ∧ 0 ≤ (Int.toNat (min (max v_28 0) 64)) ∧ (Int.toNat (min (max v_28 0) 64)) ≤ 64 ∧ Spec prog 64 #[(.pointer (some d0a_)), (.int .i64 v_33)] F fun v F => ∃ v_34 : Sl, v = (Sl.v v_34) ∧
   runs prog (Builtin.copy_ #[39, 39] 3 #[(Sl.v v_34), (Sl.v (Sl.cut ⟨some (Addr.mk b5 1 none), 64, 64⟩ 1 0 (Int.toNat (min (max v_28 0) 64)) 64))]) F fun v F => ∃ v_38 : Int, v = (.int .i64 v_38) ∧
   b68j2 N1 d0a_ kept_1 v_14 v_16 R F) ∧
  (¬ (v_16 < (kept_1.len : Int)) →
   b68j2 N1 d0a_ kept_1 v_14 v_16 R F))) ∧
 (¬ (v_16 < (v_14.len : Int)) →
  b68j1 d0a_ R F))
def b68 (d_0 : Option Addr) (kept_1 : Sl) (R : VP) (F : PH) :=
 ∃ d0a_ : Addr, d_0 = some d0a_ ∧ ∃ v_10 : Bool, F.cell (Addr.add d0a_ 2) = some (.bool v_10) ∧
 ((v_10 = true →
  R (.tuple #[]) F) ∧
 (v_10 = false →
  ∃ v_14 : Sl, F.cell (Addr.add d0a_ 1) = some (Sl.v v_14) ∧
  (∃ (I1 : Nat → Int → PH → Prop) (m1 : Nat), I1 m1 0 F ∧ ∀ m1 v_16 F, I1 m1 v_16 F →
   b68L1 (nx1 I1 m1) d0a_ kept_1 v_14 R v_16 F)))
theorem c68 {d_0 : Option Addr} {kept_1 : Sl} {R : VP} {F : PH} (h : b68 d_0 kept_1 R F) : Spec prog 68 #[(.pointer d_0), (Sl.v kept_1)] F R := by
 refine spec_of (args := [(.pointer d_0), (Sl.v kept_1)]) func68 rfl ntmps68 rfl ?_
 unfold b68 at h
 refine HC_seq ?_
 refine cR (sR (.pointer d_0) (r_move rfl rfl) ?_)
 obtain ⟨d0a_, rfl, h⟩ := h
 refine sR (.pointer (some d0a_)) (r_nilCheck rfl rfl) ?_
 refine sR (.pointer (some (Addr.add d0a_ 2))) (w_fieldAddr rfl underlying99 rfl rfl sz4 rfl rfl) ?_
 obtain ⟨v_10, hc10, h⟩ := h
 refine sR (.bool v_10) (r_load1 rfl rfl underlying4 rfl hc10) ?_
 refine HL_nil ?_
 refine HC_cond (t := v_10) rfl (fun hc => ?_) (fun hc => ?_)
 replace h := h.1 hc
 clear hc
 exact HC_ret (show endQ prog f68 R .ret _ _ from ⟨_, res0 rfl, h⟩)
 replace h := h.2 hc
 clear hc
 refine HC_skip ?_
 refine HC_seqJ (b68J1 d0a_ R) ?_ ?_
 clear h; rintro E F ⟨h0, h⟩
 unfold b68j1 at h
 refine HC_region ?_
 refine sR _ (r_move rfl h0) ?_
 refine sR _ (r_move rfl h0) ?_
 refine sR _ (r_move rfl h0) ?_
 refine sR _ (r_move rfl h0) ?_
 refine sR (.pointer (some d0a_)) (r_nilCheck rfl rfl) ?_
 refine sR (.pointer (some (Addr.add d0a_ 1))) (w_fieldAddr rfl underlying99 rfl rfl sz97 rfl rfl) ?_
 refine s_ef0 (k_store1 (v := (Sl.v Sl.nil)) rfl rfl sz97 rfl st_sl ?_)
 obtain ⟨c, e, hz3, hz4, hz5, h⟩ := h
 refine ⟨c, e, hz3, hz4, hz5, ?_⟩
 replace h := atE h
 refine sR (.pointer (some d0a_)) (r_nilCheck rfl rfl) ?_
 refine sR (.pointer (some (Addr.add d0a_ 4))) (w_fieldAddr rfl underlying99 rfl rfl sz68 rfl rfl) ?_
 refine s_ef0 (k_store1 (v := (Sl.v Sl.nil)) rfl rfl sz68 rfl st_sl ?_)
 obtain ⟨c, e, hz3, hz4, hz5, h⟩ := h
 refine ⟨c, e, hz3, hz4, hz5, ?_⟩
 replace h := atE h
 refine sR (.pointer (some d0a_)) (r_nilCheck rfl rfl) ?_
 refine sR (.pointer (some (Addr.add d0a_ 3))) (w_fieldAddr rfl underlying99 rfl rfl sz3 rfl rfl) ?_
 refine s_ef0 (k_store1 (v := (.int .i64 0)) rfl rfl sz3 rfl st_int ?_)
 obtain ⟨c, e, hz3, hz4, hz5, h⟩ := h
 refine ⟨c, e, hz3, hz4, hz5, ?_⟩
 replace h := atE h
 refine sR (.pointer (some d0a_)) (r_nilCheck rfl rfl) ?_
 refine sR (.pointer (some (Addr.add d0a_ 2))) (w_fieldAddr rfl underlying99 rfl rfl sz4 rfl rfl) ?_
 refine s_ef0 (k_store1 (v := (.bool true)) rfl rfl sz4 rfl st_bool ?_)
 obtain ⟨c, e, hz3, hz4, hz5, h⟩ := h
 refine ⟨c, e, hz3, hz4, hz5, ?_⟩
 replace h := atE h
 refine HL_nil ?_
 exact (show endQ prog f68 R .normal _ _ from ⟨_, res0 rfl, h⟩)
 refine cR (sR (.pointer (some d0a_)) (r_move rfl rfl) ?_)
 refine sR (.pointer (some d0a_)) (r_nilCheck rfl rfl) ?_
 refine sR (.pointer (some (Addr.add d0a_ 1))) (w_fieldAddr rfl underlying99 rfl rfl sz97 rfl rfl) ?_
 obtain ⟨v_14, hc14, h⟩ := h
 refine sR (Sl.v v_14) (r_load1 rfl rfl underlying97 rfl hc14) ?_
 refine sR (.int .i64 (v_14.len : Int)) (r_lenSl rfl rfl underlying97) ?_
 refine sR (.int .i64 0) (r_move rfl rfl) ?_
 refine HL_nil ?_
 refine HC_block ?_
 obtain ⟨I1, m1, hI0, hr⟩ := h
 refine HC_loop (fun m1 E F => ∃ v_16 : Int, E 0 = (.pointer (some d0a_)) ∧ E 1 = (Sl.v kept_1) ∧ E 14 = (Sl.v v_14) ∧ E 15 = (.int .i64 (v_14.len : Int)) ∧ E 16 = (.int .i64 v_16) ∧ I1 m1 v_16 F) m1 ⟨_, rfl, rfl, rfl, rfl, rfl, hI0⟩ ?_
 clear hI0; rintro m1 E F ⟨v_16, h0, h1, h14, h15, h16, hI⟩
 have h := hr m1 v_16 F hI
 clear hr hI
 unfold b68L1 at h
 refine cR (sR (.bool (decide (v_16 < (v_14.len : Int)))) (r_lss rfl h16 h15) ?_)
 refine HL_nil ?_
 refine HC_seq ?_
 refine HC_cond (t := (decide (v_16 < (v_14.len : Int)))) rfl (fun hc => ?_) (fun hc => ?_)
 replace h := h.1 (of_decide_eq_true hc)
 clear hc
 refine HC_skip ?_
 refine HC_seqJ (b68J2 (nx1 I1 m1) d0a_ kept_1 v_14 v_16 R) ?_ ?_
 clear h; rintro E F ⟨h0, h1, h14, h15, h16, h⟩
 unfold b68j2 at h
 refine HC_region ?_
 refine sR (.int .i64 (IntKind.i64.wrap (v_16 + 1))) (r_add rfl h16 rfl) ?_
 refine sR (.int .i64 (IntKind.i64.wrap (v_16 + 1))) (r_move rfl rfl) ?_
 refine HL_nil ?_
 obtain ⟨m', hm, h⟩ := h
 exact ⟨m', hm, _, h0, h1, h14, h15, rfl, h⟩
 refine HC_block ?_
 refine cR (sR _ (r_move rfl h16) ?_)
 obtain ⟨a19_, hb19, hl19, hu19, h⟩ := h
 refine sR (.pointer (some (Addr.add a19_ (Int.toNat v_16 * 65)))) (w_indexAddr h14 h16 underlying97 sz102 hb19 hl19 hu19) ?_
 obtain ⟨v_20, hs20, hc20, h⟩ := h
 refine sR (.agg v_20) (w_loadN rfl underlying102 rfl sz102 hs20 hc20) ?_
 refine s_ef (k_alloc zr102 ?_)
 intro b5 hf_b5
 replace h := atE (h b5 hf_b5)
 refine sR (.int .i64 v_16) (r_assign rfl rfl) ?_
 refine s_ef0 (k_storeN (vs := v_20) rfl rfl sz102 (by decide) ?_)
 obtain ⟨hz1, hz2, c, e, hz3, hz4, hz5, h⟩ := h
 refine ⟨hz1, hz2, c, e, hz3, hz4, hz5, ?_⟩
 replace h := atE h
 refine HL_nil ?_
 refine cR (sR (.int .i64 v_16) (r_move rfl rfl) ?_)
 refine sR _ (r_move rfl h1) ?_
 refine sR (.int .i64 (kept_1.len : Int)) (r_lenSl rfl rfl underlying68) ?_
 refine sR (.bool (decide (v_16 < (kept_1.len : Int)))) (r_lss rfl rfl rfl) ?_
 refine HL_nil ?_
 refine HC_cond (t := (decide (v_16 < (kept_1.len : Int)))) rfl (fun hc => ?_) (fun hc => ?_)
 replace h := h.1 (of_decide_eq_true hc)
 clear hc
 refine cR (sR _ (r_move rfl h1) ?_)
 refine sR (.int .i64 v_16) (r_move rfl rfl) ?_
 obtain ⟨a27_, hb27, hl27, hu27, h⟩ := h
 refine sR (.pointer (some (Addr.add a27_ (Int.toNat v_16 * 1)))) (w_indexAddr rfl rfl underlying68 sz3 hb27 hl27 hu27) ?_
 obtain ⟨v_28, hc28, h⟩ := h
 refine sR (.int .i64 v_28) (r_load1 rfl rfl underlying3 rfl hc28) ?_
 refine sR (.int .i64 (max v_28 0)) (r_max2 rfl rfl rfl) ?_
 refine sR (.int .i64 (min (max v_28 0) 64)) (r_min2 rfl rfl rfl) ?_
 refine sR (.int .i64 (min (max v_28 0) 64)) (r_assign rfl rfl) ?_
 refine HL_nil ?_
 refine HC_draw0 (by kernel_rfl) (fun hp => ?_)
 refine gU 0 (.pointer (some d0a_)) rfl (fun _ => r_move rfl h0) hp ?_
 refine gU 1 (.pointer (some (Addr.mk b5 0 none))) rfl (fun _ => w_fieldAddr rfl underlying102 rfl rfl sz3 rfl rfl) hp ?_
 obtain ⟨v_33, hc33, h⟩ := h
 refine gR 2 (.int .i64 v_33) rfl (r_load1 rfl rfl underlying3 rfl hc33) hp (fun S2 q2 => ?_)
 replace hp := holdC (i := 2) (q2 _ (r_load1 rfl rfl underlying3 rfl hc33)) hp
 refine gU 4 (.pointer (some (Addr.mk b5 1 none))) rfl (fun _ => w_fieldAddr rfl underlying102 rfl rfl sz100 rfl rfl) hp ?_
 refine gU 5 (.int .i64 (min (max v_28 0) 64)) rfl (fun _ => r_move rfl rfl) hp ?_
 obtain ⟨hq37_0, hr37_0, hr37_1, h⟩ := h
 refine gU 6 (Sl.v (Sl.cut ⟨some (Addr.mk b5 1 none), 64, 64⟩ 1 0 (Int.toNat (min (max v_28 0) 64)) 64)) rfl (fun _ => r_sliceAr rfl rfl underlying100 sz5 bo_none (bo_ev rfl hq37_0) hr37_0 hr37_1) hp ?_
 refine RG_eff1 (i := 3) (by kernel_rfl) (g_op (Sp' := []) rfl rfl (k_call (vs := [(.pointer (some d0a_)), (.int .i64 v_33)]) cb64 (evC rfl (evC rfl evN)) (h.mono ?_)))
 clear h; rintro v F ⟨v_34, rfl, h⟩
 refine holdI hold0 (fun hp => ?_)
 refine RG_eff1 (i := 7) (by kernel_rfl) (g_op (Sp' := []) rfl rfl (k_copy rfl rfl (runs_mono _ _ h ?_)))
 clear h; rintro v F ⟨v_38, rfl, h⟩
 refine holdI hold0 (fun hp => ?_)
 refine RG_done (by kernel_rfl) ?_
 show b68J2 (nx1 I1 m1) d0a_ kept_1 v_14 v_16 R _ _
 exact ⟨h0, h1, h14, h15, h16, h⟩
 replace h := h.2 (of_decide_eq_false hc)
 clear hc
 refine HC_skip ?_
 show b68J2 (nx1 I1 m1) d0a_ kept_1 v_14 v_16 R _ _
 exact ⟨h0, h1, h14, h15, h16, h⟩
 replace h := h.2 (of_decide_eq_false hc)
 clear hc
 refine HC_exit ?_
 show b68J1 d0a_ R _ _
 exact ⟨h0, h⟩
 /- 29 (*koine.disk.Disk).Write -/
def b29 (d_0 : Option Addr) (at_1 : Int) (data_2 : Sl) (R : VP) (F : PH) :=
 ((at_1 < 0 →
  R (.int .i64 1) F) ∧
 (¬ (at_1 < 0) →
  Spec prog 28 #[(.pointer d_0)] F fun v F => ∃ v_14 : Int, v = (.int .i64 v_14) ∧
  ((v_14 ≤ at_1 →
   R (.int .i64 1) F) ∧
  (¬ (v_14 ≤ at_1) →
   (((data_2.len : Int) ≠ 64 →
    R (.int .i64 1) F) ∧
   (¬ ((data_2.len : Int) ≠ 64) →
    Spec prog 56 #[(.pointer d_0)] F fun v F => ∃ v_23 : Int, v = (.int .i64 v_23) ∧
    ((v_23 ≠ 0 →
     R (.int .i64 v_23) F) ∧
    (¬ (v_23 ≠ 0) →
     ∀ b8, F b8 = none → atF (F.set b8 (.cells (#[Value.int .i64 0] ++ Array.replicate 64 (Value.int .u8 0)) 102)) fun F =>
     (Array.setIfInBounds (#[Value.int .i64 0] ++ Array.replicate 64 (Value.int .u8 0)) 0 (.int .i64 at_1)).size = 65 ∧ (∀ v ∈ (Array.setIfInBounds (#[Value.int .i64 0] ++ Array.replicate 64 (Value.int .u8 0)) 0 (.int .i64 at_1)).toList, storable v) ∧ ∃ c e, F (Addr.mk b8 0 none).block = some (.cells c e (0, 0)) ∧ (Addr.mk b8 0 none).spot = none ∧ (Addr.mk b8 0 none).off + 65 ≤ c.size ∧
     atF (F.set (Addr.mk b8 0 none).block (.cells (wr c (Addr.mk b8 0 none).off (Array.setIfInBounds (#[Value.int .i64 0] ++ Array.replicate 64 (Value.int .u8 0)) 0 (.int .i64 at_1)).toList) e)) fun F =>
     runs prog (Builtin.copy_ #[39, 39] 3 #[(Sl.v (Sl.cut ⟨some (Addr.mk b8 1 none), 64, 64⟩ 1 0 64 64)), (Sl.v data_2)]) F fun v F => ∃ v_32 : Int, v = (.int .i64 v_32) ∧
     ∃ d0a_ : Addr, d_0 = some d0a_ ∧ ∃ v_37 : Sl, F.cell (Addr.add d0a_ 1) = some (Sl.v v_37) ∧
     ∃ v_38 : Array Value, v_38.size = 65 ∧ F.row (Addr.mk b8 0 none) v_38 ∧
     v_38.size = 65 ∧ ∀ b39, F b39 = none → atF (F.set b39 (.cells v_38 102)) fun F =>
     runs prog (Builtin.append_ #[97, 97] 97 #[(Sl.v v_37), (Sl.v (Sl.mk (some (Addr.mk b39 0 none)) 1 1))]) F fun v F => ∃ v_40 : Sl, v = (Sl.v v_40) ∧
     ∃ c e, F (Addr.add d0a_ 1).block = some (.cells c e (0, 0)) ∧ (Addr.add d0a_ 1).spot = none ∧ (Addr.add d0a_ 1).off < c.size ∧
     atF (F.set (Addr.add d0a_ 1).block (.cells (c.setIfInBounds (Addr.add d0a_ 1).off (Sl.v v_40)) e)) fun F =>
     R (.int .i64 0) F))))))))
theorem c29 {d_0 : Option Addr} {at_1 : Int} {data_2 : Sl} {R : VP} {F : PH} (h : b29 d_0 at_1 data_2 R F) : Spec prog 29 #[(.pointer d_0), (.int .i64 at_1), (Sl.v data_2)] F R := by
 refine spec_of (args := [(.pointer d_0), (.int .i64 at_1), (Sl.v data_2)]) func29 rfl ntmps29 rfl ?_
 unfold b29 at h
 refine cR (sR (.int .i64 0) (r_assign rfl rfl) ?_)
 refine HL_nil ?_
 refine HC_seq ?_
 refine cR (sR (.int .i64 at_1) (r_move rfl rfl) ?_)
 refine sR (.bool (decide (at_1 < 0))) (r_lss rfl rfl rfl) ?_
 refine sR (.bool (decide (at_1 < 0))) (r_move rfl rfl) ?_
 by_cases hc : at_1 < 0
 replace h := h.1 hc
 refine kN 10 (decide_eq_true hc) ?_
 refine kN 11 (decide_eq_true hc) ?_
 iterate 4 refine s_skip ?_
 refine sR (.bool true) (r_pt rfl rfl) ?_
 refine sR (.bool true) (r_move rfl rfl) ?_
 iterate 3 refine s_skip ?_
 refine sR (.bool true) (r_pt rfl rfl) ?_
 refine HL_nil ?_
 refine HC_condT rfl ?_
 refine cR (sR (.int .i64 1) (r_assign rfl rfl) ?_)
 exact HL_nil (HC_ret (rt1 f29 R rfl rfl h))
 replace h := h.2 hc
 refine kN 10 (decide_eq_false hc) ?_
 refine kN 11 (decide_eq_false hc) ?_
 refine sR (.int .i64 at_1) (r_move rfl rfl) ?_
 refine sR (.pointer d_0) (r_move rfl rfl) ?_
 refine s_ef (k_call (vs := [(.pointer d_0)]) cb28 (evC rfl evN) (h.mono ?_))
 clear h; rintro v F ⟨v_14, rfl, h⟩
 refine sR (.bool (decide (v_14 ≤ at_1))) (r_geq rfl rfl rfl) ?_
 refine sR (.bool (decide (v_14 ≤ at_1))) (r_pf rfl rfl) ?_
 refine sR (.bool (decide (v_14 ≤ at_1))) (r_move rfl rfl) ?_
 by_cases hc : v_14 ≤ at_1
 replace h := h.1 hc
 refine kN 15 (decide_eq_true hc) ?_
 refine kN 16 (decide_eq_true hc) ?_
 refine kN 17 (decide_eq_true hc) ?_
 iterate 3 refine s_skip ?_
 refine sR (.bool true) (r_pt rfl rfl) ?_
 refine HL_nil ?_
 refine HC_condT rfl ?_
 refine cR (sR (.int .i64 1) (r_assign rfl rfl) ?_)
 exact HL_nil (HC_ret (rt1 f29 R rfl rfl h))
 replace h := h.2 hc
 refine kN 15 (decide_eq_false hc) ?_
 refine kN 16 (decide_eq_false hc) ?_
 refine kN 17 (decide_eq_false hc) ?_
 refine sR (Sl.v data_2) (r_move rfl rfl) ?_
 refine sR (.int .i64 (data_2.len : Int)) (r_lenSl rfl rfl underlying39) ?_
 refine sR (.bool (decide ((data_2.len : Int) ≠ 64))) (w_neq rfl rfl) ?_
 refine sR (.bool (decide ((data_2.len : Int) ≠ 64))) (r_pf rfl rfl) ?_
 refine HL_nil ?_
 refine HC_cond (t := (decide ((data_2.len : Int) ≠ 64))) rfl (fun hc => ?_) (fun hc => ?_)
 replace h := h.1 (of_decide_eq_true hc)
 clear hc
 refine cR (sR (.int .i64 1) (r_assign rfl rfl) ?_)
 exact HL_nil (HC_ret (rt1 f29 R rfl rfl h))
 replace h := h.2 (of_decide_eq_false hc)
 clear hc
 refine HC_skip ?_
 refine HC_seq ?_
 refine cR (sR (.pointer d_0) (r_move rfl rfl) ?_)
 refine s_ef (k_call (vs := [(.pointer d_0)]) cb56 (evC rfl evN) (h.mono ?_))
 clear h; rintro v F ⟨v_23, rfl, h⟩
 refine sR (.int .i64 v_23) (r_assign rfl rfl) ?_
 refine HL_nil ?_
 refine cR (sR (.int .i64 v_23) (r_move rfl rfl) ?_)
 refine sR (.bool (decide (v_23 ≠ 0))) (w_neq rfl rfl) ?_
 refine HL_nil ?_
 refine HC_cond (t := (decide (v_23 ≠ 0))) rfl (fun hc => ?_) (fun hc => ?_)
 replace h := h.1 (of_decide_eq_true hc)
 clear hc
 refine cR (sR (.int .i64 v_23) (r_move rfl rfl) ?_)
 refine sR (.int .i64 v_23) (r_assign rfl rfl) ?_
 exact HL_nil (HC_ret (rt1 f29 R rfl rfl h))
 replace h := h.2 (of_decide_eq_false hc)
 clear hc
 refine HC_skip ?_
 refine cR (sR (.int .i64 at_1) (r_move rfl rfl) ?_)
 refine sR (.agg (Array.setIfInBounds (#[Value.int .i64 0] ++ Array.replicate 64 (Value.int .u8 0)) 0 (.int .i64 at_1))) (w_buildStruct (cells := (Array.setIfInBounds (#[Value.int .i64 0] ++ Array.replicate 64 (Value.int .u8 0)) 0 (.int .i64 at_1))) underlying102 zr102 kf102 (evPC rfl evPN) (fill1 (place_of rfl rfl sz3) rfl rfl (fillN rfl))) ?_
 refine s_ef (k_alloc zr102 ?_)
 intro b8 hf_b8
 replace h := atE (h b8 hf_b8)
 refine s_ef0 (k_storeN (vs := (Array.setIfInBounds (#[Value.int .i64 0] ++ Array.replicate 64 (Value.int .u8 0)) 0 (.int .i64 at_1))) rfl rfl sz102 (by decide) ?_)
 obtain ⟨hz1, hz2, c, e, hz3, hz4, hz5, h⟩ := h
 refine ⟨hz1, hz2, c, e, hz3, hz4, hz5, ?_⟩
 replace h := atE h
 refine HL_nil ?_
 refine cR (sR (.pointer (some (Addr.mk b8 1 none))) (w_fieldAddr rfl underlying102 rfl rfl sz100 rfl rfl) ?_)
 refine sR (Sl.v (Sl.cut ⟨some (Addr.mk b8 1 none), 64, 64⟩ 1 0 64 64)) (r_sliceAr rfl rfl underlying100 sz5 bo_none bo_none (Nat.zero_le _) (Nat.le_refl _)) ?_
 refine sR (Sl.v data_2) (r_move rfl rfl) ?_
 refine s_ef (k_copy rfl rfl (runs_mono _ _ h ?_))
 clear h; rintro v F ⟨v_32, rfl, h⟩
 refine HL_nil ?_
 refine HC_seq ?_
 refine HC_draw0 (by kernel_rfl) (fun hp => ?_)
 refine gU 0 (.pointer d_0) rfl (fun _ => r_move rfl rfl) hp ?_
 refine gU 1 (.pointer d_0) rfl (fun _ => r_move rfl rfl) hp ?_
 obtain ⟨d0a_, rfl, h⟩ := h
 refine gU 2 (.pointer (some d0a_)) rfl (fun _ => r_nilCheck rfl rfl) hp ?_
 refine gU 3 (.pointer (some (Addr.add d0a_ 1))) rfl (fun _ => w_fieldAddr rfl underlying99 rfl rfl sz97 rfl rfl) hp ?_
 obtain ⟨v_37, hc37, h⟩ := h
 refine gR 4 (Sl.v v_37) rfl (r_load1 rfl rfl underlying97 rfl hc37) hp (fun S4 q4 => ?_)
 replace hp := holdC (i := 4) (q4 _ (r_load1 rfl rfl underlying97 rfl hc37)) hp
 obtain ⟨v_38, hs38, hc38, h⟩ := h
 refine gR 5 (.agg v_38) rfl (w_loadN rfl underlying102 rfl sz102 hs38 hc38) hp (fun S5 q5 => ?_)
 replace hp := holdC (i := 5) (q5 _ (w_loadN rfl underlying102 rfl sz102 hs38 hc38)) hp
 obtain ⟨hz39, h⟩ := h
 refine RG_eff1 (i := 6) (by kernel_rfl) (g_op (Sp' := [(4, S4)]) rfl rfl (k_buildSlice (cells := v_38) underlying97 sz102 (by decide) zr102 rfl (evPC rfl evPN) (fillWhole hz39 rfl rfl) rfl ?_))
 intro b39 hf_b39
 replace h := atE (h b39 hf_b39)
 refine holdI (holdC (i := 4) (q4 _ (r_load1 rfl rfl underlying97 rfl (cell_set_fresh hf_b39 hc37))) hold0) (fun hp => ?_)
 refine RG_eff1 (i := 7) (by kernel_rfl) (g_op (Sp' := []) rfl rfl (k_append rfl rfl (runs_mono _ _ h ?_)))
 clear h; rintro v F ⟨v_40, rfl, h⟩
 refine holdI hold0 (fun hp => ?_)
 refine gU 8 (.pointer (some d0a_)) rfl (fun _ => r_nilCheck rfl rfl) hp ?_
 refine gU 9 (.pointer (some (Addr.add d0a_ 1))) rfl (fun _ => w_fieldAddr rfl underlying99 rfl rfl sz97 rfl rfl) hp ?_
 refine RG_eff1 (i := 10) (by kernel_rfl) (g_op0 (Sp' := []) rfl rfl (k_store1 (v := (Sl.v v_40)) rfl rfl sz97 rfl st_sl ?_))
 obtain ⟨c, e, hz3, hz4, hz5, h⟩ := h
 refine ⟨c, e, hz3, hz4, hz5, ?_⟩
 replace h := atE h
 refine holdI hold0 (fun hp => ?_)
 refine RG_done (by kernel_rfl) ?_
 refine cR (sR (.int .i64 0) (r_assign rfl rfl) ?_)
 exact HL_nil (HC_ret (rt1 f29 R rfl rfl h))
 /- 69 (*koine.disk.Disk).Flush -/
def b69j1 (d_0 : Option Addr) (R : VP) (F : PH) :=
 ∃ d0a_ : Addr, d_0 = some d0a_ ∧ ∃ c e, F (Addr.add d0a_ 1).block = some (.cells c e (0, 0)) ∧ (Addr.add d0a_ 1).spot = none ∧ (Addr.add d0a_ 1).off < c.size ∧
 atF (F.set (Addr.add d0a_ 1).block (.cells (c.setIfInBounds (Addr.add d0a_ 1).off (Sl.v Sl.nil)) e)) fun F =>
 R (.int .i64 0) F
abbrev b69J1 (d_0 : Option Addr) (R : VP) (E : En) (F : PH) : Prop := E 0 = (.pointer d_0) ∧ b69j1 d_0 R F
def b69L1 (N1 : Int → PH → Prop) (d0a__1 : Addr) (v_14 : Sl) (R : VP) (v_16 : Int) (F : PH) :=
 ((v_16 < (v_14.len : Int) →
  ∃ a18_ : Addr, v_14.base = some a18_ ∧ 0 ≤ v_16 ∧ v_16 < (v_14.len : Int) ∧
  ∃ v_19 : Array Value, v_19.size = 65 ∧ F.row (Addr.add a18_ (Int.toNat v_16 * 65)) v_19 ∧
  ∀ b5, F b5 = none → atF (F.set b5 (.cells (#[Value.int .i64 0] ++ Array.replicate 64 (Value.int .u8 0)) 102)) fun F =>
  v_19.size = 65 ∧ (∀ v ∈ v_19.toList, storable v) ∧ ∃ c e, F (Addr.mk b5 0 none).block = some (.cells c e (0, 0)) ∧ (Addr.mk b5 0 none).spot = none ∧ (Addr.mk b5 0 none).off + 65 ≤ c.size ∧
  atF (F.set (Addr.mk b5 0 none).block (.cells (wr c (Addr.mk b5 0 none).off v_19.toList) e)) fun F =>
  ∃ v_22 : Int, F.cell (Addr.mk b5 0 none) = some (.int .i64 v_22) ∧
  Spec prog 64 #[(.pointer (some d0a__1)), (.int .i64 v_22)] F fun v F => ∃ v_23 : Sl, v = (Sl.v v_23) ∧
  runs prog (Builtin.copy_ #[39, 39] 3 #[(Sl.v v_23), (Sl.v (Sl.cut ⟨some (Addr.mk b5 1 none), 64, 64⟩ 1 0 64 64))]) F fun v F => ∃ v_26 : Int, v = (.int .i64 v_26) ∧
  N1 (IntKind.i64.wrap (v_16 + 1)) F) ∧
 (¬ (v_16 < (v_14.len : Int)) →
  b69j1 (some d0a__1) R F))
def b69 (d_0 : Option Addr) (R : VP) (F : PH) :=
 Spec prog 56 #[(.pointer d_0)] F fun v F => ∃ v_7 : Int, v = (.int .i64 v_7) ∧
 ((v_7 ≠ 0 →
  R (.int .i64 v_7) F) ∧
 (¬ (v_7 ≠ 0) →
  ∃ d0a__1 : Addr, d_0 = some d0a__1 ∧ ∃ v_14 : Sl, F.cell (Addr.add d0a__1 1) = some (Sl.v v_14) ∧
  (∃ (I1 : Nat → Int → PH → Prop) (m1 : Nat), I1 m1 0 F ∧ ∀ m1 v_16 F, I1 m1 v_16 F →
   b69L1 (nx1 I1 m1) d0a__1 v_14 R v_16 F)))
theorem c69 {d_0 : Option Addr} {R : VP} {F : PH} (h : b69 d_0 R F) : Spec prog 69 #[(.pointer d_0)] F R := by
 refine spec_of (args := [(.pointer d_0)]) func69 rfl ntmps69 rfl ?_
 unfold b69 at h
 refine cR (sR (.int .i64 0) (r_assign rfl rfl) ?_)
 refine HL_nil ?_
 refine HC_seq ?_
 refine cR (sR (.pointer d_0) (r_move rfl rfl) ?_)
 refine s_ef (k_call (vs := [(.pointer d_0)]) cb56 (evC rfl evN) (h.mono ?_))
 clear h; rintro v F ⟨v_7, rfl, h⟩
 refine sR (.int .i64 v_7) (r_assign rfl rfl) ?_
 refine HL_nil ?_
 refine cR (sR (.int .i64 v_7) (r_move rfl rfl) ?_)
 refine sR (.bool (decide (v_7 ≠ 0))) (w_neq rfl rfl) ?_
 refine HL_nil ?_
 refine HC_cond (t := (decide (v_7 ≠ 0))) rfl (fun hc => ?_) (fun hc => ?_)
 replace h := h.1 (of_decide_eq_true hc)
 clear hc
 refine cR (sR (.int .i64 v_7) (r_move rfl rfl) ?_)
 refine sR (.int .i64 v_7) (r_assign rfl rfl) ?_
 exact HL_nil (HC_ret (rt1 f69 R rfl rfl h))
 replace h := h.2 (of_decide_eq_false hc)
 clear hc
 refine HC_skip ?_
 refine HC_seqJ (b69J1 d_0 R) ?_ ?_
 clear h; rintro E F ⟨h0, h⟩
 unfold b69j1 at h
 refine cR (sR _ (r_move rfl h0) ?_)
 obtain ⟨d0a_, rfl, h⟩ := h
 refine sR (.pointer (some d0a_)) (r_nilCheck rfl rfl) ?_
 refine sR (.pointer (some (Addr.add d0a_ 1))) (w_fieldAddr rfl underlying99 rfl rfl sz97 rfl rfl) ?_
 refine s_ef0 (k_store1 (v := (Sl.v Sl.nil)) rfl rfl sz97 rfl st_sl ?_)
 obtain ⟨c, e, hz3, hz4, hz5, h⟩ := h
 refine ⟨c, e, hz3, hz4, hz5, ?_⟩
 replace h := atE h
 refine HL_nil ?_
 refine cR (sR (.int .i64 0) (r_assign rfl rfl) ?_)
 exact HL_nil (HC_ret (rt1 f69 R rfl rfl h))
 refine cR (sR (.pointer d_0) (r_move rfl rfl) ?_)
 obtain ⟨d0a__1, rfl, h⟩ := h
 refine sR (.pointer (some d0a__1)) (r_nilCheck rfl rfl) ?_
 refine sR (.pointer (some (Addr.add d0a__1 1))) (w_fieldAddr rfl underlying99 rfl rfl sz97 rfl rfl) ?_
 obtain ⟨v_14, hc14, h⟩ := h
 refine sR (Sl.v v_14) (r_load1 rfl rfl underlying97 rfl hc14) ?_
 refine sR (.int .i64 (v_14.len : Int)) (r_lenSl rfl rfl underlying97) ?_
 refine sR (.int .i64 0) (r_move rfl rfl) ?_
 refine HL_nil ?_
 refine HC_block ?_
 obtain ⟨I1, m1, hI0, hr⟩ := h
 refine HC_loop (fun m1 E F => ∃ v_16 : Int, E 0 = (.pointer (some d0a__1)) ∧ E 14 = (Sl.v v_14) ∧ E 15 = (.int .i64 (v_14.len : Int)) ∧ E 16 = (.int .i64 v_16) ∧ I1 m1 v_16 F) m1 ⟨_, rfl, rfl, rfl, rfl, hI0⟩ ?_
 clear hI0; rintro m1 E F ⟨v_16, h0, h14, h15, h16, hI⟩
 have h := hr m1 v_16 F hI
 clear hr hI
 unfold b69L1 at h
 refine cR (sR (.bool (decide (v_16 < (v_14.len : Int)))) (r_lss rfl h16 h15) ?_)
 refine HL_nil ?_
 refine HC_seq ?_
 refine HC_cond (t := (decide (v_16 < (v_14.len : Int)))) rfl (fun hc => ?_) (fun hc => ?_)
 replace h := h.1 (of_decide_eq_true hc)
 clear hc
 refine HC_skip ?_
 refine HC_seq ?_
 refine HC_block ?_
 refine cR ?_
 obtain ⟨a18_, hb18, hl18, hu18, h⟩ := h
 refine sR (.pointer (some (Addr.add a18_ (Int.toNat v_16 * 65)))) (w_indexAddr h14 h16 underlying97 sz102 hb18 hl18 hu18) ?_
 obtain ⟨v_19, hs19, hc19, h⟩ := h
 refine sR (.agg v_19) (w_loadN rfl underlying102 rfl sz102 hs19 hc19) ?_
 refine s_ef (k_alloc zr102 ?_)
 intro b5 hf_b5
 replace h := atE (h b5 hf_b5)
 refine s_ef0 (k_storeN (vs := v_19) rfl rfl sz102 (by decide) ?_)
 obtain ⟨hz1, hz2, c, e, hz3, hz4, hz5, h⟩ := h
 refine ⟨hz1, hz2, c, e, hz3, hz4, hz5, ?_⟩
 replace h := atE h
 refine HL_nil ?_
 refine HC_draw0 (by kernel_rfl) (fun hp => ?_)
 refine gU 0 (.pointer (some d0a__1)) rfl (fun _ => r_move rfl h0) hp ?_
 refine gU 1 (.pointer (some (Addr.mk b5 0 none))) rfl (fun _ => w_fieldAddr rfl underlying102 rfl rfl sz3 rfl rfl) hp ?_
 obtain ⟨v_22, hc22, h⟩ := h
 refine gR 2 (.int .i64 v_22) rfl (r_load1 rfl rfl underlying3 rfl hc22) hp (fun S2 q2 => ?_)
 replace hp := holdC (i := 2) (q2 _ (r_load1 rfl rfl underlying3 rfl hc22)) hp
 refine gU 4 (.pointer (some (Addr.mk b5 1 none))) rfl (fun _ => w_fieldAddr rfl underlying102 rfl rfl sz100 rfl rfl) hp ?_
 refine gU 5 (Sl.v (Sl.cut ⟨some (Addr.mk b5 1 none), 64, 64⟩ 1 0 64 64)) rfl (fun _ => r_sliceAr rfl rfl underlying100 sz5 bo_none bo_none (Nat.zero_le _) (Nat.le_refl _)) hp ?_
 refine RG_eff1 (i := 3) (by kernel_rfl) (g_op (Sp' := []) rfl rfl (k_call (vs := [(.pointer (some d0a__1)), (.int .i64 v_22)]) cb64 (evC rfl (evC rfl evN)) (h.mono ?_)))
 clear h; rintro v F ⟨v_23, rfl, h⟩
 refine holdI hold0 (fun hp => ?_)
 refine RG_eff1 (i := 6) (by kernel_rfl) (g_op (Sp' := []) rfl rfl (k_copy rfl rfl (runs_mono _ _ h ?_)))
 clear h; rintro v F ⟨v_26, rfl, h⟩
 refine holdI hold0 (fun hp => ?_)
 refine RG_done (by kernel_rfl) ?_
 refine HC_region ?_
 refine sR (.int .i64 (IntKind.i64.wrap (v_16 + 1))) (r_add rfl h16 rfl) ?_
 refine sR (.int .i64 (IntKind.i64.wrap (v_16 + 1))) (r_move rfl rfl) ?_
 refine HL_nil ?_
 obtain ⟨m', hm, h⟩ := h
 exact ⟨m', hm, _, h0, h14, h15, rfl, h⟩
 replace h := h.2 (of_decide_eq_false hc)
 clear hc
 refine HC_exit ?_
 show b69J1 (some d0a__1) R _ _
 exact ⟨h0, h⟩
 /- 36 (*koine.disk.Disk).Copy -/
end Go.Proofs.Ytelkfnmdnbbniaa
