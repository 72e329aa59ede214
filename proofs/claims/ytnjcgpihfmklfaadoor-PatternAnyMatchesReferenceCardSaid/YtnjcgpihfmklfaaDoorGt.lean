/-
  What functions of the program do, in a clean form, each with the proof that its code does so. Printed by a program.
-/
import Derived.Test.YtnjcgpihfmklfaaDoorGf
import Derived.Test.YtnjcgpihfmklfaaDoorPhp
namespace Go.Proofs.YtnjcgpihfmklfaaDoor
open Go Go.Proofs.Tryd
set_option maxRecDepth 10000
set_option maxHeartbeats 4000000
/- 36 koine.pattern.Literal -/
def b36j1 (out_4 : Sl) (R : VP) (F : PH) :=
 R (.tuple #[(Sl.v out_4), (.int .i64 0)]) F
abbrev b36J1 (R : VP) (E : En) (F : PH) : Prop := ∃ out_4 : Sl, E 4 = (Sl.v out_4) ∧ b36j1 out_4 R F
def b36j2 (N1 : Sl → Int → PH → Prop) (s_0 : ByteArray) (v_17 : Int) (out_4_2 : Sl) (R : VP) (F : PH) :=
 N1 out_4_2 (IntKind.i64.wrap (v_17 + 1)) F
abbrev b36J2 (N1 : Sl → Int → PH → Prop) (s_0 : ByteArray) (v_17 : Int) (R : VP) (E : En) (F : PH) : Prop := ∃ out_4_2 : Sl, E 0 = (.string s_0) ∧ E 4 = (Sl.v out_4_2) ∧ E 16 = (.int .i64 (s_0.size : Int)) ∧ E 17 = (.int .i64 v_17) ∧ b36j2 N1 s_0 v_17 out_4_2 R F
def b36L1 (N1 : Sl → Int → PH → Prop) (s_0 : ByteArray) (R : VP) (out_4_1 : Sl) (v_17 : Int) (F : PH) :=
 ((v_17 < (s_0.size : Int) →
  0 ≤ v_17 ∧ v_17 < (s_0.size : Int) ∧
  ∃ (hx : Int.toNat v_17 < s_0.size) (v_26 : Int), v_26 = ((s_0[Int.toNat v_17]'hx).toNat : Int) ∧
  0 ≤ v_17 ∧ v_17 < (s_0.size : Int) ∧
  ∃ (hx : Int.toNat v_17 < s_0.size) (v_30 : Int), v_30 = ((s_0[Int.toNat v_17]'hx).toNat : Int) ∧
  (#[(.int .i64 1), (.int .i64 (IntKind.i64.wrap v_26)), (.int .i64 (IntKind.i64.wrap v_30)), .int .i64 0, .int .i64 0] : Array Value).size = 5 ∧ ∀ b33, F b33 = none → atF (F.set b33 (.cells (#[(.int .i64 1), (.int .i64 (IntKind.i64.wrap v_26)), (.int .i64 (IntKind.i64.wrap v_30)), .int .i64 0, .int .i64 0] : Array Value) 50)) fun F =>
  runs prog (Builtin.append_ #[25, 25] 25 #[(Sl.v out_4_1), (Sl.v (Sl.mk (some (Addr.mk b33 0 none)) 1 1))]) F fun v F => ∃ v_34 : Sl, v = (Sl.v v_34) ∧
  ((0 < v_17 →
   (#[(.int .i64 2), .int .i64 0, .int .i64 0, (.int .i64 (IntKind.i64.wrap ((out_4_1.len : Int) - 1))), (.int .i64 (IntKind.i64.wrap ((IntKind.i64.wrap ((out_4_1.len : Int) - 1)) + 1)))] : Array Value).size = 5 ∧ ∀ b42, F b42 = none → atF (F.set b42 (.cells (#[(.int .i64 2), .int .i64 0, .int .i64 0, (.int .i64 (IntKind.i64.wrap ((out_4_1.len : Int) - 1))), (.int .i64 (IntKind.i64.wrap ((IntKind.i64.wrap ((out_4_1.len : Int) - 1)) + 1)))] : Array Value) 50)) fun F =>
   runs prog (Builtin.append_ #[25, 25] 25 #[(Sl.v v_34), (Sl.v (Sl.mk (some (Addr.mk b42 0 none)) 1 1))]) F fun v F => ∃ v_43 : Sl, v = (Sl.v v_43) ∧
   b36j2 N1 s_0 v_17 v_43 R F) ∧
  (¬ (0 < v_17) →
   b36j2 N1 s_0 v_17 v_34 R F))) ∧
 (¬ (v_17 < (s_0.size : Int)) →
  b36j1 out_4_1 R F))
def b36 (s_0 : ByteArray) (R : VP) (F : PH) :=
 ((512 < (IntKind.i64.wrap (2 * (s_0.size : Int))) →
  R (.tuple #[(Sl.v Sl.nil), (.int .i64 2)]) F) ∧
 (¬ (512 < (IntKind.i64.wrap (2 * (s_0.size : Int)))) →
  (((s_0.toList == (ByteArray.mk #[]).toList) = true →
   (#[(.int .i64 0), .int .i64 0, .int .i64 0, .int .i64 0, .int .i64 0] : Array Value).size = 5 ∧ ∀ b14, F b14 = none → atF (F.set b14 (.cells (#[(.int .i64 0), .int .i64 0, .int .i64 0, .int .i64 0, .int .i64 0] : Array Value) 50)) fun F =>
   R (.tuple #[(Sl.v (Sl.mk (some (Addr.mk b14 0 none)) 1 1)), (.int .i64 0)]) F) ∧
  ((s_0.toList == (ByteArray.mk #[]).toList) = false →
   (∃ (I1 : Nat → Sl → Int → PH → Prop) (m1 : Nat), I1 m1 Sl.nil 0 F ∧ ∀ m1 out_4_1 v_17 F, I1 m1 out_4_1 v_17 F →
    b36L1 (nx2 I1 m1) s_0 R out_4_1 v_17 F)))))
theorem c36 {s_0 : ByteArray} {R : VP} {F : PH} (h : b36 s_0 R F) : Spec prog 36 #[(.string s_0)] F R := by
 refine spec_of (args := [(.string s_0)]) func36 rfl ntmps36 rfl ?_
 unfold b36 at h
 refine cR ?_
 refine sR (Sl.v Sl.nil) (r_assign rfl rfl) ?_
 refine sR (.int .i64 0) (r_assign rfl rfl) ?_
 refine HL_nil ?_
 refine HC_seq ?_
 refine cR ?_
 refine sR (.string s_0) (r_move rfl rfl) ?_
 refine sR (.int .i64 (s_0.size : Int)) (r_lenStr rfl rfl underlying9) ?_
 refine sR (.int .i64 (IntKind.i64.wrap (2 * (s_0.size : Int)))) (r_mul rfl rfl rfl) ?_
 refine sR (.bool (decide (512 < (IntKind.i64.wrap (2 * (s_0.size : Int)))))) (r_gtr rfl rfl rfl) ?_
 refine HL_nil ?_
 refine HC_cond (t := (decide (512 < (IntKind.i64.wrap (2 * (s_0.size : Int)))))) rfl (fun hc => ?_) (fun hc => ?_)
 replace h := h.1 (of_decide_eq_true hc)
 clear hc
 refine cR ?_
 refine sR (Sl.v Sl.nil) (r_assign rfl rfl) ?_
 refine sR (.int .i64 2) (r_assign rfl rfl) ?_
 refine HL_nil ?_
 exact HC_ret (rt2 f36 R rfl rfl rfl h)
 replace h := h.2 (of_decide_eq_false hc)
 clear hc
 refine HC_skip ?_
 refine HC_seq ?_
 refine cR ?_
 refine sR (.string s_0) (r_move rfl rfl) ?_
 refine sR (.bool (s_0.toList == (ByteArray.mk #[]).toList)) (r_eqlS rfl rfl rfl) ?_
 refine HL_nil ?_
 refine HC_cond (t := (s_0.toList == (ByteArray.mk #[]).toList)) rfl (fun hc => ?_) (fun hc => ?_)
 replace h := h.1 hc
 clear hc
 refine cR ?_
 refine sR (.agg (#[(.int .i64 0), .int .i64 0, .int .i64 0, .int .i64 0, .int .i64 0] : Array Value)) (w_buildStruct (cells := #[(.int .i64 0), .int .i64 0, .int .i64 0, .int .i64 0, .int .i64 0]) underlying50 zr50 kf50 (evPC rfl evPN) (fill1 (place_of rfl rfl sz3) rfl rfl (fillN rfl))) ?_
 obtain ⟨hz14, h⟩ := h
 refine s_ef (k_buildSlice (cells := (#[(.int .i64 0), .int .i64 0, .int .i64 0, .int .i64 0, .int .i64 0] : Array Value)) underlying25 sz50 (by decide) zr50 rfl (evPC rfl evPN) (fillWhole hz14 rfl rfl) rfl ?_)
 intro b14 hf_b14
 replace h := atE (h b14 hf_b14)
 refine sR (Sl.v (Sl.mk (some (Addr.mk b14 0 none)) 1 1)) (r_assign rfl rfl) ?_
 refine sR (.int .i64 0) (r_assign rfl rfl) ?_
 refine HL_nil ?_
 exact HC_ret (rt2 f36 R rfl rfl rfl h)
 replace h := h.2 hc
 clear hc
 refine HC_skip ?_
 refine cR ?_
 refine sR (Sl.v Sl.nil) (r_assign rfl rfl) ?_
 refine HL_nil ?_
 refine HC_seqJ (b36J1 R) ?_ ?_
 clear h; rintro E F ⟨out_4, h4, h⟩
 unfold b36j1 at h
 refine cR ?_
 refine sR _ (r_move rfl h4) ?_
 refine sR (Sl.v out_4) (r_assign rfl rfl) ?_
 refine sR (.int .i64 0) (r_assign rfl rfl) ?_
 refine HL_nil ?_
 exact HC_ret (rt2 f36 R rfl rfl rfl h)
 refine cR ?_
 refine sR (.string s_0) (r_move rfl rfl) ?_
 refine sR (.int .i64 (s_0.size : Int)) (r_lenStr rfl rfl underlying9) ?_
 refine sR (.int .i64 0) (r_move rfl rfl) ?_
 refine HL_nil ?_
 refine HC_block ?_
 obtain ⟨I1, m1, hI0, hr⟩ := h
 refine HC_loop (fun m1 E F => ∃ out_4_1 : Sl, ∃ v_17 : Int, E 0 = (.string s_0) ∧ E 4 = (Sl.v out_4_1) ∧ E 16 = (.int .i64 (s_0.size : Int)) ∧ E 17 = (.int .i64 v_17) ∧ I1 m1 out_4_1 v_17 F) m1 ⟨_, _, rfl, rfl, rfl, rfl, hI0⟩ ?_
 clear hI0; rintro m1 E F ⟨out_4_1, v_17, h0, h4, h16, h17, hI⟩
 have h := hr m1 out_4_1 v_17 F hI
 clear hr hI
 unfold b36L1 at h
 refine cR ?_
 refine sR (.bool (decide (v_17 < (s_0.size : Int)))) (r_lss rfl h17 h16) ?_
 refine HL_nil ?_
 refine HC_seq ?_
 refine HC_cond (t := (decide (v_17 < (s_0.size : Int)))) rfl (fun hc => ?_) (fun hc => ?_)
 replace h := h.1 (of_decide_eq_true hc)
 clear hc
 refine HC_skip ?_
 refine HC_seqJ (b36J2 (nx2 I1 m1) s_0 v_17 R) ?_ ?_
 clear h; rintro E F ⟨out_4_2, h0, h4, h16, h17, h⟩
 unfold b36j2 at h
 refine HC_region ?_
 refine sR (.int .i64 (IntKind.i64.wrap (v_17 + 1))) (r_add rfl h17 rfl) ?_
 refine sR (.int .i64 (IntKind.i64.wrap (v_17 + 1))) (r_move rfl rfl) ?_
 refine HL_nil ?_
 obtain ⟨m', hm, h⟩ := h
 exact ⟨m', hm, _, _, h0, h4, h16, rfl, h⟩
 refine HC_block ?_
 refine cR ?_
 refine sR _ (r_move rfl h17) ?_
 refine sR (.int .i64 v_17) (r_assign rfl rfl) ?_
 refine HL_nil ?_
 refine cR ?_
 refine sR _ (r_move rfl h4) ?_
 refine sR (.int .i64 (out_4_1.len : Int)) (r_lenSl rfl rfl underlying25) ?_
 refine sR (.int .i64 (IntKind.i64.wrap ((out_4_1.len : Int) - 1))) (r_sub rfl rfl rfl) ?_
 refine sR (.int .i64 (IntKind.i64.wrap ((out_4_1.len : Int) - 1))) (r_assign rfl rfl) ?_
 refine HL_nil ?_
 refine HC_seq ?_
 refine HC_draw0 (by kernel_rfl) (fun hp => ?_)
 refine gU 0 (Sl.v out_4_1) rfl (fun _ => r_move rfl h4) hp ?_
 refine gU 1 (.string s_0) rfl (fun _ => r_move rfl h0) hp ?_
 refine gU 2 (.int .i64 v_17) rfl (fun _ => r_move rfl rfl) hp ?_
 obtain ⟨hl26, hu26, hx26, v_26, hv26, h⟩ := h
 refine gU 3 (.int .u8 v_26) rfl (fun _ => w_indexStr rfl rfl underlying9 hl26 hu26 hv26) hp ?_
 refine gU 4 (.int .i64 (IntKind.i64.wrap v_26)) rfl (fun _ => r_convInt rfl rfl underlying5 underlying3) hp ?_
 refine gU 5 (.string s_0) rfl (fun _ => r_move rfl h0) hp ?_
 refine gU 6 (.int .i64 v_17) rfl (fun _ => r_move rfl rfl) hp ?_
 obtain ⟨hl30, hu30, hx30, v_30, hv30, h⟩ := h
 refine gU 7 (.int .u8 v_30) rfl (fun _ => w_indexStr rfl rfl underlying9 hl30 hu30 hv30) hp ?_
 refine gU 8 (.int .i64 (IntKind.i64.wrap v_30)) rfl (fun _ => r_convInt rfl rfl underlying5 underlying3) hp ?_
 refine gU 9 (.agg (#[(.int .i64 1), (.int .i64 (IntKind.i64.wrap v_26)), (.int .i64 (IntKind.i64.wrap v_30)), .int .i64 0, .int .i64 0] : Array Value)) rfl (fun _ => w_buildStruct (cells := #[(.int .i64 1), (.int .i64 (IntKind.i64.wrap v_26)), (.int .i64 (IntKind.i64.wrap v_30)), .int .i64 0, .int .i64 0]) underlying50 zr50 kf50 (evPC rfl (evPC rfl (evPC rfl evPN))) (fill1 (place_of rfl rfl sz3) rfl rfl (fill1 (place_of rfl rfl sz3) rfl rfl (fill1 (place_of rfl rfl sz3) rfl rfl (fillN rfl))))) hp ?_
 obtain ⟨hz33, h⟩ := h
 refine RG_eff1 (i := 10) (by kernel_rfl) (g_op (Sp' := []) rfl rfl (k_buildSlice (cells := (#[(.int .i64 1), (.int .i64 (IntKind.i64.wrap v_26)), (.int .i64 (IntKind.i64.wrap v_30)), .int .i64 0, .int .i64 0] : Array Value)) underlying25 sz50 (by decide) zr50 rfl (evPC rfl evPN) (fillWhole hz33 rfl rfl) rfl ?_))
 intro b33 hf_b33
 replace h := atE (h b33 hf_b33)
 refine holdI hold0 (fun hp => ?_)
 refine RG_eff1 (i := 11) (by kernel_rfl) (g_op (Sp' := []) rfl rfl (k_append rfl rfl (runs_mono _ _ h ?_)))
 clear h; rintro v F ⟨v_34, rfl, h⟩
 refine holdI hold0 (fun hp => ?_)
 refine gU 12 (Sl.v v_34) rfl (fun _ => r_assign rfl rfl) hp ?_
 refine RG_done (by kernel_rfl) ?_
 refine cR ?_
 refine sR (.int .i64 v_17) (r_move rfl rfl) ?_
 refine sR (.bool (decide (0 < v_17))) (r_gtr rfl rfl rfl) ?_
 refine HL_nil ?_
 refine HC_cond (t := (decide (0 < v_17))) rfl (fun hc => ?_) (fun hc => ?_)
 replace h := h.1 (of_decide_eq_true hc)
 clear hc
 refine HC_region ?_
 refine sR (Sl.v v_34) (r_move rfl rfl) ?_
 refine sR (.int .i64 (IntKind.i64.wrap ((out_4_1.len : Int) - 1))) (r_move rfl rfl) ?_
 refine sR (.int .i64 (IntKind.i64.wrap ((out_4_1.len : Int) - 1))) (r_move rfl rfl) ?_
 refine sR (.int .i64 (IntKind.i64.wrap ((IntKind.i64.wrap ((out_4_1.len : Int) - 1)) + 1))) (r_add rfl rfl rfl) ?_
 refine sR (.agg (#[(.int .i64 2), .int .i64 0, .int .i64 0, (.int .i64 (IntKind.i64.wrap ((out_4_1.len : Int) - 1))), (.int .i64 (IntKind.i64.wrap ((IntKind.i64.wrap ((out_4_1.len : Int) - 1)) + 1)))] : Array Value)) (w_buildStruct (cells := #[(.int .i64 2), .int .i64 0, .int .i64 0, (.int .i64 (IntKind.i64.wrap ((out_4_1.len : Int) - 1))), (.int .i64 (IntKind.i64.wrap ((IntKind.i64.wrap ((out_4_1.len : Int) - 1)) + 1)))]) underlying50 zr50 kf50 (evPC rfl (evPC rfl (evPC rfl evPN))) (fill1 (place_of rfl rfl sz3) rfl rfl (fill1 (place_of rfl rfl sz3) rfl rfl (fill1 (place_of rfl rfl sz3) rfl rfl (fillN rfl))))) ?_
 obtain ⟨hz42, h⟩ := h
 refine s_ef (k_buildSlice (cells := (#[(.int .i64 2), .int .i64 0, .int .i64 0, (.int .i64 (IntKind.i64.wrap ((out_4_1.len : Int) - 1))), (.int .i64 (IntKind.i64.wrap ((IntKind.i64.wrap ((out_4_1.len : Int) - 1)) + 1)))] : Array Value)) underlying25 sz50 (by decide) zr50 rfl (evPC rfl evPN) (fillWhole hz42 rfl rfl) rfl ?_)
 intro b42 hf_b42
 replace h := atE (h b42 hf_b42)
 refine s_ef (k_append rfl rfl (runs_mono _ _ h ?_))
 clear h; rintro v F ⟨v_43, rfl, h⟩
 refine sR (Sl.v v_43) (r_assign rfl rfl) ?_
 refine HL_nil ?_
 show b36J2 (nx2 I1 m1) s_0 v_17 R _ _
 exact ⟨_, h0, rfl, h16, h17, h⟩
 replace h := h.2 (of_decide_eq_false hc)
 clear hc
 refine HC_skip ?_
 show b36J2 (nx2 I1 m1) s_0 v_17 R _ _
 exact ⟨_, h0, rfl, h16, h17, h⟩
 replace h := h.2 (of_decide_eq_false hc)
 clear hc
 refine HC_exit ?_
 show b36J1 R _ _
 exact ⟨_, h4, h⟩
set_option maxHeartbeats 4000000
/- 37 koine.koineref04.Literal -/
def b37j1 (out_4 : Sl) (R : VP) (F : PH) :=
 R (.tuple #[(Sl.v out_4), (.int .i64 0)]) F
abbrev b37J1 (R : VP) (E : En) (F : PH) : Prop := ∃ out_4 : Sl, E 4 = (Sl.v out_4) ∧ b37j1 out_4 R F
def b37L1 (N1 : Sl → Int → PH → Prop) (s_0 : ByteArray) (R : VP) (out_4_1 : Sl) (i_5 : Int) (F : PH) :=
 ((i_5 < (s_0.size : Int) →
  0 ≤ i_5 ∧ i_5 < (s_0.size : Int) ∧
  ∃ (hx : Int.toNat i_5 < s_0.size) (v_28 : Int), v_28 = ((s_0[Int.toNat i_5]'hx).toNat : Int) ∧
  0 ≤ i_5 ∧ i_5 < (s_0.size : Int) ∧
  ∃ (hx : Int.toNat i_5 < s_0.size) (v_32 : Int), v_32 = ((s_0[Int.toNat i_5]'hx).toNat : Int) ∧
  Spec prog 39 #[(.int .i64 (IntKind.i64.wrap v_28)), (.int .i64 (IntKind.i64.wrap v_32))] F fun v F => ∃ v_34 : Sl, v = (Sl.v v_34) ∧
  Spec prog 41 #[(.int .i64 2), (Sl.v out_4_1), (Sl.v v_34)] F fun v F => ∃ v_35 : Sl, v = (Sl.v v_35) ∧
  N1 v_35 (IntKind.i64.wrap (i_5 + 1)) F) ∧
 (¬ (i_5 < (s_0.size : Int)) →
  b37j1 out_4_1 R F))
def b37 (s_0 : ByteArray) (R : VP) (F : PH) :=
 ((256 < (s_0.size : Int) →
  R (.tuple #[(Sl.v Sl.nil), (.int .i64 2)]) F) ∧
 (¬ (256 < (s_0.size : Int)) →
  (((s_0.toList == (ByteArray.mk #[]).toList) = true →
   Spec prog 38 #[] F fun v F => ∃ v_11 : Sl, v = (Sl.v v_11) ∧
   R (.tuple #[(Sl.v v_11), (.int .i64 0)]) F) ∧
  ((s_0.toList == (ByteArray.mk #[]).toList) = false →
   0 ≤ (0 : Int) ∧ 0 < (s_0.size : Int) ∧
   ∃ (hx : Int.toNat 0 < s_0.size) (v_13 : Int), v_13 = ((s_0[Int.toNat 0]'hx).toNat : Int) ∧
   0 ≤ (0 : Int) ∧ 0 < (s_0.size : Int) ∧
   ∃ (hx : Int.toNat 0 < s_0.size) (v_16 : Int), v_16 = ((s_0[Int.toNat 0]'hx).toNat : Int) ∧
   Spec prog 39 #[(.int .i64 (IntKind.i64.wrap v_13)), (.int .i64 (IntKind.i64.wrap v_16))] F fun v F => ∃ v_18 : Sl, v = (Sl.v v_18) ∧
   (∃ (I1 : Nat → Sl → Int → PH → Prop) (m1 : Nat), I1 m1 v_18 1 F ∧ ∀ m1 out_4_1 i_5 F, I1 m1 out_4_1 i_5 F →
    b37L1 (nx2 I1 m1) s_0 R out_4_1 i_5 F)))))
theorem c37 {s_0 : ByteArray} {R : VP} {F : PH} (h : b37 s_0 R F) : Spec prog 37 #[(.string s_0)] F R := by
 refine spec_of (args := [(.string s_0)]) func37 rfl ntmps37 rfl ?_
 unfold b37 at h
 refine cR ?_
 refine sR (Sl.v Sl.nil) (r_assign rfl rfl) ?_
 refine sR (.int .i64 0) (r_assign rfl rfl) ?_
 refine HL_nil ?_
 refine HC_seq ?_
 refine cR ?_
 refine sR (.string s_0) (r_move rfl rfl) ?_
 refine sR (.int .i64 (s_0.size : Int)) (r_lenStr rfl rfl underlying9) ?_
 refine sR (.bool (decide (256 < (s_0.size : Int)))) (r_gtr rfl rfl rfl) ?_
 refine HL_nil ?_
 refine HC_cond (t := (decide (256 < (s_0.size : Int)))) rfl (fun hc => ?_) (fun hc => ?_)
 replace h := h.1 (of_decide_eq_true hc)
 clear hc
 refine cR ?_
 refine sR (Sl.v Sl.nil) (r_assign rfl rfl) ?_
 refine sR (.int .i64 2) (r_assign rfl rfl) ?_
 refine HL_nil ?_
 exact HC_ret (rt2 f37 R rfl rfl rfl h)
 replace h := h.2 (of_decide_eq_false hc)
 clear hc
 refine HC_skip ?_
 refine HC_seq ?_
 refine cR ?_
 refine sR (.string s_0) (r_move rfl rfl) ?_
 refine sR (.bool (s_0.toList == (ByteArray.mk #[]).toList)) (r_eqlS rfl rfl rfl) ?_
 refine HL_nil ?_
 refine HC_cond (t := (s_0.toList == (ByteArray.mk #[]).toList)) rfl (fun hc => ?_) (fun hc => ?_)
 replace h := h.1 hc
 clear hc
 refine cR ?_
 refine s_ef (k_call (vs := []) cb38 evN (h.mono ?_))
 clear h; rintro v F ⟨v_11, rfl, h⟩
 refine sR (Sl.v v_11) (r_assign rfl rfl) ?_
 refine sR (.int .i64 0) (r_assign rfl rfl) ?_
 refine HL_nil ?_
 exact HC_ret (rt2 f37 R rfl rfl rfl h)
 replace h := h.2 hc
 clear hc
 refine HC_skip ?_
 refine HC_seq ?_
 refine HC_draw0 (by kernel_rfl) (fun hp => ?_)
 refine gU 0 (.string s_0) rfl (fun _ => r_move rfl rfl) hp ?_
 obtain ⟨hl13, hu13, hx13, v_13, hv13, h⟩ := h
 refine gU 1 (.int .u8 v_13) rfl (fun _ => w_indexStr rfl rfl underlying9 hl13 hu13 hv13) hp ?_
 refine gU 2 (.int .i64 (IntKind.i64.wrap v_13)) rfl (fun _ => r_convInt rfl rfl underlying5 underlying3) hp ?_
 refine gU 3 (.string s_0) rfl (fun _ => r_move rfl rfl) hp ?_
 obtain ⟨hl16, hu16, hx16, v_16, hv16, h⟩ := h
 refine gU 4 (.int .u8 v_16) rfl (fun _ => w_indexStr rfl rfl underlying9 hl16 hu16 hv16) hp ?_
 refine gU 5 (.int .i64 (IntKind.i64.wrap v_16)) rfl (fun _ => r_convInt rfl rfl underlying5 underlying3) hp ?_
 refine RG_eff1 (i := 6) (by kernel_rfl) (g_op (Sp' := []) rfl rfl (k_call (vs := [(.int .i64 (IntKind.i64.wrap v_13)), (.int .i64 (IntKind.i64.wrap v_16))]) cb39 (evC rfl (evC rfl evN)) (h.mono ?_)))
 clear h; rintro v F ⟨v_18, rfl, h⟩
 refine holdI hold0 (fun hp => ?_)
 refine gU 7 (Sl.v v_18) rfl (fun _ => r_assign rfl rfl) hp ?_
 refine RG_done (by kernel_rfl) ?_
 refine HC_seqJ (b37J1 R) ?_ ?_
 clear h; rintro E F ⟨out_4, h4, h⟩
 unfold b37j1 at h
 refine cR ?_
 refine sR _ (r_move rfl h4) ?_
 refine sR (Sl.v out_4) (r_assign rfl rfl) ?_
 refine sR (.int .i64 0) (r_assign rfl rfl) ?_
 refine HL_nil ?_
 exact HC_ret (rt2 f37 R rfl rfl rfl h)
 refine cR ?_
 refine sR (.int .i64 1) (r_assign rfl rfl) ?_
 refine HL_nil ?_
 refine HC_block ?_
 obtain ⟨I1, m1, hI0, hr⟩ := h
 refine HC_loop (fun m1 E F => ∃ out_4_1 : Sl, ∃ i_5 : Int, E 0 = (.string s_0) ∧ E 4 = (Sl.v out_4_1) ∧ E 5 = (.int .i64 i_5) ∧ I1 m1 out_4_1 i_5 F) m1 ⟨_, _, rfl, rfl, rfl, hI0⟩ ?_
 clear hI0; rintro m1 E F ⟨out_4_1, i_5, h0, h4, h5, hI⟩
 have h := hr m1 out_4_1 i_5 F hI
 clear hr hI
 unfold b37L1 at h
 refine HC_seq ?_
 refine cR ?_
 refine sR _ (r_move rfl h5) ?_
 refine sR _ (r_move rfl h0) ?_
 refine sR (.int .i64 (s_0.size : Int)) (r_lenStr rfl rfl underlying9) ?_
 refine sR (.bool (decide (i_5 < (s_0.size : Int)))) (r_lss rfl rfl rfl) ?_
 refine HL_nil ?_
 refine HC_cond (t := (decide (i_5 < (s_0.size : Int)))) rfl (fun hc => ?_) (fun hc => ?_)
 replace h := h.1 (of_decide_eq_true hc)
 clear hc
 refine HC_skip ?_
 refine HC_seq ?_
 refine HC_block ?_
 refine HC_draw0 (by kernel_rfl) (fun hp => ?_)
 refine gU 0 (Sl.v out_4_1) rfl (fun _ => r_move rfl h4) hp ?_
 refine gU 1 (.string s_0) rfl (fun _ => r_move rfl h0) hp ?_
 refine gU 2 (.int .i64 i_5) rfl (fun _ => r_move rfl h5) hp ?_
 obtain ⟨hl28, hu28, hx28, v_28, hv28, h⟩ := h
 refine gU 3 (.int .u8 v_28) rfl (fun _ => w_indexStr rfl rfl underlying9 hl28 hu28 hv28) hp ?_
 refine gU 4 (.int .i64 (IntKind.i64.wrap v_28)) rfl (fun _ => r_convInt rfl rfl underlying5 underlying3) hp ?_
 refine gU 5 (.string s_0) rfl (fun _ => r_move rfl h0) hp ?_
 refine gU 6 (.int .i64 i_5) rfl (fun _ => r_move rfl h5) hp ?_
 obtain ⟨hl32, hu32, hx32, v_32, hv32, h⟩ := h
 refine gU 7 (.int .u8 v_32) rfl (fun _ => w_indexStr rfl rfl underlying9 hl32 hu32 hv32) hp ?_
 refine gU 8 (.int .i64 (IntKind.i64.wrap v_32)) rfl (fun _ => r_convInt rfl rfl underlying5 underlying3) hp ?_
 refine RG_eff1 (i := 9) (by kernel_rfl) (g_op (Sp' := []) rfl rfl (k_call (vs := [(.int .i64 (IntKind.i64.wrap v_28)), (.int .i64 (IntKind.i64.wrap v_32))]) cb39 (evC rfl (evC rfl evN)) (h.mono ?_)))
 clear h; rintro v F ⟨v_34, rfl, h⟩
 refine holdI hold0 (fun hp => ?_)
 refine RG_eff1 (i := 10) (by kernel_rfl) (g_op (Sp' := []) rfl rfl (k_call (vs := [(.int .i64 2), (Sl.v out_4_1), (Sl.v v_34)]) cb41 (evC rfl (evC rfl (evC rfl evN))) (h.mono ?_)))
 clear h; rintro v F ⟨v_35, rfl, h⟩
 refine holdI hold0 (fun hp => ?_)
 refine gU 11 (Sl.v v_35) rfl (fun _ => r_assign rfl rfl) hp ?_
 refine RG_done (by kernel_rfl) ?_
 refine HC_region ?_
 refine sR _ (r_move rfl h5) ?_
 refine sR (.int .i64 (IntKind.i64.wrap (i_5 + 1))) (r_add rfl rfl rfl) ?_
 refine sR (.int .i64 (IntKind.i64.wrap (i_5 + 1))) (r_assign rfl rfl) ?_
 refine HL_nil ?_
 obtain ⟨m', hm, h⟩ := h
 exact ⟨m', hm, _, _, h0, rfl, rfl, h⟩
 replace h := h.2 (of_decide_eq_false hc)
 clear hc
 refine HC_exit ?_
 show b37J1 R _ _
 exact ⟨_, h4, h⟩
end Go.Proofs.YtnjcgpihfmklfaaDoor
