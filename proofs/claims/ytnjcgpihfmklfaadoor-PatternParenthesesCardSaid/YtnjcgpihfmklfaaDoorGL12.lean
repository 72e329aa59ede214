/-
  What functions of the program do, in a clean form, each with the proof that its code does so. Printed by a program.
-/
import Derived.Test.YtnjcgpihfmklfaaDoorGf
import Derived.Test.YtnjcgpihfmklfaaDoorPhp
namespace Go.Proofs.YtnjcgpihfmklfaaDoor
open Go Go.Proofs.Tryd
set_option maxRecDepth 10000
set_option maxHeartbeats 4000000
/- 12 koine.koinelaw04.PatternParentheses -/
def b12j1 (v_12 : Bool) (open_7 : Sl) (R : VP) (F : PH) :=
 (((open_7.len : Int) = 0 →
  R (.bool v_12) F) ∧
 (¬ ((open_7.len : Int) = 0) →
  R (.bool false) F))
abbrev b12J1 (v_12 : Bool) (R : VP) (E : En) (F : PH) : Prop := ∃ open_7 : Sl, E 3 = (.bool v_12) ∧ E 7 = (Sl.v open_7) ∧ b12j1 v_12 open_7 R F
def b12j2 (N1 : Sl → Int → PH → Prop) (v_12 : Bool) (v_14 : Sl) (v_17 : ByteArray) (i_8 : Int) (open_7_2 : Sl) (R : VP) (F : PH) :=
 N1 open_7_2 (IntKind.i64.wrap (i_8 + 1)) F
abbrev b12J2 (N1 : Sl → Int → PH → Prop) (v_12 : Bool) (v_14 : Sl) (v_17 : ByteArray) (i_8 : Int) (R : VP) (E : En) (F : PH) : Prop := ∃ open_7_2 : Sl, E 3 = (.bool v_12) ∧ E 4 = (Sl.v v_14) ∧ E 5 = (.string v_17) ∧ E 7 = (Sl.v open_7_2) ∧ E 8 = (.int .i64 i_8) ∧ b12j2 N1 v_12 v_14 v_17 i_8 open_7_2 R F
def b12j3 (N1 : Sl → Int → PH → Prop) (v_12 : Bool) (v_14 : Sl) (v_17 : ByteArray) (i_8 : Int) (open_7_3 : Sl) (R : VP) (F : PH) :=
 0 ≤ i_8 ∧ i_8 < (v_17.size : Int) ∧
 ∃ (hx : Int.toNat i_8 < v_17.size) (v_39 : Int), v_39 = ((v_17[Int.toNat i_8]'hx).toNat : Int) ∧
 ((v_39 ≠ 41 →
  b12j2 N1 v_12 v_14 v_17 i_8 open_7_3 R F) ∧
 (¬ (v_39 ≠ 41) →
  (((open_7_3.len : Int) = 0 →
   R (.bool false) F) ∧
  (¬ ((open_7_3.len : Int) = 0) →
   ∃ a48_ : Addr, open_7_3.base = some a48_ ∧ 0 ≤ (IntKind.i64.wrap ((open_7_3.len : Int) - 1)) ∧ (IntKind.i64.wrap ((open_7_3.len : Int) - 1)) < (open_7_3.len : Int) ∧
   ∃ v_49 : Int, F.cell (Addr.add a48_ (Int.toNat (IntKind.i64.wrap ((open_7_3.len : Int) - 1)) * 1)) = some (.int .i64 v_49) ∧
   0 ≤ (IntKind.i64.wrap ((open_7_3.len : Int) - 1)) ∧ 0 ≤ (Int.toNat (IntKind.i64.wrap ((open_7_3.len : Int) - 1))) ∧ (Int.toNat (IntKind.i64.wrap ((open_7_3.len : Int) - 1))) ≤ open_7_3.cap ∧ 
   ((v_49 = (IntKind.i64.wrap (i_8 - 1)) →
    b12j2 N1 v_12 v_14 v_17 i_8 (Sl.cut open_7_3 1 0 (Int.toNat (IntKind.i64.wrap ((open_7_3.len : Int) - 1))) open_7_3.cap) R F) ∧
   (¬ (v_49 = (IntKind.i64.wrap (i_8 - 1))) →
    0 ≤ v_49 ∧ 0 ≤ (Int.toNat v_49) ∧ (Int.toNat v_49) ≤ v_17.size ∧ 
    0 ≤ (IntKind.i64.wrap (v_49 + 1)) ∧ 0 ≤ i_8 ∧ (Int.toNat (IntKind.i64.wrap (v_49 + 1))) ≤ (Int.toNat i_8) ∧ (Int.toNat i_8) ≤ v_17.size ∧ 
    (v_17.extract 0 (Int.toNat v_49)).size + (v_17.extract (Int.toNat (IntKind.i64.wrap (v_49 + 1))) (Int.toNat i_8)).size ≤ 9223372036854775807 ∧
    0 ≤ (IntKind.i64.wrap (i_8 + 1)) ∧ (Int.toNat (IntKind.i64.wrap (i_8 + 1))) ≤ v_17.size ∧ v_17.size ≤ v_17.size ∧ 
    ((v_17.extract 0 (Int.toNat v_49)) ++ (v_17.extract (Int.toNat (IntKind.i64.wrap (v_49 + 1))) (Int.toNat i_8))).size + (v_17.extract (Int.toNat (IntKind.i64.wrap (i_8 + 1))) v_17.size).size ≤ 9223372036854775807 ∧
    Spec prog 25 #[(.string (((v_17.extract 0 (Int.toNat v_49)) ++ (v_17.extract (Int.toNat (IntKind.i64.wrap (v_49 + 1))) (Int.toNat i_8))) ++ (v_17.extract (Int.toNat (IntKind.i64.wrap (i_8 + 1))) v_17.size)))] F fun v F => ∃ v_74 : Sl, ∃ v_74_1 : Int, v = (.tuple #[(Sl.v v_74), (.int .i64 v_74_1)]) ∧
    ((v_74_1 = 0 →
     Spec prog 27 #[(Sl.v v_74), (Sl.v v_14)] F fun v F => ∃ v_82 : Bool, v = (.bool v_82) ∧
     ((v_82 = true →
      R (.bool false) F) ∧
     (v_82 = false →
      b12j2 N1 v_12 v_14 v_17 i_8 (Sl.cut open_7_3 1 0 (Int.toNat (IntKind.i64.wrap ((open_7_3.len : Int) - 1))) open_7_3.cap) R F))) ∧
    (¬ (v_74_1 = 0) →
     b12j2 N1 v_12 v_14 v_17 i_8 (Sl.cut open_7_3 1 0 (Int.toNat (IntKind.i64.wrap ((open_7_3.len : Int) - 1))) open_7_3.cap) R F))))))))
abbrev b12J3 (N1 : Sl → Int → PH → Prop) (v_12 : Bool) (v_14 : Sl) (v_17 : ByteArray) (i_8 : Int) (R : VP) (E : En) (F : PH) : Prop := ∃ open_7_3 : Sl, E 3 = (.bool v_12) ∧ E 4 = (Sl.v v_14) ∧ E 5 = (.string v_17) ∧ E 7 = (Sl.v open_7_3) ∧ E 8 = (.int .i64 i_8) ∧ b12j3 N1 v_12 v_14 v_17 i_8 open_7_3 R F
def b12L1 (N1 : Sl → Int → PH → Prop) (v_12 : Bool) (v_14 : Sl) (v_17 : ByteArray) (R : VP) (open_7_1 : Sl) (i_8 : Int) (F : PH) :=
 ((i_8 < (v_17.size : Int) →
  0 ≤ i_8 ∧ i_8 < (v_17.size : Int) ∧
  ∃ (hx : Int.toNat i_8 < v_17.size) (v_31 : Int), v_31 = ((v_17[Int.toNat i_8]'hx).toNat : Int) ∧
  ((v_31 = 40 →
   ∀ b35, F b35 = none → atF (F.set b35 (.cells #[(.int .i64 i_8)] 3)) fun F =>
   runs prog (Builtin.append_ #[53, 53] 53 #[(Sl.v open_7_1), (Sl.v (Sl.mk (some (Addr.mk b35 0 none)) 1 1))]) F fun v F => ∃ v_36 : Sl, v = (Sl.v v_36) ∧
   b12j3 N1 v_12 v_14 v_17 i_8 v_36 R F) ∧
  (¬ (v_31 = 40) →
   b12j3 N1 v_12 v_14 v_17 i_8 open_7_1 R F))) ∧
 (¬ (i_8 < (v_17.size : Int)) →
  b12j1 v_12 open_7_1 R F))
def b12 (l_0 : Sl) (R : VP) (F : PH) :=
 Spec prog 15 #[] F fun v F => ∃ v_12 : Bool, v = (.bool v_12) ∧
 Spec prog 16 #[(Sl.v l_0), (.int .i64 30)] F fun v F => ∃ v_14 : Sl, v = (Sl.v v_14) ∧
 Spec prog 19 #[(Sl.v v_14)] F fun v F => ∃ v_17 : ByteArray, ∃ v_17_1 : Int, v = (.tuple #[(.string v_17), (.int .i64 v_17_1)]) ∧
 ((v_17_1 ≠ 0 →
  R (.bool false) F) ∧
 (¬ (v_17_1 ≠ 0) →
  ∀ b22, F b22 = none → atF (F.set b22 (.cells #[] 3)) fun F =>
  (∃ (I1 : Nat → Sl → Int → PH → Prop) (m1 : Nat), I1 m1 (Sl.mk (some (Addr.mk b22 0 none)) 0 0) 0 F ∧ ∀ m1 open_7_1 i_8 F, I1 m1 open_7_1 i_8 F →
   b12L1 (nx2 I1 m1) v_12 v_14 v_17 R open_7_1 i_8 F)))
theorem c12 {l_0 : Sl} {R : VP} {F : PH} (h : b12 l_0 R F) : Spec prog 12 #[(Sl.v l_0)] F R := by
 refine spec_of (args := [(Sl.v l_0)]) func12 rfl ntmps12 rfl ?_
 unfold b12 at h
 refine cR (sR (.bool false) (r_assign rfl rfl) ?_)
 refine HL_nil ?_
 refine cR ?_
 refine s_ef (k_call (vs := []) cb15 evN (h.mono ?_))
 clear h; rintro v F ⟨v_12, rfl, h⟩
 refine sR (.bool v_12) (r_assign rfl rfl) ?_
 refine HL_nil ?_
 refine cR (sR (Sl.v l_0) (r_move rfl rfl) ?_)
 refine s_ef (k_call (vs := [(Sl.v l_0), (.int .i64 30)]) cb16 (evC rfl (evC rfl evN)) (h.mono ?_))
 clear h; rintro v F ⟨v_14, rfl, h⟩
 refine sR (Sl.v v_14) (r_assign rfl rfl) ?_
 refine HL_nil ?_
 refine cR (sR (Sl.v v_14) (r_move rfl rfl) ?_)
 refine s_ef (k_call (vs := [(Sl.v v_14)]) cb19 (evC rfl evN) (h.mono ?_))
 clear h; rintro v F ⟨v_17, v_17_1, rfl, h⟩
 refine sR (.tuple #[(.string v_17), (.int .i64 v_17_1)]) (r_move rfl rfl) ?_
 refine sR (.string v_17) (r_extract rfl rfl rfl) ?_
 refine sR (.int .i64 v_17_1) (r_extract rfl rfl rfl) ?_
 refine sR (.string v_17) (r_assign rfl rfl) ?_
 refine sR (.int .i64 v_17_1) (r_assign rfl rfl) ?_
 refine HL_nil ?_
 refine HC_seq ?_
 refine cR (sR (.int .i64 v_17_1) (r_move rfl rfl) ?_)
 refine sR (.bool (decide (v_17_1 ≠ 0))) (w_neq rfl rfl) ?_
 refine HL_nil ?_
 refine HC_cond (t := (decide (v_17_1 ≠ 0))) rfl (fun hc => ?_) (fun hc => ?_)
 replace h := h.1 (of_decide_eq_true hc)
 clear hc
 refine cR (sR (.bool false) (r_assign rfl rfl) ?_)
 exact HL_nil (HC_ret (rt1 f12 R rfl rfl h))
 replace h := h.2 (of_decide_eq_false hc)
 clear hc
 refine HC_skip ?_
 refine cR ?_
 refine s_ef (k_buildSeq (l := []) underlying53 sz3 (by decide) zr3 rfl rfl trivial evPN ?_)
 intro b22 hf_b22
 replace h := atE (h b22 hf_b22)
 refine sR (Sl.v (Sl.mk (some (Addr.mk b22 0 none)) 0 0)) (r_assign rfl rfl) ?_
 refine HL_nil ?_
 refine HC_seqJ (b12J1 v_12 R) ?_ ?_
 clear h; rintro E F ⟨open_7, h3, h7, h⟩
 unfold b12j1 at h
 refine cR (sR _ (r_move rfl h7) ?_)
 refine sR (.int .i64 (open_7.len : Int)) (r_lenSl rfl rfl underlying53) ?_
 refine sR (.bool (decide ((open_7.len : Int) = 0))) (w_eql rfl rfl) ?_
 refine sR (.bool (decide ((open_7.len : Int) = 0))) (r_move rfl rfl) ?_
 by_cases hc : (open_7.len : Int) = 0
 replace h := h.1 hc
 refine kN 86 (decide_eq_true hc) ?_
 refine kN 87 (decide_eq_true hc) ?_
 refine sR _ (r_move rfl h3) ?_
 refine sR (.bool v_12) (r_pt rfl rfl) ?_
 refine sR (.bool v_12) (r_assign rfl rfl) ?_
 exact HL_nil (HC_ret (rt1 f12 R rfl rfl h))
 replace h := h.2 hc
 refine kN 86 (decide_eq_false hc) ?_
 refine kN 87 (decide_eq_false hc) ?_
 refine s_skip ?_
 refine sR (.bool false) (r_pf rfl rfl) ?_
 refine sR (.bool false) (r_assign rfl rfl) ?_
 exact HL_nil (HC_ret (rt1 f12 R rfl rfl h))
 refine cR (sR (.int .i64 0) (r_assign rfl rfl) ?_)
 refine HL_nil ?_
 refine HC_block ?_
 obtain ⟨I1, m1, hI0, hr⟩ := h
 refine HC_loop (fun m1 E F => ∃ open_7_1 : Sl, ∃ i_8 : Int, E 3 = (.bool v_12) ∧ E 4 = (Sl.v v_14) ∧ E 5 = (.string v_17) ∧ E 7 = (Sl.v open_7_1) ∧ E 8 = (.int .i64 i_8) ∧ I1 m1 open_7_1 i_8 F) m1 ⟨_, _, rfl, rfl, rfl, rfl, rfl, hI0⟩ ?_
 clear hI0; rintro m1 E F ⟨open_7_1, i_8, h3, h4, h5, h7, h8, hI⟩
 have h := hr m1 open_7_1 i_8 F hI
 clear hr hI
 unfold b12L1 at h
 refine HC_seq ?_
 refine cR (sR _ (r_move rfl h8) ?_)
 refine sR _ (r_move rfl h5) ?_
 refine sR (.int .i64 (v_17.size : Int)) (r_lenStr rfl rfl underlying9) ?_
 refine sR (.bool (decide (i_8 < (v_17.size : Int)))) (r_lss rfl rfl rfl) ?_
 refine HL_nil ?_
 refine HC_cond (t := (decide (i_8 < (v_17.size : Int)))) rfl (fun hc => ?_) (fun hc => ?_)
 replace h := h.1 (of_decide_eq_true hc)
 clear hc
 refine HC_skip ?_
 refine HC_seqJ (b12J2 (nx2 I1 m1) v_12 v_14 v_17 i_8 R) ?_ ?_
 clear h; rintro E F ⟨open_7_2, h3, h4, h5, h7, h8, h⟩
 unfold b12j2 at h
 refine HC_region ?_
 refine sR _ (r_move rfl h8) ?_
 refine sR (.int .i64 (IntKind.i64.wrap (i_8 + 1))) (r_add rfl rfl rfl) ?_
 refine sR (.int .i64 (IntKind.i64.wrap (i_8 + 1))) (r_assign rfl rfl) ?_
 refine HL_nil ?_
 obtain ⟨m', hm, h⟩ := h
 exact ⟨m', hm, _, _, h3, h4, h5, h7, rfl, h⟩
 refine HC_block ?_
 refine HC_seqJ (b12J3 (nx2 I1 m1) v_12 v_14 v_17 i_8 R) ?_ ?_
 clear h; rintro E F ⟨open_7_3, h3, h4, h5, h7, h8, h⟩
 unfold b12j3 at h
 refine HC_seq ?_
 refine cR (sR _ (r_move rfl h5) ?_)
 refine sR _ (r_move rfl h8) ?_
 obtain ⟨hl39, hu39, hx39, v_39, hv39, h⟩ := h
 refine sR (.int .u8 v_39) (w_indexStr rfl rfl underlying9 hl39 hu39 hv39) ?_
 refine sR (.bool (decide (v_39 ≠ 41))) (w_neq rfl rfl) ?_
 refine HL_nil ?_
 refine HC_cond (t := (decide (v_39 ≠ 41))) rfl (fun hc => ?_) (fun hc => ?_)
 replace h := h.1 (of_decide_eq_true hc)
 clear hc
 refine HC_exit ?_
 show b12J2 (nx2 I1 m1) v_12 v_14 v_17 i_8 R _ _
 exact ⟨_, h3, h4, h5, h7, h8, h⟩
 replace h := h.2 (of_decide_eq_false hc)
 clear hc
 refine HC_skip ?_
 refine HC_seq ?_
 refine cR (sR _ (r_move rfl h7) ?_)
 refine sR (.int .i64 (open_7_3.len : Int)) (r_lenSl rfl rfl underlying53) ?_
 refine sR (.bool (decide ((open_7_3.len : Int) = 0))) (w_eql rfl rfl) ?_
 refine HL_nil ?_
 refine HC_cond (t := (decide ((open_7_3.len : Int) = 0))) rfl (fun hc => ?_) (fun hc => ?_)
 replace h := h.1 (of_decide_eq_true hc)
 clear hc
 refine cR (sR (.bool false) (r_assign rfl rfl) ?_)
 exact HL_nil (HC_ret (rt1 f12 R rfl rfl h))
 replace h := h.2 (of_decide_eq_false hc)
 clear hc
 refine HC_skip ?_
 refine cR (sR _ (r_move rfl h7) ?_)
 refine sR _ (r_move rfl h7) ?_
 refine sR (.int .i64 (open_7_3.len : Int)) (r_lenSl rfl rfl underlying53) ?_
 refine sR (.int .i64 (IntKind.i64.wrap ((open_7_3.len : Int) - 1))) (r_sub rfl rfl rfl) ?_
 obtain ⟨a48_, hb48, hl48, hu48, h⟩ := h
 refine sR (.pointer (some (Addr.add a48_ (Int.toNat (IntKind.i64.wrap ((open_7_3.len : Int) - 1)) * 1)))) (w_indexAddr rfl rfl underlying53 sz3 hb48 hl48 hu48) ?_
 obtain ⟨v_49, hc49, h⟩ := h
 refine sR (.int .i64 v_49) (r_load1 rfl rfl underlying3 rfl hc49) ?_
 refine sR (.int .i64 v_49) (r_assign rfl rfl) ?_
 refine HL_nil ?_
 refine cR (sR _ (r_move rfl h7) ?_)
 refine sR _ (r_move rfl h7) ?_
 refine sR (.int .i64 (open_7_3.len : Int)) (r_lenSl rfl rfl underlying53) ?_
 refine sR (.int .i64 (IntKind.i64.wrap ((open_7_3.len : Int) - 1))) (r_sub rfl rfl rfl) ?_
 obtain ⟨hq54_0, hr54_0, hr54_1, h⟩ := h
 refine sR (Sl.v (Sl.cut open_7_3 1 0 (Int.toNat (IntKind.i64.wrap ((open_7_3.len : Int) - 1))) open_7_3.cap)) (r_sliceSl rfl rfl underlying53 sz3 bo_none (bo_ev rfl hq54_0) hr54_0 hr54_1) ?_
 refine sR (Sl.v (Sl.cut open_7_3 1 0 (Int.toNat (IntKind.i64.wrap ((open_7_3.len : Int) - 1))) open_7_3.cap)) (r_assign rfl rfl) ?_
 refine HL_nil ?_
 refine HC_seq ?_
 refine cR (sR (.int .i64 v_49) (r_move rfl rfl) ?_)
 refine sR _ (r_move rfl h8) ?_
 refine sR (.int .i64 (IntKind.i64.wrap (i_8 - 1))) (r_sub rfl rfl rfl) ?_
 refine sR (.bool (decide (v_49 = (IntKind.i64.wrap (i_8 - 1))))) (w_eql rfl rfl) ?_
 refine HL_nil ?_
 refine HC_cond (t := (decide (v_49 = (IntKind.i64.wrap (i_8 - 1))))) rfl (fun hc => ?_) (fun hc => ?_)
 replace h := h.1 (of_decide_eq_true hc)
 clear hc
 refine HC_exit ?_
 show b12J2 (nx2 I1 m1) v_12 v_14 v_17 i_8 R _ _
 exact ⟨_, h3, h4, h5, rfl, h8, h⟩
 replace h := h.2 (of_decide_eq_false hc)
 clear hc
 refine HC_skip ?_
 refine HC_seq ?_
 refine HC_draw0 (by kernel_rfl) (fun hp => ?_)
 refine gU 0 (.string v_17) rfl (fun _ => r_move rfl h5) hp ?_
 refine gU 1 (.int .i64 v_49) rfl (fun _ => r_move rfl rfl) hp ?_
 obtain ⟨hq62_0, hr62_0, hr62_1, h⟩ := h
 refine gU 2 (.string (v_17.extract 0 (Int.toNat v_49))) rfl (fun _ => r_sliceStr rfl rfl underlying9 bo_none (bo_ev rfl hq62_0) hr62_0 hr62_1) hp ?_
 refine gU 3 (.string v_17) rfl (fun _ => r_move rfl h5) hp ?_
 refine gU 4 (.int .i64 v_49) rfl (fun _ => r_move rfl rfl) hp ?_
 refine gU 5 (.int .i64 (IntKind.i64.wrap (v_49 + 1))) rfl (fun _ => r_add rfl rfl rfl) hp ?_
 refine gU 6 (.int .i64 i_8) rfl (fun _ => r_move rfl h8) hp ?_
 obtain ⟨hq67_0, hq67_1, hr67_0, hr67_1, h⟩ := h
 refine gU 7 (.string (v_17.extract (Int.toNat (IntKind.i64.wrap (v_49 + 1))) (Int.toNat i_8))) rfl (fun _ => r_sliceStr rfl rfl underlying9 (bo_ev rfl hq67_0) (bo_ev rfl hq67_1) hr67_0 hr67_1) hp ?_
 obtain ⟨hx68, h⟩ := h
 refine gU 8 (.string ((v_17.extract 0 (Int.toNat v_49)) ++ (v_17.extract (Int.toNat (IntKind.i64.wrap (v_49 + 1))) (Int.toNat i_8)))) rfl (fun _ => r_addS rfl rfl rfl hx68) hp ?_
 refine gU 9 (.string v_17) rfl (fun _ => r_move rfl h5) hp ?_
 refine gU 10 (.int .i64 i_8) rfl (fun _ => r_move rfl h8) hp ?_
 refine gU 11 (.int .i64 (IntKind.i64.wrap (i_8 + 1))) rfl (fun _ => r_add rfl rfl rfl) hp ?_
 obtain ⟨hq72_0, hr72_0, hr72_1, h⟩ := h
 refine gU 12 (.string (v_17.extract (Int.toNat (IntKind.i64.wrap (i_8 + 1))) v_17.size)) rfl (fun _ => r_sliceStr rfl rfl underlying9 (bo_ev rfl hq72_0) bo_none hr72_0 hr72_1) hp ?_
 obtain ⟨hx73, h⟩ := h
 refine gU 13 (.string (((v_17.extract 0 (Int.toNat v_49)) ++ (v_17.extract (Int.toNat (IntKind.i64.wrap (v_49 + 1))) (Int.toNat i_8))) ++ (v_17.extract (Int.toNat (IntKind.i64.wrap (i_8 + 1))) v_17.size))) rfl (fun _ => r_addS rfl rfl rfl hx73) hp ?_
 refine RG_eff1 (i := 14) (by kernel_rfl) (g_op (Sp' := []) rfl rfl (k_call (vs := [(.string (((v_17.extract 0 (Int.toNat v_49)) ++ (v_17.extract (Int.toNat (IntKind.i64.wrap (v_49 + 1))) (Int.toNat i_8))) ++ (v_17.extract (Int.toNat (IntKind.i64.wrap (i_8 + 1))) v_17.size)))]) cb25 (evC rfl evN) (h.mono ?_)))
 clear h; rintro v F ⟨v_74, v_74_1, rfl, h⟩
 refine holdI hold0 (fun hp => ?_)
 refine gU 15 (.tuple #[(Sl.v v_74), (.int .i64 v_74_1)]) rfl (fun _ => r_move rfl rfl) hp ?_
 refine gU 16 (Sl.v v_74) rfl (fun _ => r_extract rfl rfl rfl) hp ?_
 refine gU 17 (.int .i64 v_74_1) rfl (fun _ => r_extract rfl rfl rfl) hp ?_
 refine gU 18 (Sl.v v_74) rfl (fun _ => r_assign rfl rfl) hp ?_
 refine gU 19 (.int .i64 v_74_1) rfl (fun _ => r_assign rfl rfl) hp ?_
 refine RG_done (by kernel_rfl) ?_
 refine cR (sR (.int .i64 v_74_1) (r_move rfl rfl) ?_)
 refine sR (.bool (decide (v_74_1 = 0))) (w_eql rfl rfl) ?_
 refine sR (.bool (decide (v_74_1 = 0))) (r_move rfl rfl) ?_
 by_cases hc : v_74_1 = 0
 replace h := h.1 hc
 refine kN 78 (decide_eq_true hc) ?_
 refine kN 79 (decide_eq_true hc) ?_
 refine sR (Sl.v v_74) (r_move rfl rfl) ?_
 refine sR _ (r_move rfl h4) ?_
 refine s_ef (k_call (vs := [(Sl.v v_74), (Sl.v v_14)]) cb27 (evC rfl (evC rfl evN)) (h.mono ?_))
 clear h; rintro v F ⟨v_82, rfl, h⟩
 refine sR (.bool v_82) (r_pt rfl rfl) ?_
 refine HL_nil ?_
 refine HC_cond (t := v_82) rfl (fun hc => ?_) (fun hc => ?_)
 replace h := h.1 hc
 clear hc
 refine cR (sR (.bool false) (r_assign rfl rfl) ?_)
 exact HL_nil (HC_ret (rt1 f12 R rfl rfl h))
 replace h := h.2 hc
 clear hc
 refine HC_skip ?_
 show b12J2 (nx2 I1 m1) v_12 v_14 v_17 i_8 R _ _
 exact ⟨_, h3, h4, h5, rfl, h8, h⟩
 replace h := h.2 hc
 refine kN 78 (decide_eq_false hc) ?_
 refine kN 79 (decide_eq_false hc) ?_
 iterate 3 refine s_skip ?_
 refine sR (.bool false) (r_pf rfl rfl) ?_
 refine HL_nil ?_
 refine HC_condF rfl ?_
 refine HC_skip ?_
 show b12J2 (nx2 I1 m1) v_12 v_14 v_17 i_8 R _ _
 exact ⟨_, h3, h4, h5, rfl, h8, h⟩
 refine cR (sR _ (r_move rfl h5) ?_)
 refine sR _ (r_move rfl h8) ?_
 obtain ⟨hl31, hu31, hx31, v_31, hv31, h⟩ := h
 refine sR (.int .u8 v_31) (w_indexStr rfl rfl underlying9 hl31 hu31 hv31) ?_
 refine sR (.bool (decide (v_31 = 40))) (w_eql rfl rfl) ?_
 refine HL_nil ?_
 refine HC_cond (t := (decide (v_31 = 40))) rfl (fun hc => ?_) (fun hc => ?_)
 replace h := h.1 (of_decide_eq_true hc)
 clear hc
 refine HC_region ?_
 refine sR _ (r_move rfl h7) ?_
 refine sR _ (r_move rfl h8) ?_
 refine s_ef (k_buildSeq (l := [(.int .i64 i_8)]) underlying53 sz3 (by decide) zr3 rfl rfl ⟨rfl, trivial⟩ (evPC rfl evPN) ?_)
 intro b35 hf_b35
 replace h := atE (h b35 hf_b35)
 refine s_ef (k_append rfl rfl (runs_mono _ _ h ?_))
 clear h; rintro v F ⟨v_36, rfl, h⟩
 refine sR (Sl.v v_36) (r_assign rfl rfl) ?_
 refine HL_nil ?_
 show b12J3 (nx2 I1 m1) v_12 v_14 v_17 i_8 R _ _
 exact ⟨_, h3, h4, h5, rfl, h8, h⟩
 replace h := h.2 (of_decide_eq_false hc)
 clear hc
 refine HC_skip ?_
 show b12J3 (nx2 I1 m1) v_12 v_14 v_17 i_8 R _ _
 exact ⟨_, h3, h4, h5, h7, h8, h⟩
 replace h := h.2 (of_decide_eq_false hc)
 clear hc
 refine HC_exit ?_
 show b12J1 v_12 R _ _
 exact ⟨_, h3, h7, h⟩
end Go.Proofs.YtnjcgpihfmklfaaDoor
