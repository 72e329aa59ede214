/-
  What functions of the program do, in a clean form, each with the proof that its code does so. Printed by a program.
-/
import Derived.Test.YtnjcgpihfmklfaaDoorGf
import Derived.Test.YtnjcgpihfmklfaaDoorPho
namespace Go.Proofs.YtnjcgpihfmklfaaDoor
open Go Go.Proofs.Tryd
set_option maxRecDepth 10000
set_option maxHeartbeats 4000000
/- 16 koine.koineref04.Made -/
def b16j2 (out_14 : Sl) (R : VP) (F : PH) :=
 R (Sl.v out_14) F
abbrev b16J2 (R : VP) (E : En) (F : PH) : Prop := ∃ out_14 : Sl, E 14 = (Sl.v out_14) ∧ b16j2 out_14 R F
def b16L1 (N1 : Sl → Int → PH → Prop) (stack_5 : Sl) (R : VP) (out_14_1 : Sl) (i_15 : Int) (F : PH) :=
 ((i_15 < (stack_5.len : Int) →
  ∃ a129_ : Addr, stack_5.base = some a129_ ∧ 0 ≤ i_15 ∧ i_15 < (stack_5.len : Int) ∧
  ∃ v_130 : Sl, F.cell (Addr.add a129_ (Int.toNat i_15 * 1)) = some (Sl.v v_130) ∧
  Spec prog 41 #[(.int .i64 2), (Sl.v out_14_1), (Sl.v v_130)] F fun v F => ∃ v_131 : Sl, v = (Sl.v v_131) ∧
  N1 v_131 (IntKind.i64.wrap (i_15 + 1)) F) ∧
 (¬ (i_15 < (stack_5.len : Int)) →
  b16j2 out_14_1 R F))
def b16j1 (stack_5 : Sl) (R : VP) (F : PH) :=
 (((stack_5.len : Int) = 0 →
  Spec prog 38 #[] F fun v F => ∃ v_116 : Sl, v = (Sl.v v_116) ∧
  R (Sl.v v_116) F) ∧
 (¬ ((stack_5.len : Int) = 0) →
  ∃ a118_ : Addr, stack_5.base = some a118_ ∧ 0 ≤ (0 : Int) ∧ 0 < (stack_5.len : Int) ∧
  ∃ v_119 : Sl, F.cell (Addr.add a118_ (Int.toNat 0 * 1)) = some (Sl.v v_119) ∧
  (∃ (I1 : Nat → Sl → Int → PH → Prop) (m1 : Nat), I1 m1 v_119 1 F ∧ ∀ m1 out_14_1 i_15 F, I1 m1 out_14_1 i_15 F →
   b16L1 (nx2 I1 m1) stack_5 R out_14_1 i_15 F)))
abbrev b16J1 (R : VP) (E : En) (F : PH) : Prop := ∃ stack_5 : Sl, E 5 = (Sl.v stack_5) ∧ b16j1 stack_5 R F
def b16j3 (N2 : Sl → Int → Int → PH → Prop) (l_0 : Sl) (most_1 : Int) (i_7 : Int) (stack_5_2 : Sl) (size_6_1 : Int) (R : VP) (F : PH) :=
 N2 stack_5_2 size_6_1 (IntKind.i64.wrap (i_7 + 1)) F
abbrev b16J3 (N2 : Sl → Int → Int → PH → Prop) (l_0 : Sl) (most_1 : Int) (i_7 : Int) (R : VP) (E : En) (F : PH) : Prop := ∃ stack_5_2 : Sl, ∃ size_6_1 : Int, E 0 = (Sl.v l_0) ∧ E 1 = (.int .i64 most_1) ∧ E 5 = (Sl.v stack_5_2) ∧ E 6 = (.int .i64 size_6_1) ∧ E 7 = (.int .i64 i_7) ∧ b16j3 N2 l_0 most_1 i_7 stack_5_2 size_6_1 R F
def b16j5 (N2 : Sl → Int → Int → PH → Prop) (l_0 : Sl) (most_1 : Int) (size_6 : Int) (i_7 : Int) (stack_5_3 : Sl) (R : VP) (F : PH) :=
 b16j3 N2 l_0 most_1 i_7 stack_5_3 (IntKind.i64.wrap (size_6 + 2)) R F
abbrev b16J5 (N2 : Sl → Int → Int → PH → Prop) (l_0 : Sl) (most_1 : Int) (size_6 : Int) (i_7 : Int) (R : VP) (E : En) (F : PH) : Prop := ∃ stack_5_3 : Sl, E 0 = (Sl.v l_0) ∧ E 1 = (.int .i64 most_1) ∧ E 5 = (Sl.v stack_5_3) ∧ E 6 = (.int .i64 size_6) ∧ E 7 = (.int .i64 i_7) ∧ b16j5 N2 l_0 most_1 size_6 i_7 stack_5_3 R F
def b16j4 (N2 : Sl → Int → Int → PH → Prop) (l_0 : Sl) (most_1 : Int) (stack_5_1 : Sl) (size_6 : Int) (i_7 : Int) (v_32 : Int) (v_51 : Bool) (R : VP) (F : PH) :=
 ((v_51 = true →
  (((Int.tmod (IntKind.i64.wrap v_32) 9) = 4 →
   Spec prog 38 #[] F fun v F => ∃ v_65 : Sl, v = (Sl.v v_65) ∧
   ∀ b66, F b66 = none → atF (F.set b66 (.cells #[(Sl.v v_65)] 25)) fun F =>
   runs prog (Builtin.append_ #[56, 56] 56 #[(Sl.v stack_5_1), (Sl.v (Sl.mk (some (Addr.mk b66 0 none)) 1 1))]) F fun v F => ∃ v_67 : Sl, v = (Sl.v v_67) ∧
   b16j5 N2 l_0 most_1 size_6 i_7 v_67 R F) ∧
  (¬ ((Int.tmod (IntKind.i64.wrap v_32) 9) = 4) →
   Spec prog 39 #[(.int .i64 (IntKind.i64.wrap (97 + (Int.tmod (IntKind.i64.wrap (Int.tdiv (IntKind.i64.wrap v_32) 9)) 3)))), (.int .i64 (min 99 (IntKind.i64.wrap ((IntKind.i64.wrap (97 + (Int.tmod (IntKind.i64.wrap (Int.tdiv (IntKind.i64.wrap v_32) 9)) 3))) + (Int.tmod (IntKind.i64.wrap (Int.tdiv (IntKind.i64.wrap v_32) 27)) 2)))))] F fun v F => ∃ v_71 : Sl, v = (Sl.v v_71) ∧
   ∀ b72, F b72 = none → atF (F.set b72 (.cells #[(Sl.v v_71)] 25)) fun F =>
   runs prog (Builtin.append_ #[56, 56] 56 #[(Sl.v stack_5_1), (Sl.v (Sl.mk (some (Addr.mk b72 0 none)) 1 1))]) F fun v F => ∃ v_73 : Sl, v = (Sl.v v_73) ∧
   b16j5 N2 l_0 most_1 size_6 i_7 v_73 R F))) ∧
 (v_51 = false →
  (((Int.tmod (IntKind.i64.wrap v_32) 9) = 8 →
   ∃ a86_ : Addr, stack_5_1.base = some a86_ ∧ 0 ≤ (IntKind.i64.wrap ((stack_5_1.len : Int) - 1)) ∧ (IntKind.i64.wrap ((stack_5_1.len : Int) - 1)) < (stack_5_1.len : Int) ∧
   ∃ v_87 : Sl, F.cell (Addr.add a86_ (Int.toNat (IntKind.i64.wrap ((stack_5_1.len : Int) - 1)) * 1)) = some (Sl.v v_87) ∧
   Spec prog 40 #[(Sl.v v_87)] F fun v F => ∃ v_88 : Sl, v = (Sl.v v_88) ∧
   ∃ a89_ : Addr, stack_5_1.base = some a89_ ∧ 0 ≤ (IntKind.i64.wrap ((stack_5_1.len : Int) - 1)) ∧ (IntKind.i64.wrap ((stack_5_1.len : Int) - 1)) < (stack_5_1.len : Int) ∧
   ∃ c e, F (Addr.add a89_ (Int.toNat (IntKind.i64.wrap ((stack_5_1.len : Int) - 1)) * 1)).block = some (.cells c e (0, 0)) ∧ (Addr.add a89_ (Int.toNat (IntKind.i64.wrap ((stack_5_1.len : Int) - 1)) * 1)).spot = none ∧ (Addr.add a89_ (Int.toNat (IntKind.i64.wrap ((stack_5_1.len : Int) - 1)) * 1)).off < c.size ∧
   atF (F.set (Addr.add a89_ (Int.toNat (IntKind.i64.wrap ((stack_5_1.len : Int) - 1)) * 1)).block (.cells (c.setIfInBounds (Addr.add a89_ (Int.toNat (IntKind.i64.wrap ((stack_5_1.len : Int) - 1)) * 1)).off (Sl.v v_88)) e)) fun F =>
   b16j3 N2 l_0 most_1 i_7 stack_5_1 (IntKind.i64.wrap (size_6 + 1)) R F) ∧
  (¬ ((Int.tmod (IntKind.i64.wrap v_32) 9) = 8) →
   ∃ a98_ : Addr, stack_5_1.base = some a98_ ∧ 0 ≤ (IntKind.i64.wrap ((stack_5_1.len : Int) - 2)) ∧ (IntKind.i64.wrap ((stack_5_1.len : Int) - 2)) < (stack_5_1.len : Int) ∧
   ∃ v_99 : Sl, F.cell (Addr.add a98_ (Int.toNat (IntKind.i64.wrap ((stack_5_1.len : Int) - 2)) * 1)) = some (Sl.v v_99) ∧
   ∃ a103_ : Addr, stack_5_1.base = some a103_ ∧ 0 ≤ (IntKind.i64.wrap ((stack_5_1.len : Int) - 1)) ∧ (IntKind.i64.wrap ((stack_5_1.len : Int) - 1)) < (stack_5_1.len : Int) ∧
   ∃ v_104 : Sl, F.cell (Addr.add a103_ (Int.toNat (IntKind.i64.wrap ((stack_5_1.len : Int) - 1)) * 1)) = some (Sl.v v_104) ∧
   Spec prog 41 #[(.int .i64 (IntKind.i64.wrap (2 + (Int.tmod (Int.tmod (IntKind.i64.wrap v_32) 9) 2)))), (Sl.v v_99), (Sl.v v_104)] F fun v F => ∃ v_105 : Sl, v = (Sl.v v_105) ∧
   0 ≤ (IntKind.i64.wrap ((stack_5_1.len : Int) - 2)) ∧ 0 ≤ (Int.toNat (IntKind.i64.wrap ((stack_5_1.len : Int) - 2))) ∧ (Int.toNat (IntKind.i64.wrap ((stack_5_1.len : Int) - 2))) ≤ stack_5_1.cap ∧ 
   ∀ b111, F b111 = none → atF (F.set b111 (.cells #[(Sl.v v_105)] 25)) fun F =>
   runs prog (Builtin.append_ #[56, 56] 56 #[(Sl.v (Sl.cut stack_5_1 1 0 (Int.toNat (IntKind.i64.wrap ((stack_5_1.len : Int) - 2))) stack_5_1.cap)), (Sl.v (Sl.mk (some (Addr.mk b111 0 none)) 1 1))]) F fun v F => ∃ v_112 : Sl, v = (Sl.v v_112) ∧
   b16j3 N2 l_0 most_1 i_7 v_112 (IntKind.i64.wrap ((IntKind.i64.wrap (size_6 + 1)) - 1)) R F))))
abbrev b16J4 (N2 : Sl → Int → Int → PH → Prop) (l_0 : Sl) (most_1 : Int) (stack_5_1 : Sl) (size_6 : Int) (i_7 : Int) (v_32 : Int) (R : VP) (E : En) (F : PH) : Prop := ∃ v_51 : Bool, E 0 = (Sl.v l_0) ∧ E 1 = (.int .i64 most_1) ∧ E 5 = (Sl.v stack_5_1) ∧ E 6 = (.int .i64 size_6) ∧ E 7 = (.int .i64 i_7) ∧ E 8 = (.int .i64 (IntKind.i64.wrap v_32)) ∧ E 9 = (.int .i64 (stack_5_1.len : Int)) ∧ E 10 = (.int .i64 (Int.tmod (IntKind.i64.wrap v_32) 9)) ∧ E 51 = (.bool v_51) ∧ b16j4 N2 l_0 most_1 stack_5_1 size_6 i_7 v_32 v_51 R F
def b16L2 (N2 : Sl → Int → Int → PH → Prop) (l_0 : Sl) (most_1 : Int) (R : VP) (stack_5_1 : Sl) (size_6 : Int) (i_7 : Int) (F : PH) :=
 ((i_7 < (l_0.len : Int) →
  (((IntKind.i64.wrap (size_6 + 2)) < most_1 →
   ∃ a31_ : Addr, l_0.base = some a31_ ∧ 0 ≤ i_7 ∧ i_7 < (l_0.len : Int) ∧
   ∃ v_32 : Int, F.cell (Addr.add a31_ (Int.toNat i_7 * 1)) = some (.int .u8 v_32) ∧
   (((Int.tmod (IntKind.i64.wrap v_32) 9) < 5 →
    b16j4 N2 l_0 most_1 stack_5_1 size_6 i_7 v_32 true R F) ∧
   (¬ ((Int.tmod (IntKind.i64.wrap v_32) 9) < 5) →
    (((stack_5_1.len : Int) = 0 →
     b16j4 N2 l_0 most_1 stack_5_1 size_6 i_7 v_32 true R F) ∧
    (¬ ((stack_5_1.len : Int) = 0) →
     (((stack_5_1.len : Int) = 1 →
      b16j4 N2 l_0 most_1 stack_5_1 size_6 i_7 v_32 (decide ((Int.tmod (IntKind.i64.wrap v_32) 9) < 8)) R F) ∧
     (¬ ((stack_5_1.len : Int) = 1) →
      b16j4 N2 l_0 most_1 stack_5_1 size_6 i_7 v_32 false R F))))))) ∧
  (¬ ((IntKind.i64.wrap (size_6 + 2)) < most_1) →
   b16j1 stack_5_1 R F))) ∧
 (¬ (i_7 < (l_0.len : Int)) →
  b16j1 stack_5_1 R F))
def b16 (l_0 : Sl) (most_1 : Int) (R : VP) (F : PH) :=
 ∀ b16, F b16 = none → atF (F.set b16 (.cells #[] 25)) fun F =>
 (∃ (I2 : Nat → Sl → Int → Int → PH → Prop) (m2 : Nat), I2 m2 (Sl.mk (some (Addr.mk b16 0 none)) 0 0) 0 0 F ∧ ∀ m2 stack_5_1 size_6 i_7 F, I2 m2 stack_5_1 size_6 i_7 F →
  b16L2 (nx3 I2 m2) l_0 most_1 R stack_5_1 size_6 i_7 F)
theorem c16 {l_0 : Sl} {most_1 : Int} {R : VP} {F : PH} (h : b16 l_0 most_1 R F) : Spec prog 16 #[(Sl.v l_0), (.int .i64 most_1)] F R := by
 refine spec_of (args := [(Sl.v l_0), (.int .i64 most_1)]) func16 rfl ntmps16 rfl ?_
 unfold b16 at h
 refine cR (sR (Sl.v Sl.nil) (r_assign rfl rfl) ?_)
 refine HL_nil ?_
 refine cR ?_
 refine s_ef (k_buildSeq (l := []) underlying56 sz25 (by decide) zr25 rfl rfl trivial evPN ?_)
 intro b16 hf_b16
 replace h := atE (h b16 hf_b16)
 refine sR (Sl.v (Sl.mk (some (Addr.mk b16 0 none)) 0 0)) (r_assign rfl rfl) ?_
 refine HL_nil ?_
 refine cR (sR (.int .i64 0) (r_assign rfl rfl) ?_)
 refine HL_nil ?_
 refine HC_seqJ (b16J1 R) ?_ ?_
 clear h; rintro E F ⟨stack_5, h5, h⟩
 unfold b16j1 at h
 refine HC_seq ?_
 refine cR (sR _ (r_move rfl h5) ?_)
 refine sR (.int .i64 (stack_5.len : Int)) (r_lenSl rfl rfl underlying56) ?_
 refine sR (.bool (decide ((stack_5.len : Int) = 0))) (w_eql rfl rfl) ?_
 refine HL_nil ?_
 refine HC_cond (t := (decide ((stack_5.len : Int) = 0))) rfl (fun hc => ?_) (fun hc => ?_)
 replace h := h.1 (of_decide_eq_true hc)
 clear hc
 refine cR ?_
 refine s_ef (k_call (vs := []) cb38 evN (h.mono ?_))
 clear h; rintro v F ⟨v_116, rfl, h⟩
 refine sR (Sl.v v_116) (r_assign rfl rfl) ?_
 exact HL_nil (HC_ret (rt1 f16 R rfl rfl h))
 replace h := h.2 (of_decide_eq_false hc)
 clear hc
 refine HC_skip ?_
 refine cR (sR _ (r_move rfl h5) ?_)
 obtain ⟨a118_, hb118, hl118, hu118, h⟩ := h
 refine sR (.pointer (some (Addr.add a118_ (Int.toNat 0 * 1)))) (w_indexAddr rfl rfl underlying56 sz25 hb118 hl118 hu118) ?_
 obtain ⟨v_119, hc119, h⟩ := h
 refine sR (Sl.v v_119) (r_load1 rfl rfl underlying25 rfl hc119) ?_
 refine sR (Sl.v v_119) (r_assign rfl rfl) ?_
 refine HL_nil ?_
 refine HC_seqJ (b16J2 R) ?_ ?_
 clear h; rintro E F ⟨out_14, h14, h⟩
 unfold b16j2 at h
 refine cR (sR _ (r_move rfl h14) ?_)
 refine sR (Sl.v out_14) (r_assign rfl rfl) ?_
 exact HL_nil (HC_ret (rt1 f16 R rfl rfl h))
 refine cR (sR (.int .i64 1) (r_assign rfl rfl) ?_)
 refine HL_nil ?_
 refine HC_block ?_
 obtain ⟨I1, m1, hI0, hr⟩ := h
 refine HC_loop (fun m1 E F => ∃ out_14_1 : Sl, ∃ i_15 : Int, E 5 = (Sl.v stack_5) ∧ E 14 = (Sl.v out_14_1) ∧ E 15 = (.int .i64 i_15) ∧ I1 m1 out_14_1 i_15 F) m1 ⟨_, _, h5, rfl, rfl, hI0⟩ ?_
 clear hI0; rintro m1 E F ⟨out_14_1, i_15, h5, h14, h15, hI⟩
 have h := hr m1 out_14_1 i_15 F hI
 clear hr hI
 unfold b16L1 at h
 refine HC_seq ?_
 refine cR (sR _ (r_move rfl h15) ?_)
 refine sR _ (r_move rfl h5) ?_
 refine sR (.int .i64 (stack_5.len : Int)) (r_lenSl rfl rfl underlying56) ?_
 refine sR (.bool (decide (i_15 < (stack_5.len : Int)))) (r_lss rfl rfl rfl) ?_
 refine HL_nil ?_
 refine HC_cond (t := (decide (i_15 < (stack_5.len : Int)))) rfl (fun hc => ?_) (fun hc => ?_)
 replace h := h.1 (of_decide_eq_true hc)
 clear hc
 refine HC_skip ?_
 refine HC_seq ?_
 refine HC_block ?_
 refine HC_region ?_
 refine sR _ (r_move rfl h14) ?_
 refine sR _ (r_move rfl h5) ?_
 refine sR _ (r_move rfl h15) ?_
 obtain ⟨a129_, hb129, hl129, hu129, h⟩ := h
 refine sR (.pointer (some (Addr.add a129_ (Int.toNat i_15 * 1)))) (w_indexAddr rfl rfl underlying56 sz25 hb129 hl129 hu129) ?_
 obtain ⟨v_130, hc130, h⟩ := h
 refine sR (Sl.v v_130) (r_load1 rfl rfl underlying25 rfl hc130) ?_
 refine s_ef (k_call (vs := [(.int .i64 2), (Sl.v out_14_1), (Sl.v v_130)]) cb41 (evC rfl (evC rfl (evC rfl evN))) (h.mono ?_))
 clear h; rintro v F ⟨v_131, rfl, h⟩
 refine sR (Sl.v v_131) (r_assign rfl rfl) ?_
 refine HL_nil ?_
 refine HC_region ?_
 refine sR _ (r_move rfl h15) ?_
 refine sR (.int .i64 (IntKind.i64.wrap (i_15 + 1))) (r_add rfl rfl rfl) ?_
 refine sR (.int .i64 (IntKind.i64.wrap (i_15 + 1))) (r_assign rfl rfl) ?_
 refine HL_nil ?_
 obtain ⟨m', hm, h⟩ := h
 exact ⟨m', hm, _, _, h5, rfl, rfl, h⟩
 replace h := h.2 (of_decide_eq_false hc)
 clear hc
 refine HC_exit ?_
 show b16J2 R _ _
 exact ⟨_, h14, h⟩
 refine cR (sR (.int .i64 0) (r_assign rfl rfl) ?_)
 refine HL_nil ?_
 refine HC_block ?_
 obtain ⟨I2, m2, hI0, hr⟩ := h
 refine HC_loop (fun m2 E F => ∃ stack_5_1 : Sl, ∃ size_6 : Int, ∃ i_7 : Int, E 0 = (Sl.v l_0) ∧ E 1 = (.int .i64 most_1) ∧ E 5 = (Sl.v stack_5_1) ∧ E 6 = (.int .i64 size_6) ∧ E 7 = (.int .i64 i_7) ∧ I2 m2 stack_5_1 size_6 i_7 F) m2 ⟨_, _, _, rfl, rfl, rfl, rfl, rfl, hI0⟩ ?_
 clear hI0; rintro m2 E F ⟨stack_5_1, size_6, i_7, h0, h1, h5, h6, h7, hI⟩
 have h := hr m2 stack_5_1 size_6 i_7 F hI
 clear hr hI
 unfold b16L2 at h
 refine HC_seq ?_
 refine cR (sR _ (r_move rfl h7) ?_)
 refine sR _ (r_move rfl h0) ?_
 refine sR (.int .i64 (l_0.len : Int)) (r_lenSl rfl rfl underlying22) ?_
 refine sR (.bool (decide (i_7 < (l_0.len : Int)))) (r_lss rfl rfl rfl) ?_
 refine sR (.bool (decide (i_7 < (l_0.len : Int)))) (r_move rfl rfl) ?_
 by_cases hc : i_7 < (l_0.len : Int)
 replace h := h.1 hc
 refine kN 20 (decide_eq_true hc) ?_
 refine kN 21 (decide_eq_true hc) ?_
 refine sR _ (r_move rfl h6) ?_
 refine sR (.int .i64 (IntKind.i64.wrap (size_6 + 2))) (r_add rfl rfl rfl) ?_
 refine sR _ (r_move rfl h1) ?_
 refine sR (.bool (decide ((IntKind.i64.wrap (size_6 + 2)) < most_1))) (r_lss rfl rfl rfl) ?_
 refine sR (.bool (decide ((IntKind.i64.wrap (size_6 + 2)) < most_1))) (r_pt rfl rfl) ?_
 refine HL_nil ?_
 refine HC_cond (t := (decide ((IntKind.i64.wrap (size_6 + 2)) < most_1))) rfl (fun hc => ?_) (fun hc => ?_)
 replace h := h.1 (of_decide_eq_true hc)
 clear hc
 refine HC_skip ?_
 refine HC_seqJ (b16J3 (nx3 I2 m2) l_0 most_1 i_7 R) ?_ ?_
 clear h; rintro E F ⟨stack_5_2, size_6_1, h0, h1, h5, h6, h7, h⟩
 unfold b16j3 at h
 refine HC_region ?_
 refine sR _ (r_move rfl h7) ?_
 refine sR (.int .i64 (IntKind.i64.wrap (i_7 + 1))) (r_add rfl rfl rfl) ?_
 refine sR (.int .i64 (IntKind.i64.wrap (i_7 + 1))) (r_assign rfl rfl) ?_
 refine HL_nil ?_
 obtain ⟨m', hm, h⟩ := h
 exact ⟨m', hm, _, _, _, h0, h1, h5, h6, rfl, h⟩
 refine HC_block ?_
 refine cR (sR _ (r_move rfl h0) ?_)
 refine sR _ (r_move rfl h7) ?_
 obtain ⟨a31_, hb31, hl31, hu31, h⟩ := h
 refine sR (.pointer (some (Addr.add a31_ (Int.toNat i_7 * 1)))) (w_indexAddr rfl rfl underlying22 sz5 hb31 hl31 hu31) ?_
 obtain ⟨v_32, hc32, h⟩ := h
 refine sR (.int .u8 v_32) (r_load1 rfl rfl underlying5 rfl hc32) ?_
 refine sR (.int .i64 (IntKind.i64.wrap v_32)) (r_convInt rfl rfl underlying5 underlying3) ?_
 refine sR (.int .i64 (IntKind.i64.wrap v_32)) (r_assign rfl rfl) ?_
 refine HL_nil ?_
 refine cR (sR _ (r_move rfl h5) ?_)
 refine sR (.int .i64 (stack_5_1.len : Int)) (r_lenSl rfl rfl underlying56) ?_
 refine sR (.int .i64 (stack_5_1.len : Int)) (r_assign rfl rfl) ?_
 refine HL_nil ?_
 refine cR (sR (.int .i64 (IntKind.i64.wrap v_32)) (r_move rfl rfl) ?_)
 refine sR (.int .i64 (Int.tmod (IntKind.i64.wrap v_32) 9)) (r_rem rfl rfl rfl (by decide)) ?_
 refine sR (.int .i64 (Int.tmod (IntKind.i64.wrap v_32) 9)) (r_assign rfl rfl) ?_
 refine HL_nil ?_
 refine HC_seq ?_
 refine HC_seqJ (b16J4 (nx3 I2 m2) l_0 most_1 stack_5_1 size_6 i_7 v_32 R) ?_ ?_
 clear h; rintro E F ⟨v_51, h0, h1, h5, h6, h7, h8, h9, h10, h51, h⟩
 unfold b16j4 at h
 refine HC_cond (t := v_51) h51 (fun hc => ?_) (fun hc => ?_)
 replace h := h.1 hc
 clear hc
 refine cR (sR _ (r_move rfl h8) ?_)
 refine sR (.int .i64 (IntKind.i64.wrap (Int.tdiv (IntKind.i64.wrap v_32) 9))) (r_quo rfl rfl rfl (by decide)) ?_
 refine sR (.int .i64 (Int.tmod (IntKind.i64.wrap (Int.tdiv (IntKind.i64.wrap v_32) 9)) 3)) (r_rem rfl rfl rfl (by decide)) ?_
 refine sR (.int .i64 (IntKind.i64.wrap (97 + (Int.tmod (IntKind.i64.wrap (Int.tdiv (IntKind.i64.wrap v_32) 9)) 3)))) (r_add rfl rfl rfl) ?_
 refine sR (.int .i64 (IntKind.i64.wrap (97 + (Int.tmod (IntKind.i64.wrap (Int.tdiv (IntKind.i64.wrap v_32) 9)) 3)))) (r_assign rfl rfl) ?_
 refine HL_nil ?_
 refine cR (sR (.int .i64 (IntKind.i64.wrap (97 + (Int.tmod (IntKind.i64.wrap (Int.tdiv (IntKind.i64.wrap v_32) 9)) 3)))) (r_move rfl rfl) ?_)
 refine sR _ (r_move rfl h8) ?_
 refine sR (.int .i64 (IntKind.i64.wrap (Int.tdiv (IntKind.i64.wrap v_32) 27))) (r_quo rfl rfl rfl (by decide)) ?_
 refine sR (.int .i64 (Int.tmod (IntKind.i64.wrap (Int.tdiv (IntKind.i64.wrap v_32) 27)) 2)) (r_rem rfl rfl rfl (by decide)) ?_
 refine sR (.int .i64 (IntKind.i64.wrap ((IntKind.i64.wrap (97 + (Int.tmod (IntKind.i64.wrap (Int.tdiv (IntKind.i64.wrap v_32) 9)) 3))) + (Int.tmod (IntKind.i64.wrap (Int.tdiv (IntKind.i64.wrap v_32) 27)) 2)))) (r_add rfl rfl rfl) ?_
 refine sR (.int .i64 (min 99 (IntKind.i64.wrap ((IntKind.i64.wrap (97 + (Int.tmod (IntKind.i64.wrap (Int.tdiv (IntKind.i64.wrap v_32) 9)) 3))) + (Int.tmod (IntKind.i64.wrap (Int.tdiv (IntKind.i64.wrap v_32) 27)) 2))))) (r_min2 rfl rfl rfl) ?_
 refine sR (.int .i64 (min 99 (IntKind.i64.wrap ((IntKind.i64.wrap (97 + (Int.tmod (IntKind.i64.wrap (Int.tdiv (IntKind.i64.wrap v_32) 9)) 3))) + (Int.tmod (IntKind.i64.wrap (Int.tdiv (IntKind.i64.wrap v_32) 27)) 2))))) (r_assign rfl rfl) ?_
 refine HL_nil ?_
 refine HC_seqJ (b16J5 (nx3 I2 m2) l_0 most_1 size_6 i_7 R) ?_ ?_
 clear h; rintro E F ⟨stack_5_3, h0, h1, h5, h6, h7, h⟩
 unfold b16j5 at h
 refine cR (sR _ (r_move rfl h6) ?_)
 refine sR (.int .i64 (IntKind.i64.wrap (size_6 + 2))) (r_add rfl rfl rfl) ?_
 refine sR (.int .i64 (IntKind.i64.wrap (size_6 + 2))) (r_assign rfl rfl) ?_
 refine HL_nil ?_
 refine HC_exit ?_
 show b16J3 (nx3 I2 m2) l_0 most_1 i_7 R _ _
 exact ⟨_, _, h0, h1, h5, rfl, h7, h⟩
 refine cR (sR _ (r_move rfl h10) ?_)
 refine sR (.bool (decide ((Int.tmod (IntKind.i64.wrap v_32) 9) = 4))) (w_eql rfl rfl) ?_
 refine HL_nil ?_
 refine HC_cond (t := (decide ((Int.tmod (IntKind.i64.wrap v_32) 9) = 4))) rfl (fun hc => ?_) (fun hc => ?_)
 replace h := h.1 (of_decide_eq_true hc)
 clear hc
 refine HC_region ?_
 refine sR _ (r_move rfl h5) ?_
 refine s_ef (k_call (vs := []) cb38 evN (h.mono ?_))
 clear h; rintro v F ⟨v_65, rfl, h⟩
 refine s_ef (k_buildSeq (l := [(Sl.v v_65)]) underlying56 sz25 (by decide) zr25 rfl rfl ⟨rfl, trivial⟩ (evPC rfl evPN) ?_)
 intro b66 hf_b66
 replace h := atE (h b66 hf_b66)
 refine s_ef (k_append rfl rfl (runs_mono _ _ h ?_))
 clear h; rintro v F ⟨v_67, rfl, h⟩
 refine sR (Sl.v v_67) (r_assign rfl rfl) ?_
 refine HL_nil ?_
 show b16J5 (nx3 I2 m2) l_0 most_1 size_6 i_7 R _ _
 exact ⟨_, h0, h1, rfl, h6, h7, h⟩
 replace h := h.2 (of_decide_eq_false hc)
 clear hc
 refine HC_region ?_
 refine sR _ (r_move rfl h5) ?_
 refine sR (.int .i64 (IntKind.i64.wrap (97 + (Int.tmod (IntKind.i64.wrap (Int.tdiv (IntKind.i64.wrap v_32) 9)) 3)))) (r_move rfl rfl) ?_
 refine sR (.int .i64 (min 99 (IntKind.i64.wrap ((IntKind.i64.wrap (97 + (Int.tmod (IntKind.i64.wrap (Int.tdiv (IntKind.i64.wrap v_32) 9)) 3))) + (Int.tmod (IntKind.i64.wrap (Int.tdiv (IntKind.i64.wrap v_32) 27)) 2))))) (r_move rfl rfl) ?_
 refine s_ef (k_call (vs := [(.int .i64 (IntKind.i64.wrap (97 + (Int.tmod (IntKind.i64.wrap (Int.tdiv (IntKind.i64.wrap v_32) 9)) 3)))), (.int .i64 (min 99 (IntKind.i64.wrap ((IntKind.i64.wrap (97 + (Int.tmod (IntKind.i64.wrap (Int.tdiv (IntKind.i64.wrap v_32) 9)) 3))) + (Int.tmod (IntKind.i64.wrap (Int.tdiv (IntKind.i64.wrap v_32) 27)) 2)))))]) cb39 (evC rfl (evC rfl evN)) (h.mono ?_))
 clear h; rintro v F ⟨v_71, rfl, h⟩
 refine s_ef (k_buildSeq (l := [(Sl.v v_71)]) underlying56 sz25 (by decide) zr25 rfl rfl ⟨rfl, trivial⟩ (evPC rfl evPN) ?_)
 intro b72 hf_b72
 replace h := atE (h b72 hf_b72)
 refine s_ef (k_append rfl rfl (runs_mono _ _ h ?_))
 clear h; rintro v F ⟨v_73, rfl, h⟩
 refine sR (Sl.v v_73) (r_assign rfl rfl) ?_
 refine HL_nil ?_
 show b16J5 (nx3 I2 m2) l_0 most_1 size_6 i_7 R _ _
 exact ⟨_, h0, h1, rfl, h6, h7, h⟩
 replace h := h.2 hc
 clear hc
 refine HC_skip ?_
 refine cR (sR _ (r_move rfl h6) ?_)
 refine sR (.int .i64 (IntKind.i64.wrap (size_6 + 1))) (r_add rfl rfl rfl) ?_
 refine sR (.int .i64 (IntKind.i64.wrap (size_6 + 1))) (r_assign rfl rfl) ?_
 refine HL_nil ?_
 refine HC_seq ?_
 refine cR (sR _ (r_move rfl h10) ?_)
 refine sR (.bool (decide ((Int.tmod (IntKind.i64.wrap v_32) 9) = 8))) (w_eql rfl rfl) ?_
 refine HL_nil ?_
 refine HC_cond (t := (decide ((Int.tmod (IntKind.i64.wrap v_32) 9) = 8))) rfl (fun hc => ?_) (fun hc => ?_)
 replace h := h.1 (of_decide_eq_true hc)
 clear hc
 refine cR (sR _ (r_move rfl h5) ?_)
 refine sR _ (r_move rfl h9) ?_
 refine sR (.int .i64 (IntKind.i64.wrap ((stack_5_1.len : Int) - 1))) (r_sub rfl rfl rfl) ?_
 refine sR _ (r_move rfl h5) ?_
 refine sR _ (r_move rfl h9) ?_
 refine sR (.int .i64 (IntKind.i64.wrap ((stack_5_1.len : Int) - 1))) (r_sub rfl rfl rfl) ?_
 obtain ⟨a86_, hb86, hl86, hu86, h⟩ := h
 refine sR (.pointer (some (Addr.add a86_ (Int.toNat (IntKind.i64.wrap ((stack_5_1.len : Int) - 1)) * 1)))) (w_indexAddr rfl rfl underlying56 sz25 hb86 hl86 hu86) ?_
 obtain ⟨v_87, hc87, h⟩ := h
 refine sR (Sl.v v_87) (r_load1 rfl rfl underlying25 rfl hc87) ?_
 refine s_ef (k_call (vs := [(Sl.v v_87)]) cb40 (evC rfl evN) (h.mono ?_))
 clear h; rintro v F ⟨v_88, rfl, h⟩
 obtain ⟨a89_, hb89, hl89, hu89, h⟩ := h
 refine sR (.pointer (some (Addr.add a89_ (Int.toNat (IntKind.i64.wrap ((stack_5_1.len : Int) - 1)) * 1)))) (w_indexAddr rfl rfl underlying56 sz25 hb89 hl89 hu89) ?_
 refine s_ef0 (k_store1 (v := (Sl.v v_88)) rfl rfl sz25 rfl st_sl ?_)
 obtain ⟨c, e, hz3, hz4, hz5, h⟩ := h
 refine ⟨c, e, hz3, hz4, hz5, ?_⟩
 replace h := atE h
 refine HL_nil ?_
 refine HC_exit ?_
 show b16J3 (nx3 I2 m2) l_0 most_1 i_7 R _ _
 exact ⟨_, _, h0, h1, h5, rfl, h7, h⟩
 replace h := h.2 (of_decide_eq_false hc)
 clear hc
 refine HC_skip ?_
 refine cR (sR (.int .i64 (IntKind.i64.wrap (size_6 + 1))) (r_move rfl rfl) ?_)
 refine sR (.int .i64 (IntKind.i64.wrap ((IntKind.i64.wrap (size_6 + 1)) - 1))) (r_sub rfl rfl rfl) ?_
 refine sR (.int .i64 (IntKind.i64.wrap ((IntKind.i64.wrap (size_6 + 1)) - 1))) (r_assign rfl rfl) ?_
 refine HL_nil ?_
 refine HC_seq ?_
 refine HC_draw0 (by kernel_rfl) (fun hp => ?_)
 refine gU 0 (.int .i64 (Int.tmod (IntKind.i64.wrap v_32) 9)) rfl (fun _ => r_move rfl h10) hp ?_
 refine gU 1 (.int .i64 (Int.tmod (Int.tmod (IntKind.i64.wrap v_32) 9) 2)) rfl (fun _ => r_rem rfl rfl rfl (by decide)) hp ?_
 refine gU 2 (.int .i64 (IntKind.i64.wrap (2 + (Int.tmod (Int.tmod (IntKind.i64.wrap v_32) 9) 2)))) rfl (fun _ => r_add rfl rfl rfl) hp ?_
 refine gU 3 (Sl.v stack_5_1) rfl (fun _ => r_move rfl h5) hp ?_
 refine gU 4 (.int .i64 (stack_5_1.len : Int)) rfl (fun _ => r_move rfl h9) hp ?_
 refine gU 5 (.int .i64 (IntKind.i64.wrap ((stack_5_1.len : Int) - 2))) rfl (fun _ => r_sub rfl rfl rfl) hp ?_
 obtain ⟨a98_, hb98, hl98, hu98, h⟩ := h
 refine gU 6 (.pointer (some (Addr.add a98_ (Int.toNat (IntKind.i64.wrap ((stack_5_1.len : Int) - 2)) * 1)))) rfl (fun _ => w_indexAddr rfl rfl underlying56 sz25 hb98 hl98 hu98) hp ?_
 obtain ⟨v_99, hc99, h⟩ := h
 refine gR 7 (Sl.v v_99) rfl (r_load1 rfl rfl underlying25 rfl hc99) hp (fun S7 q7 => ?_)
 replace hp := holdC (i := 7) (q7 _ (r_load1 rfl rfl underlying25 rfl hc99)) hp
 refine gU 8 (Sl.v stack_5_1) rfl (fun _ => r_move rfl h5) hp ?_
 refine gU 9 (.int .i64 (stack_5_1.len : Int)) rfl (fun _ => r_move rfl h9) hp ?_
 refine gU 10 (.int .i64 (IntKind.i64.wrap ((stack_5_1.len : Int) - 1))) rfl (fun _ => r_sub rfl rfl rfl) hp ?_
 obtain ⟨a103_, hb103, hl103, hu103, h⟩ := h
 refine gU 11 (.pointer (some (Addr.add a103_ (Int.toNat (IntKind.i64.wrap ((stack_5_1.len : Int) - 1)) * 1)))) rfl (fun _ => w_indexAddr rfl rfl underlying56 sz25 hb103 hl103 hu103) hp ?_
 obtain ⟨v_104, hc104, h⟩ := h
 refine gR 12 (Sl.v v_104) rfl (r_load1 rfl rfl underlying25 rfl hc104) hp (fun S12 q12 => ?_)
 replace hp := holdC (i := 12) (q12 _ (r_load1 rfl rfl underlying25 rfl hc104)) hp
 refine RG_eff1 (i := 13) (by kernel_rfl) (g_op (Sp' := []) rfl rfl (k_call (vs := [(.int .i64 (IntKind.i64.wrap (2 + (Int.tmod (Int.tmod (IntKind.i64.wrap v_32) 9) 2)))), (Sl.v v_99), (Sl.v v_104)]) cb41 (evC rfl (evC rfl (evC rfl evN))) (h.mono ?_)))
 clear h; rintro v F ⟨v_105, rfl, h⟩
 refine holdI hold0 (fun hp => ?_)
 refine gU 14 (Sl.v v_105) rfl (fun _ => r_assign rfl rfl) hp ?_
 refine RG_done (by kernel_rfl) ?_
 refine HC_region ?_
 refine sR _ (r_move rfl h5) ?_
 refine sR _ (r_move rfl h9) ?_
 refine sR (.int .i64 (IntKind.i64.wrap ((stack_5_1.len : Int) - 2))) (r_sub rfl rfl rfl) ?_
 obtain ⟨hq109_0, hr109_0, hr109_1, h⟩ := h
 refine sR (Sl.v (Sl.cut stack_5_1 1 0 (Int.toNat (IntKind.i64.wrap ((stack_5_1.len : Int) - 2))) stack_5_1.cap)) (r_sliceSl rfl rfl underlying56 sz25 bo_none (bo_ev rfl hq109_0) hr109_0 hr109_1) ?_
 refine sR (Sl.v v_105) (r_move rfl rfl) ?_
 refine s_ef (k_buildSeq (l := [(Sl.v v_105)]) underlying56 sz25 (by decide) zr25 rfl rfl ⟨rfl, trivial⟩ (evPC rfl evPN) ?_)
 intro b111 hf_b111
 replace h := atE (h b111 hf_b111)
 refine s_ef (k_append rfl rfl (runs_mono _ _ h ?_))
 clear h; rintro v F ⟨v_112, rfl, h⟩
 refine sR (Sl.v v_112) (r_assign rfl rfl) ?_
 refine HL_nil ?_
 show b16J3 (nx3 I2 m2) l_0 most_1 i_7 R _ _
 exact ⟨_, _, h0, h1, rfl, rfl, h7, h⟩
 refine HC_region ?_
 refine sR (.int .i64 (Int.tmod (IntKind.i64.wrap v_32) 9)) (r_move rfl rfl) ?_
 refine sR (.bool (decide ((Int.tmod (IntKind.i64.wrap v_32) 9) < 5))) (r_lss rfl rfl rfl) ?_
 refine sR (.bool (decide ((Int.tmod (IntKind.i64.wrap v_32) 9) < 5))) (r_move rfl rfl) ?_
 by_cases hc : (Int.tmod (IntKind.i64.wrap v_32) 9) < 5
 replace h := h.1 hc
 refine kN 39 (decide_eq_true hc) ?_
 refine kN 40 (decide_eq_true hc) ?_
 iterate 2 refine s_skip ?_
 refine sR (.bool true) (r_pt rfl rfl) ?_
 refine sR (.bool true) (r_move rfl rfl) ?_
 iterate 6 refine s_skip ?_
 refine sR (.bool true) (r_pt rfl rfl) ?_
 refine HL_nil ?_
 show b16J4 (nx3 I2 m2) l_0 most_1 stack_5_1 size_6 i_7 v_32 R _ _
 exact ⟨_, h0, h1, h5, h6, h7, rfl, rfl, rfl, rfl, h⟩
 replace h := h.2 hc
 refine kN 39 (decide_eq_false hc) ?_
 refine kN 40 (decide_eq_false hc) ?_
 refine sR (.int .i64 (stack_5_1.len : Int)) (r_move rfl rfl) ?_
 refine sR (.bool (decide ((stack_5_1.len : Int) = 0))) (w_eql rfl rfl) ?_
 refine sR (.bool (decide ((stack_5_1.len : Int) = 0))) (r_pf rfl rfl) ?_
 refine sR (.bool (decide ((stack_5_1.len : Int) = 0))) (r_move rfl rfl) ?_
 by_cases hc : (stack_5_1.len : Int) = 0
 replace h := h.1 hc
 refine kN 42 (decide_eq_true hc) ?_
 refine kN 43 (decide_eq_true hc) ?_
 refine kN 44 (decide_eq_true hc) ?_
 iterate 6 refine s_skip ?_
 refine sR (.bool true) (r_pt rfl rfl) ?_
 refine HL_nil ?_
 show b16J4 (nx3 I2 m2) l_0 most_1 stack_5_1 size_6 i_7 v_32 R _ _
 exact ⟨_, h0, h1, h5, h6, h7, rfl, rfl, rfl, rfl, h⟩
 replace h := h.2 hc
 refine kN 42 (decide_eq_false hc) ?_
 refine kN 43 (decide_eq_false hc) ?_
 refine kN 44 (decide_eq_false hc) ?_
 refine sR (.int .i64 (stack_5_1.len : Int)) (r_move rfl rfl) ?_
 refine sR (.bool (decide ((stack_5_1.len : Int) = 1))) (w_eql rfl rfl) ?_
 refine sR (.bool (decide ((stack_5_1.len : Int) = 1))) (r_move rfl rfl) ?_
 by_cases hc : (stack_5_1.len : Int) = 1
 replace h := h.1 hc
 refine kN 46 (decide_eq_true hc) ?_
 refine kN 47 (decide_eq_true hc) ?_
 refine sR (.int .i64 (Int.tmod (IntKind.i64.wrap v_32) 9)) (r_move rfl rfl) ?_
 refine sR (.bool (decide ((Int.tmod (IntKind.i64.wrap v_32) 9) < 8))) (r_lss rfl rfl rfl) ?_
 refine sR (.bool (decide ((Int.tmod (IntKind.i64.wrap v_32) 9) < 8))) (r_pt rfl rfl) ?_
 refine sR (.bool (decide ((Int.tmod (IntKind.i64.wrap v_32) 9) < 8))) (r_pf rfl rfl) ?_
 refine HL_nil ?_
 show b16J4 (nx3 I2 m2) l_0 most_1 stack_5_1 size_6 i_7 v_32 R _ _
 exact ⟨_, h0, h1, h5, h6, h7, rfl, rfl, rfl, rfl, h⟩
 replace h := h.2 hc
 refine kN 46 (decide_eq_false hc) ?_
 refine kN 47 (decide_eq_false hc) ?_
 iterate 2 refine s_skip ?_
 refine sR (.bool false) (r_pf rfl rfl) ?_
 refine sR (.bool false) (r_pf rfl rfl) ?_
 refine HL_nil ?_
 show b16J4 (nx3 I2 m2) l_0 most_1 stack_5_1 size_6 i_7 v_32 R _ _
 exact ⟨_, h0, h1, h5, h6, h7, rfl, rfl, rfl, rfl, h⟩
 replace h := h.2 (of_decide_eq_false hc)
 clear hc
 refine HC_exit ?_
 show b16J1 R _ _
 exact ⟨_, h5, h⟩
 replace h := h.2 hc
 refine kN 20 (decide_eq_false hc) ?_
 refine kN 21 (decide_eq_false hc) ?_
 iterate 4 refine s_skip ?_
 refine sR (.bool false) (r_pf rfl rfl) ?_
 refine HL_nil ?_
 refine HC_condF rfl ?_
 refine HC_exit ?_
 show b16J1 R _ _
 exact ⟨_, h5, h⟩
end Go.Proofs.YtnjcgpihfmklfaaDoor
