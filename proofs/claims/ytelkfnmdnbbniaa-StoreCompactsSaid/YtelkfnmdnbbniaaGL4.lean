/-
  What functions of the program do, in a clean form, each with the proof that its code does so. Printed by a program.
-/
import Derived.Test.YtelkfnmdnbbniaaGf
import Derived.Test.YtelkfnmdnbbniaaPhp
namespace Go.Proofs.Ytelkfnmdnbbniaa
open Go Go.Proofs.Try
set_option maxRecDepth 10000
set_option maxHeartbeats 4000000
/- 4 koine.koinelaw35.StoreCompacts -/
def b4j1 (v_18 : Bool) (v_22 : Option Addr) (s_7 : Option Addr) (R : VP) (F : PH) :=
 Spec prog 17 #[(.pointer s_7)] F fun v F => ∃ v_53 : Sl, v = (Sl.v v_53) ∧
 Spec prog 18 #[(.pointer s_7)] F fun v F => ∃ v_55 : Int, v = (.int .i64 v_55) ∧
 Spec prog 19 #[(.pointer s_7)] F fun v F => ∃ v_57 : Int, v = (.int .i64 v_57) ∧
 Spec prog 20 #[(.pointer v_22)] F fun v F => ∃ v_60 : Option Addr, ∃ v_60_1 : Int, v = (.tuple #[(.pointer v_60), (.int .i64 v_60_1)]) ∧
 Spec prog 18 #[(.pointer s_7)] F fun v F => ∃ v_64 : Int, v = (.int .i64 v_64) ∧
 Spec prog 19 #[(.pointer s_7)] F fun v F => ∃ v_66 : Int, v = (.int .i64 v_66) ∧
 ((v_57 ≠ 0 →
  R (.bool false) F) ∧
 (¬ (v_57 ≠ 0) →
  ((v_60_1 ≠ 0 →
   R (.bool false) F) ∧
  (¬ (v_60_1 ≠ 0) →
   ((v_66 ≠ 0 →
    R (.bool false) F) ∧
   (¬ (v_66 ≠ 0) →
    Spec prog 17 #[(.pointer s_7)] F fun v F => ∃ v_78 : Sl, v = (Sl.v v_78) ∧
    Spec prog 21 #[(Sl.v v_78), (Sl.v v_53)] F fun v F => ∃ v_80 : Bool, v = (.bool v_80) ∧
    ((v_80 = true →
     Spec prog 17 #[(.pointer v_60)] F fun v F => ∃ v_83 : Sl, v = (Sl.v v_83) ∧
     Spec prog 21 #[(Sl.v v_83), (Sl.v v_53)] F fun v F => ∃ v_85 : Bool, v = (.bool v_85) ∧
     ((v_85 = true →
      ((v_55 ≤ v_64 →
       Spec prog 18 #[(.pointer s_7)] F fun v F => ∃ v_94 : Int, v = (.int .i64 v_94) ∧
       ((v_94 = v_64 →
        R (.bool v_18) F) ∧
       (¬ (v_94 = v_64) →
        R (.bool false) F))) ∧
      (¬ (v_55 ≤ v_64) →
       R (.bool false) F))) ∧
     (v_85 = false →
      R (.bool false) F))) ∧
    (v_80 = false →
     R (.bool false) F))))))))
abbrev b4J1 (v_18 : Bool) (v_22 : Option Addr) (R : VP) (E : En) (F : PH) : Prop := ∃ s_7 : Option Addr, E 5 = (.bool v_18) ∧ E 6 = (.pointer v_22) ∧ E 7 = (.pointer s_7) ∧ b4j1 v_18 v_22 s_7 R F
def b4L1 (N1 : Option Addr → Int → PH → Prop) (l_1 : Sl) (v_18 : Bool) (v_22 : Option Addr) (b8 : Nat) (R : VP) (s_7_1 : Option Addr) (i_10 : Int) (F : PH) :=
 ((i_10 < (l_1.len : Int) →
  ((i_10 < 30 →
   ∃ v_42 : Array Value, v_42.size = 3 ∧ F.row (Addr.mk b8 0 none) v_42 ∧
   ∃ a45_ : Addr, l_1.base = some a45_ ∧ 0 ≤ i_10 ∧ i_10 < (l_1.len : Int) ∧
   ∃ v_46 : Array Value, v_46.size = 2 ∧ F.row (Addr.add a45_ (Int.toNat i_10 * 2)) v_46 ∧
   Spec prog 14 #[(.pointer v_22), (.pointer s_7_1), (.agg v_42), (.agg v_46)] F fun v F => ∃ v_47 : Option Addr, ∃ v_47_1 : Array Value, ∃ v_47_2 : Int, ∃ v_47_3 : Bool, v = (.tuple #[(.pointer v_47), (.agg v_47_1), (.int .i64 v_47_2), (.bool v_47_3)]) ∧
   v_47_1.size = 3 ∧ (∀ v ∈ v_47_1.toList, storable v) ∧ ∃ c e, F (Addr.mk b8 0 none).block = some (.cells c e (0, 0)) ∧ (Addr.mk b8 0 none).spot = none ∧ (Addr.mk b8 0 none).off + 3 ≤ c.size ∧
   atF (F.set (Addr.mk b8 0 none).block (.cells (wr c (Addr.mk b8 0 none).off v_47_1.toList) e)) fun F =>
   N1 v_47 (IntKind.i64.wrap (i_10 + 1)) F) ∧
  (¬ (i_10 < 30) →
   b4j1 v_18 v_22 s_7_1 R F))) ∧
 (¬ (i_10 < (l_1.len : Int)) →
  b4j1 v_18 v_22 s_7_1 R F))
def b4 (n_0 : Int) (l_1 : Sl) (R : VP) (F : PH) :=
 Spec prog 10 #[] F fun v F => ∃ v_18 : Bool, v = (.bool v_18) ∧
 Spec prog 12 #[(.int .u8 n_0)] F fun v F => ∃ v_21 : Int, v = (.int .i64 v_21) ∧
 Spec prog 11 #[(.int .i64 v_21)] F fun v F => ∃ v_22 : Option Addr, ∃ v_22_1 : Option Addr, ∃ v_22_2 : Array Value, ∃ v_22_3 : Bool, v = (.tuple #[(.pointer v_22), (.pointer v_22_1), (.agg v_22_2), (.bool v_22_3)]) ∧
 ∀ b8, F b8 = none → atF (F.set b8 (.cells (#[.int .i64 0, .int .i64 0, .slice none 0 0]) 28)) fun F =>
 v_22_2.size = 3 ∧ (∀ v ∈ v_22_2.toList, storable v) ∧ ∃ c e, F (Addr.mk b8 0 none).block = some (.cells c e (0, 0)) ∧ (Addr.mk b8 0 none).spot = none ∧ (Addr.mk b8 0 none).off + 3 ≤ c.size ∧
 atF (F.set (Addr.mk b8 0 none).block (.cells (wr c (Addr.mk b8 0 none).off v_22_2.toList) e)) fun F =>
 (((!v_22_3) = true →
  R (.bool false) F) ∧
 ((!v_22_3) = false →
  (∃ (I1 : Nat → Option Addr → Int → PH → Prop) (m1 : Nat), I1 m1 v_22_1 0 F ∧ ∀ m1 s_7_1 i_10 F, I1 m1 s_7_1 i_10 F →
   b4L1 (nx2 I1 m1) l_1 v_18 v_22 b8 R s_7_1 i_10 F)))
theorem c4 {n_0 : Int} {l_1 : Sl} {R : VP} {F : PH} (h : b4 n_0 l_1 R F) : Spec prog 4 #[(.int .u8 n_0), (Sl.v l_1)] F R := by
 refine spec_of (args := [(.int .u8 n_0), (Sl.v l_1)]) func4 rfl ntmps4 rfl ?_
 unfold b4 at h
 refine cR (sR (.bool false) (r_assign rfl rfl) ?_)
 refine HL_nil ?_
 refine cR ?_
 refine s_ef (k_call (vs := []) cb10 evN (h.mono ?_))
 clear h; rintro v F ⟨v_18, rfl, h⟩
 refine sR (.bool v_18) (r_assign rfl rfl) ?_
 refine HL_nil ?_
 refine cR (sR (.int .u8 n_0) (r_move rfl rfl) ?_)
 refine s_ef (k_call (vs := [(.int .u8 n_0)]) cb12 (evC rfl evN) (h.mono ?_))
 clear h; rintro v F ⟨v_21, rfl, h⟩
 refine s_ef (k_call (vs := [(.int .i64 v_21)]) cb11 (evC rfl evN) (h.mono ?_))
 clear h; rintro v F ⟨v_22, v_22_1, v_22_2, v_22_3, rfl, h⟩
 refine sR (.tuple #[(.pointer v_22), (.pointer v_22_1), (.agg v_22_2), (.bool v_22_3)]) (r_move rfl rfl) ?_
 refine sR (.pointer v_22) (r_extract rfl rfl rfl) ?_
 refine sR (.pointer v_22_1) (r_extract rfl rfl rfl) ?_
 refine sR (.agg v_22_2) (r_extract rfl rfl rfl) ?_
 refine sR (.bool v_22_3) (r_extract rfl rfl rfl) ?_
 refine s_ef (k_alloc zr28 ?_)
 intro b8 hf_b8
 replace h := atE (h b8 hf_b8)
 refine sR (.pointer v_22) (r_assign rfl rfl) ?_
 refine sR (.pointer v_22_1) (r_assign rfl rfl) ?_
 refine s_ef0 (k_storeN (vs := v_22_2) rfl rfl sz28 (by decide) ?_)
 obtain ⟨hz1, hz2, c, e, hz3, hz4, hz5, h⟩ := h
 refine ⟨hz1, hz2, c, e, hz3, hz4, hz5, ?_⟩
 replace h := atE h
 refine sR (.bool v_22_3) (r_assign rfl rfl) ?_
 refine HL_nil ?_
 refine HC_seq ?_
 refine cR (sR (.bool v_22_3) (r_move rfl rfl) ?_)
 refine sR (.bool (!v_22_3)) (r_not rfl rfl) ?_
 refine HL_nil ?_
 refine HC_cond (t := (!v_22_3)) rfl (fun hc => ?_) (fun hc => ?_)
 replace h := h.1 hc
 clear hc
 refine cR (sR (.bool false) (r_assign rfl rfl) ?_)
 exact HL_nil (HC_ret (rt1 f4 R rfl rfl h))
 replace h := h.2 hc
 clear hc
 refine HC_skip ?_
 refine HC_seqJ (b4J1 v_18 v_22 R) ?_ ?_
 clear h; rintro E F ⟨s_7, h5, h6, h7, h⟩
 unfold b4j1 at h
 refine cR (sR _ (r_move rfl h7) ?_)
 refine s_ef (k_call (vs := [(.pointer s_7)]) cb17 (evC rfl evN) (h.mono ?_))
 clear h; rintro v F ⟨v_53, rfl, h⟩
 refine sR (Sl.v v_53) (r_assign rfl rfl) ?_
 refine HL_nil ?_
 refine cR (sR _ (r_move rfl h7) ?_)
 refine s_ef (k_call (vs := [(.pointer s_7)]) cb18 (evC rfl evN) (h.mono ?_))
 clear h; rintro v F ⟨v_55, rfl, h⟩
 refine sR (.int .i64 v_55) (r_assign rfl rfl) ?_
 refine HL_nil ?_
 refine cR (sR _ (r_move rfl h7) ?_)
 refine s_ef (k_call (vs := [(.pointer s_7)]) cb19 (evC rfl evN) (h.mono ?_))
 clear h; rintro v F ⟨v_57, rfl, h⟩
 refine sR (.int .i64 v_57) (r_assign rfl rfl) ?_
 refine HL_nil ?_
 refine cR (sR _ (r_move rfl h6) ?_)
 refine s_ef (k_call (vs := [(.pointer v_22)]) cb20 (evC rfl evN) (h.mono ?_))
 clear h; rintro v F ⟨v_60, v_60_1, rfl, h⟩
 refine sR (.tuple #[(.pointer v_60), (.int .i64 v_60_1)]) (r_move rfl rfl) ?_
 refine sR (.pointer v_60) (r_extract rfl rfl rfl) ?_
 refine sR (.int .i64 v_60_1) (r_extract rfl rfl rfl) ?_
 refine sR (.pointer v_60) (r_assign rfl rfl) ?_
 refine sR (.int .i64 v_60_1) (r_assign rfl rfl) ?_
 refine HL_nil ?_
 refine cR (sR _ (r_move rfl h7) ?_)
 refine s_ef (k_call (vs := [(.pointer s_7)]) cb18 (evC rfl evN) (h.mono ?_))
 clear h; rintro v F ⟨v_64, rfl, h⟩
 refine sR (.int .i64 v_64) (r_assign rfl rfl) ?_
 refine HL_nil ?_
 refine cR (sR _ (r_move rfl h7) ?_)
 refine s_ef (k_call (vs := [(.pointer s_7)]) cb19 (evC rfl evN) (h.mono ?_))
 clear h; rintro v F ⟨v_66, rfl, h⟩
 refine sR (.int .i64 v_66) (r_assign rfl rfl) ?_
 refine HL_nil ?_
 refine HC_seq ?_
 refine cR (sR (.int .i64 v_57) (r_move rfl rfl) ?_)
 refine sR (.bool (decide (v_57 ≠ 0))) (w_neq rfl rfl) ?_
 refine sR (.bool (decide (v_57 ≠ 0))) (r_move rfl rfl) ?_
 by_cases hc : v_57 ≠ 0
 replace h := h.1 hc
 refine kN 68 (decide_eq_true hc) ?_
 refine kN 69 (decide_eq_true hc) ?_
 iterate 2 refine s_skip ?_
 refine sR (.bool true) (r_pt rfl rfl) ?_
 refine sR (.bool true) (r_move rfl rfl) ?_
 iterate 2 refine s_skip ?_
 refine sR (.bool true) (r_pt rfl rfl) ?_
 refine HL_nil ?_
 refine HC_condT rfl ?_
 refine cR (sR (.bool false) (r_assign rfl rfl) ?_)
 exact HL_nil (HC_ret (rt1 f4 R rfl rfl h))
 replace h := h.2 hc
 refine kN 68 (decide_eq_false hc) ?_
 refine kN 69 (decide_eq_false hc) ?_
 refine sR (.int .i64 v_60_1) (r_move rfl rfl) ?_
 refine sR (.bool (decide (v_60_1 ≠ 0))) (w_neq rfl rfl) ?_
 refine sR (.bool (decide (v_60_1 ≠ 0))) (r_pf rfl rfl) ?_
 refine sR (.bool (decide (v_60_1 ≠ 0))) (r_move rfl rfl) ?_
 by_cases hc : v_60_1 ≠ 0
 replace h := h.1 hc
 refine kN 71 (decide_eq_true hc) ?_
 refine kN 72 (decide_eq_true hc) ?_
 refine kN 73 (decide_eq_true hc) ?_
 iterate 2 refine s_skip ?_
 refine sR (.bool true) (r_pt rfl rfl) ?_
 refine HL_nil ?_
 refine HC_condT rfl ?_
 refine cR (sR (.bool false) (r_assign rfl rfl) ?_)
 exact HL_nil (HC_ret (rt1 f4 R rfl rfl h))
 replace h := h.2 hc
 refine kN 71 (decide_eq_false hc) ?_
 refine kN 72 (decide_eq_false hc) ?_
 refine kN 73 (decide_eq_false hc) ?_
 refine sR (.int .i64 v_66) (r_move rfl rfl) ?_
 refine sR (.bool (decide (v_66 ≠ 0))) (w_neq rfl rfl) ?_
 refine sR (.bool (decide (v_66 ≠ 0))) (r_pf rfl rfl) ?_
 refine HL_nil ?_
 refine HC_cond (t := (decide (v_66 ≠ 0))) rfl (fun hc => ?_) (fun hc => ?_)
 replace h := h.1 (of_decide_eq_true hc)
 clear hc
 refine cR (sR (.bool false) (r_assign rfl rfl) ?_)
 exact HL_nil (HC_ret (rt1 f4 R rfl rfl h))
 replace h := h.2 (of_decide_eq_false hc)
 clear hc
 refine HC_skip ?_
 refine cR (sR _ (r_move rfl h7) ?_)
 refine s_ef (k_call (vs := [(.pointer s_7)]) cb17 (evC rfl evN) (h.mono ?_))
 clear h; rintro v F ⟨v_78, rfl, h⟩
 refine sR (Sl.v v_53) (r_move rfl rfl) ?_
 refine s_ef (k_call (vs := [(Sl.v v_78), (Sl.v v_53)]) cb21 (evC rfl (evC rfl evN)) (h.mono ?_))
 clear h; rintro v F ⟨v_80, rfl, h⟩
 refine sR (.bool v_80) (r_move rfl rfl) ?_
 by_cases hc : v_80 = true
 replace h := h.1 hc
 refine kN 80 hc ?_
 refine kN 81 hc ?_
 refine sR (.pointer v_60) (r_move rfl rfl) ?_
 refine s_ef (k_call (vs := [(.pointer v_60)]) cb17 (evC rfl evN) (h.mono ?_))
 clear h; rintro v F ⟨v_83, rfl, h⟩
 refine sR (Sl.v v_53) (r_move rfl rfl) ?_
 refine s_ef (k_call (vs := [(Sl.v v_83), (Sl.v v_53)]) cb21 (evC rfl (evC rfl evN)) (h.mono ?_))
 clear h; rintro v F ⟨v_85, rfl, h⟩
 refine sR (.bool v_85) (r_pt rfl rfl) ?_
 refine sR (.bool v_85) (r_move rfl rfl) ?_
 by_cases hc : v_85 = true
 replace h := h.1 hc
 refine kN 85 hc ?_
 refine kN 86 hc ?_
 refine kN 87 hc ?_
 refine sR (.int .i64 v_64) (r_move rfl rfl) ?_
 refine sR (.int .i64 v_55) (r_move rfl rfl) ?_
 refine sR (.bool (decide (v_55 ≤ v_64))) (r_geq rfl rfl rfl) ?_
 refine sR (.bool (decide (v_55 ≤ v_64))) (r_pt rfl rfl) ?_
 refine sR (.bool (decide (v_55 ≤ v_64))) (r_move rfl rfl) ?_
 by_cases hc : v_55 ≤ v_64
 replace h := h.1 hc
 refine kN 90 (decide_eq_true hc) ?_
 refine kN 91 (decide_eq_true hc) ?_
 refine kN 92 (decide_eq_true hc) ?_
 refine sR _ (r_move rfl h7) ?_
 refine s_ef (k_call (vs := [(.pointer s_7)]) cb18 (evC rfl evN) (h.mono ?_))
 clear h; rintro v F ⟨v_94, rfl, h⟩
 refine sR (.int .i64 v_64) (r_move rfl rfl) ?_
 refine sR (.bool (decide (v_94 = v_64))) (w_eql rfl rfl) ?_
 refine sR (.bool (decide (v_94 = v_64))) (r_pt rfl rfl) ?_
 refine sR (.bool (decide (v_94 = v_64))) (r_move rfl rfl) ?_
 by_cases hc : v_94 = v_64
 replace h := h.1 hc
 refine kN 96 (decide_eq_true hc) ?_
 refine kN 97 (decide_eq_true hc) ?_
 refine kN 98 (decide_eq_true hc) ?_
 refine sR _ (r_move rfl h5) ?_
 refine sR (.bool v_18) (r_pt rfl rfl) ?_
 refine sR (.bool v_18) (r_assign rfl rfl) ?_
 exact HL_nil (HC_ret (rt1 f4 R rfl rfl h))
 replace h := h.2 hc
 refine kN 96 (decide_eq_false hc) ?_
 refine kN 97 (decide_eq_false hc) ?_
 refine kN 98 (decide_eq_false hc) ?_
 refine s_skip ?_
 refine sR (.bool false) (r_pf rfl rfl) ?_
 refine sR (.bool false) (r_assign rfl rfl) ?_
 exact HL_nil (HC_ret (rt1 f4 R rfl rfl h))
 replace h := h.2 hc
 refine kN 90 (decide_eq_false hc) ?_
 refine kN 91 (decide_eq_false hc) ?_
 refine kN 92 (decide_eq_false hc) ?_
 iterate 4 refine s_skip ?_
 refine sR (.bool false) (r_pf rfl rfl) ?_
 refine sR (.bool false) (r_move rfl rfl) ?_
 refine s_skip ?_
 refine sR (.bool false) (r_pf rfl rfl) ?_
 refine sR (.bool false) (r_assign rfl rfl) ?_
 exact HL_nil (HC_ret (rt1 f4 R rfl rfl h))
 replace hc := eq_false_of_ne_true hc; replace h := h.2 hc
 refine kN 85 hc ?_
 refine kN 86 hc ?_
 refine kN 87 hc ?_
 iterate 3 refine s_skip ?_
 refine sR (.bool false) (r_pf rfl rfl) ?_
 refine sR (.bool false) (r_move rfl rfl) ?_
 iterate 4 refine s_skip ?_
 refine sR (.bool false) (r_pf rfl rfl) ?_
 refine sR (.bool false) (r_move rfl rfl) ?_
 refine s_skip ?_
 refine sR (.bool false) (r_pf rfl rfl) ?_
 refine sR (.bool false) (r_assign rfl rfl) ?_
 exact HL_nil (HC_ret (rt1 f4 R rfl rfl h))
 replace hc := eq_false_of_ne_true hc; replace h := h.2 hc
 refine kN 80 hc ?_
 refine kN 81 hc ?_
 iterate 4 refine s_skip ?_
 refine sR (.bool false) (r_pf rfl rfl) ?_
 refine sR (.bool false) (r_move rfl rfl) ?_
 iterate 3 refine s_skip ?_
 refine sR (.bool false) (r_pf rfl rfl) ?_
 refine sR (.bool false) (r_move rfl rfl) ?_
 iterate 4 refine s_skip ?_
 refine sR (.bool false) (r_pf rfl rfl) ?_
 refine sR (.bool false) (r_move rfl rfl) ?_
 refine s_skip ?_
 refine sR (.bool false) (r_pf rfl rfl) ?_
 refine sR (.bool false) (r_assign rfl rfl) ?_
 exact HL_nil (HC_ret (rt1 f4 R rfl rfl h))
 refine cR (sR (.int .i64 0) (r_assign rfl rfl) ?_)
 refine HL_nil ?_
 refine HC_block ?_
 obtain ⟨I1, m1, hI0, hr⟩ := h
 refine HC_loop (fun m1 E F => ∃ s_7_1 : Option Addr, ∃ i_10 : Int, E 1 = (Sl.v l_1) ∧ E 5 = (.bool v_18) ∧ E 6 = (.pointer v_22) ∧ E 7 = (.pointer s_7_1) ∧ E 8 = (.pointer (some (Addr.mk b8 0 none))) ∧ E 10 = (.int .i64 i_10) ∧ I1 m1 s_7_1 i_10 F) m1 ⟨_, _, rfl, rfl, rfl, rfl, rfl, rfl, hI0⟩ ?_
 clear hI0; rintro m1 E F ⟨s_7_1, i_10, h1, h5, h6, h7, h8, h10, hI⟩
 have h := hr m1 s_7_1 i_10 F hI
 clear hr hI
 unfold b4L1 at h
 refine HC_seq ?_
 refine cR (sR _ (r_move rfl h10) ?_)
 refine sR _ (r_move rfl h1) ?_
 refine sR (.int .i64 (l_1.len : Int)) (r_lenSl rfl rfl underlying22) ?_
 refine sR (.bool (decide (i_10 < (l_1.len : Int)))) (r_lss rfl rfl rfl) ?_
 refine sR (.bool (decide (i_10 < (l_1.len : Int)))) (r_move rfl rfl) ?_
 by_cases hc : i_10 < (l_1.len : Int)
 replace h := h.1 hc
 refine kN 32 (decide_eq_true hc) ?_
 refine kN 33 (decide_eq_true hc) ?_
 refine sR _ (r_move rfl h10) ?_
 refine sR (.bool (decide (i_10 < 30))) (r_lss rfl rfl rfl) ?_
 refine sR (.bool (decide (i_10 < 30))) (r_pt rfl rfl) ?_
 refine HL_nil ?_
 refine HC_cond (t := (decide (i_10 < 30))) rfl (fun hc => ?_) (fun hc => ?_)
 replace h := h.1 (of_decide_eq_true hc)
 clear hc
 refine HC_skip ?_
 refine HC_seq ?_
 refine HC_block ?_
 refine HC_draw0 (by kernel_rfl) (fun hp => ?_)
 refine gU 0 (.pointer v_22) rfl (fun _ => r_move rfl h6) hp ?_
 refine gU 1 (.pointer s_7_1) rfl (fun _ => r_move rfl h7) hp ?_
 obtain ⟨v_42, hs42, hc42, h⟩ := h
 refine gR 2 (.agg v_42) rfl (w_loadN h8 underlying28 rfl sz28 hs42 hc42) hp (fun S2 q2 => ?_)
 replace hp := holdC (i := 2) (q2 _ (w_loadN h8 underlying28 rfl sz28 hs42 hc42)) hp
 refine gU 3 (Sl.v l_1) rfl (fun _ => r_move rfl h1) hp ?_
 refine gU 4 (.int .i64 i_10) rfl (fun _ => r_move rfl h10) hp ?_
 obtain ⟨a45_, hb45, hl45, hu45, h⟩ := h
 refine gU 5 (.pointer (some (Addr.add a45_ (Int.toNat i_10 * 2)))) rfl (fun _ => w_indexAddr rfl rfl underlying22 sz38 hb45 hl45 hu45) hp ?_
 obtain ⟨v_46, hs46, hc46, h⟩ := h
 refine gR 6 (.agg v_46) rfl (w_loadN rfl underlying38 rfl sz38 hs46 hc46) hp (fun S6 q6 => ?_)
 replace hp := holdC (i := 6) (q6 _ (w_loadN rfl underlying38 rfl sz38 hs46 hc46)) hp
 refine RG_eff1 (i := 7) (by kernel_rfl) (g_op (Sp' := []) rfl rfl (k_call (vs := [(.pointer v_22), (.pointer s_7_1), (.agg v_42), (.agg v_46)]) cb14 (evC rfl (evC rfl (evC rfl (evC rfl evN)))) (h.mono ?_)))
 clear h; rintro v F ⟨v_47, v_47_1, v_47_2, v_47_3, rfl, h⟩
 refine holdI hold0 (fun hp => ?_)
 refine gU 8 (.tuple #[(.pointer v_47), (.agg v_47_1), (.int .i64 v_47_2), (.bool v_47_3)]) rfl (fun _ => r_move rfl rfl) hp ?_
 refine gU 9 (.pointer v_47) rfl (fun _ => r_extract rfl rfl rfl) hp ?_
 refine gU 10 (.agg v_47_1) rfl (fun _ => r_extract rfl rfl rfl) hp ?_
 refine gU 11 (.int .i64 v_47_2) rfl (fun _ => r_extract rfl rfl rfl) hp ?_
 refine gU 12 (.bool v_47_3) rfl (fun _ => r_extract rfl rfl rfl) hp ?_
 refine gU 13 (.pointer v_47) rfl (fun _ => r_assign rfl rfl) hp ?_
 refine RG_eff1 (i := 14) (by kernel_rfl) (g_op0 (Sp' := []) rfl rfl (k_storeN (vs := v_47_1) h8 rfl sz28 (by decide) ?_))
 obtain ⟨hz1, hz2, c, e, hz3, hz4, hz5, h⟩ := h
 refine ⟨hz1, hz2, c, e, hz3, hz4, hz5, ?_⟩
 replace h := atE h
 refine holdI hold0 (fun hp => ?_)
 refine RG_done (by kernel_rfl) ?_
 refine HC_region ?_
 refine sR _ (r_move rfl h10) ?_
 refine sR (.int .i64 (IntKind.i64.wrap (i_10 + 1))) (r_add rfl rfl rfl) ?_
 refine sR (.int .i64 (IntKind.i64.wrap (i_10 + 1))) (r_assign rfl rfl) ?_
 refine HL_nil ?_
 obtain ⟨m', hm, h⟩ := h
 exact ⟨m', hm, _, _, h1, h5, h6, rfl, h8, rfl, h⟩
 replace h := h.2 (of_decide_eq_false hc)
 clear hc
 refine HC_exit ?_
 show b4J1 v_18 v_22 R _ _
 exact ⟨_, h5, h6, h7, h⟩
 replace h := h.2 hc
 refine kN 32 (decide_eq_false hc) ?_
 refine kN 33 (decide_eq_false hc) ?_
 iterate 2 refine s_skip ?_
 refine sR (.bool false) (r_pf rfl rfl) ?_
 refine HL_nil ?_
 refine HC_condF rfl ?_
 refine HC_exit ?_
 show b4J1 v_18 v_22 R _ _
 exact ⟨_, h5, h6, h7, h⟩
end Go.Proofs.Ytelkfnmdnbbniaa
