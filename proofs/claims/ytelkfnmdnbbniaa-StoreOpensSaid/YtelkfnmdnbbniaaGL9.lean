/-
  What functions of the program do, in a clean form, each with the proof that its code does so. Printed by a program.
-/
import Derived.Test.YtelkfnmdnbbniaaGf
import Derived.Test.YtelkfnmdnbbniaaPhp
namespace Go.Proofs.Ytelkfnmdnbbniaa
open Go Go.Proofs.Try
set_option maxRecDepth 10000
set_option maxHeartbeats 4000000
/- 9 koine.koinelaw35.StoreOpens -/
def b9j2 (v_25 : Bool) (s_7 : Option Addr) (v_65 : Option Addr) (v_70 : Option Addr) (v_75 : Option Addr) (R : VP) (F : PH) :=
 Spec prog 17 #[(.pointer s_7)] F fun v F => ∃ v_126 : Sl, v = (Sl.v v_126) ∧
 Spec prog 17 #[(.pointer v_65)] F fun v F => ∃ v_128 : Sl, v = (Sl.v v_128) ∧
 Spec prog 21 #[(Sl.v v_128), (Sl.v v_126)] F fun v F => ∃ v_130 : Bool, v = (.bool v_130) ∧
 ((v_130 = true →
  Spec prog 17 #[(.pointer v_70)] F fun v F => ∃ v_133 : Sl, v = (Sl.v v_133) ∧
  Spec prog 21 #[(Sl.v v_133), (Sl.v v_126)] F fun v F => ∃ v_135 : Bool, v = (.bool v_135) ∧
  ((v_135 = true →
   Spec prog 17 #[(.pointer v_75)] F fun v F => ∃ v_139 : Sl, v = (Sl.v v_139) ∧
   Spec prog 21 #[(Sl.v v_139), (Sl.v v_126)] F fun v F => ∃ v_141 : Bool, v = (.bool v_141) ∧
   ((v_141 = true →
    Spec prog 18 #[(.pointer v_65)] F fun v F => ∃ v_145 : Int, v = (.int .i64 v_145) ∧
    Spec prog 18 #[(.pointer s_7)] F fun v F => ∃ v_147 : Int, v = (.int .i64 v_147) ∧
    ((v_145 = v_147 →
     Spec prog 18 #[(.pointer v_70)] F fun v F => ∃ v_152 : Int, v = (.int .i64 v_152) ∧
     Spec prog 18 #[(.pointer s_7)] F fun v F => ∃ v_154 : Int, v = (.int .i64 v_154) ∧
     ((v_152 = v_154 →
      Spec prog 18 #[(.pointer v_75)] F fun v F => ∃ v_159 : Int, v = (.int .i64 v_159) ∧
      Spec prog 18 #[(.pointer s_7)] F fun v F => ∃ v_161 : Int, v = (.int .i64 v_161) ∧
      ((v_159 = v_161 →
       R (.bool v_25) F) ∧
      (¬ (v_159 = v_161) →
       R (.bool false) F))) ∧
     (¬ (v_152 = v_154) →
      R (.bool false) F))) ∧
    (¬ (v_145 = v_147) →
     R (.bool false) F))) ∧
   (v_141 = false →
    R (.bool false) F))) ∧
  (v_135 = false →
   R (.bool false) F))) ∧
 (v_130 = false →
  R (.bool false) F))
abbrev b9J2 (v_25 : Bool) (s_7 : Option Addr) (v_65 : Option Addr) (v_70 : Option Addr) (v_75 : Option Addr) (R : VP) (E : En) (F : PH) : Prop := E 5 = (.bool v_25) ∧ E 7 = (.pointer s_7) ∧ E 13 = (.pointer v_65) ∧ E 15 = (.pointer v_70) ∧ E 17 = (.pointer v_75) ∧ b9j2 v_25 s_7 v_65 v_70 v_75 R F
def b9L1 (N1 : Int → PH → Prop) (v_25 : Bool) (v_29 : Option Addr) (s_7 : Option Addr) (v_60 : Option Addr) (v_65 : Option Addr) (v_70 : Option Addr) (v_75 : Option Addr) (R : VP) (i_19 : Int) (F : PH) :=
 Spec prog 28 #[(.pointer v_29)] F fun v F => ∃ v_96 : Int, v = (.int .i64 v_96) ∧
 ((i_19 < v_96 →
  Spec prog 38 #[(.pointer v_29), (.int .i64 i_19)] F fun v F => ∃ v_103 : Sl, ∃ v_103_1 : Int, v = (.tuple #[(Sl.v v_103), (.int .i64 v_103_1)]) ∧
  Spec prog 38 #[(.pointer v_60), (.int .i64 i_19)] F fun v F => ∃ v_109 : Sl, ∃ v_109_1 : Int, v = (.tuple #[(Sl.v v_109), (.int .i64 v_109_1)]) ∧
  ((v_103_1 ≠ 0 →
   R (.bool false) F) ∧
  (¬ (v_103_1 ≠ 0) →
   ((v_109_1 ≠ 0 →
    R (.bool false) F) ∧
   (¬ (v_109_1 ≠ 0) →
    ∃ v_120 : ByteArray, rdo prog (Conv.bytesToString (Sl.v v_103)) F (.string v_120) ∧
    ∃ v_122 : ByteArray, rdo prog (Conv.bytesToString (Sl.v v_109)) F (.string v_122) ∧
    (((!(v_120.toList == v_122.toList)) = true →
     R (.bool false) F) ∧
    ((!(v_120.toList == v_122.toList)) = false →
     N1 (IntKind.i64.wrap (i_19 + 1)) F))))))) ∧
 (¬ (i_19 < v_96) →
  b9j2 v_25 s_7 v_65 v_70 v_75 R F))
def b9j1 (v_25 : Bool) (v_29 : Option Addr) (s_7 : Option Addr) (R : VP) (F : PH) :=
 Spec prog 36 #[(.pointer v_29)] F fun v F => ∃ v_60 : Option Addr, v = (.pointer v_60) ∧
 Spec prog 37 #[(.pointer v_29)] F fun v F => ∃ v_62 : Int, v = (.int .i64 v_62) ∧
 Spec prog 20 #[(.pointer v_29)] F fun v F => ∃ v_65 : Option Addr, ∃ v_65_1 : Int, v = (.tuple #[(.pointer v_65), (.int .i64 v_65_1)]) ∧
 Spec prog 20 #[(.pointer v_29)] F fun v F => ∃ v_70 : Option Addr, ∃ v_70_1 : Int, v = (.tuple #[(.pointer v_70), (.int .i64 v_70_1)]) ∧
 Spec prog 20 #[(.pointer v_60)] F fun v F => ∃ v_75 : Option Addr, ∃ v_75_1 : Int, v = (.tuple #[(.pointer v_75), (.int .i64 v_75_1)]) ∧
 ((v_65_1 ≠ 0 →
  R (.bool false) F) ∧
 (¬ (v_65_1 ≠ 0) →
  ((v_70_1 ≠ 0 →
   R (.bool false) F) ∧
  (¬ (v_70_1 ≠ 0) →
   ((v_75_1 ≠ 0 →
    R (.bool false) F) ∧
   (¬ (v_75_1 ≠ 0) →
    Spec prog 37 #[(.pointer v_29)] F fun v F => ∃ v_90 : Int, v = (.int .i64 v_90) ∧
    ((v_90 ≠ v_62 →
     R (.bool false) F) ∧
    (¬ (v_90 ≠ v_62) →
     (∃ (I1 : Nat → Int → PH → Prop) (m1 : Nat), I1 m1 0 F ∧ ∀ m1 i_19 F, I1 m1 i_19 F →
      b9L1 (nx1 I1 m1) v_25 v_29 s_7 v_60 v_65 v_70 v_75 R i_19 F)))))))))
abbrev b9J1 (v_25 : Bool) (v_29 : Option Addr) (R : VP) (E : En) (F : PH) : Prop := ∃ s_7 : Option Addr, E 5 = (.bool v_25) ∧ E 6 = (.pointer v_29) ∧ E 7 = (.pointer s_7) ∧ b9j1 v_25 v_29 s_7 R F
def b9L2 (N2 : Option Addr → Int → PH → Prop) (l_1 : Sl) (v_25 : Bool) (v_29 : Option Addr) (b8 : Nat) (R : VP) (s_7_1 : Option Addr) (i_10 : Int) (F : PH) :=
 ((i_10 < (l_1.len : Int) →
  ((i_10 < 30 →
   ∃ v_49 : Array Value, v_49.size = 3 ∧ F.row (Addr.mk b8 0 none) v_49 ∧
   ∃ a52_ : Addr, l_1.base = some a52_ ∧ 0 ≤ i_10 ∧ i_10 < (l_1.len : Int) ∧
   ∃ v_53 : Array Value, v_53.size = 2 ∧ F.row (Addr.add a52_ (Int.toNat i_10 * 2)) v_53 ∧
   Spec prog 14 #[(.pointer v_29), (.pointer s_7_1), (.agg v_49), (.agg v_53)] F fun v F => ∃ v_54 : Option Addr, ∃ v_54_1 : Array Value, ∃ v_54_2 : Int, ∃ v_54_3 : Bool, v = (.tuple #[(.pointer v_54), (.agg v_54_1), (.int .i64 v_54_2), (.bool v_54_3)]) ∧
   v_54_1.size = 3 ∧ (∀ v ∈ v_54_1.toList, storable v) ∧ ∃ c e, F (Addr.mk b8 0 none).block = some (.cells c e (0, 0)) ∧ (Addr.mk b8 0 none).spot = none ∧ (Addr.mk b8 0 none).off + 3 ≤ c.size ∧
   atF (F.set (Addr.mk b8 0 none).block (.cells (wr c (Addr.mk b8 0 none).off v_54_1.toList) e)) fun F =>
   N2 v_54 (IntKind.i64.wrap (i_10 + 1)) F) ∧
  (¬ (i_10 < 30) →
   b9j1 v_25 v_29 s_7_1 R F))) ∧
 (¬ (i_10 < (l_1.len : Int)) →
  b9j1 v_25 v_29 s_7_1 R F))
def b9 (n_0 : Int) (l_1 : Sl) (R : VP) (F : PH) :=
 Spec prog 10 #[] F fun v F => ∃ v_25 : Bool, v = (.bool v_25) ∧
 Spec prog 12 #[(.int .u8 n_0)] F fun v F => ∃ v_28 : Int, v = (.int .i64 v_28) ∧
 Spec prog 11 #[(.int .i64 v_28)] F fun v F => ∃ v_29 : Option Addr, ∃ v_29_1 : Option Addr, ∃ v_29_2 : Array Value, ∃ v_29_3 : Bool, v = (.tuple #[(.pointer v_29), (.pointer v_29_1), (.agg v_29_2), (.bool v_29_3)]) ∧
 ∀ b8, F b8 = none → atF (F.set b8 (.cells (#[.int .i64 0, .int .i64 0, .slice none 0 0]) 28)) fun F =>
 v_29_2.size = 3 ∧ (∀ v ∈ v_29_2.toList, storable v) ∧ ∃ c e, F (Addr.mk b8 0 none).block = some (.cells c e (0, 0)) ∧ (Addr.mk b8 0 none).spot = none ∧ (Addr.mk b8 0 none).off + 3 ≤ c.size ∧
 atF (F.set (Addr.mk b8 0 none).block (.cells (wr c (Addr.mk b8 0 none).off v_29_2.toList) e)) fun F =>
 (((!v_29_3) = true →
  R (.bool false) F) ∧
 ((!v_29_3) = false →
  (∃ (I2 : Nat → Option Addr → Int → PH → Prop) (m2 : Nat), I2 m2 v_29_1 0 F ∧ ∀ m2 s_7_1 i_10 F, I2 m2 s_7_1 i_10 F →
   b9L2 (nx2 I2 m2) l_1 v_25 v_29 b8 R s_7_1 i_10 F)))
theorem c9 {n_0 : Int} {l_1 : Sl} {R : VP} {F : PH} (h : b9 n_0 l_1 R F) : Spec prog 9 #[(.int .u8 n_0), (Sl.v l_1)] F R := by
 refine spec_of (args := [(.int .u8 n_0), (Sl.v l_1)]) func9 rfl ntmps9 rfl ?_
 unfold b9 at h
 refine cR (sR (.bool false) (r_assign rfl rfl) ?_)
 refine HL_nil ?_
 refine cR ?_
 refine s_ef (k_call (vs := []) cb10 evN (h.mono ?_))
 clear h; rintro v F ⟨v_25, rfl, h⟩
 refine sR (.bool v_25) (r_assign rfl rfl) ?_
 refine HL_nil ?_
 refine cR (sR (.int .u8 n_0) (r_move rfl rfl) ?_)
 refine s_ef (k_call (vs := [(.int .u8 n_0)]) cb12 (evC rfl evN) (h.mono ?_))
 clear h; rintro v F ⟨v_28, rfl, h⟩
 refine s_ef (k_call (vs := [(.int .i64 v_28)]) cb11 (evC rfl evN) (h.mono ?_))
 clear h; rintro v F ⟨v_29, v_29_1, v_29_2, v_29_3, rfl, h⟩
 refine sR (.tuple #[(.pointer v_29), (.pointer v_29_1), (.agg v_29_2), (.bool v_29_3)]) (r_move rfl rfl) ?_
 refine sR (.pointer v_29) (r_extract rfl rfl rfl) ?_
 refine sR (.pointer v_29_1) (r_extract rfl rfl rfl) ?_
 refine sR (.agg v_29_2) (r_extract rfl rfl rfl) ?_
 refine sR (.bool v_29_3) (r_extract rfl rfl rfl) ?_
 refine s_ef (k_alloc zr28 ?_)
 intro b8 hf_b8
 replace h := atE (h b8 hf_b8)
 refine sR (.pointer v_29) (r_assign rfl rfl) ?_
 refine sR (.pointer v_29_1) (r_assign rfl rfl) ?_
 refine s_ef0 (k_storeN (vs := v_29_2) rfl rfl sz28 (by decide) ?_)
 obtain ⟨hz1, hz2, c, e, hz3, hz4, hz5, h⟩ := h
 refine ⟨hz1, hz2, c, e, hz3, hz4, hz5, ?_⟩
 replace h := atE h
 refine sR (.bool v_29_3) (r_assign rfl rfl) ?_
 refine HL_nil ?_
 refine HC_seq ?_
 refine cR (sR (.bool v_29_3) (r_move rfl rfl) ?_)
 refine sR (.bool (!v_29_3)) (r_not rfl rfl) ?_
 refine HL_nil ?_
 refine HC_cond (t := (!v_29_3)) rfl (fun hc => ?_) (fun hc => ?_)
 replace h := h.1 hc
 clear hc
 refine cR (sR (.bool false) (r_assign rfl rfl) ?_)
 exact HL_nil (HC_ret (rt1 f9 R rfl rfl h))
 replace h := h.2 hc
 clear hc
 refine HC_skip ?_
 refine HC_seqJ (b9J1 v_25 v_29 R) ?_ ?_
 clear h; rintro E F ⟨s_7, h5, h6, h7, h⟩
 unfold b9j1 at h
 refine cR (sR _ (r_move rfl h6) ?_)
 refine s_ef (k_call (vs := [(.pointer v_29)]) cb36 (evC rfl evN) (h.mono ?_))
 clear h; rintro v F ⟨v_60, rfl, h⟩
 refine sR (.pointer v_60) (r_assign rfl rfl) ?_
 refine HL_nil ?_
 refine cR (sR _ (r_move rfl h6) ?_)
 refine s_ef (k_call (vs := [(.pointer v_29)]) cb37 (evC rfl evN) (h.mono ?_))
 clear h; rintro v F ⟨v_62, rfl, h⟩
 refine sR (.int .i64 v_62) (r_assign rfl rfl) ?_
 refine HL_nil ?_
 refine cR (sR _ (r_move rfl h6) ?_)
 refine s_ef (k_call (vs := [(.pointer v_29)]) cb20 (evC rfl evN) (h.mono ?_))
 clear h; rintro v F ⟨v_65, v_65_1, rfl, h⟩
 refine sR (.tuple #[(.pointer v_65), (.int .i64 v_65_1)]) (r_move rfl rfl) ?_
 refine sR (.pointer v_65) (r_extract rfl rfl rfl) ?_
 refine sR (.int .i64 v_65_1) (r_extract rfl rfl rfl) ?_
 refine sR (.pointer v_65) (r_assign rfl rfl) ?_
 refine sR (.int .i64 v_65_1) (r_assign rfl rfl) ?_
 refine HL_nil ?_
 refine cR (sR _ (r_move rfl h6) ?_)
 refine s_ef (k_call (vs := [(.pointer v_29)]) cb20 (evC rfl evN) (h.mono ?_))
 clear h; rintro v F ⟨v_70, v_70_1, rfl, h⟩
 refine sR (.tuple #[(.pointer v_70), (.int .i64 v_70_1)]) (r_move rfl rfl) ?_
 refine sR (.pointer v_70) (r_extract rfl rfl rfl) ?_
 refine sR (.int .i64 v_70_1) (r_extract rfl rfl rfl) ?_
 refine sR (.pointer v_70) (r_assign rfl rfl) ?_
 refine sR (.int .i64 v_70_1) (r_assign rfl rfl) ?_
 refine HL_nil ?_
 refine cR (sR (.pointer v_60) (r_move rfl rfl) ?_)
 refine s_ef (k_call (vs := [(.pointer v_60)]) cb20 (evC rfl evN) (h.mono ?_))
 clear h; rintro v F ⟨v_75, v_75_1, rfl, h⟩
 refine sR (.tuple #[(.pointer v_75), (.int .i64 v_75_1)]) (r_move rfl rfl) ?_
 refine sR (.pointer v_75) (r_extract rfl rfl rfl) ?_
 refine sR (.int .i64 v_75_1) (r_extract rfl rfl rfl) ?_
 refine sR (.pointer v_75) (r_assign rfl rfl) ?_
 refine sR (.int .i64 v_75_1) (r_assign rfl rfl) ?_
 refine HL_nil ?_
 refine HC_seq ?_
 refine cR (sR (.int .i64 v_65_1) (r_move rfl rfl) ?_)
 refine sR (.bool (decide (v_65_1 ≠ 0))) (w_neq rfl rfl) ?_
 refine sR (.bool (decide (v_65_1 ≠ 0))) (r_move rfl rfl) ?_
 by_cases hc : v_65_1 ≠ 0
 replace h := h.1 hc
 refine kN 79 (decide_eq_true hc) ?_
 refine kN 80 (decide_eq_true hc) ?_
 iterate 2 refine s_skip ?_
 refine sR (.bool true) (r_pt rfl rfl) ?_
 refine sR (.bool true) (r_move rfl rfl) ?_
 iterate 2 refine s_skip ?_
 refine sR (.bool true) (r_pt rfl rfl) ?_
 refine sR (.bool true) (r_move rfl rfl) ?_
 iterate 4 refine s_skip ?_
 refine sR (.bool true) (r_pt rfl rfl) ?_
 refine HL_nil ?_
 refine HC_condT rfl ?_
 refine cR (sR (.bool false) (r_assign rfl rfl) ?_)
 exact HL_nil (HC_ret (rt1 f9 R rfl rfl h))
 replace h := h.2 hc
 refine kN 79 (decide_eq_false hc) ?_
 refine kN 80 (decide_eq_false hc) ?_
 refine sR (.int .i64 v_70_1) (r_move rfl rfl) ?_
 refine sR (.bool (decide (v_70_1 ≠ 0))) (w_neq rfl rfl) ?_
 refine sR (.bool (decide (v_70_1 ≠ 0))) (r_pf rfl rfl) ?_
 refine sR (.bool (decide (v_70_1 ≠ 0))) (r_move rfl rfl) ?_
 by_cases hc : v_70_1 ≠ 0
 replace h := h.1 hc
 refine kN 82 (decide_eq_true hc) ?_
 refine kN 83 (decide_eq_true hc) ?_
 refine kN 84 (decide_eq_true hc) ?_
 iterate 2 refine s_skip ?_
 refine sR (.bool true) (r_pt rfl rfl) ?_
 refine sR (.bool true) (r_move rfl rfl) ?_
 iterate 4 refine s_skip ?_
 refine sR (.bool true) (r_pt rfl rfl) ?_
 refine HL_nil ?_
 refine HC_condT rfl ?_
 refine cR (sR (.bool false) (r_assign rfl rfl) ?_)
 exact HL_nil (HC_ret (rt1 f9 R rfl rfl h))
 replace h := h.2 hc
 refine kN 82 (decide_eq_false hc) ?_
 refine kN 83 (decide_eq_false hc) ?_
 refine kN 84 (decide_eq_false hc) ?_
 refine sR (.int .i64 v_75_1) (r_move rfl rfl) ?_
 refine sR (.bool (decide (v_75_1 ≠ 0))) (w_neq rfl rfl) ?_
 refine sR (.bool (decide (v_75_1 ≠ 0))) (r_pf rfl rfl) ?_
 refine sR (.bool (decide (v_75_1 ≠ 0))) (r_move rfl rfl) ?_
 by_cases hc : v_75_1 ≠ 0
 replace h := h.1 hc
 refine kN 86 (decide_eq_true hc) ?_
 refine kN 87 (decide_eq_true hc) ?_
 refine kN 88 (decide_eq_true hc) ?_
 iterate 4 refine s_skip ?_
 refine sR (.bool true) (r_pt rfl rfl) ?_
 refine HL_nil ?_
 refine HC_condT rfl ?_
 refine cR (sR (.bool false) (r_assign rfl rfl) ?_)
 exact HL_nil (HC_ret (rt1 f9 R rfl rfl h))
 replace h := h.2 hc
 refine kN 86 (decide_eq_false hc) ?_
 refine kN 87 (decide_eq_false hc) ?_
 refine kN 88 (decide_eq_false hc) ?_
 refine sR _ (r_move rfl h6) ?_
 refine s_ef (k_call (vs := [(.pointer v_29)]) cb37 (evC rfl evN) (h.mono ?_))
 clear h; rintro v F ⟨v_90, rfl, h⟩
 refine sR (.int .i64 v_62) (r_move rfl rfl) ?_
 refine sR (.bool (decide (v_90 ≠ v_62))) (w_neq rfl rfl) ?_
 refine sR (.bool (decide (v_90 ≠ v_62))) (r_pf rfl rfl) ?_
 refine HL_nil ?_
 refine HC_cond (t := (decide (v_90 ≠ v_62))) rfl (fun hc => ?_) (fun hc => ?_)
 replace h := h.1 (of_decide_eq_true hc)
 clear hc
 refine cR (sR (.bool false) (r_assign rfl rfl) ?_)
 exact HL_nil (HC_ret (rt1 f9 R rfl rfl h))
 replace h := h.2 (of_decide_eq_false hc)
 clear hc
 refine HC_skip ?_
 refine HC_seqJ (b9J2 v_25 s_7 v_65 v_70 v_75 R) ?_ ?_
 clear h; rintro E F ⟨h5, h7, h13, h15, h17, h⟩
 unfold b9j2 at h
 refine cR (sR _ (r_move rfl h7) ?_)
 refine s_ef (k_call (vs := [(.pointer s_7)]) cb17 (evC rfl evN) (h.mono ?_))
 clear h; rintro v F ⟨v_126, rfl, h⟩
 refine sR (Sl.v v_126) (r_assign rfl rfl) ?_
 refine HL_nil ?_
 refine cR (sR _ (r_move rfl h13) ?_)
 refine s_ef (k_call (vs := [(.pointer v_65)]) cb17 (evC rfl evN) (h.mono ?_))
 clear h; rintro v F ⟨v_128, rfl, h⟩
 refine sR (Sl.v v_126) (r_move rfl rfl) ?_
 refine s_ef (k_call (vs := [(Sl.v v_128), (Sl.v v_126)]) cb21 (evC rfl (evC rfl evN)) (h.mono ?_))
 clear h; rintro v F ⟨v_130, rfl, h⟩
 refine sR (.bool v_130) (r_move rfl rfl) ?_
 by_cases hc : v_130 = true
 replace h := h.1 hc
 refine kN 130 hc ?_
 refine kN 131 hc ?_
 refine sR _ (r_move rfl h15) ?_
 refine s_ef (k_call (vs := [(.pointer v_70)]) cb17 (evC rfl evN) (h.mono ?_))
 clear h; rintro v F ⟨v_133, rfl, h⟩
 refine sR (Sl.v v_126) (r_move rfl rfl) ?_
 refine s_ef (k_call (vs := [(Sl.v v_133), (Sl.v v_126)]) cb21 (evC rfl (evC rfl evN)) (h.mono ?_))
 clear h; rintro v F ⟨v_135, rfl, h⟩
 refine sR (.bool v_135) (r_pt rfl rfl) ?_
 refine sR (.bool v_135) (r_move rfl rfl) ?_
 by_cases hc : v_135 = true
 replace h := h.1 hc
 refine kN 135 hc ?_
 refine kN 136 hc ?_
 refine kN 137 hc ?_
 refine sR _ (r_move rfl h17) ?_
 refine s_ef (k_call (vs := [(.pointer v_75)]) cb17 (evC rfl evN) (h.mono ?_))
 clear h; rintro v F ⟨v_139, rfl, h⟩
 refine sR (Sl.v v_126) (r_move rfl rfl) ?_
 refine s_ef (k_call (vs := [(Sl.v v_139), (Sl.v v_126)]) cb21 (evC rfl (evC rfl evN)) (h.mono ?_))
 clear h; rintro v F ⟨v_141, rfl, h⟩
 refine sR (.bool v_141) (r_pt rfl rfl) ?_
 refine sR (.bool v_141) (r_move rfl rfl) ?_
 by_cases hc : v_141 = true
 replace h := h.1 hc
 refine kN 141 hc ?_
 refine kN 142 hc ?_
 refine kN 143 hc ?_
 refine sR _ (r_move rfl h13) ?_
 refine s_ef (k_call (vs := [(.pointer v_65)]) cb18 (evC rfl evN) (h.mono ?_))
 clear h; rintro v F ⟨v_145, rfl, h⟩
 refine sR _ (r_move rfl h7) ?_
 refine s_ef (k_call (vs := [(.pointer s_7)]) cb18 (evC rfl evN) (h.mono ?_))
 clear h; rintro v F ⟨v_147, rfl, h⟩
 refine sR (.bool (decide (v_145 = v_147))) (w_eql rfl rfl) ?_
 refine sR (.bool (decide (v_145 = v_147))) (r_pt rfl rfl) ?_
 refine sR (.bool (decide (v_145 = v_147))) (r_move rfl rfl) ?_
 by_cases hc : v_145 = v_147
 replace h := h.1 hc
 refine kN 148 (decide_eq_true hc) ?_
 refine kN 149 (decide_eq_true hc) ?_
 refine kN 150 (decide_eq_true hc) ?_
 refine sR _ (r_move rfl h15) ?_
 refine s_ef (k_call (vs := [(.pointer v_70)]) cb18 (evC rfl evN) (h.mono ?_))
 clear h; rintro v F ⟨v_152, rfl, h⟩
 refine sR _ (r_move rfl h7) ?_
 refine s_ef (k_call (vs := [(.pointer s_7)]) cb18 (evC rfl evN) (h.mono ?_))
 clear h; rintro v F ⟨v_154, rfl, h⟩
 refine sR (.bool (decide (v_152 = v_154))) (w_eql rfl rfl) ?_
 refine sR (.bool (decide (v_152 = v_154))) (r_pt rfl rfl) ?_
 refine sR (.bool (decide (v_152 = v_154))) (r_move rfl rfl) ?_
 by_cases hc : v_152 = v_154
 replace h := h.1 hc
 refine kN 155 (decide_eq_true hc) ?_
 refine kN 156 (decide_eq_true hc) ?_
 refine kN 157 (decide_eq_true hc) ?_
 refine sR _ (r_move rfl h17) ?_
 refine s_ef (k_call (vs := [(.pointer v_75)]) cb18 (evC rfl evN) (h.mono ?_))
 clear h; rintro v F ⟨v_159, rfl, h⟩
 refine sR _ (r_move rfl h7) ?_
 refine s_ef (k_call (vs := [(.pointer s_7)]) cb18 (evC rfl evN) (h.mono ?_))
 clear h; rintro v F ⟨v_161, rfl, h⟩
 refine sR (.bool (decide (v_159 = v_161))) (w_eql rfl rfl) ?_
 refine sR (.bool (decide (v_159 = v_161))) (r_pt rfl rfl) ?_
 refine sR (.bool (decide (v_159 = v_161))) (r_move rfl rfl) ?_
 by_cases hc : v_159 = v_161
 replace h := h.1 hc
 refine kN 162 (decide_eq_true hc) ?_
 refine kN 163 (decide_eq_true hc) ?_
 refine kN 164 (decide_eq_true hc) ?_
 refine sR _ (r_move rfl h5) ?_
 refine sR (.bool v_25) (r_pt rfl rfl) ?_
 refine sR (.bool v_25) (r_assign rfl rfl) ?_
 exact HL_nil (HC_ret (rt1 f9 R rfl rfl h))
 replace h := h.2 hc
 refine kN 162 (decide_eq_false hc) ?_
 refine kN 163 (decide_eq_false hc) ?_
 refine kN 164 (decide_eq_false hc) ?_
 refine s_skip ?_
 refine sR (.bool false) (r_pf rfl rfl) ?_
 refine sR (.bool false) (r_assign rfl rfl) ?_
 exact HL_nil (HC_ret (rt1 f9 R rfl rfl h))
 replace h := h.2 hc
 refine kN 155 (decide_eq_false hc) ?_
 refine kN 156 (decide_eq_false hc) ?_
 refine kN 157 (decide_eq_false hc) ?_
 iterate 5 refine s_skip ?_
 refine sR (.bool false) (r_pf rfl rfl) ?_
 refine sR (.bool false) (r_move rfl rfl) ?_
 refine s_skip ?_
 refine sR (.bool false) (r_pf rfl rfl) ?_
 refine sR (.bool false) (r_assign rfl rfl) ?_
 exact HL_nil (HC_ret (rt1 f9 R rfl rfl h))
 replace h := h.2 hc
 refine kN 148 (decide_eq_false hc) ?_
 refine kN 149 (decide_eq_false hc) ?_
 refine kN 150 (decide_eq_false hc) ?_
 iterate 5 refine s_skip ?_
 refine sR (.bool false) (r_pf rfl rfl) ?_
 refine sR (.bool false) (r_move rfl rfl) ?_
 iterate 5 refine s_skip ?_
 refine sR (.bool false) (r_pf rfl rfl) ?_
 refine sR (.bool false) (r_move rfl rfl) ?_
 refine s_skip ?_
 refine sR (.bool false) (r_pf rfl rfl) ?_
 refine sR (.bool false) (r_assign rfl rfl) ?_
 exact HL_nil (HC_ret (rt1 f9 R rfl rfl h))
 replace hc := eq_false_of_ne_true hc; replace h := h.2 hc
 refine kN 141 hc ?_
 refine kN 142 hc ?_
 refine kN 143 hc ?_
 iterate 5 refine s_skip ?_
 refine sR (.bool false) (r_pf rfl rfl) ?_
 refine sR (.bool false) (r_move rfl rfl) ?_
 iterate 5 refine s_skip ?_
 refine sR (.bool false) (r_pf rfl rfl) ?_
 refine sR (.bool false) (r_move rfl rfl) ?_
 iterate 5 refine s_skip ?_
 refine sR (.bool false) (r_pf rfl rfl) ?_
 refine sR (.bool false) (r_move rfl rfl) ?_
 refine s_skip ?_
 refine sR (.bool false) (r_pf rfl rfl) ?_
 refine sR (.bool false) (r_assign rfl rfl) ?_
 exact HL_nil (HC_ret (rt1 f9 R rfl rfl h))
 replace hc := eq_false_of_ne_true hc; replace h := h.2 hc
 refine kN 135 hc ?_
 refine kN 136 hc ?_
 refine kN 137 hc ?_
 iterate 4 refine s_skip ?_
 refine sR (.bool false) (r_pf rfl rfl) ?_
 refine sR (.bool false) (r_move rfl rfl) ?_
 iterate 5 refine s_skip ?_
 refine sR (.bool false) (r_pf rfl rfl) ?_
 refine sR (.bool false) (r_move rfl rfl) ?_
 iterate 5 refine s_skip ?_
 refine sR (.bool false) (r_pf rfl rfl) ?_
 refine sR (.bool false) (r_move rfl rfl) ?_
 iterate 5 refine s_skip ?_
 refine sR (.bool false) (r_pf rfl rfl) ?_
 refine sR (.bool false) (r_move rfl rfl) ?_
 refine s_skip ?_
 refine sR (.bool false) (r_pf rfl rfl) ?_
 refine sR (.bool false) (r_assign rfl rfl) ?_
 exact HL_nil (HC_ret (rt1 f9 R rfl rfl h))
 replace hc := eq_false_of_ne_true hc; replace h := h.2 hc
 refine kN 130 hc ?_
 refine kN 131 hc ?_
 iterate 4 refine s_skip ?_
 refine sR (.bool false) (r_pf rfl rfl) ?_
 refine sR (.bool false) (r_move rfl rfl) ?_
 iterate 4 refine s_skip ?_
 refine sR (.bool false) (r_pf rfl rfl) ?_
 refine sR (.bool false) (r_move rfl rfl) ?_
 iterate 5 refine s_skip ?_
 refine sR (.bool false) (r_pf rfl rfl) ?_
 refine sR (.bool false) (r_move rfl rfl) ?_
 iterate 5 refine s_skip ?_
 refine sR (.bool false) (r_pf rfl rfl) ?_
 refine sR (.bool false) (r_move rfl rfl) ?_
 iterate 5 refine s_skip ?_
 refine sR (.bool false) (r_pf rfl rfl) ?_
 refine sR (.bool false) (r_move rfl rfl) ?_
 refine s_skip ?_
 refine sR (.bool false) (r_pf rfl rfl) ?_
 refine sR (.bool false) (r_assign rfl rfl) ?_
 exact HL_nil (HC_ret (rt1 f9 R rfl rfl h))
 refine cR (sR (.int .i64 0) (r_assign rfl rfl) ?_)
 refine HL_nil ?_
 refine HC_block ?_
 obtain ⟨I1, m1, hI0, hr⟩ := h
 refine HC_loop (fun m1 E F => ∃ i_19 : Int, E 5 = (.bool v_25) ∧ E 6 = (.pointer v_29) ∧ E 7 = (.pointer s_7) ∧ E 11 = (.pointer v_60) ∧ E 13 = (.pointer v_65) ∧ E 15 = (.pointer v_70) ∧ E 17 = (.pointer v_75) ∧ E 19 = (.int .i64 i_19) ∧ I1 m1 i_19 F) m1 ⟨_, h5, h6, h7, rfl, rfl, rfl, rfl, rfl, hI0⟩ ?_
 clear hI0; rintro m1 E F ⟨i_19, h5, h6, h7, h11, h13, h15, h17, h19, hI⟩
 have h := hr m1 i_19 F hI
 clear hr hI
 unfold b9L1 at h
 refine HC_seq ?_
 refine cR (sR _ (r_move rfl h19) ?_)
 refine sR _ (r_move rfl h6) ?_
 refine s_ef (k_call (vs := [(.pointer v_29)]) cb28 (evC rfl evN) (h.mono ?_))
 clear h; rintro v F ⟨v_96, rfl, h⟩
 refine sR (.bool (decide (i_19 < v_96))) (r_lss rfl rfl rfl) ?_
 refine HL_nil ?_
 refine HC_cond (t := (decide (i_19 < v_96))) rfl (fun hc => ?_) (fun hc => ?_)
 replace h := h.1 (of_decide_eq_true hc)
 clear hc
 refine HC_skip ?_
 refine HC_seq ?_
 refine HC_block ?_
 refine cR (sR _ (r_move rfl h6) ?_)
 refine sR _ (r_move rfl h19) ?_
 refine s_ef (k_call (vs := [(.pointer v_29), (.int .i64 i_19)]) cb38 (evC rfl (evC rfl evN)) (h.mono ?_))
 clear h; rintro v F ⟨v_103, v_103_1, rfl, h⟩
 refine sR (.tuple #[(Sl.v v_103), (.int .i64 v_103_1)]) (r_move rfl rfl) ?_
 refine sR (Sl.v v_103) (r_extract rfl rfl rfl) ?_
 refine sR (.int .i64 v_103_1) (r_extract rfl rfl rfl) ?_
 refine sR (Sl.v v_103) (r_assign rfl rfl) ?_
 refine sR (.int .i64 v_103_1) (r_assign rfl rfl) ?_
 refine HL_nil ?_
 refine cR (sR _ (r_move rfl h11) ?_)
 refine sR _ (r_move rfl h19) ?_
 refine s_ef (k_call (vs := [(.pointer v_60), (.int .i64 i_19)]) cb38 (evC rfl (evC rfl evN)) (h.mono ?_))
 clear h; rintro v F ⟨v_109, v_109_1, rfl, h⟩
 refine sR (.tuple #[(Sl.v v_109), (.int .i64 v_109_1)]) (r_move rfl rfl) ?_
 refine sR (Sl.v v_109) (r_extract rfl rfl rfl) ?_
 refine sR (.int .i64 v_109_1) (r_extract rfl rfl rfl) ?_
 refine sR (Sl.v v_109) (r_assign rfl rfl) ?_
 refine sR (.int .i64 v_109_1) (r_assign rfl rfl) ?_
 refine HL_nil ?_
 refine cR (sR (.int .i64 v_103_1) (r_move rfl rfl) ?_)
 refine sR (.bool (decide (v_103_1 ≠ 0))) (w_neq rfl rfl) ?_
 refine sR (.bool (decide (v_103_1 ≠ 0))) (r_move rfl rfl) ?_
 by_cases hc : v_103_1 ≠ 0
 replace h := h.1 hc
 refine kN 113 (decide_eq_true hc) ?_
 refine kN 114 (decide_eq_true hc) ?_
 iterate 2 refine s_skip ?_
 refine sR (.bool true) (r_pt rfl rfl) ?_
 refine sR (.bool true) (r_move rfl rfl) ?_
 iterate 5 refine s_skip ?_
 refine sR (.bool true) (r_pt rfl rfl) ?_
 refine HL_nil ?_
 refine HC_condT rfl ?_
 refine cR (sR (.bool false) (r_assign rfl rfl) ?_)
 exact HL_nil (HC_ret (rt1 f9 R rfl rfl h))
 replace h := h.2 hc
 refine kN 113 (decide_eq_false hc) ?_
 refine kN 114 (decide_eq_false hc) ?_
 refine sR (.int .i64 v_109_1) (r_move rfl rfl) ?_
 refine sR (.bool (decide (v_109_1 ≠ 0))) (w_neq rfl rfl) ?_
 refine sR (.bool (decide (v_109_1 ≠ 0))) (r_pf rfl rfl) ?_
 refine sR (.bool (decide (v_109_1 ≠ 0))) (r_move rfl rfl) ?_
 by_cases hc : v_109_1 ≠ 0
 replace h := h.1 hc
 refine kN 116 (decide_eq_true hc) ?_
 refine kN 117 (decide_eq_true hc) ?_
 refine kN 118 (decide_eq_true hc) ?_
 iterate 5 refine s_skip ?_
 refine sR (.bool true) (r_pt rfl rfl) ?_
 refine HL_nil ?_
 refine HC_condT rfl ?_
 refine cR (sR (.bool false) (r_assign rfl rfl) ?_)
 exact HL_nil (HC_ret (rt1 f9 R rfl rfl h))
 replace h := h.2 hc
 refine kN 116 (decide_eq_false hc) ?_
 refine kN 117 (decide_eq_false hc) ?_
 refine kN 118 (decide_eq_false hc) ?_
 refine sR (Sl.v v_103) (r_move rfl rfl) ?_
 obtain ⟨v_120, hc120, h⟩ := h
 refine sR (.string v_120) (r_convBS rfl rfl underlying39 underlying9 underlying5 ⟨_, _, _, rfl⟩ hc120) ?_
 refine sR (Sl.v v_109) (r_move rfl rfl) ?_
 obtain ⟨v_122, hc122, h⟩ := h
 refine sR (.string v_122) (r_convBS rfl rfl underlying39 underlying9 underlying5 ⟨_, _, _, rfl⟩ hc122) ?_
 refine sR (.bool (!(v_120.toList == v_122.toList))) (r_neqS rfl rfl rfl) ?_
 refine sR (.bool (!(v_120.toList == v_122.toList))) (r_pf rfl rfl) ?_
 refine HL_nil ?_
 refine HC_cond (t := (!(v_120.toList == v_122.toList))) rfl (fun hc => ?_) (fun hc => ?_)
 replace h := h.1 hc
 clear hc
 refine cR (sR (.bool false) (r_assign rfl rfl) ?_)
 exact HL_nil (HC_ret (rt1 f9 R rfl rfl h))
 replace h := h.2 hc
 clear hc
 refine HC_skip ?_
 refine HC_region ?_
 refine sR _ (r_move rfl h19) ?_
 refine sR (.int .i64 (IntKind.i64.wrap (i_19 + 1))) (r_add rfl rfl rfl) ?_
 refine sR (.int .i64 (IntKind.i64.wrap (i_19 + 1))) (r_assign rfl rfl) ?_
 refine HL_nil ?_
 obtain ⟨m', hm, h⟩ := h
 exact ⟨m', hm, _, h5, h6, h7, h11, h13, h15, h17, rfl, h⟩
 replace h := h.2 (of_decide_eq_false hc)
 clear hc
 refine HC_exit ?_
 show b9J2 v_25 s_7 v_65 v_70 v_75 R _ _
 exact ⟨h5, h7, h13, h15, h17, h⟩
 refine cR (sR (.int .i64 0) (r_assign rfl rfl) ?_)
 refine HL_nil ?_
 refine HC_block ?_
 obtain ⟨I2, m2, hI0, hr⟩ := h
 refine HC_loop (fun m2 E F => ∃ s_7_1 : Option Addr, ∃ i_10 : Int, E 1 = (Sl.v l_1) ∧ E 5 = (.bool v_25) ∧ E 6 = (.pointer v_29) ∧ E 7 = (.pointer s_7_1) ∧ E 8 = (.pointer (some (Addr.mk b8 0 none))) ∧ E 10 = (.int .i64 i_10) ∧ I2 m2 s_7_1 i_10 F) m2 ⟨_, _, rfl, rfl, rfl, rfl, rfl, rfl, hI0⟩ ?_
 clear hI0; rintro m2 E F ⟨s_7_1, i_10, h1, h5, h6, h7, h8, h10, hI⟩
 have h := hr m2 s_7_1 i_10 F hI
 clear hr hI
 unfold b9L2 at h
 refine HC_seq ?_
 refine cR (sR _ (r_move rfl h10) ?_)
 refine sR _ (r_move rfl h1) ?_
 refine sR (.int .i64 (l_1.len : Int)) (r_lenSl rfl rfl underlying22) ?_
 refine sR (.bool (decide (i_10 < (l_1.len : Int)))) (r_lss rfl rfl rfl) ?_
 refine sR (.bool (decide (i_10 < (l_1.len : Int)))) (r_move rfl rfl) ?_
 by_cases hc : i_10 < (l_1.len : Int)
 replace h := h.1 hc
 refine kN 39 (decide_eq_true hc) ?_
 refine kN 40 (decide_eq_true hc) ?_
 refine sR _ (r_move rfl h10) ?_
 refine sR (.bool (decide (i_10 < 30))) (r_lss rfl rfl rfl) ?_
 refine sR (.bool (decide (i_10 < 30))) (r_pt rfl rfl) ?_
 refine HL_nil ?_
 refine HC_cond (t := (decide (i_10 < 30))) rfl (fun hc => ?_) (fun hc => ?_)
 replace h := h.1 (of_decide_eq_true hc)
 clear hc
 refine HC_skip ?_
 refine HC_seq ?_
 refine HC_block ?_
 refine HC_draw0 (by kernel_rfl) (fun hp => ?_)
 refine gU 0 (.pointer v_29) rfl (fun _ => r_move rfl h6) hp ?_
 refine gU 1 (.pointer s_7_1) rfl (fun _ => r_move rfl h7) hp ?_
 obtain ⟨v_49, hs49, hc49, h⟩ := h
 refine gR 2 (.agg v_49) rfl (w_loadN h8 underlying28 rfl sz28 hs49 hc49) hp (fun S2 q2 => ?_)
 replace hp := holdC (i := 2) (q2 _ (w_loadN h8 underlying28 rfl sz28 hs49 hc49)) hp
 refine gU 3 (Sl.v l_1) rfl (fun _ => r_move rfl h1) hp ?_
 refine gU 4 (.int .i64 i_10) rfl (fun _ => r_move rfl h10) hp ?_
 obtain ⟨a52_, hb52, hl52, hu52, h⟩ := h
 refine gU 5 (.pointer (some (Addr.add a52_ (Int.toNat i_10 * 2)))) rfl (fun _ => w_indexAddr rfl rfl underlying22 sz38 hb52 hl52 hu52) hp ?_
 obtain ⟨v_53, hs53, hc53, h⟩ := h
 refine gR 6 (.agg v_53) rfl (w_loadN rfl underlying38 rfl sz38 hs53 hc53) hp (fun S6 q6 => ?_)
 replace hp := holdC (i := 6) (q6 _ (w_loadN rfl underlying38 rfl sz38 hs53 hc53)) hp
 refine RG_eff1 (i := 7) (by kernel_rfl) (g_op (Sp' := []) rfl rfl (k_call (vs := [(.pointer v_29), (.pointer s_7_1), (.agg v_49), (.agg v_53)]) cb14 (evC rfl (evC rfl (evC rfl (evC rfl evN)))) (h.mono ?_)))
 clear h; rintro v F ⟨v_54, v_54_1, v_54_2, v_54_3, rfl, h⟩
 refine holdI hold0 (fun hp => ?_)
 refine gU 8 (.tuple #[(.pointer v_54), (.agg v_54_1), (.int .i64 v_54_2), (.bool v_54_3)]) rfl (fun _ => r_move rfl rfl) hp ?_
 refine gU 9 (.pointer v_54) rfl (fun _ => r_extract rfl rfl rfl) hp ?_
 refine gU 10 (.agg v_54_1) rfl (fun _ => r_extract rfl rfl rfl) hp ?_
 refine gU 11 (.int .i64 v_54_2) rfl (fun _ => r_extract rfl rfl rfl) hp ?_
 refine gU 12 (.bool v_54_3) rfl (fun _ => r_extract rfl rfl rfl) hp ?_
 refine gU 13 (.pointer v_54) rfl (fun _ => r_assign rfl rfl) hp ?_
 refine RG_eff1 (i := 14) (by kernel_rfl) (g_op0 (Sp' := []) rfl rfl (k_storeN (vs := v_54_1) h8 rfl sz28 (by decide) ?_))
 obtain ⟨hz1, hz2, c, e, hz3, hz4, hz5, h⟩ := h
 refine ⟨hz1, hz2, c, e, hz3, hz4, hz5, ?_⟩
 replace h := atE h
 refine holdI hold0 (fun hp => ?_)
 refine RG_done (by kernel_rfl) ?_
 refine HC_region ?_
 refine sR _ (r_move rfl h10) ?_
 refine sR (.int .i64 (IntKind.i64.wrap (i_10 + 1))) (r_add rfl rfl rfl) ?_
 refine sR (.int .i64 (IntKind.i64.wrap (i_10 + 1))) (r_assign rfl rfl) ?_
 refine HL_nil ?_
 obtain ⟨m', hm, h⟩ := h
 exact ⟨m', hm, _, _, h1, h5, h6, rfl, h8, rfl, h⟩
 replace h := h.2 (of_decide_eq_false hc)
 clear hc
 refine HC_exit ?_
 show b9J1 v_25 v_29 R _ _
 exact ⟨_, h5, h6, h7, h⟩
 replace h := h.2 hc
 refine kN 39 (decide_eq_false hc) ?_
 refine kN 40 (decide_eq_false hc) ?_
 iterate 2 refine s_skip ?_
 refine sR (.bool false) (r_pf rfl rfl) ?_
 refine HL_nil ?_
 refine HC_condF rfl ?_
 refine HC_exit ?_
 show b9J1 v_25 v_29 R _ _
 exact ⟨_, h5, h6, h7, h⟩
end Go.Proofs.Ytelkfnmdnbbniaa
