/-
  What functions of the program do, in a clean form, each with the proof that its code does so. Printed by a program.
-/
import Derived.Test.YtnjcgpihfmklfaaDoorGf
import Derived.Test.YtnjcgpihfmklfaaDoorPhp
namespace Go.Proofs.YtnjcgpihfmklfaaDoor
open Go Go.Proofs.Tryd
set_option maxRecDepth 10000
set_option maxHeartbeats 4000000
/- 86 koine.koineref04.enter -/
def b86 (p_0 : Sl) (i_1 : Int) (l_2 : Sl) (R : VP) (F : PH) :=
 ∃ a12_ : Addr, p_0.base = some a12_ ∧ 0 ≤ i_1 ∧ i_1 < (p_0.len : Int) ∧
 ∃ v_13 : Array Value, v_13.size = 5 ∧ F.row (Addr.add a12_ (Int.toNat i_1 * 5)) v_13 ∧
 ∀ b7, F b7 = none → atF (F.set b7 (.cells (#[.int .i64 0, .int .i64 0, .int .i64 0, .int .i64 0, .int .i64 0]) 50)) fun F =>
 v_13.size = 5 ∧ (∀ v ∈ v_13.toList, storable v) ∧ ∃ c e, F (Addr.mk b7 0 none).block = some (.cells c e (0, 0)) ∧ (Addr.mk b7 0 none).spot = none ∧ (Addr.mk b7 0 none).off + 5 ≤ c.size ∧
 atF (F.set (Addr.mk b7 0 none).block (.cells (wr c (Addr.mk b7 0 none).off v_13.toList) e)) fun F =>
 ∃ v_15 : Int, F.cell (Addr.mk b7 0 none) = some (.int .i64 v_15) ∧
 ((v_15 = 0 →
  R (.bool true) F) ∧
 (¬ (v_15 = 0) →
  ((v_15 = 1 →
   ∃ a22_ : Addr, l_2.base = some a22_ ∧ 0 ≤ i_1 ∧ i_1 < (l_2.len : Int) ∧
   ∃ c e, F (Addr.add a22_ (Int.toNat i_1 * 1)).block = some (.cells c e (0, 0)) ∧ (Addr.add a22_ (Int.toNat i_1 * 1)).spot = none ∧ (Addr.add a22_ (Int.toNat i_1 * 1)).off < c.size ∧
   atF (F.set (Addr.add a22_ (Int.toNat i_1 * 1)).block (.cells (c.setIfInBounds (Addr.add a22_ (Int.toNat i_1 * 1)).off (.bool true)) e)) fun F =>
   R (.bool false) F) ∧
  (¬ (v_15 = 1) →
   ((v_15 = 2 →
    ∃ v_27 : Int, F.cell (Addr.mk b7 3 none) = some (.int .i64 v_27) ∧
    Spec prog 86 #[(Sl.v p_0), (.int .i64 v_27), (Sl.v l_2)] F fun v F => ∃ v_29 : Bool, v = (.bool v_29) ∧
    ((v_29 = true →
     ∃ v_33 : Int, F.cell (Addr.mk b7 4 none) = some (.int .i64 v_33) ∧
     Spec prog 86 #[(Sl.v p_0), (.int .i64 v_33), (Sl.v l_2)] F fun v F => ∃ v_35 : Bool, v = (.bool v_35) ∧
     R (.bool v_35) F) ∧
    (v_29 = false →
     R (.bool false) F))) ∧
   (¬ (v_15 = 2) →
    ((v_15 = 3 →
     ∃ v_41 : Int, F.cell (Addr.mk b7 3 none) = some (.int .i64 v_41) ∧
     Spec prog 86 #[(Sl.v p_0), (.int .i64 v_41), (Sl.v l_2)] F fun v F => ∃ v_43 : Bool, v = (.bool v_43) ∧
     ∃ v_46 : Int, F.cell (Addr.mk b7 4 none) = some (.int .i64 v_46) ∧
     Spec prog 86 #[(Sl.v p_0), (.int .i64 v_46), (Sl.v l_2)] F fun v F => ∃ v_48 : Bool, v = (.bool v_48) ∧
     ((v_43 = true →
      R (.bool true) F) ∧
     (v_43 = false →
      R (.bool v_48) F))) ∧
    (¬ (v_15 = 3) →
     ∃ v_55 : Int, F.cell (Addr.mk b7 3 none) = some (.int .i64 v_55) ∧
     Spec prog 86 #[(Sl.v p_0), (.int .i64 v_55), (Sl.v l_2)] F fun v F => ∃ v_57 : Bool, v = (.bool v_57) ∧
     R (.bool true) F))))))))
theorem c86 {p_0 : Sl} {i_1 : Int} {l_2 : Sl} {R : VP} {F : PH} (h : b86 p_0 i_1 l_2 R F) : Spec prog 86 #[(Sl.v p_0), (.int .i64 i_1), (Sl.v l_2)] F R := by
 refine spec_of (args := [(Sl.v p_0), (.int .i64 i_1), (Sl.v l_2)]) func86 rfl ntmps86 rfl ?_
 unfold b86 at h
 refine cR (sR (.bool false) (r_assign rfl rfl) ?_)
 refine HL_nil ?_
 refine cR (sR (Sl.v p_0) (r_move rfl rfl) ?_)
 refine sR (.int .i64 i_1) (r_move rfl rfl) ?_
 obtain ⟨a12_, hb12, hl12, hu12, h⟩ := h
 refine sR (.pointer (some (Addr.add a12_ (Int.toNat i_1 * 5)))) (w_indexAddr rfl rfl underlying25 sz50 hb12 hl12 hu12) ?_
 obtain ⟨v_13, hs13, hc13, h⟩ := h
 refine sR (.agg v_13) (w_loadN rfl underlying50 rfl sz50 hs13 hc13) ?_
 refine s_ef (k_alloc zr50 ?_)
 intro b7 hf_b7
 replace h := atE (h b7 hf_b7)
 refine s_ef0 (k_storeN (vs := v_13) rfl rfl sz50 (by decide) ?_)
 obtain ⟨hz1, hz2, c, e, hz3, hz4, hz5, h⟩ := h
 refine ⟨hz1, hz2, c, e, hz3, hz4, hz5, ?_⟩
 replace h := atE h
 refine HL_nil ?_
 refine HC_seq ?_
 refine cR (sR (.pointer (some (Addr.mk b7 0 none))) (w_fieldAddr rfl underlying50 rfl rfl sz3 rfl rfl) ?_)
 obtain ⟨v_15, hc15, h⟩ := h
 refine sR (.int .i64 v_15) (r_load1 rfl rfl underlying3 rfl hc15) ?_
 refine HL_nil ?_
 refine HC_block ?_
 refine cR (sR (.bool (decide (v_15 = 0))) (w_eql rfl rfl) ?_)
 refine sR (.bool (decide (v_15 = 0))) (r_assign rfl rfl) ?_
 refine HL_nil ?_
 refine HC_cond (t := (decide (v_15 = 0))) rfl (fun hc => ?_) (fun hc => ?_)
 replace h := h.1 (of_decide_eq_true hc)
 clear hc
 refine cR (sR (.bool true) (r_assign rfl rfl) ?_)
 exact HL_nil (HC_ret (rt1 f86 R rfl rfl h))
 replace h := h.2 (of_decide_eq_false hc)
 clear hc
 refine cR (sR (.bool (decide (v_15 = 1))) (w_eql rfl rfl) ?_)
 refine sR (.bool (decide (v_15 = 1))) (r_assign rfl rfl) ?_
 refine HL_nil ?_
 refine HC_cond (t := (decide (v_15 = 1))) rfl (fun hc => ?_) (fun hc => ?_)
 replace h := h.1 (of_decide_eq_true hc)
 clear hc
 refine cR (sR (Sl.v l_2) (r_move rfl rfl) ?_)
 refine sR (.int .i64 i_1) (r_move rfl rfl) ?_
 obtain ⟨a22_, hb22, hl22, hu22, h⟩ := h
 refine sR (.pointer (some (Addr.add a22_ (Int.toNat i_1 * 1)))) (w_indexAddr rfl rfl underlying69 sz4 hb22 hl22 hu22) ?_
 refine s_ef0 (k_store1 (v := (.bool true)) rfl rfl sz4 rfl st_bool ?_)
 obtain ⟨c, e, hz3, hz4, hz5, h⟩ := h
 refine ⟨c, e, hz3, hz4, hz5, ?_⟩
 replace h := atE h
 refine HL_nil ?_
 refine cR (sR (.bool false) (r_assign rfl rfl) ?_)
 exact HL_nil (HC_ret (rt1 f86 R rfl rfl h))
 replace h := h.2 (of_decide_eq_false hc)
 clear hc
 refine cR (sR (.bool (decide (v_15 = 2))) (w_eql rfl rfl) ?_)
 refine sR (.bool (decide (v_15 = 2))) (r_assign rfl rfl) ?_
 refine HL_nil ?_
 refine HC_cond (t := (decide (v_15 = 2))) rfl (fun hc => ?_) (fun hc => ?_)
 replace h := h.1 (of_decide_eq_true hc)
 clear hc
 refine cR (sR (Sl.v p_0) (r_move rfl rfl) ?_)
 refine sR (.pointer (some (Addr.mk b7 3 none))) (w_fieldAddr rfl underlying50 rfl rfl sz3 rfl rfl) ?_
 obtain ⟨v_27, hc27, h⟩ := h
 refine sR (.int .i64 v_27) (r_load1 rfl rfl underlying3 rfl hc27) ?_
 refine sR (Sl.v l_2) (r_move rfl rfl) ?_
 refine s_ef (k_call (vs := [(Sl.v p_0), (.int .i64 v_27), (Sl.v l_2)]) cb86 (evC rfl (evC rfl (evC rfl evN))) (h.mono ?_))
 clear h; rintro v F ⟨v_29, rfl, h⟩
 refine sR (.bool v_29) (r_move rfl rfl) ?_
 by_cases hc : v_29 = true
 replace h := h.1 hc
 refine kN 29 hc ?_
 refine kN 30 hc ?_
 refine sR (Sl.v p_0) (r_move rfl rfl) ?_
 refine sR (.pointer (some (Addr.mk b7 4 none))) (w_fieldAddr rfl underlying50 rfl rfl sz3 rfl rfl) ?_
 obtain ⟨v_33, hc33, h⟩ := h
 refine sR (.int .i64 v_33) (r_load1 rfl rfl underlying3 rfl hc33) ?_
 refine sR (Sl.v l_2) (r_move rfl rfl) ?_
 refine s_ef (k_call (vs := [(Sl.v p_0), (.int .i64 v_33), (Sl.v l_2)]) cb86 (evC rfl (evC rfl (evC rfl evN))) (h.mono ?_))
 clear h; rintro v F ⟨v_35, rfl, h⟩
 refine sR (.bool v_35) (r_pt rfl rfl) ?_
 refine sR (.bool v_35) (r_assign rfl rfl) ?_
 exact HL_nil (HC_ret (rt1 f86 R rfl rfl h))
 replace hc := eq_false_of_ne_true hc; replace h := h.2 hc
 refine kN 29 hc ?_
 refine kN 30 hc ?_
 iterate 5 refine s_skip ?_
 refine sR (.bool false) (r_pf rfl rfl) ?_
 refine sR (.bool false) (r_assign rfl rfl) ?_
 exact HL_nil (HC_ret (rt1 f86 R rfl rfl h))
 replace h := h.2 (of_decide_eq_false hc)
 clear hc
 refine cR (sR (.bool (decide (v_15 = 3))) (w_eql rfl rfl) ?_)
 refine sR (.bool (decide (v_15 = 3))) (r_assign rfl rfl) ?_
 refine HL_nil ?_
 refine HC_cond (t := (decide (v_15 = 3))) rfl (fun hc => ?_) (fun hc => ?_)
 replace h := h.1 (of_decide_eq_true hc)
 clear hc
 refine cR (sR (Sl.v p_0) (r_move rfl rfl) ?_)
 refine sR (.pointer (some (Addr.mk b7 3 none))) (w_fieldAddr rfl underlying50 rfl rfl sz3 rfl rfl) ?_
 obtain ⟨v_41, hc41, h⟩ := h
 refine sR (.int .i64 v_41) (r_load1 rfl rfl underlying3 rfl hc41) ?_
 refine sR (Sl.v l_2) (r_move rfl rfl) ?_
 refine s_ef (k_call (vs := [(Sl.v p_0), (.int .i64 v_41), (Sl.v l_2)]) cb86 (evC rfl (evC rfl (evC rfl evN))) (h.mono ?_))
 clear h; rintro v F ⟨v_43, rfl, h⟩
 refine sR (.bool v_43) (r_assign rfl rfl) ?_
 refine HL_nil ?_
 refine cR (sR (Sl.v p_0) (r_move rfl rfl) ?_)
 refine sR (.pointer (some (Addr.mk b7 4 none))) (w_fieldAddr rfl underlying50 rfl rfl sz3 rfl rfl) ?_
 obtain ⟨v_46, hc46, h⟩ := h
 refine sR (.int .i64 v_46) (r_load1 rfl rfl underlying3 rfl hc46) ?_
 refine sR (Sl.v l_2) (r_move rfl rfl) ?_
 refine s_ef (k_call (vs := [(Sl.v p_0), (.int .i64 v_46), (Sl.v l_2)]) cb86 (evC rfl (evC rfl (evC rfl evN))) (h.mono ?_))
 clear h; rintro v F ⟨v_48, rfl, h⟩
 refine sR (.bool v_48) (r_assign rfl rfl) ?_
 refine HL_nil ?_
 refine cR (sR (.bool v_43) (r_move rfl rfl) ?_)
 refine sR (.bool v_43) (r_move rfl rfl) ?_
 by_cases hc : v_43 = true
 replace h := h.1 hc
 refine kN 43 hc ?_
 refine kN 8 hc ?_
 refine kN 49 hc ?_
 refine kN 50 hc ?_
 refine s_skip ?_
 refine sR (.bool true) (r_pt rfl rfl) ?_
 refine sR (.bool true) (r_assign rfl rfl) ?_
 exact HL_nil (HC_ret (rt1 f86 R rfl rfl h))
 replace hc := eq_false_of_ne_true hc; replace h := h.2 hc
 refine kN 43 hc ?_
 refine kN 8 hc ?_
 refine kN 49 hc ?_
 refine kN 50 hc ?_
 refine sR (.bool v_48) (r_move rfl rfl) ?_
 refine sR (.bool v_48) (r_pf rfl rfl) ?_
 refine sR (.bool v_48) (r_assign rfl rfl) ?_
 exact HL_nil (HC_ret (rt1 f86 R rfl rfl h))
 replace h := h.2 (of_decide_eq_false hc)
 clear hc
 refine HC_skip ?_
 refine cR (sR (Sl.v p_0) (r_move rfl rfl) ?_)
 refine sR (.pointer (some (Addr.mk b7 3 none))) (w_fieldAddr rfl underlying50 rfl rfl sz3 rfl rfl) ?_
 obtain ⟨v_55, hc55, h⟩ := h
 refine sR (.int .i64 v_55) (r_load1 rfl rfl underlying3 rfl hc55) ?_
 refine sR (Sl.v l_2) (r_move rfl rfl) ?_
 refine s_ef (k_call (vs := [(Sl.v p_0), (.int .i64 v_55), (Sl.v l_2)]) cb86 (evC rfl (evC rfl (evC rfl evN))) (h.mono ?_))
 clear h; rintro v F ⟨v_57, rfl, h⟩
 refine HL_nil ?_
 refine cR (sR (.bool true) (r_assign rfl rfl) ?_)
 exact HL_nil (HC_ret (rt1 f86 R rfl rfl h))
 /- 87 koine.koineref04.leave -/
def b87j1 (R : VP) (F : PH) :=
 R (.bool true) F
abbrev b87J1 (R : VP) (E : En) (F : PH) : Prop := b87j1 R F
def b87j6 (N1 : Int → PH → Prop) (p_0 : Sl) (l_2 : Sl) (k_7 : Int) (R : VP) (F : PH) :=
 Spec prog 87 #[(Sl.v p_0), (.int .i64 k_7), (Sl.v l_2)] F fun v F => ∃ v_90 : Bool, v = (.bool v_90) ∧
 R (.bool v_90) F
abbrev b87J6 (N1 : Int → PH → Prop) (p_0 : Sl) (l_2 : Sl) (k_7 : Int) (R : VP) (E : En) (F : PH) : Prop := E 0 = (Sl.v p_0) ∧ E 2 = (Sl.v l_2) ∧ E 7 = (.int .i64 k_7) ∧ b87j6 N1 p_0 l_2 k_7 R F
def b87j5 (N1 : Int → PH → Prop) (p_0 : Sl) (l_2 : Sl) (k_7 : Int) (first_10 : Bool) (R : VP) (F : PH) :=
 ∃ a69_ : Addr, p_0.base = some a69_ ∧ 0 ≤ k_7 ∧ k_7 < (p_0.len : Int) ∧
 ∃ v_71 : Int, F.cell (Addr.add a69_ (Int.toNat k_7 * 5)) = some (.int .i64 v_71) ∧
 ((v_71 = 2 →
  ((first_10 = true →
   ∃ a80_ : Addr, p_0.base = some a80_ ∧ 0 ≤ k_7 ∧ k_7 < (p_0.len : Int) ∧
   ∃ v_82 : Int, F.cell (Addr.add (Addr.add a80_ (Int.toNat k_7 * 5)) 4) = some (.int .i64 v_82) ∧
   Spec prog 86 #[(Sl.v p_0), (.int .i64 v_82), (Sl.v l_2)] F fun v F => ∃ v_84 : Bool, v = (.bool v_84) ∧
   (((!v_84) = true →
    R (.bool false) F) ∧
   ((!v_84) = false →
    b87j6 N1 p_0 l_2 k_7 R F))) ∧
  (first_10 = false →
   b87j6 N1 p_0 l_2 k_7 R F))) ∧
 (¬ (v_71 = 2) →
  b87j6 N1 p_0 l_2 k_7 R F))
abbrev b87J5 (N1 : Int → PH → Prop) (p_0 : Sl) (l_2 : Sl) (k_7 : Int) (first_10 : Bool) (R : VP) (E : En) (F : PH) : Prop := E 0 = (Sl.v p_0) ∧ E 2 = (Sl.v l_2) ∧ E 7 = (.int .i64 k_7) ∧ E 10 = (.bool first_10) ∧ b87j5 N1 p_0 l_2 k_7 first_10 R F
def b87j4 (N1 : Int → PH → Prop) (p_0 : Sl) (l_2 : Sl) (k_7 : Int) (first_10 : Bool) (R : VP) (F : PH) :=
 ∃ a59_ : Addr, p_0.base = some a59_ ∧ 0 ≤ k_7 ∧ k_7 < (p_0.len : Int) ∧
 ∃ v_61 : Int, F.cell (Addr.add a59_ (Int.toNat k_7 * 5)) = some (.int .i64 v_61) ∧
 ((v_61 = 4 →
  Spec prog 86 #[(Sl.v p_0), (.int .i64 k_7), (Sl.v l_2)] F fun v F => ∃ v_66 : Bool, v = (.bool v_66) ∧
  b87j5 N1 p_0 l_2 k_7 first_10 R F) ∧
 (¬ (v_61 = 4) →
  b87j5 N1 p_0 l_2 k_7 first_10 R F))
abbrev b87J4 (N1 : Int → PH → Prop) (p_0 : Sl) (l_2 : Sl) (k_7 : Int) (first_10 : Bool) (R : VP) (E : En) (F : PH) : Prop := E 0 = (Sl.v p_0) ∧ E 2 = (Sl.v l_2) ∧ E 7 = (.int .i64 k_7) ∧ E 10 = (.bool first_10) ∧ b87j4 N1 p_0 l_2 k_7 first_10 R F
def b87j3 (N1 : Int → PH → Prop) (p_0 : Sl) (i_1 : Int) (l_2 : Sl) (k_7 : Int) (first_10 : Bool) (second_11 : Bool) (R : VP) (F : PH) :=
 (((!first_10) = true →
  (((!second_11) = true →
   N1 (IntKind.i64.wrap (k_7 + 1)) F) ∧
  ((!second_11) = false →
   b87j4 N1 p_0 l_2 k_7 first_10 R F))) ∧
 ((!first_10) = false →
  b87j4 N1 p_0 l_2 k_7 first_10 R F))
abbrev b87J3 (N1 : Int → PH → Prop) (p_0 : Sl) (i_1 : Int) (l_2 : Sl) (k_7 : Int) (first_10 : Bool) (R : VP) (E : En) (F : PH) : Prop := ∃ second_11 : Bool, E 0 = (Sl.v p_0) ∧ E 1 = (.int .i64 i_1) ∧ E 2 = (Sl.v l_2) ∧ E 7 = (.int .i64 k_7) ∧ E 10 = (.bool first_10) ∧ E 11 = (.bool second_11) ∧ b87j3 N1 p_0 i_1 l_2 k_7 first_10 second_11 R F
def b87j2 (N1 : Int → PH → Prop) (p_0 : Sl) (i_1 : Int) (l_2 : Sl) (k_7 : Int) (v_26 : Int) (first_10 : Bool) (R : VP) (F : PH) :=
 ((2 ≤ v_26 →
  ∃ a45_ : Addr, p_0.base = some a45_ ∧ 0 ≤ k_7 ∧ k_7 < (p_0.len : Int) ∧
  ∃ v_47 : Int, F.cell (Addr.add (Addr.add a45_ (Int.toNat k_7 * 5)) 4) = some (.int .i64 v_47) ∧
  b87j3 N1 p_0 i_1 l_2 k_7 first_10 (decide (v_47 = i_1)) R F) ∧
 (¬ (2 ≤ v_26) →
  b87j3 N1 p_0 i_1 l_2 k_7 first_10 false R F))
abbrev b87J2 (N1 : Int → PH → Prop) (p_0 : Sl) (i_1 : Int) (l_2 : Sl) (k_7 : Int) (v_26 : Int) (R : VP) (E : En) (F : PH) : Prop := ∃ first_10 : Bool, E 0 = (Sl.v p_0) ∧ E 1 = (.int .i64 i_1) ∧ E 2 = (Sl.v l_2) ∧ E 7 = (.int .i64 k_7) ∧ E 8 = (.int .i64 v_26) ∧ E 10 = (.bool first_10) ∧ b87j2 N1 p_0 i_1 l_2 k_7 v_26 first_10 R F
def b87L1 (N1 : Int → PH → Prop) (p_0 : Sl) (i_1 : Int) (l_2 : Sl) (R : VP) (k_7 : Int) (F : PH) :=
 ((k_7 < (p_0.len : Int) →
  ∃ a23_ : Addr, p_0.base = some a23_ ∧ 0 ≤ k_7 ∧ k_7 < (p_0.len : Int) ∧
  ∃ v_25 : Int, F.cell (Addr.add a23_ (Int.toNat k_7 * 5)) = some (.int .i64 v_25) ∧
  Spec prog 52 #[(.int .i64 v_25)] F fun v F => ∃ v_26 : Int, ∃ v_26_1 : Bool, v = (.tuple #[(.int .i64 v_26), (.bool v_26_1)]) ∧
  ((1 ≤ v_26 →
   ∃ a34_ : Addr, p_0.base = some a34_ ∧ 0 ≤ k_7 ∧ k_7 < (p_0.len : Int) ∧
   ∃ v_36 : Int, F.cell (Addr.add (Addr.add a34_ (Int.toNat k_7 * 5)) 3) = some (.int .i64 v_36) ∧
   b87j2 N1 p_0 i_1 l_2 k_7 v_26 (decide (v_36 = i_1)) R F) ∧
  (¬ (1 ≤ v_26) →
   b87j2 N1 p_0 i_1 l_2 k_7 v_26 false R F))) ∧
 (¬ (k_7 < (p_0.len : Int)) →
  b87j1 R F))
def b87 (p_0 : Sl) (i_1 : Int) (l_2 : Sl) (R : VP) (F : PH) :=
 (∃ (I1 : Nat → Int → PH → Prop) (m1 : Nat), I1 m1 (IntKind.i64.wrap (i_1 + 1)) F ∧ ∀ m1 k_7 F, I1 m1 k_7 F →
  b87L1 (nx1 I1 m1) p_0 i_1 l_2 R k_7 F)
theorem c87 {p_0 : Sl} {i_1 : Int} {l_2 : Sl} {R : VP} {F : PH} (h : b87 p_0 i_1 l_2 R F) : Spec prog 87 #[(Sl.v p_0), (.int .i64 i_1), (Sl.v l_2)] F R := by
 refine spec_of (args := [(Sl.v p_0), (.int .i64 i_1), (Sl.v l_2)]) func87 rfl ntmps87 rfl ?_
 unfold b87 at h
 refine cR (sR (.bool false) (r_assign rfl rfl) ?_)
 refine HL_nil ?_
 refine HC_seqJ (b87J1 R) ?_ ?_
 clear h; rintro E F h
 unfold b87J1 at h; unfold b87j1 at h
 refine cR (sR (.bool true) (r_assign rfl rfl) ?_)
 exact HL_nil (HC_ret (rt1 f87 R rfl rfl h))
 refine cR (sR (.int .i64 i_1) (r_move rfl rfl) ?_)
 refine sR (.int .i64 (IntKind.i64.wrap (i_1 + 1))) (r_add rfl rfl rfl) ?_
 refine sR (.int .i64 (IntKind.i64.wrap (i_1 + 1))) (r_assign rfl rfl) ?_
 refine HL_nil ?_
 refine HC_block ?_
 obtain ⟨I1, m1, hI0, hr⟩ := h
 refine HC_loop (fun m1 E F => ∃ k_7 : Int, E 0 = (Sl.v p_0) ∧ E 1 = (.int .i64 i_1) ∧ E 2 = (Sl.v l_2) ∧ E 7 = (.int .i64 k_7) ∧ I1 m1 k_7 F) m1 ⟨_, rfl, rfl, rfl, rfl, hI0⟩ ?_
 clear hI0; rintro m1 E F ⟨k_7, h0, h1, h2, h7, hI⟩
 have h := hr m1 k_7 F hI
 clear hr hI
 unfold b87L1 at h
 refine HC_seq ?_
 refine cR (sR _ (r_move rfl h7) ?_)
 refine sR _ (r_move rfl h0) ?_
 refine sR (.int .i64 (p_0.len : Int)) (r_lenSl rfl rfl underlying25) ?_
 refine sR (.bool (decide (k_7 < (p_0.len : Int)))) (r_lss rfl rfl rfl) ?_
 refine HL_nil ?_
 refine HC_cond (t := (decide (k_7 < (p_0.len : Int)))) rfl (fun hc => ?_) (fun hc => ?_)
 replace h := h.1 (of_decide_eq_true hc)
 clear hc
 refine HC_skip ?_
 refine HC_seq ?_
 refine HC_block ?_
 refine cR (sR _ (r_move rfl h0) ?_)
 refine sR _ (r_move rfl h7) ?_
 obtain ⟨a23_, hb23, hl23, hu23, h⟩ := h
 refine sR (.pointer (some (Addr.add a23_ (Int.toNat k_7 * 5)))) (w_indexAddr rfl rfl underlying25 sz50 hb23 hl23 hu23) ?_
 refine sR (.pointer (some (Addr.add a23_ (Int.toNat k_7 * 5)))) (w_fieldAddr rfl underlying50 rfl rfl sz3 rfl rfl) ?_
 obtain ⟨v_25, hc25, h⟩ := h
 refine sR (.int .i64 v_25) (r_load1 rfl rfl underlying3 rfl hc25) ?_
 refine s_ef (k_call (vs := [(.int .i64 v_25)]) cb52 (evC rfl evN) (h.mono ?_))
 clear h; rintro v F ⟨v_26, v_26_1, rfl, h⟩
 refine sR (.tuple #[(.int .i64 v_26), (.bool v_26_1)]) (r_move rfl rfl) ?_
 refine sR (.int .i64 v_26) (r_extract rfl rfl rfl) ?_
 refine sR (.bool v_26_1) (r_extract rfl rfl rfl) ?_
 refine sR (.int .i64 v_26) (r_assign rfl rfl) ?_
 refine sR (.bool v_26_1) (r_assign rfl rfl) ?_
 refine HL_nil ?_
 refine HC_seqJ (b87J2 (nx1 I1 m1) p_0 i_1 l_2 k_7 v_26 R) ?_ ?_
 clear h; rintro E F ⟨first_10, h0, h1, h2, h7, h8, h10, h⟩
 unfold b87j2 at h
 refine HC_seqJ (b87J3 (nx1 I1 m1) p_0 i_1 l_2 k_7 first_10 R) ?_ ?_
 clear h; rintro E F ⟨second_11, h0, h1, h2, h7, h10, h11, h⟩
 unfold b87j3 at h
 refine HC_seqJ (b87J4 (nx1 I1 m1) p_0 l_2 k_7 first_10 R) ?_ ?_
 clear h; rintro E F ⟨h0, h2, h7, h10, h⟩
 unfold b87j4 at h
 refine HC_seqJ (b87J5 (nx1 I1 m1) p_0 l_2 k_7 first_10 R) ?_ ?_
 clear h; rintro E F ⟨h0, h2, h7, h10, h⟩
 unfold b87j5 at h
 refine HC_seqJ (b87J6 (nx1 I1 m1) p_0 l_2 k_7 R) ?_ ?_
 clear h; rintro E F ⟨h0, h2, h7, h⟩
 unfold b87j6 at h
 refine cR (sR _ (r_move rfl h0) ?_)
 refine sR _ (r_move rfl h7) ?_
 refine sR _ (r_move rfl h2) ?_
 refine s_ef (k_call (vs := [(Sl.v p_0), (.int .i64 k_7), (Sl.v l_2)]) cb87 (evC rfl (evC rfl (evC rfl evN))) (h.mono ?_))
 clear h; rintro v F ⟨v_90, rfl, h⟩
 refine sR (.bool v_90) (r_assign rfl rfl) ?_
 exact HL_nil (HC_ret (rt1 f87 R rfl rfl h))
 refine cR (sR _ (r_move rfl h0) ?_)
 refine sR _ (r_move rfl h7) ?_
 obtain ⟨a69_, hb69, hl69, hu69, h⟩ := h
 refine sR (.pointer (some (Addr.add a69_ (Int.toNat k_7 * 5)))) (w_indexAddr rfl rfl underlying25 sz50 hb69 hl69 hu69) ?_
 refine sR (.pointer (some (Addr.add a69_ (Int.toNat k_7 * 5)))) (w_fieldAddr rfl underlying50 rfl rfl sz3 rfl rfl) ?_
 obtain ⟨v_71, hc71, h⟩ := h
 refine sR (.int .i64 v_71) (r_load1 rfl rfl underlying3 rfl hc71) ?_
 refine sR (.bool (decide (v_71 = 2))) (w_eql rfl rfl) ?_
 refine sR (.bool (decide (v_71 = 2))) (r_move rfl rfl) ?_
 by_cases hc : v_71 = 2
 replace h := h.1 hc
 refine kN 72 (decide_eq_true hc) ?_
 refine kN 73 (decide_eq_true hc) ?_
 refine sR _ (r_move rfl h10) ?_
 refine sR (.bool first_10) (r_pt rfl rfl) ?_
 refine sR (.bool first_10) (r_move rfl rfl) ?_
 by_cases hc : first_10 = true
 replace h := h.1 hc
 refine HL_known (t := 10) (v := .bool true) (h10.trans (congrArg Value.bool hc)) ?_
 refine kN 74 hc ?_
 refine kN 75 hc ?_
 refine kN 76 hc ?_
 refine sR _ (r_move rfl h0) ?_
 refine sR _ (r_move rfl h0) ?_
 refine sR _ (r_move rfl h7) ?_
 obtain ⟨a80_, hb80, hl80, hu80, h⟩ := h
 refine sR (.pointer (some (Addr.add a80_ (Int.toNat k_7 * 5)))) (w_indexAddr rfl rfl underlying25 sz50 hb80 hl80 hu80) ?_
 refine sR (.pointer (some (Addr.add (Addr.add a80_ (Int.toNat k_7 * 5)) 4))) (w_fieldAddr rfl underlying50 rfl rfl sz3 rfl rfl) ?_
 obtain ⟨v_82, hc82, h⟩ := h
 refine sR (.int .i64 v_82) (r_load1 rfl rfl underlying3 rfl hc82) ?_
 refine sR _ (r_move rfl h2) ?_
 refine s_ef (k_call (vs := [(Sl.v p_0), (.int .i64 v_82), (Sl.v l_2)]) cb86 (evC rfl (evC rfl (evC rfl evN))) (h.mono ?_))
 clear h; rintro v F ⟨v_84, rfl, h⟩
 refine sR (.bool (!v_84)) (r_not rfl rfl) ?_
 refine sR (.bool (!v_84)) (r_pt rfl rfl) ?_
 refine HL_nil ?_
 refine HC_cond (t := (!v_84)) rfl (fun hc => ?_) (fun hc => ?_)
 replace h := h.1 hc
 clear hc
 refine cR (sR (.bool false) (r_assign rfl rfl) ?_)
 exact HL_nil (HC_ret (rt1 f87 R rfl rfl h))
 replace h := h.2 hc
 clear hc
 refine HC_skip ?_
 show b87J6 (nx1 I1 m1) p_0 l_2 k_7 R _ _
 exact ⟨h0, h2, h7, h⟩
 replace hc := eq_false_of_ne_true hc; replace h := h.2 hc
 refine HL_known (t := 10) (v := .bool false) (h10.trans (congrArg Value.bool hc)) ?_
 refine kN 74 hc ?_
 refine kN 75 hc ?_
 refine kN 76 hc ?_
 iterate 9 refine s_skip ?_
 refine sR (.bool false) (r_pf rfl rfl) ?_
 refine HL_nil ?_
 refine HC_condF rfl ?_
 refine HC_skip ?_
 show b87J6 (nx1 I1 m1) p_0 l_2 k_7 R _ _
 exact ⟨h0, h2, h7, h⟩
 replace h := h.2 hc
 refine kN 72 (decide_eq_false hc) ?_
 refine kN 73 (decide_eq_false hc) ?_
 refine s_skip ?_
 refine sR (.bool false) (r_pf rfl rfl) ?_
 refine sR (.bool false) (r_move rfl rfl) ?_
 iterate 9 refine s_skip ?_
 refine sR (.bool false) (r_pf rfl rfl) ?_
 refine HL_nil ?_
 refine HC_condF rfl ?_
 refine HC_skip ?_
 show b87J6 (nx1 I1 m1) p_0 l_2 k_7 R _ _
 exact ⟨h0, h2, h7, h⟩
 refine cR (sR _ (r_move rfl h0) ?_)
 refine sR _ (r_move rfl h7) ?_
 obtain ⟨a59_, hb59, hl59, hu59, h⟩ := h
 refine sR (.pointer (some (Addr.add a59_ (Int.toNat k_7 * 5)))) (w_indexAddr rfl rfl underlying25 sz50 hb59 hl59 hu59) ?_
 refine sR (.pointer (some (Addr.add a59_ (Int.toNat k_7 * 5)))) (w_fieldAddr rfl underlying50 rfl rfl sz3 rfl rfl) ?_
 obtain ⟨v_61, hc61, h⟩ := h
 refine sR (.int .i64 v_61) (r_load1 rfl rfl underlying3 rfl hc61) ?_
 refine sR (.bool (decide (v_61 = 4))) (w_eql rfl rfl) ?_
 refine HL_nil ?_
 refine HC_cond (t := (decide (v_61 = 4))) rfl (fun hc => ?_) (fun hc => ?_)
 replace h := h.1 (of_decide_eq_true hc)
 clear hc
 refine HC_region ?_
 refine sR _ (r_move rfl h0) ?_
 refine sR _ (r_move rfl h7) ?_
 refine sR _ (r_move rfl h2) ?_
 refine s_ef (k_call (vs := [(Sl.v p_0), (.int .i64 k_7), (Sl.v l_2)]) cb86 (evC rfl (evC rfl (evC rfl evN))) (h.mono ?_))
 clear h; rintro v F ⟨v_66, rfl, h⟩
 refine HL_nil ?_
 show b87J5 (nx1 I1 m1) p_0 l_2 k_7 first_10 R _ _
 exact ⟨h0, h2, h7, h10, h⟩
 replace h := h.2 (of_decide_eq_false hc)
 clear hc
 refine HC_skip ?_
 show b87J5 (nx1 I1 m1) p_0 l_2 k_7 first_10 R _ _
 exact ⟨h0, h2, h7, h10, h⟩
 refine cR (sR _ (r_move rfl h10) ?_)
 refine sR (.bool (!first_10)) (r_not rfl rfl) ?_
 refine sR (.bool (!first_10)) (r_move rfl rfl) ?_
 by_cases hc : (!first_10) = true
 replace h := h.1 hc
 refine kN 52 hc ?_
 refine kN 53 hc ?_
 refine sR _ (r_move rfl h11) ?_
 refine sR (.bool (!second_11)) (r_not rfl rfl) ?_
 refine sR (.bool (!second_11)) (r_pt rfl rfl) ?_
 refine HL_nil ?_
 refine HC_cond (t := (!second_11)) rfl (fun hc => ?_) (fun hc => ?_)
 replace h := h.1 hc
 clear hc
 refine HC_exit ?_
 refine HC_region ?_
 refine sR _ (r_move rfl h7) ?_
 refine sR (.int .i64 (IntKind.i64.wrap (k_7 + 1))) (r_add rfl rfl rfl) ?_
 refine sR (.int .i64 (IntKind.i64.wrap (k_7 + 1))) (r_assign rfl rfl) ?_
 refine HL_nil ?_
 obtain ⟨m', hm, h⟩ := h
 exact ⟨m', hm, _, h0, h1, h2, rfl, h⟩
 replace h := h.2 hc
 clear hc
 refine HC_skip ?_
 show b87J4 (nx1 I1 m1) p_0 l_2 k_7 first_10 R _ _
 exact ⟨h0, h2, h7, h10, h⟩
 replace hc := eq_false_of_ne_true hc; replace h := h.2 hc
 refine kN 52 hc ?_
 refine kN 53 hc ?_
 iterate 2 refine s_skip ?_
 refine sR (.bool false) (r_pf rfl rfl) ?_
 refine HL_nil ?_
 refine HC_condF rfl ?_
 refine HC_skip ?_
 show b87J4 (nx1 I1 m1) p_0 l_2 k_7 first_10 R _ _
 exact ⟨h0, h2, h7, h10, h⟩
 refine HC_region ?_
 refine sR _ (r_move rfl h8) ?_
 refine sR (.bool (decide (2 ≤ v_26))) (r_geq rfl rfl rfl) ?_
 refine sR (.bool (decide (2 ≤ v_26))) (r_move rfl rfl) ?_
 by_cases hc : 2 ≤ v_26
 replace h := h.1 hc
 refine kN 41 (decide_eq_true hc) ?_
 refine kN 42 (decide_eq_true hc) ?_
 refine sR _ (r_move rfl h0) ?_
 refine sR _ (r_move rfl h7) ?_
 obtain ⟨a45_, hb45, hl45, hu45, h⟩ := h
 refine sR (.pointer (some (Addr.add a45_ (Int.toNat k_7 * 5)))) (w_indexAddr rfl rfl underlying25 sz50 hb45 hl45 hu45) ?_
 refine sR (.pointer (some (Addr.add (Addr.add a45_ (Int.toNat k_7 * 5)) 4))) (w_fieldAddr rfl underlying50 rfl rfl sz3 rfl rfl) ?_
 obtain ⟨v_47, hc47, h⟩ := h
 refine sR (.int .i64 v_47) (r_load1 rfl rfl underlying3 rfl hc47) ?_
 refine sR _ (r_move rfl h1) ?_
 refine sR (.bool (decide (v_47 = i_1))) (w_eql rfl rfl) ?_
 refine sR (.bool (decide (v_47 = i_1))) (r_pt rfl rfl) ?_
 refine sR (.bool (decide (v_47 = i_1))) (r_assign rfl rfl) ?_
 refine HL_nil ?_
 show b87J3 (nx1 I1 m1) p_0 i_1 l_2 k_7 first_10 R _ _
 exact ⟨_, h0, h1, h2, h7, h10, rfl, h⟩
 replace h := h.2 hc
 refine kN 41 (decide_eq_false hc) ?_
 refine kN 42 (decide_eq_false hc) ?_
 iterate 7 refine s_skip ?_
 refine sR (.bool false) (r_pf rfl rfl) ?_
 refine sR (.bool false) (r_assign rfl rfl) ?_
 refine HL_nil ?_
 show b87J3 (nx1 I1 m1) p_0 i_1 l_2 k_7 first_10 R _ _
 exact ⟨_, h0, h1, h2, h7, h10, rfl, h⟩
 refine HC_region ?_
 refine sR (.int .i64 v_26) (r_move rfl rfl) ?_
 refine sR (.bool (decide (1 ≤ v_26))) (r_geq rfl rfl rfl) ?_
 refine sR (.bool (decide (1 ≤ v_26))) (r_move rfl rfl) ?_
 by_cases hc : 1 ≤ v_26
 replace h := h.1 hc
 refine kN 30 (decide_eq_true hc) ?_
 refine kN 31 (decide_eq_true hc) ?_
 refine sR _ (r_move rfl h0) ?_
 refine sR _ (r_move rfl h7) ?_
 obtain ⟨a34_, hb34, hl34, hu34, h⟩ := h
 refine sR (.pointer (some (Addr.add a34_ (Int.toNat k_7 * 5)))) (w_indexAddr rfl rfl underlying25 sz50 hb34 hl34 hu34) ?_
 refine sR (.pointer (some (Addr.add (Addr.add a34_ (Int.toNat k_7 * 5)) 3))) (w_fieldAddr rfl underlying50 rfl rfl sz3 rfl rfl) ?_
 obtain ⟨v_36, hc36, h⟩ := h
 refine sR (.int .i64 v_36) (r_load1 rfl rfl underlying3 rfl hc36) ?_
 refine sR _ (r_move rfl h1) ?_
 refine sR (.bool (decide (v_36 = i_1))) (w_eql rfl rfl) ?_
 refine sR (.bool (decide (v_36 = i_1))) (r_pt rfl rfl) ?_
 refine sR (.bool (decide (v_36 = i_1))) (r_assign rfl rfl) ?_
 refine HL_nil ?_
 show b87J2 (nx1 I1 m1) p_0 i_1 l_2 k_7 v_26 R _ _
 exact ⟨_, h0, h1, h2, h7, rfl, rfl, h⟩
 replace h := h.2 hc
 refine kN 30 (decide_eq_false hc) ?_
 refine kN 31 (decide_eq_false hc) ?_
 iterate 7 refine s_skip ?_
 refine sR (.bool false) (r_pf rfl rfl) ?_
 refine sR (.bool false) (r_assign rfl rfl) ?_
 refine HL_nil ?_
 show b87J2 (nx1 I1 m1) p_0 i_1 l_2 k_7 v_26 R _ _
 exact ⟨_, h0, h1, h2, h7, rfl, rfl, h⟩
 replace h := h.2 (of_decide_eq_false hc)
 clear hc
 refine HC_exit ?_
 exact h
 /- 61 koine.koineref04.Begin -/
def b61 (p_0 : Sl) (R : VP) (F : PH) :=
 ∀ b2, F b2 = none → atF (F.set b2 (.cells (#[.bool false, .slice none 0 0]) 96)) fun F =>
 runs prog (Instr.makeSlice 69 (.int .i64 (p_0.len : Int)) (.int .i64 (p_0.len : Int))) F fun v F => ∃ v_6 : Sl, v = (Sl.v v_6) ∧
 ∀ b3, F b3 = none → atF (F.set b3 (.cells (#[.bool false, .slice none 0 0]) 96)) fun F =>
 (#[.bool false, (Sl.v v_6)] : Array Value).size = 2 ∧ (∀ v ∈ (#[.bool false, (Sl.v v_6)] : Array Value).toList, storable v) ∧ ∃ c e, F (Addr.mk b3 0 none).block = some (.cells c e (0, 0)) ∧ (Addr.mk b3 0 none).spot = none ∧ (Addr.mk b3 0 none).off + 2 ≤ c.size ∧
 atF (F.set (Addr.mk b3 0 none).block (.cells (wr c (Addr.mk b3 0 none).off (#[.bool false, (Sl.v v_6)] : Array Value).toList) e)) fun F =>
 ∃ v_13 : Sl, F.cell (Addr.mk b3 1 none) = some (Sl.v v_13) ∧
 Spec prog 86 #[(Sl.v p_0), (.int .i64 (IntKind.i64.wrap ((p_0.len : Int) - 1))), (Sl.v v_13)] F fun v F => ∃ v_14 : Bool, v = (.bool v_14) ∧
 ∃ c e, F (Addr.mk b3 0 none).block = some (.cells c e (0, 0)) ∧ (Addr.mk b3 0 none).spot = none ∧ (Addr.mk b3 0 none).off < c.size ∧
 atF (F.set (Addr.mk b3 0 none).block (.cells (c.setIfInBounds (Addr.mk b3 0 none).off (.bool v_14)) e)) fun F =>
 ∃ v_16 : Array Value, v_16.size = 2 ∧ F.row (Addr.mk b3 0 none) v_16 ∧
 v_16.size = 2 ∧ (∀ v ∈ v_16.toList, storable v) ∧ ∃ c e, F (Addr.mk b2 0 none).block = some (.cells c e (0, 0)) ∧ (Addr.mk b2 0 none).spot = none ∧ (Addr.mk b2 0 none).off + 2 ≤ c.size ∧
 atF (F.set (Addr.mk b2 0 none).block (.cells (wr c (Addr.mk b2 0 none).off v_16.toList) e)) fun F =>
 ∃ vres_2 : Array Value, vres_2.size = 2 ∧ F.row (Addr.mk b2 0 none) vres_2 ∧ R (.agg vres_2) F
theorem c61 {p_0 : Sl} {R : VP} {F : PH} (h : b61 p_0 R F) : Spec prog 61 #[(Sl.v p_0)] F R := by
 refine spec_of (args := [(Sl.v p_0)]) func61 rfl ntmps61 rfl ?_
 unfold b61 at h
 refine cR ?_
 refine s_ef (k_alloc zr96 ?_)
 intro b2 hf_b2
 replace h := atE (h b2 hf_b2)
 refine HL_nil ?_
 refine cR (sR (Sl.v p_0) (r_move rfl rfl) ?_)
 refine sR (.int .i64 (p_0.len : Int)) (r_lenSl rfl rfl underlying25) ?_
 refine s_ef (k_makeSlice rfl rfl (runs_mono _ _ h ?_))
 clear h; rintro v F ⟨v_6, rfl, h⟩
 refine sR (.agg (#[.bool false, (Sl.v v_6)] : Array Value)) (w_buildStruct (cells := #[.bool false, (Sl.v v_6)]) underlying96 zr96 kf96 (evPC rfl evPN) (fill1 (place_of rfl rfl sz69) rfl rfl (fillN rfl))) ?_
 refine s_ef (k_alloc zr96 ?_)
 intro b3 hf_b3
 replace h := atE (h b3 hf_b3)
 refine s_ef0 (k_storeN (vs := (#[.bool false, (Sl.v v_6)] : Array Value)) rfl rfl sz96 (by decide) ?_)
 obtain ⟨hz1, hz2, c, e, hz3, hz4, hz5, h⟩ := h
 refine ⟨hz1, hz2, c, e, hz3, hz4, hz5, ?_⟩
 replace h := atE h
 refine HL_nil ?_
 refine cR (sR (Sl.v p_0) (r_move rfl rfl) ?_)
 refine sR (Sl.v p_0) (r_move rfl rfl) ?_
 refine sR (.int .i64 (p_0.len : Int)) (r_lenSl rfl rfl underlying25) ?_
 refine sR (.int .i64 (IntKind.i64.wrap ((p_0.len : Int) - 1))) (r_sub rfl rfl rfl) ?_
 refine sR (.pointer (some (Addr.mk b3 1 none))) (w_fieldAddr rfl underlying96 rfl rfl sz69 rfl rfl) ?_
 obtain ⟨v_13, hc13, h⟩ := h
 refine sR (Sl.v v_13) (r_load1 rfl rfl underlying69 rfl hc13) ?_
 refine s_ef (k_call (vs := [(Sl.v p_0), (.int .i64 (IntKind.i64.wrap ((p_0.len : Int) - 1))), (Sl.v v_13)]) cb86 (evC rfl (evC rfl (evC rfl evN))) (h.mono ?_))
 clear h; rintro v F ⟨v_14, rfl, h⟩
 refine sR (.pointer (some (Addr.mk b3 0 none))) (w_fieldAddr rfl underlying96 rfl rfl sz4 rfl rfl) ?_
 refine s_ef0 (k_store1 (v := (.bool v_14)) rfl rfl sz4 rfl st_bool ?_)
 obtain ⟨c, e, hz3, hz4, hz5, h⟩ := h
 refine ⟨c, e, hz3, hz4, hz5, ?_⟩
 replace h := atE h
 refine HL_nil ?_
 refine cR ?_
 obtain ⟨v_16, hs16, hc16, h⟩ := h
 refine sR (.agg v_16) (w_loadN rfl underlying96 rfl sz96 hs16 hc16) ?_
 refine s_ef0 (k_storeN (vs := v_16) rfl rfl sz96 (by decide) ?_)
 obtain ⟨hz1, hz2, c, e, hz3, hz4, hz5, h⟩ := h
 refine ⟨hz1, hz2, c, e, hz3, hz4, hz5, ?_⟩
 replace h := atE h
 refine HL_nil ?_
 obtain ⟨vres_2, hs2, hr2, h⟩ := h
 exact HC_ret (show endQ prog f61 R .ret _ _ from ⟨_, res1 rfl (rv_cellN rfl underlying96 rfl sz96 hs2 hr2), h⟩)
 /- 62 koine.koineref04.Step -/
def b62j1 (b6 : Nat) (b7 : Nat) (R : VP) (F : PH) :=
 ∃ v_54 : Array Value, v_54.size = 2 ∧ F.row (Addr.mk b7 0 none) v_54 ∧
 v_54.size = 2 ∧ (∀ v ∈ v_54.toList, storable v) ∧ ∃ c e, F (Addr.mk b6 0 none).block = some (.cells c e (0, 0)) ∧ (Addr.mk b6 0 none).spot = none ∧ (Addr.mk b6 0 none).off + 2 ≤ c.size ∧
 atF (F.set (Addr.mk b6 0 none).block (.cells (wr c (Addr.mk b6 0 none).off v_54.toList) e)) fun F =>
 ∃ vres_6 : Array Value, vres_6.size = 2 ∧ F.row (Addr.mk b6 0 none) vres_6 ∧ R (.agg vres_6) F
abbrev b62J1 (b6 : Nat) (b7 : Nat) (R : VP) (E : En) (F : PH) : Prop := E 6 = (.pointer (some (Addr.mk b6 0 none))) ∧ E 7 = (.pointer (some (Addr.mk b7 0 none))) ∧ b62j1 b6 b7 R F
def b62j2 (N1 : Int → PH → Prop) (p_0 : Sl) (b_2 : Int) (b4 : Nat) (b6 : Nat) (b7 : Nat) (i_8 : Int) (R : VP) (F : PH) :=
 N1 (IntKind.i64.wrap (i_8 + 1)) F
abbrev b62J2 (N1 : Int → PH → Prop) (p_0 : Sl) (b_2 : Int) (b4 : Nat) (b6 : Nat) (b7 : Nat) (i_8 : Int) (R : VP) (E : En) (F : PH) : Prop := E 0 = (Sl.v p_0) ∧ E 2 = (.int .i64 b_2) ∧ E 4 = (.pointer (some (Addr.mk b4 0 none))) ∧ E 6 = (.pointer (some (Addr.mk b6 0 none))) ∧ E 7 = (.pointer (some (Addr.mk b7 0 none))) ∧ E 8 = (.int .i64 i_8) ∧ b62j2 N1 p_0 b_2 b4 b6 b7 i_8 R F
def b62j3 (N1 : Int → PH → Prop) (p_0 : Sl) (b_2 : Int) (b4 : Nat) (b6 : Nat) (b7 : Nat) (i_8 : Int) (v_42 : Bool) (R : VP) (F : PH) :=
 ((v_42 = true →
  ∃ v_46 : Sl, F.cell (Addr.mk b7 1 none) = some (Sl.v v_46) ∧
  Spec prog 87 #[(Sl.v p_0), (.int .i64 i_8), (Sl.v v_46)] F fun v F => ∃ v_47 : Bool, v = (.bool v_47) ∧
  ∃ v_49 : Bool, F.cell (Addr.mk b7 0 none) = some (.bool v_49) ∧
  ((v_49 = true →
   ∃ c e, F (Addr.mk b7 0 none).block = some (.cells c e (0, 0)) ∧ (Addr.mk b7 0 none).spot = none ∧ (Addr.mk b7 0 none).off < c.size ∧
   atF (F.set (Addr.mk b7 0 none).block (.cells (c.setIfInBounds (Addr.mk b7 0 none).off (.bool true)) e)) fun F =>
   b62j2 N1 p_0 b_2 b4 b6 b7 i_8 R F) ∧
  (v_49 = false →
   ∃ c e, F (Addr.mk b7 0 none).block = some (.cells c e (0, 0)) ∧ (Addr.mk b7 0 none).spot = none ∧ (Addr.mk b7 0 none).off < c.size ∧
   atF (F.set (Addr.mk b7 0 none).block (.cells (c.setIfInBounds (Addr.mk b7 0 none).off (.bool v_47)) e)) fun F =>
   b62j2 N1 p_0 b_2 b4 b6 b7 i_8 R F))) ∧
 (v_42 = false →
  b62j2 N1 p_0 b_2 b4 b6 b7 i_8 R F))
abbrev b62J3 (N1 : Int → PH → Prop) (p_0 : Sl) (b_2 : Int) (b4 : Nat) (b6 : Nat) (b7 : Nat) (i_8 : Int) (R : VP) (E : En) (F : PH) : Prop := ∃ v_42 : Bool, E 0 = (Sl.v p_0) ∧ E 2 = (.int .i64 b_2) ∧ E 4 = (.pointer (some (Addr.mk b4 0 none))) ∧ E 6 = (.pointer (some (Addr.mk b6 0 none))) ∧ E 7 = (.pointer (some (Addr.mk b7 0 none))) ∧ E 8 = (.int .i64 i_8) ∧ E 42 = (.bool v_42) ∧ b62j3 N1 p_0 b_2 b4 b6 b7 i_8 v_42 R F
def b62L1 (N1 : Int → PH → Prop) (p_0 : Sl) (b_2 : Int) (b4 : Nat) (b6 : Nat) (b7 : Nat) (R : VP) (i_8 : Int) (F : PH) :=
 ((i_8 < (p_0.len : Int) →
  ∃ v_21 : Sl, F.cell (Addr.mk b4 1 none) = some (Sl.v v_21) ∧
  ∃ a23_ : Addr, v_21.base = some a23_ ∧ 0 ≤ i_8 ∧ i_8 < (v_21.len : Int) ∧
  ∃ v_24 : Bool, F.cell (Addr.add a23_ (Int.toNat i_8 * 1)) = some (.bool v_24) ∧
  ((v_24 = true →
   ∃ a28_ : Addr, p_0.base = some a28_ ∧ 0 ≤ i_8 ∧ i_8 < (p_0.len : Int) ∧
   ∃ v_30 : Int, F.cell (Addr.add (Addr.add a28_ (Int.toNat i_8 * 5)) 1) = some (.int .i64 v_30) ∧
   ((v_30 ≤ b_2 →
    ∃ a38_ : Addr, p_0.base = some a38_ ∧ 0 ≤ i_8 ∧ i_8 < (p_0.len : Int) ∧
    ∃ v_40 : Int, F.cell (Addr.add (Addr.add a38_ (Int.toNat i_8 * 5)) 2) = some (.int .i64 v_40) ∧
    b62j3 N1 p_0 b_2 b4 b6 b7 i_8 (decide (b_2 ≤ v_40)) R F) ∧
   (¬ (v_30 ≤ b_2) →
    b62j3 N1 p_0 b_2 b4 b6 b7 i_8 false R F))) ∧
  (v_24 = false →
   b62j3 N1 p_0 b_2 b4 b6 b7 i_8 false R F))) ∧
 (¬ (i_8 < (p_0.len : Int)) →
  b62j1 b6 b7 R F))
def b62 (p_0 : Sl) (s_1 : Array Value) (b_2 : Int) (R : VP) (F : PH) :=
 ∀ b4, F b4 = none → atF (F.set b4 (.cells s_1 96)) fun F =>
 ∀ b6, F b6 = none → atF (F.set b6 (.cells (#[.bool false, .slice none 0 0]) 96)) fun F =>
 runs prog (Instr.makeSlice 69 (.int .i64 (p_0.len : Int)) (.int .i64 (p_0.len : Int))) F fun v F => ∃ v_12 : Sl, v = (Sl.v v_12) ∧
 ∀ b7, F b7 = none → atF (F.set b7 (.cells (#[.bool false, .slice none 0 0]) 96)) fun F =>
 (#[.bool false, (Sl.v v_12)] : Array Value).size = 2 ∧ (∀ v ∈ (#[.bool false, (Sl.v v_12)] : Array Value).toList, storable v) ∧ ∃ c e, F (Addr.mk b7 0 none).block = some (.cells c e (0, 0)) ∧ (Addr.mk b7 0 none).spot = none ∧ (Addr.mk b7 0 none).off + 2 ≤ c.size ∧
 atF (F.set (Addr.mk b7 0 none).block (.cells (wr c (Addr.mk b7 0 none).off (#[.bool false, (Sl.v v_12)] : Array Value).toList) e)) fun F =>
 (∃ (I1 : Nat → Int → PH → Prop) (m1 : Nat), I1 m1 0 F ∧ ∀ m1 i_8 F, I1 m1 i_8 F →
  b62L1 (nx1 I1 m1) p_0 b_2 b4 b6 b7 R i_8 F)
theorem c62 {p_0 : Sl} {s_1 : Array Value} {b_2 : Int} {R : VP} {F : PH} (h : b62 p_0 s_1 b_2 R F) : Spec prog 62 #[(Sl.v p_0), (.agg s_1), (.int .i64 b_2)] F R := by
 refine spec_of (args := [(Sl.v p_0), (.agg s_1), (.int .i64 b_2)]) func62 rfl ntmps62 rfl ?_
 unfold b62 at h
 refine cR ?_
 refine s_ef (k_box (cs := s_1) rfl rfl ?_)
 intro b4 hf_b4
 replace h := atE (h b4 hf_b4)
 refine s_ef (k_alloc zr96 ?_)
 intro b6 hf_b6
 replace h := atE (h b6 hf_b6)
 refine HL_nil ?_
 refine cR (sR (Sl.v p_0) (r_move rfl rfl) ?_)
 refine sR (.int .i64 (p_0.len : Int)) (r_lenSl rfl rfl underlying25) ?_
 refine s_ef (k_makeSlice rfl rfl (runs_mono _ _ h ?_))
 clear h; rintro v F ⟨v_12, rfl, h⟩
 refine sR (.agg (#[.bool false, (Sl.v v_12)] : Array Value)) (w_buildStruct (cells := #[.bool false, (Sl.v v_12)]) underlying96 zr96 kf96 (evPC rfl evPN) (fill1 (place_of rfl rfl sz69) rfl rfl (fillN rfl))) ?_
 refine s_ef (k_alloc zr96 ?_)
 intro b7 hf_b7
 replace h := atE (h b7 hf_b7)
 refine s_ef0 (k_storeN (vs := (#[.bool false, (Sl.v v_12)] : Array Value)) rfl rfl sz96 (by decide) ?_)
 obtain ⟨hz1, hz2, c, e, hz3, hz4, hz5, h⟩ := h
 refine ⟨hz1, hz2, c, e, hz3, hz4, hz5, ?_⟩
 replace h := atE h
 refine HL_nil ?_
 refine HC_seqJ (b62J1 b6 b7 R) ?_ ?_
 clear h; rintro E F ⟨h6, h7, h⟩
 unfold b62j1 at h
 refine cR ?_
 obtain ⟨v_54, hs54, hc54, h⟩ := h
 refine sR (.agg v_54) (w_loadN h7 underlying96 rfl sz96 hs54 hc54) ?_
 refine s_ef0 (k_storeN (vs := v_54) h6 rfl sz96 (by decide) ?_)
 obtain ⟨hz1, hz2, c, e, hz3, hz4, hz5, h⟩ := h
 refine ⟨hz1, hz2, c, e, hz3, hz4, hz5, ?_⟩
 replace h := atE h
 refine HL_nil ?_
 obtain ⟨vres_6, hs6, hr6, h⟩ := h
 exact HC_ret (show endQ prog f62 R .ret _ _ from ⟨_, res1 rfl (rv_cellN h6 underlying96 rfl sz96 hs6 hr6), h⟩)
 refine cR (sR (.int .i64 0) (r_assign rfl rfl) ?_)
 refine HL_nil ?_
 refine HC_block ?_
 obtain ⟨I1, m1, hI0, hr⟩ := h
 refine HC_loop (fun m1 E F => ∃ i_8 : Int, E 0 = (Sl.v p_0) ∧ E 2 = (.int .i64 b_2) ∧ E 4 = (.pointer (some (Addr.mk b4 0 none))) ∧ E 6 = (.pointer (some (Addr.mk b6 0 none))) ∧ E 7 = (.pointer (some (Addr.mk b7 0 none))) ∧ E 8 = (.int .i64 i_8) ∧ I1 m1 i_8 F) m1 ⟨_, rfl, rfl, rfl, rfl, rfl, rfl, hI0⟩ ?_
 clear hI0; rintro m1 E F ⟨i_8, h0, h2, h4, h6, h7, h8, hI⟩
 have h := hr m1 i_8 F hI
 clear hr hI
 unfold b62L1 at h
 refine HC_seq ?_
 refine cR (sR _ (r_move rfl h8) ?_)
 refine sR _ (r_move rfl h0) ?_
 refine sR (.int .i64 (p_0.len : Int)) (r_lenSl rfl rfl underlying25) ?_
 refine sR (.bool (decide (i_8 < (p_0.len : Int)))) (r_lss rfl rfl rfl) ?_
 refine HL_nil ?_
 refine HC_cond (t := (decide (i_8 < (p_0.len : Int)))) rfl (fun hc => ?_) (fun hc => ?_)
 replace h := h.1 (of_decide_eq_true hc)
 clear hc
 refine HC_skip ?_
 refine HC_seqJ (b62J2 (nx1 I1 m1) p_0 b_2 b4 b6 b7 i_8 R) ?_ ?_
 clear h; rintro E F ⟨h0, h2, h4, h6, h7, h8, h⟩
 unfold b62j2 at h
 refine HC_region ?_
 refine sR _ (r_move rfl h8) ?_
 refine sR (.int .i64 (IntKind.i64.wrap (i_8 + 1))) (r_add rfl rfl rfl) ?_
 refine sR (.int .i64 (IntKind.i64.wrap (i_8 + 1))) (r_assign rfl rfl) ?_
 refine HL_nil ?_
 obtain ⟨m', hm, h⟩ := h
 exact ⟨m', hm, _, h0, h2, h4, h6, h7, rfl, h⟩
 refine HC_block ?_
 refine HC_seqJ (b62J3 (nx1 I1 m1) p_0 b_2 b4 b6 b7 i_8 R) ?_ ?_
 clear h; rintro E F ⟨v_42, h0, h2, h4, h6, h7, h8, h42, h⟩
 unfold b62j3 at h
 refine HC_cond (t := v_42) h42 (fun hc => ?_) (fun hc => ?_)
 replace h := h.1 hc
 clear hc
 refine cR (sR _ (r_move rfl h0) ?_)
 refine sR _ (r_move rfl h8) ?_
 refine sR (.pointer (some (Addr.mk b7 1 none))) (w_fieldAddr h7 underlying96 rfl rfl sz69 rfl rfl) ?_
 obtain ⟨v_46, hc46, h⟩ := h
 refine sR (Sl.v v_46) (r_load1 rfl rfl underlying69 rfl hc46) ?_
 refine s_ef (k_call (vs := [(Sl.v p_0), (.int .i64 i_8), (Sl.v v_46)]) cb87 (evC rfl (evC rfl (evC rfl evN))) (h.mono ?_))
 clear h; rintro v F ⟨v_47, rfl, h⟩
 refine sR (.bool v_47) (r_assign rfl rfl) ?_
 refine HL_nil ?_
 refine HC_region ?_
 refine sR (.pointer (some (Addr.mk b7 0 none))) (w_fieldAddr h7 underlying96 rfl rfl sz4 rfl rfl) ?_
 obtain ⟨v_49, hc49, h⟩ := h
 refine sR (.bool v_49) (r_load1 rfl rfl underlying4 rfl hc49) ?_
 refine sR (.bool v_49) (r_move rfl rfl) ?_
 by_cases hc : v_49 = true
 replace h := h.1 hc
 refine kN 49 hc ?_
 refine kN 50 hc ?_
 refine s_skip ?_
 refine sR (.bool true) (r_pt rfl rfl) ?_
 refine sR (.pointer (some (Addr.mk b7 0 none))) (w_fieldAddr h7 underlying96 rfl rfl sz4 rfl rfl) ?_
 refine s_ef0 (k_store1 (v := (.bool true)) rfl rfl sz4 rfl st_bool ?_)
 obtain ⟨c, e, hz3, hz4, hz5, h⟩ := h
 refine ⟨c, e, hz3, hz4, hz5, ?_⟩
 replace h := atE h
 refine HL_nil ?_
 show b62J2 (nx1 I1 m1) p_0 b_2 b4 b6 b7 i_8 R _ _
 exact ⟨h0, h2, h4, h6, h7, h8, h⟩
 replace hc := eq_false_of_ne_true hc; replace h := h.2 hc
 refine kN 49 hc ?_
 refine kN 50 hc ?_
 refine sR (.bool v_47) (r_move rfl rfl) ?_
 refine sR (.bool v_47) (r_pf rfl rfl) ?_
 refine sR (.pointer (some (Addr.mk b7 0 none))) (w_fieldAddr h7 underlying96 rfl rfl sz4 rfl rfl) ?_
 refine s_ef0 (k_store1 (v := (.bool v_47)) rfl rfl sz4 rfl st_bool ?_)
 obtain ⟨c, e, hz3, hz4, hz5, h⟩ := h
 refine ⟨c, e, hz3, hz4, hz5, ?_⟩
 replace h := atE h
 refine HL_nil ?_
 show b62J2 (nx1 I1 m1) p_0 b_2 b4 b6 b7 i_8 R _ _
 exact ⟨h0, h2, h4, h6, h7, h8, h⟩
 replace h := h.2 hc
 clear hc
 refine HC_skip ?_
 show b62J2 (nx1 I1 m1) p_0 b_2 b4 b6 b7 i_8 R _ _
 exact ⟨h0, h2, h4, h6, h7, h8, h⟩
 refine HC_region ?_
 refine sR (.pointer (some (Addr.mk b4 1 none))) (w_fieldAddr h4 underlying96 rfl rfl sz69 rfl rfl) ?_
 obtain ⟨v_21, hc21, h⟩ := h
 refine sR (Sl.v v_21) (r_load1 rfl rfl underlying69 rfl hc21) ?_
 refine sR _ (r_move rfl h8) ?_
 obtain ⟨a23_, hb23, hl23, hu23, h⟩ := h
 refine sR (.pointer (some (Addr.add a23_ (Int.toNat i_8 * 1)))) (w_indexAddr rfl rfl underlying69 sz4 hb23 hl23 hu23) ?_
 obtain ⟨v_24, hc24, h⟩ := h
 refine sR (.bool v_24) (r_load1 rfl rfl underlying4 rfl hc24) ?_
 refine sR (.bool v_24) (r_move rfl rfl) ?_
 by_cases hc : v_24 = true
 replace h := h.1 hc
 refine kN 24 hc ?_
 refine kN 25 hc ?_
 refine sR _ (r_move rfl h0) ?_
 refine sR _ (r_move rfl h8) ?_
 obtain ⟨a28_, hb28, hl28, hu28, h⟩ := h
 refine sR (.pointer (some (Addr.add a28_ (Int.toNat i_8 * 5)))) (w_indexAddr rfl rfl underlying25 sz50 hb28 hl28 hu28) ?_
 refine sR (.pointer (some (Addr.add (Addr.add a28_ (Int.toNat i_8 * 5)) 1))) (w_fieldAddr rfl underlying50 rfl rfl sz3 rfl rfl) ?_
 obtain ⟨v_30, hc30, h⟩ := h
 refine sR (.int .i64 v_30) (r_load1 rfl rfl underlying3 rfl hc30) ?_
 refine sR _ (r_move rfl h2) ?_
 refine sR (.bool (decide (v_30 ≤ b_2))) (r_leq rfl rfl rfl) ?_
 refine sR (.bool (decide (v_30 ≤ b_2))) (r_pt rfl rfl) ?_
 refine sR (.bool (decide (v_30 ≤ b_2))) (r_move rfl rfl) ?_
 by_cases hc : v_30 ≤ b_2
 replace h := h.1 hc
 refine kN 32 (decide_eq_true hc) ?_
 refine kN 33 (decide_eq_true hc) ?_
 refine kN 34 (decide_eq_true hc) ?_
 refine sR _ (r_move rfl h2) ?_
 refine sR _ (r_move rfl h0) ?_
 refine sR _ (r_move rfl h8) ?_
 obtain ⟨a38_, hb38, hl38, hu38, h⟩ := h
 refine sR (.pointer (some (Addr.add a38_ (Int.toNat i_8 * 5)))) (w_indexAddr rfl rfl underlying25 sz50 hb38 hl38 hu38) ?_
 refine sR (.pointer (some (Addr.add (Addr.add a38_ (Int.toNat i_8 * 5)) 2))) (w_fieldAddr rfl underlying50 rfl rfl sz3 rfl rfl) ?_
 obtain ⟨v_40, hc40, h⟩ := h
 refine sR (.int .i64 v_40) (r_load1 rfl rfl underlying3 rfl hc40) ?_
 refine sR (.bool (decide (b_2 ≤ v_40))) (r_leq rfl rfl rfl) ?_
 refine sR (.bool (decide (b_2 ≤ v_40))) (r_pt rfl rfl) ?_
 refine HL_nil ?_
 show b62J3 (nx1 I1 m1) p_0 b_2 b4 b6 b7 i_8 R _ _
 exact ⟨_, h0, h2, h4, h6, h7, h8, rfl, h⟩
 replace h := h.2 hc
 refine kN 32 (decide_eq_false hc) ?_
 refine kN 33 (decide_eq_false hc) ?_
 refine kN 34 (decide_eq_false hc) ?_
 iterate 7 refine s_skip ?_
 refine sR (.bool false) (r_pf rfl rfl) ?_
 refine HL_nil ?_
 show b62J3 (nx1 I1 m1) p_0 b_2 b4 b6 b7 i_8 R _ _
 exact ⟨_, h0, h2, h4, h6, h7, h8, rfl, h⟩
 replace hc := eq_false_of_ne_true hc; replace h := h.2 hc
 refine kN 24 hc ?_
 refine kN 25 hc ?_
 iterate 7 refine s_skip ?_
 refine sR (.bool false) (r_pf rfl rfl) ?_
 refine sR (.bool false) (r_move rfl rfl) ?_
 iterate 7 refine s_skip ?_
 refine sR (.bool false) (r_pf rfl rfl) ?_
 refine HL_nil ?_
 show b62J3 (nx1 I1 m1) p_0 b_2 b4 b6 b7 i_8 R _ _
 exact ⟨_, h0, h2, h4, h6, h7, h8, rfl, h⟩
 replace h := h.2 (of_decide_eq_false hc)
 clear hc
 refine HC_exit ?_
 show b62J1 b6 b7 R _ _
 exact ⟨h6, h7, h⟩
 /- 63 koine.koineref04.dead -/
def b63j1 (R : VP) (F : PH) :=
 R (.bool true) F
abbrev b63J1 (R : VP) (E : En) (F : PH) : Prop := b63j1 R F
def b63L1 (N1 : Int → PH → Prop) (b1 : Nat) (R : VP) (i_3 : Int) (F : PH) :=
 ∃ v_6 : Sl, F.cell (Addr.mk b1 1 none) = some (Sl.v v_6) ∧
 ((i_3 < (v_6.len : Int) →
  ∃ v_12 : Sl, F.cell (Addr.mk b1 1 none) = some (Sl.v v_12) ∧
  ∃ a14_ : Addr, v_12.base = some a14_ ∧ 0 ≤ i_3 ∧ i_3 < (v_12.len : Int) ∧
  ∃ v_15 : Bool, F.cell (Addr.add a14_ (Int.toNat i_3 * 1)) = some (.bool v_15) ∧
  ((v_15 = true →
   R (.bool false) F) ∧
  (v_15 = false →
   N1 (IntKind.i64.wrap (i_3 + 1)) F))) ∧
 (¬ (i_3 < (v_6.len : Int)) →
  b63j1 R F))
def b63 (s_0 : Array Value) (R : VP) (F : PH) :=
 ∀ b1, F b1 = none → atF (F.set b1 (.cells s_0 96)) fun F =>
 (∃ (I1 : Nat → Int → PH → Prop) (m1 : Nat), I1 m1 0 F ∧ ∀ m1 i_3 F, I1 m1 i_3 F →
  b63L1 (nx1 I1 m1) b1 R i_3 F)
theorem c63 {s_0 : Array Value} {R : VP} {F : PH} (h : b63 s_0 R F) : Spec prog 63 #[(.agg s_0)] F R := by
 refine spec_of (args := [(.agg s_0)]) func63 rfl ntmps63 rfl ?_
 unfold b63 at h
 refine cR ?_
 refine s_ef (k_box (cs := s_0) rfl rfl ?_)
 intro b1 hf_b1
 replace h := atE (h b1 hf_b1)
 refine sR (.bool false) (r_assign rfl rfl) ?_
 refine HL_nil ?_
 refine HC_seqJ (b63J1 R) ?_ ?_
 clear h; rintro E F h
 unfold b63J1 at h; unfold b63j1 at h
 refine cR (sR (.bool true) (r_assign rfl rfl) ?_)
 exact HL_nil (HC_ret (rt1 f63 R rfl rfl h))
 refine cR (sR (.int .i64 0) (r_assign rfl rfl) ?_)
 refine HL_nil ?_
 refine HC_block ?_
 obtain ⟨I1, m1, hI0, hr⟩ := h
 refine HC_loop (fun m1 E F => ∃ i_3 : Int, E 1 = (.pointer (some (Addr.mk b1 0 none))) ∧ E 3 = (.int .i64 i_3) ∧ I1 m1 i_3 F) m1 ⟨_, rfl, rfl, hI0⟩ ?_
 clear hI0; rintro m1 E F ⟨i_3, h1, h3, hI⟩
 have h := hr m1 i_3 F hI
 clear hr hI
 unfold b63L1 at h
 refine HC_seq ?_
 refine cR (sR _ (r_move rfl h3) ?_)
 refine sR (.pointer (some (Addr.mk b1 1 none))) (w_fieldAddr h1 underlying96 rfl rfl sz69 rfl rfl) ?_
 obtain ⟨v_6, hc6, h⟩ := h
 refine sR (Sl.v v_6) (r_load1 rfl rfl underlying69 rfl hc6) ?_
 refine sR (.int .i64 (v_6.len : Int)) (r_lenSl rfl rfl underlying69) ?_
 refine sR (.bool (decide (i_3 < (v_6.len : Int)))) (r_lss rfl rfl rfl) ?_
 refine HL_nil ?_
 refine HC_cond (t := (decide (i_3 < (v_6.len : Int)))) rfl (fun hc => ?_) (fun hc => ?_)
 replace h := h.1 (of_decide_eq_true hc)
 clear hc
 refine HC_skip ?_
 refine HC_seq ?_
 refine HC_block ?_
 refine cR (sR (.pointer (some (Addr.mk b1 1 none))) (w_fieldAddr h1 underlying96 rfl rfl sz69 rfl rfl) ?_)
 obtain ⟨v_12, hc12, h⟩ := h
 refine sR (Sl.v v_12) (r_load1 rfl rfl underlying69 rfl hc12) ?_
 refine sR _ (r_move rfl h3) ?_
 obtain ⟨a14_, hb14, hl14, hu14, h⟩ := h
 refine sR (.pointer (some (Addr.add a14_ (Int.toNat i_3 * 1)))) (w_indexAddr rfl rfl underlying69 sz4 hb14 hl14 hu14) ?_
 obtain ⟨v_15, hc15, h⟩ := h
 refine sR (.bool v_15) (r_load1 rfl rfl underlying4 rfl hc15) ?_
 refine HL_nil ?_
 refine HC_cond (t := v_15) rfl (fun hc => ?_) (fun hc => ?_)
 replace h := h.1 hc
 clear hc
 refine cR (sR (.bool false) (r_assign rfl rfl) ?_)
 exact HL_nil (HC_ret (rt1 f63 R rfl rfl h))
 replace h := h.2 hc
 clear hc
 refine HC_skip ?_
 refine HC_region ?_
 refine sR _ (r_move rfl h3) ?_
 refine sR (.int .i64 (IntKind.i64.wrap (i_3 + 1))) (r_add rfl rfl rfl) ?_
 refine sR (.int .i64 (IntKind.i64.wrap (i_3 + 1))) (r_assign rfl rfl) ?_
 refine HL_nil ?_
 obtain ⟨m', hm, h⟩ := h
 exact ⟨m', hm, _, h1, rfl, h⟩
 replace h := h.2 (of_decide_eq_false hc)
 clear hc
 refine HC_exit ?_
 exact h
 /- 88 koine.koineref04.sameState -/
def b88j1 (b2 : Nat) (b3 : Nat) (R : VP) (F : PH) :=
 ∃ v_25 : Bool, F.cell (Addr.mk b2 0 none) = some (.bool v_25) ∧
 ∃ v_27 : Bool, F.cell (Addr.mk b3 0 none) = some (.bool v_27) ∧
 R (.bool (v_25 == v_27)) F
abbrev b88J1 (b2 : Nat) (b3 : Nat) (R : VP) (E : En) (F : PH) : Prop := E 2 = (.pointer (some (Addr.mk b2 0 none))) ∧ E 3 = (.pointer (some (Addr.mk b3 0 none))) ∧ b88j1 b2 b3 R F
def b88L1 (N1 : Int → PH → Prop) (b2 : Nat) (b3 : Nat) (R : VP) (i_5 : Int) (F : PH) :=
 ∃ v_8 : Sl, F.cell (Addr.mk b2 1 none) = some (Sl.v v_8) ∧
 ((i_5 < (v_8.len : Int) →
  ∃ v_14 : Sl, F.cell (Addr.mk b2 1 none) = some (Sl.v v_14) ∧
  ∃ a16_ : Addr, v_14.base = some a16_ ∧ 0 ≤ i_5 ∧ i_5 < (v_14.len : Int) ∧
  ∃ v_17 : Bool, F.cell (Addr.add a16_ (Int.toNat i_5 * 1)) = some (.bool v_17) ∧
  ∃ v_19 : Sl, F.cell (Addr.mk b3 1 none) = some (Sl.v v_19) ∧
  ∃ a21_ : Addr, v_19.base = some a21_ ∧ 0 ≤ i_5 ∧ i_5 < (v_19.len : Int) ∧
  ∃ v_22 : Bool, F.cell (Addr.add a21_ (Int.toNat i_5 * 1)) = some (.bool v_22) ∧
  (((!(v_17 == v_22)) = true →
   R (.bool false) F) ∧
  ((!(v_17 == v_22)) = false →
   N1 (IntKind.i64.wrap (i_5 + 1)) F))) ∧
 (¬ (i_5 < (v_8.len : Int)) →
  b88j1 b2 b3 R F))
def b88 (s_0 : Array Value) (t_1 : Array Value) (R : VP) (F : PH) :=
 ∀ b2, F b2 = none → atF (F.set b2 (.cells s_0 96)) fun F =>
 ∀ b3, F b3 = none → atF (F.set b3 (.cells t_1 96)) fun F =>
 (∃ (I1 : Nat → Int → PH → Prop) (m1 : Nat), I1 m1 0 F ∧ ∀ m1 i_5 F, I1 m1 i_5 F →
  b88L1 (nx1 I1 m1) b2 b3 R i_5 F)
theorem c88 {s_0 : Array Value} {t_1 : Array Value} {R : VP} {F : PH} (h : b88 s_0 t_1 R F) : Spec prog 88 #[(.agg s_0), (.agg t_1)] F R := by
 refine spec_of (args := [(.agg s_0), (.agg t_1)]) func88 rfl ntmps88 rfl ?_
 unfold b88 at h
 refine cR ?_
 refine s_ef (k_box (cs := s_0) rfl rfl ?_)
 intro b2 hf_b2
 replace h := atE (h b2 hf_b2)
 refine s_ef (k_box (cs := t_1) rfl rfl ?_)
 intro b3 hf_b3
 replace h := atE (h b3 hf_b3)
 refine sR (.bool false) (r_assign rfl rfl) ?_
 refine HL_nil ?_
 refine HC_seqJ (b88J1 b2 b3 R) ?_ ?_
 clear h; rintro E F ⟨h2, h3, h⟩
 unfold b88j1 at h
 refine cR (sR (.pointer (some (Addr.mk b2 0 none))) (w_fieldAddr h2 underlying96 rfl rfl sz4 rfl rfl) ?_)
 obtain ⟨v_25, hc25, h⟩ := h
 refine sR (.bool v_25) (r_load1 rfl rfl underlying4 rfl hc25) ?_
 refine sR (.pointer (some (Addr.mk b3 0 none))) (w_fieldAddr h3 underlying96 rfl rfl sz4 rfl rfl) ?_
 obtain ⟨v_27, hc27, h⟩ := h
 refine sR (.bool v_27) (r_load1 rfl rfl underlying4 rfl hc27) ?_
 refine sR (.bool (v_25 == v_27)) (r_eqlB rfl rfl rfl underlying4) ?_
 refine sR (.bool (v_25 == v_27)) (r_assign rfl rfl) ?_
 exact HL_nil (HC_ret (rt1 f88 R rfl rfl h))
 refine cR (sR (.int .i64 0) (r_assign rfl rfl) ?_)
 refine HL_nil ?_
 refine HC_block ?_
 obtain ⟨I1, m1, hI0, hr⟩ := h
 refine HC_loop (fun m1 E F => ∃ i_5 : Int, E 2 = (.pointer (some (Addr.mk b2 0 none))) ∧ E 3 = (.pointer (some (Addr.mk b3 0 none))) ∧ E 5 = (.int .i64 i_5) ∧ I1 m1 i_5 F) m1 ⟨_, rfl, rfl, rfl, hI0⟩ ?_
 clear hI0; rintro m1 E F ⟨i_5, h2, h3, h5, hI⟩
 have h := hr m1 i_5 F hI
 clear hr hI
 unfold b88L1 at h
 refine HC_seq ?_
 refine cR (sR _ (r_move rfl h5) ?_)
 refine sR (.pointer (some (Addr.mk b2 1 none))) (w_fieldAddr h2 underlying96 rfl rfl sz69 rfl rfl) ?_
 obtain ⟨v_8, hc8, h⟩ := h
 refine sR (Sl.v v_8) (r_load1 rfl rfl underlying69 rfl hc8) ?_
 refine sR (.int .i64 (v_8.len : Int)) (r_lenSl rfl rfl underlying69) ?_
 refine sR (.bool (decide (i_5 < (v_8.len : Int)))) (r_lss rfl rfl rfl) ?_
 refine HL_nil ?_
 refine HC_cond (t := (decide (i_5 < (v_8.len : Int)))) rfl (fun hc => ?_) (fun hc => ?_)
 replace h := h.1 (of_decide_eq_true hc)
 clear hc
 refine HC_skip ?_
 refine HC_seq ?_
 refine HC_block ?_
 refine HC_seq ?_
 refine HC_draw0 (by kernel_rfl) (fun hp => ?_)
 refine gU 0 (.pointer (some (Addr.mk b2 1 none))) rfl (fun _ => w_fieldAddr h2 underlying96 rfl rfl sz69 rfl rfl) hp ?_
 obtain ⟨v_14, hc14, h⟩ := h
 refine gR 1 (Sl.v v_14) rfl (r_load1 rfl rfl underlying69 rfl hc14) hp (fun S1 q1 => ?_)
 replace hp := holdC (i := 1) (q1 _ (r_load1 rfl rfl underlying69 rfl hc14)) hp
 refine gU 2 (.int .i64 i_5) rfl (fun _ => r_move rfl h5) hp ?_
 obtain ⟨a16_, hb16, hl16, hu16, h⟩ := h
 refine gU 3 (.pointer (some (Addr.add a16_ (Int.toNat i_5 * 1)))) rfl (fun _ => w_indexAddr rfl rfl underlying69 sz4 hb16 hl16 hu16) hp ?_
 obtain ⟨v_17, hc17, h⟩ := h
 refine gR 4 (.bool v_17) rfl (r_load1 rfl rfl underlying4 rfl hc17) hp (fun S4 q4 => ?_)
 replace hp := holdC (i := 4) (q4 _ (r_load1 rfl rfl underlying4 rfl hc17)) hp
 refine gU 5 (.pointer (some (Addr.mk b3 1 none))) rfl (fun _ => w_fieldAddr h3 underlying96 rfl rfl sz69 rfl rfl) hp ?_
 obtain ⟨v_19, hc19, h⟩ := h
 refine gR 6 (Sl.v v_19) rfl (r_load1 rfl rfl underlying69 rfl hc19) hp (fun S6 q6 => ?_)
 replace hp := holdC (i := 6) (q6 _ (r_load1 rfl rfl underlying69 rfl hc19)) hp
 refine gU 7 (.int .i64 i_5) rfl (fun _ => r_move rfl h5) hp ?_
 obtain ⟨a21_, hb21, hl21, hu21, h⟩ := h
 refine gU 8 (.pointer (some (Addr.add a21_ (Int.toNat i_5 * 1)))) rfl (fun _ => w_indexAddr rfl rfl underlying69 sz4 hb21 hl21 hu21) hp ?_
 obtain ⟨v_22, hc22, h⟩ := h
 refine gR 9 (.bool v_22) rfl (r_load1 rfl rfl underlying4 rfl hc22) hp (fun S9 q9 => ?_)
 replace hp := holdC (i := 9) (q9 _ (r_load1 rfl rfl underlying4 rfl hc22)) hp
 refine gU 10 (.bool (!(v_17 == v_22))) rfl (fun _ => r_neqB rfl rfl rfl underlying4) hp ?_
 refine RG_done (by kernel_rfl) ?_
 refine HC_cond (t := (!(v_17 == v_22))) rfl (fun hc => ?_) (fun hc => ?_)
 replace h := h.1 hc
 clear hc
 refine cR (sR (.bool false) (r_assign rfl rfl) ?_)
 exact HL_nil (HC_ret (rt1 f88 R rfl rfl h))
 replace h := h.2 hc
 clear hc
 refine HC_skip ?_
 refine HC_region ?_
 refine sR _ (r_move rfl h5) ?_
 refine sR (.int .i64 (IntKind.i64.wrap (i_5 + 1))) (r_add rfl rfl rfl) ?_
 refine sR (.int .i64 (IntKind.i64.wrap (i_5 + 1))) (r_assign rfl rfl) ?_
 refine HL_nil ?_
 obtain ⟨m', hm, h⟩ := h
 exact ⟨m', hm, _, h2, h3, rfl, h⟩
 replace h := h.2 (of_decide_eq_false hc)
 clear hc
 refine HC_exit ?_
 show b88J1 b2 b3 R _ _
 exact ⟨h2, h3, h⟩
 /- 64 koine.koineref04.met -/
def b64j1 (R : VP) (F : PH) :=
 R (.bool false) F
abbrev b64J1 (R : VP) (E : En) (F : PH) : Prop := b64j1 R F
def b64j2 (N1 : Int → PH → Prop) (l_0 : Sl) (b3 : Nat) (i_5 : Int) (R : VP) (F : PH) :=
 N1 (IntKind.i64.wrap (i_5 + 1)) F
abbrev b64J2 (N1 : Int → PH → Prop) (l_0 : Sl) (b3 : Nat) (i_5 : Int) (R : VP) (E : En) (F : PH) : Prop := E 0 = (Sl.v l_0) ∧ E 3 = (.pointer (some (Addr.mk b3 0 none))) ∧ E 5 = (.int .i64 i_5) ∧ b64j2 N1 l_0 b3 i_5 R F
def b64L1 (N1 : Int → PH → Prop) (l_0 : Sl) (b3 : Nat) (R : VP) (i_5 : Int) (F : PH) :=
 ((i_5 < (l_0.len : Int) →
  ∃ a14_ : Addr, l_0.base = some a14_ ∧ 0 ≤ i_5 ∧ i_5 < (l_0.len : Int) ∧
  ∃ v_16 : Array Value, v_16.size = 2 ∧ F.row (Addr.add a14_ (Int.toNat i_5 * 5)) v_16 ∧
  ∃ v_18 : Array Value, v_18.size = 2 ∧ F.row (Addr.mk b3 0 none) v_18 ∧
  Spec prog 88 #[(.agg v_16), (.agg v_18)] F fun v F => ∃ v_19 : Bool, v = (.bool v_19) ∧
  ((v_19 = true →
   ∃ a23_ : Addr, l_0.base = some a23_ ∧ 0 ≤ i_5 ∧ i_5 < (l_0.len : Int) ∧
   ∃ v_25 : Array Value, v_25.size = 2 ∧ F.row (Addr.add (Addr.add a23_ (Int.toNat i_5 * 5)) 2) v_25 ∧
   ∃ v_27 : Array Value, v_27.size = 2 ∧ F.row (Addr.mk b3 2 none) v_27 ∧
   Spec prog 88 #[(.agg v_25), (.agg v_27)] F fun v F => ∃ v_28 : Bool, v = (.bool v_28) ∧
   ((v_28 = true →
    R (.bool true) F) ∧
   (v_28 = false →
    b64j2 N1 l_0 b3 i_5 R F))) ∧
  (v_19 = false →
   b64j2 N1 l_0 b3 i_5 R F))) ∧
 (¬ (i_5 < (l_0.len : Int)) →
  b64j1 R F))
def b64 (l_0 : Sl) (x_1 : Array Value) (R : VP) (F : PH) :=
 ∀ b3, F b3 = none → atF (F.set b3 (.cells x_1 99)) fun F =>
 (∃ (I1 : Nat → Int → PH → Prop) (m1 : Nat), I1 m1 0 F ∧ ∀ m1 i_5 F, I1 m1 i_5 F →
  b64L1 (nx1 I1 m1) l_0 b3 R i_5 F)
theorem c64 {l_0 : Sl} {x_1 : Array Value} {R : VP} {F : PH} (h : b64 l_0 x_1 R F) : Spec prog 64 #[(Sl.v l_0), (.agg x_1)] F R := by
 refine spec_of (args := [(Sl.v l_0), (.agg x_1)]) func64 rfl ntmps64 rfl ?_
 unfold b64 at h
 refine cR ?_
 refine s_ef (k_box (cs := x_1) rfl rfl ?_)
 intro b3 hf_b3
 replace h := atE (h b3 hf_b3)
 refine sR (.bool false) (r_assign rfl rfl) ?_
 refine HL_nil ?_
 refine HC_seqJ (b64J1 R) ?_ ?_
 clear h; rintro E F h
 unfold b64J1 at h; unfold b64j1 at h
 refine cR (sR (.bool false) (r_assign rfl rfl) ?_)
 exact HL_nil (HC_ret (rt1 f64 R rfl rfl h))
 refine cR (sR (.int .i64 0) (r_assign rfl rfl) ?_)
 refine HL_nil ?_
 refine HC_block ?_
 obtain ⟨I1, m1, hI0, hr⟩ := h
 refine HC_loop (fun m1 E F => ∃ i_5 : Int, E 0 = (Sl.v l_0) ∧ E 3 = (.pointer (some (Addr.mk b3 0 none))) ∧ E 5 = (.int .i64 i_5) ∧ I1 m1 i_5 F) m1 ⟨_, rfl, rfl, rfl, hI0⟩ ?_
 clear hI0; rintro m1 E F ⟨i_5, h0, h3, h5, hI⟩
 have h := hr m1 i_5 F hI
 clear hr hI
 unfold b64L1 at h
 refine HC_seq ?_
 refine cR (sR _ (r_move rfl h5) ?_)
 refine sR _ (r_move rfl h0) ?_
 refine sR (.int .i64 (l_0.len : Int)) (r_lenSl rfl rfl underlying100) ?_
 refine sR (.bool (decide (i_5 < (l_0.len : Int)))) (r_lss rfl rfl rfl) ?_
 refine HL_nil ?_
 refine HC_cond (t := (decide (i_5 < (l_0.len : Int)))) rfl (fun hc => ?_) (fun hc => ?_)
 replace h := h.1 (of_decide_eq_true hc)
 clear hc
 refine HC_skip ?_
 refine HC_seqJ (b64J2 (nx1 I1 m1) l_0 b3 i_5 R) ?_ ?_
 clear h; rintro E F ⟨h0, h3, h5, h⟩
 unfold b64j2 at h
 refine HC_region ?_
 refine sR _ (r_move rfl h5) ?_
 refine sR (.int .i64 (IntKind.i64.wrap (i_5 + 1))) (r_add rfl rfl rfl) ?_
 refine sR (.int .i64 (IntKind.i64.wrap (i_5 + 1))) (r_assign rfl rfl) ?_
 refine HL_nil ?_
 obtain ⟨m', hm, h⟩ := h
 exact ⟨m', hm, _, h0, h3, rfl, h⟩
 refine HC_block ?_
 refine HC_seq ?_
 refine HC_draw0 (by kernel_rfl) (fun hp => ?_)
 refine gU 0 (Sl.v l_0) rfl (fun _ => r_move rfl h0) hp ?_
 refine gU 1 (.int .i64 i_5) rfl (fun _ => r_move rfl h5) hp ?_
 obtain ⟨a14_, hb14, hl14, hu14, h⟩ := h
 refine gU 2 (.pointer (some (Addr.add a14_ (Int.toNat i_5 * 5)))) rfl (fun _ => w_indexAddr rfl rfl underlying100 sz99 hb14 hl14 hu14) hp ?_
 refine gU 3 (.pointer (some (Addr.add a14_ (Int.toNat i_5 * 5)))) rfl (fun _ => w_fieldAddr rfl underlying99 rfl rfl sz96 rfl rfl) hp ?_
 obtain ⟨v_16, hs16, hc16, h⟩ := h
 refine gR 4 (.agg v_16) rfl (w_loadN rfl underlying96 rfl sz96 hs16 hc16) hp (fun S4 q4 => ?_)
 replace hp := holdC (i := 4) (q4 _ (w_loadN rfl underlying96 rfl sz96 hs16 hc16)) hp
 refine gU 5 (.pointer (some (Addr.mk b3 0 none))) rfl (fun _ => w_fieldAddr h3 underlying99 rfl rfl sz96 rfl rfl) hp ?_
 obtain ⟨v_18, hs18, hc18, h⟩ := h
 refine gR 6 (.agg v_18) rfl (w_loadN rfl underlying96 rfl sz96 hs18 hc18) hp (fun S6 q6 => ?_)
 replace hp := holdC (i := 6) (q6 _ (w_loadN rfl underlying96 rfl sz96 hs18 hc18)) hp
 refine RG_eff1 (i := 7) (by kernel_rfl) (g_op (Sp' := []) rfl rfl (k_call (vs := [(.agg v_16), (.agg v_18)]) cb88 (evC rfl (evC rfl evN)) (h.mono ?_)))
 clear h; rintro v F ⟨v_19, rfl, h⟩
 refine holdI hold0 (fun hp => ?_)
 refine gU 8 (.bool v_19) rfl (fun _ => r_move rfl rfl) hp ?_
 by_cases hc : v_19 = true
 replace h := h.1 hc
 refine RG_known (t := 19) (v := .bool true) (congrArg Value.bool hc) ?_
 refine RG_known (t := 20) (v := .bool true) (congrArg Value.bool hc) ?_
 refine gU 9 (Sl.v l_0) rfl (fun _ => r_move rfl h0) hp ?_
 refine gU 10 (.int .i64 i_5) rfl (fun _ => r_move rfl h5) hp ?_
 obtain ⟨a23_, hb23, hl23, hu23, h⟩ := h
 refine gU 11 (.pointer (some (Addr.add a23_ (Int.toNat i_5 * 5)))) rfl (fun _ => w_indexAddr rfl rfl underlying100 sz99 hb23 hl23 hu23) hp ?_
 refine gU 12 (.pointer (some (Addr.add (Addr.add a23_ (Int.toNat i_5 * 5)) 2))) rfl (fun _ => w_fieldAddr rfl underlying99 rfl rfl sz96 rfl rfl) hp ?_
 obtain ⟨v_25, hs25, hc25, h⟩ := h
 refine gR 13 (.agg v_25) rfl (w_loadN rfl underlying96 rfl sz96 hs25 hc25) hp (fun S13 q13 => ?_)
 replace hp := holdC (i := 13) (q13 _ (w_loadN rfl underlying96 rfl sz96 hs25 hc25)) hp
 refine gU 14 (.pointer (some (Addr.mk b3 2 none))) rfl (fun _ => w_fieldAddr h3 underlying99 rfl rfl sz96 rfl rfl) hp ?_
 obtain ⟨v_27, hs27, hc27, h⟩ := h
 refine gR 15 (.agg v_27) rfl (w_loadN rfl underlying96 rfl sz96 hs27 hc27) hp (fun S15 q15 => ?_)
 replace hp := holdC (i := 15) (q15 _ (w_loadN rfl underlying96 rfl sz96 hs27 hc27)) hp
 refine RG_eff1 (i := 16) (by kernel_rfl) (g_op (Sp' := []) rfl rfl (k_call (vs := [(.agg v_25), (.agg v_27)]) cb88 (evC rfl (evC rfl evN)) (h.mono ?_)))
 clear h; rintro v F ⟨v_28, rfl, h⟩
 refine holdI hold0 (fun hp => ?_)
 refine gU 17 (.bool v_28) rfl (fun _ => r_pick rfl rfl (fun _ => rfl) (fun h => by cases h)) hp ?_
 refine RG_done (by kernel_rfl) ?_
 refine HC_cond (t := v_28) rfl (fun hc => ?_) (fun hc => ?_)
 replace h := h.1 hc
 clear hc
 refine cR (sR (.bool true) (r_assign rfl rfl) ?_)
 exact HL_nil (HC_ret (rt1 f64 R rfl rfl h))
 replace h := h.2 hc
 clear hc
 refine HC_skip ?_
 show b64J2 (nx1 I1 m1) l_0 b3 i_5 R _ _
 exact ⟨h0, h3, h5, h⟩
 replace hc := eq_false_of_ne_true hc; replace h := h.2 hc
 refine RG_known (t := 19) (v := .bool false) (congrArg Value.bool hc) ?_
 refine RG_known (t := 20) (v := .bool false) (congrArg Value.bool hc) ?_
 refine gS 9 rfl hp ?_
 refine gS 10 rfl hp ?_
 refine gS 11 rfl hp ?_
 refine gS 12 rfl hp ?_
 refine gS 13 rfl hp ?_
 refine gS 14 rfl hp ?_
 refine gS 15 rfl hp ?_
 refine gS 16 rfl hp ?_
 refine gU 17 (.bool false) rfl (fun _ => r_pick rfl rfl (fun h => by cases h) (fun _ => rfl)) hp ?_
 refine RG_done (by kernel_rfl) ?_
 refine HC_condF rfl ?_
 refine HC_skip ?_
 show b64J2 (nx1 I1 m1) l_0 b3 i_5 R _ _
 exact ⟨h0, h3, h5, h⟩
 replace h := h.2 (of_decide_eq_false hc)
 clear hc
 refine HC_exit ?_
 exact h
 /- 32 koine.koineref04.Common -/
abbrev x32 (a b : Array Value) (c d : ByteArray) : Array Value := Array.setIfInBounds (wr (wr (#[.bool false, .slice none 0 0, .bool false, .slice none 0 0, .string ⟨#[]⟩] : Array Value) 0 a.toList) 2 b.toList) 4 (.string (c ++ d))
def b32j1 (R : VP) (F : PH) :=
 R (.tuple #[(.string (ByteArray.mk #[])), (.int .i64 3)]) F
abbrev b32J1 (R : VP) (E : En) (F : PH) : Prop := b32j1 R F
def b32j2 (N1 : Sl → Int → PH → Prop) (p_0 : Sl) (q_1 : Sl) (i_9 : Int) (l_8_1 : Sl) (R : VP) (F : PH) :=
 N1 l_8_1 (IntKind.i64.wrap (i_9 + 1)) F
abbrev b32J2 (N1 : Sl → Int → PH → Prop) (p_0 : Sl) (q_1 : Sl) (i_9 : Int) (R : VP) (E : En) (F : PH) : Prop := ∃ l_8_1 : Sl, E 0 = (Sl.v p_0) ∧ E 1 = (Sl.v q_1) ∧ E 8 = (Sl.v l_8_1) ∧ E 9 = (.int .i64 i_9) ∧ b32j2 N1 p_0 q_1 i_9 l_8_1 R F
def b32j3 (N1 : Sl → Int → PH → Prop) (N2 : Sl → Int → PH → Prop) (p_0 : Sl) (q_1 : Sl) (i_9 : Int) (b_10 : Int) (l_8_3 : Sl) (R : VP) (F : PH) :=
 N2 l_8_3 (IntKind.i64.wrap (b_10 + 1)) F
abbrev b32J3 (N1 : Sl → Int → PH → Prop) (N2 : Sl → Int → PH → Prop) (p_0 : Sl) (q_1 : Sl) (i_9 : Int) (b_10 : Int) (R : VP) (E : En) (F : PH) : Prop := ∃ l_8_3 : Sl, E 0 = (Sl.v p_0) ∧ E 1 = (Sl.v q_1) ∧ E 8 = (Sl.v l_8_3) ∧ E 9 = (.int .i64 i_9) ∧ E 10 = (.int .i64 b_10) ∧ b32j3 N1 N2 p_0 q_1 i_9 b_10 l_8_3 R F
def b32j6 (N1 : Sl → Int → PH → Prop) (N2 : Sl → Int → PH → Prop) (p_0 : Sl) (q_1 : Sl) (l_8_2 : Sl) (i_9 : Int) (b_10 : Int) (x_11 : Option Addr) (v_90 : Bool) (R : VP) (F : PH) :=
 ((v_90 = true →
  ∃ x11a__1 : Addr, x_11 = some x11a__1 ∧ ∃ v_92 : Array Value, v_92.size = 5 ∧ F.row x11a__1 v_92 ∧
  v_92.size = 5 ∧ ∀ b93, F b93 = none → atF (F.set b93 (.cells v_92 99)) fun F =>
  runs prog (Builtin.append_ #[100, 100] 100 #[(Sl.v l_8_2), (Sl.v (Sl.mk (some (Addr.mk b93 0 none)) 1 1))]) F fun v F => ∃ v_94 : Sl, v = (Sl.v v_94) ∧
  b32j3 N1 N2 p_0 q_1 i_9 b_10 v_94 R F) ∧
 (v_90 = false →
  b32j3 N1 N2 p_0 q_1 i_9 b_10 l_8_2 R F))
abbrev b32J6 (N1 : Sl → Int → PH → Prop) (N2 : Sl → Int → PH → Prop) (p_0 : Sl) (q_1 : Sl) (l_8_2 : Sl) (i_9 : Int) (b_10 : Int) (x_11 : Option Addr) (R : VP) (E : En) (F : PH) : Prop := ∃ v_90 : Bool, E 0 = (Sl.v p_0) ∧ E 1 = (Sl.v q_1) ∧ E 8 = (Sl.v l_8_2) ∧ E 9 = (.int .i64 i_9) ∧ E 10 = (.int .i64 b_10) ∧ E 11 = (.pointer x_11) ∧ E 90 = (.bool v_90) ∧ b32j6 N1 N2 p_0 q_1 l_8_2 i_9 b_10 x_11 v_90 R F
def b32j5 (N1 : Sl → Int → PH → Prop) (N2 : Sl → Int → PH → Prop) (p_0 : Sl) (q_1 : Sl) (l_8_2 : Sl) (i_9 : Int) (b_10 : Int) (x_11 : Option Addr) (v_72 : Bool) (R : VP) (F : PH) :=
 ((v_72 = true →
  ∃ x11a_ : Addr, x_11 = some x11a_ ∧ ∃ v_74 : ByteArray, F.cell (Addr.add x11a_ 4) = some (.string v_74) ∧
  R (.tuple #[(.string v_74), (.int .i64 0)]) F) ∧
 (v_72 = false →
  ∃ x11a__2 : Addr, x_11 = some x11a__2 ∧ ∃ v_76 : Array Value, v_76.size = 2 ∧ F.row x11a__2 v_76 ∧
  Spec prog 63 #[(.agg v_76)] F fun v F => ∃ v_77 : Bool, v = (.bool v_77) ∧
  (((!v_77) = true →
   ∃ v_81 : Array Value, v_81.size = 2 ∧ F.row (Addr.add x11a__2 2) v_81 ∧
   Spec prog 63 #[(.agg v_81)] F fun v F => ∃ v_82 : Bool, v = (.bool v_82) ∧
   (((!v_82) = true →
    ∃ v_87 : Array Value, v_87.size = 5 ∧ F.row x11a__2 v_87 ∧
    Spec prog 64 #[(Sl.v l_8_2), (.agg v_87)] F fun v F => ∃ v_88 : Bool, v = (.bool v_88) ∧
    b32j6 N1 N2 p_0 q_1 l_8_2 i_9 b_10 (some x11a__2) (!v_88) R F) ∧
   ((!v_82) = false →
    b32j6 N1 N2 p_0 q_1 l_8_2 i_9 b_10 (some x11a__2) false R F))) ∧
  ((!v_77) = false →
   b32j6 N1 N2 p_0 q_1 l_8_2 i_9 b_10 (some x11a__2) false R F))))
abbrev b32J5 (N1 : Sl → Int → PH → Prop) (N2 : Sl → Int → PH → Prop) (p_0 : Sl) (q_1 : Sl) (l_8_2 : Sl) (i_9 : Int) (b_10 : Int) (x_11 : Option Addr) (R : VP) (E : En) (F : PH) : Prop := ∃ v_72 : Bool, E 0 = (Sl.v p_0) ∧ E 1 = (Sl.v q_1) ∧ E 8 = (Sl.v l_8_2) ∧ E 9 = (.int .i64 i_9) ∧ E 10 = (.int .i64 b_10) ∧ E 11 = (.pointer x_11) ∧ E 72 = (.bool v_72) ∧ b32j5 N1 N2 p_0 q_1 l_8_2 i_9 b_10 x_11 v_72 R F
def b32j4 (N1 : Sl → Int → PH → Prop) (N2 : Sl → Int → PH → Prop) (p_0 : Sl) (q_1 : Sl) (l_8_2 : Sl) (i_9 : Int) (b_10 : Int) (x_11 : Option Addr) (R : VP) (F : PH) :=
 ∃ x11a__3 : Addr, x_11 = some x11a__3 ∧ ∃ v_67 : Bool, F.cell x11a__3 = some (.bool v_67) ∧
 ((v_67 = true →
  ∃ v_71 : Bool, F.cell (Addr.add x11a__3 2) = some (.bool v_71) ∧
  b32j5 N1 N2 p_0 q_1 l_8_2 i_9 b_10 (some x11a__3) v_71 R F) ∧
 (v_67 = false →
  b32j5 N1 N2 p_0 q_1 l_8_2 i_9 b_10 (some x11a__3) false R F))
abbrev b32J4 (N1 : Sl → Int → PH → Prop) (N2 : Sl → Int → PH → Prop) (p_0 : Sl) (q_1 : Sl) (l_8_2 : Sl) (i_9 : Int) (b_10 : Int) (R : VP) (E : En) (F : PH) : Prop := ∃ x_11 : Option Addr, E 0 = (Sl.v p_0) ∧ E 1 = (Sl.v q_1) ∧ E 8 = (Sl.v l_8_2) ∧ E 9 = (.int .i64 i_9) ∧ E 10 = (.int .i64 b_10) ∧ E 11 = (.pointer x_11) ∧ b32j4 N1 N2 p_0 q_1 l_8_2 i_9 b_10 x_11 R F
def b32L2 (N1 : Sl → Int → PH → Prop) (N2 : Sl → Int → PH → Prop) (p_0 : Sl) (q_1 : Sl) (i_9 : Int) (R : VP) (l_8_2 : Sl) (b_10 : Int) (F : PH) :=
 ((b_10 < 256 →
  ∃ a41_ : Addr, l_8_2.base = some a41_ ∧ 0 ≤ i_9 ∧ i_9 < (l_8_2.len : Int) ∧
  ∃ v_43 : Array Value, v_43.size = 2 ∧ F.row (Addr.add a41_ (Int.toNat i_9 * 5)) v_43 ∧
  ∃ a49_ : Addr, l_8_2.base = some a49_ ∧ 0 ≤ i_9 ∧ i_9 < (l_8_2.len : Int) ∧
  ∃ v_51 : Array Value, v_51.size = 2 ∧ F.row (Addr.add (Addr.add a49_ (Int.toNat i_9 * 5)) 2) v_51 ∧
  ∃ a56_ : Addr, l_8_2.base = some a56_ ∧ 0 ≤ i_9 ∧ i_9 < (l_8_2.len : Int) ∧
  ∃ v_58 : ByteArray, F.cell (Addr.add (Addr.add a56_ (Int.toNat i_9 * 5)) 4) = some (.string v_58) ∧
  ((Spec prog 62 #[(Sl.v p_0), (.agg v_43), (.int .i64 b_10)] F fun v F => ∃ v_45 : Array Value, v = (.agg v_45) ∧
  F.cell (Addr.add (Addr.add a56_ (Int.toNat i_9 * 5)) 4) = some (.string v_58) ∧ F.row (Addr.add (Addr.add a49_ (Int.toNat i_9 * 5)) 2) v_51 ∧ ((Spec prog 62 #[(Sl.v q_1), (.agg v_51), (.int .i64 b_10)] F fun v F => ∃ v_53 : Array Value, v = (.agg v_53) ∧
  F.cell (Addr.add (Addr.add a56_ (Int.toNat i_9 * 5)) 4) = some (.string v_58) ∧ ((∀ b61, F b61 = none → atF (F.set b61 (.cells #[(.int .u8 (IntKind.u8.wrap b_10))] 5)) fun F =>
  ∃ v_62 : ByteArray, rdo prog (Conv.bytesToString (Sl.v (Sl.mk (some (Addr.mk b61 0 none)) 1 1))) F (.string v_62) ∧
  v_58.size + v_62.size ≤ 9223372036854775807 ∧
  v_45.size = 2 ∧ v_53.size = 2 ∧ ∀ b11, F b11 = none → atF (F.set b11 (.cells (#[.bool false, .slice none 0 0, .bool false, .slice none 0 0, .string ⟨#[]⟩]) 99)) fun F =>
  rdo prog (Conv.bytesToString (Sl.v (Sl.mk (some (Addr.mk b61 0 none)) 1 1))) F (.string v_62) ∧ (x32 v_45 v_53 v_58 v_62).size = 5 ∧ (∀ v ∈ (x32 v_45 v_53 v_58 v_62).toList, storable v) ∧ ∃ c e, F (Addr.mk b11 0 none).block = some (.cells c e (0, 0)) ∧ (Addr.mk b11 0 none).spot = none ∧ (Addr.mk b11 0 none).off + 5 ≤ c.size ∧
  atF (F.set (Addr.mk b11 0 none).block (.cells (wr c (Addr.mk b11 0 none).off (x32 v_45 v_53 v_58 v_62).toList) e)) fun F =>
  b32j4 N1 N2 p_0 q_1 l_8_2 i_9 b_10 (some (Addr.mk b11 0 none)) R F) ∧
  (∀ b11_1, F b11_1 = none → atF (F.set b11_1 (.cells (#[.bool false, .slice none 0 0, .bool false, .slice none 0 0, .string ⟨#[]⟩]) 99)) fun F =>
  ∀ b61_1, F b61_1 = none → atF (F.set b61_1 (.cells #[(.int .u8 (IntKind.u8.wrap b_10))] 5)) fun F =>
  ∃ v_62_1 : ByteArray, rdo prog (Conv.bytesToString (Sl.v (Sl.mk (some (Addr.mk b61_1 0 none)) 1 1))) F (.string v_62_1) ∧
  v_58.size + v_62_1.size ≤ 9223372036854775807 ∧
  v_45.size = 2 ∧ v_53.size = 2 ∧ (x32 v_45 v_53 v_58 v_62_1).size = 5 ∧ (∀ v ∈ (x32 v_45 v_53 v_58 v_62_1).toList, storable v) ∧ ∃ c e, F (Addr.mk b11_1 0 none).block = some (.cells c e (0, 0)) ∧ (Addr.mk b11_1 0 none).spot = none ∧ (Addr.mk b11_1 0 none).off + 5 ≤ c.size ∧
  atF (F.set (Addr.mk b11_1 0 none).block (.cells (wr c (Addr.mk b11_1 0 none).off (x32 v_45 v_53 v_58 v_62_1).toList) e)) fun F =>
  b32j4 N1 N2 p_0 q_1 l_8_2 i_9 b_10 (some (Addr.mk b11_1 0 none)) R F))) ∧
  (∀ b61_2, F b61_2 = none → atF (F.set b61_2 (.cells #[(.int .u8 (IntKind.u8.wrap b_10))] 5)) fun F =>
  ∃ v_62_2 : ByteArray, rdo prog (Conv.bytesToString (Sl.v (Sl.mk (some (Addr.mk b61_2 0 none)) 1 1))) F (.string v_62_2) ∧
  v_58.size + v_62_2.size ≤ 9223372036854775807 ∧
  ((Spec prog 62 #[(Sl.v q_1), (.agg v_51), (.int .i64 b_10)] F fun v F => ∃ v_53_1 : Array Value, v = (.agg v_53_1) ∧
  rdo prog (Conv.bytesToString (Sl.v (Sl.mk (some (Addr.mk b61_2 0 none)) 1 1))) F (.string v_62_2) ∧ F.cell (Addr.add (Addr.add a56_ (Int.toNat i_9 * 5)) 4) = some (.string v_58) ∧ v_45.size = 2 ∧ v_53_1.size = 2 ∧ ∀ b11_2, F b11_2 = none → atF (F.set b11_2 (.cells (#[.bool false, .slice none 0 0, .bool false, .slice none 0 0, .string ⟨#[]⟩]) 99)) fun F =>
  rdo prog (Conv.bytesToString (Sl.v (Sl.mk (some (Addr.mk b61_2 0 none)) 1 1))) F (.string v_62_2) ∧ (x32 v_45 v_53_1 v_58 v_62_2).size = 5 ∧ (∀ v ∈ (x32 v_45 v_53_1 v_58 v_62_2).toList, storable v) ∧ ∃ c e, F (Addr.mk b11_2 0 none).block = some (.cells c e (0, 0)) ∧ (Addr.mk b11_2 0 none).spot = none ∧ (Addr.mk b11_2 0 none).off + 5 ≤ c.size ∧
  atF (F.set (Addr.mk b11_2 0 none).block (.cells (wr c (Addr.mk b11_2 0 none).off (x32 v_45 v_53_1 v_58 v_62_2).toList) e)) fun F =>
  b32j4 N1 N2 p_0 q_1 l_8_2 i_9 b_10 (some (Addr.mk b11_2 0 none)) R F) ∧
  (∀ b11_3, F b11_3 = none → atF (F.set b11_3 (.cells (#[.bool false, .slice none 0 0, .bool false, .slice none 0 0, .string ⟨#[]⟩]) 99)) fun F =>
  rdo prog (Conv.bytesToString (Sl.v (Sl.mk (some (Addr.mk b61_2 0 none)) 1 1))) F (.string v_62_2) ∧ Spec prog 62 #[(Sl.v q_1), (.agg v_51), (.int .i64 b_10)] F fun v F => ∃ v_53_2 : Array Value, v = (.agg v_53_2) ∧
  rdo prog (Conv.bytesToString (Sl.v (Sl.mk (some (Addr.mk b61_2 0 none)) 1 1))) F (.string v_62_2) ∧ F.cell (Addr.add (Addr.add a56_ (Int.toNat i_9 * 5)) 4) = some (.string v_58) ∧ v_45.size = 2 ∧ v_53_2.size = 2 ∧ (x32 v_45 v_53_2 v_58 v_62_2).size = 5 ∧ (∀ v ∈ (x32 v_45 v_53_2 v_58 v_62_2).toList, storable v) ∧ ∃ c e, F (Addr.mk b11_3 0 none).block = some (.cells c e (0, 0)) ∧ (Addr.mk b11_3 0 none).spot = none ∧ (Addr.mk b11_3 0 none).off + 5 ≤ c.size ∧
  atF (F.set (Addr.mk b11_3 0 none).block (.cells (wr c (Addr.mk b11_3 0 none).off (x32 v_45 v_53_2 v_58 v_62_2).toList) e)) fun F =>
  b32j4 N1 N2 p_0 q_1 l_8_2 i_9 b_10 (some (Addr.mk b11_3 0 none)) R F))) ∧
  (∀ b11_4, F b11_4 = none → atF (F.set b11_4 (.cells (#[.bool false, .slice none 0 0, .bool false, .slice none 0 0, .string ⟨#[]⟩]) 99)) fun F =>
  ((Spec prog 62 #[(Sl.v q_1), (.agg v_51), (.int .i64 b_10)] F fun v F => ∃ v_53_3 : Array Value, v = (.agg v_53_3) ∧
  F.cell (Addr.add (Addr.add a56_ (Int.toNat i_9 * 5)) 4) = some (.string v_58) ∧ ∀ b61_3, F b61_3 = none → atF (F.set b61_3 (.cells #[(.int .u8 (IntKind.u8.wrap b_10))] 5)) fun F =>
  ∃ v_62_3 : ByteArray, rdo prog (Conv.bytesToString (Sl.v (Sl.mk (some (Addr.mk b61_3 0 none)) 1 1))) F (.string v_62_3) ∧
  v_58.size + v_62_3.size ≤ 9223372036854775807 ∧
  v_45.size = 2 ∧ v_53_3.size = 2 ∧ (x32 v_45 v_53_3 v_58 v_62_3).size = 5 ∧ (∀ v ∈ (x32 v_45 v_53_3 v_58 v_62_3).toList, storable v) ∧ ∃ c e, F (Addr.mk b11_4 0 none).block = some (.cells c e (0, 0)) ∧ (Addr.mk b11_4 0 none).spot = none ∧ (Addr.mk b11_4 0 none).off + 5 ≤ c.size ∧
  atF (F.set (Addr.mk b11_4 0 none).block (.cells (wr c (Addr.mk b11_4 0 none).off (x32 v_45 v_53_3 v_58 v_62_3).toList) e)) fun F =>
  b32j4 N1 N2 p_0 q_1 l_8_2 i_9 b_10 (some (Addr.mk b11_4 0 none)) R F) ∧
  (∀ b61_4, F b61_4 = none → atF (F.set b61_4 (.cells #[(.int .u8 (IntKind.u8.wrap b_10))] 5)) fun F =>
  ∃ v_62_4 : ByteArray, rdo prog (Conv.bytesToString (Sl.v (Sl.mk (some (Addr.mk b61_4 0 none)) 1 1))) F (.string v_62_4) ∧
  v_58.size + v_62_4.size ≤ 9223372036854775807 ∧
  Spec prog 62 #[(Sl.v q_1), (.agg v_51), (.int .i64 b_10)] F fun v F => ∃ v_53_4 : Array Value, v = (.agg v_53_4) ∧
  rdo prog (Conv.bytesToString (Sl.v (Sl.mk (some (Addr.mk b61_4 0 none)) 1 1))) F (.string v_62_4) ∧ F.cell (Addr.add (Addr.add a56_ (Int.toNat i_9 * 5)) 4) = some (.string v_58) ∧ v_45.size = 2 ∧ v_53_4.size = 2 ∧ (x32 v_45 v_53_4 v_58 v_62_4).size = 5 ∧ (∀ v ∈ (x32 v_45 v_53_4 v_58 v_62_4).toList, storable v) ∧ ∃ c e, F (Addr.mk b11_4 0 none).block = some (.cells c e (0, 0)) ∧ (Addr.mk b11_4 0 none).spot = none ∧ (Addr.mk b11_4 0 none).off + 5 ≤ c.size ∧
  atF (F.set (Addr.mk b11_4 0 none).block (.cells (wr c (Addr.mk b11_4 0 none).off (x32 v_45 v_53_4 v_58 v_62_4).toList) e)) fun F =>
  b32j4 N1 N2 p_0 q_1 l_8_2 i_9 b_10 (some (Addr.mk b11_4 0 none)) R F))))) ∧
  (∀ b61_5, F b61_5 = none → atF (F.set b61_5 (.cells #[(.int .u8 (IntKind.u8.wrap b_10))] 5)) fun F =>
  ∃ v_62_5 : ByteArray, rdo prog (Conv.bytesToString (Sl.v (Sl.mk (some (Addr.mk b61_5 0 none)) 1 1))) F (.string v_62_5) ∧
  v_58.size + v_62_5.size ≤ 9223372036854775807 ∧
  ((Spec prog 62 #[(Sl.v p_0), (.agg v_43), (.int .i64 b_10)] F fun v F => ∃ v_45_1 : Array Value, v = (.agg v_45_1) ∧
  rdo prog (Conv.bytesToString (Sl.v (Sl.mk (some (Addr.mk b61_5 0 none)) 1 1))) F (.string v_62_5) ∧ F.cell (Addr.add (Addr.add a56_ (Int.toNat i_9 * 5)) 4) = some (.string v_58) ∧ F.row (Addr.add (Addr.add a49_ (Int.toNat i_9 * 5)) 2) v_51 ∧ ((Spec prog 62 #[(Sl.v q_1), (.agg v_51), (.int .i64 b_10)] F fun v F => ∃ v_53_5 : Array Value, v = (.agg v_53_5) ∧
  rdo prog (Conv.bytesToString (Sl.v (Sl.mk (some (Addr.mk b61_5 0 none)) 1 1))) F (.string v_62_5) ∧ F.cell (Addr.add (Addr.add a56_ (Int.toNat i_9 * 5)) 4) = some (.string v_58) ∧ v_45_1.size = 2 ∧ v_53_5.size = 2 ∧ ∀ b11_5, F b11_5 = none → atF (F.set b11_5 (.cells (#[.bool false, .slice none 0 0, .bool false, .slice none 0 0, .string ⟨#[]⟩]) 99)) fun F =>
  rdo prog (Conv.bytesToString (Sl.v (Sl.mk (some (Addr.mk b61_5 0 none)) 1 1))) F (.string v_62_5) ∧ (x32 v_45_1 v_53_5 v_58 v_62_5).size = 5 ∧ (∀ v ∈ (x32 v_45_1 v_53_5 v_58 v_62_5).toList, storable v) ∧ ∃ c e, F (Addr.mk b11_5 0 none).block = some (.cells c e (0, 0)) ∧ (Addr.mk b11_5 0 none).spot = none ∧ (Addr.mk b11_5 0 none).off + 5 ≤ c.size ∧
  atF (F.set (Addr.mk b11_5 0 none).block (.cells (wr c (Addr.mk b11_5 0 none).off (x32 v_45_1 v_53_5 v_58 v_62_5).toList) e)) fun F =>
  b32j4 N1 N2 p_0 q_1 l_8_2 i_9 b_10 (some (Addr.mk b11_5 0 none)) R F) ∧
  (∀ b11_6, F b11_6 = none → atF (F.set b11_6 (.cells (#[.bool false, .slice none 0 0, .bool false, .slice none 0 0, .string ⟨#[]⟩]) 99)) fun F =>
  rdo prog (Conv.bytesToString (Sl.v (Sl.mk (some (Addr.mk b61_5 0 none)) 1 1))) F (.string v_62_5) ∧ Spec prog 62 #[(Sl.v q_1), (.agg v_51), (.int .i64 b_10)] F fun v F => ∃ v_53_6 : Array Value, v = (.agg v_53_6) ∧
  rdo prog (Conv.bytesToString (Sl.v (Sl.mk (some (Addr.mk b61_5 0 none)) 1 1))) F (.string v_62_5) ∧ F.cell (Addr.add (Addr.add a56_ (Int.toNat i_9 * 5)) 4) = some (.string v_58) ∧ v_45_1.size = 2 ∧ v_53_6.size = 2 ∧ (x32 v_45_1 v_53_6 v_58 v_62_5).size = 5 ∧ (∀ v ∈ (x32 v_45_1 v_53_6 v_58 v_62_5).toList, storable v) ∧ ∃ c e, F (Addr.mk b11_6 0 none).block = some (.cells c e (0, 0)) ∧ (Addr.mk b11_6 0 none).spot = none ∧ (Addr.mk b11_6 0 none).off + 5 ≤ c.size ∧
  atF (F.set (Addr.mk b11_6 0 none).block (.cells (wr c (Addr.mk b11_6 0 none).off (x32 v_45_1 v_53_6 v_58 v_62_5).toList) e)) fun F =>
  b32j4 N1 N2 p_0 q_1 l_8_2 i_9 b_10 (some (Addr.mk b11_6 0 none)) R F))) ∧
  (∀ b11_7, F b11_7 = none → atF (F.set b11_7 (.cells (#[.bool false, .slice none 0 0, .bool false, .slice none 0 0, .string ⟨#[]⟩]) 99)) fun F =>
  rdo prog (Conv.bytesToString (Sl.v (Sl.mk (some (Addr.mk b61_5 0 none)) 1 1))) F (.string v_62_5) ∧ Spec prog 62 #[(Sl.v p_0), (.agg v_43), (.int .i64 b_10)] F fun v F => ∃ v_45_2 : Array Value, v = (.agg v_45_2) ∧
  rdo prog (Conv.bytesToString (Sl.v (Sl.mk (some (Addr.mk b61_5 0 none)) 1 1))) F (.string v_62_5) ∧ F.cell (Addr.add (Addr.add a56_ (Int.toNat i_9 * 5)) 4) = some (.string v_58) ∧ F.row (Addr.add (Addr.add a49_ (Int.toNat i_9 * 5)) 2) v_51 ∧ Spec prog 62 #[(Sl.v q_1), (.agg v_51), (.int .i64 b_10)] F fun v F => ∃ v_53_7 : Array Value, v = (.agg v_53_7) ∧
  rdo prog (Conv.bytesToString (Sl.v (Sl.mk (some (Addr.mk b61_5 0 none)) 1 1))) F (.string v_62_5) ∧ F.cell (Addr.add (Addr.add a56_ (Int.toNat i_9 * 5)) 4) = some (.string v_58) ∧ v_45_2.size = 2 ∧ v_53_7.size = 2 ∧ (x32 v_45_2 v_53_7 v_58 v_62_5).size = 5 ∧ (∀ v ∈ (x32 v_45_2 v_53_7 v_58 v_62_5).toList, storable v) ∧ ∃ c e, F (Addr.mk b11_7 0 none).block = some (.cells c e (0, 0)) ∧ (Addr.mk b11_7 0 none).spot = none ∧ (Addr.mk b11_7 0 none).off + 5 ≤ c.size ∧
  atF (F.set (Addr.mk b11_7 0 none).block (.cells (wr c (Addr.mk b11_7 0 none).off (x32 v_45_2 v_53_7 v_58 v_62_5).toList) e)) fun F =>
  b32j4 N1 N2 p_0 q_1 l_8_2 i_9 b_10 (some (Addr.mk b11_7 0 none)) R F))) ∧
  (∀ b11_8, F b11_8 = none → atF (F.set b11_8 (.cells (#[.bool false, .slice none 0 0, .bool false, .slice none 0 0, .string ⟨#[]⟩]) 99)) fun F =>
  ((Spec prog 62 #[(Sl.v p_0), (.agg v_43), (.int .i64 b_10)] F fun v F => ∃ v_45_3 : Array Value, v = (.agg v_45_3) ∧
  F.cell (Addr.add (Addr.add a56_ (Int.toNat i_9 * 5)) 4) = some (.string v_58) ∧ F.row (Addr.add (Addr.add a49_ (Int.toNat i_9 * 5)) 2) v_51 ∧ ((Spec prog 62 #[(Sl.v q_1), (.agg v_51), (.int .i64 b_10)] F fun v F => ∃ v_53_8 : Array Value, v = (.agg v_53_8) ∧
  F.cell (Addr.add (Addr.add a56_ (Int.toNat i_9 * 5)) 4) = some (.string v_58) ∧ ∀ b61_6, F b61_6 = none → atF (F.set b61_6 (.cells #[(.int .u8 (IntKind.u8.wrap b_10))] 5)) fun F =>
  ∃ v_62_6 : ByteArray, rdo prog (Conv.bytesToString (Sl.v (Sl.mk (some (Addr.mk b61_6 0 none)) 1 1))) F (.string v_62_6) ∧
  v_58.size + v_62_6.size ≤ 9223372036854775807 ∧
  v_45_3.size = 2 ∧ v_53_8.size = 2 ∧ (x32 v_45_3 v_53_8 v_58 v_62_6).size = 5 ∧ (∀ v ∈ (x32 v_45_3 v_53_8 v_58 v_62_6).toList, storable v) ∧ ∃ c e, F (Addr.mk b11_8 0 none).block = some (.cells c e (0, 0)) ∧ (Addr.mk b11_8 0 none).spot = none ∧ (Addr.mk b11_8 0 none).off + 5 ≤ c.size ∧
  atF (F.set (Addr.mk b11_8 0 none).block (.cells (wr c (Addr.mk b11_8 0 none).off (x32 v_45_3 v_53_8 v_58 v_62_6).toList) e)) fun F =>
  b32j4 N1 N2 p_0 q_1 l_8_2 i_9 b_10 (some (Addr.mk b11_8 0 none)) R F) ∧
  (∀ b61_7, F b61_7 = none → atF (F.set b61_7 (.cells #[(.int .u8 (IntKind.u8.wrap b_10))] 5)) fun F =>
  ∃ v_62_7 : ByteArray, rdo prog (Conv.bytesToString (Sl.v (Sl.mk (some (Addr.mk b61_7 0 none)) 1 1))) F (.string v_62_7) ∧
  v_58.size + v_62_7.size ≤ 9223372036854775807 ∧
  Spec prog 62 #[(Sl.v q_1), (.agg v_51), (.int .i64 b_10)] F fun v F => ∃ v_53_9 : Array Value, v = (.agg v_53_9) ∧
  rdo prog (Conv.bytesToString (Sl.v (Sl.mk (some (Addr.mk b61_7 0 none)) 1 1))) F (.string v_62_7) ∧ F.cell (Addr.add (Addr.add a56_ (Int.toNat i_9 * 5)) 4) = some (.string v_58) ∧ v_45_3.size = 2 ∧ v_53_9.size = 2 ∧ (x32 v_45_3 v_53_9 v_58 v_62_7).size = 5 ∧ (∀ v ∈ (x32 v_45_3 v_53_9 v_58 v_62_7).toList, storable v) ∧ ∃ c e, F (Addr.mk b11_8 0 none).block = some (.cells c e (0, 0)) ∧ (Addr.mk b11_8 0 none).spot = none ∧ (Addr.mk b11_8 0 none).off + 5 ≤ c.size ∧
  atF (F.set (Addr.mk b11_8 0 none).block (.cells (wr c (Addr.mk b11_8 0 none).off (x32 v_45_3 v_53_9 v_58 v_62_7).toList) e)) fun F =>
  b32j4 N1 N2 p_0 q_1 l_8_2 i_9 b_10 (some (Addr.mk b11_8 0 none)) R F))) ∧
  (∀ b61_8, F b61_8 = none → atF (F.set b61_8 (.cells #[(.int .u8 (IntKind.u8.wrap b_10))] 5)) fun F =>
  ∃ v_62_8 : ByteArray, rdo prog (Conv.bytesToString (Sl.v (Sl.mk (some (Addr.mk b61_8 0 none)) 1 1))) F (.string v_62_8) ∧
  v_58.size + v_62_8.size ≤ 9223372036854775807 ∧
  Spec prog 62 #[(Sl.v p_0), (.agg v_43), (.int .i64 b_10)] F fun v F => ∃ v_45_4 : Array Value, v = (.agg v_45_4) ∧
  rdo prog (Conv.bytesToString (Sl.v (Sl.mk (some (Addr.mk b61_8 0 none)) 1 1))) F (.string v_62_8) ∧ F.cell (Addr.add (Addr.add a56_ (Int.toNat i_9 * 5)) 4) = some (.string v_58) ∧ F.row (Addr.add (Addr.add a49_ (Int.toNat i_9 * 5)) 2) v_51 ∧ Spec prog 62 #[(Sl.v q_1), (.agg v_51), (.int .i64 b_10)] F fun v F => ∃ v_53_10 : Array Value, v = (.agg v_53_10) ∧
  rdo prog (Conv.bytesToString (Sl.v (Sl.mk (some (Addr.mk b61_8 0 none)) 1 1))) F (.string v_62_8) ∧ F.cell (Addr.add (Addr.add a56_ (Int.toNat i_9 * 5)) 4) = some (.string v_58) ∧ v_45_4.size = 2 ∧ v_53_10.size = 2 ∧ (x32 v_45_4 v_53_10 v_58 v_62_8).size = 5 ∧ (∀ v ∈ (x32 v_45_4 v_53_10 v_58 v_62_8).toList, storable v) ∧ ∃ c e, F (Addr.mk b11_8 0 none).block = some (.cells c e (0, 0)) ∧ (Addr.mk b11_8 0 none).spot = none ∧ (Addr.mk b11_8 0 none).off + 5 ≤ c.size ∧
  atF (F.set (Addr.mk b11_8 0 none).block (.cells (wr c (Addr.mk b11_8 0 none).off (x32 v_45_4 v_53_10 v_58 v_62_8).toList) e)) fun F =>
  b32j4 N1 N2 p_0 q_1 l_8_2 i_9 b_10 (some (Addr.mk b11_8 0 none)) R F))))) ∧
 (¬ (b_10 < 256) →
  b32j2 N1 p_0 q_1 i_9 l_8_2 R F))
def b32L1 (N1 : Sl → Int → PH → Prop) (p_0 : Sl) (q_1 : Sl) (R : VP) (l_8 : Sl) (i_9 : Int) (F : PH) :=
 ((i_9 < (l_8.len : Int) →
  (∃ (I2 : Nat → Sl → Int → PH → Prop) (m2 : Nat), I2 m2 l_8 0 F ∧ ∀ m2 l_8_2 b_10 F, I2 m2 l_8_2 b_10 F →
   b32L2 N1 (nx2 I2 m2) p_0 q_1 i_9 R l_8_2 b_10 F)) ∧
 (¬ (i_9 < (l_8.len : Int)) →
  b32j1 R F))
def b32 (p_0 : Sl) (q_1 : Sl) (R : VP) (F : PH) :=
 Spec prog 22 #[(Sl.v p_0)] F fun v F => ∃ v_13 : Int, v = (.int .i64 v_13) ∧
 Spec prog 22 #[(Sl.v q_1)] F fun v F => ∃ v_15 : Int, v = (.int .i64 v_15) ∧
 ((v_13 ≠ 0 →
  R (.tuple #[(.string (ByteArray.mk #[])), (.int .i64 v_13)]) F) ∧
 (¬ (v_13 ≠ 0) →
  ((v_15 ≠ 0 →
   R (.tuple #[(.string (ByteArray.mk #[])), (.int .i64 v_15)]) F) ∧
  (¬ (v_15 ≠ 0) →
   Spec prog 61 #[(Sl.v p_0)] F fun v F => ∃ v_23 : Array Value, v = (.agg v_23) ∧
   Spec prog 61 #[(Sl.v q_1)] F fun v F => ∃ v_25 : Array Value, v = (.agg v_25) ∧
   v_23.size = 2 ∧ v_25.size = 2 ∧ (wr (wr (#[.bool false, .slice none 0 0, .bool false, .slice none 0 0, .string ⟨#[]⟩] : Array Value) 0 v_23.toList) 2 v_25.toList).size = 5 ∧ ∀ b27, F b27 = none → atF (F.set b27 (.cells (wr (wr (#[.bool false, .slice none 0 0, .bool false, .slice none 0 0, .string ⟨#[]⟩] : Array Value) 0 v_23.toList) 2 v_25.toList) 99)) fun F =>
   (∃ (I1 : Nat → Sl → Int → PH → Prop) (m1 : Nat), I1 m1 (Sl.mk (some (Addr.mk b27 0 none)) 1 1) 0 F ∧ ∀ m1 l_8 i_9 F, I1 m1 l_8 i_9 F →
    b32L1 (nx2 I1 m1) p_0 q_1 R l_8 i_9 F)))))
theorem c32 {p_0 : Sl} {q_1 : Sl} {R : VP} {F : PH} (h : b32 p_0 q_1 R F) : Spec prog 32 #[(Sl.v p_0), (Sl.v q_1)] F R := by
 refine spec_of (args := [(Sl.v p_0), (Sl.v q_1)]) func32 rfl ntmps32 rfl ?_
 unfold b32 at h
 refine cR (sR (.string (ByteArray.mk #[])) (r_assign rfl rfl) ?_)
 refine sR (.int .i64 0) (r_assign rfl rfl) ?_
 refine HL_nil ?_
 refine cR (sR (Sl.v p_0) (r_move rfl rfl) ?_)
 refine s_ef (k_call (vs := [(Sl.v p_0)]) cb22 (evC rfl evN) (h.mono ?_))
 clear h; rintro v F ⟨v_13, rfl, h⟩
 refine sR (.int .i64 v_13) (r_assign rfl rfl) ?_
 refine HL_nil ?_
 refine cR (sR (Sl.v q_1) (r_move rfl rfl) ?_)
 refine s_ef (k_call (vs := [(Sl.v q_1)]) cb22 (evC rfl evN) (h.mono ?_))
 clear h; rintro v F ⟨v_15, rfl, h⟩
 refine sR (.int .i64 v_15) (r_assign rfl rfl) ?_
 refine HL_nil ?_
 refine HC_seq ?_
 refine cR (sR (.int .i64 v_13) (r_move rfl rfl) ?_)
 refine sR (.bool (decide (v_13 ≠ 0))) (w_neq rfl rfl) ?_
 refine HL_nil ?_
 refine HC_cond (t := (decide (v_13 ≠ 0))) rfl (fun hc => ?_) (fun hc => ?_)
 replace h := h.1 (of_decide_eq_true hc)
 clear hc
 refine cR (sR (.int .i64 v_13) (r_move rfl rfl) ?_)
 refine sR (.string (ByteArray.mk #[])) (r_assign rfl rfl) ?_
 refine sR (.int .i64 v_13) (r_assign rfl rfl) ?_
 exact HL_nil (HC_ret (rt2 f32 R rfl rfl rfl h))
 replace h := h.2 (of_decide_eq_false hc)
 clear hc
 refine HC_skip ?_
 refine HC_seq ?_
 refine cR (sR (.int .i64 v_15) (r_move rfl rfl) ?_)
 refine sR (.bool (decide (v_15 ≠ 0))) (w_neq rfl rfl) ?_
 refine HL_nil ?_
 refine HC_cond (t := (decide (v_15 ≠ 0))) rfl (fun hc => ?_) (fun hc => ?_)
 replace h := h.1 (of_decide_eq_true hc)
 clear hc
 refine cR (sR (.int .i64 v_15) (r_move rfl rfl) ?_)
 refine sR (.string (ByteArray.mk #[])) (r_assign rfl rfl) ?_
 refine sR (.int .i64 v_15) (r_assign rfl rfl) ?_
 exact HL_nil (HC_ret (rt2 f32 R rfl rfl rfl h))
 replace h := h.2 (of_decide_eq_false hc)
 clear hc
 refine HC_skip ?_
 refine cR (sR (Sl.v p_0) (r_move rfl rfl) ?_)
 refine s_ef (k_call (vs := [(Sl.v p_0)]) cb61 (evC rfl evN) (h.mono ?_))
 clear h; rintro v F ⟨v_23, rfl, h⟩
 refine sR (Sl.v q_1) (r_move rfl rfl) ?_
 refine s_ef (k_call (vs := [(Sl.v q_1)]) cb61 (evC rfl evN) (h.mono ?_))
 clear h; rintro v F ⟨v_25, rfl, h⟩
 obtain ⟨hz26_0, hz26_1, h⟩ := h
 refine sR (.agg (wr (wr (#[.bool false, .slice none 0 0, .bool false, .slice none 0 0, .string ⟨#[]⟩] : Array Value) 0 v_23.toList) 2 v_25.toList)) (w_buildStruct (cells := (wr (wr (#[.bool false, .slice none 0 0, .bool false, .slice none 0 0, .string ⟨#[]⟩] : Array Value) 0 v_23.toList) 2 v_25.toList)) underlying99 zr99 kf99 (evPC rfl (evPC rfl evPN)) (fillA (place_of rfl rfl sz96) hz26_0 (by first | rfl | (simp only [wr_size, Array.size_setIfInBounds]; rfl)) (fillA (place_of rfl rfl sz96) hz26_1 (by first | rfl | (simp only [wr_size, Array.size_setIfInBounds]; rfl)) (fillN rfl)))) ?_
 obtain ⟨hz27, h⟩ := h
 refine s_ef (k_buildSlice (cells := (wr (wr (#[.bool false, .slice none 0 0, .bool false, .slice none 0 0, .string ⟨#[]⟩] : Array Value) 0 v_23.toList) 2 v_25.toList)) underlying100 sz99 (by decide) zr99 rfl (evPC rfl evPN) (fillWhole hz27 rfl rfl) rfl ?_)
 intro b27 hf_b27
 replace h := atE (h b27 hf_b27)
 refine sR (Sl.v (Sl.mk (some (Addr.mk b27 0 none)) 1 1)) (r_assign rfl rfl) ?_
 refine HL_nil ?_
 refine HC_seqJ (b32J1 R) ?_ ?_
 clear h; rintro E F h
 unfold b32J1 at h; unfold b32j1 at h
 refine cR (sR (.string (ByteArray.mk #[])) (r_assign rfl rfl) ?_)
 refine sR (.int .i64 3) (r_assign rfl rfl) ?_
 exact HL_nil (HC_ret (rt2 f32 R rfl rfl rfl h))
 refine cR (sR (.int .i64 0) (r_assign rfl rfl) ?_)
 refine HL_nil ?_
 refine HC_block ?_
 obtain ⟨I1, m1, hI0, hr⟩ := h
 refine HC_loop (fun m1 E F => ∃ l_8 : Sl, ∃ i_9 : Int, E 0 = (Sl.v p_0) ∧ E 1 = (Sl.v q_1) ∧ E 8 = (Sl.v l_8) ∧ E 9 = (.int .i64 i_9) ∧ I1 m1 l_8 i_9 F) m1 ⟨_, _, rfl, rfl, rfl, rfl, hI0⟩ ?_
 clear hI0; rintro m1 E F ⟨l_8, i_9, h0, h1, h8, h9, hI⟩
 have h := hr m1 l_8 i_9 F hI
 clear hr hI
 unfold b32L1 at h
 refine HC_seq ?_
 refine cR (sR _ (r_move rfl h9) ?_)
 refine sR _ (r_move rfl h8) ?_
 refine sR (.int .i64 (l_8.len : Int)) (r_lenSl rfl rfl underlying100) ?_
 refine sR (.bool (decide (i_9 < (l_8.len : Int)))) (r_lss rfl rfl rfl) ?_
 refine HL_nil ?_
 refine HC_cond (t := (decide (i_9 < (l_8.len : Int)))) rfl (fun hc => ?_) (fun hc => ?_)
 replace h := h.1 (of_decide_eq_true hc)
 clear hc
 refine HC_skip ?_
 refine HC_seqJ (b32J2 (nx2 I1 m1) p_0 q_1 i_9 R) ?_ ?_
 clear h; rintro E F ⟨l_8_1, h0, h1, h8, h9, h⟩
 unfold b32j2 at h
 refine HC_region ?_
 refine sR _ (r_move rfl h9) ?_
 refine sR (.int .i64 (IntKind.i64.wrap (i_9 + 1))) (r_add rfl rfl rfl) ?_
 refine sR (.int .i64 (IntKind.i64.wrap (i_9 + 1))) (r_assign rfl rfl) ?_
 refine HL_nil ?_
 obtain ⟨m', hm, h⟩ := h
 exact ⟨m', hm, _, _, h0, h1, h8, rfl, h⟩
 refine HC_block ?_
 refine cR (sR (.int .i64 0) (r_assign rfl rfl) ?_)
 refine HL_nil ?_
 refine HC_block ?_
 obtain ⟨I2, m2, hI0, hr⟩ := h
 refine HC_loop (fun m2 E F => ∃ l_8_2 : Sl, ∃ b_10 : Int, E 0 = (Sl.v p_0) ∧ E 1 = (Sl.v q_1) ∧ E 8 = (Sl.v l_8_2) ∧ E 9 = (.int .i64 i_9) ∧ E 10 = (.int .i64 b_10) ∧ I2 m2 l_8_2 b_10 F) m2 ⟨_, _, h0, h1, h8, h9, rfl, hI0⟩ ?_
 clear hI0; rintro m2 E F ⟨l_8_2, b_10, h0, h1, h8, h9, h10, hI⟩
 have h := hr m2 l_8_2 b_10 F hI
 clear hr hI
 unfold b32L2 at h
 refine HC_seq ?_
 refine cR (sR _ (r_move rfl h10) ?_)
 refine sR (.bool (decide (b_10 < 256))) (r_lss rfl rfl rfl) ?_
 refine HL_nil ?_
 refine HC_cond (t := (decide (b_10 < 256))) rfl (fun hc => ?_) (fun hc => ?_)
 replace h := h.1 (of_decide_eq_true hc)
 clear hc
 refine HC_skip ?_
 refine HC_seqJ (b32J3 (nx2 I1 m1) (nx2 I2 m2) p_0 q_1 i_9 b_10 R) ?_ ?_
 clear h; rintro E F ⟨l_8_3, h0, h1, h8, h9, h10, h⟩
 unfold b32j3 at h
 refine HC_region ?_
 refine sR _ (r_move rfl h10) ?_
 refine sR (.int .i64 (IntKind.i64.wrap (b_10 + 1))) (r_add rfl rfl rfl) ?_
 refine sR (.int .i64 (IntKind.i64.wrap (b_10 + 1))) (r_assign rfl rfl) ?_
 refine HL_nil ?_
 obtain ⟨m', hm, h⟩ := h
 exact ⟨m', hm, _, _, h0, h1, h8, h9, rfl, h⟩
 refine HC_block ?_
 refine HC_seqJ (b32J4 (nx2 I1 m1) (nx2 I2 m2) p_0 q_1 l_8_2 i_9 b_10 R) ?_ ?_
 clear h; rintro E F ⟨x_11, h0, h1, h8, h9, h10, h11, h⟩
 unfold b32j4 at h
 refine HC_seq ?_
 refine HC_seqJ (b32J5 (nx2 I1 m1) (nx2 I2 m2) p_0 q_1 l_8_2 i_9 b_10 x_11 R) ?_ ?_
 clear h; rintro E F ⟨v_72, h0, h1, h8, h9, h10, h11, h72, h⟩
 unfold b32j5 at h
 refine HC_cond (t := v_72) h72 (fun hc => ?_) (fun hc => ?_)
 replace h := h.1 hc
 clear hc
 refine cR ?_
 obtain ⟨x11a_, rfl, h⟩ := h
 refine sR (.pointer (some (Addr.add x11a_ 4))) (w_fieldAddr h11 underlying99 rfl rfl sz9 rfl rfl) ?_
 obtain ⟨v_74, hc74, h⟩ := h
 refine sR (.string v_74) (r_load1 rfl rfl underlying9 rfl hc74) ?_
 refine sR (.string v_74) (r_assign rfl rfl) ?_
 refine sR (.int .i64 0) (r_assign rfl rfl) ?_
 exact HL_nil (HC_ret (rt2 f32 R rfl rfl rfl h))
 replace h := h.2 hc
 clear hc
 refine HC_skip ?_
 refine HC_seqJ (b32J6 (nx2 I1 m1) (nx2 I2 m2) p_0 q_1 l_8_2 i_9 b_10 x_11 R) ?_ ?_
 clear h; rintro E F ⟨v_90, h0, h1, h8, h9, h10, h11, h90, h⟩
 unfold b32j6 at h
 refine HC_cond (t := v_90) h90 (fun hc => ?_) (fun hc => ?_)
 replace h := h.1 hc
 clear hc
 refine HC_region ?_
 refine sR _ (r_move rfl h8) ?_
 obtain ⟨x11a__1, rfl, h⟩ := h
 obtain ⟨v_92, hs92, hc92, h⟩ := h
 refine sR (.agg v_92) (w_loadN h11 underlying99 rfl sz99 hs92 hc92) ?_
 obtain ⟨hz93, h⟩ := h
 refine s_ef (k_buildSlice (cells := v_92) underlying100 sz99 (by decide) zr99 rfl (evPC rfl evPN) (fillWhole hz93 rfl rfl) rfl ?_)
 intro b93 hf_b93
 replace h := atE (h b93 hf_b93)
 refine s_ef (k_append rfl rfl (runs_mono _ _ h ?_))
 clear h; rintro v F ⟨v_94, rfl, h⟩
 refine sR (Sl.v v_94) (r_assign rfl rfl) ?_
 refine HL_nil ?_
 show b32J3 (nx2 I1 m1) (nx2 I2 m2) p_0 q_1 i_9 b_10 R _ _
 exact ⟨_, h0, h1, rfl, h9, h10, h⟩
 replace h := h.2 hc
 clear hc
 refine HC_skip ?_
 show b32J3 (nx2 I1 m1) (nx2 I2 m2) p_0 q_1 i_9 b_10 R _ _
 exact ⟨_, h0, h1, h8, h9, h10, h⟩
 refine HC_region ?_
 obtain ⟨x11a__2, rfl, h⟩ := h
 refine sR (.pointer (some x11a__2)) (w_fieldAddr h11 underlying99 rfl rfl sz96 rfl rfl) ?_
 obtain ⟨v_76, hs76, hc76, h⟩ := h
 refine sR (.agg v_76) (w_loadN rfl underlying96 rfl sz96 hs76 hc76) ?_
 refine s_ef (k_call (vs := [(.agg v_76)]) cb63 (evC rfl evN) (h.mono ?_))
 clear h; rintro v F ⟨v_77, rfl, h⟩
 refine sR (.bool (!v_77)) (r_not rfl rfl) ?_
 refine sR (.bool (!v_77)) (r_move rfl rfl) ?_
 by_cases hc : (!v_77) = true
 replace h := h.1 hc
 refine kN 78 hc ?_
 refine kN 79 hc ?_
 refine sR (.pointer (some (Addr.add x11a__2 2))) (w_fieldAddr h11 underlying99 rfl rfl sz96 rfl rfl) ?_
 obtain ⟨v_81, hs81, hc81, h⟩ := h
 refine sR (.agg v_81) (w_loadN rfl underlying96 rfl sz96 hs81 hc81) ?_
 refine s_ef (k_call (vs := [(.agg v_81)]) cb63 (evC rfl evN) (h.mono ?_))
 clear h; rintro v F ⟨v_82, rfl, h⟩
 refine sR (.bool (!v_82)) (r_not rfl rfl) ?_
 refine sR (.bool (!v_82)) (r_pt rfl rfl) ?_
 refine sR (.bool (!v_82)) (r_move rfl rfl) ?_
 by_cases hc : (!v_82) = true
 replace h := h.1 hc
 refine kN 83 hc ?_
 refine kN 84 hc ?_
 refine kN 85 hc ?_
 refine sR _ (r_move rfl h8) ?_
 obtain ⟨v_87, hs87, hc87, h⟩ := h
 refine sR (.agg v_87) (w_loadN h11 underlying99 rfl sz99 hs87 hc87) ?_
 refine s_ef (k_call (vs := [(Sl.v l_8_2), (.agg v_87)]) cb64 (evC rfl (evC rfl evN)) (h.mono ?_))
 clear h; rintro v F ⟨v_88, rfl, h⟩
 refine sR (.bool (!v_88)) (r_not rfl rfl) ?_
 refine sR (.bool (!v_88)) (r_pt rfl rfl) ?_
 refine HL_nil ?_
 show b32J6 (nx2 I1 m1) (nx2 I2 m2) p_0 q_1 l_8_2 i_9 b_10 (some x11a__2) R _ _
 exact ⟨_, h0, h1, h8, h9, h10, h11, rfl, h⟩
 replace hc := eq_false_of_ne_true hc; replace h := h.2 hc
 refine kN 83 hc ?_
 refine kN 84 hc ?_
 refine kN 85 hc ?_
 iterate 4 refine s_skip ?_
 refine sR (.bool false) (r_pf rfl rfl) ?_
 refine HL_nil ?_
 show b32J6 (nx2 I1 m1) (nx2 I2 m2) p_0 q_1 l_8_2 i_9 b_10 (some x11a__2) R _ _
 exact ⟨_, h0, h1, h8, h9, h10, h11, rfl, h⟩
 replace hc := eq_false_of_ne_true hc; replace h := h.2 hc
 refine kN 78 hc ?_
 refine kN 79 hc ?_
 iterate 4 refine s_skip ?_
 refine sR (.bool false) (r_pf rfl rfl) ?_
 refine sR (.bool false) (r_move rfl rfl) ?_
 iterate 4 refine s_skip ?_
 refine sR (.bool false) (r_pf rfl rfl) ?_
 refine HL_nil ?_
 show b32J6 (nx2 I1 m1) (nx2 I2 m2) p_0 q_1 l_8_2 i_9 b_10 (some x11a__2) R _ _
 exact ⟨_, h0, h1, h8, h9, h10, h11, rfl, h⟩
 refine HC_region ?_
 obtain ⟨x11a__3, rfl, h⟩ := h
 refine sR (.pointer (some x11a__3)) (w_fieldAddr h11 underlying99 rfl rfl sz96 rfl rfl) ?_
 refine sR (.pointer (some x11a__3)) (w_fieldAddr rfl underlying96 rfl rfl sz4 rfl rfl) ?_
 obtain ⟨v_67, hc67, h⟩ := h
 refine sR (.bool v_67) (r_load1 rfl rfl underlying4 rfl hc67) ?_
 refine sR (.bool v_67) (r_move rfl rfl) ?_
 by_cases hc : v_67 = true
 replace h := h.1 hc
 refine kN 67 hc ?_
 refine kN 68 hc ?_
 refine sR (.pointer (some (Addr.add x11a__3 2))) (w_fieldAddr h11 underlying99 rfl rfl sz96 rfl rfl) ?_
 refine sR (.pointer (some (Addr.add x11a__3 2))) (w_fieldAddr rfl underlying96 rfl rfl sz4 rfl rfl) ?_
 obtain ⟨v_71, hc71, h⟩ := h
 refine sR (.bool v_71) (r_load1 rfl rfl underlying4 rfl hc71) ?_
 refine sR (.bool v_71) (r_pt rfl rfl) ?_
 refine HL_nil ?_
 show b32J5 (nx2 I1 m1) (nx2 I2 m2) p_0 q_1 l_8_2 i_9 b_10 (some x11a__3) R _ _
 exact ⟨_, h0, h1, h8, h9, h10, h11, rfl, h⟩
 replace hc := eq_false_of_ne_true hc; replace h := h.2 hc
 refine kN 67 hc ?_
 refine kN 68 hc ?_
 iterate 3 refine s_skip ?_
 refine sR (.bool false) (r_pf rfl rfl) ?_
 refine HL_nil ?_
 show b32J5 (nx2 I1 m1) (nx2 I2 m2) p_0 q_1 l_8_2 i_9 b_10 (some x11a__3) R _ _
 exact ⟨_, h0, h1, h8, h9, h10, h11, rfl, h⟩
 refine HC_draw0 (by kernel_rfl) (fun hp => ?_)
 refine gU 0 (Sl.v p_0) rfl (fun _ => r_move rfl h0) hp ?_
 refine gU 1 (Sl.v l_8_2) rfl (fun _ => r_move rfl h8) hp ?_
 refine gU 2 (.int .i64 i_9) rfl (fun _ => r_move rfl h9) hp ?_
 obtain ⟨a41_, hb41, hl41, hu41, h⟩ := h
 refine gU 3 (.pointer (some (Addr.add a41_ (Int.toNat i_9 * 5)))) rfl (fun _ => w_indexAddr rfl rfl underlying100 sz99 hb41 hl41 hu41) hp ?_
 refine gU 4 (.pointer (some (Addr.add a41_ (Int.toNat i_9 * 5)))) rfl (fun _ => w_fieldAddr rfl underlying99 rfl rfl sz96 rfl rfl) hp ?_
 obtain ⟨v_43, hs43, hc43, h⟩ := h
 refine gR 5 (.agg v_43) rfl (w_loadN rfl underlying96 rfl sz96 hs43 hc43) hp (fun S5 q5 => ?_)
 replace hp := holdC (i := 5) (q5 _ (w_loadN rfl underlying96 rfl sz96 hs43 hc43)) hp
 refine gU 6 (.int .i64 b_10) rfl (fun _ => r_move rfl h10) hp ?_
 refine gU 8 (Sl.v q_1) rfl (fun _ => r_move rfl h1) hp ?_
 refine gU 9 (Sl.v l_8_2) rfl (fun _ => r_move rfl h8) hp ?_
 refine gU 10 (.int .i64 i_9) rfl (fun _ => r_move rfl h9) hp ?_
 obtain ⟨a49_, hb49, hl49, hu49, h⟩ := h
 refine gU 11 (.pointer (some (Addr.add a49_ (Int.toNat i_9 * 5)))) rfl (fun _ => w_indexAddr rfl rfl underlying100 sz99 hb49 hl49 hu49) hp ?_
 refine gU 12 (.pointer (some (Addr.add (Addr.add a49_ (Int.toNat i_9 * 5)) 2))) rfl (fun _ => w_fieldAddr rfl underlying99 rfl rfl sz96 rfl rfl) hp ?_
 obtain ⟨v_51, hs51, hc51, h⟩ := h
 refine gR 13 (.agg v_51) rfl (w_loadN rfl underlying96 rfl sz96 hs51 hc51) hp (fun S13 q13 => ?_)
 replace hp := holdC (i := 13) (q13 _ (w_loadN rfl underlying96 rfl sz96 hs51 hc51)) hp
 refine gU 14 (.int .i64 b_10) rfl (fun _ => r_move rfl h10) hp ?_
 refine gU 16 (Sl.v l_8_2) rfl (fun _ => r_move rfl h8) hp ?_
 refine gU 17 (.int .i64 i_9) rfl (fun _ => r_move rfl h9) hp ?_
 obtain ⟨a56_, hb56, hl56, hu56, h⟩ := h
 refine gU 18 (.pointer (some (Addr.add a56_ (Int.toNat i_9 * 5)))) rfl (fun _ => w_indexAddr rfl rfl underlying100 sz99 hb56 hl56 hu56) hp ?_
 refine gU 19 (.pointer (some (Addr.add (Addr.add a56_ (Int.toNat i_9 * 5)) 4))) rfl (fun _ => w_fieldAddr rfl underlying99 rfl rfl sz9 rfl rfl) hp ?_
 obtain ⟨v_58, hc58, h⟩ := h
 refine gR 20 (.string v_58) rfl (r_load1 rfl rfl underlying9 rfl hc58) hp (fun S20 q20 => ?_)
 replace hp := holdC (i := 20) (q20 _ (r_load1 rfl rfl underlying9 rfl hc58)) hp
 refine gU 21 (.int .i64 b_10) rfl (fun _ => r_move rfl h10) hp ?_
 refine gU 22 (.int .u8 (IntKind.u8.wrap b_10)) rfl (fun _ => r_convInt rfl rfl underlying3 underlying5) hp ?_
 refine RG_eff (rs := [7, 23, 27]) (by kernel_rfl) rfl ?_
 obtain ⟨ha0, ha1, ha2⟩ := h
 simp only [List.mem_cons, List.not_mem_nil, or_false, forall_eq_or_imp, forall_eq]
 refine ⟨?_, ?_, ?_⟩
 have h := ha0; clear ha0 ha1 ha2
 refine g_op (Sp' := [(20, S20), (13, S13)]) rfl rfl (k_call (vs := [(Sl.v p_0), (.agg v_43), (.int .i64 b_10)]) cb62 (evC rfl (evC rfl (evC rfl evN))) (h.mono ?_))
 clear h; rintro v F ⟨v_45, rfl, h⟩
 obtain ⟨hk_571, hk_572, h⟩ := h
 refine holdI (holdC (i := 20) (q20 _ (r_load1 rfl rfl underlying9 rfl hk_571)) (holdC (i := 13) (q13 _ (w_loadN rfl underlying96 rfl sz96 hs51 hk_572)) hold0)) (fun hp => ?_)
 refine RG_eff (rs := [15, 23, 27]) (by kernel_rfl) rfl ?_
 obtain ⟨ha0, ha1, ha2⟩ := h
 simp only [List.mem_cons, List.not_mem_nil, or_false, forall_eq_or_imp, forall_eq]
 refine ⟨?_, ?_, ?_⟩
 have h := ha0; clear ha0 ha1 ha2
 refine g_op (Sp' := [(20, S20)]) rfl rfl (k_call (vs := [(Sl.v q_1), (.agg v_51), (.int .i64 b_10)]) cb62 (evC rfl (evC rfl (evC rfl evN))) (h.mono ?_))
 clear h; rintro v F ⟨v_53, rfl, h⟩
 obtain ⟨hk_573, h⟩ := h
 refine holdI (holdC (i := 20) (q20 _ (r_load1 rfl rfl underlying9 rfl hk_573)) hold0) (fun hp => ?_)
 refine RG_eff (rs := [23, 27]) (by kernel_rfl) rfl ?_
 obtain ⟨ha0, ha1⟩ := h
 simp only [List.mem_cons, List.not_mem_nil, or_false, forall_eq_or_imp, forall_eq]
 refine ⟨?_, ?_⟩
 have h := ha0; clear ha0 ha1
 refine g_op (Sp' := [(20, S20)]) rfl rfl (k_buildSeq (l := [(.int .u8 (IntKind.u8.wrap b_10))]) underlying22 sz5 (by decide) zr5 rfl rfl ⟨rfl, trivial⟩ (evPC rfl evPN) ?_)
 intro b61 hf_b61
 replace h := atE (h b61 hf_b61)
 refine holdI (holdC (i := 20) (q20 _ (r_load1 rfl rfl underlying9 rfl (cell_set_fresh hf_b61 hk_573))) hold0) (fun hp => ?_)
 obtain ⟨v_62, hc62, h⟩ := h
 refine gR 24 (.string v_62) rfl (r_convBS rfl rfl underlying22 underlying9 underlying5 ⟨_, _, _, rfl⟩ hc62) hp (fun S24 q24 => ?_)
 replace hp := holdC (i := 24) (q24 _ (r_convBS rfl rfl underlying22 underlying9 underlying5 ⟨_, _, _, rfl⟩ hc62)) hp
 obtain ⟨hx63, h⟩ := h
 refine gU 25 (.string (v_58 ++ v_62)) rfl (fun _ => r_addS rfl rfl rfl hx63) hp ?_
 obtain ⟨hz64_0, hz64_1, h⟩ := h
 refine gU 26 (.agg (x32 v_45 v_53 v_58 v_62)) rfl (fun _ => w_buildStruct (cells := (x32 v_45 v_53 v_58 v_62)) underlying99 zr99 kf99 (evPC rfl (evPC rfl (evPC rfl evPN))) (fillA (place_of rfl rfl sz96) hz64_0 (by first | rfl | (simp only [wr_size, Array.size_setIfInBounds]; rfl)) (fillA (place_of rfl rfl sz96) hz64_1 (by first | rfl | (simp only [wr_size, Array.size_setIfInBounds]; rfl)) (fill1 (place_of rfl rfl sz9) rfl (by first | rfl | (simp only [wr_size, Array.size_setIfInBounds]; rfl)) (fillN rfl))))) hp ?_
 refine RG_eff1 (i := 27) (by kernel_rfl) (g_op (Sp' := [(24, S24), (20, S20)]) rfl rfl (k_alloc zr99 ?_))
 intro b11 hf_b11
 replace h := atE (h b11 hf_b11)
 obtain ⟨hk_574, h⟩ := h
 refine holdI (holdC (i := 24) (q24 _ (r_convBS rfl rfl underlying22 underlying9 underlying5 ⟨_, _, _, rfl⟩ hk_574)) (holdC (i := 20) (q20 _ (r_load1 rfl rfl underlying9 rfl (cell_set_fresh hf_b11 (cell_set_fresh hf_b61 hk_573)))) hold0)) (fun hp => ?_)
 refine RG_eff1 (i := 28) (by kernel_rfl) (g_op0 (Sp' := []) rfl rfl (k_storeN (vs := (x32 v_45 v_53 v_58 v_62)) rfl rfl sz99 (by decide) ?_))
 obtain ⟨hz1, hz2, c, e, hz3, hz4, hz5, h⟩ := h
 refine ⟨hz1, hz2, c, e, hz3, hz4, hz5, ?_⟩
 replace h := atE h
 refine holdI hold0 (fun hp => ?_)
 refine RG_done (by kernel_rfl) ?_
 show b32J4 (nx2 I1 m1) (nx2 I2 m2) p_0 q_1 l_8_2 i_9 b_10 R _ _
 exact ⟨_, h0, h1, h8, h9, h10, rfl, h⟩
 have h := ha1; clear ha0 ha1
 refine g_op (Sp' := [(20, S20)]) rfl rfl (k_alloc zr99 ?_)
 intro b11_1 hf_b11_1
 replace h := atE (h b11_1 hf_b11_1)
 refine holdI (holdC (i := 20) (q20 _ (r_load1 rfl rfl underlying9 rfl (cell_set_fresh hf_b11_1 hk_573))) hold0) (fun hp => ?_)
 refine RG_eff1 (i := 23) (by kernel_rfl) (g_op (Sp' := [(20, S20)]) rfl rfl (k_buildSeq (l := [(.int .u8 (IntKind.u8.wrap b_10))]) underlying22 sz5 (by decide) zr5 rfl rfl ⟨rfl, trivial⟩ (evPC rfl evPN) ?_))
 intro b61_1 hf_b61_1
 replace h := atE (h b61_1 hf_b61_1)
 refine holdI (holdC (i := 20) (q20 _ (r_load1 rfl rfl underlying9 rfl (cell_set_fresh hf_b61_1 (cell_set_fresh hf_b11_1 hk_573)))) hold0) (fun hp => ?_)
 obtain ⟨v_62_1, hc62, h⟩ := h
 refine gR 24 (.string v_62_1) rfl (r_convBS rfl rfl underlying22 underlying9 underlying5 ⟨_, _, _, rfl⟩ hc62) hp (fun S24 q24 => ?_)
 replace hp := holdC (i := 24) (q24 _ (r_convBS rfl rfl underlying22 underlying9 underlying5 ⟨_, _, _, rfl⟩ hc62)) hp
 obtain ⟨hx63, h⟩ := h
 refine gU 25 (.string (v_58 ++ v_62_1)) rfl (fun _ => r_addS rfl rfl rfl hx63) hp ?_
 obtain ⟨hz64_0, hz64_1, h⟩ := h
 refine gU 26 (.agg (x32 v_45 v_53 v_58 v_62_1)) rfl (fun _ => w_buildStruct (cells := (x32 v_45 v_53 v_58 v_62_1)) underlying99 zr99 kf99 (evPC rfl (evPC rfl (evPC rfl evPN))) (fillA (place_of rfl rfl sz96) hz64_0 (by first | rfl | (simp only [wr_size, Array.size_setIfInBounds]; rfl)) (fillA (place_of rfl rfl sz96) hz64_1 (by first | rfl | (simp only [wr_size, Array.size_setIfInBounds]; rfl)) (fill1 (place_of rfl rfl sz9) rfl (by first | rfl | (simp only [wr_size, Array.size_setIfInBounds]; rfl)) (fillN rfl))))) hp ?_
 refine RG_eff1 (i := 28) (by kernel_rfl) (g_op0 (Sp' := []) rfl rfl (k_storeN (vs := (x32 v_45 v_53 v_58 v_62_1)) rfl rfl sz99 (by decide) ?_))
 obtain ⟨hz1, hz2, c, e, hz3, hz4, hz5, h⟩ := h
 refine ⟨hz1, hz2, c, e, hz3, hz4, hz5, ?_⟩
 replace h := atE h
 refine holdI hold0 (fun hp => ?_)
 refine RG_done (by kernel_rfl) ?_
 show b32J4 (nx2 I1 m1) (nx2 I2 m2) p_0 q_1 l_8_2 i_9 b_10 R _ _
 exact ⟨_, h0, h1, h8, h9, h10, rfl, h⟩
 have h := ha1; clear ha0 ha1 ha2
 refine g_op (Sp' := [(20, S20), (13, S13)]) rfl rfl (k_buildSeq (l := [(.int .u8 (IntKind.u8.wrap b_10))]) underlying22 sz5 (by decide) zr5 rfl rfl ⟨rfl, trivial⟩ (evPC rfl evPN) ?_)
 intro b61_2 hf_b61_2
 replace h := atE (h b61_2 hf_b61_2)
 refine holdI (holdC (i := 20) (q20 _ (r_load1 rfl rfl underlying9 rfl (cell_set_fresh hf_b61_2 hk_571))) (holdC (i := 13) (q13 _ (w_loadN rfl underlying96 rfl sz96 hs51 (row_set_fresh hf_b61_2 hk_572))) hold0)) (fun hp => ?_)
 obtain ⟨v_62_2, hc62, h⟩ := h
 refine gR 24 (.string v_62_2) rfl (r_convBS rfl rfl underlying22 underlying9 underlying5 ⟨_, _, _, rfl⟩ hc62) hp (fun S24 q24 => ?_)
 replace hp := holdC (i := 24) (q24 _ (r_convBS rfl rfl underlying22 underlying9 underlying5 ⟨_, _, _, rfl⟩ hc62)) hp
 obtain ⟨hx63, h⟩ := h
 refine gU 25 (.string (v_58 ++ v_62_2)) rfl (fun _ => r_addS rfl rfl rfl hx63) hp ?_
 refine RG_eff (rs := [15, 27]) (by kernel_rfl) rfl ?_
 obtain ⟨ha0, ha1⟩ := h
 simp only [List.mem_cons, List.not_mem_nil, or_false, forall_eq_or_imp, forall_eq]
 refine ⟨?_, ?_⟩
 have h := ha0; clear ha0 ha1
 refine g_op (Sp' := [(24, S24), (20, S20)]) rfl rfl (k_call (vs := [(Sl.v q_1), (.agg v_51), (.int .i64 b_10)]) cb62 (evC rfl (evC rfl (evC rfl evN))) (h.mono ?_))
 clear h; rintro v F ⟨v_53_1, rfl, h⟩
 obtain ⟨hk_575, hk_576, h⟩ := h
 refine holdI (holdC (i := 24) (q24 _ (r_convBS rfl rfl underlying22 underlying9 underlying5 ⟨_, _, _, rfl⟩ hk_575)) (holdC (i := 20) (q20 _ (r_load1 rfl rfl underlying9 rfl hk_576)) hold0)) (fun hp => ?_)
 obtain ⟨hz64_0, hz64_1, h⟩ := h
 refine gU 26 (.agg (x32 v_45 v_53_1 v_58 v_62_2)) rfl (fun _ => w_buildStruct (cells := (x32 v_45 v_53_1 v_58 v_62_2)) underlying99 zr99 kf99 (evPC rfl (evPC rfl (evPC rfl evPN))) (fillA (place_of rfl rfl sz96) hz64_0 (by first | rfl | (simp only [wr_size, Array.size_setIfInBounds]; rfl)) (fillA (place_of rfl rfl sz96) hz64_1 (by first | rfl | (simp only [wr_size, Array.size_setIfInBounds]; rfl)) (fill1 (place_of rfl rfl sz9) rfl (by first | rfl | (simp only [wr_size, Array.size_setIfInBounds]; rfl)) (fillN rfl))))) hp ?_
 refine RG_eff1 (i := 27) (by kernel_rfl) (g_op (Sp' := [(24, S24), (20, S20)]) rfl rfl (k_alloc zr99 ?_))
 intro b11_2 hf_b11_2
 replace h := atE (h b11_2 hf_b11_2)
 obtain ⟨hk_577, h⟩ := h
 refine holdI (holdC (i := 24) (q24 _ (r_convBS rfl rfl underlying22 underlying9 underlying5 ⟨_, _, _, rfl⟩ hk_577)) (holdC (i := 20) (q20 _ (r_load1 rfl rfl underlying9 rfl (cell_set_fresh hf_b11_2 hk_576))) hold0)) (fun hp => ?_)
 refine RG_eff1 (i := 28) (by kernel_rfl) (g_op0 (Sp' := []) rfl rfl (k_storeN (vs := (x32 v_45 v_53_1 v_58 v_62_2)) rfl rfl sz99 (by decide) ?_))
 obtain ⟨hz1, hz2, c, e, hz3, hz4, hz5, h⟩ := h
 refine ⟨hz1, hz2, c, e, hz3, hz4, hz5, ?_⟩
 replace h := atE h
 refine holdI hold0 (fun hp => ?_)
 refine RG_done (by kernel_rfl) ?_
 show b32J4 (nx2 I1 m1) (nx2 I2 m2) p_0 q_1 l_8_2 i_9 b_10 R _ _
 exact ⟨_, h0, h1, h8, h9, h10, rfl, h⟩
 have h := ha1; clear ha0 ha1
 refine g_op (Sp' := [(24, S24), (20, S20), (13, S13)]) rfl rfl (k_alloc zr99 ?_)
 intro b11_3 hf_b11_3
 replace h := atE (h b11_3 hf_b11_3)
 obtain ⟨hk_578, h⟩ := h
 refine holdI (holdC (i := 24) (q24 _ (r_convBS rfl rfl underlying22 underlying9 underlying5 ⟨_, _, _, rfl⟩ hk_578)) (holdC (i := 20) (q20 _ (r_load1 rfl rfl underlying9 rfl (cell_set_fresh hf_b11_3 (cell_set_fresh hf_b61_2 hk_571)))) (holdC (i := 13) (q13 _ (w_loadN rfl underlying96 rfl sz96 hs51 (row_set_fresh hf_b11_3 (row_set_fresh hf_b61_2 hk_572)))) hold0))) (fun hp => ?_)
 refine RG_eff1 (i := 15) (by kernel_rfl) (g_op (Sp' := [(24, S24), (20, S20)]) rfl rfl (k_call (vs := [(Sl.v q_1), (.agg v_51), (.int .i64 b_10)]) cb62 (evC rfl (evC rfl (evC rfl evN))) (h.mono ?_)))
 clear h; rintro v F ⟨v_53_2, rfl, h⟩
 obtain ⟨hk_579, hk_580, h⟩ := h
 refine holdI (holdC (i := 24) (q24 _ (r_convBS rfl rfl underlying22 underlying9 underlying5 ⟨_, _, _, rfl⟩ hk_579)) (holdC (i := 20) (q20 _ (r_load1 rfl rfl underlying9 rfl hk_580)) hold0)) (fun hp => ?_)
 obtain ⟨hz64_0, hz64_1, h⟩ := h
 refine gU 26 (.agg (x32 v_45 v_53_2 v_58 v_62_2)) rfl (fun _ => w_buildStruct (cells := (x32 v_45 v_53_2 v_58 v_62_2)) underlying99 zr99 kf99 (evPC rfl (evPC rfl (evPC rfl evPN))) (fillA (place_of rfl rfl sz96) hz64_0 (by first | rfl | (simp only [wr_size, Array.size_setIfInBounds]; rfl)) (fillA (place_of rfl rfl sz96) hz64_1 (by first | rfl | (simp only [wr_size, Array.size_setIfInBounds]; rfl)) (fill1 (place_of rfl rfl sz9) rfl (by first | rfl | (simp only [wr_size, Array.size_setIfInBounds]; rfl)) (fillN rfl))))) hp ?_
 refine RG_eff1 (i := 28) (by kernel_rfl) (g_op0 (Sp' := []) rfl rfl (k_storeN (vs := (x32 v_45 v_53_2 v_58 v_62_2)) rfl rfl sz99 (by decide) ?_))
 obtain ⟨hz1, hz2, c, e, hz3, hz4, hz5, h⟩ := h
 refine ⟨hz1, hz2, c, e, hz3, hz4, hz5, ?_⟩
 replace h := atE h
 refine holdI hold0 (fun hp => ?_)
 refine RG_done (by kernel_rfl) ?_
 show b32J4 (nx2 I1 m1) (nx2 I2 m2) p_0 q_1 l_8_2 i_9 b_10 R _ _
 exact ⟨_, h0, h1, h8, h9, h10, rfl, h⟩
 have h := ha2; clear ha0 ha1 ha2
 refine g_op (Sp' := [(20, S20), (13, S13)]) rfl rfl (k_alloc zr99 ?_)
 intro b11_4 hf_b11_4
 replace h := atE (h b11_4 hf_b11_4)
 refine holdI (holdC (i := 20) (q20 _ (r_load1 rfl rfl underlying9 rfl (cell_set_fresh hf_b11_4 hk_571))) (holdC (i := 13) (q13 _ (w_loadN rfl underlying96 rfl sz96 hs51 (row_set_fresh hf_b11_4 hk_572))) hold0)) (fun hp => ?_)
 refine RG_eff (rs := [15, 23]) (by kernel_rfl) rfl ?_
 obtain ⟨ha0, ha1⟩ := h
 simp only [List.mem_cons, List.not_mem_nil, or_false, forall_eq_or_imp, forall_eq]
 refine ⟨?_, ?_⟩
 have h := ha0; clear ha0 ha1
 refine g_op (Sp' := [(20, S20)]) rfl rfl (k_call (vs := [(Sl.v q_1), (.agg v_51), (.int .i64 b_10)]) cb62 (evC rfl (evC rfl (evC rfl evN))) (h.mono ?_))
 clear h; rintro v F ⟨v_53_3, rfl, h⟩
 obtain ⟨hk_581, h⟩ := h
 refine holdI (holdC (i := 20) (q20 _ (r_load1 rfl rfl underlying9 rfl hk_581)) hold0) (fun hp => ?_)
 refine RG_eff1 (i := 23) (by kernel_rfl) (g_op (Sp' := [(20, S20)]) rfl rfl (k_buildSeq (l := [(.int .u8 (IntKind.u8.wrap b_10))]) underlying22 sz5 (by decide) zr5 rfl rfl ⟨rfl, trivial⟩ (evPC rfl evPN) ?_))
 intro b61_3 hf_b61_3
 replace h := atE (h b61_3 hf_b61_3)
 refine holdI (holdC (i := 20) (q20 _ (r_load1 rfl rfl underlying9 rfl (cell_set_fresh hf_b61_3 hk_581))) hold0) (fun hp => ?_)
 obtain ⟨v_62_3, hc62, h⟩ := h
 refine gR 24 (.string v_62_3) rfl (r_convBS rfl rfl underlying22 underlying9 underlying5 ⟨_, _, _, rfl⟩ hc62) hp (fun S24 q24 => ?_)
 replace hp := holdC (i := 24) (q24 _ (r_convBS rfl rfl underlying22 underlying9 underlying5 ⟨_, _, _, rfl⟩ hc62)) hp
 obtain ⟨hx63, h⟩ := h
 refine gU 25 (.string (v_58 ++ v_62_3)) rfl (fun _ => r_addS rfl rfl rfl hx63) hp ?_
 obtain ⟨hz64_0, hz64_1, h⟩ := h
 refine gU 26 (.agg (x32 v_45 v_53_3 v_58 v_62_3)) rfl (fun _ => w_buildStruct (cells := (x32 v_45 v_53_3 v_58 v_62_3)) underlying99 zr99 kf99 (evPC rfl (evPC rfl (evPC rfl evPN))) (fillA (place_of rfl rfl sz96) hz64_0 (by first | rfl | (simp only [wr_size, Array.size_setIfInBounds]; rfl)) (fillA (place_of rfl rfl sz96) hz64_1 (by first | rfl | (simp only [wr_size, Array.size_setIfInBounds]; rfl)) (fill1 (place_of rfl rfl sz9) rfl (by first | rfl | (simp only [wr_size, Array.size_setIfInBounds]; rfl)) (fillN rfl))))) hp ?_
 refine RG_eff1 (i := 28) (by kernel_rfl) (g_op0 (Sp' := []) rfl rfl (k_storeN (vs := (x32 v_45 v_53_3 v_58 v_62_3)) rfl rfl sz99 (by decide) ?_))
 obtain ⟨hz1, hz2, c, e, hz3, hz4, hz5, h⟩ := h
 refine ⟨hz1, hz2, c, e, hz3, hz4, hz5, ?_⟩
 replace h := atE h
 refine holdI hold0 (fun hp => ?_)
 refine RG_done (by kernel_rfl) ?_
 show b32J4 (nx2 I1 m1) (nx2 I2 m2) p_0 q_1 l_8_2 i_9 b_10 R _ _
 exact ⟨_, h0, h1, h8, h9, h10, rfl, h⟩
 have h := ha1; clear ha0 ha1
 refine g_op (Sp' := [(20, S20), (13, S13)]) rfl rfl (k_buildSeq (l := [(.int .u8 (IntKind.u8.wrap b_10))]) underlying22 sz5 (by decide) zr5 rfl rfl ⟨rfl, trivial⟩ (evPC rfl evPN) ?_)
 intro b61_4 hf_b61_4
 replace h := atE (h b61_4 hf_b61_4)
 refine holdI (holdC (i := 20) (q20 _ (r_load1 rfl rfl underlying9 rfl (cell_set_fresh hf_b61_4 (cell_set_fresh hf_b11_4 hk_571)))) (holdC (i := 13) (q13 _ (w_loadN rfl underlying96 rfl sz96 hs51 (row_set_fresh hf_b61_4 (row_set_fresh hf_b11_4 hk_572)))) hold0)) (fun hp => ?_)
 obtain ⟨v_62_4, hc62, h⟩ := h
 refine gR 24 (.string v_62_4) rfl (r_convBS rfl rfl underlying22 underlying9 underlying5 ⟨_, _, _, rfl⟩ hc62) hp (fun S24 q24 => ?_)
 replace hp := holdC (i := 24) (q24 _ (r_convBS rfl rfl underlying22 underlying9 underlying5 ⟨_, _, _, rfl⟩ hc62)) hp
 obtain ⟨hx63, h⟩ := h
 refine gU 25 (.string (v_58 ++ v_62_4)) rfl (fun _ => r_addS rfl rfl rfl hx63) hp ?_
 refine RG_eff1 (i := 15) (by kernel_rfl) (g_op (Sp' := [(24, S24), (20, S20)]) rfl rfl (k_call (vs := [(Sl.v q_1), (.agg v_51), (.int .i64 b_10)]) cb62 (evC rfl (evC rfl (evC rfl evN))) (h.mono ?_)))
 clear h; rintro v F ⟨v_53_4, rfl, h⟩
 obtain ⟨hk_582, hk_583, h⟩ := h
 refine holdI (holdC (i := 24) (q24 _ (r_convBS rfl rfl underlying22 underlying9 underlying5 ⟨_, _, _, rfl⟩ hk_582)) (holdC (i := 20) (q20 _ (r_load1 rfl rfl underlying9 rfl hk_583)) hold0)) (fun hp => ?_)
 obtain ⟨hz64_0, hz64_1, h⟩ := h
 refine gU 26 (.agg (x32 v_45 v_53_4 v_58 v_62_4)) rfl (fun _ => w_buildStruct (cells := (x32 v_45 v_53_4 v_58 v_62_4)) underlying99 zr99 kf99 (evPC rfl (evPC rfl (evPC rfl evPN))) (fillA (place_of rfl rfl sz96) hz64_0 (by first | rfl | (simp only [wr_size, Array.size_setIfInBounds]; rfl)) (fillA (place_of rfl rfl sz96) hz64_1 (by first | rfl | (simp only [wr_size, Array.size_setIfInBounds]; rfl)) (fill1 (place_of rfl rfl sz9) rfl (by first | rfl | (simp only [wr_size, Array.size_setIfInBounds]; rfl)) (fillN rfl))))) hp ?_
 refine RG_eff1 (i := 28) (by kernel_rfl) (g_op0 (Sp' := []) rfl rfl (k_storeN (vs := (x32 v_45 v_53_4 v_58 v_62_4)) rfl rfl sz99 (by decide) ?_))
 obtain ⟨hz1, hz2, c, e, hz3, hz4, hz5, h⟩ := h
 refine ⟨hz1, hz2, c, e, hz3, hz4, hz5, ?_⟩
 replace h := atE h
 refine holdI hold0 (fun hp => ?_)
 refine RG_done (by kernel_rfl) ?_
 show b32J4 (nx2 I1 m1) (nx2 I2 m2) p_0 q_1 l_8_2 i_9 b_10 R _ _
 exact ⟨_, h0, h1, h8, h9, h10, rfl, h⟩
 have h := ha1; clear ha0 ha1 ha2
 refine g_op (Sp' := [(20, S20), (13, S13), (5, S5)]) rfl rfl (k_buildSeq (l := [(.int .u8 (IntKind.u8.wrap b_10))]) underlying22 sz5 (by decide) zr5 rfl rfl ⟨rfl, trivial⟩ (evPC rfl evPN) ?_)
 intro b61_5 hf_b61_5
 replace h := atE (h b61_5 hf_b61_5)
 refine holdI (holdC (i := 20) (q20 _ (r_load1 rfl rfl underlying9 rfl (cell_set_fresh hf_b61_5 hc58))) (holdC (i := 13) (q13 _ (w_loadN rfl underlying96 rfl sz96 hs51 (row_set_fresh hf_b61_5 hc51))) (holdC (i := 5) (q5 _ (w_loadN rfl underlying96 rfl sz96 hs43 (row_set_fresh hf_b61_5 hc43))) hold0))) (fun hp => ?_)
 obtain ⟨v_62_5, hc62, h⟩ := h
 refine gR 24 (.string v_62_5) rfl (r_convBS rfl rfl underlying22 underlying9 underlying5 ⟨_, _, _, rfl⟩ hc62) hp (fun S24 q24 => ?_)
 replace hp := holdC (i := 24) (q24 _ (r_convBS rfl rfl underlying22 underlying9 underlying5 ⟨_, _, _, rfl⟩ hc62)) hp
 obtain ⟨hx63, h⟩ := h
 refine gU 25 (.string (v_58 ++ v_62_5)) rfl (fun _ => r_addS rfl rfl rfl hx63) hp ?_
 refine RG_eff (rs := [7, 27]) (by kernel_rfl) rfl ?_
 obtain ⟨ha0, ha1⟩ := h
 simp only [List.mem_cons, List.not_mem_nil, or_false, forall_eq_or_imp, forall_eq]
 refine ⟨?_, ?_⟩
 have h := ha0; clear ha0 ha1
 refine g_op (Sp' := [(24, S24), (20, S20), (13, S13)]) rfl rfl (k_call (vs := [(Sl.v p_0), (.agg v_43), (.int .i64 b_10)]) cb62 (evC rfl (evC rfl (evC rfl evN))) (h.mono ?_))
 clear h; rintro v F ⟨v_45_1, rfl, h⟩
 obtain ⟨hk_584, hk_585, hk_586, h⟩ := h
 refine holdI (holdC (i := 24) (q24 _ (r_convBS rfl rfl underlying22 underlying9 underlying5 ⟨_, _, _, rfl⟩ hk_584)) (holdC (i := 20) (q20 _ (r_load1 rfl rfl underlying9 rfl hk_585)) (holdC (i := 13) (q13 _ (w_loadN rfl underlying96 rfl sz96 hs51 hk_586)) hold0))) (fun hp => ?_)
 refine RG_eff (rs := [15, 27]) (by kernel_rfl) rfl ?_
 obtain ⟨ha0, ha1⟩ := h
 simp only [List.mem_cons, List.not_mem_nil, or_false, forall_eq_or_imp, forall_eq]
 refine ⟨?_, ?_⟩
 have h := ha0; clear ha0 ha1
 refine g_op (Sp' := [(24, S24), (20, S20)]) rfl rfl (k_call (vs := [(Sl.v q_1), (.agg v_51), (.int .i64 b_10)]) cb62 (evC rfl (evC rfl (evC rfl evN))) (h.mono ?_))
 clear h; rintro v F ⟨v_53_5, rfl, h⟩
 obtain ⟨hk_587, hk_588, h⟩ := h
 refine holdI (holdC (i := 24) (q24 _ (r_convBS rfl rfl underlying22 underlying9 underlying5 ⟨_, _, _, rfl⟩ hk_587)) (holdC (i := 20) (q20 _ (r_load1 rfl rfl underlying9 rfl hk_588)) hold0)) (fun hp => ?_)
 obtain ⟨hz64_0, hz64_1, h⟩ := h
 refine gU 26 (.agg (x32 v_45_1 v_53_5 v_58 v_62_5)) rfl (fun _ => w_buildStruct (cells := (x32 v_45_1 v_53_5 v_58 v_62_5)) underlying99 zr99 kf99 (evPC rfl (evPC rfl (evPC rfl evPN))) (fillA (place_of rfl rfl sz96) hz64_0 (by first | rfl | (simp only [wr_size, Array.size_setIfInBounds]; rfl)) (fillA (place_of rfl rfl sz96) hz64_1 (by first | rfl | (simp only [wr_size, Array.size_setIfInBounds]; rfl)) (fill1 (place_of rfl rfl sz9) rfl (by first | rfl | (simp only [wr_size, Array.size_setIfInBounds]; rfl)) (fillN rfl))))) hp ?_
 refine RG_eff1 (i := 27) (by kernel_rfl) (g_op (Sp' := [(24, S24), (20, S20)]) rfl rfl (k_alloc zr99 ?_))
 intro b11_5 hf_b11_5
 replace h := atE (h b11_5 hf_b11_5)
 obtain ⟨hk_589, h⟩ := h
 refine holdI (holdC (i := 24) (q24 _ (r_convBS rfl rfl underlying22 underlying9 underlying5 ⟨_, _, _, rfl⟩ hk_589)) (holdC (i := 20) (q20 _ (r_load1 rfl rfl underlying9 rfl (cell_set_fresh hf_b11_5 hk_588))) hold0)) (fun hp => ?_)
 refine RG_eff1 (i := 28) (by kernel_rfl) (g_op0 (Sp' := []) rfl rfl (k_storeN (vs := (x32 v_45_1 v_53_5 v_58 v_62_5)) rfl rfl sz99 (by decide) ?_))
 obtain ⟨hz1, hz2, c, e, hz3, hz4, hz5, h⟩ := h
 refine ⟨hz1, hz2, c, e, hz3, hz4, hz5, ?_⟩
 replace h := atE h
 refine holdI hold0 (fun hp => ?_)
 refine RG_done (by kernel_rfl) ?_
 show b32J4 (nx2 I1 m1) (nx2 I2 m2) p_0 q_1 l_8_2 i_9 b_10 R _ _
 exact ⟨_, h0, h1, h8, h9, h10, rfl, h⟩
 have h := ha1; clear ha0 ha1
 refine g_op (Sp' := [(24, S24), (20, S20), (13, S13)]) rfl rfl (k_alloc zr99 ?_)
 intro b11_6 hf_b11_6
 replace h := atE (h b11_6 hf_b11_6)
 obtain ⟨hk_590, h⟩ := h
 refine holdI (holdC (i := 24) (q24 _ (r_convBS rfl rfl underlying22 underlying9 underlying5 ⟨_, _, _, rfl⟩ hk_590)) (holdC (i := 20) (q20 _ (r_load1 rfl rfl underlying9 rfl (cell_set_fresh hf_b11_6 hk_585))) (holdC (i := 13) (q13 _ (w_loadN rfl underlying96 rfl sz96 hs51 (row_set_fresh hf_b11_6 hk_586))) hold0))) (fun hp => ?_)
 refine RG_eff1 (i := 15) (by kernel_rfl) (g_op (Sp' := [(24, S24), (20, S20)]) rfl rfl (k_call (vs := [(Sl.v q_1), (.agg v_51), (.int .i64 b_10)]) cb62 (evC rfl (evC rfl (evC rfl evN))) (h.mono ?_)))
 clear h; rintro v F ⟨v_53_6, rfl, h⟩
 obtain ⟨hk_591, hk_592, h⟩ := h
 refine holdI (holdC (i := 24) (q24 _ (r_convBS rfl rfl underlying22 underlying9 underlying5 ⟨_, _, _, rfl⟩ hk_591)) (holdC (i := 20) (q20 _ (r_load1 rfl rfl underlying9 rfl hk_592)) hold0)) (fun hp => ?_)
 obtain ⟨hz64_0, hz64_1, h⟩ := h
 refine gU 26 (.agg (x32 v_45_1 v_53_6 v_58 v_62_5)) rfl (fun _ => w_buildStruct (cells := (x32 v_45_1 v_53_6 v_58 v_62_5)) underlying99 zr99 kf99 (evPC rfl (evPC rfl (evPC rfl evPN))) (fillA (place_of rfl rfl sz96) hz64_0 (by first | rfl | (simp only [wr_size, Array.size_setIfInBounds]; rfl)) (fillA (place_of rfl rfl sz96) hz64_1 (by first | rfl | (simp only [wr_size, Array.size_setIfInBounds]; rfl)) (fill1 (place_of rfl rfl sz9) rfl (by first | rfl | (simp only [wr_size, Array.size_setIfInBounds]; rfl)) (fillN rfl))))) hp ?_
 refine RG_eff1 (i := 28) (by kernel_rfl) (g_op0 (Sp' := []) rfl rfl (k_storeN (vs := (x32 v_45_1 v_53_6 v_58 v_62_5)) rfl rfl sz99 (by decide) ?_))
 obtain ⟨hz1, hz2, c, e, hz3, hz4, hz5, h⟩ := h
 refine ⟨hz1, hz2, c, e, hz3, hz4, hz5, ?_⟩
 replace h := atE h
 refine holdI hold0 (fun hp => ?_)
 refine RG_done (by kernel_rfl) ?_
 show b32J4 (nx2 I1 m1) (nx2 I2 m2) p_0 q_1 l_8_2 i_9 b_10 R _ _
 exact ⟨_, h0, h1, h8, h9, h10, rfl, h⟩
 have h := ha1; clear ha0 ha1
 refine g_op (Sp' := [(24, S24), (20, S20), (13, S13), (5, S5)]) rfl rfl (k_alloc zr99 ?_)
 intro b11_7 hf_b11_7
 replace h := atE (h b11_7 hf_b11_7)
 obtain ⟨hk_593, h⟩ := h
 refine holdI (holdC (i := 24) (q24 _ (r_convBS rfl rfl underlying22 underlying9 underlying5 ⟨_, _, _, rfl⟩ hk_593)) (holdC (i := 20) (q20 _ (r_load1 rfl rfl underlying9 rfl (cell_set_fresh hf_b11_7 (cell_set_fresh hf_b61_5 hc58)))) (holdC (i := 13) (q13 _ (w_loadN rfl underlying96 rfl sz96 hs51 (row_set_fresh hf_b11_7 (row_set_fresh hf_b61_5 hc51)))) (holdC (i := 5) (q5 _ (w_loadN rfl underlying96 rfl sz96 hs43 (row_set_fresh hf_b11_7 (row_set_fresh hf_b61_5 hc43)))) hold0)))) (fun hp => ?_)
 refine RG_eff1 (i := 7) (by kernel_rfl) (g_op (Sp' := [(24, S24), (20, S20), (13, S13)]) rfl rfl (k_call (vs := [(Sl.v p_0), (.agg v_43), (.int .i64 b_10)]) cb62 (evC rfl (evC rfl (evC rfl evN))) (h.mono ?_)))
 clear h; rintro v F ⟨v_45_2, rfl, h⟩
 obtain ⟨hk_594, hk_595, hk_596, h⟩ := h
 refine holdI (holdC (i := 24) (q24 _ (r_convBS rfl rfl underlying22 underlying9 underlying5 ⟨_, _, _, rfl⟩ hk_594)) (holdC (i := 20) (q20 _ (r_load1 rfl rfl underlying9 rfl hk_595)) (holdC (i := 13) (q13 _ (w_loadN rfl underlying96 rfl sz96 hs51 hk_596)) hold0))) (fun hp => ?_)
 refine RG_eff1 (i := 15) (by kernel_rfl) (g_op (Sp' := [(24, S24), (20, S20)]) rfl rfl (k_call (vs := [(Sl.v q_1), (.agg v_51), (.int .i64 b_10)]) cb62 (evC rfl (evC rfl (evC rfl evN))) (h.mono ?_)))
 clear h; rintro v F ⟨v_53_7, rfl, h⟩
 obtain ⟨hk_597, hk_598, h⟩ := h
 refine holdI (holdC (i := 24) (q24 _ (r_convBS rfl rfl underlying22 underlying9 underlying5 ⟨_, _, _, rfl⟩ hk_597)) (holdC (i := 20) (q20 _ (r_load1 rfl rfl underlying9 rfl hk_598)) hold0)) (fun hp => ?_)
 obtain ⟨hz64_0, hz64_1, h⟩ := h
 refine gU 26 (.agg (x32 v_45_2 v_53_7 v_58 v_62_5)) rfl (fun _ => w_buildStruct (cells := (x32 v_45_2 v_53_7 v_58 v_62_5)) underlying99 zr99 kf99 (evPC rfl (evPC rfl (evPC rfl evPN))) (fillA (place_of rfl rfl sz96) hz64_0 (by first | rfl | (simp only [wr_size, Array.size_setIfInBounds]; rfl)) (fillA (place_of rfl rfl sz96) hz64_1 (by first | rfl | (simp only [wr_size, Array.size_setIfInBounds]; rfl)) (fill1 (place_of rfl rfl sz9) rfl (by first | rfl | (simp only [wr_size, Array.size_setIfInBounds]; rfl)) (fillN rfl))))) hp ?_
 refine RG_eff1 (i := 28) (by kernel_rfl) (g_op0 (Sp' := []) rfl rfl (k_storeN (vs := (x32 v_45_2 v_53_7 v_58 v_62_5)) rfl rfl sz99 (by decide) ?_))
 obtain ⟨hz1, hz2, c, e, hz3, hz4, hz5, h⟩ := h
 refine ⟨hz1, hz2, c, e, hz3, hz4, hz5, ?_⟩
 replace h := atE h
 refine holdI hold0 (fun hp => ?_)
 refine RG_done (by kernel_rfl) ?_
 show b32J4 (nx2 I1 m1) (nx2 I2 m2) p_0 q_1 l_8_2 i_9 b_10 R _ _
 exact ⟨_, h0, h1, h8, h9, h10, rfl, h⟩
 have h := ha2; clear ha0 ha1 ha2
 refine g_op (Sp' := [(20, S20), (13, S13), (5, S5)]) rfl rfl (k_alloc zr99 ?_)
 intro b11_8 hf_b11_8
 replace h := atE (h b11_8 hf_b11_8)
 refine holdI (holdC (i := 20) (q20 _ (r_load1 rfl rfl underlying9 rfl (cell_set_fresh hf_b11_8 hc58))) (holdC (i := 13) (q13 _ (w_loadN rfl underlying96 rfl sz96 hs51 (row_set_fresh hf_b11_8 hc51))) (holdC (i := 5) (q5 _ (w_loadN rfl underlying96 rfl sz96 hs43 (row_set_fresh hf_b11_8 hc43))) hold0))) (fun hp => ?_)
 refine RG_eff (rs := [7, 23]) (by kernel_rfl) rfl ?_
 obtain ⟨ha0, ha1⟩ := h
 simp only [List.mem_cons, List.not_mem_nil, or_false, forall_eq_or_imp, forall_eq]
 refine ⟨?_, ?_⟩
 have h := ha0; clear ha0 ha1
 refine g_op (Sp' := [(20, S20), (13, S13)]) rfl rfl (k_call (vs := [(Sl.v p_0), (.agg v_43), (.int .i64 b_10)]) cb62 (evC rfl (evC rfl (evC rfl evN))) (h.mono ?_))
 clear h; rintro v F ⟨v_45_3, rfl, h⟩
 obtain ⟨hk_599, hk_600, h⟩ := h
 refine holdI (holdC (i := 20) (q20 _ (r_load1 rfl rfl underlying9 rfl hk_599)) (holdC (i := 13) (q13 _ (w_loadN rfl underlying96 rfl sz96 hs51 hk_600)) hold0)) (fun hp => ?_)
 refine RG_eff (rs := [15, 23]) (by kernel_rfl) rfl ?_
 obtain ⟨ha0, ha1⟩ := h
 simp only [List.mem_cons, List.not_mem_nil, or_false, forall_eq_or_imp, forall_eq]
 refine ⟨?_, ?_⟩
 have h := ha0; clear ha0 ha1
 refine g_op (Sp' := [(20, S20)]) rfl rfl (k_call (vs := [(Sl.v q_1), (.agg v_51), (.int .i64 b_10)]) cb62 (evC rfl (evC rfl (evC rfl evN))) (h.mono ?_))
 clear h; rintro v F ⟨v_53_8, rfl, h⟩
 obtain ⟨hk_601, h⟩ := h
 refine holdI (holdC (i := 20) (q20 _ (r_load1 rfl rfl underlying9 rfl hk_601)) hold0) (fun hp => ?_)
 refine RG_eff1 (i := 23) (by kernel_rfl) (g_op (Sp' := [(20, S20)]) rfl rfl (k_buildSeq (l := [(.int .u8 (IntKind.u8.wrap b_10))]) underlying22 sz5 (by decide) zr5 rfl rfl ⟨rfl, trivial⟩ (evPC rfl evPN) ?_))
 intro b61_6 hf_b61_6
 replace h := atE (h b61_6 hf_b61_6)
 refine holdI (holdC (i := 20) (q20 _ (r_load1 rfl rfl underlying9 rfl (cell_set_fresh hf_b61_6 hk_601))) hold0) (fun hp => ?_)
 obtain ⟨v_62_6, hc62, h⟩ := h
 refine gR 24 (.string v_62_6) rfl (r_convBS rfl rfl underlying22 underlying9 underlying5 ⟨_, _, _, rfl⟩ hc62) hp (fun S24 q24 => ?_)
 replace hp := holdC (i := 24) (q24 _ (r_convBS rfl rfl underlying22 underlying9 underlying5 ⟨_, _, _, rfl⟩ hc62)) hp
 obtain ⟨hx63, h⟩ := h
 refine gU 25 (.string (v_58 ++ v_62_6)) rfl (fun _ => r_addS rfl rfl rfl hx63) hp ?_
 obtain ⟨hz64_0, hz64_1, h⟩ := h
 refine gU 26 (.agg (x32 v_45_3 v_53_8 v_58 v_62_6)) rfl (fun _ => w_buildStruct (cells := (x32 v_45_3 v_53_8 v_58 v_62_6)) underlying99 zr99 kf99 (evPC rfl (evPC rfl (evPC rfl evPN))) (fillA (place_of rfl rfl sz96) hz64_0 (by first | rfl | (simp only [wr_size, Array.size_setIfInBounds]; rfl)) (fillA (place_of rfl rfl sz96) hz64_1 (by first | rfl | (simp only [wr_size, Array.size_setIfInBounds]; rfl)) (fill1 (place_of rfl rfl sz9) rfl (by first | rfl | (simp only [wr_size, Array.size_setIfInBounds]; rfl)) (fillN rfl))))) hp ?_
 refine RG_eff1 (i := 28) (by kernel_rfl) (g_op0 (Sp' := []) rfl rfl (k_storeN (vs := (x32 v_45_3 v_53_8 v_58 v_62_6)) rfl rfl sz99 (by decide) ?_))
 obtain ⟨hz1, hz2, c, e, hz3, hz4, hz5, h⟩ := h
 refine ⟨hz1, hz2, c, e, hz3, hz4, hz5, ?_⟩
 replace h := atE h
 refine holdI hold0 (fun hp => ?_)
 refine RG_done (by kernel_rfl) ?_
 show b32J4 (nx2 I1 m1) (nx2 I2 m2) p_0 q_1 l_8_2 i_9 b_10 R _ _
 exact ⟨_, h0, h1, h8, h9, h10, rfl, h⟩
 have h := ha1; clear ha0 ha1
 refine g_op (Sp' := [(20, S20), (13, S13)]) rfl rfl (k_buildSeq (l := [(.int .u8 (IntKind.u8.wrap b_10))]) underlying22 sz5 (by decide) zr5 rfl rfl ⟨rfl, trivial⟩ (evPC rfl evPN) ?_)
 intro b61_7 hf_b61_7
 replace h := atE (h b61_7 hf_b61_7)
 refine holdI (holdC (i := 20) (q20 _ (r_load1 rfl rfl underlying9 rfl (cell_set_fresh hf_b61_7 hk_599))) (holdC (i := 13) (q13 _ (w_loadN rfl underlying96 rfl sz96 hs51 (row_set_fresh hf_b61_7 hk_600))) hold0)) (fun hp => ?_)
 obtain ⟨v_62_7, hc62, h⟩ := h
 refine gR 24 (.string v_62_7) rfl (r_convBS rfl rfl underlying22 underlying9 underlying5 ⟨_, _, _, rfl⟩ hc62) hp (fun S24 q24 => ?_)
 replace hp := holdC (i := 24) (q24 _ (r_convBS rfl rfl underlying22 underlying9 underlying5 ⟨_, _, _, rfl⟩ hc62)) hp
 obtain ⟨hx63, h⟩ := h
 refine gU 25 (.string (v_58 ++ v_62_7)) rfl (fun _ => r_addS rfl rfl rfl hx63) hp ?_
 refine RG_eff1 (i := 15) (by kernel_rfl) (g_op (Sp' := [(24, S24), (20, S20)]) rfl rfl (k_call (vs := [(Sl.v q_1), (.agg v_51), (.int .i64 b_10)]) cb62 (evC rfl (evC rfl (evC rfl evN))) (h.mono ?_)))
 clear h; rintro v F ⟨v_53_9, rfl, h⟩
 obtain ⟨hk_602, hk_603, h⟩ := h
 refine holdI (holdC (i := 24) (q24 _ (r_convBS rfl rfl underlying22 underlying9 underlying5 ⟨_, _, _, rfl⟩ hk_602)) (holdC (i := 20) (q20 _ (r_load1 rfl rfl underlying9 rfl hk_603)) hold0)) (fun hp => ?_)
 obtain ⟨hz64_0, hz64_1, h⟩ := h
 refine gU 26 (.agg (x32 v_45_3 v_53_9 v_58 v_62_7)) rfl (fun _ => w_buildStruct (cells := (x32 v_45_3 v_53_9 v_58 v_62_7)) underlying99 zr99 kf99 (evPC rfl (evPC rfl (evPC rfl evPN))) (fillA (place_of rfl rfl sz96) hz64_0 (by first | rfl | (simp only [wr_size, Array.size_setIfInBounds]; rfl)) (fillA (place_of rfl rfl sz96) hz64_1 (by first | rfl | (simp only [wr_size, Array.size_setIfInBounds]; rfl)) (fill1 (place_of rfl rfl sz9) rfl (by first | rfl | (simp only [wr_size, Array.size_setIfInBounds]; rfl)) (fillN rfl))))) hp ?_
 refine RG_eff1 (i := 28) (by kernel_rfl) (g_op0 (Sp' := []) rfl rfl (k_storeN (vs := (x32 v_45_3 v_53_9 v_58 v_62_7)) rfl rfl sz99 (by decide) ?_))
 obtain ⟨hz1, hz2, c, e, hz3, hz4, hz5, h⟩ := h
 refine ⟨hz1, hz2, c, e, hz3, hz4, hz5, ?_⟩
 replace h := atE h
 refine holdI hold0 (fun hp => ?_)
 refine RG_done (by kernel_rfl) ?_
 show b32J4 (nx2 I1 m1) (nx2 I2 m2) p_0 q_1 l_8_2 i_9 b_10 R _ _
 exact ⟨_, h0, h1, h8, h9, h10, rfl, h⟩
 have h := ha1; clear ha0 ha1
 refine g_op (Sp' := [(20, S20), (13, S13), (5, S5)]) rfl rfl (k_buildSeq (l := [(.int .u8 (IntKind.u8.wrap b_10))]) underlying22 sz5 (by decide) zr5 rfl rfl ⟨rfl, trivial⟩ (evPC rfl evPN) ?_)
 intro b61_8 hf_b61_8
 replace h := atE (h b61_8 hf_b61_8)
 refine holdI (holdC (i := 20) (q20 _ (r_load1 rfl rfl underlying9 rfl (cell_set_fresh hf_b61_8 (cell_set_fresh hf_b11_8 hc58)))) (holdC (i := 13) (q13 _ (w_loadN rfl underlying96 rfl sz96 hs51 (row_set_fresh hf_b61_8 (row_set_fresh hf_b11_8 hc51)))) (holdC (i := 5) (q5 _ (w_loadN rfl underlying96 rfl sz96 hs43 (row_set_fresh hf_b61_8 (row_set_fresh hf_b11_8 hc43)))) hold0))) (fun hp => ?_)
 obtain ⟨v_62_8, hc62, h⟩ := h
 refine gR 24 (.string v_62_8) rfl (r_convBS rfl rfl underlying22 underlying9 underlying5 ⟨_, _, _, rfl⟩ hc62) hp (fun S24 q24 => ?_)
 replace hp := holdC (i := 24) (q24 _ (r_convBS rfl rfl underlying22 underlying9 underlying5 ⟨_, _, _, rfl⟩ hc62)) hp
 obtain ⟨hx63, h⟩ := h
 refine gU 25 (.string (v_58 ++ v_62_8)) rfl (fun _ => r_addS rfl rfl rfl hx63) hp ?_
 refine RG_eff1 (i := 7) (by kernel_rfl) (g_op (Sp' := [(24, S24), (20, S20), (13, S13)]) rfl rfl (k_call (vs := [(Sl.v p_0), (.agg v_43), (.int .i64 b_10)]) cb62 (evC rfl (evC rfl (evC rfl evN))) (h.mono ?_)))
 clear h; rintro v F ⟨v_45_4, rfl, h⟩
 obtain ⟨hk_604, hk_605, hk_606, h⟩ := h
 refine holdI (holdC (i := 24) (q24 _ (r_convBS rfl rfl underlying22 underlying9 underlying5 ⟨_, _, _, rfl⟩ hk_604)) (holdC (i := 20) (q20 _ (r_load1 rfl rfl underlying9 rfl hk_605)) (holdC (i := 13) (q13 _ (w_loadN rfl underlying96 rfl sz96 hs51 hk_606)) hold0))) (fun hp => ?_)
 refine RG_eff1 (i := 15) (by kernel_rfl) (g_op (Sp' := [(24, S24), (20, S20)]) rfl rfl (k_call (vs := [(Sl.v q_1), (.agg v_51), (.int .i64 b_10)]) cb62 (evC rfl (evC rfl (evC rfl evN))) (h.mono ?_)))
 clear h; rintro v F ⟨v_53_10, rfl, h⟩
 obtain ⟨hk_607, hk_608, h⟩ := h
 refine holdI (holdC (i := 24) (q24 _ (r_convBS rfl rfl underlying22 underlying9 underlying5 ⟨_, _, _, rfl⟩ hk_607)) (holdC (i := 20) (q20 _ (r_load1 rfl rfl underlying9 rfl hk_608)) hold0)) (fun hp => ?_)
 obtain ⟨hz64_0, hz64_1, h⟩ := h
 refine gU 26 (.agg (x32 v_45_4 v_53_10 v_58 v_62_8)) rfl (fun _ => w_buildStruct (cells := (x32 v_45_4 v_53_10 v_58 v_62_8)) underlying99 zr99 kf99 (evPC rfl (evPC rfl (evPC rfl evPN))) (fillA (place_of rfl rfl sz96) hz64_0 (by first | rfl | (simp only [wr_size, Array.size_setIfInBounds]; rfl)) (fillA (place_of rfl rfl sz96) hz64_1 (by first | rfl | (simp only [wr_size, Array.size_setIfInBounds]; rfl)) (fill1 (place_of rfl rfl sz9) rfl (by first | rfl | (simp only [wr_size, Array.size_setIfInBounds]; rfl)) (fillN rfl))))) hp ?_
 refine RG_eff1 (i := 28) (by kernel_rfl) (g_op0 (Sp' := []) rfl rfl (k_storeN (vs := (x32 v_45_4 v_53_10 v_58 v_62_8)) rfl rfl sz99 (by decide) ?_))
 obtain ⟨hz1, hz2, c, e, hz3, hz4, hz5, h⟩ := h
 refine ⟨hz1, hz2, c, e, hz3, hz4, hz5, ?_⟩
 replace h := atE h
 refine holdI hold0 (fun hp => ?_)
 refine RG_done (by kernel_rfl) ?_
 show b32J4 (nx2 I1 m1) (nx2 I2 m2) p_0 q_1 l_8_2 i_9 b_10 R _ _
 exact ⟨_, h0, h1, h8, h9, h10, rfl, h⟩
 replace h := h.2 (of_decide_eq_false hc)
 clear hc
 refine HC_exit ?_
 show b32J2 (nx2 I1 m1) p_0 q_1 i_9 R _ _
 exact ⟨_, h0, h1, h8, h9, h⟩
 replace h := h.2 (of_decide_eq_false hc)
 clear hc
 refine HC_exit ?_
 exact h
 /- 30 koine.koineref04.Shortest -/
def b30 (p_0 : Sl) (R : VP) (F : PH) :=
 Spec prog 32 #[(Sl.v p_0), (Sl.v p_0)] F fun v F => ∃ v_6 : ByteArray, ∃ v_6_1 : Int, v = (.tuple #[(.string v_6), (.int .i64 v_6_1)]) ∧
 R (.tuple #[(.string v_6), (.int .i64 v_6_1)]) F
theorem c30 {p_0 : Sl} {R : VP} {F : PH} (h : b30 p_0 R F) : Spec prog 30 #[(Sl.v p_0)] F R := by
 refine spec_of (args := [(Sl.v p_0)]) func30 rfl ntmps30 rfl ?_
 unfold b30 at h
 refine cR (sR (.string (ByteArray.mk #[])) (r_assign rfl rfl) ?_)
 refine sR (.int .i64 0) (r_assign rfl rfl) ?_
 refine HL_nil ?_
 refine cR (sR (Sl.v p_0) (r_move rfl rfl) ?_)
 refine sR (Sl.v p_0) (r_move rfl rfl) ?_
 refine s_ef (k_call (vs := [(Sl.v p_0), (Sl.v p_0)]) cb32 (evC rfl (evC rfl evN)) (h.mono ?_))
 clear h; rintro v F ⟨v_6, v_6_1, rfl, h⟩
 refine sR (.string v_6) (r_extract rfl rfl rfl) ?_
 refine sR (.int .i64 v_6_1) (r_extract rfl rfl rfl) ?_
 refine sR (.string v_6) (r_assign rfl rfl) ?_
 refine sR (.int .i64 v_6_1) (r_assign rfl rfl) ?_
 exact HL_nil (HC_ret (rt2 f30 R rfl rfl rfl h))
end Go.Proofs.YtnjcgpihfmklfaaDoor
