/-
  What functions of the program do, in a clean form, each with the proof that its code does so. Printed by a program.
-/
import Derived.Test.YtnjcgpihfmklfaaDoorGf
import Derived.Test.YtnjcgpihfmklfaaDoorPho
namespace Go.Proofs.YtnjcgpihfmklfaaDoor
open Go Go.Proofs.Tryd
set_option maxRecDepth 10000
set_option maxHeartbeats 4000000
/- 50 koine.pattern.arity -/
def b50j1 (kind_0 : Int) (v_4 : Bool) (R : VP) (F : PH) :=
 ((v_4 = true →
  R (.int .i64 0) F) ∧
 (v_4 = false →
  ((kind_0 = 4 →
   R (.int .i64 1) F) ∧
  (¬ (kind_0 = 4) →
   ((kind_0 = 2 →
    ((kind_0 = 2 →
     R (.int .i64 2) F) ∧
    (¬ (kind_0 = 2) →
     R (.int .i64 (-1 : Int)) F))) ∧
   (¬ (kind_0 = 2) →
    ((kind_0 = 3 →
     R (.int .i64 2) F) ∧
    (¬ (kind_0 = 3) →
     R (.int .i64 (-1 : Int)) F))))))))
abbrev b50J1 (kind_0 : Int) (R : VP) (E : En) (F : PH) : Prop := ∃ v_4 : Bool, E 3 = (.int .i64 kind_0) ∧ E 4 = (.bool v_4) ∧ b50j1 kind_0 v_4 R F
def b50 (kind_0 : Int) (R : VP) (F : PH) :=
 ((kind_0 = 0 →
  b50j1 kind_0 (decide (kind_0 = 0)) R F) ∧
 (¬ (kind_0 = 0) →
  b50j1 kind_0 (decide (kind_0 = 1)) R F))
theorem c50 {kind_0 : Int} {R : VP} {F : PH} (h : b50 kind_0 R F) : Spec prog 50 #[(.int .i64 kind_0)] F R := by
 refine spec_of (args := [(.int .i64 kind_0)]) func50 rfl ntmps50 rfl ?_
 unfold b50 at h
 refine cR (sR (.int .i64 0) (r_assign rfl rfl) ?_)
 refine HL_nil ?_
 refine HC_seq ?_
 refine cR (sR (.int .i64 kind_0) (r_move rfl rfl) ?_)
 refine HL_nil ?_
 refine HC_block ?_
 refine HC_seqJ (b50J1 kind_0 R) ?_ ?_
 clear h; rintro E F ⟨v_4, h3, h4, h⟩
 unfold b50j1 at h
 refine HC_cond (t := v_4) h4 (fun hc => ?_) (fun hc => ?_)
 replace h := h.1 hc
 clear hc
 refine cR (sR (.int .i64 0) (r_assign rfl rfl) ?_)
 exact HL_nil (HC_ret (rt1 f50 R rfl rfl h))
 replace h := h.2 hc
 clear hc
 refine cR (sR (.bool (decide (kind_0 = 4))) (w_eql h3 rfl) ?_)
 refine sR (.bool (decide (kind_0 = 4))) (r_assign rfl rfl) ?_
 refine HL_nil ?_
 refine HC_cond (t := (decide (kind_0 = 4))) rfl (fun hc => ?_) (fun hc => ?_)
 replace h := h.1 (of_decide_eq_true hc)
 clear hc
 refine cR (sR (.int .i64 1) (r_assign rfl rfl) ?_)
 exact HL_nil (HC_ret (rt1 f50 R rfl rfl h))
 replace h := h.2 (of_decide_eq_false hc)
 clear hc
 refine HC_seq ?_
 refine cR (sR (.bool (decide (kind_0 = 2))) (w_eql h3 rfl) ?_)
 refine sR (.bool (decide (kind_0 = 2))) (r_assign rfl rfl) ?_
 refine HL_nil ?_
 refine HC_cond (t := (decide (kind_0 = 2))) rfl (fun hc => ?_) (fun hc => ?_)
 replace h := h.1 (of_decide_eq_true hc)
 clear hc
 refine HC_skip ?_
 refine HC_cond (t := (decide (kind_0 = 2))) rfl (fun hc => ?_) (fun hc => ?_)
 replace h := h.1 (of_decide_eq_true hc)
 clear hc
 refine cR (sR (.int .i64 2) (r_assign rfl rfl) ?_)
 exact HL_nil (HC_ret (rt1 f50 R rfl rfl h))
 replace h := h.2 (of_decide_eq_false hc)
 clear hc
 refine HC_skip ?_
 refine cR (sR (.int .i64 (-1 : Int)) (r_assign rfl rfl) ?_)
 exact HL_nil (HC_ret (rt1 f50 R rfl rfl h))
 replace h := h.2 (of_decide_eq_false hc)
 clear hc
 refine HC_region ?_
 refine sR (.bool (decide (kind_0 = 3))) (w_eql h3 rfl) ?_
 refine sR (.bool (decide (kind_0 = 3))) (r_assign rfl rfl) ?_
 refine HL_nil ?_
 refine HC_cond (t := (decide (kind_0 = 3))) rfl (fun hc => ?_) (fun hc => ?_)
 replace h := h.1 (of_decide_eq_true hc)
 clear hc
 refine cR (sR (.int .i64 2) (r_assign rfl rfl) ?_)
 exact HL_nil (HC_ret (rt1 f50 R rfl rfl h))
 replace h := h.2 (of_decide_eq_false hc)
 clear hc
 refine HC_skip ?_
 refine cR (sR (.int .i64 (-1 : Int)) (r_assign rfl rfl) ?_)
 exact HL_nil (HC_ret (rt1 f50 R rfl rfl h))
 refine cR (sR (.bool (decide (kind_0 = 0))) (w_eql rfl rfl) ?_)
 refine sR (.bool (decide (kind_0 = 0))) (r_assign rfl rfl) ?_
 refine HL_nil ?_
 refine HC_cond (t := (decide (kind_0 = 0))) rfl (fun hc => ?_) (fun hc => ?_)
 replace h := h.1 (of_decide_eq_true hc)
 clear hc
 refine HC_skip ?_
 show b50J1 kind_0 R _ _
 exact ⟨_, rfl, rfl, h⟩
 replace h := h.2 (of_decide_eq_false hc)
 clear hc
 refine HC_region ?_
 refine sR (.bool (decide (kind_0 = 1))) (w_eql rfl rfl) ?_
 refine sR (.bool (decide (kind_0 = 1))) (r_assign rfl rfl) ?_
 refine HL_nil ?_
 show b50J1 kind_0 R _ _
 exact ⟨_, rfl, rfl, h⟩
 /- 49 koine.pattern.Check$1 -/
def b49 (i_0 : Int) (at_1 : Int) (v_2 : Option Addr) (R : VP) (F : PH) :=
 ((i_0 < 0 →
  R (.bool false) F) ∧
 (¬ (i_0 < 0) →
  ((at_1 ≤ i_0 →
   R (.bool false) F) ∧
  (¬ (at_1 ≤ i_0) →
   ∃ v2a_ : Addr, v_2 = some v2a_ ∧ ∃ v_14 : Sl, F.cell v2a_ = some (Sl.v v_14) ∧
   ∃ a16_ : Addr, v_14.base = some a16_ ∧ 0 ≤ i_0 ∧ i_0 < (v_14.len : Int) ∧
   ∃ v_17 : Bool, F.cell (Addr.add a16_ (Int.toNat i_0 * 1)) = some (.bool v_17) ∧
   ((v_17 = true →
    R (.bool false) F) ∧
   (v_17 = false →
    ∃ v_19 : Sl, F.cell v2a_ = some (Sl.v v_19) ∧
    ∃ a21_ : Addr, v_19.base = some a21_ ∧ 0 ≤ i_0 ∧ i_0 < (v_19.len : Int) ∧
    ∃ c e, F (Addr.add a21_ (Int.toNat i_0 * 1)).block = some (.cells c e (0, 0)) ∧ (Addr.add a21_ (Int.toNat i_0 * 1)).spot = none ∧ (Addr.add a21_ (Int.toNat i_0 * 1)).off < c.size ∧
    atF (F.set (Addr.add a21_ (Int.toNat i_0 * 1)).block (.cells (c.setIfInBounds (Addr.add a21_ (Int.toNat i_0 * 1)).off (.bool true)) e)) fun F =>
    R (.bool true) F))))))
theorem c49 {i_0 : Int} {at_1 : Int} {v_2 : Option Addr} {R : VP} {F : PH} (h : b49 i_0 at_1 v_2 R F) : Spec prog 49 #[(.int .i64 i_0), (.int .i64 at_1), (.pointer v_2)] F R := by
 refine spec_of (args := [(.int .i64 i_0), (.int .i64 at_1), (.pointer v_2)]) func49 rfl ntmps49 rfl ?_
 unfold b49 at h
 refine cR (sR (.bool false) (r_assign rfl rfl) ?_)
 refine HL_nil ?_
 refine HC_seq ?_
 refine cR (sR (.int .i64 i_0) (r_move rfl rfl) ?_)
 refine sR (.bool (decide (i_0 < 0))) (r_lss rfl rfl rfl) ?_
 refine sR (.bool (decide (i_0 < 0))) (r_move rfl rfl) ?_
 by_cases hc : i_0 < 0
 replace h := h.1 hc
 refine kN 7 (decide_eq_true hc) ?_
 refine kN 8 (decide_eq_true hc) ?_
 iterate 3 refine s_skip ?_
 refine sR (.bool true) (r_pt rfl rfl) ?_
 refine sR (.bool true) (r_move rfl rfl) ?_
 iterate 4 refine s_skip ?_
 refine sR (.bool true) (r_pt rfl rfl) ?_
 refine HL_nil ?_
 refine HC_condT rfl ?_
 refine cR (sR (.bool false) (r_assign rfl rfl) ?_)
 exact HL_nil (HC_ret (rt1 f49 R rfl rfl h))
 replace h := h.2 hc
 refine kN 7 (decide_eq_false hc) ?_
 refine kN 8 (decide_eq_false hc) ?_
 refine sR (.int .i64 i_0) (r_move rfl rfl) ?_
 refine sR (.int .i64 at_1) (r_move rfl rfl) ?_
 refine sR (.bool (decide (at_1 ≤ i_0))) (r_geq rfl rfl rfl) ?_
 refine sR (.bool (decide (at_1 ≤ i_0))) (r_pf rfl rfl) ?_
 refine sR (.bool (decide (at_1 ≤ i_0))) (r_move rfl rfl) ?_
 by_cases hc : at_1 ≤ i_0
 replace h := h.1 hc
 refine kN 11 (decide_eq_true hc) ?_
 refine kN 12 (decide_eq_true hc) ?_
 refine kN 13 (decide_eq_true hc) ?_
 iterate 4 refine s_skip ?_
 refine sR (.bool true) (r_pt rfl rfl) ?_
 refine HL_nil ?_
 refine HC_condT rfl ?_
 refine cR (sR (.bool false) (r_assign rfl rfl) ?_)
 exact HL_nil (HC_ret (rt1 f49 R rfl rfl h))
 replace h := h.2 hc
 refine kN 11 (decide_eq_false hc) ?_
 refine kN 12 (decide_eq_false hc) ?_
 refine kN 13 (decide_eq_false hc) ?_
 obtain ⟨v2a_, rfl, h⟩ := h
 obtain ⟨v_14, hc14, h⟩ := h
 refine sR (Sl.v v_14) (r_load1 rfl rfl underlying69 rfl hc14) ?_
 refine sR (.int .i64 i_0) (r_move rfl rfl) ?_
 obtain ⟨a16_, hb16, hl16, hu16, h⟩ := h
 refine sR (.pointer (some (Addr.add a16_ (Int.toNat i_0 * 1)))) (w_indexAddr rfl rfl underlying69 sz4 hb16 hl16 hu16) ?_
 obtain ⟨v_17, hc17, h⟩ := h
 refine sR (.bool v_17) (r_load1 rfl rfl underlying4 rfl hc17) ?_
 refine sR (.bool v_17) (r_pf rfl rfl) ?_
 refine HL_nil ?_
 refine HC_cond (t := v_17) rfl (fun hc => ?_) (fun hc => ?_)
 replace h := h.1 hc
 clear hc
 refine cR (sR (.bool false) (r_assign rfl rfl) ?_)
 exact HL_nil (HC_ret (rt1 f49 R rfl rfl h))
 replace h := h.2 hc
 clear hc
 refine HC_skip ?_
 refine cR ?_
 obtain ⟨v_19, hc19, h⟩ := h
 refine sR (Sl.v v_19) (r_load1 rfl rfl underlying69 rfl hc19) ?_
 refine sR (.int .i64 i_0) (r_move rfl rfl) ?_
 obtain ⟨a21_, hb21, hl21, hu21, h⟩ := h
 refine sR (.pointer (some (Addr.add a21_ (Int.toNat i_0 * 1)))) (w_indexAddr rfl rfl underlying69 sz4 hb21 hl21 hu21) ?_
 refine s_ef0 (k_store1 (v := (.bool true)) rfl rfl sz4 rfl st_bool ?_)
 obtain ⟨c, e, hz3, hz4, hz5, h⟩ := h
 refine ⟨c, e, hz3, hz4, hz5, ?_⟩
 replace h := atE h
 refine HL_nil ?_
 refine cR (sR (.bool true) (r_assign rfl rfl) ?_)
 exact HL_nil (HC_ret (rt1 f49 R rfl rfl h))
 /- 21 koine.pattern.Check -/
def b21j2 (p_0 : Sl) (R : VP) (F : PH) :=
 (((p_0.len : Int) = 0 →
  R (.int .i64 40) F) ∧
 (¬ ((p_0.len : Int) = 0) →
  R (.int .i64 0) F))
abbrev b21J2 (p_0 : Sl) (R : VP) (E : En) (F : PH) : Prop := E 0 = (Sl.v p_0) ∧ b21j2 p_0 R F
def b21L1 (N1 : Int → PH → Prop) (p_0 : Sl) (b3 : Nat) (R : VP) (v_105 : Int) (F : PH) :=
 ((v_105 < (IntKind.i64.wrap ((p_0.len : Int) - 1)) →
  ∃ v_108 : Sl, F.cell (Addr.mk b3 0 none) = some (Sl.v v_108) ∧
  ∃ a110_ : Addr, v_108.base = some a110_ ∧ 0 ≤ v_105 ∧ v_105 < (v_108.len : Int) ∧
  ∃ v_111 : Bool, F.cell (Addr.add a110_ (Int.toNat v_105 * 1)) = some (.bool v_111) ∧
  (((!v_111) = true →
   R (.int .i64 40) F) ∧
  ((!v_111) = false →
   N1 (IntKind.i64.wrap (v_105 + 1)) F))) ∧
 (¬ (v_105 < (IntKind.i64.wrap ((p_0.len : Int) - 1))) →
  b21j2 p_0 R F))
def b21j1 (p_0 : Sl) (b3 : Nat) (R : VP) (F : PH) :=
 (∃ (I1 : Nat → Int → PH → Prop) (m1 : Nat), I1 m1 0 F ∧ ∀ m1 v_105 F, I1 m1 v_105 F →
  b21L1 (nx1 I1 m1) p_0 b3 R v_105 F)
abbrev b21J1 (p_0 : Sl) (b3 : Nat) (R : VP) (E : En) (F : PH) : Prop := E 0 = (Sl.v p_0) ∧ E 3 = (.pointer (some (Addr.mk b3 0 none))) ∧ b21j1 p_0 b3 R F
def b21j3 (N2 : Int → PH → Prop) (p_0 : Sl) (b3 : Nat) (v_19 : Int) (R : VP) (F : PH) :=
 N2 (IntKind.i64.wrap (v_19 + 1)) F
abbrev b21J3 (N2 : Int → PH → Prop) (p_0 : Sl) (b3 : Nat) (v_19 : Int) (R : VP) (E : En) (F : PH) : Prop := E 0 = (Sl.v p_0) ∧ E 3 = (.pointer (some (Addr.mk b3 0 none))) ∧ E 4 = (.func (.func 49) #[] #[(.pointer (some (Addr.mk b3 0 none)))]) ∧ E 17 = (Sl.v p_0) ∧ E 18 = (.int .i64 (p_0.len : Int)) ∧ E 19 = (.int .i64 v_19) ∧ b21j3 N2 p_0 b3 v_19 R F
def b21j4 (N2 : Int → PH → Prop) (p_0 : Sl) (b3 : Nat) (v_19 : Int) (b6 : Nat) (v_26 : Int) (ok_8 : Bool) (R : VP) (F : PH) :=
 (((!ok_8) = true →
  R (.int .i64 40) F) ∧
 ((!ok_8) = false →
  ((v_26 < 1 →
   ∃ v_64 : Int, F.cell (Addr.mk b6 3 none) = some (.int .i64 v_64) ∧
   ((v_64 ≠ 0 →
    R (.int .i64 40) F) ∧
   (¬ (v_64 ≠ 0) →
    ((v_26 < 2 →
     ∃ v_73 : Int, F.cell (Addr.mk b6 4 none) = some (.int .i64 v_73) ∧
     ((v_73 ≠ 0 →
      R (.int .i64 40) F) ∧
     (¬ (v_73 ≠ 0) →
      ((1 ≤ v_26 →
       ∃ v_83 : Int, F.cell (Addr.mk b6 3 none) = some (.int .i64 v_83) ∧
       Spec prog 49 #[(.int .i64 v_83), (.int .i64 v_19), (.pointer (some (Addr.mk b3 0 none)))] F fun v F => ∃ v_85 : Bool, v = (.bool v_85) ∧
       (((!v_85) = true →
        R (.int .i64 40) F) ∧
       ((!v_85) = false →
        ((2 ≤ v_26 →
         ∃ v_95 : Int, F.cell (Addr.mk b6 4 none) = some (.int .i64 v_95) ∧
         Spec prog 49 #[(.int .i64 v_95), (.int .i64 v_19), (.pointer (some (Addr.mk b3 0 none)))] F fun v F => ∃ v_97 : Bool, v = (.bool v_97) ∧
         (((!v_97) = true →
          R (.int .i64 40) F) ∧
         ((!v_97) = false →
          b21j3 N2 p_0 b3 v_19 R F))) ∧
        (¬ (2 ≤ v_26) →
         b21j3 N2 p_0 b3 v_19 R F))))) ∧
      (¬ (1 ≤ v_26) →
       ((2 ≤ v_26 →
        ∃ v_95_1 : Int, F.cell (Addr.mk b6 4 none) = some (.int .i64 v_95_1) ∧
        Spec prog 49 #[(.int .i64 v_95_1), (.int .i64 v_19), (.pointer (some (Addr.mk b3 0 none)))] F fun v F => ∃ v_97_1 : Bool, v = (.bool v_97_1) ∧
        (((!v_97_1) = true →
         R (.int .i64 40) F) ∧
        ((!v_97_1) = false →
         b21j3 N2 p_0 b3 v_19 R F))) ∧
       (¬ (2 ≤ v_26) →
        b21j3 N2 p_0 b3 v_19 R F))))))) ∧
    (¬ (v_26 < 2) →
     ((1 ≤ v_26 →
      ∃ v_83_1 : Int, F.cell (Addr.mk b6 3 none) = some (.int .i64 v_83_1) ∧
      Spec prog 49 #[(.int .i64 v_83_1), (.int .i64 v_19), (.pointer (some (Addr.mk b3 0 none)))] F fun v F => ∃ v_85_1 : Bool, v = (.bool v_85_1) ∧
      (((!v_85_1) = true →
       R (.int .i64 40) F) ∧
      ((!v_85_1) = false →
       ((2 ≤ v_26 →
        ∃ v_95_2 : Int, F.cell (Addr.mk b6 4 none) = some (.int .i64 v_95_2) ∧
        Spec prog 49 #[(.int .i64 v_95_2), (.int .i64 v_19), (.pointer (some (Addr.mk b3 0 none)))] F fun v F => ∃ v_97_2 : Bool, v = (.bool v_97_2) ∧
        (((!v_97_2) = true →
         R (.int .i64 40) F) ∧
        ((!v_97_2) = false →
         b21j3 N2 p_0 b3 v_19 R F))) ∧
       (¬ (2 ≤ v_26) →
        b21j3 N2 p_0 b3 v_19 R F))))) ∧
     (¬ (1 ≤ v_26) →
      ((2 ≤ v_26 →
       ∃ v_95_3 : Int, F.cell (Addr.mk b6 4 none) = some (.int .i64 v_95_3) ∧
       Spec prog 49 #[(.int .i64 v_95_3), (.int .i64 v_19), (.pointer (some (Addr.mk b3 0 none)))] F fun v F => ∃ v_97_3 : Bool, v = (.bool v_97_3) ∧
       (((!v_97_3) = true →
        R (.int .i64 40) F) ∧
       ((!v_97_3) = false →
        b21j3 N2 p_0 b3 v_19 R F))) ∧
      (¬ (2 ≤ v_26) →
       b21j3 N2 p_0 b3 v_19 R F))))))))) ∧
  (¬ (v_26 < 1) →
   ((v_26 < 2 →
    ∃ v_73_1 : Int, F.cell (Addr.mk b6 4 none) = some (.int .i64 v_73_1) ∧
    ((v_73_1 ≠ 0 →
     R (.int .i64 40) F) ∧
    (¬ (v_73_1 ≠ 0) →
     ((1 ≤ v_26 →
      ∃ v_83_2 : Int, F.cell (Addr.mk b6 3 none) = some (.int .i64 v_83_2) ∧
      Spec prog 49 #[(.int .i64 v_83_2), (.int .i64 v_19), (.pointer (some (Addr.mk b3 0 none)))] F fun v F => ∃ v_85_2 : Bool, v = (.bool v_85_2) ∧
      (((!v_85_2) = true →
       R (.int .i64 40) F) ∧
      ((!v_85_2) = false →
       ((2 ≤ v_26 →
        ∃ v_95_4 : Int, F.cell (Addr.mk b6 4 none) = some (.int .i64 v_95_4) ∧
        Spec prog 49 #[(.int .i64 v_95_4), (.int .i64 v_19), (.pointer (some (Addr.mk b3 0 none)))] F fun v F => ∃ v_97_4 : Bool, v = (.bool v_97_4) ∧
        (((!v_97_4) = true →
         R (.int .i64 40) F) ∧
        ((!v_97_4) = false →
         b21j3 N2 p_0 b3 v_19 R F))) ∧
       (¬ (2 ≤ v_26) →
        b21j3 N2 p_0 b3 v_19 R F))))) ∧
     (¬ (1 ≤ v_26) →
      ((2 ≤ v_26 →
       ∃ v_95_5 : Int, F.cell (Addr.mk b6 4 none) = some (.int .i64 v_95_5) ∧
       Spec prog 49 #[(.int .i64 v_95_5), (.int .i64 v_19), (.pointer (some (Addr.mk b3 0 none)))] F fun v F => ∃ v_97_5 : Bool, v = (.bool v_97_5) ∧
       (((!v_97_5) = true →
        R (.int .i64 40) F) ∧
       ((!v_97_5) = false →
        b21j3 N2 p_0 b3 v_19 R F))) ∧
      (¬ (2 ≤ v_26) →
       b21j3 N2 p_0 b3 v_19 R F))))))) ∧
   (¬ (v_26 < 2) →
    ((1 ≤ v_26 →
     ∃ v_83_3 : Int, F.cell (Addr.mk b6 3 none) = some (.int .i64 v_83_3) ∧
     Spec prog 49 #[(.int .i64 v_83_3), (.int .i64 v_19), (.pointer (some (Addr.mk b3 0 none)))] F fun v F => ∃ v_85_3 : Bool, v = (.bool v_85_3) ∧
     (((!v_85_3) = true →
      R (.int .i64 40) F) ∧
     ((!v_85_3) = false →
      ((2 ≤ v_26 →
       ∃ v_95_6 : Int, F.cell (Addr.mk b6 4 none) = some (.int .i64 v_95_6) ∧
       Spec prog 49 #[(.int .i64 v_95_6), (.int .i64 v_19), (.pointer (some (Addr.mk b3 0 none)))] F fun v F => ∃ v_97_6 : Bool, v = (.bool v_97_6) ∧
       (((!v_97_6) = true →
        R (.int .i64 40) F) ∧
       ((!v_97_6) = false →
        b21j3 N2 p_0 b3 v_19 R F))) ∧
      (¬ (2 ≤ v_26) →
       b21j3 N2 p_0 b3 v_19 R F))))) ∧
    (¬ (1 ≤ v_26) →
     ((2 ≤ v_26 →
      ∃ v_95_7 : Int, F.cell (Addr.mk b6 4 none) = some (.int .i64 v_95_7) ∧
      Spec prog 49 #[(.int .i64 v_95_7), (.int .i64 v_19), (.pointer (some (Addr.mk b3 0 none)))] F fun v F => ∃ v_97_7 : Bool, v = (.bool v_97_7) ∧
      (((!v_97_7) = true →
       R (.int .i64 40) F) ∧
      ((!v_97_7) = false →
       b21j3 N2 p_0 b3 v_19 R F))) ∧
     (¬ (2 ≤ v_26) →
      b21j3 N2 p_0 b3 v_19 R F))))))))))
abbrev b21J4 (N2 : Int → PH → Prop) (p_0 : Sl) (b3 : Nat) (v_19 : Int) (b6 : Nat) (v_26 : Int) (R : VP) (E : En) (F : PH) : Prop := ∃ ok_8 : Bool, E 0 = (Sl.v p_0) ∧ E 3 = (.pointer (some (Addr.mk b3 0 none))) ∧ E 4 = (.func (.func 49) #[] #[(.pointer (some (Addr.mk b3 0 none)))]) ∧ E 5 = (.int .i64 v_19) ∧ E 6 = (.pointer (some (Addr.mk b6 0 none))) ∧ E 7 = (.int .i64 v_26) ∧ E 8 = (.bool ok_8) ∧ E 17 = (Sl.v p_0) ∧ E 18 = (.int .i64 (p_0.len : Int)) ∧ E 19 = (.int .i64 v_19) ∧ b21j4 N2 p_0 b3 v_19 b6 v_26 ok_8 R F
def b21L2 (N2 : Int → PH → Prop) (p_0 : Sl) (b3 : Nat) (R : VP) (v_19 : Int) (F : PH) :=
 ((v_19 < (p_0.len : Int) →
  ∃ a22_ : Addr, p_0.base = some a22_ ∧ 0 ≤ v_19 ∧ v_19 < (p_0.len : Int) ∧
  ∃ v_23 : Array Value, v_23.size = 5 ∧ F.row (Addr.add a22_ (Int.toNat v_19 * 5)) v_23 ∧
  ∀ b6, F b6 = none → atF (F.set b6 (.cells (#[.int .i64 0, .int .i64 0, .int .i64 0, .int .i64 0, .int .i64 0]) 50)) fun F =>
  v_23.size = 5 ∧ (∀ v ∈ v_23.toList, storable v) ∧ ∃ c e, F (Addr.mk b6 0 none).block = some (.cells c e (0, 0)) ∧ (Addr.mk b6 0 none).spot = none ∧ (Addr.mk b6 0 none).off + 5 ≤ c.size ∧
  atF (F.set (Addr.mk b6 0 none).block (.cells (wr c (Addr.mk b6 0 none).off v_23.toList) e)) fun F =>
  ∃ v_25 : Int, F.cell (Addr.mk b6 0 none) = some (.int .i64 v_25) ∧
  Spec prog 50 #[(.int .i64 v_25)] F fun v F => ∃ v_26 : Int, v = (.int .i64 v_26) ∧
  ∃ v_31 : Int, F.cell (Addr.mk b6 0 none) = some (.int .i64 v_31) ∧
  ((v_31 = 1 →
   ∃ v_34 : Int, F.cell (Addr.mk b6 1 none) = some (.int .i64 v_34) ∧
   ((0 ≤ v_34 →
    ∃ v_38 : Int, F.cell (Addr.mk b6 1 none) = some (.int .i64 v_38) ∧
    ∃ v_40 : Int, F.cell (Addr.mk b6 2 none) = some (.int .i64 v_40) ∧
    ((v_38 ≤ v_40 →
     ∃ v_45 : Int, F.cell (Addr.mk b6 2 none) = some (.int .i64 v_45) ∧
     b21j4 N2 p_0 b3 v_19 b6 v_26 (decide (v_45 ≤ (255 : Int))) R F) ∧
    (¬ (v_38 ≤ v_40) →
     b21j4 N2 p_0 b3 v_19 b6 v_26 false R F))) ∧
   (¬ (0 ≤ v_34) →
    b21j4 N2 p_0 b3 v_19 b6 v_26 false R F))) ∧
  (¬ (v_31 = 1) →
   ∃ v_50 : Int, F.cell (Addr.mk b6 1 none) = some (.int .i64 v_50) ∧
   ((v_50 ≠ 0 →
    b21j4 N2 p_0 b3 v_19 b6 v_26 false R F) ∧
   (¬ (v_50 ≠ 0) →
    ∃ v_54 : Int, F.cell (Addr.mk b6 2 none) = some (.int .i64 v_54) ∧
    ((v_54 ≠ 0 →
     b21j4 N2 p_0 b3 v_19 b6 v_26 false R F) ∧
    (¬ (v_54 ≠ 0) →
     b21j4 N2 p_0 b3 v_19 b6 v_26 (decide (0 ≤ v_26)) R F))))))) ∧
 (¬ (v_19 < (p_0.len : Int)) →
  b21j1 p_0 b3 R F))
def b21 (p_0 : Sl) (R : VP) (F : PH) :=
 ((512 < (p_0.len : Int) →
  R (.int .i64 2) F) ∧
 (¬ (512 < (p_0.len : Int)) →
  runs prog (Instr.makeSlice 69 (.int .i64 (p_0.len : Int)) (.int .i64 (p_0.len : Int))) F fun v F => ∃ v_15 : Sl, v = (Sl.v v_15) ∧
  ∀ b3, F b3 = none → atF (F.set b3 (.cells (#[.slice none 0 0]) 69)) fun F =>
  ∃ c e, F (Addr.mk b3 0 none).block = some (.cells c e (0, 0)) ∧ (Addr.mk b3 0 none).spot = none ∧ (Addr.mk b3 0 none).off < c.size ∧
  atF (F.set (Addr.mk b3 0 none).block (.cells (c.setIfInBounds (Addr.mk b3 0 none).off (Sl.v v_15)) e)) fun F =>
  (∃ (I2 : Nat → Int → PH → Prop) (m2 : Nat), I2 m2 0 F ∧ ∀ m2 v_19 F, I2 m2 v_19 F →
   b21L2 (nx1 I2 m2) p_0 b3 R v_19 F)))
theorem c21 {p_0 : Sl} {R : VP} {F : PH} (h : b21 p_0 R F) : Spec prog 21 #[(Sl.v p_0)] F R := by
 refine spec_of (args := [(Sl.v p_0)]) func21 rfl ntmps21 rfl ?_
 unfold b21 at h
 refine cR (sR (.int .i64 0) (r_assign rfl rfl) ?_)
 refine HL_nil ?_
 refine HC_seq ?_
 refine cR (sR (Sl.v p_0) (r_move rfl rfl) ?_)
 refine sR (.int .i64 (p_0.len : Int)) (r_lenSl rfl rfl underlying25) ?_
 refine sR (.bool (decide (512 < (p_0.len : Int)))) (r_gtr rfl rfl rfl) ?_
 refine HL_nil ?_
 refine HC_cond (t := (decide (512 < (p_0.len : Int)))) rfl (fun hc => ?_) (fun hc => ?_)
 replace h := h.1 (of_decide_eq_true hc)
 clear hc
 refine cR (sR (.int .i64 2) (r_assign rfl rfl) ?_)
 exact HL_nil (HC_ret (rt1 f21 R rfl rfl h))
 replace h := h.2 (of_decide_eq_false hc)
 clear hc
 refine HC_skip ?_
 refine cR (sR (Sl.v p_0) (r_move rfl rfl) ?_)
 refine sR (.int .i64 (p_0.len : Int)) (r_lenSl rfl rfl underlying25) ?_
 refine s_ef (k_makeSlice rfl rfl (runs_mono _ _ h ?_))
 clear h; rintro v F ⟨v_15, rfl, h⟩
 refine s_ef (k_alloc zr69 ?_)
 intro b3 hf_b3
 replace h := atE (h b3 hf_b3)
 refine s_ef0 (k_store1 (v := (Sl.v v_15)) rfl rfl sz69 rfl st_sl ?_)
 obtain ⟨c, e, hz3, hz4, hz5, h⟩ := h
 refine ⟨c, e, hz3, hz4, hz5, ?_⟩
 replace h := atE h
 refine HL_nil ?_
 refine cR (sR (.func (.func 49) #[] #[(.pointer (some (Addr.mk b3 0 none)))]) (w_makeFunc evN (evC rfl evN)) ?_)
 refine sR (.func (.func 49) #[] #[(.pointer (some (Addr.mk b3 0 none)))]) (r_assign rfl rfl) ?_
 refine HL_nil ?_
 refine HC_seqJ (b21J1 p_0 b3 R) ?_ ?_
 clear h; rintro E F ⟨h0, h3, h⟩
 unfold b21j1 at h
 refine HC_seqJ (b21J2 p_0 R) ?_ ?_
 clear h; rintro E F ⟨h0, h⟩
 unfold b21j2 at h
 refine HC_seq ?_
 refine cR (sR _ (r_move rfl h0) ?_)
 refine sR (.int .i64 (p_0.len : Int)) (r_lenSl rfl rfl underlying25) ?_
 refine sR (.bool (decide ((p_0.len : Int) = 0))) (w_eql rfl rfl) ?_
 refine HL_nil ?_
 refine HC_cond (t := (decide ((p_0.len : Int) = 0))) rfl (fun hc => ?_) (fun hc => ?_)
 replace h := h.1 (of_decide_eq_true hc)
 clear hc
 refine cR (sR (.int .i64 40) (r_assign rfl rfl) ?_)
 exact HL_nil (HC_ret (rt1 f21 R rfl rfl h))
 replace h := h.2 (of_decide_eq_false hc)
 clear hc
 refine HC_skip ?_
 refine cR (sR (.int .i64 0) (r_assign rfl rfl) ?_)
 exact HL_nil (HC_ret (rt1 f21 R rfl rfl h))
 refine cR (sR _ (r_move rfl h0) ?_)
 refine sR (.int .i64 (p_0.len : Int)) (r_lenSl rfl rfl underlying25) ?_
 refine sR (.int .i64 (IntKind.i64.wrap ((p_0.len : Int) - 1))) (r_sub rfl rfl rfl) ?_
 refine sR (.int .i64 0) (r_move rfl rfl) ?_
 refine HL_nil ?_
 refine HC_block ?_
 obtain ⟨I1, m1, hI0, hr⟩ := h
 refine HC_loop (fun m1 E F => ∃ v_105 : Int, E 0 = (Sl.v p_0) ∧ E 3 = (.pointer (some (Addr.mk b3 0 none))) ∧ E 104 = (.int .i64 (IntKind.i64.wrap ((p_0.len : Int) - 1))) ∧ E 105 = (.int .i64 v_105) ∧ I1 m1 v_105 F) m1 ⟨_, h0, h3, rfl, rfl, hI0⟩ ?_
 clear hI0; rintro m1 E F ⟨v_105, h0, h3, h104, h105, hI⟩
 have h := hr m1 v_105 F hI
 clear hr hI
 unfold b21L1 at h
 refine cR (sR (.bool (decide (v_105 < (IntKind.i64.wrap ((p_0.len : Int) - 1))))) (r_lss rfl h105 h104) ?_)
 refine HL_nil ?_
 refine HC_seq ?_
 refine HC_cond (t := (decide (v_105 < (IntKind.i64.wrap ((p_0.len : Int) - 1))))) rfl (fun hc => ?_) (fun hc => ?_)
 replace h := h.1 (of_decide_eq_true hc)
 clear hc
 refine HC_skip ?_
 refine HC_seq ?_
 refine HC_block ?_
 refine cR (sR _ (r_move rfl h105) ?_)
 refine sR (.int .i64 v_105) (r_assign rfl rfl) ?_
 refine HL_nil ?_
 refine cR ?_
 obtain ⟨v_108, hc108, h⟩ := h
 refine sR (Sl.v v_108) (r_load1 rfl h3 underlying69 rfl hc108) ?_
 refine sR (.int .i64 v_105) (r_move rfl rfl) ?_
 obtain ⟨a110_, hb110, hl110, hu110, h⟩ := h
 refine sR (.pointer (some (Addr.add a110_ (Int.toNat v_105 * 1)))) (w_indexAddr rfl rfl underlying69 sz4 hb110 hl110 hu110) ?_
 obtain ⟨v_111, hc111, h⟩ := h
 refine sR (.bool v_111) (r_load1 rfl rfl underlying4 rfl hc111) ?_
 refine sR (.bool (!v_111)) (r_not rfl rfl) ?_
 refine HL_nil ?_
 refine HC_cond (t := (!v_111)) rfl (fun hc => ?_) (fun hc => ?_)
 replace h := h.1 hc
 clear hc
 refine cR (sR (.int .i64 40) (r_assign rfl rfl) ?_)
 exact HL_nil (HC_ret (rt1 f21 R rfl rfl h))
 replace h := h.2 hc
 clear hc
 refine HC_skip ?_
 refine HC_region ?_
 refine sR (.int .i64 (IntKind.i64.wrap (v_105 + 1))) (r_add rfl h105 rfl) ?_
 refine sR (.int .i64 (IntKind.i64.wrap (v_105 + 1))) (r_move rfl rfl) ?_
 refine HL_nil ?_
 obtain ⟨m', hm, h⟩ := h
 exact ⟨m', hm, _, h0, h3, h104, rfl, h⟩
 replace h := h.2 (of_decide_eq_false hc)
 clear hc
 refine HC_exit ?_
 show b21J2 p_0 R _ _
 exact ⟨h0, h⟩
 refine cR (sR (Sl.v p_0) (r_move rfl rfl) ?_)
 refine sR (.int .i64 (p_0.len : Int)) (r_lenSl rfl rfl underlying25) ?_
 refine sR (.int .i64 0) (r_move rfl rfl) ?_
 refine HL_nil ?_
 refine HC_block ?_
 obtain ⟨I2, m2, hI0, hr⟩ := h
 refine HC_loop (fun m2 E F => ∃ v_19 : Int, E 0 = (Sl.v p_0) ∧ E 3 = (.pointer (some (Addr.mk b3 0 none))) ∧ E 4 = (.func (.func 49) #[] #[(.pointer (some (Addr.mk b3 0 none)))]) ∧ E 17 = (Sl.v p_0) ∧ E 18 = (.int .i64 (p_0.len : Int)) ∧ E 19 = (.int .i64 v_19) ∧ I2 m2 v_19 F) m2 ⟨_, rfl, rfl, rfl, rfl, rfl, rfl, hI0⟩ ?_
 clear hI0; rintro m2 E F ⟨v_19, h0, h3, h4, h17, h18, h19, hI⟩
 have h := hr m2 v_19 F hI
 clear hr hI
 unfold b21L2 at h
 refine cR (sR (.bool (decide (v_19 < (p_0.len : Int)))) (r_lss rfl h19 h18) ?_)
 refine HL_nil ?_
 refine HC_seq ?_
 refine HC_cond (t := (decide (v_19 < (p_0.len : Int)))) rfl (fun hc => ?_) (fun hc => ?_)
 replace h := h.1 (of_decide_eq_true hc)
 clear hc
 refine HC_skip ?_
 refine HC_seqJ (b21J3 (nx1 I2 m2) p_0 b3 v_19 R) ?_ ?_
 clear h; rintro E F ⟨h0, h3, h4, h17, h18, h19, h⟩
 unfold b21j3 at h
 refine HC_region ?_
 refine sR (.int .i64 (IntKind.i64.wrap (v_19 + 1))) (r_add rfl h19 rfl) ?_
 refine sR (.int .i64 (IntKind.i64.wrap (v_19 + 1))) (r_move rfl rfl) ?_
 refine HL_nil ?_
 obtain ⟨m', hm, h⟩ := h
 exact ⟨m', hm, _, h0, h3, h4, h17, h18, rfl, h⟩
 refine HC_block ?_
 refine cR (sR _ (r_move rfl h19) ?_)
 obtain ⟨a22_, hb22, hl22, hu22, h⟩ := h
 refine sR (.pointer (some (Addr.add a22_ (Int.toNat v_19 * 5)))) (w_indexAddr h17 h19 underlying25 sz50 hb22 hl22 hu22) ?_
 obtain ⟨v_23, hs23, hc23, h⟩ := h
 refine sR (.agg v_23) (w_loadN rfl underlying50 rfl sz50 hs23 hc23) ?_
 refine s_ef (k_alloc zr50 ?_)
 intro b6 hf_b6
 replace h := atE (h b6 hf_b6)
 refine sR (.int .i64 v_19) (r_assign rfl rfl) ?_
 refine s_ef0 (k_storeN (vs := v_23) rfl rfl sz50 (by decide) ?_)
 obtain ⟨hz1, hz2, c, e, hz3, hz4, hz5, h⟩ := h
 refine ⟨hz1, hz2, c, e, hz3, hz4, hz5, ?_⟩
 replace h := atE h
 refine HL_nil ?_
 refine cR (sR (.pointer (some (Addr.mk b6 0 none))) (w_fieldAddr rfl underlying50 rfl rfl sz3 rfl rfl) ?_)
 obtain ⟨v_25, hc25, h⟩ := h
 refine sR (.int .i64 v_25) (r_load1 rfl rfl underlying3 rfl hc25) ?_
 refine s_ef (k_call (vs := [(.int .i64 v_25)]) cb50 (evC rfl evN) (h.mono ?_))
 clear h; rintro v F ⟨v_26, rfl, h⟩
 refine sR (.int .i64 v_26) (r_assign rfl rfl) ?_
 refine HL_nil ?_
 refine cR (sR (.int .i64 v_26) (r_move rfl rfl) ?_)
 refine sR (.bool (decide (0 ≤ v_26))) (r_geq rfl rfl rfl) ?_
 refine sR (.bool (decide (0 ≤ v_26))) (r_assign rfl rfl) ?_
 refine HL_nil ?_
 refine HC_seqJ (b21J4 (nx1 I2 m2) p_0 b3 v_19 b6 v_26 R) ?_ ?_
 clear h; rintro E F ⟨ok_8, h0, h3, h4, h5, h6, h7, h8, h17, h18, h19, h⟩
 unfold b21j4 at h
 refine cR (sR _ (r_move rfl h8) ?_)
 refine sR (.bool (!ok_8)) (r_not rfl rfl) ?_
 refine sR (.bool (!ok_8)) (r_move rfl rfl) ?_
 by_cases hc : (!ok_8) = true
 replace h := h.1 hc
 refine kN 58 hc ?_
 refine kN 59 hc ?_
 iterate 7 refine s_skip ?_
 refine sR (.bool true) (r_pt rfl rfl) ?_
 refine sR (.bool true) (r_move rfl rfl) ?_
 iterate 7 refine s_skip ?_
 refine sR (.bool true) (r_pt rfl rfl) ?_
 refine sR (.bool true) (r_move rfl rfl) ?_
 iterate 10 refine s_skip ?_
 refine sR (.bool true) (r_pt rfl rfl) ?_
 refine sR (.bool true) (r_move rfl rfl) ?_
 iterate 10 refine s_skip ?_
 refine sR (.bool true) (r_pt rfl rfl) ?_
 refine HL_nil ?_
 refine HC_condT rfl ?_
 refine cR (sR (.int .i64 40) (r_assign rfl rfl) ?_)
 exact HL_nil (HC_ret (rt1 f21 R rfl rfl h))
 replace hc := eq_false_of_ne_true hc; replace h := h.2 hc
 refine kN 58 hc ?_
 refine kN 59 hc ?_
 refine sR _ (r_move rfl h7) ?_
 refine sR (.bool (decide (v_26 < 1))) (r_lss rfl rfl rfl) ?_
 refine sR (.bool (decide (v_26 < 1))) (r_move rfl rfl) ?_
 by_cases hc : v_26 < 1
 replace h := h.1 hc
 refine kN 61 (decide_eq_true hc) ?_
 refine kN 62 (decide_eq_true hc) ?_
 refine sR (.pointer (some (Addr.mk b6 3 none))) (w_fieldAddr h6 underlying50 rfl rfl sz3 rfl rfl) ?_
 obtain ⟨v_64, hc64, h⟩ := h
 refine sR (.int .i64 v_64) (r_load1 rfl rfl underlying3 rfl hc64) ?_
 refine sR (.bool (decide (v_64 ≠ 0))) (w_neq rfl rfl) ?_
 refine sR (.bool (decide (v_64 ≠ 0))) (r_pt rfl rfl) ?_
 refine sR (.bool (decide (v_64 ≠ 0))) (r_pf rfl rfl) ?_
 refine sR (.bool (decide (v_64 ≠ 0))) (r_move rfl rfl) ?_
 by_cases hc : v_64 ≠ 0
 replace h := h.1 hc
 refine kN 65 (decide_eq_true hc) ?_
 refine kN 66 (decide_eq_true hc) ?_
 refine kN 67 (decide_eq_true hc) ?_
 refine kN 68 (decide_eq_true hc) ?_
 iterate 7 refine s_skip ?_
 refine sR (.bool true) (r_pt rfl rfl) ?_
 refine sR (.bool true) (r_move rfl rfl) ?_
 iterate 10 refine s_skip ?_
 refine sR (.bool true) (r_pt rfl rfl) ?_
 refine sR (.bool true) (r_move rfl rfl) ?_
 iterate 10 refine s_skip ?_
 refine sR (.bool true) (r_pt rfl rfl) ?_
 refine HL_nil ?_
 refine HC_condT rfl ?_
 refine cR (sR (.int .i64 40) (r_assign rfl rfl) ?_)
 exact HL_nil (HC_ret (rt1 f21 R rfl rfl h))
 replace h := h.2 hc
 refine kN 65 (decide_eq_false hc) ?_
 refine kN 66 (decide_eq_false hc) ?_
 refine kN 67 (decide_eq_false hc) ?_
 refine kN 68 (decide_eq_false hc) ?_
 refine sR _ (r_move rfl h7) ?_
 refine sR (.bool (decide (v_26 < 2))) (r_lss rfl rfl rfl) ?_
 refine sR (.bool (decide (v_26 < 2))) (r_move rfl rfl) ?_
 by_cases hc : v_26 < 2
 replace h := h.1 hc
 refine kN 70 (decide_eq_true hc) ?_
 refine kN 71 (decide_eq_true hc) ?_
 refine sR (.pointer (some (Addr.mk b6 4 none))) (w_fieldAddr h6 underlying50 rfl rfl sz3 rfl rfl) ?_
 obtain ⟨v_73, hc73, h⟩ := h
 refine sR (.int .i64 v_73) (r_load1 rfl rfl underlying3 rfl hc73) ?_
 refine sR (.bool (decide (v_73 ≠ 0))) (w_neq rfl rfl) ?_
 refine sR (.bool (decide (v_73 ≠ 0))) (r_pt rfl rfl) ?_
 refine sR (.bool (decide (v_73 ≠ 0))) (r_pf rfl rfl) ?_
 refine sR (.bool (decide (v_73 ≠ 0))) (r_move rfl rfl) ?_
 by_cases hc : v_73 ≠ 0
 replace h := h.1 hc
 refine kN 74 (decide_eq_true hc) ?_
 refine kN 75 (decide_eq_true hc) ?_
 refine kN 76 (decide_eq_true hc) ?_
 refine kN 77 (decide_eq_true hc) ?_
 iterate 10 refine s_skip ?_
 refine sR (.bool true) (r_pt rfl rfl) ?_
 refine sR (.bool true) (r_move rfl rfl) ?_
 iterate 10 refine s_skip ?_
 refine sR (.bool true) (r_pt rfl rfl) ?_
 refine HL_nil ?_
 refine HC_condT rfl ?_
 refine cR (sR (.int .i64 40) (r_assign rfl rfl) ?_)
 exact HL_nil (HC_ret (rt1 f21 R rfl rfl h))
 replace h := h.2 hc
 refine kN 74 (decide_eq_false hc) ?_
 refine kN 75 (decide_eq_false hc) ?_
 refine kN 76 (decide_eq_false hc) ?_
 refine kN 77 (decide_eq_false hc) ?_
 refine sR _ (r_move rfl h7) ?_
 refine sR (.bool (decide (1 ≤ v_26))) (r_geq rfl rfl rfl) ?_
 refine sR (.bool (decide (1 ≤ v_26))) (r_move rfl rfl) ?_
 by_cases hc : 1 ≤ v_26
 replace h := h.1 hc
 refine kN 79 (decide_eq_true hc) ?_
 refine kN 80 (decide_eq_true hc) ?_
 refine sR _ (r_move rfl h4) ?_
 refine sR (.pointer (some (Addr.mk b6 3 none))) (w_fieldAddr h6 underlying50 rfl rfl sz3 rfl rfl) ?_
 obtain ⟨v_83, hc83, h⟩ := h
 refine sR (.int .i64 v_83) (r_load1 rfl rfl underlying3 rfl hc83) ?_
 refine sR _ (r_move rfl h5) ?_
 refine s_ef (k_callF (vs := [(.int .i64 v_83), (.int .i64 v_19)]) cb49 rfl (evC rfl (evC rfl evN)) (h.mono ?_))
 clear h; rintro v F ⟨v_85, rfl, h⟩
 refine sR (.bool (!v_85)) (r_not rfl rfl) ?_
 refine sR (.bool (!v_85)) (r_pt rfl rfl) ?_
 refine sR (.bool (!v_85)) (r_pf rfl rfl) ?_
 refine sR (.bool (!v_85)) (r_move rfl rfl) ?_
 by_cases hc : (!v_85) = true
 replace h := h.1 hc
 refine kN 86 hc ?_
 refine kN 87 hc ?_
 refine kN 88 hc ?_
 refine kN 89 hc ?_
 iterate 10 refine s_skip ?_
 refine sR (.bool true) (r_pt rfl rfl) ?_
 refine HL_nil ?_
 refine HC_condT rfl ?_
 refine cR (sR (.int .i64 40) (r_assign rfl rfl) ?_)
 exact HL_nil (HC_ret (rt1 f21 R rfl rfl h))
 replace hc := eq_false_of_ne_true hc; replace h := h.2 hc
 refine kN 86 hc ?_
 refine kN 87 hc ?_
 refine kN 88 hc ?_
 refine kN 89 hc ?_
 refine sR _ (r_move rfl h7) ?_
 refine sR (.bool (decide (2 ≤ v_26))) (r_geq rfl rfl rfl) ?_
 refine sR (.bool (decide (2 ≤ v_26))) (r_move rfl rfl) ?_
 by_cases hc : 2 ≤ v_26
 replace h := h.1 hc
 refine kN 91 (decide_eq_true hc) ?_
 refine kN 92 (decide_eq_true hc) ?_
 refine sR _ (r_move rfl h4) ?_
 refine sR (.pointer (some (Addr.mk b6 4 none))) (w_fieldAddr h6 underlying50 rfl rfl sz3 rfl rfl) ?_
 obtain ⟨v_95, hc95, h⟩ := h
 refine sR (.int .i64 v_95) (r_load1 rfl rfl underlying3 rfl hc95) ?_
 refine sR _ (r_move rfl h5) ?_
 refine s_ef (k_callF (vs := [(.int .i64 v_95), (.int .i64 v_19)]) cb49 rfl (evC rfl (evC rfl evN)) (h.mono ?_))
 clear h; rintro v F ⟨v_97, rfl, h⟩
 refine sR (.bool (!v_97)) (r_not rfl rfl) ?_
 refine sR (.bool (!v_97)) (r_pt rfl rfl) ?_
 refine sR (.bool (!v_97)) (r_pf rfl rfl) ?_
 refine HL_nil ?_
 refine HC_cond (t := (!v_97)) rfl (fun hc => ?_) (fun hc => ?_)
 replace h := h.1 hc
 clear hc
 refine cR (sR (.int .i64 40) (r_assign rfl rfl) ?_)
 exact HL_nil (HC_ret (rt1 f21 R rfl rfl h))
 replace h := h.2 hc
 clear hc
 refine HC_skip ?_
 show b21J3 (nx1 I2 m2) p_0 b3 v_19 R _ _
 exact ⟨h0, h3, h4, h17, h18, h19, h⟩
 replace h := h.2 hc
 refine kN 91 (decide_eq_false hc) ?_
 refine kN 92 (decide_eq_false hc) ?_
 iterate 6 refine s_skip ?_
 refine sR (.bool false) (r_pf rfl rfl) ?_
 refine sR (.bool false) (r_pf rfl rfl) ?_
 refine HL_nil ?_
 refine HC_condF rfl ?_
 refine HC_skip ?_
 show b21J3 (nx1 I2 m2) p_0 b3 v_19 R _ _
 exact ⟨h0, h3, h4, h17, h18, h19, h⟩
 replace h := h.2 hc
 refine kN 79 (decide_eq_false hc) ?_
 refine kN 80 (decide_eq_false hc) ?_
 iterate 6 refine s_skip ?_
 refine sR (.bool false) (r_pf rfl rfl) ?_
 refine sR (.bool false) (r_pf rfl rfl) ?_
 refine sR (.bool false) (r_move rfl rfl) ?_
 refine sR _ (r_move rfl h7) ?_
 refine sR (.bool (decide (2 ≤ v_26))) (r_geq rfl rfl rfl) ?_
 refine sR (.bool (decide (2 ≤ v_26))) (r_move rfl rfl) ?_
 by_cases hc : 2 ≤ v_26
 replace h := h.1 hc
 refine kN 91 (decide_eq_true hc) ?_
 refine kN 92 (decide_eq_true hc) ?_
 refine sR _ (r_move rfl h4) ?_
 refine sR (.pointer (some (Addr.mk b6 4 none))) (w_fieldAddr h6 underlying50 rfl rfl sz3 rfl rfl) ?_
 obtain ⟨v_95_1, hc95, h⟩ := h
 refine sR (.int .i64 v_95_1) (r_load1 rfl rfl underlying3 rfl hc95) ?_
 refine sR _ (r_move rfl h5) ?_
 refine s_ef (k_callF (vs := [(.int .i64 v_95_1), (.int .i64 v_19)]) cb49 rfl (evC rfl (evC rfl evN)) (h.mono ?_))
 clear h; rintro v F ⟨v_97_1, rfl, h⟩
 refine sR (.bool (!v_97_1)) (r_not rfl rfl) ?_
 refine sR (.bool (!v_97_1)) (r_pt rfl rfl) ?_
 refine sR (.bool (!v_97_1)) (r_pf rfl rfl) ?_
 refine HL_nil ?_
 refine HC_cond (t := (!v_97_1)) rfl (fun hc => ?_) (fun hc => ?_)
 replace h := h.1 hc
 clear hc
 refine cR (sR (.int .i64 40) (r_assign rfl rfl) ?_)
 exact HL_nil (HC_ret (rt1 f21 R rfl rfl h))
 replace h := h.2 hc
 clear hc
 refine HC_skip ?_
 show b21J3 (nx1 I2 m2) p_0 b3 v_19 R _ _
 exact ⟨h0, h3, h4, h17, h18, h19, h⟩
 replace h := h.2 hc
 refine kN 91 (decide_eq_false hc) ?_
 refine kN 92 (decide_eq_false hc) ?_
 iterate 6 refine s_skip ?_
 refine sR (.bool false) (r_pf rfl rfl) ?_
 refine sR (.bool false) (r_pf rfl rfl) ?_
 refine HL_nil ?_
 refine HC_condF rfl ?_
 refine HC_skip ?_
 show b21J3 (nx1 I2 m2) p_0 b3 v_19 R _ _
 exact ⟨h0, h3, h4, h17, h18, h19, h⟩
 replace h := h.2 hc
 refine kN 70 (decide_eq_false hc) ?_
 refine kN 71 (decide_eq_false hc) ?_
 iterate 3 refine s_skip ?_
 refine sR (.bool false) (r_pf rfl rfl) ?_
 refine sR (.bool false) (r_pf rfl rfl) ?_
 refine sR (.bool false) (r_move rfl rfl) ?_
 refine sR _ (r_move rfl h7) ?_
 refine sR (.bool (decide (1 ≤ v_26))) (r_geq rfl rfl rfl) ?_
 refine sR (.bool (decide (1 ≤ v_26))) (r_move rfl rfl) ?_
 by_cases hc : 1 ≤ v_26
 replace h := h.1 hc
 refine kN 79 (decide_eq_true hc) ?_
 refine kN 80 (decide_eq_true hc) ?_
 refine sR _ (r_move rfl h4) ?_
 refine sR (.pointer (some (Addr.mk b6 3 none))) (w_fieldAddr h6 underlying50 rfl rfl sz3 rfl rfl) ?_
 obtain ⟨v_83_1, hc83, h⟩ := h
 refine sR (.int .i64 v_83_1) (r_load1 rfl rfl underlying3 rfl hc83) ?_
 refine sR _ (r_move rfl h5) ?_
 refine s_ef (k_callF (vs := [(.int .i64 v_83_1), (.int .i64 v_19)]) cb49 rfl (evC rfl (evC rfl evN)) (h.mono ?_))
 clear h; rintro v F ⟨v_85_1, rfl, h⟩
 refine sR (.bool (!v_85_1)) (r_not rfl rfl) ?_
 refine sR (.bool (!v_85_1)) (r_pt rfl rfl) ?_
 refine sR (.bool (!v_85_1)) (r_pf rfl rfl) ?_
 refine sR (.bool (!v_85_1)) (r_move rfl rfl) ?_
 by_cases hc : (!v_85_1) = true
 replace h := h.1 hc
 refine kN 86 hc ?_
 refine kN 87 hc ?_
 refine kN 88 hc ?_
 refine kN 89 hc ?_
 iterate 10 refine s_skip ?_
 refine sR (.bool true) (r_pt rfl rfl) ?_
 refine HL_nil ?_
 refine HC_condT rfl ?_
 refine cR (sR (.int .i64 40) (r_assign rfl rfl) ?_)
 exact HL_nil (HC_ret (rt1 f21 R rfl rfl h))
 replace hc := eq_false_of_ne_true hc; replace h := h.2 hc
 refine kN 86 hc ?_
 refine kN 87 hc ?_
 refine kN 88 hc ?_
 refine kN 89 hc ?_
 refine sR _ (r_move rfl h7) ?_
 refine sR (.bool (decide (2 ≤ v_26))) (r_geq rfl rfl rfl) ?_
 refine sR (.bool (decide (2 ≤ v_26))) (r_move rfl rfl) ?_
 by_cases hc : 2 ≤ v_26
 replace h := h.1 hc
 refine kN 91 (decide_eq_true hc) ?_
 refine kN 92 (decide_eq_true hc) ?_
 refine sR _ (r_move rfl h4) ?_
 refine sR (.pointer (some (Addr.mk b6 4 none))) (w_fieldAddr h6 underlying50 rfl rfl sz3 rfl rfl) ?_
 obtain ⟨v_95_2, hc95, h⟩ := h
 refine sR (.int .i64 v_95_2) (r_load1 rfl rfl underlying3 rfl hc95) ?_
 refine sR _ (r_move rfl h5) ?_
 refine s_ef (k_callF (vs := [(.int .i64 v_95_2), (.int .i64 v_19)]) cb49 rfl (evC rfl (evC rfl evN)) (h.mono ?_))
 clear h; rintro v F ⟨v_97_2, rfl, h⟩
 refine sR (.bool (!v_97_2)) (r_not rfl rfl) ?_
 refine sR (.bool (!v_97_2)) (r_pt rfl rfl) ?_
 refine sR (.bool (!v_97_2)) (r_pf rfl rfl) ?_
 refine HL_nil ?_
 refine HC_cond (t := (!v_97_2)) rfl (fun hc => ?_) (fun hc => ?_)
 replace h := h.1 hc
 clear hc
 refine cR (sR (.int .i64 40) (r_assign rfl rfl) ?_)
 exact HL_nil (HC_ret (rt1 f21 R rfl rfl h))
 replace h := h.2 hc
 clear hc
 refine HC_skip ?_
 show b21J3 (nx1 I2 m2) p_0 b3 v_19 R _ _
 exact ⟨h0, h3, h4, h17, h18, h19, h⟩
 replace h := h.2 hc
 refine kN 91 (decide_eq_false hc) ?_
 refine kN 92 (decide_eq_false hc) ?_
 iterate 6 refine s_skip ?_
 refine sR (.bool false) (r_pf rfl rfl) ?_
 refine sR (.bool false) (r_pf rfl rfl) ?_
 refine HL_nil ?_
 refine HC_condF rfl ?_
 refine HC_skip ?_
 show b21J3 (nx1 I2 m2) p_0 b3 v_19 R _ _
 exact ⟨h0, h3, h4, h17, h18, h19, h⟩
 replace h := h.2 hc
 refine kN 79 (decide_eq_false hc) ?_
 refine kN 80 (decide_eq_false hc) ?_
 iterate 6 refine s_skip ?_
 refine sR (.bool false) (r_pf rfl rfl) ?_
 refine sR (.bool false) (r_pf rfl rfl) ?_
 refine sR (.bool false) (r_move rfl rfl) ?_
 refine sR _ (r_move rfl h7) ?_
 refine sR (.bool (decide (2 ≤ v_26))) (r_geq rfl rfl rfl) ?_
 refine sR (.bool (decide (2 ≤ v_26))) (r_move rfl rfl) ?_
 by_cases hc : 2 ≤ v_26
 replace h := h.1 hc
 refine kN 91 (decide_eq_true hc) ?_
 refine kN 92 (decide_eq_true hc) ?_
 refine sR _ (r_move rfl h4) ?_
 refine sR (.pointer (some (Addr.mk b6 4 none))) (w_fieldAddr h6 underlying50 rfl rfl sz3 rfl rfl) ?_
 obtain ⟨v_95_3, hc95, h⟩ := h
 refine sR (.int .i64 v_95_3) (r_load1 rfl rfl underlying3 rfl hc95) ?_
 refine sR _ (r_move rfl h5) ?_
 refine s_ef (k_callF (vs := [(.int .i64 v_95_3), (.int .i64 v_19)]) cb49 rfl (evC rfl (evC rfl evN)) (h.mono ?_))
 clear h; rintro v F ⟨v_97_3, rfl, h⟩
 refine sR (.bool (!v_97_3)) (r_not rfl rfl) ?_
 refine sR (.bool (!v_97_3)) (r_pt rfl rfl) ?_
 refine sR (.bool (!v_97_3)) (r_pf rfl rfl) ?_
 refine HL_nil ?_
 refine HC_cond (t := (!v_97_3)) rfl (fun hc => ?_) (fun hc => ?_)
 replace h := h.1 hc
 clear hc
 refine cR (sR (.int .i64 40) (r_assign rfl rfl) ?_)
 exact HL_nil (HC_ret (rt1 f21 R rfl rfl h))
 replace h := h.2 hc
 clear hc
 refine HC_skip ?_
 show b21J3 (nx1 I2 m2) p_0 b3 v_19 R _ _
 exact ⟨h0, h3, h4, h17, h18, h19, h⟩
 replace h := h.2 hc
 refine kN 91 (decide_eq_false hc) ?_
 refine kN 92 (decide_eq_false hc) ?_
 iterate 6 refine s_skip ?_
 refine sR (.bool false) (r_pf rfl rfl) ?_
 refine sR (.bool false) (r_pf rfl rfl) ?_
 refine HL_nil ?_
 refine HC_condF rfl ?_
 refine HC_skip ?_
 show b21J3 (nx1 I2 m2) p_0 b3 v_19 R _ _
 exact ⟨h0, h3, h4, h17, h18, h19, h⟩
 replace h := h.2 hc
 refine kN 61 (decide_eq_false hc) ?_
 refine kN 62 (decide_eq_false hc) ?_
 iterate 3 refine s_skip ?_
 refine sR (.bool false) (r_pf rfl rfl) ?_
 refine sR (.bool false) (r_pf rfl rfl) ?_
 refine sR (.bool false) (r_move rfl rfl) ?_
 refine sR _ (r_move rfl h7) ?_
 refine sR (.bool (decide (v_26 < 2))) (r_lss rfl rfl rfl) ?_
 refine sR (.bool (decide (v_26 < 2))) (r_move rfl rfl) ?_
 by_cases hc : v_26 < 2
 replace h := h.1 hc
 refine kN 70 (decide_eq_true hc) ?_
 refine kN 71 (decide_eq_true hc) ?_
 refine sR (.pointer (some (Addr.mk b6 4 none))) (w_fieldAddr h6 underlying50 rfl rfl sz3 rfl rfl) ?_
 obtain ⟨v_73_1, hc73, h⟩ := h
 refine sR (.int .i64 v_73_1) (r_load1 rfl rfl underlying3 rfl hc73) ?_
 refine sR (.bool (decide (v_73_1 ≠ 0))) (w_neq rfl rfl) ?_
 refine sR (.bool (decide (v_73_1 ≠ 0))) (r_pt rfl rfl) ?_
 refine sR (.bool (decide (v_73_1 ≠ 0))) (r_pf rfl rfl) ?_
 refine sR (.bool (decide (v_73_1 ≠ 0))) (r_move rfl rfl) ?_
 by_cases hc : v_73_1 ≠ 0
 replace h := h.1 hc
 refine kN 74 (decide_eq_true hc) ?_
 refine kN 75 (decide_eq_true hc) ?_
 refine kN 76 (decide_eq_true hc) ?_
 refine kN 77 (decide_eq_true hc) ?_
 iterate 10 refine s_skip ?_
 refine sR (.bool true) (r_pt rfl rfl) ?_
 refine sR (.bool true) (r_move rfl rfl) ?_
 iterate 10 refine s_skip ?_
 refine sR (.bool true) (r_pt rfl rfl) ?_
 refine HL_nil ?_
 refine HC_condT rfl ?_
 refine cR (sR (.int .i64 40) (r_assign rfl rfl) ?_)
 exact HL_nil (HC_ret (rt1 f21 R rfl rfl h))
 replace h := h.2 hc
 refine kN 74 (decide_eq_false hc) ?_
 refine kN 75 (decide_eq_false hc) ?_
 refine kN 76 (decide_eq_false hc) ?_
 refine kN 77 (decide_eq_false hc) ?_
 refine sR _ (r_move rfl h7) ?_
 refine sR (.bool (decide (1 ≤ v_26))) (r_geq rfl rfl rfl) ?_
 refine sR (.bool (decide (1 ≤ v_26))) (r_move rfl rfl) ?_
 by_cases hc : 1 ≤ v_26
 replace h := h.1 hc
 refine kN 79 (decide_eq_true hc) ?_
 refine kN 80 (decide_eq_true hc) ?_
 refine sR _ (r_move rfl h4) ?_
 refine sR (.pointer (some (Addr.mk b6 3 none))) (w_fieldAddr h6 underlying50 rfl rfl sz3 rfl rfl) ?_
 obtain ⟨v_83_2, hc83, h⟩ := h
 refine sR (.int .i64 v_83_2) (r_load1 rfl rfl underlying3 rfl hc83) ?_
 refine sR _ (r_move rfl h5) ?_
 refine s_ef (k_callF (vs := [(.int .i64 v_83_2), (.int .i64 v_19)]) cb49 rfl (evC rfl (evC rfl evN)) (h.mono ?_))
 clear h; rintro v F ⟨v_85_2, rfl, h⟩
 refine sR (.bool (!v_85_2)) (r_not rfl rfl) ?_
 refine sR (.bool (!v_85_2)) (r_pt rfl rfl) ?_
 refine sR (.bool (!v_85_2)) (r_pf rfl rfl) ?_
 refine sR (.bool (!v_85_2)) (r_move rfl rfl) ?_
 by_cases hc : (!v_85_2) = true
 replace h := h.1 hc
 refine kN 86 hc ?_
 refine kN 87 hc ?_
 refine kN 88 hc ?_
 refine kN 89 hc ?_
 iterate 10 refine s_skip ?_
 refine sR (.bool true) (r_pt rfl rfl) ?_
 refine HL_nil ?_
 refine HC_condT rfl ?_
 refine cR (sR (.int .i64 40) (r_assign rfl rfl) ?_)
 exact HL_nil (HC_ret (rt1 f21 R rfl rfl h))
 replace hc := eq_false_of_ne_true hc; replace h := h.2 hc
 refine kN 86 hc ?_
 refine kN 87 hc ?_
 refine kN 88 hc ?_
 refine kN 89 hc ?_
 refine sR _ (r_move rfl h7) ?_
 refine sR (.bool (decide (2 ≤ v_26))) (r_geq rfl rfl rfl) ?_
 refine sR (.bool (decide (2 ≤ v_26))) (r_move rfl rfl) ?_
 by_cases hc : 2 ≤ v_26
 replace h := h.1 hc
 refine kN 91 (decide_eq_true hc) ?_
 refine kN 92 (decide_eq_true hc) ?_
 refine sR _ (r_move rfl h4) ?_
 refine sR (.pointer (some (Addr.mk b6 4 none))) (w_fieldAddr h6 underlying50 rfl rfl sz3 rfl rfl) ?_
 obtain ⟨v_95_4, hc95, h⟩ := h
 refine sR (.int .i64 v_95_4) (r_load1 rfl rfl underlying3 rfl hc95) ?_
 refine sR _ (r_move rfl h5) ?_
 refine s_ef (k_callF (vs := [(.int .i64 v_95_4), (.int .i64 v_19)]) cb49 rfl (evC rfl (evC rfl evN)) (h.mono ?_))
 clear h; rintro v F ⟨v_97_4, rfl, h⟩
 refine sR (.bool (!v_97_4)) (r_not rfl rfl) ?_
 refine sR (.bool (!v_97_4)) (r_pt rfl rfl) ?_
 refine sR (.bool (!v_97_4)) (r_pf rfl rfl) ?_
 refine HL_nil ?_
 refine HC_cond (t := (!v_97_4)) rfl (fun hc => ?_) (fun hc => ?_)
 replace h := h.1 hc
 clear hc
 refine cR (sR (.int .i64 40) (r_assign rfl rfl) ?_)
 exact HL_nil (HC_ret (rt1 f21 R rfl rfl h))
 replace h := h.2 hc
 clear hc
 refine HC_skip ?_
 show b21J3 (nx1 I2 m2) p_0 b3 v_19 R _ _
 exact ⟨h0, h3, h4, h17, h18, h19, h⟩
 replace h := h.2 hc
 refine kN 91 (decide_eq_false hc) ?_
 refine kN 92 (decide_eq_false hc) ?_
 iterate 6 refine s_skip ?_
 refine sR (.bool false) (r_pf rfl rfl) ?_
 refine sR (.bool false) (r_pf rfl rfl) ?_
 refine HL_nil ?_
 refine HC_condF rfl ?_
 refine HC_skip ?_
 show b21J3 (nx1 I2 m2) p_0 b3 v_19 R _ _
 exact ⟨h0, h3, h4, h17, h18, h19, h⟩
 replace h := h.2 hc
 refine kN 79 (decide_eq_false hc) ?_
 refine kN 80 (decide_eq_false hc) ?_
 iterate 6 refine s_skip ?_
 refine sR (.bool false) (r_pf rfl rfl) ?_
 refine sR (.bool false) (r_pf rfl rfl) ?_
 refine sR (.bool false) (r_move rfl rfl) ?_
 refine sR _ (r_move rfl h7) ?_
 refine sR (.bool (decide (2 ≤ v_26))) (r_geq rfl rfl rfl) ?_
 refine sR (.bool (decide (2 ≤ v_26))) (r_move rfl rfl) ?_
 by_cases hc : 2 ≤ v_26
 replace h := h.1 hc
 refine kN 91 (decide_eq_true hc) ?_
 refine kN 92 (decide_eq_true hc) ?_
 refine sR _ (r_move rfl h4) ?_
 refine sR (.pointer (some (Addr.mk b6 4 none))) (w_fieldAddr h6 underlying50 rfl rfl sz3 rfl rfl) ?_
 obtain ⟨v_95_5, hc95, h⟩ := h
 refine sR (.int .i64 v_95_5) (r_load1 rfl rfl underlying3 rfl hc95) ?_
 refine sR _ (r_move rfl h5) ?_
 refine s_ef (k_callF (vs := [(.int .i64 v_95_5), (.int .i64 v_19)]) cb49 rfl (evC rfl (evC rfl evN)) (h.mono ?_))
 clear h; rintro v F ⟨v_97_5, rfl, h⟩
 refine sR (.bool (!v_97_5)) (r_not rfl rfl) ?_
 refine sR (.bool (!v_97_5)) (r_pt rfl rfl) ?_
 refine sR (.bool (!v_97_5)) (r_pf rfl rfl) ?_
 refine HL_nil ?_
 refine HC_cond (t := (!v_97_5)) rfl (fun hc => ?_) (fun hc => ?_)
 replace h := h.1 hc
 clear hc
 refine cR (sR (.int .i64 40) (r_assign rfl rfl) ?_)
 exact HL_nil (HC_ret (rt1 f21 R rfl rfl h))
 replace h := h.2 hc
 clear hc
 refine HC_skip ?_
 show b21J3 (nx1 I2 m2) p_0 b3 v_19 R _ _
 exact ⟨h0, h3, h4, h17, h18, h19, h⟩
 replace h := h.2 hc
 refine kN 91 (decide_eq_false hc) ?_
 refine kN 92 (decide_eq_false hc) ?_
 iterate 6 refine s_skip ?_
 refine sR (.bool false) (r_pf rfl rfl) ?_
 refine sR (.bool false) (r_pf rfl rfl) ?_
 refine HL_nil ?_
 refine HC_condF rfl ?_
 refine HC_skip ?_
 show b21J3 (nx1 I2 m2) p_0 b3 v_19 R _ _
 exact ⟨h0, h3, h4, h17, h18, h19, h⟩
 replace h := h.2 hc
 refine kN 70 (decide_eq_false hc) ?_
 refine kN 71 (decide_eq_false hc) ?_
 iterate 3 refine s_skip ?_
 refine sR (.bool false) (r_pf rfl rfl) ?_
 refine sR (.bool false) (r_pf rfl rfl) ?_
 refine sR (.bool false) (r_move rfl rfl) ?_
 refine sR _ (r_move rfl h7) ?_
 refine sR (.bool (decide (1 ≤ v_26))) (r_geq rfl rfl rfl) ?_
 refine sR (.bool (decide (1 ≤ v_26))) (r_move rfl rfl) ?_
 by_cases hc : 1 ≤ v_26
 replace h := h.1 hc
 refine kN 79 (decide_eq_true hc) ?_
 refine kN 80 (decide_eq_true hc) ?_
 refine sR _ (r_move rfl h4) ?_
 refine sR (.pointer (some (Addr.mk b6 3 none))) (w_fieldAddr h6 underlying50 rfl rfl sz3 rfl rfl) ?_
 obtain ⟨v_83_3, hc83, h⟩ := h
 refine sR (.int .i64 v_83_3) (r_load1 rfl rfl underlying3 rfl hc83) ?_
 refine sR _ (r_move rfl h5) ?_
 refine s_ef (k_callF (vs := [(.int .i64 v_83_3), (.int .i64 v_19)]) cb49 rfl (evC rfl (evC rfl evN)) (h.mono ?_))
 clear h; rintro v F ⟨v_85_3, rfl, h⟩
 refine sR (.bool (!v_85_3)) (r_not rfl rfl) ?_
 refine sR (.bool (!v_85_3)) (r_pt rfl rfl) ?_
 refine sR (.bool (!v_85_3)) (r_pf rfl rfl) ?_
 refine sR (.bool (!v_85_3)) (r_move rfl rfl) ?_
 by_cases hc : (!v_85_3) = true
 replace h := h.1 hc
 refine kN 86 hc ?_
 refine kN 87 hc ?_
 refine kN 88 hc ?_
 refine kN 89 hc ?_
 iterate 10 refine s_skip ?_
 refine sR (.bool true) (r_pt rfl rfl) ?_
 refine HL_nil ?_
 refine HC_condT rfl ?_
 refine cR (sR (.int .i64 40) (r_assign rfl rfl) ?_)
 exact HL_nil (HC_ret (rt1 f21 R rfl rfl h))
 replace hc := eq_false_of_ne_true hc; replace h := h.2 hc
 refine kN 86 hc ?_
 refine kN 87 hc ?_
 refine kN 88 hc ?_
 refine kN 89 hc ?_
 refine sR _ (r_move rfl h7) ?_
 refine sR (.bool (decide (2 ≤ v_26))) (r_geq rfl rfl rfl) ?_
 refine sR (.bool (decide (2 ≤ v_26))) (r_move rfl rfl) ?_
 by_cases hc : 2 ≤ v_26
 replace h := h.1 hc
 refine kN 91 (decide_eq_true hc) ?_
 refine kN 92 (decide_eq_true hc) ?_
 refine sR _ (r_move rfl h4) ?_
 refine sR (.pointer (some (Addr.mk b6 4 none))) (w_fieldAddr h6 underlying50 rfl rfl sz3 rfl rfl) ?_
 obtain ⟨v_95_6, hc95, h⟩ := h
 refine sR (.int .i64 v_95_6) (r_load1 rfl rfl underlying3 rfl hc95) ?_
 refine sR _ (r_move rfl h5) ?_
 refine s_ef (k_callF (vs := [(.int .i64 v_95_6), (.int .i64 v_19)]) cb49 rfl (evC rfl (evC rfl evN)) (h.mono ?_))
 clear h; rintro v F ⟨v_97_6, rfl, h⟩
 refine sR (.bool (!v_97_6)) (r_not rfl rfl) ?_
 refine sR (.bool (!v_97_6)) (r_pt rfl rfl) ?_
 refine sR (.bool (!v_97_6)) (r_pf rfl rfl) ?_
 refine HL_nil ?_
 refine HC_cond (t := (!v_97_6)) rfl (fun hc => ?_) (fun hc => ?_)
 replace h := h.1 hc
 clear hc
 refine cR (sR (.int .i64 40) (r_assign rfl rfl) ?_)
 exact HL_nil (HC_ret (rt1 f21 R rfl rfl h))
 replace h := h.2 hc
 clear hc
 refine HC_skip ?_
 show b21J3 (nx1 I2 m2) p_0 b3 v_19 R _ _
 exact ⟨h0, h3, h4, h17, h18, h19, h⟩
 replace h := h.2 hc
 refine kN 91 (decide_eq_false hc) ?_
 refine kN 92 (decide_eq_false hc) ?_
 iterate 6 refine s_skip ?_
 refine sR (.bool false) (r_pf rfl rfl) ?_
 refine sR (.bool false) (r_pf rfl rfl) ?_
 refine HL_nil ?_
 refine HC_condF rfl ?_
 refine HC_skip ?_
 show b21J3 (nx1 I2 m2) p_0 b3 v_19 R _ _
 exact ⟨h0, h3, h4, h17, h18, h19, h⟩
 replace h := h.2 hc
 refine kN 79 (decide_eq_false hc) ?_
 refine kN 80 (decide_eq_false hc) ?_
 iterate 6 refine s_skip ?_
 refine sR (.bool false) (r_pf rfl rfl) ?_
 refine sR (.bool false) (r_pf rfl rfl) ?_
 refine sR (.bool false) (r_move rfl rfl) ?_
 refine sR _ (r_move rfl h7) ?_
 refine sR (.bool (decide (2 ≤ v_26))) (r_geq rfl rfl rfl) ?_
 refine sR (.bool (decide (2 ≤ v_26))) (r_move rfl rfl) ?_
 by_cases hc : 2 ≤ v_26
 replace h := h.1 hc
 refine kN 91 (decide_eq_true hc) ?_
 refine kN 92 (decide_eq_true hc) ?_
 refine sR _ (r_move rfl h4) ?_
 refine sR (.pointer (some (Addr.mk b6 4 none))) (w_fieldAddr h6 underlying50 rfl rfl sz3 rfl rfl) ?_
 obtain ⟨v_95_7, hc95, h⟩ := h
 refine sR (.int .i64 v_95_7) (r_load1 rfl rfl underlying3 rfl hc95) ?_
 refine sR _ (r_move rfl h5) ?_
 refine s_ef (k_callF (vs := [(.int .i64 v_95_7), (.int .i64 v_19)]) cb49 rfl (evC rfl (evC rfl evN)) (h.mono ?_))
 clear h; rintro v F ⟨v_97_7, rfl, h⟩
 refine sR (.bool (!v_97_7)) (r_not rfl rfl) ?_
 refine sR (.bool (!v_97_7)) (r_pt rfl rfl) ?_
 refine sR (.bool (!v_97_7)) (r_pf rfl rfl) ?_
 refine HL_nil ?_
 refine HC_cond (t := (!v_97_7)) rfl (fun hc => ?_) (fun hc => ?_)
 replace h := h.1 hc
 clear hc
 refine cR (sR (.int .i64 40) (r_assign rfl rfl) ?_)
 exact HL_nil (HC_ret (rt1 f21 R rfl rfl h))
 replace h := h.2 hc
 clear hc
 refine HC_skip ?_
 show b21J3 (nx1 I2 m2) p_0 b3 v_19 R _ _
 exact ⟨h0, h3, h4, h17, h18, h19, h⟩
 replace h := h.2 hc
 refine kN 91 (decide_eq_false hc) ?_
 refine kN 92 (decide_eq_false hc) ?_
 iterate 6 refine s_skip ?_
 refine sR (.bool false) (r_pf rfl rfl) ?_
 refine sR (.bool false) (r_pf rfl rfl) ?_
 refine HL_nil ?_
 refine HC_condF rfl ?_
 refine HC_skip ?_
 show b21J3 (nx1 I2 m2) p_0 b3 v_19 R _ _
 exact ⟨h0, h3, h4, h17, h18, h19, h⟩
 refine HC_block ?_
 refine cR (sR (.pointer (some (Addr.mk b6 0 none))) (w_fieldAddr rfl underlying50 rfl rfl sz3 rfl rfl) ?_)
 obtain ⟨v_31, hc31, h⟩ := h
 refine sR (.int .i64 v_31) (r_load1 rfl rfl underlying3 rfl hc31) ?_
 refine sR (.bool (decide (v_31 = 1))) (w_eql rfl rfl) ?_
 refine sR (.bool (decide (v_31 = 1))) (r_assign rfl rfl) ?_
 refine HL_nil ?_
 refine HC_cond (t := (decide (v_31 = 1))) rfl (fun hc => ?_) (fun hc => ?_)
 replace h := h.1 (of_decide_eq_true hc)
 clear hc
 refine HC_region ?_
 refine sR (.pointer (some (Addr.mk b6 1 none))) (w_fieldAddr rfl underlying50 rfl rfl sz3 rfl rfl) ?_
 obtain ⟨v_34, hc34, h⟩ := h
 refine sR (.int .i64 v_34) (r_load1 rfl rfl underlying3 rfl hc34) ?_
 refine sR (.bool (decide (0 ≤ v_34))) (r_geq rfl rfl rfl) ?_
 refine sR (.bool (decide (0 ≤ v_34))) (r_move rfl rfl) ?_
 by_cases hc : 0 ≤ v_34
 replace h := h.1 hc
 refine kN 35 (decide_eq_true hc) ?_
 refine kN 36 (decide_eq_true hc) ?_
 refine sR (.pointer (some (Addr.mk b6 1 none))) (w_fieldAddr rfl underlying50 rfl rfl sz3 rfl rfl) ?_
 obtain ⟨v_38, hc38, h⟩ := h
 refine sR (.int .i64 v_38) (r_load1 rfl rfl underlying3 rfl hc38) ?_
 refine sR (.pointer (some (Addr.mk b6 2 none))) (w_fieldAddr rfl underlying50 rfl rfl sz3 rfl rfl) ?_
 obtain ⟨v_40, hc40, h⟩ := h
 refine sR (.int .i64 v_40) (r_load1 rfl rfl underlying3 rfl hc40) ?_
 refine sR (.bool (decide (v_38 ≤ v_40))) (r_leq rfl rfl rfl) ?_
 refine sR (.bool (decide (v_38 ≤ v_40))) (r_pt rfl rfl) ?_
 refine sR (.bool (decide (v_38 ≤ v_40))) (r_move rfl rfl) ?_
 by_cases hc : v_38 ≤ v_40
 replace h := h.1 hc
 refine kN 41 (decide_eq_true hc) ?_
 refine kN 42 (decide_eq_true hc) ?_
 refine kN 43 (decide_eq_true hc) ?_
 refine sR (.pointer (some (Addr.mk b6 2 none))) (w_fieldAddr rfl underlying50 rfl rfl sz3 rfl rfl) ?_
 obtain ⟨v_45, hc45, h⟩ := h
 refine sR (.int .i64 v_45) (r_load1 rfl rfl underlying3 rfl hc45) ?_
 refine sR (.bool (decide (v_45 ≤ (255 : Int)))) (r_leq rfl rfl rfl) ?_
 refine sR (.bool (decide (v_45 ≤ (255 : Int)))) (r_pt rfl rfl) ?_
 refine sR (.bool (decide (v_45 ≤ (255 : Int)))) (r_assign rfl rfl) ?_
 refine HL_nil ?_
 show b21J4 (nx1 I2 m2) p_0 b3 v_19 b6 v_26 R _ _
 exact ⟨_, h0, h3, h4, rfl, rfl, rfl, rfl, h17, h18, h19, h⟩
 replace h := h.2 hc
 refine kN 41 (decide_eq_false hc) ?_
 refine kN 42 (decide_eq_false hc) ?_
 refine kN 43 (decide_eq_false hc) ?_
 iterate 3 refine s_skip ?_
 refine sR (.bool false) (r_pf rfl rfl) ?_
 refine sR (.bool false) (r_assign rfl rfl) ?_
 refine HL_nil ?_
 show b21J4 (nx1 I2 m2) p_0 b3 v_19 b6 v_26 R _ _
 exact ⟨_, h0, h3, h4, rfl, rfl, rfl, rfl, h17, h18, h19, h⟩
 replace h := h.2 hc
 refine kN 35 (decide_eq_false hc) ?_
 refine kN 36 (decide_eq_false hc) ?_
 iterate 5 refine s_skip ?_
 refine sR (.bool false) (r_pf rfl rfl) ?_
 refine sR (.bool false) (r_move rfl rfl) ?_
 iterate 3 refine s_skip ?_
 refine sR (.bool false) (r_pf rfl rfl) ?_
 refine sR (.bool false) (r_assign rfl rfl) ?_
 refine HL_nil ?_
 show b21J4 (nx1 I2 m2) p_0 b3 v_19 b6 v_26 R _ _
 exact ⟨_, h0, h3, h4, rfl, rfl, rfl, rfl, h17, h18, h19, h⟩
 replace h := h.2 (of_decide_eq_false hc)
 clear hc
 refine cR (sR (.pointer (some (Addr.mk b6 1 none))) (w_fieldAddr rfl underlying50 rfl rfl sz3 rfl rfl) ?_)
 obtain ⟨v_50, hc50, h⟩ := h
 refine sR (.int .i64 v_50) (r_load1 rfl rfl underlying3 rfl hc50) ?_
 refine sR (.bool (decide (v_50 ≠ 0))) (w_neq rfl rfl) ?_
 refine sR (.bool (decide (v_50 ≠ 0))) (r_move rfl rfl) ?_
 by_cases hc : v_50 ≠ 0
 replace h := h.1 hc
 refine kN 51 (decide_eq_true hc) ?_
 refine kN 52 (decide_eq_true hc) ?_
 iterate 3 refine s_skip ?_
 refine sR (.bool true) (r_pt rfl rfl) ?_
 refine sR (.bool true) (r_assign rfl rfl) ?_
 refine HL_nil ?_
 refine HC_condT rfl ?_
 refine HC_region ?_
 refine sR (.bool false) (r_assign rfl rfl) ?_
 refine HL_nil ?_
 show b21J4 (nx1 I2 m2) p_0 b3 v_19 b6 v_26 R _ _
 exact ⟨_, h0, h3, h4, rfl, rfl, rfl, rfl, h17, h18, h19, h⟩
 replace h := h.2 hc
 refine kN 51 (decide_eq_false hc) ?_
 refine kN 52 (decide_eq_false hc) ?_
 refine sR (.pointer (some (Addr.mk b6 2 none))) (w_fieldAddr rfl underlying50 rfl rfl sz3 rfl rfl) ?_
 obtain ⟨v_54, hc54, h⟩ := h
 refine sR (.int .i64 v_54) (r_load1 rfl rfl underlying3 rfl hc54) ?_
 refine sR (.bool (decide (v_54 ≠ 0))) (w_neq rfl rfl) ?_
 refine sR (.bool (decide (v_54 ≠ 0))) (r_pf rfl rfl) ?_
 refine sR (.bool (decide (v_54 ≠ 0))) (r_assign rfl rfl) ?_
 refine HL_nil ?_
 refine HC_cond (t := (decide (v_54 ≠ 0))) rfl (fun hc => ?_) (fun hc => ?_)
 replace h := h.1 (of_decide_eq_true hc)
 clear hc
 refine HC_region ?_
 refine sR (.bool false) (r_assign rfl rfl) ?_
 refine HL_nil ?_
 show b21J4 (nx1 I2 m2) p_0 b3 v_19 b6 v_26 R _ _
 exact ⟨_, h0, h3, h4, rfl, rfl, rfl, rfl, h17, h18, h19, h⟩
 replace h := h.2 (of_decide_eq_false hc)
 clear hc
 refine HC_skip ?_
 show b21J4 (nx1 I2 m2) p_0 b3 v_19 b6 v_26 R _ _
 exact ⟨_, h0, h3, h4, rfl, rfl, rfl, rfl, h17, h18, h19, h⟩
 replace h := h.2 (of_decide_eq_false hc)
 clear hc
 refine HC_exit ?_
 show b21J1 p_0 b3 R _ _
 exact ⟨h0, h3, h⟩
end Go.Proofs.YtnjcgpihfmklfaaDoor
