/-
  What functions of the program do, in a clean form, each with the proof that its code does so. Printed by a program.
-/
import Derived.Test.YthnolhcknhhipaaGf
namespace Go.Proofs.Ythnolhcknhhipaa
open Go Go.Proofs.Try
set_option maxRecDepth 10000
/- 3 koine.koinelaw34.DiskReads -/
def b3j1 (fill_2 : Int) (v_23 : Option Addr) (v_30 : Int) (v_35 : Int) (v_39 : Sl) (v_39_1 : Int) (v_43 : Sl) (v_45 : Int) (v_47 : Int) (R : Value → PH → Prop) (F : PH) : Prop :=
  ((v_35 = (0 : Int) →
    ((v_39_1 = (0 : Int) →
      ((v_47 = (0 : Int) →
        ((v_45 = (IntKind.i64.wrap (v_30 + (1 : Int))) →
          Spec prog 15 #[(Value.int .u8 fill_2)] F fun v F => ∃ v_94 : Sl, v = (Sl.v v_94) ∧
          Spec prog 18 #[(Sl.v v_39), (Sl.v v_94)] F fun v F => ∃ v_95 : Bool, v = (Value.bool v_95) ∧
          ((v_95 = true →
            Spec prog 12 #[(Value.pointer v_23)] F fun v F => ∃ v_99 : Sl, v = (Sl.v v_99) ∧
            Spec prog 18 #[(Sl.v v_99), (Sl.v v_43)] F fun v F => ∃ v_101 : Bool, v = (Value.bool v_101) ∧
            ((v_101 = true →
              Spec prog 13 #[(Value.pointer v_23)] F fun v F => ∃ v_105 : Int, v = (Value.int .i64 v_105) ∧
              R (Value.bool (decide (v_105 = (0 : Int)))) F) ∧
            (v_101 = false →
              R (Value.bool false) F))) ∧
          (v_95 = false →
            R (Value.bool false) F))) ∧
        (¬ (v_45 = (IntKind.i64.wrap (v_30 + (1 : Int)))) →
          R (Value.bool false) F))) ∧
      (¬ (v_47 = (0 : Int)) →
        R (Value.bool false) F))) ∧
    (¬ (v_39_1 = (0 : Int)) →
      R (Value.bool false) F))) ∧
  (¬ (v_35 = (0 : Int)) →
    R (Value.bool false) F))
abbrev b3J1 (fill_2 : Int) (v_23 : Option Addr) (v_30 : Int) (v_35 : Int) (v_39 : Sl) (v_39_1 : Int) (v_43 : Sl) (v_45 : Int) (v_47 : Int) (R : Value → PH → Prop) (E : En) (F : PH) : Prop := E 2 = (Value.int .u8 fill_2) ∧ E 8 = (Value.pointer v_23) ∧ E 11 = (Value.int .i64 v_30) ∧ E 12 = (Value.int .i64 v_35) ∧ E 13 = (Sl.v v_39) ∧ E 14 = (Value.int .i64 v_39_1) ∧ E 15 = (Sl.v v_43) ∧ E 16 = (Value.int .i64 v_45) ∧ E 17 = (Value.int .i64 v_47) ∧ b3j1 fill_2 v_23 v_30 v_35 v_39 v_39_1 v_43 v_45 v_47 R F
def b3j2 (N1 : Int → PH → Prop) (fill_2 : Int) (v_23 : Option Addr) (v_25 : Sl) (at_1 : Int) (v_30 : Int) (v_35 : Int) (v_39 : Sl) (v_39_1 : Int) (v_43 : Sl) (v_45 : Int) (v_47 : Int) (i_18 : Int) (R : Value → PH → Prop) (F : PH) : Prop :=
  N1 (IntKind.i64.wrap (i_18 + (1 : Int))) F
abbrev b3J2 (N1 : Int → PH → Prop) (fill_2 : Int) (v_23 : Option Addr) (v_25 : Sl) (at_1 : Int) (v_30 : Int) (v_35 : Int) (v_39 : Sl) (v_39_1 : Int) (v_43 : Sl) (v_45 : Int) (v_47 : Int) (i_18 : Int) (R : Value → PH → Prop) (E : En) (F : PH) : Prop := E 2 = (Value.int .u8 fill_2) ∧ E 8 = (Value.pointer v_23) ∧ E 9 = (Sl.v v_25) ∧ E 10 = (Value.int .i64 (Int.tmod (IntKind.i64.wrap at_1) (4 : Int))) ∧ E 11 = (Value.int .i64 v_30) ∧ E 12 = (Value.int .i64 v_35) ∧ E 13 = (Sl.v v_39) ∧ E 14 = (Value.int .i64 v_39_1) ∧ E 15 = (Sl.v v_43) ∧ E 16 = (Value.int .i64 v_45) ∧ E 17 = (Value.int .i64 v_47) ∧ E 18 = (Value.int .i64 i_18) ∧ b3j2 N1 fill_2 v_23 v_25 at_1 v_30 v_35 v_39 v_39_1 v_43 v_45 v_47 i_18 R F
def b3L1 (N1 : Int → PH → Prop) (fill_2 : Int) (v_23 : Option Addr) (v_25 : Sl) (at_1 : Int) (v_30 : Int) (v_35 : Int) (v_39 : Sl) (v_39_1 : Int) (v_43 : Sl) (v_45 : Int) (v_47 : Int) (R : Value → PH → Prop) (i_18 : Int) (F : PH) : Prop :=
  ((i_18 < (v_25.len : Int) →
    ((i_18 < (v_43.len : Int) →
      (((IntKind.i64.wrap (Int.tdiv i_18 (64 : Int))) ≠ (Int.tmod (IntKind.i64.wrap at_1) (4 : Int)) →
        ∃ a67_ : Addr, v_25.base = some a67_ ∧ 0 ≤ i_18 ∧ i_18 < (v_25.len : Int) ∧
        ∃ v_68 : Int, F.cell (Addr.add a67_ (Int.toNat i_18 * 1)) = some (Value.int .u8 v_68) ∧
        ∃ a71_ : Addr, v_43.base = some a71_ ∧ 0 ≤ i_18 ∧ i_18 < (v_43.len : Int) ∧
        ∃ v_72 : Int, F.cell (Addr.add a71_ (Int.toNat i_18 * 1)) = some (Value.int .u8 v_72) ∧
        ((v_68 ≠ v_72 →
          R (Value.bool false) F) ∧
        (¬ (v_68 ≠ v_72) →
          b3j2 N1 fill_2 v_23 v_25 at_1 v_30 v_35 v_39 v_39_1 v_43 v_45 v_47 i_18 R F))) ∧
      (¬ ((IntKind.i64.wrap (Int.tdiv i_18 (64 : Int))) ≠ (Int.tmod (IntKind.i64.wrap at_1) (4 : Int))) →
        b3j2 N1 fill_2 v_23 v_25 at_1 v_30 v_35 v_39 v_39_1 v_43 v_45 v_47 i_18 R F))) ∧
    (¬ (i_18 < (v_43.len : Int)) →
      b3j1 fill_2 v_23 v_30 v_35 v_39 v_39_1 v_43 v_45 v_47 R F))) ∧
  (¬ (i_18 < (v_25.len : Int)) →
    b3j1 fill_2 v_23 v_30 v_35 v_39 v_39_1 v_43 v_45 v_47 R F))
def b3 (l_0 : Sl) (at_1 : Int) (fill_2 : Int) (R : Value → PH → Prop) (F : PH) : Prop :=
  Spec prog 10 #[] F fun v F => ∃ v_19 : Bool, v = (Value.bool v_19) ∧
  (((!v_19) = true →
    R (Value.bool false) F) ∧
  ((!v_19) = false →
    Spec prog 11 #[(Sl.v l_0)] F fun v F => ∃ v_23 : Option Addr, v = (Value.pointer v_23) ∧
    Spec prog 12 #[(Value.pointer v_23)] F fun v F => ∃ v_25 : Sl, v = (Sl.v v_25) ∧
    Spec prog 13 #[(Value.pointer v_23)] F fun v F => ∃ v_30 : Int, v = (Value.int .i64 v_30) ∧
    Spec prog 15 #[(Value.int .u8 fill_2)] F fun v F => ∃ v_34 : Sl, v = (Sl.v v_34) ∧
    Spec prog 14 #[(Value.pointer v_23), (Value.int .i64 (Int.tmod (IntKind.i64.wrap at_1) (4 : Int))), (Sl.v v_34)] F fun v F => ∃ v_35 : Int, v = (Value.int .i64 v_35) ∧
    Spec prog 16 #[(Value.pointer v_23), (Value.int .i64 (Int.tmod (IntKind.i64.wrap at_1) (4 : Int)))] F fun v F => ∃ v_39 : Sl, ∃ v_39_1 : Int, v = (Value.tuple #[(Sl.v v_39), (Value.int .i64 v_39_1)]) ∧
    Spec prog 12 #[(Value.pointer v_23)] F fun v F => ∃ v_43 : Sl, v = (Sl.v v_43) ∧
    Spec prog 13 #[(Value.pointer v_23)] F fun v F => ∃ v_45 : Int, v = (Value.int .i64 v_45) ∧
    Spec prog 17 #[(Value.pointer v_23)] F fun v F => ∃ v_47 : Int, v = (Value.int .i64 v_47) ∧
    (∃ (I1 : Nat → Int → PH → Prop) (m1 : Nat), I1 m1 (0 : Int) F ∧ ∀ m1 i_18 F, I1 m1 i_18 F →
      b3L1 (fun i_18 F => ∃ m', m' < m1 ∧ I1 m' i_18 F) fill_2 v_23 v_25 at_1 v_30 v_35 v_39 v_39_1 v_43 v_45 v_47 R i_18 F)))
theorem c3 {l_0 : Sl} {at_1 : Int} {fill_2 : Int} {R : Value → PH → Prop} {F : PH} (h : b3 l_0 at_1 fill_2 R F) : Spec prog 3 #[(Sl.v l_0), (Value.int .u8 at_1), (Value.int .u8 fill_2)] F R := by
  refine spec_of (args := [(Sl.v l_0), (Value.int .u8 at_1), (Value.int .u8 fill_2)]) func3 rfl ntmps3 rfl ?_
  unfold b3 at h
  refine HC_seq ?_
  refine HC_region ?_
  refine s_rd (v := (Value.bool false)) (r_assign rfl rfl) ?_
  refine HL_nil ?_
  refine HC_seq ?_
  refine HC_region ?_
  refine s_ef (k_call (vs := []) cb10 evN (h.mono ?_))
  clear h; rintro v F ⟨v_19, rfl, h⟩
  refine s_rd (v := (Value.bool v_19)) (r_assign rfl rfl) ?_
  refine HL_nil ?_
  refine HC_seq ?_
  refine HC_seq ?_
  refine HC_region ?_
  refine s_rd (v := (Value.bool v_19)) (r_move rfl rfl) ?_
  refine s_rd (v := (Value.bool (!v_19))) (r_not rfl rfl) ?_
  refine HL_nil ?_
  refine HC_cond (t := (!v_19)) rfl (fun hc => ?_) (fun hc => ?_)
  · replace h := h.1 hc
    clear hc
    refine HC_seq ?_
    refine HC_region ?_
    refine s_rd (v := (Value.bool false)) (r_assign rfl rfl) ?_
    refine HL_nil ?_
    exact HC_ret (show endQ prog f3 R .ret _ _ from ⟨_, res1 rfl (rv_tmp rfl), h⟩)
  · replace h := h.2 hc
    clear hc
    refine HC_skip ?_
    refine HC_seq ?_
    refine HC_region ?_
    refine s_rd (v := (Sl.v l_0)) (r_move rfl rfl) ?_
    refine s_ef (k_call (vs := [(Sl.v l_0)]) cb11 (evC rfl evN) (h.mono ?_))
    clear h; rintro v F ⟨v_23, rfl, h⟩
    refine s_rd (v := (Value.pointer v_23)) (r_assign rfl rfl) ?_
    refine HL_nil ?_
    refine HC_seq ?_
    refine HC_region ?_
    refine s_rd (v := (Value.pointer v_23)) (r_move rfl rfl) ?_
    refine s_ef (k_call (vs := [(Value.pointer v_23)]) cb12 (evC rfl evN) (h.mono ?_))
    clear h; rintro v F ⟨v_25, rfl, h⟩
    refine s_rd (v := (Sl.v v_25)) (r_assign rfl rfl) ?_
    refine HL_nil ?_
    refine HC_seq ?_
    refine HC_region ?_
    refine s_rd (v := (Value.int .u8 at_1)) (r_move rfl rfl) ?_
    refine s_rd (v := (Value.int .i64 (IntKind.i64.wrap at_1))) (r_convInt rfl rfl underlying5 underlying3) ?_
    refine s_rd (v := (Value.int .i64 (Int.tmod (IntKind.i64.wrap at_1) (4 : Int)))) (r_rem rfl rfl rfl (by decide)) ?_
    refine s_rd (v := (Value.int .i64 (Int.tmod (IntKind.i64.wrap at_1) (4 : Int)))) (r_assign rfl rfl) ?_
    refine HL_nil ?_
    refine HC_seq ?_
    refine HC_region ?_
    refine s_rd (v := (Value.pointer v_23)) (r_move rfl rfl) ?_
    refine s_ef (k_call (vs := [(Value.pointer v_23)]) cb13 (evC rfl evN) (h.mono ?_))
    clear h; rintro v F ⟨v_30, rfl, h⟩
    refine s_rd (v := (Value.int .i64 v_30)) (r_assign rfl rfl) ?_
    refine HL_nil ?_
    refine HC_seq ?_
    refine HC_region ?_
    refine s_rd (v := (Value.pointer v_23)) (r_move rfl rfl) ?_
    refine s_rd (v := (Value.int .i64 (Int.tmod (IntKind.i64.wrap at_1) (4 : Int)))) (r_move rfl rfl) ?_
    refine s_rd (v := (Value.int .u8 fill_2)) (r_move rfl rfl) ?_
    refine s_ef (k_call (vs := [(Value.int .u8 fill_2)]) cb15 (evC rfl evN) (h.mono ?_))
    clear h; rintro v F ⟨v_34, rfl, h⟩
    refine s_ef (k_call (vs := [(Value.pointer v_23), (Value.int .i64 (Int.tmod (IntKind.i64.wrap at_1) (4 : Int))), (Sl.v v_34)]) cb14 (evC rfl (evC rfl (evC rfl evN))) (h.mono ?_))
    clear h; rintro v F ⟨v_35, rfl, h⟩
    refine s_rd (v := (Value.int .i64 v_35)) (r_assign rfl rfl) ?_
    refine HL_nil ?_
    refine HC_seq ?_
    refine HC_region ?_
    refine s_rd (v := (Value.pointer v_23)) (r_move rfl rfl) ?_
    refine s_rd (v := (Value.int .i64 (Int.tmod (IntKind.i64.wrap at_1) (4 : Int)))) (r_move rfl rfl) ?_
    refine s_ef (k_call (vs := [(Value.pointer v_23), (Value.int .i64 (Int.tmod (IntKind.i64.wrap at_1) (4 : Int)))]) cb16 (evC rfl (evC rfl evN)) (h.mono ?_))
    clear h; rintro v F ⟨v_39, v_39_1, rfl, h⟩
    refine s_rd (v := (Value.tuple #[(Sl.v v_39), (Value.int .i64 v_39_1)])) (r_move rfl rfl) ?_
    refine s_rd (v := (Sl.v v_39)) (r_extract rfl rfl rfl) ?_
    refine s_rd (v := (Value.int .i64 v_39_1)) (r_extract rfl rfl rfl) ?_
    refine s_rd (v := (Sl.v v_39)) (r_assign rfl rfl) ?_
    refine s_rd (v := (Value.int .i64 v_39_1)) (r_assign rfl rfl) ?_
    refine HL_nil ?_
    refine HC_seq ?_
    refine HC_region ?_
    refine s_rd (v := (Value.pointer v_23)) (r_move rfl rfl) ?_
    refine s_ef (k_call (vs := [(Value.pointer v_23)]) cb12 (evC rfl evN) (h.mono ?_))
    clear h; rintro v F ⟨v_43, rfl, h⟩
    refine s_rd (v := (Sl.v v_43)) (r_assign rfl rfl) ?_
    refine HL_nil ?_
    refine HC_seq ?_
    refine HC_region ?_
    refine s_rd (v := (Value.pointer v_23)) (r_move rfl rfl) ?_
    refine s_ef (k_call (vs := [(Value.pointer v_23)]) cb13 (evC rfl evN) (h.mono ?_))
    clear h; rintro v F ⟨v_45, rfl, h⟩
    refine s_rd (v := (Value.int .i64 v_45)) (r_assign rfl rfl) ?_
    refine HL_nil ?_
    refine HC_seq ?_
    refine HC_region ?_
    refine s_rd (v := (Value.pointer v_23)) (r_move rfl rfl) ?_
    refine s_ef (k_call (vs := [(Value.pointer v_23)]) cb17 (evC rfl evN) (h.mono ?_))
    clear h; rintro v F ⟨v_47, rfl, h⟩
    refine s_rd (v := (Value.int .i64 v_47)) (r_assign rfl rfl) ?_
    refine HL_nil ?_
    refine HC_seqJ (b3J1 fill_2 v_23 v_30 v_35 v_39 v_39_1 v_43 v_45 v_47 R) ?_ ?_
    · clear h; rintro E F ⟨h2, h8, h11, h12, h13, h14, h15, h16, h17, h⟩
      unfold b3j1 at h
      refine HC_seq ?_
      refine HC_region ?_
      refine s_rd (v := (Value.int .i64 v_35)) (r_move rfl h12) ?_
      refine s_rd (v := (Value.bool (decide (v_35 = (0 : Int))))) (w_eql rfl rfl) ?_
      refine s_rd (v := (Value.bool (decide (v_35 = (0 : Int))))) (r_move rfl rfl) ?_
      by_cases hc : v_35 = (0 : Int)
      · replace h := h.1 hc
        refine HL_known (t := 76) (v := .bool true) (congrArg Value.bool (decide_eq_true hc)) ?_
        refine HL_known (t := 77) (v := .bool true) (congrArg Value.bool (decide_eq_true hc)) ?_
        refine s_rd (v := (Value.int .i64 v_39_1)) (r_move rfl h14) ?_
        refine s_rd (v := (Value.bool (decide (v_39_1 = (0 : Int))))) (w_eql rfl rfl) ?_
        refine s_rd (v := (Value.bool (decide (v_39_1 = (0 : Int))))) (r_pick rfl rfl (fun _ => rfl) (fun h => by cases h)) ?_
        refine s_rd (v := (Value.bool (decide (v_39_1 = (0 : Int))))) (r_move rfl rfl) ?_
        by_cases hc : v_39_1 = (0 : Int)
        · replace h := h.1 hc
          refine HL_known (t := 79) (v := .bool true) (congrArg Value.bool (decide_eq_true hc)) ?_
          refine HL_known (t := 80) (v := .bool true) (congrArg Value.bool (decide_eq_true hc)) ?_
          refine HL_known (t := 81) (v := .bool true) (congrArg Value.bool (decide_eq_true hc)) ?_
          refine s_rd (v := (Value.int .i64 v_47)) (r_move rfl h17) ?_
          refine s_rd (v := (Value.bool (decide (v_47 = (0 : Int))))) (w_eql rfl rfl) ?_
          refine s_rd (v := (Value.bool (decide (v_47 = (0 : Int))))) (r_pick rfl rfl (fun _ => rfl) (fun h => by cases h)) ?_
          refine s_rd (v := (Value.bool (decide (v_47 = (0 : Int))))) (r_move rfl rfl) ?_
          by_cases hc : v_47 = (0 : Int)
          · replace h := h.1 hc
            refine HL_known (t := 83) (v := .bool true) (congrArg Value.bool (decide_eq_true hc)) ?_
            refine HL_known (t := 84) (v := .bool true) (congrArg Value.bool (decide_eq_true hc)) ?_
            refine HL_known (t := 85) (v := .bool true) (congrArg Value.bool (decide_eq_true hc)) ?_
            refine s_rd (v := (Value.int .i64 v_45)) (r_move rfl h16) ?_
            refine s_rd (v := (Value.int .i64 v_30)) (r_move rfl h11) ?_
            refine s_rd (v := (Value.int .i64 (IntKind.i64.wrap (v_30 + (1 : Int))))) (r_add rfl rfl rfl) ?_
            refine s_rd (v := (Value.bool (decide (v_45 = (IntKind.i64.wrap (v_30 + (1 : Int))))))) (w_eql rfl rfl) ?_
            refine s_rd (v := (Value.bool (decide (v_45 = (IntKind.i64.wrap (v_30 + (1 : Int))))))) (r_pick rfl rfl (fun _ => rfl) (fun h => by cases h)) ?_
            refine s_rd (v := (Value.bool (decide (v_45 = (IntKind.i64.wrap (v_30 + (1 : Int))))))) (r_move rfl rfl) ?_
            by_cases hc : v_45 = (IntKind.i64.wrap (v_30 + (1 : Int)))
            · replace h := h.1 hc
              refine HL_known (t := 89) (v := .bool true) (congrArg Value.bool (decide_eq_true hc)) ?_
              refine HL_known (t := 90) (v := .bool true) (congrArg Value.bool (decide_eq_true hc)) ?_
              refine HL_known (t := 91) (v := .bool true) (congrArg Value.bool (decide_eq_true hc)) ?_
              refine s_rd (v := (Sl.v v_39)) (r_move rfl h13) ?_
              refine s_rd (v := (Value.int .u8 fill_2)) (r_move rfl h2) ?_
              refine s_ef (k_call (vs := [(Value.int .u8 fill_2)]) cb15 (evC rfl evN) (h.mono ?_))
              clear h; rintro v F ⟨v_94, rfl, h⟩
              refine s_ef (k_call (vs := [(Sl.v v_39), (Sl.v v_94)]) cb18 (evC rfl (evC rfl evN)) (h.mono ?_))
              clear h; rintro v F ⟨v_95, rfl, h⟩
              refine s_rd (v := (Value.bool v_95)) (r_pick rfl rfl (fun _ => rfl) (fun h => by cases h)) ?_
              refine s_rd (v := (Value.bool v_95)) (r_move rfl rfl) ?_
              by_cases hc : v_95 = true
              · replace h := h.1 hc
                refine HL_known (t := 95) (v := .bool true) (congrArg Value.bool hc) ?_
                refine HL_known (t := 96) (v := .bool true) (congrArg Value.bool hc) ?_
                refine HL_known (t := 97) (v := .bool true) (congrArg Value.bool hc) ?_
                refine s_rd (v := (Value.pointer v_23)) (r_move rfl h8) ?_
                refine s_ef (k_call (vs := [(Value.pointer v_23)]) cb12 (evC rfl evN) (h.mono ?_))
                clear h; rintro v F ⟨v_99, rfl, h⟩
                refine s_rd (v := (Sl.v v_43)) (r_move rfl h15) ?_
                refine s_ef (k_call (vs := [(Sl.v v_99), (Sl.v v_43)]) cb18 (evC rfl (evC rfl evN)) (h.mono ?_))
                clear h; rintro v F ⟨v_101, rfl, h⟩
                refine s_rd (v := (Value.bool v_101)) (r_pick rfl rfl (fun _ => rfl) (fun h => by cases h)) ?_
                refine s_rd (v := (Value.bool v_101)) (r_move rfl rfl) ?_
                by_cases hc : v_101 = true
                · replace h := h.1 hc
                  refine HL_known (t := 101) (v := .bool true) (congrArg Value.bool hc) ?_
                  refine HL_known (t := 102) (v := .bool true) (congrArg Value.bool hc) ?_
                  refine HL_known (t := 103) (v := .bool true) (congrArg Value.bool hc) ?_
                  refine s_rd (v := (Value.pointer v_23)) (r_move rfl h8) ?_
                  refine s_ef (k_call (vs := [(Value.pointer v_23)]) cb13 (evC rfl evN) (h.mono ?_))
                  clear h; rintro v F ⟨v_105, rfl, h⟩
                  refine s_rd (v := (Value.bool (decide (v_105 = (0 : Int))))) (w_eql rfl rfl) ?_
                  refine s_rd (v := (Value.bool (decide (v_105 = (0 : Int))))) (r_pick rfl rfl (fun _ => rfl) (fun h => by cases h)) ?_
                  refine s_rd (v := (Value.bool (decide (v_105 = (0 : Int))))) (r_assign rfl rfl) ?_
                  refine HL_nil ?_
                  exact HC_ret (show endQ prog f3 R .ret _ _ from ⟨_, res1 rfl (rv_tmp rfl), h⟩)
                · replace hc := eq_false_of_ne_true hc; replace h := h.2 hc
                  refine HL_known (t := 101) (v := .bool false) (congrArg Value.bool hc) ?_
                  refine HL_known (t := 102) (v := .bool false) (congrArg Value.bool hc) ?_
                  refine HL_known (t := 103) (v := .bool false) (congrArg Value.bool hc) ?_
                  refine s_skip ?_
                  refine s_skip ?_
                  refine s_skip ?_
                  refine s_rd (v := (Value.bool false)) (r_pick rfl rfl (fun h => by cases h) (fun _ => rfl)) ?_
                  refine s_rd (v := (Value.bool false)) (r_assign rfl rfl) ?_
                  refine HL_nil ?_
                  exact HC_ret (show endQ prog f3 R .ret _ _ from ⟨_, res1 rfl (rv_tmp rfl), h⟩)
              · replace hc := eq_false_of_ne_true hc; replace h := h.2 hc
                refine HL_known (t := 95) (v := .bool false) (congrArg Value.bool hc) ?_
                refine HL_known (t := 96) (v := .bool false) (congrArg Value.bool hc) ?_
                refine HL_known (t := 97) (v := .bool false) (congrArg Value.bool hc) ?_
                refine s_skip ?_
                refine s_skip ?_
                refine s_skip ?_
                refine s_skip ?_
                refine s_rd (v := (Value.bool false)) (r_pick rfl rfl (fun h => by cases h) (fun _ => rfl)) ?_
                refine s_rd (v := (Value.bool false)) (r_move rfl rfl) ?_
                refine s_skip ?_
                refine s_skip ?_
                refine s_skip ?_
                refine s_rd (v := (Value.bool false)) (r_pick rfl rfl (fun h => by cases h) (fun _ => rfl)) ?_
                refine s_rd (v := (Value.bool false)) (r_assign rfl rfl) ?_
                refine HL_nil ?_
                exact HC_ret (show endQ prog f3 R .ret _ _ from ⟨_, res1 rfl (rv_tmp rfl), h⟩)
            · replace h := h.2 hc
              refine HL_known (t := 89) (v := .bool false) (congrArg Value.bool (decide_eq_false hc)) ?_
              refine HL_known (t := 90) (v := .bool false) (congrArg Value.bool (decide_eq_false hc)) ?_
              refine HL_known (t := 91) (v := .bool false) (congrArg Value.bool (decide_eq_false hc)) ?_
              refine s_skip ?_
              refine s_skip ?_
              refine s_skip ?_
              refine s_skip ?_
              refine s_rd (v := (Value.bool false)) (r_pick rfl rfl (fun h => by cases h) (fun _ => rfl)) ?_
              refine s_rd (v := (Value.bool false)) (r_move rfl rfl) ?_
              refine s_skip ?_
              refine s_skip ?_
              refine s_skip ?_
              refine s_skip ?_
              refine s_rd (v := (Value.bool false)) (r_pick rfl rfl (fun h => by cases h) (fun _ => rfl)) ?_
              refine s_rd (v := (Value.bool false)) (r_move rfl rfl) ?_
              refine s_skip ?_
              refine s_skip ?_
              refine s_skip ?_
              refine s_rd (v := (Value.bool false)) (r_pick rfl rfl (fun h => by cases h) (fun _ => rfl)) ?_
              refine s_rd (v := (Value.bool false)) (r_assign rfl rfl) ?_
              refine HL_nil ?_
              exact HC_ret (show endQ prog f3 R .ret _ _ from ⟨_, res1 rfl (rv_tmp rfl), h⟩)
          · replace h := h.2 hc
            refine HL_known (t := 83) (v := .bool false) (congrArg Value.bool (decide_eq_false hc)) ?_
            refine HL_known (t := 84) (v := .bool false) (congrArg Value.bool (decide_eq_false hc)) ?_
            refine HL_known (t := 85) (v := .bool false) (congrArg Value.bool (decide_eq_false hc)) ?_
            refine s_skip ?_
            refine s_skip ?_
            refine s_skip ?_
            refine s_skip ?_
            refine s_rd (v := (Value.bool false)) (r_pick rfl rfl (fun h => by cases h) (fun _ => rfl)) ?_
            refine s_rd (v := (Value.bool false)) (r_move rfl rfl) ?_
            refine s_skip ?_
            refine s_skip ?_
            refine s_skip ?_
            refine s_skip ?_
            refine s_rd (v := (Value.bool false)) (r_pick rfl rfl (fun h => by cases h) (fun _ => rfl)) ?_
            refine s_rd (v := (Value.bool false)) (r_move rfl rfl) ?_
            refine s_skip ?_
            refine s_skip ?_
            refine s_skip ?_
            refine s_skip ?_
            refine s_rd (v := (Value.bool false)) (r_pick rfl rfl (fun h => by cases h) (fun _ => rfl)) ?_
            refine s_rd (v := (Value.bool false)) (r_move rfl rfl) ?_
            refine s_skip ?_
            refine s_skip ?_
            refine s_skip ?_
            refine s_rd (v := (Value.bool false)) (r_pick rfl rfl (fun h => by cases h) (fun _ => rfl)) ?_
            refine s_rd (v := (Value.bool false)) (r_assign rfl rfl) ?_
            refine HL_nil ?_
            exact HC_ret (show endQ prog f3 R .ret _ _ from ⟨_, res1 rfl (rv_tmp rfl), h⟩)
        · replace h := h.2 hc
          refine HL_known (t := 79) (v := .bool false) (congrArg Value.bool (decide_eq_false hc)) ?_
          refine HL_known (t := 80) (v := .bool false) (congrArg Value.bool (decide_eq_false hc)) ?_
          refine HL_known (t := 81) (v := .bool false) (congrArg Value.bool (decide_eq_false hc)) ?_
          refine s_skip ?_
          refine s_skip ?_
          refine s_rd (v := (Value.bool false)) (r_pick rfl rfl (fun h => by cases h) (fun _ => rfl)) ?_
          refine s_rd (v := (Value.bool false)) (r_move rfl rfl) ?_
          refine s_skip ?_
          refine s_skip ?_
          refine s_skip ?_
          refine s_skip ?_
          refine s_rd (v := (Value.bool false)) (r_pick rfl rfl (fun h => by cases h) (fun _ => rfl)) ?_
          refine s_rd (v := (Value.bool false)) (r_move rfl rfl) ?_
          refine s_skip ?_
          refine s_skip ?_
          refine s_skip ?_
          refine s_skip ?_
          refine s_rd (v := (Value.bool false)) (r_pick rfl rfl (fun h => by cases h) (fun _ => rfl)) ?_
          refine s_rd (v := (Value.bool false)) (r_move rfl rfl) ?_
          refine s_skip ?_
          refine s_skip ?_
          refine s_skip ?_
          refine s_skip ?_
          refine s_rd (v := (Value.bool false)) (r_pick rfl rfl (fun h => by cases h) (fun _ => rfl)) ?_
          refine s_rd (v := (Value.bool false)) (r_move rfl rfl) ?_
          refine s_skip ?_
          refine s_skip ?_
          refine s_skip ?_
          refine s_rd (v := (Value.bool false)) (r_pick rfl rfl (fun h => by cases h) (fun _ => rfl)) ?_
          refine s_rd (v := (Value.bool false)) (r_assign rfl rfl) ?_
          refine HL_nil ?_
          exact HC_ret (show endQ prog f3 R .ret _ _ from ⟨_, res1 rfl (rv_tmp rfl), h⟩)
      · replace h := h.2 hc
        refine HL_known (t := 76) (v := .bool false) (congrArg Value.bool (decide_eq_false hc)) ?_
        refine HL_known (t := 77) (v := .bool false) (congrArg Value.bool (decide_eq_false hc)) ?_
        refine s_skip ?_
        refine s_skip ?_
        refine s_rd (v := (Value.bool false)) (r_pick rfl rfl (fun h => by cases h) (fun _ => rfl)) ?_
        refine s_rd (v := (Value.bool false)) (r_move rfl rfl) ?_
        refine s_skip ?_
        refine s_skip ?_
        refine s_rd (v := (Value.bool false)) (r_pick rfl rfl (fun h => by cases h) (fun _ => rfl)) ?_
        refine s_rd (v := (Value.bool false)) (r_move rfl rfl) ?_
        refine s_skip ?_
        refine s_skip ?_
        refine s_skip ?_
        refine s_skip ?_
        refine s_rd (v := (Value.bool false)) (r_pick rfl rfl (fun h => by cases h) (fun _ => rfl)) ?_
        refine s_rd (v := (Value.bool false)) (r_move rfl rfl) ?_
        refine s_skip ?_
        refine s_skip ?_
        refine s_skip ?_
        refine s_skip ?_
        refine s_rd (v := (Value.bool false)) (r_pick rfl rfl (fun h => by cases h) (fun _ => rfl)) ?_
        refine s_rd (v := (Value.bool false)) (r_move rfl rfl) ?_
        refine s_skip ?_
        refine s_skip ?_
        refine s_skip ?_
        refine s_skip ?_
        refine s_rd (v := (Value.bool false)) (r_pick rfl rfl (fun h => by cases h) (fun _ => rfl)) ?_
        refine s_rd (v := (Value.bool false)) (r_move rfl rfl) ?_
        refine s_skip ?_
        refine s_skip ?_
        refine s_skip ?_
        refine s_rd (v := (Value.bool false)) (r_pick rfl rfl (fun h => by cases h) (fun _ => rfl)) ?_
        refine s_rd (v := (Value.bool false)) (r_assign rfl rfl) ?_
        refine HL_nil ?_
        exact HC_ret (show endQ prog f3 R .ret _ _ from ⟨_, res1 rfl (rv_tmp rfl), h⟩)
    · skip
      refine HC_seq ?_
      refine HC_region ?_
      refine s_rd (v := (Value.int .i64 (0 : Int))) (r_assign rfl rfl) ?_
      refine HL_nil ?_
      refine HC_block ?_
      obtain ⟨I1, m1, hI0, hr⟩ := h
      refine HC_loop (fun m1 E F => ∃ i_18 : Int, E 2 = (Value.int .u8 fill_2) ∧ E 8 = (Value.pointer v_23) ∧ E 9 = (Sl.v v_25) ∧ E 10 = (Value.int .i64 (Int.tmod (IntKind.i64.wrap at_1) (4 : Int))) ∧ E 11 = (Value.int .i64 v_30) ∧ E 12 = (Value.int .i64 v_35) ∧ E 13 = (Sl.v v_39) ∧ E 14 = (Value.int .i64 v_39_1) ∧ E 15 = (Sl.v v_43) ∧ E 16 = (Value.int .i64 v_45) ∧ E 17 = (Value.int .i64 v_47) ∧ E 18 = (Value.int .i64 i_18) ∧ I1 m1 i_18 F) m1 ⟨_, rfl, rfl, rfl, rfl, rfl, rfl, rfl, rfl, rfl, rfl, rfl, rfl, hI0⟩ ?_
      clear hI0; rintro m1 E F ⟨i_18, h2, h8, h9, h10, h11, h12, h13, h14, h15, h16, h17, h18, hI⟩
      have h := hr m1 i_18 F hI
      clear hr hI
      unfold b3L1 at h
      refine HC_seq ?_
      refine HC_seq ?_
      refine HC_region ?_
      refine s_rd (v := (Value.int .i64 i_18)) (r_move rfl h18) ?_
      refine s_rd (v := (Sl.v v_25)) (r_move rfl h9) ?_
      refine s_rd (v := (Value.int .i64 (v_25.len : Int))) (r_lenSl rfl rfl underlying26) ?_
      refine s_rd (v := (Value.bool (decide (i_18 < (v_25.len : Int))))) (r_lss rfl rfl rfl) ?_
      refine s_rd (v := (Value.bool (decide (i_18 < (v_25.len : Int))))) (r_move rfl rfl) ?_
      by_cases hc : i_18 < (v_25.len : Int)
      · replace h := h.1 hc
        refine HL_known (t := 51) (v := .bool true) (congrArg Value.bool (decide_eq_true hc)) ?_
        refine HL_known (t := 52) (v := .bool true) (congrArg Value.bool (decide_eq_true hc)) ?_
        refine s_rd (v := (Value.int .i64 i_18)) (r_move rfl h18) ?_
        refine s_rd (v := (Sl.v v_43)) (r_move rfl h15) ?_
        refine s_rd (v := (Value.int .i64 (v_43.len : Int))) (r_lenSl rfl rfl underlying26) ?_
        refine s_rd (v := (Value.bool (decide (i_18 < (v_43.len : Int))))) (r_lss rfl rfl rfl) ?_
        refine s_rd (v := (Value.bool (decide (i_18 < (v_43.len : Int))))) (r_pick rfl rfl (fun _ => rfl) (fun h => by cases h)) ?_
        refine HL_nil ?_
        refine HC_cond (t := (decide (i_18 < (v_43.len : Int)))) rfl (fun hc => ?_) (fun hc => ?_)
        · replace h := h.1 (of_decide_eq_true hc)
          clear hc
          refine HC_skip ?_
          refine HC_seqJ (b3J2 (fun i_18 F => ∃ m', m' < m1 ∧ I1 m' i_18 F) fill_2 v_23 v_25 at_1 v_30 v_35 v_39 v_39_1 v_43 v_45 v_47 i_18 R) ?_ ?_
          · clear h; rintro E F ⟨h2, h8, h9, h10, h11, h12, h13, h14, h15, h16, h17, h18, h⟩
            unfold b3j2 at h
            refine HC_region ?_
            refine s_rd (v := (Value.int .i64 i_18)) (r_move rfl h18) ?_
            refine s_rd (v := (Value.int .i64 (IntKind.i64.wrap (i_18 + (1 : Int))))) (r_add rfl rfl rfl) ?_
            refine s_rd (v := (Value.int .i64 (IntKind.i64.wrap (i_18 + (1 : Int))))) (r_assign rfl rfl) ?_
            refine HL_nil ?_
            obtain ⟨m', hm, h⟩ := h
            exact ⟨m', hm, _, h2, h8, h9, h10, h11, h12, h13, h14, h15, h16, h17, rfl, h⟩
          · skip
            refine HC_block ?_
            refine HC_seq ?_
            refine HC_draw0 (by kernel_rfl) (fun hp => ?_)
            refine g_pu (i := 0) (v := (Value.int .i64 i_18)) rfl (by kernel_rfl) (by kernel_rfl) (by kernel_rfl) (fun _ _ _ h => h) (fun _ => r_move rfl h18) hp ?_
            refine g_pu (i := 1) (v := (Value.int .i64 (IntKind.i64.wrap (Int.tdiv i_18 (64 : Int))))) rfl (by kernel_rfl) (by kernel_rfl) (by kernel_rfl) (fun _ _ _ h => h) (fun _ => r_quo rfl rfl rfl (by decide)) hp ?_
            refine g_pu (i := 2) (v := (Value.int .i64 (Int.tmod (IntKind.i64.wrap at_1) (4 : Int)))) rfl (by kernel_rfl) (by kernel_rfl) (by kernel_rfl) (fun _ _ _ h => h) (fun _ => r_move rfl h10) hp ?_
            refine g_pu (i := 3) (v := (Value.bool (decide ((IntKind.i64.wrap (Int.tdiv i_18 (64 : Int))) ≠ (Int.tmod (IntKind.i64.wrap at_1) (4 : Int)))))) rfl (by kernel_rfl) (by kernel_rfl) (by kernel_rfl) (fun _ _ _ h => h) (fun _ => w_neq rfl rfl) hp ?_
            refine g_pu (i := 4) (v := (Value.bool (decide ((IntKind.i64.wrap (Int.tdiv i_18 (64 : Int))) ≠ (Int.tmod (IntKind.i64.wrap at_1) (4 : Int)))))) rfl (by kernel_rfl) (by kernel_rfl) (by kernel_rfl) (fun _ _ _ h => h) (fun _ => r_move rfl rfl) hp ?_
            by_cases hc : (IntKind.i64.wrap (Int.tdiv i_18 (64 : Int))) ≠ (Int.tmod (IntKind.i64.wrap at_1) (4 : Int))
            · replace h := h.1 hc
              refine RG_known (t := 63) (v := .bool true) (congrArg Value.bool (decide_eq_true hc)) ?_
              refine RG_known (t := 64) (v := .bool true) (congrArg Value.bool (decide_eq_true hc)) ?_
              refine g_pu (i := 5) (v := (Sl.v v_25)) rfl (by kernel_rfl) (by kernel_rfl) (by kernel_rfl) (fun _ _ _ h => h) (fun _ => r_move rfl h9) hp ?_
              refine g_pu (i := 6) (v := (Value.int .i64 i_18)) rfl (by kernel_rfl) (by kernel_rfl) (by kernel_rfl) (fun _ _ _ h => h) (fun _ => r_move rfl h18) hp ?_
              obtain ⟨a67_, hb67, hl67, hu67, h⟩ := h
              refine g_pu (i := 7) (v := (Value.pointer (some (Addr.add a67_ (Int.toNat i_18 * 1))))) rfl (by kernel_rfl) (by kernel_rfl) (by kernel_rfl) (fun _ _ _ h => h) (fun _ => w_indexAddr rfl rfl underlying26 sz5 hb67 hl67 hu67) hp ?_
              obtain ⟨v_68, hc68, h⟩ := h
              refine g_rd (i := 8) (v := (Value.int .u8 v_68)) rfl (by kernel_rfl) (by kernel_rfl) (by kernel_rfl) (fun _ _ _ h => h) (r_load1 rfl rfl underlying5 rfl hc68) hp (fun S8 q8 => ?_)
              replace hp := holdC (i := 8) (q8 _ (r_load1 rfl rfl underlying5 rfl hc68)) hp
              refine g_pu (i := 9) (v := (Sl.v v_43)) rfl (by kernel_rfl) (by kernel_rfl) (by kernel_rfl) (fun _ _ _ h => h) (fun _ => r_move rfl h15) hp ?_
              refine g_pu (i := 10) (v := (Value.int .i64 i_18)) rfl (by kernel_rfl) (by kernel_rfl) (by kernel_rfl) (fun _ _ _ h => h) (fun _ => r_move rfl h18) hp ?_
              obtain ⟨a71_, hb71, hl71, hu71, h⟩ := h
              refine g_pu (i := 11) (v := (Value.pointer (some (Addr.add a71_ (Int.toNat i_18 * 1))))) rfl (by kernel_rfl) (by kernel_rfl) (by kernel_rfl) (fun _ _ _ h => h) (fun _ => w_indexAddr rfl rfl underlying26 sz5 hb71 hl71 hu71) hp ?_
              obtain ⟨v_72, hc72, h⟩ := h
              refine g_rd (i := 12) (v := (Value.int .u8 v_72)) rfl (by kernel_rfl) (by kernel_rfl) (by kernel_rfl) (fun _ _ _ h => h) (r_load1 rfl rfl underlying5 rfl hc72) hp (fun S12 q12 => ?_)
              replace hp := holdC (i := 12) (q12 _ (r_load1 rfl rfl underlying5 rfl hc72)) hp
              refine g_pu (i := 13) (v := (Value.bool (decide (v_68 ≠ v_72)))) rfl (by kernel_rfl) (by kernel_rfl) (by kernel_rfl) (fun _ _ _ h => h) (fun _ => w_neq rfl rfl) hp ?_
              refine g_pu (i := 14) (v := (Value.bool (decide (v_68 ≠ v_72)))) rfl (by kernel_rfl) (by kernel_rfl) (by kernel_rfl) (fun _ _ _ h => h) (fun _ => r_pick rfl rfl (fun _ => rfl) (fun h => by cases h)) hp ?_
              refine RG_done (by kernel_rfl) ?_
              refine HC_cond (t := (decide (v_68 ≠ v_72))) rfl (fun hc => ?_) (fun hc => ?_)
              · replace h := h.1 (of_decide_eq_true hc)
                clear hc
                refine HC_seq ?_
                refine HC_region ?_
                refine s_rd (v := (Value.bool false)) (r_assign rfl rfl) ?_
                refine HL_nil ?_
                exact HC_ret (show endQ prog f3 R .ret _ _ from ⟨_, res1 rfl (rv_tmp rfl), h⟩)
              · replace h := h.2 (of_decide_eq_false hc)
                clear hc
                refine HC_skip ?_
                show b3J2 (fun i_18 F => ∃ m', m' < m1 ∧ I1 m' i_18 F) fill_2 v_23 v_25 at_1 v_30 v_35 v_39 v_39_1 v_43 v_45 v_47 i_18 R _ _
                exact ⟨h2, h8, h9, h10, h11, h12, h13, h14, h15, h16, h17, h18, h⟩
            · replace h := h.2 hc
              refine RG_known (t := 63) (v := .bool false) (congrArg Value.bool (decide_eq_false hc)) ?_
              refine RG_known (t := 64) (v := .bool false) (congrArg Value.bool (decide_eq_false hc)) ?_
              refine g_skip (i := 5) rfl (by kernel_rfl) (by kernel_rfl) (by kernel_rfl) (fun _ _ _ h => h) hp ?_
              refine g_skip (i := 6) rfl (by kernel_rfl) (by kernel_rfl) (by kernel_rfl) (fun _ _ _ h => h) hp ?_
              refine g_skip (i := 7) rfl (by kernel_rfl) (by kernel_rfl) (by kernel_rfl) (fun _ _ _ h => h) hp ?_
              refine g_skip (i := 8) rfl (by kernel_rfl) (by kernel_rfl) (by kernel_rfl) (fun _ _ _ h => h) hp ?_
              refine g_skip (i := 9) rfl (by kernel_rfl) (by kernel_rfl) (by kernel_rfl) (fun _ _ _ h => h) hp ?_
              refine g_skip (i := 10) rfl (by kernel_rfl) (by kernel_rfl) (by kernel_rfl) (fun _ _ _ h => h) hp ?_
              refine g_skip (i := 11) rfl (by kernel_rfl) (by kernel_rfl) (by kernel_rfl) (fun _ _ _ h => h) hp ?_
              refine g_skip (i := 12) rfl (by kernel_rfl) (by kernel_rfl) (by kernel_rfl) (fun _ _ _ h => h) hp ?_
              refine g_skip (i := 13) rfl (by kernel_rfl) (by kernel_rfl) (by kernel_rfl) (fun _ _ _ h => h) hp ?_
              refine g_pu (i := 14) (v := (Value.bool false)) rfl (by kernel_rfl) (by kernel_rfl) (by kernel_rfl) (fun _ _ _ h => h) (fun _ => r_pick rfl rfl (fun h => by cases h) (fun _ => rfl)) hp ?_
              refine RG_done (by kernel_rfl) ?_
              refine HC_condF rfl ?_
              refine HC_skip ?_
              show b3J2 (fun i_18 F => ∃ m', m' < m1 ∧ I1 m' i_18 F) fill_2 v_23 v_25 at_1 v_30 v_35 v_39 v_39_1 v_43 v_45 v_47 i_18 R _ _
              exact ⟨h2, h8, h9, h10, h11, h12, h13, h14, h15, h16, h17, h18, h⟩
        · replace h := h.2 (of_decide_eq_false hc)
          clear hc
          refine HC_exit ?_
          show b3J1 fill_2 v_23 v_30 v_35 v_39 v_39_1 v_43 v_45 v_47 R _ _
          exact ⟨h2, h8, h11, h12, h13, h14, h15, h16, h17, h⟩
      · replace h := h.2 hc
        refine HL_known (t := 51) (v := .bool false) (congrArg Value.bool (decide_eq_false hc)) ?_
        refine HL_known (t := 52) (v := .bool false) (congrArg Value.bool (decide_eq_false hc)) ?_
        refine s_skip ?_
        refine s_skip ?_
        refine s_skip ?_
        refine s_skip ?_
        refine s_rd (v := (Value.bool false)) (r_pick rfl rfl (fun h => by cases h) (fun _ => rfl)) ?_
        refine HL_nil ?_
        refine HC_condF rfl ?_
        refine HC_exit ?_
        show b3J1 fill_2 v_23 v_30 v_35 v_39 v_39_1 v_43 v_45 v_47 R _ _
        exact ⟨h2, h8, h11, h12, h13, h14, h15, h16, h17, h⟩

/- 4 koine.koinelaw34.DiskDurable -/
def b4j2 (R : Value → PH → Prop) (F : PH) : Prop :=
  R (Value.bool true) F
abbrev b4J2 (R : Value → PH → Prop) (E : En) (F : PH) : Prop := b4j2 R F
def b4j3 (N1 : Int → PH → Prop) (v_28 : Sl) (b11 : Nat) (v_80 : Sl) (i_17 : Int) (R : Value → PH → Prop) (F : PH) : Prop :=
  N1 (IntKind.i64.wrap (i_17 + (1 : Int))) F
abbrev b4J3 (N1 : Int → PH → Prop) (v_28 : Sl) (b11 : Nat) (v_80 : Sl) (i_17 : Int) (R : Value → PH → Prop) (E : En) (F : PH) : Prop := E 10 = (Sl.v v_28) ∧ E 11 = (Value.pointer (some (Addr.mk b11 0 none))) ∧ E 16 = (Sl.v v_80) ∧ E 17 = (Value.int .i64 i_17) ∧ b4j3 N1 v_28 b11 v_80 i_17 R F
def b4j4 (N1 : Int → PH → Prop) (v_28 : Sl) (b11 : Nat) (v_80 : Sl) (i_17 : Int) (ok_18 : Bool) (R : Value → PH → Prop) (F : PH) : Prop :=
  (((!ok_18) = true →
    R (Value.bool false) F) ∧
  ((!ok_18) = false →
    b4j3 N1 v_28 b11 v_80 i_17 R F))
abbrev b4J4 (N1 : Int → PH → Prop) (v_28 : Sl) (b11 : Nat) (v_80 : Sl) (i_17 : Int) (R : Value → PH → Prop) (E : En) (F : PH) : Prop := ∃ ok_18 : Bool, E 10 = (Sl.v v_28) ∧ E 11 = (Value.pointer (some (Addr.mk b11 0 none))) ∧ E 16 = (Sl.v v_80) ∧ E 17 = (Value.int .i64 i_17) ∧ E 18 = (Value.bool ok_18) ∧ b4j4 N1 v_28 b11 v_80 i_17 ok_18 R F
def b4j5 (N1 : Int → PH → Prop) (N2 : Bool → Int → PH → Prop) (v_28 : Sl) (b11 : Nat) (v_80 : Sl) (i_17 : Int) (k_19 : Int) (ok_18_2 : Bool) (R : Value → PH → Prop) (F : PH) : Prop :=
  N2 ok_18_2 (IntKind.i64.wrap (k_19 + (1 : Int))) F
abbrev b4J5 (N1 : Int → PH → Prop) (N2 : Bool → Int → PH → Prop) (v_28 : Sl) (b11 : Nat) (v_80 : Sl) (i_17 : Int) (k_19 : Int) (R : Value → PH → Prop) (E : En) (F : PH) : Prop := ∃ ok_18_2 : Bool, E 10 = (Sl.v v_28) ∧ E 11 = (Value.pointer (some (Addr.mk b11 0 none))) ∧ E 16 = (Sl.v v_80) ∧ E 17 = (Value.int .i64 i_17) ∧ E 18 = (Value.bool ok_18_2) ∧ E 19 = (Value.int .i64 k_19) ∧ b4j5 N1 N2 v_28 b11 v_80 i_17 k_19 ok_18_2 R F
def b4L2 (N1 : Int → PH → Prop) (N2 : Bool → Int → PH → Prop) (v_28 : Sl) (b11 : Nat) (v_80 : Sl) (i_17 : Int) (R : Value → PH → Prop) (ok_18_1 : Bool) (k_19 : Int) (F : PH) : Prop :=
  0 ≤ (IntKind.i64.wrap (Int.tdiv i_17 (64 : Int))) ∧ (IntKind.i64.wrap (Int.tdiv i_17 (64 : Int))) < (4 : Int) ∧
  ∃ v_119 : Sl, F.cell (Addr.add (Addr.mk b11 0 none) (Int.toNat (IntKind.i64.wrap (Int.tdiv i_17 (64 : Int))) * 1)) = some (Sl.v v_119) ∧
  ((k_19 < (v_119.len : Int) →
    ((ok_18_1 = true →
      b4j5 N1 N2 v_28 b11 v_80 i_17 k_19 true R F) ∧
    (ok_18_1 = false →
      ∃ a128_ : Addr, v_80.base = some a128_ ∧ 0 ≤ i_17 ∧ i_17 < (v_80.len : Int) ∧
      ∃ v_129 : Int, F.cell (Addr.add a128_ (Int.toNat i_17 * 1)) = some (Value.int .u8 v_129) ∧
      0 ≤ (IntKind.i64.wrap (Int.tdiv i_17 (64 : Int))) ∧ (IntKind.i64.wrap (Int.tdiv i_17 (64 : Int))) < (4 : Int) ∧
      ∃ v_133 : Sl, F.cell (Addr.add (Addr.mk b11 0 none) (Int.toNat (IntKind.i64.wrap (Int.tdiv i_17 (64 : Int))) * 1)) = some (Sl.v v_133) ∧
      ∃ a135_ : Addr, v_133.base = some a135_ ∧ 0 ≤ k_19 ∧ k_19 < (v_133.len : Int) ∧
      ∃ v_136 : Int, F.cell (Addr.add a135_ (Int.toNat k_19 * 1)) = some (Value.int .u8 v_136) ∧
      b4j5 N1 N2 v_28 b11 v_80 i_17 k_19 (decide (v_129 = v_136)) R F))) ∧
  (¬ (k_19 < (v_119.len : Int)) →
    b4j4 N1 v_28 b11 v_80 i_17 ok_18_1 R F))
def b4L1 (N1 : Int → PH → Prop) (v_28 : Sl) (b11 : Nat) (v_80 : Sl) (R : Value → PH → Prop) (i_17 : Int) (F : PH) : Prop :=
  ((i_17 < (256 : Int) →
    ∃ a108_ : Addr, v_80.base = some a108_ ∧ 0 ≤ i_17 ∧ i_17 < (v_80.len : Int) ∧
    ∃ v_109 : Int, F.cell (Addr.add a108_ (Int.toNat i_17 * 1)) = some (Value.int .u8 v_109) ∧
    ∃ a112_ : Addr, v_28.base = some a112_ ∧ 0 ≤ i_17 ∧ i_17 < (v_28.len : Int) ∧
    ∃ v_113 : Int, F.cell (Addr.add a112_ (Int.toNat i_17 * 1)) = some (Value.int .u8 v_113) ∧
    (∃ (I2 : Nat → Bool → Int → PH → Prop) (m2 : Nat), I2 m2 (decide (v_109 = v_113)) (0 : Int) F ∧ ∀ m2 ok_18_1 k_19 F, I2 m2 ok_18_1 k_19 F →
      b4L2 N1 (fun ok_18_1 k_19 F => ∃ m', m' < m2 ∧ I2 m' ok_18_1 k_19 F) v_28 b11 v_80 i_17 R ok_18_1 k_19 F)) ∧
  (¬ (i_17 < (256 : Int)) →
    b4j2 R F))
def b4j1 (kept_2 : Sl) (v_24 : Option Addr) (v_26 : Int) (v_28 : Sl) (b11 : Nat) (R : Value → PH → Prop) (F : PH) : Prop :=
  Spec prog 19 #[(Value.pointer v_24), (Sl.v kept_2)] F fun v F => v = Value.tuple #[] ∧
  Spec prog 16 #[(Value.pointer v_24), (Value.int .i64 (0 : Int))] F fun v F => ∃ v_74 : Sl, ∃ v_74_1 : Int, v = (Value.tuple #[(Sl.v v_74), (Value.int .i64 v_74_1)]) ∧
  Spec prog 20 #[(Value.pointer v_24)] F fun v F => v = Value.tuple #[] ∧
  Spec prog 12 #[(Value.pointer v_24)] F fun v F => ∃ v_80 : Sl, v = (Sl.v v_80) ∧
  ((v_26 ≠ (0 : Int) →
    R (Value.bool false) F) ∧
  (¬ (v_26 ≠ (0 : Int)) →
    ((v_74_1 ≠ (340 : Int) →
      R (Value.bool false) F) ∧
    (¬ (v_74_1 ≠ (340 : Int)) →
      (((v_28.len : Int) ≠ (256 : Int) →
        R (Value.bool false) F) ∧
      (¬ ((v_28.len : Int) ≠ (256 : Int)) →
        (((v_80.len : Int) ≠ (256 : Int) →
          R (Value.bool false) F) ∧
        (¬ ((v_80.len : Int) ≠ (256 : Int)) →
          Spec prog 13 #[(Value.pointer v_24)] F fun v F => ∃ v_99 : Int, v = (Value.int .i64 v_99) ∧
          ((v_99 ≠ (0 : Int) →
            R (Value.bool false) F) ∧
          (¬ (v_99 ≠ (0 : Int)) →
            (∃ (I1 : Nat → Int → PH → Prop) (m1 : Nat), I1 m1 (0 : Int) F ∧ ∀ m1 i_17 F, I1 m1 i_17 F →
              b4L1 (fun i_17 F => ∃ m', m' < m1 ∧ I1 m' i_17 F) v_28 b11 v_80 R i_17 F)))))))))))
abbrev b4J1 (kept_2 : Sl) (v_24 : Option Addr) (v_26 : Int) (v_28 : Sl) (b11 : Nat) (R : Value → PH → Prop) (E : En) (F : PH) : Prop := E 2 = (Sl.v kept_2) ∧ E 8 = (Value.pointer v_24) ∧ E 9 = (Value.int .i64 v_26) ∧ E 10 = (Sl.v v_28) ∧ E 11 = (Value.pointer (some (Addr.mk b11 0 none))) ∧ b4j1 kept_2 v_24 v_26 v_28 b11 R F
def b4L3 (N3 : Int → PH → Prop) (vm_1 : Sl) (kept_2 : Sl) (v_24 : Option Addr) (v_26 : Int) (v_28 : Sl) (b11 : Nat) (R : Value → PH → Prop) (i_12 : Int) (F : PH) : Prop :=
  ((i_12 < (vm_1.len : Int) →
    ((i_12 < (10 : Int) →
      ∃ a42_ : Addr, vm_1.base = some a42_ ∧ 0 ≤ i_12 ∧ i_12 < (vm_1.len : Int) ∧
      ∃ v_44 : Int, F.cell (Addr.add (Addr.add a42_ (Int.toNat i_12 * 5)) 1) = some (Value.int .i64 v_44) ∧
      ∃ a52_ : Addr, vm_1.base = some a52_ ∧ 0 ≤ i_12 ∧ i_12 < (vm_1.len : Int) ∧
      ∃ v_54 : Int, F.cell (Addr.add (Addr.add a52_ (Int.toNat i_12 * 5)) 2) = some (Value.int .u8 v_54) ∧
      Spec prog 15 #[(Value.int .u8 v_54)] F fun v F => ∃ v_55 : Sl, v = (Sl.v v_55) ∧
      Spec prog 14 #[(Value.pointer v_24), (Value.int .i64 (Int.tmod (IntKind.i64.wrap ((Int.tmod v_44 (4 : Int)) + (4 : Int))) (4 : Int))), (Sl.v v_55)] F fun v F => ∃ v_56 : Int, v = (Value.int .i64 v_56) ∧
      0 ≤ (Int.tmod (IntKind.i64.wrap ((Int.tmod v_44 (4 : Int)) + (4 : Int))) (4 : Int)) ∧ (Int.tmod (IntKind.i64.wrap ((Int.tmod v_44 (4 : Int)) + (4 : Int))) (4 : Int)) < (4 : Int) ∧
      ∃ v_60 : Sl, F.cell (Addr.add (Addr.mk b11 0 none) (Int.toNat (Int.tmod (IntKind.i64.wrap ((Int.tmod v_44 (4 : Int)) + (4 : Int))) (4 : Int)) * 1)) = some (Sl.v v_60) ∧
      ∃ a63_ : Addr, vm_1.base = some a63_ ∧ 0 ≤ i_12 ∧ i_12 < (vm_1.len : Int) ∧
      ∃ v_65 : Int, F.cell (Addr.add (Addr.add a63_ (Int.toNat i_12 * 5)) 2) = some (Value.int .u8 v_65) ∧
      ∀ b66, F b66 = none → atF (F.set b66 (.cells #[(Value.int .u8 v_65)] 5)) fun F =>
      runs prog (Builtin.append_ #[26, 26] 26 #[(Sl.v v_60), (Sl.v (Sl.mk (some (Addr.mk b66 0 none)) 1 1))]) F fun v F => ∃ v_67 : Sl, v = (Sl.v v_67) ∧
      0 ≤ (Int.tmod (IntKind.i64.wrap ((Int.tmod v_44 (4 : Int)) + (4 : Int))) (4 : Int)) ∧ (Int.tmod (IntKind.i64.wrap ((Int.tmod v_44 (4 : Int)) + (4 : Int))) (4 : Int)) < (4 : Int) ∧
      ∃ c e, F (Addr.add (Addr.mk b11 0 none) (Int.toNat (Int.tmod (IntKind.i64.wrap ((Int.tmod v_44 (4 : Int)) + (4 : Int))) (4 : Int)) * 1)).block = some (.cells c e (0, 0)) ∧ (Addr.add (Addr.mk b11 0 none) (Int.toNat (Int.tmod (IntKind.i64.wrap ((Int.tmod v_44 (4 : Int)) + (4 : Int))) (4 : Int)) * 1)).spot = none ∧ (Addr.add (Addr.mk b11 0 none) (Int.toNat (Int.tmod (IntKind.i64.wrap ((Int.tmod v_44 (4 : Int)) + (4 : Int))) (4 : Int)) * 1)).off < c.size ∧
      atF (F.set (Addr.add (Addr.mk b11 0 none) (Int.toNat (Int.tmod (IntKind.i64.wrap ((Int.tmod v_44 (4 : Int)) + (4 : Int))) (4 : Int)) * 1)).block (.cells (c.setIfInBounds (Addr.add (Addr.mk b11 0 none) (Int.toNat (Int.tmod (IntKind.i64.wrap ((Int.tmod v_44 (4 : Int)) + (4 : Int))) (4 : Int)) * 1)).off (Sl.v v_67)) e)) fun F =>
      N3 (IntKind.i64.wrap (i_12 + (1 : Int))) F) ∧
    (¬ (i_12 < (10 : Int)) →
      b4j1 kept_2 v_24 v_26 v_28 b11 R F))) ∧
  (¬ (i_12 < (vm_1.len : Int)) →
    b4j1 kept_2 v_24 v_26 v_28 b11 R F))
def b4 (l_0 : Sl) (vm_1 : Sl) (kept_2 : Sl) (R : Value → PH → Prop) (F : PH) : Prop :=
  Spec prog 10 #[] F fun v F => ∃ v_20 : Bool, v = (Value.bool v_20) ∧
  (((!v_20) = true →
    R (Value.bool false) F) ∧
  ((!v_20) = false →
    Spec prog 11 #[(Sl.v l_0)] F fun v F => ∃ v_24 : Option Addr, v = (Value.pointer v_24) ∧
    Spec prog 17 #[(Value.pointer v_24)] F fun v F => ∃ v_26 : Int, v = (Value.int .i64 v_26) ∧
    Spec prog 12 #[(Value.pointer v_24)] F fun v F => ∃ v_28 : Sl, v = (Sl.v v_28) ∧
    ∀ b11, F b11 = none → atF (F.set b11 (.cells (#[Value.slice none 0 0, Value.slice none 0 0, Value.slice none 0 0, Value.slice none 0 0]) 38)) fun F =>
    (#[Value.slice none 0 0, Value.slice none 0 0, Value.slice none 0 0, Value.slice none 0 0] : Array Value).size = 4 ∧ (∀ v ∈ (#[Value.slice none 0 0, Value.slice none 0 0, Value.slice none 0 0, Value.slice none 0 0] : Array Value).toList, storable v) ∧ ∃ c e, F (Addr.mk b11 0 none).block = some (.cells c e (0, 0)) ∧ (Addr.mk b11 0 none).spot = none ∧ (Addr.mk b11 0 none).off + 4 ≤ c.size ∧
    atF (F.set (Addr.mk b11 0 none).block (.cells (wr c (Addr.mk b11 0 none).off (#[Value.slice none 0 0, Value.slice none 0 0, Value.slice none 0 0, Value.slice none 0 0] : Array Value).toList) e)) fun F =>
    (∃ (I3 : Nat → Int → PH → Prop) (m3 : Nat), I3 m3 (0 : Int) F ∧ ∀ m3 i_12 F, I3 m3 i_12 F →
      b4L3 (fun i_12 F => ∃ m', m' < m3 ∧ I3 m' i_12 F) vm_1 kept_2 v_24 v_26 v_28 b11 R i_12 F)))
theorem c4 {l_0 : Sl} {vm_1 : Sl} {kept_2 : Sl} {R : Value → PH → Prop} {F : PH} (h : b4 l_0 vm_1 kept_2 R F) : Spec prog 4 #[(Sl.v l_0), (Sl.v vm_1), (Sl.v kept_2)] F R := by
  refine spec_of (args := [(Sl.v l_0), (Sl.v vm_1), (Sl.v kept_2)]) func4 rfl ntmps4 rfl ?_
  unfold b4 at h
  refine HC_seq ?_
  refine HC_region ?_
  refine s_rd (v := (Value.bool false)) (r_assign rfl rfl) ?_
  refine HL_nil ?_
  refine HC_seq ?_
  refine HC_region ?_
  refine s_ef (k_call (vs := []) cb10 evN (h.mono ?_))
  clear h; rintro v F ⟨v_20, rfl, h⟩
  refine s_rd (v := (Value.bool v_20)) (r_assign rfl rfl) ?_
  refine HL_nil ?_
  refine HC_seq ?_
  refine HC_seq ?_
  refine HC_region ?_
  refine s_rd (v := (Value.bool v_20)) (r_move rfl rfl) ?_
  refine s_rd (v := (Value.bool (!v_20))) (r_not rfl rfl) ?_
  refine HL_nil ?_
  refine HC_cond (t := (!v_20)) rfl (fun hc => ?_) (fun hc => ?_)
  · replace h := h.1 hc
    clear hc
    refine HC_seq ?_
    refine HC_region ?_
    refine s_rd (v := (Value.bool false)) (r_assign rfl rfl) ?_
    refine HL_nil ?_
    exact HC_ret (show endQ prog f4 R .ret _ _ from ⟨_, res1 rfl (rv_tmp rfl), h⟩)
  · replace h := h.2 hc
    clear hc
    refine HC_skip ?_
    refine HC_seq ?_
    refine HC_region ?_
    refine s_rd (v := (Sl.v l_0)) (r_move rfl rfl) ?_
    refine s_ef (k_call (vs := [(Sl.v l_0)]) cb11 (evC rfl evN) (h.mono ?_))
    clear h; rintro v F ⟨v_24, rfl, h⟩
    refine s_rd (v := (Value.pointer v_24)) (r_assign rfl rfl) ?_
    refine HL_nil ?_
    refine HC_seq ?_
    refine HC_region ?_
    refine s_rd (v := (Value.pointer v_24)) (r_move rfl rfl) ?_
    refine s_ef (k_call (vs := [(Value.pointer v_24)]) cb17 (evC rfl evN) (h.mono ?_))
    clear h; rintro v F ⟨v_26, rfl, h⟩
    refine s_rd (v := (Value.int .i64 v_26)) (r_assign rfl rfl) ?_
    refine HL_nil ?_
    refine HC_seq ?_
    refine HC_region ?_
    refine s_rd (v := (Value.pointer v_24)) (r_move rfl rfl) ?_
    refine s_ef (k_call (vs := [(Value.pointer v_24)]) cb12 (evC rfl evN) (h.mono ?_))
    clear h; rintro v F ⟨v_28, rfl, h⟩
    refine s_rd (v := (Sl.v v_28)) (r_assign rfl rfl) ?_
    refine HL_nil ?_
    refine HC_seq ?_
    refine HC_region ?_
    refine s_rd (v := (Value.agg (#[Value.slice none 0 0, Value.slice none 0 0, Value.slice none 0 0, Value.slice none 0 0] : Array Value))) (w_buildArray (cells := #[Value.slice none 0 0, Value.slice none 0 0, Value.slice none 0 0, Value.slice none 0 0]) underlying38 zr38 sz26 (evPN) (fillN rfl)) ?_
    refine s_ef (k_alloc zr38 ?_)
    intro b11 hf_b11
    replace h := atE (h b11 hf_b11)
    refine s_ef0 (k_storeN (vs := (#[Value.slice none 0 0, Value.slice none 0 0, Value.slice none 0 0, Value.slice none 0 0] : Array Value)) rfl rfl sz38 (by decide) ?_)
    obtain ⟨hz1, hz2, c, e, hz3, hz4, hz5, h⟩ := h
    refine ⟨hz1, hz2, c, e, hz3, hz4, hz5, ?_⟩
    replace h := atE h
    refine HL_nil ?_
    refine HC_seqJ (b4J1 kept_2 v_24 v_26 v_28 b11 R) ?_ ?_
    · clear h; rintro E F ⟨h2, h8, h9, h10, h11, h⟩
      unfold b4j1 at h
      refine HC_seq ?_
      refine HC_region ?_
      refine s_rd (v := (Value.pointer v_24)) (r_move rfl h8) ?_
      refine s_rd (v := (Sl.v kept_2)) (r_move rfl h2) ?_
      refine s_ef (k_call (vs := [(Value.pointer v_24), (Sl.v kept_2)]) cb19 (evC rfl (evC rfl evN)) (h.mono ?_))
      clear h; rintro v F ⟨rfl, h⟩
      refine HL_nil ?_
      refine HC_seq ?_
      refine HC_region ?_
      refine s_rd (v := (Value.pointer v_24)) (r_move rfl h8) ?_
      refine s_ef (k_call (vs := [(Value.pointer v_24), (Value.int .i64 (0 : Int))]) cb16 (evC rfl (evC rfl evN)) (h.mono ?_))
      clear h; rintro v F ⟨v_74, v_74_1, rfl, h⟩
      refine s_rd (v := (Value.tuple #[(Sl.v v_74), (Value.int .i64 v_74_1)])) (r_move rfl rfl) ?_
      refine s_rd (v := (Sl.v v_74)) (r_extract rfl rfl rfl) ?_
      refine s_rd (v := (Value.int .i64 v_74_1)) (r_extract rfl rfl rfl) ?_
      refine s_rd (v := (Sl.v v_74)) (r_assign rfl rfl) ?_
      refine s_rd (v := (Value.int .i64 v_74_1)) (r_assign rfl rfl) ?_
      refine HL_nil ?_
      refine HC_seq ?_
      refine HC_region ?_
      refine s_rd (v := (Value.pointer v_24)) (r_move rfl h8) ?_
      refine s_ef (k_call (vs := [(Value.pointer v_24)]) cb20 (evC rfl evN) (h.mono ?_))
      clear h; rintro v F ⟨rfl, h⟩
      refine HL_nil ?_
      refine HC_seq ?_
      refine HC_region ?_
      refine s_rd (v := (Value.pointer v_24)) (r_move rfl h8) ?_
      refine s_ef (k_call (vs := [(Value.pointer v_24)]) cb12 (evC rfl evN) (h.mono ?_))
      clear h; rintro v F ⟨v_80, rfl, h⟩
      refine s_rd (v := (Sl.v v_80)) (r_assign rfl rfl) ?_
      refine HL_nil ?_
      refine HC_seq ?_
      refine HC_seq ?_
      refine HC_region ?_
      refine s_rd (v := (Value.int .i64 v_26)) (r_move rfl h9) ?_
      refine s_rd (v := (Value.bool (decide (v_26 ≠ (0 : Int))))) (w_neq rfl rfl) ?_
      refine s_rd (v := (Value.bool (decide (v_26 ≠ (0 : Int))))) (r_move rfl rfl) ?_
      by_cases hc : v_26 ≠ (0 : Int)
      · replace h := h.1 hc
        refine HL_known (t := 82) (v := .bool true) (congrArg Value.bool (decide_eq_true hc)) ?_
        refine HL_known (t := 83) (v := .bool true) (congrArg Value.bool (decide_eq_true hc)) ?_
        refine s_skip ?_
        refine s_skip ?_
        refine s_rd (v := (Value.bool true)) (r_pick rfl rfl (fun _ => rfl) (fun h => by cases h)) ?_
        refine s_rd (v := (Value.bool true)) (r_move rfl rfl) ?_
        refine s_skip ?_
        refine s_skip ?_
        refine s_skip ?_
        refine s_rd (v := (Value.bool true)) (r_pick rfl rfl (fun _ => rfl) (fun h => by cases h)) ?_
        refine s_rd (v := (Value.bool true)) (r_move rfl rfl) ?_
        refine s_skip ?_
        refine s_skip ?_
        refine s_skip ?_
        refine s_rd (v := (Value.bool true)) (r_pick rfl rfl (fun _ => rfl) (fun h => by cases h)) ?_
        refine s_rd (v := (Value.bool true)) (r_move rfl rfl) ?_
        refine s_skip ?_
        refine s_skip ?_
        refine s_skip ?_
        refine s_rd (v := (Value.bool true)) (r_pick rfl rfl (fun _ => rfl) (fun h => by cases h)) ?_
        refine HL_nil ?_
        refine HC_condT rfl ?_
        refine HC_seq ?_
        refine HC_region ?_
        refine s_rd (v := (Value.bool false)) (r_assign rfl rfl) ?_
        refine HL_nil ?_
        exact HC_ret (show endQ prog f4 R .ret _ _ from ⟨_, res1 rfl (rv_tmp rfl), h⟩)
      · replace h := h.2 hc
        refine HL_known (t := 82) (v := .bool false) (congrArg Value.bool (decide_eq_false hc)) ?_
        refine HL_known (t := 83) (v := .bool false) (congrArg Value.bool (decide_eq_false hc)) ?_
        refine s_rd (v := (Value.int .i64 v_74_1)) (r_move rfl rfl) ?_
        refine s_rd (v := (Value.bool (decide (v_74_1 ≠ (340 : Int))))) (w_neq rfl rfl) ?_
        refine s_rd (v := (Value.bool (decide (v_74_1 ≠ (340 : Int))))) (r_pick rfl rfl (fun h => by cases h) (fun _ => rfl)) ?_
        refine s_rd (v := (Value.bool (decide (v_74_1 ≠ (340 : Int))))) (r_move rfl rfl) ?_
        by_cases hc : v_74_1 ≠ (340 : Int)
        · replace h := h.1 hc
          refine HL_known (t := 85) (v := .bool true) (congrArg Value.bool (decide_eq_true hc)) ?_
          refine HL_known (t := 86) (v := .bool true) (congrArg Value.bool (decide_eq_true hc)) ?_
          refine HL_known (t := 87) (v := .bool true) (congrArg Value.bool (decide_eq_true hc)) ?_
          refine s_skip ?_
          refine s_skip ?_
          refine s_skip ?_
          refine s_rd (v := (Value.bool true)) (r_pick rfl rfl (fun _ => rfl) (fun h => by cases h)) ?_
          refine s_rd (v := (Value.bool true)) (r_move rfl rfl) ?_
          refine s_skip ?_
          refine s_skip ?_
          refine s_skip ?_
          refine s_rd (v := (Value.bool true)) (r_pick rfl rfl (fun _ => rfl) (fun h => by cases h)) ?_
          refine s_rd (v := (Value.bool true)) (r_move rfl rfl) ?_
          refine s_skip ?_
          refine s_skip ?_
          refine s_skip ?_
          refine s_rd (v := (Value.bool true)) (r_pick rfl rfl (fun _ => rfl) (fun h => by cases h)) ?_
          refine HL_nil ?_
          refine HC_condT rfl ?_
          refine HC_seq ?_
          refine HC_region ?_
          refine s_rd (v := (Value.bool false)) (r_assign rfl rfl) ?_
          refine HL_nil ?_
          exact HC_ret (show endQ prog f4 R .ret _ _ from ⟨_, res1 rfl (rv_tmp rfl), h⟩)
        · replace h := h.2 hc
          refine HL_known (t := 85) (v := .bool false) (congrArg Value.bool (decide_eq_false hc)) ?_
          refine HL_known (t := 86) (v := .bool false) (congrArg Value.bool (decide_eq_false hc)) ?_
          refine HL_known (t := 87) (v := .bool false) (congrArg Value.bool (decide_eq_false hc)) ?_
          refine s_rd (v := (Sl.v v_28)) (r_move rfl h10) ?_
          refine s_rd (v := (Value.int .i64 (v_28.len : Int))) (r_lenSl rfl rfl underlying26) ?_
          refine s_rd (v := (Value.bool (decide ((v_28.len : Int) ≠ (256 : Int))))) (w_neq rfl rfl) ?_
          refine s_rd (v := (Value.bool (decide ((v_28.len : Int) ≠ (256 : Int))))) (r_pick rfl rfl (fun h => by cases h) (fun _ => rfl)) ?_
          refine s_rd (v := (Value.bool (decide ((v_28.len : Int) ≠ (256 : Int))))) (r_move rfl rfl) ?_
          by_cases hc : (v_28.len : Int) ≠ (256 : Int)
          · replace h := h.1 hc
            refine HL_known (t := 90) (v := .bool true) (congrArg Value.bool (decide_eq_true hc)) ?_
            refine HL_known (t := 91) (v := .bool true) (congrArg Value.bool (decide_eq_true hc)) ?_
            refine HL_known (t := 92) (v := .bool true) (congrArg Value.bool (decide_eq_true hc)) ?_
            refine s_skip ?_
            refine s_skip ?_
            refine s_skip ?_
            refine s_rd (v := (Value.bool true)) (r_pick rfl rfl (fun _ => rfl) (fun h => by cases h)) ?_
            refine s_rd (v := (Value.bool true)) (r_move rfl rfl) ?_
            refine s_skip ?_
            refine s_skip ?_
            refine s_skip ?_
            refine s_rd (v := (Value.bool true)) (r_pick rfl rfl (fun _ => rfl) (fun h => by cases h)) ?_
            refine HL_nil ?_
            refine HC_condT rfl ?_
            refine HC_seq ?_
            refine HC_region ?_
            refine s_rd (v := (Value.bool false)) (r_assign rfl rfl) ?_
            refine HL_nil ?_
            exact HC_ret (show endQ prog f4 R .ret _ _ from ⟨_, res1 rfl (rv_tmp rfl), h⟩)
          · replace h := h.2 hc
            refine HL_known (t := 90) (v := .bool false) (congrArg Value.bool (decide_eq_false hc)) ?_
            refine HL_known (t := 91) (v := .bool false) (congrArg Value.bool (decide_eq_false hc)) ?_
            refine HL_known (t := 92) (v := .bool false) (congrArg Value.bool (decide_eq_false hc)) ?_
            refine s_rd (v := (Sl.v v_80)) (r_move rfl rfl) ?_
            refine s_rd (v := (Value.int .i64 (v_80.len : Int))) (r_lenSl rfl rfl underlying26) ?_
            refine s_rd (v := (Value.bool (decide ((v_80.len : Int) ≠ (256 : Int))))) (w_neq rfl rfl) ?_
            refine s_rd (v := (Value.bool (decide ((v_80.len : Int) ≠ (256 : Int))))) (r_pick rfl rfl (fun h => by cases h) (fun _ => rfl)) ?_
            refine s_rd (v := (Value.bool (decide ((v_80.len : Int) ≠ (256 : Int))))) (r_move rfl rfl) ?_
            by_cases hc : (v_80.len : Int) ≠ (256 : Int)
            · replace h := h.1 hc
              refine HL_known (t := 95) (v := .bool true) (congrArg Value.bool (decide_eq_true hc)) ?_
              refine HL_known (t := 96) (v := .bool true) (congrArg Value.bool (decide_eq_true hc)) ?_
              refine HL_known (t := 97) (v := .bool true) (congrArg Value.bool (decide_eq_true hc)) ?_
              refine s_skip ?_
              refine s_skip ?_
              refine s_skip ?_
              refine s_rd (v := (Value.bool true)) (r_pick rfl rfl (fun _ => rfl) (fun h => by cases h)) ?_
              refine HL_nil ?_
              refine HC_condT rfl ?_
              refine HC_seq ?_
              refine HC_region ?_
              refine s_rd (v := (Value.bool false)) (r_assign rfl rfl) ?_
              refine HL_nil ?_
              exact HC_ret (show endQ prog f4 R .ret _ _ from ⟨_, res1 rfl (rv_tmp rfl), h⟩)
            · replace h := h.2 hc
              refine HL_known (t := 95) (v := .bool false) (congrArg Value.bool (decide_eq_false hc)) ?_
              refine HL_known (t := 96) (v := .bool false) (congrArg Value.bool (decide_eq_false hc)) ?_
              refine HL_known (t := 97) (v := .bool false) (congrArg Value.bool (decide_eq_false hc)) ?_
              refine s_rd (v := (Value.pointer v_24)) (r_move rfl h8) ?_
              refine s_ef (k_call (vs := [(Value.pointer v_24)]) cb13 (evC rfl evN) (h.mono ?_))
              clear h; rintro v F ⟨v_99, rfl, h⟩
              refine s_rd (v := (Value.bool (decide (v_99 ≠ (0 : Int))))) (w_neq rfl rfl) ?_
              refine s_rd (v := (Value.bool (decide (v_99 ≠ (0 : Int))))) (r_pick rfl rfl (fun h => by cases h) (fun _ => rfl)) ?_
              refine HL_nil ?_
              refine HC_cond (t := (decide (v_99 ≠ (0 : Int)))) rfl (fun hc => ?_) (fun hc => ?_)
              · replace h := h.1 (of_decide_eq_true hc)
                clear hc
                refine HC_seq ?_
                refine HC_region ?_
                refine s_rd (v := (Value.bool false)) (r_assign rfl rfl) ?_
                refine HL_nil ?_
                exact HC_ret (show endQ prog f4 R .ret _ _ from ⟨_, res1 rfl (rv_tmp rfl), h⟩)
              · replace h := h.2 (of_decide_eq_false hc)
                clear hc
                refine HC_skip ?_
                refine HC_seqJ (b4J2 R) ?_ ?_
                · clear h; rintro E F h
                  unfold b4J2 at h; unfold b4j2 at h
                  refine HC_seq ?_
                  refine HC_region ?_
                  refine s_rd (v := (Value.bool true)) (r_assign rfl rfl) ?_
                  refine HL_nil ?_
                  exact HC_ret (show endQ prog f4 R .ret _ _ from ⟨_, res1 rfl (rv_tmp rfl), h⟩)
                · skip
                  refine HC_seq ?_
                  refine HC_region ?_
                  refine s_rd (v := (Value.int .i64 (0 : Int))) (r_assign rfl rfl) ?_
                  refine HL_nil ?_
                  refine HC_block ?_
                  obtain ⟨I1, m1, hI0, hr⟩ := h
                  refine HC_loop (fun m1 E F => ∃ i_17 : Int, E 10 = (Sl.v v_28) ∧ E 11 = (Value.pointer (some (Addr.mk b11 0 none))) ∧ E 16 = (Sl.v v_80) ∧ E 17 = (Value.int .i64 i_17) ∧ I1 m1 i_17 F) m1 ⟨_, h10, h11, rfl, rfl, hI0⟩ ?_
                  clear hI0; rintro m1 E F ⟨i_17, h10, h11, h16, h17, hI⟩
                  have h := hr m1 i_17 F hI
                  clear hr hI
                  unfold b4L1 at h
                  refine HC_seq ?_
                  refine HC_seq ?_
                  refine HC_region ?_
                  refine s_rd (v := (Value.int .i64 i_17)) (r_move rfl h17) ?_
                  refine s_rd (v := (Value.bool (decide (i_17 < (256 : Int))))) (r_lss rfl rfl rfl) ?_
                  refine HL_nil ?_
                  refine HC_cond (t := (decide (i_17 < (256 : Int)))) rfl (fun hc => ?_) (fun hc => ?_)
                  · replace h := h.1 (of_decide_eq_true hc)
                    clear hc
                    refine HC_skip ?_
                    refine HC_seqJ (b4J3 (fun i_17 F => ∃ m', m' < m1 ∧ I1 m' i_17 F) v_28 b11 v_80 i_17 R) ?_ ?_
                    · clear h; rintro E F ⟨h10, h11, h16, h17, h⟩
                      unfold b4j3 at h
                      refine HC_region ?_
                      refine s_rd (v := (Value.int .i64 i_17)) (r_move rfl h17) ?_
                      refine s_rd (v := (Value.int .i64 (IntKind.i64.wrap (i_17 + (1 : Int))))) (r_add rfl rfl rfl) ?_
                      refine s_rd (v := (Value.int .i64 (IntKind.i64.wrap (i_17 + (1 : Int))))) (r_assign rfl rfl) ?_
                      refine HL_nil ?_
                      obtain ⟨m', hm, h⟩ := h
                      exact ⟨m', hm, _, h10, h11, h16, rfl, h⟩
                    · skip
                      refine HC_block ?_
                      refine HC_seq ?_
                      refine HC_draw0 (by kernel_rfl) (fun hp => ?_)
                      refine g_pu (i := 0) (v := (Sl.v v_80)) rfl (by kernel_rfl) (by kernel_rfl) (by kernel_rfl) (fun _ _ _ h => h) (fun _ => r_move rfl h16) hp ?_
                      refine g_pu (i := 1) (v := (Value.int .i64 i_17)) rfl (by kernel_rfl) (by kernel_rfl) (by kernel_rfl) (fun _ _ _ h => h) (fun _ => r_move rfl h17) hp ?_
                      obtain ⟨a108_, hb108, hl108, hu108, h⟩ := h
                      refine g_pu (i := 2) (v := (Value.pointer (some (Addr.add a108_ (Int.toNat i_17 * 1))))) rfl (by kernel_rfl) (by kernel_rfl) (by kernel_rfl) (fun _ _ _ h => h) (fun _ => w_indexAddr rfl rfl underlying26 sz5 hb108 hl108 hu108) hp ?_
                      obtain ⟨v_109, hc109, h⟩ := h
                      refine g_rd (i := 3) (v := (Value.int .u8 v_109)) rfl (by kernel_rfl) (by kernel_rfl) (by kernel_rfl) (fun _ _ _ h => h) (r_load1 rfl rfl underlying5 rfl hc109) hp (fun S3 q3 => ?_)
                      replace hp := holdC (i := 3) (q3 _ (r_load1 rfl rfl underlying5 rfl hc109)) hp
                      refine g_pu (i := 4) (v := (Sl.v v_28)) rfl (by kernel_rfl) (by kernel_rfl) (by kernel_rfl) (fun _ _ _ h => h) (fun _ => r_move rfl h10) hp ?_
                      refine g_pu (i := 5) (v := (Value.int .i64 i_17)) rfl (by kernel_rfl) (by kernel_rfl) (by kernel_rfl) (fun _ _ _ h => h) (fun _ => r_move rfl h17) hp ?_
                      obtain ⟨a112_, hb112, hl112, hu112, h⟩ := h
                      refine g_pu (i := 6) (v := (Value.pointer (some (Addr.add a112_ (Int.toNat i_17 * 1))))) rfl (by kernel_rfl) (by kernel_rfl) (by kernel_rfl) (fun _ _ _ h => h) (fun _ => w_indexAddr rfl rfl underlying26 sz5 hb112 hl112 hu112) hp ?_
                      obtain ⟨v_113, hc113, h⟩ := h
                      refine g_rd (i := 7) (v := (Value.int .u8 v_113)) rfl (by kernel_rfl) (by kernel_rfl) (by kernel_rfl) (fun _ _ _ h => h) (r_load1 rfl rfl underlying5 rfl hc113) hp (fun S7 q7 => ?_)
                      replace hp := holdC (i := 7) (q7 _ (r_load1 rfl rfl underlying5 rfl hc113)) hp
                      refine g_pu (i := 8) (v := (Value.bool (decide (v_109 = v_113)))) rfl (by kernel_rfl) (by kernel_rfl) (by kernel_rfl) (fun _ _ _ h => h) (fun _ => w_eql rfl rfl) hp ?_
                      refine g_pu (i := 9) (v := (Value.bool (decide (v_109 = v_113)))) rfl (by kernel_rfl) (by kernel_rfl) (by kernel_rfl) (fun _ _ _ h => h) (fun _ => r_assign rfl rfl) hp ?_
                      refine RG_done (by kernel_rfl) ?_
                      refine HC_seqJ (b4J4 (fun i_17 F => ∃ m', m' < m1 ∧ I1 m' i_17 F) v_28 b11 v_80 i_17 R) ?_ ?_
                      · clear h; rintro E F ⟨ok_18, h10, h11, h16, h17, h18, h⟩
                        unfold b4j4 at h
                        refine HC_seq ?_
                        refine HC_region ?_
                        refine s_rd (v := (Value.bool ok_18)) (r_move rfl h18) ?_
                        refine s_rd (v := (Value.bool (!ok_18))) (r_not rfl rfl) ?_
                        refine HL_nil ?_
                        refine HC_cond (t := (!ok_18)) rfl (fun hc => ?_) (fun hc => ?_)
                        · replace h := h.1 hc
                          clear hc
                          refine HC_seq ?_
                          refine HC_region ?_
                          refine s_rd (v := (Value.bool false)) (r_assign rfl rfl) ?_
                          refine HL_nil ?_
                          exact HC_ret (show endQ prog f4 R .ret _ _ from ⟨_, res1 rfl (rv_tmp rfl), h⟩)
                        · replace h := h.2 hc
                          clear hc
                          refine HC_skip ?_
                          show b4J3 (fun i_17 F => ∃ m', m' < m1 ∧ I1 m' i_17 F) v_28 b11 v_80 i_17 R _ _
                          exact ⟨h10, h11, h16, h17, h⟩
                      · skip
                        refine HC_seq ?_
                        refine HC_region ?_
                        refine s_rd (v := (Value.int .i64 (0 : Int))) (r_assign rfl rfl) ?_
                        refine HL_nil ?_
                        refine HC_block ?_
                        obtain ⟨I2, m2, hI0, hr⟩ := h
                        refine HC_loop (fun m2 E F => ∃ ok_18_1 : Bool, ∃ k_19 : Int, E 10 = (Sl.v v_28) ∧ E 11 = (Value.pointer (some (Addr.mk b11 0 none))) ∧ E 16 = (Sl.v v_80) ∧ E 17 = (Value.int .i64 i_17) ∧ E 18 = (Value.bool ok_18_1) ∧ E 19 = (Value.int .i64 k_19) ∧ I2 m2 ok_18_1 k_19 F) m2 ⟨_, _, h10, h11, h16, h17, rfl, rfl, hI0⟩ ?_
                        clear hI0; rintro m2 E F ⟨ok_18_1, k_19, h10, h11, h16, h17, h18, h19, hI⟩
                        have h := hr m2 ok_18_1 k_19 F hI
                        clear hr hI
                        unfold b4L2 at h
                        refine HC_seq ?_
                        refine HC_seq ?_
                        refine HC_region ?_
                        refine s_rd (v := (Value.int .i64 k_19)) (r_move rfl h19) ?_
                        refine s_rd (v := (Value.int .i64 i_17)) (r_move rfl h17) ?_
                        refine s_rd (v := (Value.int .i64 (IntKind.i64.wrap (Int.tdiv i_17 (64 : Int))))) (r_quo rfl rfl rfl (by decide)) ?_
                        obtain ⟨hl118, hu118, h⟩ := h
                        refine s_rd (v := (Value.pointer (some (Addr.add (Addr.mk b11 0 none) (Int.toNat (IntKind.i64.wrap (Int.tdiv i_17 (64 : Int))) * 1))))) (r_indexAddrAr rfl h11 rfl underlying38 sz26 hl118 (by simpa using hu118)) ?_
                        obtain ⟨v_119, hc119, h⟩ := h
                        refine s_rd (v := (Sl.v v_119)) (r_load1 rfl rfl underlying26 rfl hc119) ?_
                        refine s_rd (v := (Value.int .i64 (v_119.len : Int))) (r_lenSl rfl rfl underlying26) ?_
                        refine s_rd (v := (Value.bool (decide (k_19 < (v_119.len : Int))))) (r_lss rfl rfl rfl) ?_
                        refine HL_nil ?_
                        refine HC_cond (t := (decide (k_19 < (v_119.len : Int)))) rfl (fun hc => ?_) (fun hc => ?_)
                        · replace h := h.1 (of_decide_eq_true hc)
                          clear hc
                          refine HC_skip ?_
                          refine HC_seqJ (b4J5 (fun i_17 F => ∃ m', m' < m1 ∧ I1 m' i_17 F) (fun ok_18_1 k_19 F => ∃ m', m' < m2 ∧ I2 m' ok_18_1 k_19 F) v_28 b11 v_80 i_17 k_19 R) ?_ ?_
                          · clear h; rintro E F ⟨ok_18_2, h10, h11, h16, h17, h18, h19, h⟩
                            unfold b4j5 at h
                            refine HC_region ?_
                            refine s_rd (v := (Value.int .i64 k_19)) (r_move rfl h19) ?_
                            refine s_rd (v := (Value.int .i64 (IntKind.i64.wrap (k_19 + (1 : Int))))) (r_add rfl rfl rfl) ?_
                            refine s_rd (v := (Value.int .i64 (IntKind.i64.wrap (k_19 + (1 : Int))))) (r_assign rfl rfl) ?_
                            refine HL_nil ?_
                            obtain ⟨m', hm, h⟩ := h
                            exact ⟨m', hm, _, _, h10, h11, h16, h17, h18, rfl, h⟩
                          · skip
                            refine HC_block ?_
                            refine HC_draw0 (by kernel_rfl) (fun hp => ?_)
                            refine g_pu (i := 0) (v := (Value.bool ok_18_1)) rfl (by kernel_rfl) (by kernel_rfl) (by kernel_rfl) (fun _ _ _ h => h) (fun _ => r_move rfl h18) hp ?_
                            refine g_pu (i := 1) (v := (Value.bool ok_18_1)) rfl (by kernel_rfl) (by kernel_rfl) (by kernel_rfl) (fun _ _ _ h => h) (fun _ => r_move rfl rfl) hp ?_
                            by_cases hc : ok_18_1 = true
                            · replace h := h.1 hc
                              refine RG_known (t := 18) (v := .bool true) (h18.trans (congrArg Value.bool hc)) ?_
                              refine RG_known (t := 124) (v := .bool true) (congrArg Value.bool hc) ?_
                              refine RG_known (t := 125) (v := .bool true) (congrArg Value.bool hc) ?_
                              refine g_skip (i := 2) rfl (by kernel_rfl) (by kernel_rfl) (by kernel_rfl) (fun _ _ _ h => h) hp ?_
                              refine g_skip (i := 3) rfl (by kernel_rfl) (by kernel_rfl) (by kernel_rfl) (fun _ _ _ h => h) hp ?_
                              refine g_skip (i := 4) rfl (by kernel_rfl) (by kernel_rfl) (by kernel_rfl) (fun _ _ _ h => h) hp ?_
                              refine g_skip (i := 5) rfl (by kernel_rfl) (by kernel_rfl) (by kernel_rfl) (fun _ _ _ h => h) hp ?_
                              refine g_skip (i := 6) rfl (by kernel_rfl) (by kernel_rfl) (by kernel_rfl) (fun _ _ _ h => h) hp ?_
                              refine g_skip (i := 7) rfl (by kernel_rfl) (by kernel_rfl) (by kernel_rfl) (fun _ _ _ h => h) hp ?_
                              refine g_skip (i := 8) rfl (by kernel_rfl) (by kernel_rfl) (by kernel_rfl) (fun _ _ _ h => h) hp ?_
                              refine g_skip (i := 9) rfl (by kernel_rfl) (by kernel_rfl) (by kernel_rfl) (fun _ _ _ h => h) hp ?_
                              refine g_skip (i := 10) rfl (by kernel_rfl) (by kernel_rfl) (by kernel_rfl) (fun _ _ _ h => h) hp ?_
                              refine g_skip (i := 11) rfl (by kernel_rfl) (by kernel_rfl) (by kernel_rfl) (fun _ _ _ h => h) hp ?_
                              refine g_skip (i := 12) rfl (by kernel_rfl) (by kernel_rfl) (by kernel_rfl) (fun _ _ _ h => h) hp ?_
                              refine g_skip (i := 13) rfl (by kernel_rfl) (by kernel_rfl) (by kernel_rfl) (fun _ _ _ h => h) hp ?_
                              refine g_pu (i := 14) (v := (Value.bool true)) rfl (by kernel_rfl) (by kernel_rfl) (by kernel_rfl) (fun _ _ _ h => h) (fun _ => r_pick rfl rfl (fun _ => rfl) (fun h => by cases h)) hp ?_
                              refine g_pu (i := 15) (v := (Value.bool true)) rfl (by kernel_rfl) (by kernel_rfl) (by kernel_rfl) (fun _ _ _ h => h) (fun _ => r_assign rfl rfl) hp ?_
                              refine RG_done (by kernel_rfl) ?_
                              show b4J5 (fun i_17 F => ∃ m', m' < m1 ∧ I1 m' i_17 F) (fun ok_18_1 k_19 F => ∃ m', m' < m2 ∧ I2 m' ok_18_1 k_19 F) v_28 b11 v_80 i_17 k_19 R _ _
                              exact ⟨_, h10, h11, h16, h17, rfl, h19, h⟩
                            · replace hc := eq_false_of_ne_true hc; replace h := h.2 hc
                              refine RG_known (t := 18) (v := .bool false) (h18.trans (congrArg Value.bool hc)) ?_
                              refine RG_known (t := 124) (v := .bool false) (congrArg Value.bool hc) ?_
                              refine RG_known (t := 125) (v := .bool false) (congrArg Value.bool hc) ?_
                              refine g_pu (i := 2) (v := (Sl.v v_80)) rfl (by kernel_rfl) (by kernel_rfl) (by kernel_rfl) (fun _ _ _ h => h) (fun _ => r_move rfl h16) hp ?_
                              refine g_pu (i := 3) (v := (Value.int .i64 i_17)) rfl (by kernel_rfl) (by kernel_rfl) (by kernel_rfl) (fun _ _ _ h => h) (fun _ => r_move rfl h17) hp ?_
                              obtain ⟨a128_, hb128, hl128, hu128, h⟩ := h
                              refine g_pu (i := 4) (v := (Value.pointer (some (Addr.add a128_ (Int.toNat i_17 * 1))))) rfl (by kernel_rfl) (by kernel_rfl) (by kernel_rfl) (fun _ _ _ h => h) (fun _ => w_indexAddr rfl rfl underlying26 sz5 hb128 hl128 hu128) hp ?_
                              obtain ⟨v_129, hc129, h⟩ := h
                              refine g_rd (i := 5) (v := (Value.int .u8 v_129)) rfl (by kernel_rfl) (by kernel_rfl) (by kernel_rfl) (fun _ _ _ h => h) (r_load1 rfl rfl underlying5 rfl hc129) hp (fun S5 q5 => ?_)
                              replace hp := holdC (i := 5) (q5 _ (r_load1 rfl rfl underlying5 rfl hc129)) hp
                              refine g_pu (i := 6) (v := (Value.int .i64 i_17)) rfl (by kernel_rfl) (by kernel_rfl) (by kernel_rfl) (fun _ _ _ h => h) (fun _ => r_move rfl h17) hp ?_
                              refine g_pu (i := 7) (v := (Value.int .i64 (IntKind.i64.wrap (Int.tdiv i_17 (64 : Int))))) rfl (by kernel_rfl) (by kernel_rfl) (by kernel_rfl) (fun _ _ _ h => h) (fun _ => r_quo rfl rfl rfl (by decide)) hp ?_
                              obtain ⟨hl132, hu132, h⟩ := h
                              refine g_pu (i := 8) (v := (Value.pointer (some (Addr.add (Addr.mk b11 0 none) (Int.toNat (IntKind.i64.wrap (Int.tdiv i_17 (64 : Int))) * 1))))) rfl (by kernel_rfl) (by kernel_rfl) (by kernel_rfl) (fun _ _ _ h => h) (fun _ => r_indexAddrAr rfl h11 rfl underlying38 sz26 hl132 (by simpa using hu132)) hp ?_
                              obtain ⟨v_133, hc133, h⟩ := h
                              refine g_rd (i := 9) (v := (Sl.v v_133)) rfl (by kernel_rfl) (by kernel_rfl) (by kernel_rfl) (fun _ _ _ h => h) (r_load1 rfl rfl underlying26 rfl hc133) hp (fun S9 q9 => ?_)
                              replace hp := holdC (i := 9) (q9 _ (r_load1 rfl rfl underlying26 rfl hc133)) hp
                              refine g_pu (i := 10) (v := (Value.int .i64 k_19)) rfl (by kernel_rfl) (by kernel_rfl) (by kernel_rfl) (fun _ _ _ h => h) (fun _ => r_move rfl h19) hp ?_
                              obtain ⟨a135_, hb135, hl135, hu135, h⟩ := h
                              refine g_pu (i := 11) (v := (Value.pointer (some (Addr.add a135_ (Int.toNat k_19 * 1))))) rfl (by kernel_rfl) (by kernel_rfl) (by kernel_rfl) (fun _ _ _ h => h) (fun _ => w_indexAddr rfl rfl underlying26 sz5 hb135 hl135 hu135) hp ?_
                              obtain ⟨v_136, hc136, h⟩ := h
                              refine g_rd (i := 12) (v := (Value.int .u8 v_136)) rfl (by kernel_rfl) (by kernel_rfl) (by kernel_rfl) (fun _ _ _ h => h) (r_load1 rfl rfl underlying5 rfl hc136) hp (fun S12 q12 => ?_)
                              replace hp := holdC (i := 12) (q12 _ (r_load1 rfl rfl underlying5 rfl hc136)) hp
                              refine g_pu (i := 13) (v := (Value.bool (decide (v_129 = v_136)))) rfl (by kernel_rfl) (by kernel_rfl) (by kernel_rfl) (fun _ _ _ h => h) (fun _ => w_eql rfl rfl) hp ?_
                              refine g_pu (i := 14) (v := (Value.bool (decide (v_129 = v_136)))) rfl (by kernel_rfl) (by kernel_rfl) (by kernel_rfl) (fun _ _ _ h => h) (fun _ => r_pick rfl rfl (fun h => by cases h) (fun _ => rfl)) hp ?_
                              refine g_pu (i := 15) (v := (Value.bool (decide (v_129 = v_136)))) rfl (by kernel_rfl) (by kernel_rfl) (by kernel_rfl) (fun _ _ _ h => h) (fun _ => r_assign rfl rfl) hp ?_
                              refine RG_done (by kernel_rfl) ?_
                              show b4J5 (fun i_17 F => ∃ m', m' < m1 ∧ I1 m' i_17 F) (fun ok_18_1 k_19 F => ∃ m', m' < m2 ∧ I2 m' ok_18_1 k_19 F) v_28 b11 v_80 i_17 k_19 R _ _
                              exact ⟨_, h10, h11, h16, h17, rfl, h19, h⟩
                        · replace h := h.2 (of_decide_eq_false hc)
                          clear hc
                          refine HC_exit ?_
                          show b4J4 (fun i_17 F => ∃ m', m' < m1 ∧ I1 m' i_17 F) v_28 b11 v_80 i_17 R _ _
                          exact ⟨_, h10, h11, h16, h17, h18, h⟩
                  · replace h := h.2 (of_decide_eq_false hc)
                    clear hc
                    refine HC_exit ?_
                    exact h
    · skip
      refine HC_seq ?_
      refine HC_region ?_
      refine s_rd (v := (Value.int .i64 (0 : Int))) (r_assign rfl rfl) ?_
      refine HL_nil ?_
      refine HC_block ?_
      obtain ⟨I3, m3, hI0, hr⟩ := h
      refine HC_loop (fun m3 E F => ∃ i_12 : Int, E 1 = (Sl.v vm_1) ∧ E 2 = (Sl.v kept_2) ∧ E 8 = (Value.pointer v_24) ∧ E 9 = (Value.int .i64 v_26) ∧ E 10 = (Sl.v v_28) ∧ E 11 = (Value.pointer (some (Addr.mk b11 0 none))) ∧ E 12 = (Value.int .i64 i_12) ∧ I3 m3 i_12 F) m3 ⟨_, rfl, rfl, rfl, rfl, rfl, rfl, rfl, hI0⟩ ?_
      clear hI0; rintro m3 E F ⟨i_12, h1, h2, h8, h9, h10, h11, h12, hI⟩
      have h := hr m3 i_12 F hI
      clear hr hI
      unfold b4L3 at h
      refine HC_seq ?_
      refine HC_seq ?_
      refine HC_region ?_
      refine s_rd (v := (Value.int .i64 i_12)) (r_move rfl h12) ?_
      refine s_rd (v := (Sl.v vm_1)) (r_move rfl h1) ?_
      refine s_rd (v := (Value.int .i64 (vm_1.len : Int))) (r_lenSl rfl rfl underlying22) ?_
      refine s_rd (v := (Value.bool (decide (i_12 < (vm_1.len : Int))))) (r_lss rfl rfl rfl) ?_
      refine s_rd (v := (Value.bool (decide (i_12 < (vm_1.len : Int))))) (r_move rfl rfl) ?_
      by_cases hc : i_12 < (vm_1.len : Int)
      · replace h := h.1 hc
        refine HL_known (t := 33) (v := .bool true) (congrArg Value.bool (decide_eq_true hc)) ?_
        refine HL_known (t := 34) (v := .bool true) (congrArg Value.bool (decide_eq_true hc)) ?_
        refine s_rd (v := (Value.int .i64 i_12)) (r_move rfl h12) ?_
        refine s_rd (v := (Value.bool (decide (i_12 < (10 : Int))))) (r_lss rfl rfl rfl) ?_
        refine s_rd (v := (Value.bool (decide (i_12 < (10 : Int))))) (r_pick rfl rfl (fun _ => rfl) (fun h => by cases h)) ?_
        refine HL_nil ?_
        refine HC_cond (t := (decide (i_12 < (10 : Int)))) rfl (fun hc => ?_) (fun hc => ?_)
        · replace h := h.1 (of_decide_eq_true hc)
          clear hc
          refine HC_skip ?_
          refine HC_seq ?_
          refine HC_block ?_
          refine HC_seq ?_
          refine HC_region ?_
          refine s_rd (v := (Sl.v vm_1)) (r_move rfl h1) ?_
          refine s_rd (v := (Value.int .i64 i_12)) (r_move rfl h12) ?_
          obtain ⟨a42_, hb42, hl42, hu42, h⟩ := h
          refine s_rd (v := (Value.pointer (some (Addr.add a42_ (Int.toNat i_12 * 5))))) (w_indexAddr rfl rfl underlying22 sz40 hb42 hl42 hu42) ?_
          refine s_rd (v := (Value.pointer (some (Addr.add (Addr.add a42_ (Int.toNat i_12 * 5)) 1)))) (w_fieldAddr (a' := (Addr.add (Addr.add a42_ (Int.toNat i_12 * 5)) 1)) rfl underlying40 rfl rfl sz3 rfl rfl) ?_
          obtain ⟨v_44, hc44, h⟩ := h
          refine s_rd (v := (Value.int .i64 v_44)) (r_load1 rfl rfl underlying3 rfl hc44) ?_
          refine s_rd (v := (Value.int .i64 (Int.tmod v_44 (4 : Int)))) (r_rem rfl rfl rfl (by decide)) ?_
          refine s_rd (v := (Value.int .i64 (IntKind.i64.wrap ((Int.tmod v_44 (4 : Int)) + (4 : Int))))) (r_add rfl rfl rfl) ?_
          refine s_rd (v := (Value.int .i64 (Int.tmod (IntKind.i64.wrap ((Int.tmod v_44 (4 : Int)) + (4 : Int))) (4 : Int)))) (r_rem rfl rfl rfl (by decide)) ?_
          refine s_rd (v := (Value.int .i64 (Int.tmod (IntKind.i64.wrap ((Int.tmod v_44 (4 : Int)) + (4 : Int))) (4 : Int)))) (r_assign rfl rfl) ?_
          refine HL_nil ?_
          refine HC_seq ?_
          refine HC_region ?_
          refine s_rd (v := (Value.pointer v_24)) (r_move rfl h8) ?_
          refine s_rd (v := (Value.int .i64 (Int.tmod (IntKind.i64.wrap ((Int.tmod v_44 (4 : Int)) + (4 : Int))) (4 : Int)))) (r_move rfl rfl) ?_
          refine s_rd (v := (Sl.v vm_1)) (r_move rfl h1) ?_
          refine s_rd (v := (Value.int .i64 i_12)) (r_move rfl h12) ?_
          obtain ⟨a52_, hb52, hl52, hu52, h⟩ := h
          refine s_rd (v := (Value.pointer (some (Addr.add a52_ (Int.toNat i_12 * 5))))) (w_indexAddr rfl rfl underlying22 sz40 hb52 hl52 hu52) ?_
          refine s_rd (v := (Value.pointer (some (Addr.add (Addr.add a52_ (Int.toNat i_12 * 5)) 2)))) (w_fieldAddr (a' := (Addr.add (Addr.add a52_ (Int.toNat i_12 * 5)) 2)) rfl underlying40 rfl rfl sz5 rfl rfl) ?_
          obtain ⟨v_54, hc54, h⟩ := h
          refine s_rd (v := (Value.int .u8 v_54)) (r_load1 rfl rfl underlying5 rfl hc54) ?_
          refine s_ef (k_call (vs := [(Value.int .u8 v_54)]) cb15 (evC rfl evN) (h.mono ?_))
          clear h; rintro v F ⟨v_55, rfl, h⟩
          refine s_ef (k_call (vs := [(Value.pointer v_24), (Value.int .i64 (Int.tmod (IntKind.i64.wrap ((Int.tmod v_44 (4 : Int)) + (4 : Int))) (4 : Int))), (Sl.v v_55)]) cb14 (evC rfl (evC rfl (evC rfl evN))) (h.mono ?_))
          clear h; rintro v F ⟨v_56, rfl, h⟩
          refine HL_nil ?_
          refine HC_draw0 (by kernel_rfl) (fun hp => ?_)
          refine g_pu (i := 0) (v := (Value.int .i64 (Int.tmod (IntKind.i64.wrap ((Int.tmod v_44 (4 : Int)) + (4 : Int))) (4 : Int)))) rfl (by kernel_rfl) (by kernel_rfl) (by kernel_rfl) (fun _ _ _ h => h) (fun _ => r_move rfl rfl) hp ?_
          refine g_pu (i := 1) (v := (Value.int .i64 (Int.tmod (IntKind.i64.wrap ((Int.tmod v_44 (4 : Int)) + (4 : Int))) (4 : Int)))) rfl (by kernel_rfl) (by kernel_rfl) (by kernel_rfl) (fun _ _ _ h => h) (fun _ => r_move rfl rfl) hp ?_
          obtain ⟨hl59, hu59, h⟩ := h
          refine g_pu (i := 2) (v := (Value.pointer (some (Addr.add (Addr.mk b11 0 none) (Int.toNat (Int.tmod (IntKind.i64.wrap ((Int.tmod v_44 (4 : Int)) + (4 : Int))) (4 : Int)) * 1))))) rfl (by kernel_rfl) (by kernel_rfl) (by kernel_rfl) (fun _ _ _ h => h) (fun _ => r_indexAddrAr rfl h11 rfl underlying38 sz26 hl59 (by simpa using hu59)) hp ?_
          obtain ⟨v_60, hc60, h⟩ := h
          refine g_rd (i := 3) (v := (Sl.v v_60)) rfl (by kernel_rfl) (by kernel_rfl) (by kernel_rfl) (fun _ _ _ h => h) (r_load1 rfl rfl underlying26 rfl hc60) hp (fun S3 q3 => ?_)
          replace hp := holdC (i := 3) (q3 _ (r_load1 rfl rfl underlying26 rfl hc60)) hp
          refine g_pu (i := 4) (v := (Sl.v vm_1)) rfl (by kernel_rfl) (by kernel_rfl) (by kernel_rfl) (fun _ _ _ h => h) (fun _ => r_move rfl h1) hp ?_
          refine g_pu (i := 5) (v := (Value.int .i64 i_12)) rfl (by kernel_rfl) (by kernel_rfl) (by kernel_rfl) (fun _ _ _ h => h) (fun _ => r_move rfl h12) hp ?_
          obtain ⟨a63_, hb63, hl63, hu63, h⟩ := h
          refine g_pu (i := 6) (v := (Value.pointer (some (Addr.add a63_ (Int.toNat i_12 * 5))))) rfl (by kernel_rfl) (by kernel_rfl) (by kernel_rfl) (fun _ _ _ h => h) (fun _ => w_indexAddr rfl rfl underlying22 sz40 hb63 hl63 hu63) hp ?_
          refine g_pu (i := 7) (v := (Value.pointer (some (Addr.add (Addr.add a63_ (Int.toNat i_12 * 5)) 2)))) rfl (by kernel_rfl) (by kernel_rfl) (by kernel_rfl) (fun _ _ _ h => h) (fun _ => w_fieldAddr (a' := (Addr.add (Addr.add a63_ (Int.toNat i_12 * 5)) 2)) rfl underlying40 rfl rfl sz5 rfl rfl) hp ?_
          obtain ⟨v_65, hc65, h⟩ := h
          refine g_rd (i := 8) (v := (Value.int .u8 v_65)) rfl (by kernel_rfl) (by kernel_rfl) (by kernel_rfl) (fun _ _ _ h => h) (r_load1 rfl rfl underlying5 rfl hc65) hp (fun S8 q8 => ?_)
          replace hp := holdC (i := 8) (q8 _ (r_load1 rfl rfl underlying5 rfl hc65)) hp
          refine RG_eff1 (i := 9) (by kernel_rfl) (g_op (Sp' := [(3, S3)]) rfl rfl (k_buildSeq (l := [(Value.int .u8 v_65)]) underlying26 sz5 (by decide) zr5 rfl rfl ⟨rfl, trivial⟩ (evPC rfl evPN) ?_))
          intro b66 hf_b66
          replace h := atE (h b66 hf_b66)
          refine holdI (holdC (i := 3) (q3 _ (r_load1 rfl rfl underlying26 rfl (cell_set_fresh hf_b66 hc60))) hold0) (fun hp => ?_)
          refine RG_eff1 (i := 10) (by kernel_rfl) (g_op (Sp' := []) rfl rfl (k_append rfl rfl (runs_mono _ _ h ?_)))
          clear h; rintro v F ⟨v_67, rfl, h⟩
          refine holdI hold0 (fun hp => ?_)
          obtain ⟨hl68, hu68, h⟩ := h
          refine g_pu (i := 11) (v := (Value.pointer (some (Addr.add (Addr.mk b11 0 none) (Int.toNat (Int.tmod (IntKind.i64.wrap ((Int.tmod v_44 (4 : Int)) + (4 : Int))) (4 : Int)) * 1))))) rfl (by kernel_rfl) (by kernel_rfl) (by kernel_rfl) (fun _ _ _ h => h) (fun _ => r_indexAddrAr rfl h11 rfl underlying38 sz26 hl68 (by simpa using hu68)) hp ?_
          refine RG_eff1 (i := 12) (by kernel_rfl) (g_op0 (Sp' := []) rfl rfl (k_store1 (v := (Sl.v v_67)) rfl rfl sz26 rfl st_sl ?_))
          obtain ⟨c, e, hz3, hz4, hz5, h⟩ := h
          refine ⟨c, e, hz3, hz4, hz5, ?_⟩
          replace h := atE h
          refine holdI hold0 (fun hp => ?_)
          refine RG_done (by kernel_rfl) ?_
          refine HC_region ?_
          refine s_rd (v := (Value.int .i64 i_12)) (r_move rfl h12) ?_
          refine s_rd (v := (Value.int .i64 (IntKind.i64.wrap (i_12 + (1 : Int))))) (r_add rfl rfl rfl) ?_
          refine s_rd (v := (Value.int .i64 (IntKind.i64.wrap (i_12 + (1 : Int))))) (r_assign rfl rfl) ?_
          refine HL_nil ?_
          obtain ⟨m', hm, h⟩ := h
          exact ⟨m', hm, _, h1, h2, h8, h9, h10, h11, rfl, h⟩
        · replace h := h.2 (of_decide_eq_false hc)
          clear hc
          refine HC_exit ?_
          show b4J1 kept_2 v_24 v_26 v_28 b11 R _ _
          exact ⟨h2, h8, h9, h10, h11, h⟩
      · replace h := h.2 hc
        refine HL_known (t := 33) (v := .bool false) (congrArg Value.bool (decide_eq_false hc)) ?_
        refine HL_known (t := 34) (v := .bool false) (congrArg Value.bool (decide_eq_false hc)) ?_
        refine s_skip ?_
        refine s_skip ?_
        refine s_rd (v := (Value.bool false)) (r_pick rfl rfl (fun h => by cases h) (fun _ => rfl)) ?_
        refine HL_nil ?_
        refine HC_condF rfl ?_
        refine HC_exit ?_
        show b4J1 kept_2 v_24 v_26 v_28 b11 R _ _
        exact ⟨h2, h8, h9, h10, h11, h⟩

/- 5 koine.koinelaw34.DiskMatchesReference -/
def b5j2 (v_20 : Bool) (R : Value → PH → Prop) (F : PH) : Prop :=
  R (Value.bool v_20) F
abbrev b5J2 (v_20 : Bool) (R : Value → PH → Prop) (E : En) (F : PH) : Prop := E 5 = (Value.bool v_20) ∧ b5j2 v_20 R F
def b5j3 (N1 : Option Addr → Int → PH → Prop) (sectors_0 : Int) (l_1 : Sl) (v_20 : Bool) (b8 : Nat) (i_10 : Int) (d_6_1 : Option Addr) (R : Value → PH → Prop) (F : PH) : Prop :=
  N1 d_6_1 (IntKind.i64.wrap (i_10 + (1 : Int))) F
abbrev b5J3 (N1 : Option Addr → Int → PH → Prop) (sectors_0 : Int) (l_1 : Sl) (v_20 : Bool) (b8 : Nat) (i_10 : Int) (R : Value → PH → Prop) (E : En) (F : PH) : Prop := ∃ d_6_1 : Option Addr, E 0 = (Value.int .i64 sectors_0) ∧ E 1 = (Sl.v l_1) ∧ E 5 = (Value.bool v_20) ∧ E 6 = (Value.pointer d_6_1) ∧ E 8 = (Value.pointer (some (Addr.mk b8 0 none))) ∧ E 10 = (Value.int .i64 i_10) ∧ b5j3 N1 sectors_0 l_1 v_20 b8 i_10 d_6_1 R F
def b5L2 (N1 : Option Addr → Int → PH → Prop) (N2 : Int → PH → Prop) (sectors_0 : Int) (l_1 : Sl) (v_20 : Bool) (v_64 : Option Addr) (b8 : Nat) (i_10 : Int) (R : Value → PH → Prop) (at_15 : Int) (F : PH) : Prop :=
  ((at_15 ≤ sectors_0 →
    Spec prog 16 #[(Value.pointer v_64), (Value.int .i64 at_15)] F fun v F => ∃ v_103 : Sl, ∃ v_103_1 : Int, v = (Value.tuple #[(Sl.v v_103), (Value.int .i64 v_103_1)]) ∧
    ∃ v_107 : Array Value, v_107.size = 5 ∧ F.row (Addr.mk b8 0 none) v_107 ∧
    Spec prog 26 #[(Value.agg v_107), (Value.int .i64 at_15)] F fun v F => ∃ v_109 : Sl, ∃ v_109_1 : Int, v = (Value.tuple #[(Sl.v v_109), (Value.int .i64 v_109_1)]) ∧
    ((v_103_1 ≠ v_109_1 →
      R (Value.bool false) F) ∧
    (¬ (v_103_1 ≠ v_109_1) →
      Spec prog 18 #[(Sl.v v_103), (Sl.v v_109)] F fun v F => ∃ v_118 : Bool, v = (Value.bool v_118) ∧
      (((!v_118) = true →
        R (Value.bool false) F) ∧
      ((!v_118) = false →
        N2 (IntKind.i64.wrap (at_15 + (1 : Int))) F))))) ∧
  (¬ (at_15 ≤ sectors_0) →
    b5j3 N1 sectors_0 l_1 v_20 b8 i_10 v_64 R F))
def b5j4 (N1 : Option Addr → Int → PH → Prop) (sectors_0 : Int) (l_1 : Sl) (v_20 : Bool) (b8 : Nat) (i_10 : Int) (v_64 : Option Addr) (v_64_1 : Int) (state_13 : Option Addr) (k_14 : Int) (R : Value → PH → Prop) (F : PH) : Prop :=
  ∃ state13a_ : Addr, state_13 = some state13a_ ∧ ∃ v_77 : Array Value, v_77.size = 5 ∧ F.row state13a_ v_77 ∧
  v_77.size = 5 ∧ (∀ v ∈ v_77.toList, storable v) ∧ ∃ c e, F (Addr.mk b8 0 none).block = some (.cells c e (0, 0)) ∧ (Addr.mk b8 0 none).spot = none ∧ (Addr.mk b8 0 none).off + 5 ≤ c.size ∧
  atF (F.set (Addr.mk b8 0 none).block (.cells (wr c (Addr.mk b8 0 none).off v_77.toList) e)) fun F =>
  ((v_64_1 ≠ k_14 →
    R (Value.bool false) F) ∧
  (¬ (v_64_1 ≠ k_14) →
    ∃ v_85 : Sl, F.cell (Addr.mk b8 1 none) = some (Sl.v v_85) ∧
    Spec prog 13 #[(Value.pointer v_64)] F fun v F => ∃ v_83 : Int, v = (Value.int .i64 v_83) ∧
    F.cell (Addr.mk b8 1 none) = some (Sl.v v_85) ∧ ((v_83 ≠ (v_85.len : Int) →
      R (Value.bool false) F) ∧
    (¬ (v_83 ≠ (v_85.len : Int)) →
      Spec prog 25 #[(Value.pointer v_64)] F fun v F => ∃ v_91 : Int, v = (Value.int .i64 v_91) ∧
      F.cell (Addr.mk b8 1 none) = some (Sl.v v_85) ∧ ((v_91 ≠ sectors_0 →
        R (Value.bool false) F) ∧
      (¬ (v_91 ≠ sectors_0) →
        (∃ (I2 : Nat → Int → PH → Prop) (m2 : Nat), I2 m2 (-1 : Int) F ∧ ∀ m2 at_15 F, I2 m2 at_15 F →
          b5L2 N1 (fun at_15 F => ∃ m', m' < m2 ∧ I2 m' at_15 F) sectors_0 l_1 v_20 v_64 b8 i_10 R at_15 F)))))))
abbrev b5J4 (N1 : Option Addr → Int → PH → Prop) (sectors_0 : Int) (l_1 : Sl) (v_20 : Bool) (b8 : Nat) (i_10 : Int) (v_64 : Option Addr) (v_64_1 : Int) (R : Value → PH → Prop) (E : En) (F : PH) : Prop := ∃ state_13 : Option Addr, ∃ k_14 : Int, E 0 = (Value.int .i64 sectors_0) ∧ E 1 = (Sl.v l_1) ∧ E 5 = (Value.bool v_20) ∧ E 8 = (Value.pointer (some (Addr.mk b8 0 none))) ∧ E 10 = (Value.int .i64 i_10) ∧ E 11 = (Value.pointer v_64) ∧ E 12 = (Value.int .i64 v_64_1) ∧ E 13 = (Value.pointer state_13) ∧ E 14 = (Value.int .i64 k_14) ∧ b5j4 N1 sectors_0 l_1 v_20 b8 i_10 v_64 v_64_1 state_13 k_14 R F
def b5L1 (N1 : Option Addr → Int → PH → Prop) (sectors_0 : Int) (l_1 : Sl) (v_20 : Bool) (b8 : Nat) (R : Value → PH → Prop) (d_6 : Option Addr) (i_10 : Int) (F : PH) : Prop :=
  ((i_10 < (l_1.len : Int) →
    ((i_10 < (40 : Int) →
      ∃ a62_ : Addr, l_1.base = some a62_ ∧ 0 ≤ i_10 ∧ i_10 < (l_1.len : Int) ∧
      ∃ v_63 : Array Value, v_63.size = 5 ∧ F.row (Addr.add a62_ (Int.toNat i_10 * 5)) v_63 ∧
      Spec prog 23 #[(Value.pointer d_6), (Value.agg v_63)] F fun v F => ∃ v_64 : Option Addr, ∃ v_64_1 : Int, v = (Value.tuple #[(Value.pointer v_64), (Value.int .i64 v_64_1)]) ∧
      ∃ v_68 : Array Value, v_68.size = 5 ∧ F.row (Addr.mk b8 0 none) v_68 ∧
      ∃ a71_ : Addr, l_1.base = some a71_ ∧ 0 ≤ i_10 ∧ i_10 < (l_1.len : Int) ∧
      ∃ v_72 : Array Value, v_72.size = 5 ∧ F.row (Addr.add a71_ (Int.toNat i_10 * 5)) v_72 ∧
      ((Spec prog 24 #[(Value.agg v_68), (Value.agg v_72)] F fun v F => ∃ v_73 : Array Value, ∃ v_73_1 : Int, v = (Value.tuple #[(Value.agg v_73), (Value.int .i64 v_73_1)]) ∧
      ∀ b13, F b13 = none → atF (F.set b13 (.cells (#[Value.slice none 0 0, Value.slice none 0 0, Value.bool false, Value.int .i64 0, Value.slice none 0 0]) 48)) fun F =>
      v_73.size = 5 ∧ (∀ v ∈ v_73.toList, storable v) ∧ ∃ c e, F (Addr.mk b13 0 none).block = some (.cells c e (0, 0)) ∧ (Addr.mk b13 0 none).spot = none ∧ (Addr.mk b13 0 none).off + 5 ≤ c.size ∧
      atF (F.set (Addr.mk b13 0 none).block (.cells (wr c (Addr.mk b13 0 none).off v_73.toList) e)) fun F =>
      b5j4 N1 sectors_0 l_1 v_20 b8 i_10 v_64 v_64_1 (some (Addr.mk b13 0 none)) v_73_1 R F) ∧
      (∀ b13_1, F b13_1 = none → atF (F.set b13_1 (.cells (#[Value.slice none 0 0, Value.slice none 0 0, Value.bool false, Value.int .i64 0, Value.slice none 0 0]) 48)) fun F =>
      Spec prog 24 #[(Value.agg v_68), (Value.agg v_72)] F fun v F => ∃ v_73_2 : Array Value, ∃ v_73_3 : Int, v = (Value.tuple #[(Value.agg v_73_2), (Value.int .i64 v_73_3)]) ∧
      v_73_2.size = 5 ∧ (∀ v ∈ v_73_2.toList, storable v) ∧ ∃ c e, F (Addr.mk b13_1 0 none).block = some (.cells c e (0, 0)) ∧ (Addr.mk b13_1 0 none).spot = none ∧ (Addr.mk b13_1 0 none).off + 5 ≤ c.size ∧
      atF (F.set (Addr.mk b13_1 0 none).block (.cells (wr c (Addr.mk b13_1 0 none).off v_73_2.toList) e)) fun F =>
      b5j4 N1 sectors_0 l_1 v_20 b8 i_10 v_64 v_64_1 (some (Addr.mk b13_1 0 none)) v_73_3 R F))) ∧
    (¬ (i_10 < (40 : Int)) →
      b5j2 v_20 R F))) ∧
  (¬ (i_10 < (l_1.len : Int)) →
    b5j2 v_20 R F))
def b5j1 (sectors_0 : Int) (l_1 : Sl) (v_20 : Bool) (R : Value → PH → Prop) (F : PH) : Prop :=
  Spec prog 21 #[(Value.int .i64 sectors_0)] F fun v F => ∃ v_34 : Option Addr, ∃ v_34_1 : Int, v = (Value.tuple #[(Value.pointer v_34), (Value.int .i64 v_34_1)]) ∧
  Spec prog 22 #[(Value.int .i64 sectors_0)] F fun v F => ∃ v_39 : Array Value, ∃ v_39_1 : Int, v = (Value.tuple #[(Value.agg v_39), (Value.int .i64 v_39_1)]) ∧
  ∀ b8, F b8 = none → atF (F.set b8 (.cells (#[Value.slice none 0 0, Value.slice none 0 0, Value.bool false, Value.int .i64 0, Value.slice none 0 0]) 48)) fun F =>
  v_39.size = 5 ∧ (∀ v ∈ v_39.toList, storable v) ∧ ∃ c e, F (Addr.mk b8 0 none).block = some (.cells c e (0, 0)) ∧ (Addr.mk b8 0 none).spot = none ∧ (Addr.mk b8 0 none).off + 5 ≤ c.size ∧
  atF (F.set (Addr.mk b8 0 none).block (.cells (wr c (Addr.mk b8 0 none).off v_39.toList) e)) fun F =>
  ((v_34_1 ≠ v_39_1 →
    R (Value.bool false) F) ∧
  (¬ (v_34_1 ≠ v_39_1) →
    ((v_34_1 ≠ (0 : Int) →
      R (Value.bool v_20) F) ∧
    (¬ (v_34_1 ≠ (0 : Int)) →
      (∃ (I1 : Nat → Option Addr → Int → PH → Prop) (m1 : Nat), I1 m1 v_34 (0 : Int) F ∧ ∀ m1 d_6 i_10 F, I1 m1 d_6 i_10 F →
        b5L1 (fun d_6 i_10 F => ∃ m', m' < m1 ∧ I1 m' d_6 i_10 F) sectors_0 l_1 v_20 b8 R d_6 i_10 F)))))
abbrev b5J1 (sectors_0 : Int) (l_1 : Sl) (v_20 : Bool) (R : Value → PH → Prop) (E : En) (F : PH) : Prop := E 0 = (Value.int .i64 sectors_0) ∧ E 1 = (Sl.v l_1) ∧ E 5 = (Value.bool v_20) ∧ b5j1 sectors_0 l_1 v_20 R F
def b5 (sectors_0 : Int) (l_1 : Sl) (R : Value → PH → Prop) (F : PH) : Prop :=
  Spec prog 10 #[] F fun v F => ∃ v_20 : Bool, v = (Value.bool v_20) ∧
  (((!v_20) = true →
    R (Value.bool v_20) F) ∧
  ((!v_20) = false →
    (((6 : Int) < sectors_0 →
      ((sectors_0 ≤ (65536 : Int) →
        R (Value.bool v_20) F) ∧
      (¬ (sectors_0 ≤ (65536 : Int)) →
        b5j1 sectors_0 l_1 v_20 R F))) ∧
    (¬ ((6 : Int) < sectors_0) →
      b5j1 sectors_0 l_1 v_20 R F))))
theorem c5 {sectors_0 : Int} {l_1 : Sl} {R : Value → PH → Prop} {F : PH} (h : b5 sectors_0 l_1 R F) : Spec prog 5 #[(Value.int .i64 sectors_0), (Sl.v l_1)] F R := by
  refine spec_of (args := [(Value.int .i64 sectors_0), (Sl.v l_1)]) func5 rfl ntmps5 rfl ?_
  unfold b5 at h
  refine HC_seq ?_
  refine HC_region ?_
  refine s_rd (v := (Value.bool false)) (r_assign rfl rfl) ?_
  refine HL_nil ?_
  refine HC_seq ?_
  refine HC_region ?_
  refine s_ef (k_call (vs := []) cb10 evN (h.mono ?_))
  clear h; rintro v F ⟨v_20, rfl, h⟩
  refine s_rd (v := (Value.bool v_20)) (r_assign rfl rfl) ?_
  refine HL_nil ?_
  refine HC_seqJ (b5J1 sectors_0 l_1 v_20 R) ?_ ?_
  · clear h; rintro E F ⟨h0, h1, h5, h⟩
    unfold b5j1 at h
    refine HC_seq ?_
    refine HC_region ?_
    refine s_rd (v := (Value.int .i64 sectors_0)) (r_move rfl h0) ?_
    refine s_ef (k_call (vs := [(Value.int .i64 sectors_0)]) cb21 (evC rfl evN) (h.mono ?_))
    clear h; rintro v F ⟨v_34, v_34_1, rfl, h⟩
    refine s_rd (v := (Value.tuple #[(Value.pointer v_34), (Value.int .i64 v_34_1)])) (r_move rfl rfl) ?_
    refine s_rd (v := (Value.pointer v_34)) (r_extract rfl rfl rfl) ?_
    refine s_rd (v := (Value.int .i64 v_34_1)) (r_extract rfl rfl rfl) ?_
    refine s_rd (v := (Value.pointer v_34)) (r_assign rfl rfl) ?_
    refine s_rd (v := (Value.int .i64 v_34_1)) (r_assign rfl rfl) ?_
    refine HL_nil ?_
    refine HC_seq ?_
    refine HC_region ?_
    refine s_rd (v := (Value.int .i64 sectors_0)) (r_move rfl h0) ?_
    refine s_ef (k_call (vs := [(Value.int .i64 sectors_0)]) cb22 (evC rfl evN) (h.mono ?_))
    clear h; rintro v F ⟨v_39, v_39_1, rfl, h⟩
    refine s_rd (v := (Value.tuple #[(Value.agg v_39), (Value.int .i64 v_39_1)])) (r_move rfl rfl) ?_
    refine s_rd (v := (Value.agg v_39)) (r_extract rfl rfl rfl) ?_
    refine s_rd (v := (Value.int .i64 v_39_1)) (r_extract rfl rfl rfl) ?_
    refine s_ef (k_alloc zr48 ?_)
    intro b8 hf_b8
    replace h := atE (h b8 hf_b8)
    refine s_ef0 (k_storeN (vs := v_39) rfl rfl sz48 (by decide) ?_)
    obtain ⟨hz1, hz2, c, e, hz3, hz4, hz5, h⟩ := h
    refine ⟨hz1, hz2, c, e, hz3, hz4, hz5, ?_⟩
    replace h := atE h
    refine s_rd (v := (Value.int .i64 v_39_1)) (r_assign rfl rfl) ?_
    refine HL_nil ?_
    refine HC_seq ?_
    refine HC_seq ?_
    refine HC_region ?_
    refine s_rd (v := (Value.int .i64 v_34_1)) (r_move rfl rfl) ?_
    refine s_rd (v := (Value.int .i64 v_39_1)) (r_move rfl rfl) ?_
    refine s_rd (v := (Value.bool (decide (v_34_1 ≠ v_39_1)))) (w_neq rfl rfl) ?_
    refine HL_nil ?_
    refine HC_cond (t := (decide (v_34_1 ≠ v_39_1))) rfl (fun hc => ?_) (fun hc => ?_)
    · replace h := h.1 (of_decide_eq_true hc)
      clear hc
      refine HC_seq ?_
      refine HC_region ?_
      refine s_rd (v := (Value.bool false)) (r_assign rfl rfl) ?_
      refine HL_nil ?_
      exact HC_ret (show endQ prog f5 R .ret _ _ from ⟨_, res1 rfl (rv_tmp rfl), h⟩)
    · replace h := h.2 (of_decide_eq_false hc)
      clear hc
      refine HC_skip ?_
      refine HC_seq ?_
      refine HC_seq ?_
      refine HC_region ?_
      refine s_rd (v := (Value.int .i64 v_34_1)) (r_move rfl rfl) ?_
      refine s_rd (v := (Value.bool (decide (v_34_1 ≠ (0 : Int))))) (w_neq rfl rfl) ?_
      refine HL_nil ?_
      refine HC_cond (t := (decide (v_34_1 ≠ (0 : Int)))) rfl (fun hc => ?_) (fun hc => ?_)
      · replace h := h.1 (of_decide_eq_true hc)
        clear hc
        refine HC_seq ?_
        refine HC_region ?_
        refine s_rd (v := (Value.bool v_20)) (r_move rfl h5) ?_
        refine s_rd (v := (Value.bool v_20)) (r_assign rfl rfl) ?_
        refine HL_nil ?_
        exact HC_ret (show endQ prog f5 R .ret _ _ from ⟨_, res1 rfl (rv_tmp rfl), h⟩)
      · replace h := h.2 (of_decide_eq_false hc)
        clear hc
        refine HC_skip ?_
        refine HC_seqJ (b5J2 v_20 R) ?_ ?_
        · clear h; rintro E F ⟨h5, h⟩
          unfold b5j2 at h
          refine HC_seq ?_
          refine HC_region ?_
          refine s_rd (v := (Value.bool v_20)) (r_move rfl h5) ?_
          refine s_rd (v := (Value.bool v_20)) (r_assign rfl rfl) ?_
          refine HL_nil ?_
          exact HC_ret (show endQ prog f5 R .ret _ _ from ⟨_, res1 rfl (rv_tmp rfl), h⟩)
        · skip
          refine HC_seq ?_
          refine HC_region ?_
          refine s_rd (v := (Value.int .i64 (0 : Int))) (r_assign rfl rfl) ?_
          refine HL_nil ?_
          refine HC_block ?_
          obtain ⟨I1, m1, hI0, hr⟩ := h
          refine HC_loop (fun m1 E F => ∃ d_6 : Option Addr, ∃ i_10 : Int, E 0 = (Value.int .i64 sectors_0) ∧ E 1 = (Sl.v l_1) ∧ E 5 = (Value.bool v_20) ∧ E 6 = (Value.pointer d_6) ∧ E 8 = (Value.pointer (some (Addr.mk b8 0 none))) ∧ E 10 = (Value.int .i64 i_10) ∧ I1 m1 d_6 i_10 F) m1 ⟨_, _, h0, h1, h5, rfl, rfl, rfl, hI0⟩ ?_
          clear hI0; rintro m1 E F ⟨d_6, i_10, h0, h1, h5, h6, h8, h10, hI⟩
          have h := hr m1 d_6 i_10 F hI
          clear hr hI
          unfold b5L1 at h
          refine HC_seq ?_
          refine HC_seq ?_
          refine HC_region ?_
          refine s_rd (v := (Value.int .i64 i_10)) (r_move rfl h10) ?_
          refine s_rd (v := (Sl.v l_1)) (r_move rfl h1) ?_
          refine s_rd (v := (Value.int .i64 (l_1.len : Int))) (r_lenSl rfl rfl underlying22) ?_
          refine s_rd (v := (Value.bool (decide (i_10 < (l_1.len : Int))))) (r_lss rfl rfl rfl) ?_
          refine s_rd (v := (Value.bool (decide (i_10 < (l_1.len : Int))))) (r_move rfl rfl) ?_
          by_cases hc : i_10 < (l_1.len : Int)
          · replace h := h.1 hc
            refine HL_known (t := 51) (v := .bool true) (congrArg Value.bool (decide_eq_true hc)) ?_
            refine HL_known (t := 52) (v := .bool true) (congrArg Value.bool (decide_eq_true hc)) ?_
            refine s_rd (v := (Value.int .i64 i_10)) (r_move rfl h10) ?_
            refine s_rd (v := (Value.bool (decide (i_10 < (40 : Int))))) (r_lss rfl rfl rfl) ?_
            refine s_rd (v := (Value.bool (decide (i_10 < (40 : Int))))) (r_pick rfl rfl (fun _ => rfl) (fun h => by cases h)) ?_
            refine HL_nil ?_
            refine HC_cond (t := (decide (i_10 < (40 : Int)))) rfl (fun hc => ?_) (fun hc => ?_)
            · replace h := h.1 (of_decide_eq_true hc)
              clear hc
              refine HC_skip ?_
              refine HC_seqJ (b5J3 (fun d_6 i_10 F => ∃ m', m' < m1 ∧ I1 m' d_6 i_10 F) sectors_0 l_1 v_20 b8 i_10 R) ?_ ?_
              · clear h; rintro E F ⟨d_6_1, h0, h1, h5, h6, h8, h10, h⟩
                unfold b5j3 at h
                refine HC_region ?_
                refine s_rd (v := (Value.int .i64 i_10)) (r_move rfl h10) ?_
                refine s_rd (v := (Value.int .i64 (IntKind.i64.wrap (i_10 + (1 : Int))))) (r_add rfl rfl rfl) ?_
                refine s_rd (v := (Value.int .i64 (IntKind.i64.wrap (i_10 + (1 : Int))))) (r_assign rfl rfl) ?_
                refine HL_nil ?_
                obtain ⟨m', hm, h⟩ := h
                exact ⟨m', hm, _, _, h0, h1, h5, h6, h8, rfl, h⟩
              · skip
                refine HC_block ?_
                refine HC_seq ?_
                refine HC_region ?_
                refine s_rd (v := (Value.pointer d_6)) (r_move rfl h6) ?_
                refine s_rd (v := (Sl.v l_1)) (r_move rfl h1) ?_
                refine s_rd (v := (Value.int .i64 i_10)) (r_move rfl h10) ?_
                obtain ⟨a62_, hb62, hl62, hu62, h⟩ := h
                refine s_rd (v := (Value.pointer (some (Addr.add a62_ (Int.toNat i_10 * 5))))) (w_indexAddr rfl rfl underlying22 sz40 hb62 hl62 hu62) ?_
                obtain ⟨v_63, hs63, hc63, h⟩ := h
                refine s_rd (v := (Value.agg v_63)) (w_loadN rfl underlying40 rfl sz40 hs63 hc63) ?_
                refine s_ef (k_call (vs := [(Value.pointer d_6), (Value.agg v_63)]) cb23 (evC rfl (evC rfl evN)) (h.mono ?_))
                clear h; rintro v F ⟨v_64, v_64_1, rfl, h⟩
                refine s_rd (v := (Value.tuple #[(Value.pointer v_64), (Value.int .i64 v_64_1)])) (r_move rfl rfl) ?_
                refine s_rd (v := (Value.pointer v_64)) (r_extract rfl rfl rfl) ?_
                refine s_rd (v := (Value.int .i64 v_64_1)) (r_extract rfl rfl rfl) ?_
                refine s_rd (v := (Value.pointer v_64)) (r_assign rfl rfl) ?_
                refine s_rd (v := (Value.int .i64 v_64_1)) (r_assign rfl rfl) ?_
                refine HL_nil ?_
                refine HC_seqJ (b5J4 (fun d_6 i_10 F => ∃ m', m' < m1 ∧ I1 m' d_6 i_10 F) sectors_0 l_1 v_20 b8 i_10 v_64 v_64_1 R) ?_ ?_
                · clear h; rintro E F ⟨state_13, k_14, h0, h1, h5, h8, h10, h11, h12, h13, h14, h⟩
                  unfold b5j4 at h
                  refine HC_seq ?_
                  refine HC_region ?_
                  refine s_rd (v := (Value.pointer v_64)) (r_move rfl h11) ?_
                  refine s_rd (v := (Value.pointer v_64)) (r_assign rfl rfl) ?_
                  refine HL_nil ?_
                  refine HC_seq ?_
                  refine HC_region ?_
                  obtain ⟨state13a_, rfl, h⟩ := h
                  obtain ⟨v_77, hs77, hc77, h⟩ := h
                  refine s_rd (v := (Value.agg v_77)) (w_loadN h13 underlying48 rfl sz48 hs77 hc77) ?_
                  refine s_ef0 (k_storeN (vs := v_77) h8 rfl sz48 (by decide) ?_)
                  obtain ⟨hz1, hz2, c, e, hz3, hz4, hz5, h⟩ := h
                  refine ⟨hz1, hz2, c, e, hz3, hz4, hz5, ?_⟩
                  replace h := atE h
                  refine HL_nil ?_
                  refine HC_seq ?_
                  refine HC_seq ?_
                  refine HC_draw0 (by kernel_rfl) (fun hp => ?_)
                  refine g_pu (i := 0) (v := (Value.int .i64 v_64_1)) rfl (by kernel_rfl) (by kernel_rfl) (by kernel_rfl) (fun _ _ _ h => h) (fun _ => r_move rfl h12) hp ?_
                  refine g_pu (i := 1) (v := (Value.int .i64 k_14)) rfl (by kernel_rfl) (by kernel_rfl) (by kernel_rfl) (fun _ _ _ h => h) (fun _ => r_move rfl h14) hp ?_
                  refine g_pu (i := 2) (v := (Value.bool (decide (v_64_1 ≠ k_14)))) rfl (by kernel_rfl) (by kernel_rfl) (by kernel_rfl) (fun _ _ _ h => h) (fun _ => w_neq rfl rfl) hp ?_
                  refine g_pu (i := 3) (v := (Value.bool (decide (v_64_1 ≠ k_14)))) rfl (by kernel_rfl) (by kernel_rfl) (by kernel_rfl) (fun _ _ _ h => h) (fun _ => r_move rfl rfl) hp ?_
                  by_cases hc : v_64_1 ≠ k_14
                  · replace h := h.1 hc
                    refine RG_known (t := 80) (v := .bool true) (congrArg Value.bool (decide_eq_true hc)) ?_
                    refine RG_known (t := 81) (v := .bool true) (congrArg Value.bool (decide_eq_true hc)) ?_
                    refine g_skip (i := 4) rfl (by kernel_rfl) (by kernel_rfl) (by kernel_rfl) (fun _ _ _ h => h) hp ?_
                    refine g_skip (i := 5) rfl (by kernel_rfl) (by kernel_rfl) (by kernel_rfl) (fun _ _ _ h => h) hp ?_
                    refine g_skip (i := 6) rfl (by kernel_rfl) (by kernel_rfl) (by kernel_rfl) (fun _ _ _ h => h) hp ?_
                    refine g_skip (i := 7) rfl (by kernel_rfl) (by kernel_rfl) (by kernel_rfl) (fun _ _ _ h => h) hp ?_
                    refine g_skip (i := 8) rfl (by kernel_rfl) (by kernel_rfl) (by kernel_rfl) (fun _ _ _ h => h) hp ?_
                    refine g_skip (i := 9) rfl (by kernel_rfl) (by kernel_rfl) (by kernel_rfl) (fun _ _ _ h => h) hp ?_
                    refine g_pu (i := 10) (v := (Value.bool true)) rfl (by kernel_rfl) (by kernel_rfl) (by kernel_rfl) (fun _ _ _ h => h) (fun _ => r_pick rfl rfl (fun _ => rfl) (fun h => by cases h)) hp ?_
                    refine g_pu (i := 11) (v := (Value.bool true)) rfl (by kernel_rfl) (by kernel_rfl) (by kernel_rfl) (fun _ _ _ h => h) (fun _ => r_move rfl rfl) hp ?_
                    refine g_skip (i := 12) rfl (by kernel_rfl) (by kernel_rfl) (by kernel_rfl) (fun _ _ _ h => h) hp ?_
                    refine g_skip (i := 13) rfl (by kernel_rfl) (by kernel_rfl) (by kernel_rfl) (fun _ _ _ h => h) hp ?_
                    refine g_skip (i := 14) rfl (by kernel_rfl) (by kernel_rfl) (by kernel_rfl) (fun _ _ _ h => h) hp ?_
                    refine g_skip (i := 15) rfl (by kernel_rfl) (by kernel_rfl) (by kernel_rfl) (fun _ _ _ h => h) hp ?_
                    refine g_pu (i := 16) (v := (Value.bool true)) rfl (by kernel_rfl) (by kernel_rfl) (by kernel_rfl) (fun _ _ _ h => h) (fun _ => r_pick rfl rfl (fun _ => rfl) (fun h => by cases h)) hp ?_
                    refine RG_done (by kernel_rfl) ?_
                    refine HC_condT rfl ?_
                    refine HC_seq ?_
                    refine HC_region ?_
                    refine s_rd (v := (Value.bool false)) (r_assign rfl rfl) ?_
                    refine HL_nil ?_
                    exact HC_ret (show endQ prog f5 R .ret _ _ from ⟨_, res1 rfl (rv_tmp rfl), h⟩)
                  · replace h := h.2 hc
                    refine RG_known (t := 80) (v := .bool false) (congrArg Value.bool (decide_eq_false hc)) ?_
                    refine RG_known (t := 81) (v := .bool false) (congrArg Value.bool (decide_eq_false hc)) ?_
                    refine g_pu (i := 4) (v := (Value.pointer v_64)) rfl (by kernel_rfl) (by kernel_rfl) (by kernel_rfl) (fun _ _ _ h => h) (fun _ => r_move rfl rfl) hp ?_
                    refine g_pu (i := 6) (v := (Value.pointer (some (Addr.mk b8 1 none)))) rfl (by kernel_rfl) (by kernel_rfl) (by kernel_rfl) (fun _ _ _ h => h) (fun _ => w_fieldAddr (a' := (Addr.mk b8 1 none)) h8 underlying48 rfl rfl sz46 rfl rfl) hp ?_
                    obtain ⟨v_85, hc85, h⟩ := h
                    refine g_rd (i := 7) (v := (Sl.v v_85)) rfl (by kernel_rfl) (by kernel_rfl) (by kernel_rfl) (fun _ _ _ h => h) (r_load1 rfl rfl underlying46 rfl hc85) hp (fun S7 q7 => ?_)
                    replace hp := holdC (i := 7) (q7 _ (r_load1 rfl rfl underlying46 rfl hc85)) hp
                    refine g_pu (i := 8) (v := (Value.int .i64 (v_85.len : Int))) rfl (by kernel_rfl) (by kernel_rfl) (by kernel_rfl) (fun _ _ _ h => h) (fun _ => r_lenSl rfl rfl underlying46) hp ?_
                    refine RG_eff1 (i := 5) (by kernel_rfl) (g_op (Sp' := [(7, S7)]) rfl rfl (k_call (vs := [(Value.pointer v_64)]) cb13 (evC rfl evN) (h.mono ?_)))
                    clear h; rintro v F ⟨v_83, rfl, h⟩
                    obtain ⟨hc85', h⟩ := h
                    refine holdI (holdC (i := 7) (q7 _ (r_load1 rfl rfl underlying46 rfl hc85')) hold0) (fun hp => ?_)
                    refine g_pu (i := 9) (v := (Value.bool (decide (v_83 ≠ (v_85.len : Int))))) rfl (by kernel_rfl) (by kernel_rfl) (by kernel_rfl) (fun _ _ _ h => h) (fun _ => w_neq rfl rfl) hp ?_
                    refine g_pu (i := 10) (v := (Value.bool (decide (v_83 ≠ (v_85.len : Int))))) rfl (by kernel_rfl) (by kernel_rfl) (by kernel_rfl) (fun _ _ _ h => h) (fun _ => r_pick rfl rfl (fun h => by cases h) (fun _ => rfl)) hp ?_
                    refine g_pu (i := 11) (v := (Value.bool (decide (v_83 ≠ (v_85.len : Int))))) rfl (by kernel_rfl) (by kernel_rfl) (by kernel_rfl) (fun _ _ _ h => h) (fun _ => r_move rfl rfl) hp ?_
                    by_cases hc : v_83 ≠ (v_85.len : Int)
                    · replace h := h.1 hc
                      refine RG_known (t := 87) (v := .bool true) (congrArg Value.bool (decide_eq_true hc)) ?_
                      refine RG_known (t := 88) (v := .bool true) (congrArg Value.bool (decide_eq_true hc)) ?_
                      refine RG_known (t := 89) (v := .bool true) (congrArg Value.bool (decide_eq_true hc)) ?_
                      refine g_skip (i := 12) rfl (by kernel_rfl) (by kernel_rfl) (by kernel_rfl) (fun _ _ _ h => h) hp ?_
                      refine g_skip (i := 13) rfl (by kernel_rfl) (by kernel_rfl) (by kernel_rfl) (fun _ _ _ h => h) hp ?_
                      refine g_skip (i := 14) rfl (by kernel_rfl) (by kernel_rfl) (by kernel_rfl) (fun _ _ _ h => h) hp ?_
                      refine g_skip (i := 15) rfl (by kernel_rfl) (by kernel_rfl) (by kernel_rfl) (fun _ _ _ h => h) hp ?_
                      refine g_pu (i := 16) (v := (Value.bool true)) rfl (by kernel_rfl) (by kernel_rfl) (by kernel_rfl) (fun _ _ _ h => h) (fun _ => r_pick rfl rfl (fun _ => rfl) (fun h => by cases h)) hp ?_
                      refine RG_done (by kernel_rfl) ?_
                      refine HC_condT rfl ?_
                      refine HC_seq ?_
                      refine HC_region ?_
                      refine s_rd (v := (Value.bool false)) (r_assign rfl rfl) ?_
                      refine HL_nil ?_
                      exact HC_ret (show endQ prog f5 R .ret _ _ from ⟨_, res1 rfl (rv_tmp rfl), h⟩)
                    · replace h := h.2 hc
                      refine RG_known (t := 87) (v := .bool false) (congrArg Value.bool (decide_eq_false hc)) ?_
                      refine RG_known (t := 88) (v := .bool false) (congrArg Value.bool (decide_eq_false hc)) ?_
                      refine RG_known (t := 89) (v := .bool false) (congrArg Value.bool (decide_eq_false hc)) ?_
                      refine g_pu (i := 12) (v := (Value.pointer v_64)) rfl (by kernel_rfl) (by kernel_rfl) (by kernel_rfl) (fun _ _ _ h => h) (fun _ => r_move rfl rfl) hp ?_
                      refine g_pu (i := 14) (v := (Value.int .i64 sectors_0)) rfl (by kernel_rfl) (by kernel_rfl) (by kernel_rfl) (fun _ _ _ h => h) (fun _ => r_move rfl h0) hp ?_
                      refine RG_eff1 (i := 13) (by kernel_rfl) (g_op (Sp' := [(7, S7)]) rfl rfl (k_call (vs := [(Value.pointer v_64)]) cb25 (evC rfl evN) (h.mono ?_)))
                      clear h; rintro v F ⟨v_91, rfl, h⟩
                      obtain ⟨hc85'', h⟩ := h
                      refine holdI (holdC (i := 7) (q7 _ (r_load1 rfl rfl underlying46 rfl hc85'')) hold0) (fun hp => ?_)
                      refine g_pu (i := 15) (v := (Value.bool (decide (v_91 ≠ sectors_0)))) rfl (by kernel_rfl) (by kernel_rfl) (by kernel_rfl) (fun _ _ _ h => h) (fun _ => w_neq rfl rfl) hp ?_
                      refine g_pu (i := 16) (v := (Value.bool (decide (v_91 ≠ sectors_0)))) rfl (by kernel_rfl) (by kernel_rfl) (by kernel_rfl) (fun _ _ _ h => h) (fun _ => r_pick rfl rfl (fun h => by cases h) (fun _ => rfl)) hp ?_
                      refine RG_done (by kernel_rfl) ?_
                      refine HC_cond (t := (decide (v_91 ≠ sectors_0))) rfl (fun hc => ?_) (fun hc => ?_)
                      · replace h := h.1 (of_decide_eq_true hc)
                        clear hc
                        refine HC_seq ?_
                        refine HC_region ?_
                        refine s_rd (v := (Value.bool false)) (r_assign rfl rfl) ?_
                        refine HL_nil ?_
                        exact HC_ret (show endQ prog f5 R .ret _ _ from ⟨_, res1 rfl (rv_tmp rfl), h⟩)
                      · replace h := h.2 (of_decide_eq_false hc)
                        clear hc
                        refine HC_skip ?_
                        refine HC_seq ?_
                        refine HC_region ?_
                        refine s_rd (v := (Value.int .i64 (-1 : Int))) (r_assign rfl rfl) ?_
                        refine HL_nil ?_
                        refine HC_block ?_
                        obtain ⟨I2, m2, hI0, hr⟩ := h
                        refine HC_loop (fun m2 E F => ∃ at_15 : Int, E 0 = (Value.int .i64 sectors_0) ∧ E 1 = (Sl.v l_1) ∧ E 5 = (Value.bool v_20) ∧ E 6 = (Value.pointer v_64) ∧ E 8 = (Value.pointer (some (Addr.mk b8 0 none))) ∧ E 10 = (Value.int .i64 i_10) ∧ E 15 = (Value.int .i64 at_15) ∧ I2 m2 at_15 F) m2 ⟨_, h0, h1, h5, rfl, h8, h10, rfl, hI0⟩ ?_
                        clear hI0; rintro m2 E F ⟨at_15, h0, h1, h5, h6, h8, h10, h15, hI⟩
                        have h := hr m2 at_15 F hI
                        clear hr hI
                        unfold b5L2 at h
                        refine HC_seq ?_
                        refine HC_seq ?_
                        refine HC_region ?_
                        refine s_rd (v := (Value.int .i64 at_15)) (r_move rfl h15) ?_
                        refine s_rd (v := (Value.int .i64 sectors_0)) (r_move rfl h0) ?_
                        refine s_rd (v := (Value.bool (decide (at_15 ≤ sectors_0)))) (r_leq rfl rfl rfl) ?_
                        refine HL_nil ?_
                        refine HC_cond (t := (decide (at_15 ≤ sectors_0))) rfl (fun hc => ?_) (fun hc => ?_)
                        · replace h := h.1 (of_decide_eq_true hc)
                          clear hc
                          refine HC_skip ?_
                          refine HC_seq ?_
                          refine HC_block ?_
                          refine HC_seq ?_
                          refine HC_region ?_
                          refine s_rd (v := (Value.pointer v_64)) (r_move rfl h6) ?_
                          refine s_rd (v := (Value.int .i64 at_15)) (r_move rfl h15) ?_
                          refine s_ef (k_call (vs := [(Value.pointer v_64), (Value.int .i64 at_15)]) cb16 (evC rfl (evC rfl evN)) (h.mono ?_))
                          clear h; rintro v F ⟨v_103, v_103_1, rfl, h⟩
                          refine s_rd (v := (Value.tuple #[(Sl.v v_103), (Value.int .i64 v_103_1)])) (r_move rfl rfl) ?_
                          refine s_rd (v := (Sl.v v_103)) (r_extract rfl rfl rfl) ?_
                          refine s_rd (v := (Value.int .i64 v_103_1)) (r_extract rfl rfl rfl) ?_
                          refine s_rd (v := (Sl.v v_103)) (r_assign rfl rfl) ?_
                          refine s_rd (v := (Value.int .i64 v_103_1)) (r_assign rfl rfl) ?_
                          refine HL_nil ?_
                          refine HC_seq ?_
                          refine HC_region ?_
                          obtain ⟨v_107, hs107, hc107, h⟩ := h
                          refine s_rd (v := (Value.agg v_107)) (w_loadN h8 underlying48 rfl sz48 hs107 hc107) ?_
                          refine s_rd (v := (Value.int .i64 at_15)) (r_move rfl h15) ?_
                          refine s_ef (k_call (vs := [(Value.agg v_107), (Value.int .i64 at_15)]) cb26 (evC rfl (evC rfl evN)) (h.mono ?_))
                          clear h; rintro v F ⟨v_109, v_109_1, rfl, h⟩
                          refine s_rd (v := (Value.tuple #[(Sl.v v_109), (Value.int .i64 v_109_1)])) (r_move rfl rfl) ?_
                          refine s_rd (v := (Sl.v v_109)) (r_extract rfl rfl rfl) ?_
                          refine s_rd (v := (Value.int .i64 v_109_1)) (r_extract rfl rfl rfl) ?_
                          refine s_rd (v := (Sl.v v_109)) (r_assign rfl rfl) ?_
                          refine s_rd (v := (Value.int .i64 v_109_1)) (r_assign rfl rfl) ?_
                          refine HL_nil ?_
                          refine HC_seq ?_
                          refine HC_region ?_
                          refine s_rd (v := (Value.int .i64 v_103_1)) (r_move rfl rfl) ?_
                          refine s_rd (v := (Value.int .i64 v_109_1)) (r_move rfl rfl) ?_
                          refine s_rd (v := (Value.bool (decide (v_103_1 ≠ v_109_1)))) (w_neq rfl rfl) ?_
                          refine s_rd (v := (Value.bool (decide (v_103_1 ≠ v_109_1)))) (r_move rfl rfl) ?_
                          by_cases hc : v_103_1 ≠ v_109_1
                          · replace h := h.1 hc
                            refine HL_known (t := 114) (v := .bool true) (congrArg Value.bool (decide_eq_true hc)) ?_
                            refine HL_known (t := 115) (v := .bool true) (congrArg Value.bool (decide_eq_true hc)) ?_
                            refine s_skip ?_
                            refine s_skip ?_
                            refine s_skip ?_
                            refine s_skip ?_
                            refine s_rd (v := (Value.bool true)) (r_pick rfl rfl (fun _ => rfl) (fun h => by cases h)) ?_
                            refine HL_nil ?_
                            refine HC_condT rfl ?_
                            refine HC_seq ?_
                            refine HC_region ?_
                            refine s_rd (v := (Value.bool false)) (r_assign rfl rfl) ?_
                            refine HL_nil ?_
                            exact HC_ret (show endQ prog f5 R .ret _ _ from ⟨_, res1 rfl (rv_tmp rfl), h⟩)
                          · replace h := h.2 hc
                            refine HL_known (t := 114) (v := .bool false) (congrArg Value.bool (decide_eq_false hc)) ?_
                            refine HL_known (t := 115) (v := .bool false) (congrArg Value.bool (decide_eq_false hc)) ?_
                            refine s_rd (v := (Sl.v v_103)) (r_move rfl rfl) ?_
                            refine s_rd (v := (Sl.v v_109)) (r_move rfl rfl) ?_
                            refine s_ef (k_call (vs := [(Sl.v v_103), (Sl.v v_109)]) cb18 (evC rfl (evC rfl evN)) (h.mono ?_))
                            clear h; rintro v F ⟨v_118, rfl, h⟩
                            refine s_rd (v := (Value.bool (!v_118))) (r_not rfl rfl) ?_
                            refine s_rd (v := (Value.bool (!v_118))) (r_pick rfl rfl (fun h => by cases h) (fun _ => rfl)) ?_
                            refine HL_nil ?_
                            refine HC_cond (t := (!v_118)) rfl (fun hc => ?_) (fun hc => ?_)
                            · replace h := h.1 hc
                              clear hc
                              refine HC_seq ?_
                              refine HC_region ?_
                              refine s_rd (v := (Value.bool false)) (r_assign rfl rfl) ?_
                              refine HL_nil ?_
                              exact HC_ret (show endQ prog f5 R .ret _ _ from ⟨_, res1 rfl (rv_tmp rfl), h⟩)
                            · replace h := h.2 hc
                              clear hc
                              refine HC_skip ?_
                              refine HC_region ?_
                              refine s_rd (v := (Value.int .i64 at_15)) (r_move rfl h15) ?_
                              refine s_rd (v := (Value.int .i64 (IntKind.i64.wrap (at_15 + (1 : Int))))) (r_add rfl rfl rfl) ?_
                              refine s_rd (v := (Value.int .i64 (IntKind.i64.wrap (at_15 + (1 : Int))))) (r_assign rfl rfl) ?_
                              refine HL_nil ?_
                              obtain ⟨m', hm, h⟩ := h
                              exact ⟨m', hm, _, h0, h1, h5, h6, h8, h10, rfl, h⟩
                        · replace h := h.2 (of_decide_eq_false hc)
                          clear hc
                          refine HC_exit ?_
                          show b5J3 (fun d_6 i_10 F => ∃ m', m' < m1 ∧ I1 m' d_6 i_10 F) sectors_0 l_1 v_20 b8 i_10 R _ _
                          exact ⟨_, h0, h1, h5, h6, h8, h10, h⟩
                · skip
                  refine HC_draw0 (by kernel_rfl) (fun hp => ?_)
                  obtain ⟨v_68, hs68, hc68, h⟩ := h
                  refine g_rd (i := 0) (v := (Value.agg v_68)) rfl (by kernel_rfl) (by kernel_rfl) (by kernel_rfl) (fun _ _ _ h => h) (w_loadN h8 underlying48 rfl sz48 hs68 hc68) hp (fun S0 q0 => ?_)
                  replace hp := holdC (i := 0) (q0 _ (w_loadN h8 underlying48 rfl sz48 hs68 hc68)) hp
                  refine g_pu (i := 1) (v := (Sl.v l_1)) rfl (by kernel_rfl) (by kernel_rfl) (by kernel_rfl) (fun _ _ _ h => h) (fun _ => r_move rfl h1) hp ?_
                  refine g_pu (i := 2) (v := (Value.int .i64 i_10)) rfl (by kernel_rfl) (by kernel_rfl) (by kernel_rfl) (fun _ _ _ h => h) (fun _ => r_move rfl h10) hp ?_
                  obtain ⟨a71_, hb71, hl71, hu71, h⟩ := h
                  refine g_pu (i := 3) (v := (Value.pointer (some (Addr.add a71_ (Int.toNat i_10 * 5))))) rfl (by kernel_rfl) (by kernel_rfl) (by kernel_rfl) (fun _ _ _ h => h) (fun _ => w_indexAddr rfl rfl underlying22 sz40 hb71 hl71 hu71) hp ?_
                  obtain ⟨v_72, hs72, hc72, h⟩ := h
                  refine g_rd (i := 4) (v := (Value.agg v_72)) rfl (by kernel_rfl) (by kernel_rfl) (by kernel_rfl) (fun _ _ _ h => h) (w_loadN rfl underlying40 rfl sz40 hs72 hc72) hp (fun S4 q4 => ?_)
                  replace hp := holdC (i := 4) (q4 _ (w_loadN rfl underlying40 rfl sz40 hs72 hc72)) hp
                  refine RG_eff (rs := [5, 9]) (by kernel_rfl) rfl ?_
                  obtain ⟨ha0, ha1⟩ := h
                  simp only [List.mem_cons, List.not_mem_nil, or_false, forall_eq_or_imp, forall_eq]
                  refine ⟨?_, ?_⟩
                  · have h := ha0; clear ha0 ha1
                    refine g_op (Sp' := []) rfl rfl (k_call (vs := [(Value.agg v_68), (Value.agg v_72)]) cb24 (evC rfl (evC rfl evN)) (h.mono ?_))
                    clear h; rintro v F ⟨v_73, v_73_1, rfl, h⟩
                    refine holdI hold0 (fun hp => ?_)
                    refine g_pu (i := 6) (v := (Value.tuple #[(Value.agg v_73), (Value.int .i64 v_73_1)])) rfl (by kernel_rfl) (by kernel_rfl) (by kernel_rfl) (fun _ _ _ h => h) (fun _ => r_move rfl rfl) hp ?_
                    refine g_pu (i := 7) (v := (Value.agg v_73)) rfl (by kernel_rfl) (by kernel_rfl) (by kernel_rfl) (fun _ _ _ h => h) (fun _ => r_extract rfl rfl rfl) hp ?_
                    refine g_pu (i := 8) (v := (Value.int .i64 v_73_1)) rfl (by kernel_rfl) (by kernel_rfl) (by kernel_rfl) (fun _ _ _ h => h) (fun _ => r_extract rfl rfl rfl) hp ?_
                    refine RG_eff1 (i := 9) (by kernel_rfl) (g_op (Sp' := []) rfl rfl (k_alloc zr48 ?_))
                    intro b13 hf_b13
                    replace h := atE (h b13 hf_b13)
                    refine holdI hold0 (fun hp => ?_)
                    refine RG_eff1 (i := 10) (by kernel_rfl) (g_op0 (Sp' := []) rfl rfl (k_storeN (vs := v_73) rfl rfl sz48 (by decide) ?_))
                    obtain ⟨hz1, hz2, c, e, hz3, hz4, hz5, h⟩ := h
                    refine ⟨hz1, hz2, c, e, hz3, hz4, hz5, ?_⟩
                    replace h := atE h
                    refine holdI hold0 (fun hp => ?_)
                    refine g_pu (i := 11) (v := (Value.int .i64 v_73_1)) rfl (by kernel_rfl) (by kernel_rfl) (by kernel_rfl) (fun _ _ _ h => h) (fun _ => r_assign rfl rfl) hp ?_
                    refine RG_done (by kernel_rfl) ?_
                    show b5J4 (fun d_6 i_10 F => ∃ m', m' < m1 ∧ I1 m' d_6 i_10 F) sectors_0 l_1 v_20 b8 i_10 v_64 v_64_1 R _ _
                    exact ⟨_, _, h0, h1, h5, h8, h10, rfl, rfl, rfl, rfl, h⟩
                  · have h := ha1; clear ha0 ha1
                    refine g_op (Sp' := [(4, S4), (0, S0)]) rfl rfl (k_alloc zr48 ?_)
                    intro b13_1 hf_b13_1
                    replace h := atE (h b13_1 hf_b13_1)
                    refine holdI (holdC (i := 4) (q4 _ (w_loadN rfl underlying40 rfl sz40 hs72 (row_set_fresh hf_b13_1 hc72))) (holdC (i := 0) (q0 _ (w_loadN h8 underlying48 rfl sz48 hs68 (row_set_fresh hf_b13_1 hc68))) hold0)) (fun hp => ?_)
                    refine RG_eff1 (i := 5) (by kernel_rfl) (g_op (Sp' := []) rfl rfl (k_call (vs := [(Value.agg v_68), (Value.agg v_72)]) cb24 (evC rfl (evC rfl evN)) (h.mono ?_)))
                    clear h; rintro v F ⟨v_73_2, v_73_3, rfl, h⟩
                    refine holdI hold0 (fun hp => ?_)
                    refine g_pu (i := 6) (v := (Value.tuple #[(Value.agg v_73_2), (Value.int .i64 v_73_3)])) rfl (by kernel_rfl) (by kernel_rfl) (by kernel_rfl) (fun _ _ _ h => h) (fun _ => r_move rfl rfl) hp ?_
                    refine g_pu (i := 7) (v := (Value.agg v_73_2)) rfl (by kernel_rfl) (by kernel_rfl) (by kernel_rfl) (fun _ _ _ h => h) (fun _ => r_extract rfl rfl rfl) hp ?_
                    refine g_pu (i := 8) (v := (Value.int .i64 v_73_3)) rfl (by kernel_rfl) (by kernel_rfl) (by kernel_rfl) (fun _ _ _ h => h) (fun _ => r_extract rfl rfl rfl) hp ?_
                    refine RG_eff1 (i := 10) (by kernel_rfl) (g_op0 (Sp' := []) rfl rfl (k_storeN (vs := v_73_2) rfl rfl sz48 (by decide) ?_))
                    obtain ⟨hz1, hz2, c, e, hz3, hz4, hz5, h⟩ := h
                    refine ⟨hz1, hz2, c, e, hz3, hz4, hz5, ?_⟩
                    replace h := atE h
                    refine holdI hold0 (fun hp => ?_)
                    refine g_pu (i := 11) (v := (Value.int .i64 v_73_3)) rfl (by kernel_rfl) (by kernel_rfl) (by kernel_rfl) (fun _ _ _ h => h) (fun _ => r_assign rfl rfl) hp ?_
                    refine RG_done (by kernel_rfl) ?_
                    show b5J4 (fun d_6 i_10 F => ∃ m', m' < m1 ∧ I1 m' d_6 i_10 F) sectors_0 l_1 v_20 b8 i_10 v_64 v_64_1 R _ _
                    exact ⟨_, _, h0, h1, h5, h8, h10, rfl, rfl, rfl, rfl, h⟩
            · replace h := h.2 (of_decide_eq_false hc)
              clear hc
              refine HC_exit ?_
              show b5J2 v_20 R _ _
              exact ⟨h5, h⟩
          · replace h := h.2 hc
            refine HL_known (t := 51) (v := .bool false) (congrArg Value.bool (decide_eq_false hc)) ?_
            refine HL_known (t := 52) (v := .bool false) (congrArg Value.bool (decide_eq_false hc)) ?_
            refine s_skip ?_
            refine s_skip ?_
            refine s_rd (v := (Value.bool false)) (r_pick rfl rfl (fun h => by cases h) (fun _ => rfl)) ?_
            refine HL_nil ?_
            refine HC_condF rfl ?_
            refine HC_exit ?_
            show b5J2 v_20 R _ _
            exact ⟨h5, h⟩
  · skip
    refine HC_seq ?_
    refine HC_region ?_
    refine s_rd (v := (Value.bool v_20)) (r_move rfl rfl) ?_
    refine s_rd (v := (Value.bool (!v_20))) (r_not rfl rfl) ?_
    refine s_rd (v := (Value.bool (!v_20))) (r_move rfl rfl) ?_
    by_cases hc : (!v_20) = true
    · replace h := h.1 hc
      refine HL_known (t := 22) (v := .bool true) (congrArg Value.bool hc) ?_
      refine HL_known (t := 23) (v := .bool true) (congrArg Value.bool hc) ?_
      refine s_skip ?_
      refine s_skip ?_
      refine s_skip ?_
      refine s_skip ?_
      refine s_skip ?_
      refine s_skip ?_
      refine s_rd (v := (Value.bool true)) (r_pick rfl rfl (fun _ => rfl) (fun h => by cases h)) ?_
      refine HL_nil ?_
      refine HC_condT rfl ?_
      refine HC_seq ?_
      refine HC_region ?_
      refine s_rd (v := (Value.bool v_20)) (r_move rfl rfl) ?_
      refine s_rd (v := (Value.bool v_20)) (r_assign rfl rfl) ?_
      refine HL_nil ?_
      exact HC_ret (show endQ prog f5 R .ret _ _ from ⟨_, res1 rfl (rv_tmp rfl), h⟩)
    · replace hc := eq_false_of_ne_true hc; replace h := h.2 hc
      refine HL_known (t := 22) (v := .bool false) (congrArg Value.bool hc) ?_
      refine HL_known (t := 23) (v := .bool false) (congrArg Value.bool hc) ?_
      refine s_rd (v := (Value.int .i64 sectors_0)) (r_move rfl rfl) ?_
      refine s_rd (v := (Value.bool (decide ((6 : Int) < sectors_0)))) (r_gtr rfl rfl rfl) ?_
      refine s_rd (v := (Value.bool (decide ((6 : Int) < sectors_0)))) (r_move rfl rfl) ?_
      by_cases hc : (6 : Int) < sectors_0
      · replace h := h.1 hc
        refine HL_known (t := 25) (v := .bool true) (congrArg Value.bool (decide_eq_true hc)) ?_
        refine HL_known (t := 26) (v := .bool true) (congrArg Value.bool (decide_eq_true hc)) ?_
        refine s_rd (v := (Value.int .i64 sectors_0)) (r_move rfl rfl) ?_
        refine s_rd (v := (Value.bool (decide (sectors_0 ≤ (65536 : Int))))) (r_leq rfl rfl rfl) ?_
        refine s_rd (v := (Value.bool (decide (sectors_0 ≤ (65536 : Int))))) (r_pick rfl rfl (fun _ => rfl) (fun h => by cases h)) ?_
        refine s_rd (v := (Value.bool (decide (sectors_0 ≤ (65536 : Int))))) (r_pick rfl rfl (fun h => by cases h) (fun _ => rfl)) ?_
        refine HL_nil ?_
        refine HC_cond (t := (decide (sectors_0 ≤ (65536 : Int)))) rfl (fun hc => ?_) (fun hc => ?_)
        · replace h := h.1 (of_decide_eq_true hc)
          clear hc
          refine HC_seq ?_
          refine HC_region ?_
          refine s_rd (v := (Value.bool v_20)) (r_move rfl rfl) ?_
          refine s_rd (v := (Value.bool v_20)) (r_assign rfl rfl) ?_
          refine HL_nil ?_
          exact HC_ret (show endQ prog f5 R .ret _ _ from ⟨_, res1 rfl (rv_tmp rfl), h⟩)
        · replace h := h.2 (of_decide_eq_false hc)
          clear hc
          refine HC_skip ?_
          show b5J1 sectors_0 l_1 v_20 R _ _
          exact ⟨rfl, rfl, rfl, h⟩
      · replace h := h.2 hc
        refine HL_known (t := 25) (v := .bool false) (congrArg Value.bool (decide_eq_false hc)) ?_
        refine HL_known (t := 26) (v := .bool false) (congrArg Value.bool (decide_eq_false hc)) ?_
        refine s_skip ?_
        refine s_skip ?_
        refine s_rd (v := (Value.bool false)) (r_pick rfl rfl (fun h => by cases h) (fun _ => rfl)) ?_
        refine s_rd (v := (Value.bool false)) (r_pick rfl rfl (fun h => by cases h) (fun _ => rfl)) ?_
        refine HL_nil ?_
        refine HC_condF rfl ?_
        refine HC_skip ?_
        show b5J1 sectors_0 l_1 v_20 R _ _
        exact ⟨rfl, rfl, rfl, h⟩

end Go.Proofs.Ythnolhcknhhipaa
