/-
  What functions of the program do, in a clean form, each with the proof that its code does so. Printed by a program.
-/
import Derived.Test.YtafojmoeaneedaaGf
import Derived.Test.YtafojmoeaneedaaPho
namespace Go.Proofs.Ytafojmoeaneedaa
open Go Go.Proofs.Try
set_option maxRecDepth 10000
set_option maxHeartbeats 4000000
/- 23 koine.diagram.Check -/
def b23j1 (b1 : Nat) (R : Value → PH → Prop) (F : PH) : Prop :=
 ∃ v_84 : Int, F.cell (Addr.mk b1 1 none) = some (.int .i64 v_84) ∧
 ((v_84 < (0 : Int) →
  R (.int .i64 (20 : Int)) F) ∧
 (¬ (v_84 < (0 : Int)) →
  ∃ v_88 : Int, F.cell (Addr.mk b1 1 none) = some (.int .i64 v_88) ∧
  ∃ v_90 : Sl, F.cell (Addr.mk b1 0 none) = some (Sl.v v_90) ∧
  (((IntKind.i64.wrap ((v_90.len : Int) + (1 : Int))) < v_88 →
   R (.int .i64 (20 : Int)) F) ∧
  (¬ ((IntKind.i64.wrap ((v_90.len : Int) + (1 : Int))) < v_88) →
   ∃ v_96 : Sl, F.cell (Addr.mk b1 0 none) = some (Sl.v v_96) ∧
   ∀ b98, F b98 = none → atF (F.set b98 (.cells (#[(Sl.v v_96), .map none] : Array Value) 84)) fun F =>
   ∃ v_100 : Int, F.cell (Addr.mk b1 1 none) = some (.int .i64 v_100) ∧
   Spec prog 64 #[(.pointer (some (Addr.mk b98 0 none))), (.int .i64 v_100)] F fun v F => ∃ v_101 : Array Value, v = (.agg v_101) ∧
   ∀ b6, F b6 = none → atF (F.set b6 (.cells (#[.slice none 0 0, .int .i64 0]) 28)) fun F =>
   v_101.size = 2 ∧ (∀ v ∈ v_101.toList, storable v) ∧ ∃ c e, F (Addr.mk b6 0 none).block = some (.cells c e (0, 0)) ∧ (Addr.mk b6 0 none).spot = none ∧ (Addr.mk b6 0 none).off + 2 ≤ c.size ∧
   atF (F.set (Addr.mk b6 0 none).block (.cells (wr c (Addr.mk b6 0 none).off v_101.toList) e)) fun F =>
   ∃ v_102 : Array Value, v_102.size = 2 ∧ F.row (Addr.mk b6 0 none) v_102 ∧
   ∃ v_103 : Array Value, v_103.size = 2 ∧ F.row (Addr.mk b1 0 none) v_103 ∧
   Spec prog 24 #[(.agg v_102), (.agg v_103)] F fun v F => ∃ v_104 : Bool, v = (.bool v_104) ∧
   (((!v_104) = true →
    R (.int .i64 (20 : Int)) F) ∧
   ((!v_104) = false →
    R (.int .i64 (0 : Int)) F))))))
abbrev b23J1 (b1 : Nat) (R : Value → PH → Prop) (E : En) (F : PH) : Prop := E 1 = (.pointer (some (Addr.mk b1 0 none))) ∧ b23j1 b1 R F
def b23L1 (N1 : Int → PH → Prop) (b1 : Nat) (b11 : Nat) (v_13 : Sl) (R : Value → PH → Prop) (v_15 : Int) (F : PH) : Prop :=
 ((v_15 < (v_13.len : Int) →
  ∃ a18_ : Addr, v_13.base = some a18_ ∧ 0 ≤ v_15 ∧ v_15 < (v_13.len : Int) ∧
  ∃ v_19 : Array Value, v_19.size = 3 ∧ F.row (Addr.add a18_ (Int.toNat v_15 * 3)) v_19 ∧
  ∀ b5, F b5 = none → atF (F.set b5 (.cells (#[.int .i64 0, .int .i64 0, .int .i64 0]) 72)) fun F =>
  v_19.size = 3 ∧ (∀ v ∈ v_19.toList, storable v) ∧ ∃ c e, F (Addr.mk b5 0 none).block = some (.cells c e (0, 0)) ∧ (Addr.mk b5 0 none).spot = none ∧ (Addr.mk b5 0 none).off + 3 ≤ c.size ∧
  atF (F.set (Addr.mk b5 0 none).block (.cells (wr c (Addr.mk b5 0 none).off v_19.toList) e)) fun F =>
  ∃ v_21 : Int, F.cell (Addr.mk b5 0 none) = some (.int .i64 v_21) ∧
  ((v_21 < (0 : Int) →
   R (.int .i64 (20 : Int)) F) ∧
  (¬ (v_21 < (0 : Int)) →
   ∃ v_25 : Int, F.cell (Addr.mk b5 0 none) = some (.int .i64 v_25) ∧
   (((63 : Int) < v_25 →
    R (.int .i64 (20 : Int)) F) ∧
   (¬ ((63 : Int) < v_25) →
    ∃ v_30 : Int, F.cell (Addr.mk b5 1 none) = some (.int .i64 v_30) ∧
    ((v_30 < (0 : Int) →
     R (.int .i64 (20 : Int)) F) ∧
    (¬ (v_30 < (0 : Int)) →
     ∃ v_35 : Int, F.cell (Addr.mk b5 2 none) = some (.int .i64 v_35) ∧
     ((v_35 < (0 : Int) →
      R (.int .i64 (20 : Int)) F) ∧
     (¬ (v_35 < (0 : Int)) →
      ∃ v_40 : Int, F.cell (Addr.mk b5 1 none) = some (.int .i64 v_40) ∧
      (((IntKind.i64.wrap (v_15 + (1 : Int))) < v_40 →
       R (.int .i64 (20 : Int)) F) ∧
      (¬ ((IntKind.i64.wrap (v_15 + (1 : Int))) < v_40) →
       ∃ v_47 : Int, F.cell (Addr.mk b5 2 none) = some (.int .i64 v_47) ∧
       (((IntKind.i64.wrap (v_15 + (1 : Int))) < v_47 →
        R (.int .i64 (20 : Int)) F) ∧
       (¬ ((IntKind.i64.wrap (v_15 + (1 : Int))) < v_47) →
        ∃ v_54 : Int, F.cell (Addr.mk b5 1 none) = some (.int .i64 v_54) ∧
        ∃ v_56 : Int, F.cell (Addr.mk b5 2 none) = some (.int .i64 v_56) ∧
        ((v_54 = v_56 →
         R (.int .i64 (20 : Int)) F) ∧
        (¬ (v_54 = v_56) →
         ∃ v_61 : Array Value, v_61.size = 3 ∧ F.row (Addr.mk b5 0 none) v_61 ∧
         ∃ v_62 : Bool, rdo prog (Instr.lookup 79 (.map (some b11)) (.agg v_61) false) F (.bool v_62) ∧
         ((v_62 = true →
          R (.int .i64 (20 : Int)) F) ∧
         (v_62 = false →
          ∃ v_64 : Array Value, v_64.size = 2 ∧ F.row (Addr.mk b1 0 none) v_64 ∧
          ∃ v_66 : Int, F.cell (Addr.mk b5 1 none) = some (.int .i64 v_66) ∧
          ∃ v_69 : Int, F.cell (Addr.mk b5 0 none) = some (.int .i64 v_69) ∧
          Spec prog 63 #[(.agg v_64), (.int .i64 v_66)] F fun v F => ∃ v_67 : Int, v = (.int .i64 v_67) ∧
          F.cell (Addr.mk b5 0 none) = some (.int .i64 v_69) ∧ ((v_67 ≤ v_69 →
           R (.int .i64 (20 : Int)) F) ∧
          (¬ (v_67 ≤ v_69) →
           ∃ v_72 : Array Value, v_72.size = 2 ∧ F.row (Addr.mk b1 0 none) v_72 ∧
           ∃ v_74 : Int, F.cell (Addr.mk b5 2 none) = some (.int .i64 v_74) ∧
           ∃ v_77 : Int, F.cell (Addr.mk b5 0 none) = some (.int .i64 v_77) ∧
           Spec prog 63 #[(.agg v_72), (.int .i64 v_74)] F fun v F => ∃ v_75 : Int, v = (.int .i64 v_75) ∧
           F.cell (Addr.mk b5 0 none) = some (.int .i64 v_77) ∧ F.cell (Addr.mk b5 0 none) = some (.int .i64 v_69) ∧ ((v_75 ≤ v_77 →
            R (.int .i64 (20 : Int)) F) ∧
           (¬ (v_75 ≤ v_77) →
            ∃ v_81 : Array Value, v_81.size = 3 ∧ F.row (Addr.mk b5 0 none) v_81 ∧
            runs prog (Instr.mapUpdate 79 (.map (some b11)) (.agg v_81) (.bool true)) F fun _ F =>
            N1 (IntKind.i64.wrap (v_15 + (1 : Int))) F))))))))))))))))))))) ∧
 (¬ (v_15 < (v_13.len : Int)) →
  b23j1 b1 R F))
def b23 (d_0 : Array Value) (R : Value → PH → Prop) (F : PH) : Prop :=
 ∀ b1, F b1 = none → atF (F.set b1 (.cells d_0 28)) fun F =>
 ∃ v_8 : Sl, F.cell (Addr.mk b1 0 none) = some (Sl.v v_8) ∧
 (((4096 : Int) < (v_8.len : Int) →
  R (.int .i64 (2 : Int)) F) ∧
 (¬ ((4096 : Int) < (v_8.len : Int)) →
  ∀ b11, F b11 = none → atF (F.set b11 (.map #[] 0)) fun F =>
  ∃ v_13 : Sl, F.cell (Addr.mk b1 0 none) = some (Sl.v v_13) ∧
  (∃ (I1 : Nat → Int → PH → Prop) (m1 : Nat), I1 m1 (0 : Int) F ∧ ∀ m1 v_15 F, I1 m1 v_15 F →
   b23L1 (fun v_15 F => ∃ m', m' < m1 ∧ I1 m' v_15 F) b1 b11 v_13 R v_15 F)))
theorem c23 {d_0 : Array Value} {R : Value → PH → Prop} {F : PH} (h : b23 d_0 R F) : Spec prog 23 #[(.agg d_0)] F R := by
 refine spec_of (args := [(.agg d_0)]) func23 rfl ntmps23 rfl ?_
 unfold b23 at h
 refine cR ?_
 refine s_ef (k_box (cs := d_0) rfl rfl ?_)
 intro b1 hf_b1
 replace h := atE (h b1 hf_b1)
 refine sR (.int .i64 (0 : Int)) (r_assign rfl rfl) ?_
 refine HL_nil ?_
 refine HC_seq ?_
 refine cR ?_
 refine sR (.pointer (some (Addr.mk b1 0 none))) (w_fieldAddr (a' := (Addr.mk b1 0 none)) rfl underlying28 rfl rfl sz26 rfl rfl) ?_
 obtain ⟨v_8, hc8, h⟩ := h
 refine sR (Sl.v v_8) (r_load1 rfl rfl underlying26 rfl hc8) ?_
 refine sR (.int .i64 (v_8.len : Int)) (r_lenSl rfl rfl underlying26) ?_
 refine sR (.bool (decide ((4096 : Int) < (v_8.len : Int)))) (r_gtr rfl rfl rfl) ?_
 refine HL_nil ?_
 refine HC_cond (t := (decide ((4096 : Int) < (v_8.len : Int)))) rfl (fun hc => ?_) (fun hc => ?_)
 ·
  replace h := h.1 (of_decide_eq_true hc)
  clear hc
  refine cR ?_
  refine sR (.int .i64 (2 : Int)) (r_assign rfl rfl) ?_
  refine HL_nil ?_
  exact HC_ret (show endQ prog f23 R .ret _ _ from ⟨_, res1 rfl (rv_tmp rfl), h⟩)
 ·
  replace h := h.2 (of_decide_eq_false hc)
  clear hc
  refine HC_skip ?_
  refine cR ?_
  refine s_ef (k_makeMap0 ?_)
  intro b11 hf_b11
  replace h := atE (h b11 hf_b11)
  refine sR (.map (some b11)) (r_assign rfl rfl) ?_
  refine HL_nil ?_
  refine HC_seqJ (b23J1 b1 R) ?_ ?_
  ·
   clear h; rintro E F ⟨h1, h⟩
   unfold b23j1 at h
   refine HC_seq ?_
   refine cR ?_
   refine sR (.pointer (some (Addr.mk b1 1 none))) (w_fieldAddr (a' := (Addr.mk b1 1 none)) h1 underlying28 rfl rfl sz3 rfl rfl) ?_
   obtain ⟨v_84, hc84, h⟩ := h
   refine sR (.int .i64 v_84) (r_load1 rfl rfl underlying3 rfl hc84) ?_
   refine sR (.bool (decide (v_84 < (0 : Int)))) (r_lss rfl rfl rfl) ?_
   refine sR (.bool (decide (v_84 < (0 : Int)))) (r_move rfl rfl) ?_
   by_cases hc : v_84 < (0 : Int)
   ·
    replace h := h.1 hc
    refine kN 85 (decide_eq_true hc) ?_
    refine kN 86 (decide_eq_true hc) ?_
    refine s_skip ?_
    refine s_skip ?_
    refine s_skip ?_
    refine s_skip ?_
    refine s_skip ?_
    refine s_skip ?_
    refine s_skip ?_
    refine sR (.bool true) (r_pick rfl rfl (fun _ => rfl) (fun h => by cases h)) ?_
    refine HL_nil ?_
    refine HC_condT rfl ?_
    refine cR ?_
    refine sR (.int .i64 (20 : Int)) (r_assign rfl rfl) ?_
    refine HL_nil ?_
    exact HC_ret (show endQ prog f23 R .ret _ _ from ⟨_, res1 rfl (rv_tmp rfl), h⟩)
   ·
    replace h := h.2 hc
    refine kN 85 (decide_eq_false hc) ?_
    refine kN 86 (decide_eq_false hc) ?_
    refine sR (.pointer (some (Addr.mk b1 1 none))) (w_fieldAddr (a' := (Addr.mk b1 1 none)) h1 underlying28 rfl rfl sz3 rfl rfl) ?_
    obtain ⟨v_88, hc88, h⟩ := h
    refine sR (.int .i64 v_88) (r_load1 rfl rfl underlying3 rfl hc88) ?_
    refine sR (.pointer (some (Addr.mk b1 0 none))) (w_fieldAddr (a' := (Addr.mk b1 0 none)) h1 underlying28 rfl rfl sz26 rfl rfl) ?_
    obtain ⟨v_90, hc90, h⟩ := h
    refine sR (Sl.v v_90) (r_load1 rfl rfl underlying26 rfl hc90) ?_
    refine sR (.int .i64 (v_90.len : Int)) (r_lenSl rfl rfl underlying26) ?_
    refine sR (.int .i64 (IntKind.i64.wrap ((v_90.len : Int) + (1 : Int)))) (r_add rfl rfl rfl) ?_
    refine sR (.bool (decide ((IntKind.i64.wrap ((v_90.len : Int) + (1 : Int))) < v_88))) (r_gtr rfl rfl rfl) ?_
    refine sR (.bool (decide ((IntKind.i64.wrap ((v_90.len : Int) + (1 : Int))) < v_88))) (r_pick rfl rfl (fun h => by cases h) (fun _ => rfl)) ?_
    refine HL_nil ?_
    refine HC_cond (t := (decide ((IntKind.i64.wrap ((v_90.len : Int) + (1 : Int))) < v_88))) rfl (fun hc => ?_) (fun hc => ?_)
    ·
     replace h := h.1 (of_decide_eq_true hc)
     clear hc
     refine cR ?_
     refine sR (.int .i64 (20 : Int)) (r_assign rfl rfl) ?_
     refine HL_nil ?_
     exact HC_ret (show endQ prog f23 R .ret _ _ from ⟨_, res1 rfl (rv_tmp rfl), h⟩)
    ·
     replace h := h.2 (of_decide_eq_false hc)
     clear hc
     refine HC_skip ?_
     refine cR ?_
     refine sR (.pointer (some (Addr.mk b1 0 none))) (w_fieldAddr (a' := (Addr.mk b1 0 none)) h1 underlying28 rfl rfl sz26 rfl rfl) ?_
     obtain ⟨v_96, hc96, h⟩ := h
     refine sR (Sl.v v_96) (r_load1 rfl rfl underlying26 rfl hc96) ?_
     refine sR (.agg (#[(Sl.v v_96), .map none] : Array Value)) (w_buildStruct (cells := #[(Sl.v v_96), .map none]) underlying84 zr84 kf84 (evPC rfl evPN) (fill1 (place_of rfl rfl sz26) rfl rfl (fillN rfl))) ?_
     refine s_ef (k_box (cs := (#[(Sl.v v_96), .map none] : Array Value)) rfl rfl ?_)
     intro b98 hf_b98
     replace h := atE (h b98 hf_b98)
     refine sR (.pointer (some (Addr.mk b1 1 none))) (w_fieldAddr (a' := (Addr.mk b1 1 none)) h1 underlying28 rfl rfl sz3 rfl rfl) ?_
     obtain ⟨v_100, hc100, h⟩ := h
     refine sR (.int .i64 v_100) (r_load1 rfl rfl underlying3 rfl hc100) ?_
     refine s_ef (k_call (vs := [(.pointer (some (Addr.mk b98 0 none))), (.int .i64 v_100)]) cb64 (evC rfl (evC rfl evN)) (h.mono ?_))
     clear h; rintro v F ⟨v_101, rfl, h⟩
     refine s_ef (k_alloc zr28 ?_)
     intro b6 hf_b6
     replace h := atE (h b6 hf_b6)
     refine s_ef0 (k_storeN (vs := v_101) rfl rfl sz28 (by decide) ?_)
     obtain ⟨hz1, hz2, c, e, hz3, hz4, hz5, h⟩ := h
     refine ⟨hz1, hz2, c, e, hz3, hz4, hz5, ?_⟩
     replace h := atE h
     refine HL_nil ?_
     refine HC_seq ?_
     refine cR ?_
     obtain ⟨v_102, hs102, hc102, h⟩ := h
     refine sR (.agg v_102) (w_loadN rfl underlying28 rfl sz28 hs102 hc102) ?_
     obtain ⟨v_103, hs103, hc103, h⟩ := h
     refine sR (.agg v_103) (w_loadN h1 underlying28 rfl sz28 hs103 hc103) ?_
     refine s_ef (k_call (vs := [(.agg v_102), (.agg v_103)]) cb24 (evC rfl (evC rfl evN)) (h.mono ?_))
     clear h; rintro v F ⟨v_104, rfl, h⟩
     refine sR (.bool (!v_104)) (r_not rfl rfl) ?_
     refine HL_nil ?_
     refine HC_cond (t := (!v_104)) rfl (fun hc => ?_) (fun hc => ?_)
     ·
      replace h := h.1 hc
      clear hc
      refine cR ?_
      refine sR (.int .i64 (20 : Int)) (r_assign rfl rfl) ?_
      refine HL_nil ?_
      exact HC_ret (show endQ prog f23 R .ret _ _ from ⟨_, res1 rfl (rv_tmp rfl), h⟩)
     ·
      replace h := h.2 hc
      clear hc
      refine HC_skip ?_
      refine cR ?_
      refine sR (.int .i64 (0 : Int)) (r_assign rfl rfl) ?_
      refine HL_nil ?_
      exact HC_ret (show endQ prog f23 R .ret _ _ from ⟨_, res1 rfl (rv_tmp rfl), h⟩)
  ·
   skip
   refine cR ?_
   refine sR (.pointer (some (Addr.mk b1 0 none))) (w_fieldAddr (a' := (Addr.mk b1 0 none)) rfl underlying28 rfl rfl sz26 rfl rfl) ?_
   obtain ⟨v_13, hc13, h⟩ := h
   refine sR (Sl.v v_13) (r_load1 rfl rfl underlying26 rfl hc13) ?_
   refine sR (.int .i64 (v_13.len : Int)) (r_lenSl rfl rfl underlying26) ?_
   refine sR (.int .i64 (0 : Int)) (r_move rfl rfl) ?_
   refine HL_nil ?_
   refine HC_block ?_
   obtain ⟨I1, m1, hI0, hr⟩ := h
   refine HC_loop (fun m1 E F => ∃ v_15 : Int, E 1 = (.pointer (some (Addr.mk b1 0 none))) ∧ E 3 = (.map (some b11)) ∧ E 13 = (Sl.v v_13) ∧ E 14 = (.int .i64 (v_13.len : Int)) ∧ E 15 = (.int .i64 v_15) ∧ I1 m1 v_15 F) m1 ⟨_, rfl, rfl, rfl, rfl, rfl, hI0⟩ ?_
   clear hI0; rintro m1 E F ⟨v_15, h1, h3, h13, h14, h15, hI⟩
   have h := hr m1 v_15 F hI
   clear hr hI
   unfold b23L1 at h
   refine cR ?_
   refine sR (.bool (decide (v_15 < (v_13.len : Int)))) (r_lss rfl h15 h14) ?_
   refine HL_nil ?_
   refine HC_seq ?_
   refine HC_cond (t := (decide (v_15 < (v_13.len : Int)))) rfl (fun hc => ?_) (fun hc => ?_)
   ·
    replace h := h.1 (of_decide_eq_true hc)
    clear hc
    refine HC_skip ?_
    refine HC_seq ?_
    refine HC_block ?_
    refine cR ?_
    refine sR (.int .i64 v_15) (r_move rfl h15) ?_
    obtain ⟨a18_, hb18, hl18, hu18, h⟩ := h
    refine sR (.pointer (some (Addr.add a18_ (Int.toNat v_15 * 3)))) (w_indexAddr h13 h15 underlying26 sz72 hb18 hl18 hu18) ?_
    obtain ⟨v_19, hs19, hc19, h⟩ := h
    refine sR (.agg v_19) (w_loadN rfl underlying72 rfl sz72 hs19 hc19) ?_
    refine s_ef (k_alloc zr72 ?_)
    intro b5 hf_b5
    replace h := atE (h b5 hf_b5)
    refine sR (.int .i64 v_15) (r_assign rfl rfl) ?_
    refine s_ef0 (k_storeN (vs := v_19) rfl rfl sz72 (by decide) ?_)
    obtain ⟨hz1, hz2, c, e, hz3, hz4, hz5, h⟩ := h
    refine ⟨hz1, hz2, c, e, hz3, hz4, hz5, ?_⟩
    replace h := atE h
    refine HL_nil ?_
    refine HC_seq ?_
    refine cR ?_
    refine sR (.pointer (some (Addr.mk b5 0 none))) (w_fieldAddr (a' := (Addr.mk b5 0 none)) rfl underlying72 rfl rfl sz3 rfl rfl) ?_
    obtain ⟨v_21, hc21, h⟩ := h
    refine sR (.int .i64 v_21) (r_load1 rfl rfl underlying3 rfl hc21) ?_
    refine sR (.bool (decide (v_21 < (0 : Int)))) (r_lss rfl rfl rfl) ?_
    refine sR (.bool (decide (v_21 < (0 : Int)))) (r_move rfl rfl) ?_
    by_cases hc : v_21 < (0 : Int)
    ·
     replace h := h.1 hc
     refine kN 22 (decide_eq_true hc) ?_
     refine kN 23 (decide_eq_true hc) ?_
     refine s_skip ?_
     refine s_skip ?_
     refine s_skip ?_
     refine sR (.bool true) (r_pick rfl rfl (fun _ => rfl) (fun h => by cases h)) ?_
     refine sR (.bool true) (r_move rfl rfl) ?_
     refine s_skip ?_
     refine s_skip ?_
     refine s_skip ?_
     refine sR (.bool true) (r_pick rfl rfl (fun _ => rfl) (fun h => by cases h)) ?_
     refine sR (.bool true) (r_move rfl rfl) ?_
     refine s_skip ?_
     refine s_skip ?_
     refine s_skip ?_
     refine sR (.bool true) (r_pick rfl rfl (fun _ => rfl) (fun h => by cases h)) ?_
     refine sR (.bool true) (r_move rfl rfl) ?_
     refine s_skip ?_
     refine s_skip ?_
     refine s_skip ?_
     refine s_skip ?_
     refine s_skip ?_
     refine sR (.bool true) (r_pick rfl rfl (fun _ => rfl) (fun h => by cases h)) ?_
     refine sR (.bool true) (r_move rfl rfl) ?_
     refine s_skip ?_
     refine s_skip ?_
     refine s_skip ?_
     refine s_skip ?_
     refine s_skip ?_
     refine sR (.bool true) (r_pick rfl rfl (fun _ => rfl) (fun h => by cases h)) ?_
     refine sR (.bool true) (r_move rfl rfl) ?_
     refine s_skip ?_
     refine s_skip ?_
     refine s_skip ?_
     refine s_skip ?_
     refine s_skip ?_
     refine sR (.bool true) (r_pick rfl rfl (fun _ => rfl) (fun h => by cases h)) ?_
     refine sR (.bool true) (r_move rfl rfl) ?_
     refine s_skip ?_
     refine s_skip ?_
     refine s_skip ?_
     refine sR (.bool true) (r_pick rfl rfl (fun _ => rfl) (fun h => by cases h)) ?_
     refine HL_nil ?_
     refine HC_condT rfl ?_
     refine cR ?_
     refine sR (.int .i64 (20 : Int)) (r_assign rfl rfl) ?_
     refine HL_nil ?_
     exact HC_ret (show endQ prog f23 R .ret _ _ from ⟨_, res1 rfl (rv_tmp rfl), h⟩)
    ·
     replace h := h.2 hc
     refine kN 22 (decide_eq_false hc) ?_
     refine kN 23 (decide_eq_false hc) ?_
     refine sR (.pointer (some (Addr.mk b5 0 none))) (w_fieldAddr (a' := (Addr.mk b5 0 none)) rfl underlying72 rfl rfl sz3 rfl rfl) ?_
     obtain ⟨v_25, hc25, h⟩ := h
     refine sR (.int .i64 v_25) (r_load1 rfl rfl underlying3 rfl hc25) ?_
     refine sR (.bool (decide ((63 : Int) < v_25))) (r_gtr rfl rfl rfl) ?_
     refine sR (.bool (decide ((63 : Int) < v_25))) (r_pick rfl rfl (fun h => by cases h) (fun _ => rfl)) ?_
     refine sR (.bool (decide ((63 : Int) < v_25))) (r_move rfl rfl) ?_
     by_cases hc : (63 : Int) < v_25
     ·
      replace h := h.1 hc
      refine kN 26 (decide_eq_true hc) ?_
      refine kN 27 (decide_eq_true hc) ?_
      refine kN 28 (decide_eq_true hc) ?_
      refine s_skip ?_
      refine s_skip ?_
      refine s_skip ?_
      refine sR (.bool true) (r_pick rfl rfl (fun _ => rfl) (fun h => by cases h)) ?_
      refine sR (.bool true) (r_move rfl rfl) ?_
      refine s_skip ?_
      refine s_skip ?_
      refine s_skip ?_
      refine sR (.bool true) (r_pick rfl rfl (fun _ => rfl) (fun h => by cases h)) ?_
      refine sR (.bool true) (r_move rfl rfl) ?_
      refine s_skip ?_
      refine s_skip ?_
      refine s_skip ?_
      refine s_skip ?_
      refine s_skip ?_
      refine sR (.bool true) (r_pick rfl rfl (fun _ => rfl) (fun h => by cases h)) ?_
      refine sR (.bool true) (r_move rfl rfl) ?_
      refine s_skip ?_
      refine s_skip ?_
      refine s_skip ?_
      refine s_skip ?_
      refine s_skip ?_
      refine sR (.bool true) (r_pick rfl rfl (fun _ => rfl) (fun h => by cases h)) ?_
      refine sR (.bool true) (r_move rfl rfl) ?_
      refine s_skip ?_
      refine s_skip ?_
      refine s_skip ?_
      refine s_skip ?_
      refine s_skip ?_
      refine sR (.bool true) (r_pick rfl rfl (fun _ => rfl) (fun h => by cases h)) ?_
      refine sR (.bool true) (r_move rfl rfl) ?_
      refine s_skip ?_
      refine s_skip ?_
      refine s_skip ?_
      refine sR (.bool true) (r_pick rfl rfl (fun _ => rfl) (fun h => by cases h)) ?_
      refine HL_nil ?_
      refine HC_condT rfl ?_
      refine cR ?_
      refine sR (.int .i64 (20 : Int)) (r_assign rfl rfl) ?_
      refine HL_nil ?_
      exact HC_ret (show endQ prog f23 R .ret _ _ from ⟨_, res1 rfl (rv_tmp rfl), h⟩)
     ·
      replace h := h.2 hc
      refine kN 26 (decide_eq_false hc) ?_
      refine kN 27 (decide_eq_false hc) ?_
      refine kN 28 (decide_eq_false hc) ?_
      refine sR (.pointer (some (Addr.mk b5 1 none))) (w_fieldAddr (a' := (Addr.mk b5 1 none)) rfl underlying72 rfl rfl sz3 rfl rfl) ?_
      obtain ⟨v_30, hc30, h⟩ := h
      refine sR (.int .i64 v_30) (r_load1 rfl rfl underlying3 rfl hc30) ?_
      refine sR (.bool (decide (v_30 < (0 : Int)))) (r_lss rfl rfl rfl) ?_
      refine sR (.bool (decide (v_30 < (0 : Int)))) (r_pick rfl rfl (fun h => by cases h) (fun _ => rfl)) ?_
      refine sR (.bool (decide (v_30 < (0 : Int)))) (r_move rfl rfl) ?_
      by_cases hc : v_30 < (0 : Int)
      ·
       replace h := h.1 hc
       refine kN 31 (decide_eq_true hc) ?_
       refine kN 32 (decide_eq_true hc) ?_
       refine kN 33 (decide_eq_true hc) ?_
       refine s_skip ?_
       refine s_skip ?_
       refine s_skip ?_
       refine sR (.bool true) (r_pick rfl rfl (fun _ => rfl) (fun h => by cases h)) ?_
       refine sR (.bool true) (r_move rfl rfl) ?_
       refine s_skip ?_
       refine s_skip ?_
       refine s_skip ?_
       refine s_skip ?_
       refine s_skip ?_
       refine sR (.bool true) (r_pick rfl rfl (fun _ => rfl) (fun h => by cases h)) ?_
       refine sR (.bool true) (r_move rfl rfl) ?_
       refine s_skip ?_
       refine s_skip ?_
       refine s_skip ?_
       refine s_skip ?_
       refine s_skip ?_
       refine sR (.bool true) (r_pick rfl rfl (fun _ => rfl) (fun h => by cases h)) ?_
       refine sR (.bool true) (r_move rfl rfl) ?_
       refine s_skip ?_
       refine s_skip ?_
       refine s_skip ?_
       refine s_skip ?_
       refine s_skip ?_
       refine sR (.bool true) (r_pick rfl rfl (fun _ => rfl) (fun h => by cases h)) ?_
       refine sR (.bool true) (r_move rfl rfl) ?_
       refine s_skip ?_
       refine s_skip ?_
       refine s_skip ?_
       refine sR (.bool true) (r_pick rfl rfl (fun _ => rfl) (fun h => by cases h)) ?_
       refine HL_nil ?_
       refine HC_condT rfl ?_
       refine cR ?_
       refine sR (.int .i64 (20 : Int)) (r_assign rfl rfl) ?_
       refine HL_nil ?_
       exact HC_ret (show endQ prog f23 R .ret _ _ from ⟨_, res1 rfl (rv_tmp rfl), h⟩)
      ·
       replace h := h.2 hc
       refine kN 31 (decide_eq_false hc) ?_
       refine kN 32 (decide_eq_false hc) ?_
       refine kN 33 (decide_eq_false hc) ?_
       refine sR (.pointer (some (Addr.mk b5 2 none))) (w_fieldAddr (a' := (Addr.mk b5 2 none)) rfl underlying72 rfl rfl sz3 rfl rfl) ?_
       obtain ⟨v_35, hc35, h⟩ := h
       refine sR (.int .i64 v_35) (r_load1 rfl rfl underlying3 rfl hc35) ?_
       refine sR (.bool (decide (v_35 < (0 : Int)))) (r_lss rfl rfl rfl) ?_
       refine sR (.bool (decide (v_35 < (0 : Int)))) (r_pick rfl rfl (fun h => by cases h) (fun _ => rfl)) ?_
       refine sR (.bool (decide (v_35 < (0 : Int)))) (r_move rfl rfl) ?_
       by_cases hc : v_35 < (0 : Int)
       ·
        replace h := h.1 hc
        refine kN 36 (decide_eq_true hc) ?_
        refine kN 37 (decide_eq_true hc) ?_
        refine kN 38 (decide_eq_true hc) ?_
        refine s_skip ?_
        refine s_skip ?_
        refine s_skip ?_
        refine s_skip ?_
        refine s_skip ?_
        refine sR (.bool true) (r_pick rfl rfl (fun _ => rfl) (fun h => by cases h)) ?_
        refine sR (.bool true) (r_move rfl rfl) ?_
        refine s_skip ?_
        refine s_skip ?_
        refine s_skip ?_
        refine s_skip ?_
        refine s_skip ?_
        refine sR (.bool true) (r_pick rfl rfl (fun _ => rfl) (fun h => by cases h)) ?_
        refine sR (.bool true) (r_move rfl rfl) ?_
        refine s_skip ?_
        refine s_skip ?_
        refine s_skip ?_
        refine s_skip ?_
        refine s_skip ?_
        refine sR (.bool true) (r_pick rfl rfl (fun _ => rfl) (fun h => by cases h)) ?_
        refine sR (.bool true) (r_move rfl rfl) ?_
        refine s_skip ?_
        refine s_skip ?_
        refine s_skip ?_
        refine sR (.bool true) (r_pick rfl rfl (fun _ => rfl) (fun h => by cases h)) ?_
        refine HL_nil ?_
        refine HC_condT rfl ?_
        refine cR ?_
        refine sR (.int .i64 (20 : Int)) (r_assign rfl rfl) ?_
        refine HL_nil ?_
        exact HC_ret (show endQ prog f23 R .ret _ _ from ⟨_, res1 rfl (rv_tmp rfl), h⟩)
       ·
        replace h := h.2 hc
        refine kN 36 (decide_eq_false hc) ?_
        refine kN 37 (decide_eq_false hc) ?_
        refine kN 38 (decide_eq_false hc) ?_
        refine sR (.pointer (some (Addr.mk b5 1 none))) (w_fieldAddr (a' := (Addr.mk b5 1 none)) rfl underlying72 rfl rfl sz3 rfl rfl) ?_
        obtain ⟨v_40, hc40, h⟩ := h
        refine sR (.int .i64 v_40) (r_load1 rfl rfl underlying3 rfl hc40) ?_
        refine sR (.int .i64 v_15) (r_move rfl rfl) ?_
        refine sR (.int .i64 (IntKind.i64.wrap (v_15 + (1 : Int)))) (r_add rfl rfl rfl) ?_
        refine sR (.bool (decide ((IntKind.i64.wrap (v_15 + (1 : Int))) < v_40))) (r_gtr rfl rfl rfl) ?_
        refine sR (.bool (decide ((IntKind.i64.wrap (v_15 + (1 : Int))) < v_40))) (r_pick rfl rfl (fun h => by cases h) (fun _ => rfl)) ?_
        refine sR (.bool (decide ((IntKind.i64.wrap (v_15 + (1 : Int))) < v_40))) (r_move rfl rfl) ?_
        by_cases hc : (IntKind.i64.wrap (v_15 + (1 : Int))) < v_40
        ·
         replace h := h.1 hc
         refine kN 43 (decide_eq_true hc) ?_
         refine kN 44 (decide_eq_true hc) ?_
         refine kN 45 (decide_eq_true hc) ?_
         refine s_skip ?_
         refine s_skip ?_
         refine s_skip ?_
         refine s_skip ?_
         refine s_skip ?_
         refine sR (.bool true) (r_pick rfl rfl (fun _ => rfl) (fun h => by cases h)) ?_
         refine sR (.bool true) (r_move rfl rfl) ?_
         refine s_skip ?_
         refine s_skip ?_
         refine s_skip ?_
         refine s_skip ?_
         refine s_skip ?_
         refine sR (.bool true) (r_pick rfl rfl (fun _ => rfl) (fun h => by cases h)) ?_
         refine sR (.bool true) (r_move rfl rfl) ?_
         refine s_skip ?_
         refine s_skip ?_
         refine s_skip ?_
         refine sR (.bool true) (r_pick rfl rfl (fun _ => rfl) (fun h => by cases h)) ?_
         refine HL_nil ?_
         refine HC_condT rfl ?_
         refine cR ?_
         refine sR (.int .i64 (20 : Int)) (r_assign rfl rfl) ?_
         refine HL_nil ?_
         exact HC_ret (show endQ prog f23 R .ret _ _ from ⟨_, res1 rfl (rv_tmp rfl), h⟩)
        ·
         replace h := h.2 hc
         refine kN 43 (decide_eq_false hc) ?_
         refine kN 44 (decide_eq_false hc) ?_
         refine kN 45 (decide_eq_false hc) ?_
         refine sR (.pointer (some (Addr.mk b5 2 none))) (w_fieldAddr (a' := (Addr.mk b5 2 none)) rfl underlying72 rfl rfl sz3 rfl rfl) ?_
         obtain ⟨v_47, hc47, h⟩ := h
         refine sR (.int .i64 v_47) (r_load1 rfl rfl underlying3 rfl hc47) ?_
         refine sR (.int .i64 v_15) (r_move rfl rfl) ?_
         refine sR (.int .i64 (IntKind.i64.wrap (v_15 + (1 : Int)))) (r_add rfl rfl rfl) ?_
         refine sR (.bool (decide ((IntKind.i64.wrap (v_15 + (1 : Int))) < v_47))) (r_gtr rfl rfl rfl) ?_
         refine sR (.bool (decide ((IntKind.i64.wrap (v_15 + (1 : Int))) < v_47))) (r_pick rfl rfl (fun h => by cases h) (fun _ => rfl)) ?_
         refine sR (.bool (decide ((IntKind.i64.wrap (v_15 + (1 : Int))) < v_47))) (r_move rfl rfl) ?_
         by_cases hc : (IntKind.i64.wrap (v_15 + (1 : Int))) < v_47
         ·
          replace h := h.1 hc
          refine kN 50 (decide_eq_true hc) ?_
          refine kN 51 (decide_eq_true hc) ?_
          refine kN 52 (decide_eq_true hc) ?_
          refine s_skip ?_
          refine s_skip ?_
          refine s_skip ?_
          refine s_skip ?_
          refine s_skip ?_
          refine sR (.bool true) (r_pick rfl rfl (fun _ => rfl) (fun h => by cases h)) ?_
          refine sR (.bool true) (r_move rfl rfl) ?_
          refine s_skip ?_
          refine s_skip ?_
          refine s_skip ?_
          refine sR (.bool true) (r_pick rfl rfl (fun _ => rfl) (fun h => by cases h)) ?_
          refine HL_nil ?_
          refine HC_condT rfl ?_
          refine cR ?_
          refine sR (.int .i64 (20 : Int)) (r_assign rfl rfl) ?_
          refine HL_nil ?_
          exact HC_ret (show endQ prog f23 R .ret _ _ from ⟨_, res1 rfl (rv_tmp rfl), h⟩)
         ·
          replace h := h.2 hc
          refine kN 50 (decide_eq_false hc) ?_
          refine kN 51 (decide_eq_false hc) ?_
          refine kN 52 (decide_eq_false hc) ?_
          refine sR (.pointer (some (Addr.mk b5 1 none))) (w_fieldAddr (a' := (Addr.mk b5 1 none)) rfl underlying72 rfl rfl sz3 rfl rfl) ?_
          obtain ⟨v_54, hc54, h⟩ := h
          refine sR (.int .i64 v_54) (r_load1 rfl rfl underlying3 rfl hc54) ?_
          refine sR (.pointer (some (Addr.mk b5 2 none))) (w_fieldAddr (a' := (Addr.mk b5 2 none)) rfl underlying72 rfl rfl sz3 rfl rfl) ?_
          obtain ⟨v_56, hc56, h⟩ := h
          refine sR (.int .i64 v_56) (r_load1 rfl rfl underlying3 rfl hc56) ?_
          refine sR (.bool (decide (v_54 = v_56))) (w_eql rfl rfl) ?_
          refine sR (.bool (decide (v_54 = v_56))) (r_pick rfl rfl (fun h => by cases h) (fun _ => rfl)) ?_
          refine sR (.bool (decide (v_54 = v_56))) (r_move rfl rfl) ?_
          by_cases hc : v_54 = v_56
          ·
           replace h := h.1 hc
           refine kN 57 (decide_eq_true hc) ?_
           refine kN 58 (decide_eq_true hc) ?_
           refine kN 59 (decide_eq_true hc) ?_
           refine s_skip ?_
           refine s_skip ?_
           refine s_skip ?_
           refine sR (.bool true) (r_pick rfl rfl (fun _ => rfl) (fun h => by cases h)) ?_
           refine HL_nil ?_
           refine HC_condT rfl ?_
           refine cR ?_
           refine sR (.int .i64 (20 : Int)) (r_assign rfl rfl) ?_
           refine HL_nil ?_
           exact HC_ret (show endQ prog f23 R .ret _ _ from ⟨_, res1 rfl (rv_tmp rfl), h⟩)
          ·
           replace h := h.2 hc
           refine kN 57 (decide_eq_false hc) ?_
           refine kN 58 (decide_eq_false hc) ?_
           refine kN 59 (decide_eq_false hc) ?_
           refine sR (.map (some b11)) (r_move rfl h3) ?_
           obtain ⟨v_61, hs61, hc61, h⟩ := h
           refine sR (.agg v_61) (w_loadN rfl underlying72 rfl sz72 hs61 hc61) ?_
           obtain ⟨v_62, hc62, h⟩ := h
           refine sR (.bool v_62) (r_lookup rfl rfl rfl hc62) ?_
           refine sR (.bool v_62) (r_pick rfl rfl (fun h => by cases h) (fun _ => rfl)) ?_
           refine HL_nil ?_
           refine HC_cond (t := v_62) rfl (fun hc => ?_) (fun hc => ?_)
           ·
            replace h := h.1 hc
            clear hc
            refine cR ?_
            refine sR (.int .i64 (20 : Int)) (r_assign rfl rfl) ?_
            refine HL_nil ?_
            exact HC_ret (show endQ prog f23 R .ret _ _ from ⟨_, res1 rfl (rv_tmp rfl), h⟩)
           ·
            replace h := h.2 hc
            clear hc
            refine HC_skip ?_
            refine HC_seq ?_
            refine HC_seq ?_
            refine HC_draw0 (by kernel_rfl) (fun hp => ?_)
            obtain ⟨v_64, hs64, hc64, h⟩ := h
            refine gR 0 (.agg v_64) rfl (w_loadN h1 underlying28 rfl sz28 hs64 hc64) hp (fun S0 q0 => ?_)
            replace hp := holdC (i := 0) (q0 _ (w_loadN h1 underlying28 rfl sz28 hs64 hc64)) hp
            refine gU 1 (.pointer (some (Addr.mk b5 1 none))) rfl (fun _ => w_fieldAddr (a' := (Addr.mk b5 1 none)) rfl underlying72 rfl rfl sz3 rfl rfl) hp ?_
            obtain ⟨v_66, hc66, h⟩ := h
            refine gR 2 (.int .i64 v_66) rfl (r_load1 rfl rfl underlying3 rfl hc66) hp (fun S2 q2 => ?_)
            replace hp := holdC (i := 2) (q2 _ (r_load1 rfl rfl underlying3 rfl hc66)) hp
            refine gU 4 (.pointer (some (Addr.mk b5 0 none))) rfl (fun _ => w_fieldAddr (a' := (Addr.mk b5 0 none)) rfl underlying72 rfl rfl sz3 rfl rfl) hp ?_
            obtain ⟨v_69, hc69, h⟩ := h
            refine gR 5 (.int .i64 v_69) rfl (r_load1 rfl rfl underlying3 rfl hc69) hp (fun S5 q5 => ?_)
            replace hp := holdC (i := 5) (q5 _ (r_load1 rfl rfl underlying3 rfl hc69)) hp
            refine RG_eff1 (i := 3) (by kernel_rfl) (g_op (Sp' := [(5, S5)]) rfl rfl (k_call (vs := [(.agg v_64), (.int .i64 v_66)]) cb63 (evC rfl (evC rfl evN)) (h.mono ?_)))
            clear h; rintro v F ⟨v_67, rfl, h⟩
            obtain ⟨hk_46, h⟩ := h
            refine holdI (holdC (i := 5) (q5 _ (r_load1 rfl rfl underlying3 rfl hk_46)) hold0) (fun hp => ?_)
            refine gU 6 (.bool (decide (v_67 ≤ v_69))) rfl (fun _ => r_leq rfl rfl rfl) hp ?_
            refine gU 7 (.bool (decide (v_67 ≤ v_69))) rfl (fun _ => r_move rfl rfl) hp ?_
            by_cases hc : v_67 ≤ v_69
            ·
             replace h := h.1 hc
             refine RG_known (t := 70) (v := .bool true) (congrArg Value.bool (decide_eq_true hc)) ?_
             refine RG_known (t := 71) (v := .bool true) (congrArg Value.bool (decide_eq_true hc)) ?_
             refine gS 8 rfl hp ?_
             refine gS 9 rfl hp ?_
             refine gS 10 rfl hp ?_
             refine gS 11 rfl hp ?_
             refine gS 12 rfl hp ?_
             refine gS 13 rfl hp ?_
             refine gS 14 rfl hp ?_
             refine gU 15 (.bool true) rfl (fun _ => r_pick rfl rfl (fun _ => rfl) (fun h => by cases h)) hp ?_
             refine RG_done (by kernel_rfl) ?_
             refine HC_condT rfl ?_
             refine cR ?_
             refine sR (.int .i64 (20 : Int)) (r_assign rfl rfl) ?_
             refine HL_nil ?_
             exact HC_ret (show endQ prog f23 R .ret _ _ from ⟨_, res1 rfl (rv_tmp rfl), h⟩)
            ·
             replace h := h.2 hc
             refine RG_known (t := 70) (v := .bool false) (congrArg Value.bool (decide_eq_false hc)) ?_
             refine RG_known (t := 71) (v := .bool false) (congrArg Value.bool (decide_eq_false hc)) ?_
             obtain ⟨v_72, hs72, hc72, h⟩ := h
             refine gR 8 (.agg v_72) rfl (w_loadN h1 underlying28 rfl sz28 hs72 hc72) hp (fun S8 q8 => ?_)
             replace hp := holdC (i := 8) (q8 _ (w_loadN h1 underlying28 rfl sz28 hs72 hc72)) hp
             refine gU 9 (.pointer (some (Addr.mk b5 2 none))) rfl (fun _ => w_fieldAddr (a' := (Addr.mk b5 2 none)) rfl underlying72 rfl rfl sz3 rfl rfl) hp ?_
             obtain ⟨v_74, hc74, h⟩ := h
             refine gR 10 (.int .i64 v_74) rfl (r_load1 rfl rfl underlying3 rfl hc74) hp (fun S10 q10 => ?_)
             replace hp := holdC (i := 10) (q10 _ (r_load1 rfl rfl underlying3 rfl hc74)) hp
             refine gU 12 (.pointer (some (Addr.mk b5 0 none))) rfl (fun _ => w_fieldAddr (a' := (Addr.mk b5 0 none)) rfl underlying72 rfl rfl sz3 rfl rfl) hp ?_
             obtain ⟨v_77, hc77, h⟩ := h
             refine gR 13 (.int .i64 v_77) rfl (r_load1 rfl rfl underlying3 rfl hc77) hp (fun S13 q13 => ?_)
             replace hp := holdC (i := 13) (q13 _ (r_load1 rfl rfl underlying3 rfl hc77)) hp
             refine RG_eff1 (i := 11) (by kernel_rfl) (g_op (Sp' := [(13, S13), (5, S5)]) rfl rfl (k_call (vs := [(.agg v_72), (.int .i64 v_74)]) cb63 (evC rfl (evC rfl evN)) (h.mono ?_)))
             clear h; rintro v F ⟨v_75, rfl, h⟩
             obtain ⟨hk_47, hk_48, h⟩ := h
             refine holdI (holdC (i := 13) (q13 _ (r_load1 rfl rfl underlying3 rfl hk_47)) (holdC (i := 5) (q5 _ (r_load1 rfl rfl underlying3 rfl hk_48)) hold0)) (fun hp => ?_)
             refine gU 14 (.bool (decide (v_75 ≤ v_77))) rfl (fun _ => r_leq rfl rfl rfl) hp ?_
             refine gU 15 (.bool (decide (v_75 ≤ v_77))) rfl (fun _ => r_pick rfl rfl (fun h => by cases h) (fun _ => rfl)) hp ?_
             refine RG_done (by kernel_rfl) ?_
             refine HC_cond (t := (decide (v_75 ≤ v_77))) rfl (fun hc => ?_) (fun hc => ?_)
             ·
              replace h := h.1 (of_decide_eq_true hc)
              clear hc
              refine cR ?_
              refine sR (.int .i64 (20 : Int)) (r_assign rfl rfl) ?_
              refine HL_nil ?_
              exact HC_ret (show endQ prog f23 R .ret _ _ from ⟨_, res1 rfl (rv_tmp rfl), h⟩)
             ·
              replace h := h.2 (of_decide_eq_false hc)
              clear hc
              refine HC_skip ?_
              refine HC_region ?_
              refine sR (.map (some b11)) (r_move rfl h3) ?_
              obtain ⟨v_81, hs81, hc81, h⟩ := h
              refine sR (.agg v_81) (w_loadN rfl underlying72 rfl sz72 hs81 hc81) ?_
              refine s_ef0 (k_mapUpdate rfl rfl rfl (runs_mono _ _ h ?_))
              clear h; rintro _ F h
              refine HL_nil ?_
              refine HC_region ?_
              refine sR (.int .i64 (IntKind.i64.wrap (v_15 + (1 : Int)))) (r_add rfl h15 rfl) ?_
              refine sR (.int .i64 (IntKind.i64.wrap (v_15 + (1 : Int)))) (r_move rfl rfl) ?_
              refine HL_nil ?_
              obtain ⟨m', hm, h⟩ := h
              exact ⟨m', hm, _, h1, h3, h13, h14, rfl, h⟩
   ·
    replace h := h.2 (of_decide_eq_false hc)
    clear hc
    refine HC_exit ?_
    show b23J1 b1 R _ _
    exact ⟨h1, h⟩

/- 68 koine.diagram.check -/
def b68j1 (R : Value → PH → Prop) (F : PH) : Prop :=
 R (.int .i64 (0 : Int)) F
abbrev b68J1 (R : Value → PH → Prop) (E : En) (F : PH) : Prop := b68j1 R F
def b68L1 (N1 : Int → PH → Prop) (l_0 : Sl) (R : Value → PH → Prop) (v_8 : Int) (F : PH) : Prop :=
 ((v_8 < (l_0.len : Int) →
  ∃ a10_ : Addr, l_0.base = some a10_ ∧ 0 ≤ v_8 ∧ v_8 < (l_0.len : Int) ∧
  ∃ v_11 : Array Value, v_11.size = 2 ∧ F.row (Addr.add a10_ (Int.toNat v_8 * 2)) v_11 ∧
  ∀ b4, F b4 = none → atF (F.set b4 (.cells (#[.slice none 0 0, .int .i64 0]) 28)) fun F =>
  v_11.size = 2 ∧ (∀ v ∈ v_11.toList, storable v) ∧ ∃ c e, F (Addr.mk b4 0 none).block = some (.cells c e (0, 0)) ∧ (Addr.mk b4 0 none).spot = none ∧ (Addr.mk b4 0 none).off + 2 ≤ c.size ∧
  atF (F.set (Addr.mk b4 0 none).block (.cells (wr c (Addr.mk b4 0 none).off v_11.toList) e)) fun F =>
  ∃ v_12 : Array Value, v_12.size = 2 ∧ F.row (Addr.mk b4 0 none) v_12 ∧
  Spec prog 23 #[(.agg v_12)] F fun v F => ∃ v_13 : Int, v = (.int .i64 v_13) ∧
  ((v_13 ≠ (0 : Int) →
   R (.int .i64 v_13) F) ∧
  (¬ (v_13 ≠ (0 : Int)) →
   N1 (IntKind.i64.wrap (v_8 + (1 : Int))) F))) ∧
 (¬ (v_8 < (l_0.len : Int)) →
  b68j1 R F))
def b68 (l_0 : Sl) (R : Value → PH → Prop) (F : PH) : Prop :=
 (∃ (I1 : Nat → Int → PH → Prop) (m1 : Nat), I1 m1 (0 : Int) F ∧ ∀ m1 v_8 F, I1 m1 v_8 F →
  b68L1 (fun v_8 F => ∃ m', m' < m1 ∧ I1 m' v_8 F) l_0 R v_8 F)
theorem c68 {l_0 : Sl} {R : Value → PH → Prop} {F : PH} (h : b68 l_0 R F) : Spec prog 68 #[(Sl.v l_0)] F R := by
 refine spec_of (args := [(Sl.v l_0)]) func68 rfl ntmps68 rfl ?_
 unfold b68 at h
 refine cR ?_
 refine sR (.int .i64 (0 : Int)) (r_assign rfl rfl) ?_
 refine HL_nil ?_
 refine HC_seqJ (b68J1 R) ?_ ?_
 ·
  clear h; rintro E F h
  unfold b68J1 at h; unfold b68j1 at h
  refine cR ?_
  refine sR (.int .i64 (0 : Int)) (r_assign rfl rfl) ?_
  refine HL_nil ?_
  exact HC_ret (show endQ prog f68 R .ret _ _ from ⟨_, res1 rfl (rv_tmp rfl), h⟩)
 ·
  skip
  refine cR ?_
  refine sR (Sl.v l_0) (r_move rfl rfl) ?_
  refine sR (.int .i64 (l_0.len : Int)) (r_lenSl rfl rfl underlying100) ?_
  refine sR (.int .i64 (0 : Int)) (r_move rfl rfl) ?_
  refine HL_nil ?_
  refine HC_block ?_
  obtain ⟨I1, m1, hI0, hr⟩ := h
  refine HC_loop (fun m1 E F => ∃ v_8 : Int, E 6 = (Sl.v l_0) ∧ E 7 = (.int .i64 (l_0.len : Int)) ∧ E 8 = (.int .i64 v_8) ∧ I1 m1 v_8 F) m1 ⟨_, rfl, rfl, rfl, hI0⟩ ?_
  clear hI0; rintro m1 E F ⟨v_8, h6, h7, h8, hI⟩
  have h := hr m1 v_8 F hI
  clear hr hI
  unfold b68L1 at h
  refine cR ?_
  refine sR (.bool (decide (v_8 < (l_0.len : Int)))) (r_lss rfl h8 h7) ?_
  refine HL_nil ?_
  refine HC_seq ?_
  refine HC_cond (t := (decide (v_8 < (l_0.len : Int)))) rfl (fun hc => ?_) (fun hc => ?_)
  ·
   replace h := h.1 (of_decide_eq_true hc)
   clear hc
   refine HC_skip ?_
   refine HC_seq ?_
   refine HC_block ?_
   refine cR ?_
   obtain ⟨a10_, hb10, hl10, hu10, h⟩ := h
   refine sR (.pointer (some (Addr.add a10_ (Int.toNat v_8 * 2)))) (w_indexAddr h6 h8 underlying100 sz28 hb10 hl10 hu10) ?_
   obtain ⟨v_11, hs11, hc11, h⟩ := h
   refine sR (.agg v_11) (w_loadN rfl underlying28 rfl sz28 hs11 hc11) ?_
   refine s_ef (k_alloc zr28 ?_)
   intro b4 hf_b4
   replace h := atE (h b4 hf_b4)
   refine s_ef0 (k_storeN (vs := v_11) rfl rfl sz28 (by decide) ?_)
   obtain ⟨hz1, hz2, c, e, hz3, hz4, hz5, h⟩ := h
   refine ⟨hz1, hz2, c, e, hz3, hz4, hz5, ?_⟩
   replace h := atE h
   refine HL_nil ?_
   refine cR ?_
   obtain ⟨v_12, hs12, hc12, h⟩ := h
   refine sR (.agg v_12) (w_loadN rfl underlying28 rfl sz28 hs12 hc12) ?_
   refine s_ef (k_call (vs := [(.agg v_12)]) cb23 (evC rfl evN) (h.mono ?_))
   clear h; rintro v F ⟨v_13, rfl, h⟩
   refine sR (.int .i64 v_13) (r_assign rfl rfl) ?_
   refine HL_nil ?_
   refine cR ?_
   refine sR (.int .i64 v_13) (r_move rfl rfl) ?_
   refine sR (.bool (decide (v_13 ≠ (0 : Int)))) (w_neq rfl rfl) ?_
   refine HL_nil ?_
   refine HC_cond (t := (decide (v_13 ≠ (0 : Int)))) rfl (fun hc => ?_) (fun hc => ?_)
   ·
    replace h := h.1 (of_decide_eq_true hc)
    clear hc
    refine cR ?_
    refine sR (.int .i64 v_13) (r_move rfl rfl) ?_
    refine sR (.int .i64 v_13) (r_assign rfl rfl) ?_
    refine HL_nil ?_
    exact HC_ret (show endQ prog f68 R .ret _ _ from ⟨_, res1 rfl (rv_tmp rfl), h⟩)
   ·
    replace h := h.2 (of_decide_eq_false hc)
    clear hc
    refine HC_skip ?_
    refine HC_region ?_
    refine sR (.int .i64 (IntKind.i64.wrap (v_8 + (1 : Int)))) (r_add rfl h8 rfl) ?_
    refine sR (.int .i64 (IntKind.i64.wrap (v_8 + (1 : Int)))) (r_move rfl rfl) ?_
    refine HL_nil ?_
    obtain ⟨m', hm, h⟩ := h
    exact ⟨m', hm, _, h6, h7, rfl, h⟩
  ·
   replace h := h.2 (of_decide_eq_false hc)
   clear hc
   refine HC_exit ?_
   exact h

/- 69 koine.diagram.limited -/
def b69 (d_0 : Array Value) (R : Value → PH → Prop) (F : PH) : Prop :=
 ∀ b1, F b1 = none → atF (F.set b1 (.cells d_0 28)) fun F =>
 ∀ b2, F b2 = none → atF (F.set b2 (.cells (#[.slice none 0 0, .int .i64 0]) 28)) fun F =>
 ∃ v_5 : Sl, F.cell (Addr.mk b1 0 none) = some (Sl.v v_5) ∧
 (((4096 : Int) < (v_5.len : Int) →
  (#[.slice none 0 0, .int .i64 0] : Array Value).size = 2 ∧ (∀ v ∈ (#[.slice none 0 0, .int .i64 0] : Array Value).toList, storable v) ∧ ∃ c e, F (Addr.mk b2 0 none).block = some (.cells c e (0, 0)) ∧ (Addr.mk b2 0 none).spot = none ∧ (Addr.mk b2 0 none).off + 2 ≤ c.size ∧
  atF (F.set (Addr.mk b2 0 none).block (.cells (wr c (Addr.mk b2 0 none).off (#[.slice none 0 0, .int .i64 0] : Array Value).toList) e)) fun F =>
  ∃ vres_2 : Array Value, vres_2.size = 2 ∧ F.row (Addr.mk b2 0 none) vres_2 ∧ R (.tuple #[(.agg vres_2), (.int .i64 (2 : Int))]) F) ∧
 (¬ ((4096 : Int) < (v_5.len : Int)) →
  ∃ v_9 : Array Value, v_9.size = 2 ∧ F.row (Addr.mk b1 0 none) v_9 ∧
  v_9.size = 2 ∧ (∀ v ∈ v_9.toList, storable v) ∧ ∃ c e, F (Addr.mk b2 0 none).block = some (.cells c e (0, 0)) ∧ (Addr.mk b2 0 none).spot = none ∧ (Addr.mk b2 0 none).off + 2 ≤ c.size ∧
  atF (F.set (Addr.mk b2 0 none).block (.cells (wr c (Addr.mk b2 0 none).off v_9.toList) e)) fun F =>
  ∃ vres_2_1 : Array Value, vres_2_1.size = 2 ∧ F.row (Addr.mk b2 0 none) vres_2_1 ∧ R (.tuple #[(.agg vres_2_1), (.int .i64 (0 : Int))]) F))
theorem c69 {d_0 : Array Value} {R : Value → PH → Prop} {F : PH} (h : b69 d_0 R F) : Spec prog 69 #[(.agg d_0)] F R := by
 refine spec_of (args := [(.agg d_0)]) func69 rfl ntmps69 rfl ?_
 unfold b69 at h
 refine cR ?_
 refine s_ef (k_box (cs := d_0) rfl rfl ?_)
 intro b1 hf_b1
 replace h := atE (h b1 hf_b1)
 refine s_ef (k_alloc zr28 ?_)
 intro b2 hf_b2
 replace h := atE (h b2 hf_b2)
 refine sR (.int .i64 (0 : Int)) (r_assign rfl rfl) ?_
 refine HL_nil ?_
 refine HC_seq ?_
 refine cR ?_
 refine sR (.pointer (some (Addr.mk b1 0 none))) (w_fieldAddr (a' := (Addr.mk b1 0 none)) rfl underlying28 rfl rfl sz26 rfl rfl) ?_
 obtain ⟨v_5, hc5, h⟩ := h
 refine sR (Sl.v v_5) (r_load1 rfl rfl underlying26 rfl hc5) ?_
 refine sR (.int .i64 (v_5.len : Int)) (r_lenSl rfl rfl underlying26) ?_
 refine sR (.bool (decide ((4096 : Int) < (v_5.len : Int)))) (r_gtr rfl rfl rfl) ?_
 refine HL_nil ?_
 refine HC_cond (t := (decide ((4096 : Int) < (v_5.len : Int)))) rfl (fun hc => ?_) (fun hc => ?_)
 ·
  replace h := h.1 (of_decide_eq_true hc)
  clear hc
  refine cR ?_
  refine sR (.agg (#[.slice none 0 0, .int .i64 0] : Array Value)) (w_buildStruct (cells := #[.slice none 0 0, .int .i64 0]) underlying28 zr28 kf28 (evPN) (fillN rfl)) ?_
  refine s_ef0 (k_storeN (vs := (#[.slice none 0 0, .int .i64 0] : Array Value)) rfl rfl sz28 (by decide) ?_)
  obtain ⟨hz1, hz2, c, e, hz3, hz4, hz5, h⟩ := h
  refine ⟨hz1, hz2, c, e, hz3, hz4, hz5, ?_⟩
  replace h := atE h
  refine sR (.int .i64 (2 : Int)) (r_assign rfl rfl) ?_
  refine HL_nil ?_
  obtain ⟨vres_2, hs2, hr2, h⟩ := h
  exact HC_ret (show endQ prog f69 R .ret _ _ from ⟨_, res2 rfl (rv_cellN rfl underlying28 rfl sz28 hs2 hr2) (rv_tmp rfl), h⟩)
 ·
  replace h := h.2 (of_decide_eq_false hc)
  clear hc
  refine HC_skip ?_
  refine cR ?_
  obtain ⟨v_9, hs9, hc9, h⟩ := h
  refine sR (.agg v_9) (w_loadN rfl underlying28 rfl sz28 hs9 hc9) ?_
  refine s_ef0 (k_storeN (vs := v_9) rfl rfl sz28 (by decide) ?_)
  obtain ⟨hz1, hz2, c, e, hz3, hz4, hz5, h⟩ := h
  refine ⟨hz1, hz2, c, e, hz3, hz4, hz5, ?_⟩
  replace h := atE h
  refine sR (.int .i64 (0 : Int)) (r_assign rfl rfl) ?_
  refine HL_nil ?_
  obtain ⟨vres_2_1, hs2, hr2, h⟩ := h
  exact HC_ret (show endQ prog f69 R .ret _ _ from ⟨_, res2 rfl (rv_cellN rfl underlying28 rfl sz28 hs2 hr2) (rv_tmp rfl), h⟩)

/- 97 koine.diagram.combine$1 -/
def b97j2 (v2a_ : Addr) (v_4 : Option Addr) (v_5 : Option Addr) (b6 : Nat) (v_52 : Int) (v_57 : Int) (v_62 : Int) (b11 : Nat) (b12 : Nat) (R : Value → PH → Prop) (F : PH) : Prop :=
 ∃ v4a_ : Addr, v_4 = some v4a_ ∧ ∃ v_83 : Value, F.cell v4a_ = some v_83 ∧
 ∃ v_84 : Array Value, v_84.size = 3 ∧ F.row (Addr.mk b11 0 none) v_84 ∧
 ∃ (k85 : Nat) (fst85 cap85 : Array Value), v_83 = Value.func (.func k85) fst85 cap85 ∧ callableB prog k85 = true ∧ Spec prog k85 (fst85 ++ ([(Value.agg v_84)]).toArray ++ cap85) F fun v F => ∃ v_85 : Int, v = (Value.int .i64 v_85) ∧
 ∃ v5a_ : Addr, v_5 = some v5a_ ∧ ∃ v_86 : Option Addr, F.cell v5a_ = some (.pointer v_86) ∧
 ∃ v_89 : Value, F.cell v4a_ = some v_89 ∧
 ∃ v_90 : Array Value, v_90.size = 3 ∧ F.row (Addr.mk b12 0 none) v_90 ∧
 ∃ (k91 : Nat) (fst91 cap91 : Array Value), v_89 = Value.func (.func k91) fst91 cap91 ∧ callableB prog k91 = true ∧ Spec prog k91 (fst91 ++ ([(Value.agg v_90)]).toArray ++ cap91) F fun v F => ∃ v_91 : Int, v = (Value.int .i64 v_91) ∧
 F.cell v5a_ = some (.pointer v_86) ∧ Spec prog 99 #[(.pointer v_86), (.int .i64 (min (min v_52 v_57) v_62)), (.int .i64 v_85), (.int .i64 v_91)] F fun v F => ∃ v_92 : Int, v = (.int .i64 v_92) ∧
 ∃ v_93 : Option Nat, F.cell v2a_ = some (.map v_93) ∧
 ∃ v_94 : Array Value, v_94.size = 3 ∧ F.row (Addr.mk b6 0 none) v_94 ∧
 runs prog (Instr.mapUpdate 112 (.map v_93) (.agg v_94) (.int .i64 v_92)) F fun _ F =>
 R (.int .i64 v_92) F
abbrev b97J2 (v2a_ : Addr) (v_4 : Option Addr) (v_5 : Option Addr) (b6 : Nat) (v_52 : Int) (v_57 : Int) (v_62 : Int) (b11 : Nat) (b12 : Nat) (R : Value → PH → Prop) (E : En) (F : PH) : Prop := E 2 = (.pointer (some v2a_)) ∧ E 4 = (.pointer v_4) ∧ E 5 = (.pointer v_5) ∧ E 6 = (.pointer (some (Addr.mk b6 0 none))) ∧ E 10 = (.int .i64 (min (min v_52 v_57) v_62)) ∧ E 11 = (.pointer (some (Addr.mk b11 0 none))) ∧ E 12 = (.pointer (some (Addr.mk b12 0 none))) ∧ b97j2 v2a_ v_4 v_5 b6 v_52 v_57 v_62 b11 b12 R F
def b97L1 (N1 : Int → PH → Prop) (v2a_ : Addr) (v3a_ : Addr) (v_4 : Option Addr) (v_5 : Option Addr) (b6 : Nat) (v_52 : Int) (v_57 : Int) (v_62 : Int) (b11 : Nat) (b12 : Nat) (R : Value → PH → Prop) (v_64 : Int) (F : PH) : Prop :=
 ((v_64 < (3 : Int) →
  0 ≤ v_64 ∧ v_64 < (3 : Int) ∧
  ∃ v_72 : Array Value, v_72.size = 2 ∧ F.row (Addr.add v3a_ (Int.toNat v_64 * 2)) v_72 ∧
  0 ≤ v_64 ∧ v_64 < (3 : Int) ∧
  ∃ v_75 : Int, F.cell (Addr.add (Addr.mk b6 0 none) (Int.toNat v_64 * 1)) = some (.int .i64 v_75) ∧
  Spec prog 98 #[(.agg v_72), (.int .i64 v_75), (.int .i64 (min (min v_52 v_57) v_62))] F fun v F => ∃ v_77 : Int, ∃ v_77_1 : Int, v = (.tuple #[(.int .i64 v_77), (.int .i64 v_77_1)]) ∧
  0 ≤ v_64 ∧ v_64 < (3 : Int) ∧
  ∃ c e, F (Addr.add (Addr.mk b11 0 none) (Int.toNat v_64 * 1)).block = some (.cells c e (0, 0)) ∧ (Addr.add (Addr.mk b11 0 none) (Int.toNat v_64 * 1)).spot = none ∧ (Addr.add (Addr.mk b11 0 none) (Int.toNat v_64 * 1)).off < c.size ∧
  atF (F.set (Addr.add (Addr.mk b11 0 none) (Int.toNat v_64 * 1)).block (.cells (c.setIfInBounds (Addr.add (Addr.mk b11 0 none) (Int.toNat v_64 * 1)).off (.int .i64 v_77)) e)) fun F =>
  0 ≤ v_64 ∧ v_64 < (3 : Int) ∧
  ∃ c e, F (Addr.add (Addr.mk b12 0 none) (Int.toNat v_64 * 1)).block = some (.cells c e (0, 0)) ∧ (Addr.add (Addr.mk b12 0 none) (Int.toNat v_64 * 1)).spot = none ∧ (Addr.add (Addr.mk b12 0 none) (Int.toNat v_64 * 1)).off < c.size ∧
  atF (F.set (Addr.add (Addr.mk b12 0 none) (Int.toNat v_64 * 1)).block (.cells (c.setIfInBounds (Addr.add (Addr.mk b12 0 none) (Int.toNat v_64 * 1)).off (.int .i64 v_77_1)) e)) fun F =>
  N1 (IntKind.i64.wrap (v_64 + (1 : Int))) F) ∧
 (¬ (v_64 < (3 : Int)) →
  b97j2 v2a_ v_4 v_5 b6 v_52 v_57 v_62 b11 b12 R F))
def b97j1 (v_1 : Option Addr) (v_2 : Option Addr) (v_3 : Option Addr) (v_4 : Option Addr) (v_5 : Option Addr) (b6 : Nat) (v_28 : Bool) (R : Value → PH → Prop) (F : PH) : Prop :=
 ((v_28 = true →
  ∃ v1a_ : Addr, v_1 = some v1a_ ∧ ∃ v_29 : Value, F.cell v1a_ = some v_29 ∧
  0 ≤ (0 : Int) ∧ (0 : Int) < (3 : Int) ∧
  ∃ v_31 : Int, F.cell (Addr.add (Addr.mk b6 0 none) (Int.toNat (0 : Int) * 1)) = some (.int .i64 v_31) ∧
  0 ≤ (1 : Int) ∧ (1 : Int) < (3 : Int) ∧
  ∃ v_34 : Int, F.cell (Addr.add (Addr.mk b6 0 none) (Int.toNat (1 : Int) * 1)) = some (.int .i64 v_34) ∧
  0 ≤ (2 : Int) ∧ (2 : Int) < (3 : Int) ∧
  ∃ v_37 : Int, F.cell (Addr.add (Addr.mk b6 0 none) (Int.toNat (2 : Int) * 1)) = some (.int .i64 v_37) ∧
  ∃ (k39 : Nat) (fst39 cap39 : Array Value), v_29 = Value.func (.func k39) fst39 cap39 ∧ callableB prog k39 = true ∧ Spec prog k39 (fst39 ++ ([(Value.bool (decide (v_31 = (1 : Int)))), (Value.bool (decide (v_34 = (1 : Int)))), (Value.bool (decide (v_37 = (1 : Int))))]).toArray ++ cap39) F fun v F => ∃ v_39 : Bool, v = (Value.bool v_39) ∧
  ((v_39 = true →
   R (.int .i64 (1 : Int)) F) ∧
  (v_39 = false →
   R (.int .i64 (0 : Int)) F))) ∧
 (v_28 = false →
  ∃ v2a_ : Addr, v_2 = some v2a_ ∧ ∃ v_41 : Option Nat, F.cell v2a_ = some (.map v_41) ∧
  ∃ v_42 : Array Value, v_42.size = 3 ∧ F.row (Addr.mk b6 0 none) v_42 ∧
  ∃ (v_43 : Int) (ok43_ : Bool), rdo prog (Instr.lookup 112 (.map v_41) (.agg v_42) true) F (.tuple #[(.int .i64 v_43), (.bool ok43_)]) ∧
  ((ok43_ = true →
   R (.int .i64 v_43) F) ∧
  (ok43_ = false →
   ∃ v3a_ : Addr, v_3 = some v3a_ ∧ 0 ≤ (0 : Int) ∧ (0 : Int) < (3 : Int) ∧
   ∃ v_49 : Array Value, v_49.size = 2 ∧ F.row (Addr.add v3a_ (Int.toNat (0 : Int) * 2)) v_49 ∧
   0 ≤ (0 : Int) ∧ (0 : Int) < (3 : Int) ∧
   ∃ v_51 : Int, F.cell (Addr.add (Addr.mk b6 0 none) (Int.toNat (0 : Int) * 1)) = some (.int .i64 v_51) ∧
   0 ≤ (1 : Int) ∧ (1 : Int) < (3 : Int) ∧
   ∃ v_54 : Array Value, v_54.size = 2 ∧ F.row (Addr.add v3a_ (Int.toNat (1 : Int) * 2)) v_54 ∧
   0 ≤ (1 : Int) ∧ (1 : Int) < (3 : Int) ∧
   ∃ v_56 : Int, F.cell (Addr.add (Addr.mk b6 0 none) (Int.toNat (1 : Int) * 1)) = some (.int .i64 v_56) ∧
   0 ≤ (2 : Int) ∧ (2 : Int) < (3 : Int) ∧
   ∃ v_59 : Array Value, v_59.size = 2 ∧ F.row (Addr.add v3a_ (Int.toNat (2 : Int) * 2)) v_59 ∧
   0 ≤ (2 : Int) ∧ (2 : Int) < (3 : Int) ∧
   ∃ v_61 : Int, F.cell (Addr.add (Addr.mk b6 0 none) (Int.toNat (2 : Int) * 1)) = some (.int .i64 v_61) ∧
   Spec prog 63 #[(.agg v_49), (.int .i64 v_51)] F fun v F => ∃ v_52 : Int, v = (.int .i64 v_52) ∧
   F.cell (Addr.add (Addr.mk b6 0 none) (Int.toNat (2 : Int) * 1)) = some (.int .i64 v_61) ∧ F.row (Addr.add v3a_ (Int.toNat (2 : Int) * 2)) v_59 ∧ F.cell (Addr.add (Addr.mk b6 0 none) (Int.toNat (1 : Int) * 1)) = some (.int .i64 v_56) ∧ F.row (Addr.add v3a_ (Int.toNat (1 : Int) * 2)) v_54 ∧ Spec prog 63 #[(.agg v_54), (.int .i64 v_56)] F fun v F => ∃ v_57 : Int, v = (.int .i64 v_57) ∧
   F.cell (Addr.add (Addr.mk b6 0 none) (Int.toNat (2 : Int) * 1)) = some (.int .i64 v_61) ∧ F.row (Addr.add v3a_ (Int.toNat (2 : Int) * 2)) v_59 ∧ Spec prog 63 #[(.agg v_59), (.int .i64 v_61)] F fun v F => ∃ v_62 : Int, v = (.int .i64 v_62) ∧
   ∀ b11, F b11 = none → atF (F.set b11 (.cells (#[.int .i64 0, .int .i64 0, .int .i64 0]) 114)) fun F =>
   ∀ b12, F b12 = none → atF (F.set b12 (.cells (#[.int .i64 0, .int .i64 0, .int .i64 0]) 114)) fun F =>
   (∃ (I1 : Nat → Int → PH → Prop) (m1 : Nat), I1 m1 (0 : Int) F ∧ ∀ m1 v_64 F, I1 m1 v_64 F →
    b97L1 (fun v_64 F => ∃ m', m' < m1 ∧ I1 m' v_64 F) v2a_ v3a_ v_4 v_5 b6 v_52 v_57 v_62 b11 b12 R v_64 F)))))
abbrev b97J1 (v_1 : Option Addr) (v_2 : Option Addr) (v_3 : Option Addr) (v_4 : Option Addr) (v_5 : Option Addr) (b6 : Nat) (R : Value → PH → Prop) (E : En) (F : PH) : Prop := ∃ v_28 : Bool, E 1 = (.pointer v_1) ∧ E 2 = (.pointer v_2) ∧ E 3 = (.pointer v_3) ∧ E 4 = (.pointer v_4) ∧ E 5 = (.pointer v_5) ∧ E 6 = (.pointer (some (Addr.mk b6 0 none))) ∧ E 28 = (.bool v_28) ∧ b97j1 v_1 v_2 v_3 v_4 v_5 b6 v_28 R F
def b97 (n_0 : Array Value) (v_1 : Option Addr) (v_2 : Option Addr) (v_3 : Option Addr) (v_4 : Option Addr) (v_5 : Option Addr) (R : Value → PH → Prop) (F : PH) : Prop :=
 ∀ b6, F b6 = none → atF (F.set b6 (.cells n_0 114)) fun F =>
 0 ≤ (0 : Int) ∧ (0 : Int) < (3 : Int) ∧
 ∃ v_17 : Int, F.cell (Addr.add (Addr.mk b6 0 none) (Int.toNat (0 : Int) * 1)) = some (.int .i64 v_17) ∧
 ((v_17 < (2 : Int) →
  0 ≤ (1 : Int) ∧ (1 : Int) < (3 : Int) ∧
  ∃ v_21 : Int, F.cell (Addr.add (Addr.mk b6 0 none) (Int.toNat (1 : Int) * 1)) = some (.int .i64 v_21) ∧
  ((v_21 < (2 : Int) →
   0 ≤ (2 : Int) ∧ (2 : Int) < (3 : Int) ∧
   ∃ v_26 : Int, F.cell (Addr.add (Addr.mk b6 0 none) (Int.toNat (2 : Int) * 1)) = some (.int .i64 v_26) ∧
   b97j1 v_1 v_2 v_3 v_4 v_5 b6 (decide (v_26 < (2 : Int))) R F) ∧
  (¬ (v_21 < (2 : Int)) →
   b97j1 v_1 v_2 v_3 v_4 v_5 b6 false R F))) ∧
 (¬ (v_17 < (2 : Int)) →
  b97j1 v_1 v_2 v_3 v_4 v_5 b6 false R F))
theorem c97 {n_0 : Array Value} {v_1 : Option Addr} {v_2 : Option Addr} {v_3 : Option Addr} {v_4 : Option Addr} {v_5 : Option Addr} {R : Value → PH → Prop} {F : PH} (h : b97 n_0 v_1 v_2 v_3 v_4 v_5 R F) : Spec prog 97 #[(.agg n_0), (.pointer v_1), (.pointer v_2), (.pointer v_3), (.pointer v_4), (.pointer v_5)] F R := by
 refine spec_of (args := [(.agg n_0), (.pointer v_1), (.pointer v_2), (.pointer v_3), (.pointer v_4), (.pointer v_5)]) func97 rfl ntmps97 rfl ?_
 unfold b97 at h
 refine cR ?_
 refine s_ef (k_box (cs := n_0) rfl rfl ?_)
 intro b6 hf_b6
 replace h := atE (h b6 hf_b6)
 refine sR (.int .i64 (0 : Int)) (r_assign rfl rfl) ?_
 refine HL_nil ?_
 refine HC_seq ?_
 refine HC_seqJ (b97J1 v_1 v_2 v_3 v_4 v_5 b6 R) ?_ ?_
 ·
  clear h; rintro E F ⟨v_28, h1, h2, h3, h4, h5, h6, h28, h⟩
  unfold b97j1 at h
  refine HC_cond (t := v_28) h28 (fun hc => ?_) (fun hc => ?_)
  ·
   replace h := h.1 hc
   clear hc
   refine HC_seq ?_
   refine cR ?_
   obtain ⟨v1a_, rfl, h⟩ := h
   obtain ⟨v_29, hc29, h⟩ := h
   refine sR v_29 (r_load1 rfl h1 underlying90 rfl hc29) ?_
   obtain ⟨hl30, hu30, h⟩ := h
   refine sR (.pointer (some (Addr.add (Addr.mk b6 0 none) (Int.toNat (0 : Int) * 1)))) (r_indexAddrAr rfl h6 rfl underlying114 sz3 hl30 (by exact hu30)) ?_
   obtain ⟨v_31, hc31, h⟩ := h
   refine sR (.int .i64 v_31) (r_load1 rfl rfl underlying3 rfl hc31) ?_
   refine sR (.bool (decide (v_31 = (1 : Int)))) (w_eql rfl rfl) ?_
   obtain ⟨hl33, hu33, h⟩ := h
   refine sR (.pointer (some (Addr.add (Addr.mk b6 0 none) (Int.toNat (1 : Int) * 1)))) (r_indexAddrAr rfl h6 rfl underlying114 sz3 hl33 (by exact hu33)) ?_
   obtain ⟨v_34, hc34, h⟩ := h
   refine sR (.int .i64 v_34) (r_load1 rfl rfl underlying3 rfl hc34) ?_
   refine sR (.bool (decide (v_34 = (1 : Int)))) (w_eql rfl rfl) ?_
   obtain ⟨hl36, hu36, h⟩ := h
   refine sR (.pointer (some (Addr.add (Addr.mk b6 0 none) (Int.toNat (2 : Int) * 1)))) (r_indexAddrAr rfl h6 rfl underlying114 sz3 hl36 (by exact hu36)) ?_
   obtain ⟨v_37, hc37, h⟩ := h
   refine sR (.int .i64 v_37) (r_load1 rfl rfl underlying3 rfl hc37) ?_
   refine sR (.bool (decide (v_37 = (1 : Int)))) (w_eql rfl rfl) ?_
   obtain ⟨_, _, _, hk1, hk2, h⟩ := h
   refine s_ef (k_callF (vs := [(.bool (decide (v_31 = (1 : Int)))), (.bool (decide (v_34 = (1 : Int)))), (.bool (decide (v_37 = (1 : Int))))]) hk2 ((rfl : _ = v_29).trans hk1) (evC rfl (evC rfl (evC rfl evN))) (h.mono ?_))
   clear h; rintro v F ⟨v_39, rfl, h⟩
   refine HL_nil ?_
   refine HC_cond (t := v_39) rfl (fun hc => ?_) (fun hc => ?_)
   ·
    replace h := h.1 hc
    clear hc
    refine cR ?_
    refine sR (.int .i64 (1 : Int)) (r_assign rfl rfl) ?_
    refine HL_nil ?_
    exact HC_ret (show endQ prog f97 R .ret _ _ from ⟨_, res1 rfl (rv_tmp rfl), h⟩)
   ·
    replace h := h.2 hc
    clear hc
    refine HC_skip ?_
    refine cR ?_
    refine sR (.int .i64 (0 : Int)) (r_assign rfl rfl) ?_
    refine HL_nil ?_
    exact HC_ret (show endQ prog f97 R .ret _ _ from ⟨_, res1 rfl (rv_tmp rfl), h⟩)
  ·
   replace h := h.2 hc
   clear hc
   refine HC_skip ?_
   refine HC_seq ?_
   refine cR ?_
   obtain ⟨v2a_, rfl, h⟩ := h
   obtain ⟨v_41, hc41, h⟩ := h
   refine sR (.map v_41) (r_load1 rfl h2 underlying112 rfl hc41) ?_
   obtain ⟨v_42, hs42, hc42, h⟩ := h
   refine sR (.agg v_42) (w_loadN h6 underlying114 rfl sz114 hs42 hc42) ?_
   obtain ⟨v_43, ok43_, hc43, h⟩ := h
   refine sR (.tuple #[(.int .i64 v_43), (.bool ok43_)]) (r_lookup rfl rfl rfl hc43) ?_
   refine sR (.tuple #[(.int .i64 v_43), (.bool ok43_)]) (r_move rfl rfl) ?_
   refine sR (.int .i64 v_43) (r_extract rfl rfl rfl) ?_
   refine sR (.bool ok43_) (r_extract rfl rfl rfl) ?_
   refine sR (.int .i64 v_43) (r_assign rfl rfl) ?_
   refine sR (.bool ok43_) (r_assign rfl rfl) ?_
   refine HL_nil ?_
   refine cR ?_
   refine sR (.bool ok43_) (r_move rfl rfl) ?_
   refine HL_nil ?_
   refine HC_cond (t := ok43_) rfl (fun hc => ?_) (fun hc => ?_)
   ·
    replace h := h.1 hc
    clear hc
    refine cR ?_
    refine sR (.int .i64 v_43) (r_move rfl rfl) ?_
    refine sR (.int .i64 v_43) (r_assign rfl rfl) ?_
    refine HL_nil ?_
    exact HC_ret (show endQ prog f97 R .ret _ _ from ⟨_, res1 rfl (rv_tmp rfl), h⟩)
   ·
    replace h := h.2 hc
    clear hc
    refine HC_skip ?_
    refine HC_seq ?_
    refine HC_draw0 (by kernel_rfl) (fun hp => ?_)
    obtain ⟨v3a_, rfl, h⟩ := h
    obtain ⟨hl48, hu48, h⟩ := h
    refine gU 0 (.pointer (some (Addr.add v3a_ (Int.toNat (0 : Int) * 2)))) rfl (fun _ => r_indexAddrAr rfl h3 rfl underlying89 sz28 hl48 (by exact hu48)) hp ?_
    obtain ⟨v_49, hs49, hc49, h⟩ := h
    refine gR 1 (.agg v_49) rfl (w_loadN rfl underlying28 rfl sz28 hs49 hc49) hp (fun S1 q1 => ?_)
    replace hp := holdC (i := 1) (q1 _ (w_loadN rfl underlying28 rfl sz28 hs49 hc49)) hp
    obtain ⟨hl50, hu50, h⟩ := h
    refine gU 2 (.pointer (some (Addr.add (Addr.mk b6 0 none) (Int.toNat (0 : Int) * 1)))) rfl (fun _ => r_indexAddrAr rfl h6 rfl underlying114 sz3 hl50 (by exact hu50)) hp ?_
    obtain ⟨v_51, hc51, h⟩ := h
    refine gR 3 (.int .i64 v_51) rfl (r_load1 rfl rfl underlying3 rfl hc51) hp (fun S3 q3 => ?_)
    replace hp := holdC (i := 3) (q3 _ (r_load1 rfl rfl underlying3 rfl hc51)) hp
    obtain ⟨hl53, hu53, h⟩ := h
    refine gU 5 (.pointer (some (Addr.add v3a_ (Int.toNat (1 : Int) * 2)))) rfl (fun _ => r_indexAddrAr rfl h3 rfl underlying89 sz28 hl53 (by exact hu53)) hp ?_
    obtain ⟨v_54, hs54, hc54, h⟩ := h
    refine gR 6 (.agg v_54) rfl (w_loadN rfl underlying28 rfl sz28 hs54 hc54) hp (fun S6 q6 => ?_)
    replace hp := holdC (i := 6) (q6 _ (w_loadN rfl underlying28 rfl sz28 hs54 hc54)) hp
    obtain ⟨hl55, hu55, h⟩ := h
    refine gU 7 (.pointer (some (Addr.add (Addr.mk b6 0 none) (Int.toNat (1 : Int) * 1)))) rfl (fun _ => r_indexAddrAr rfl h6 rfl underlying114 sz3 hl55 (by exact hu55)) hp ?_
    obtain ⟨v_56, hc56, h⟩ := h
    refine gR 8 (.int .i64 v_56) rfl (r_load1 rfl rfl underlying3 rfl hc56) hp (fun S8 q8 => ?_)
    replace hp := holdC (i := 8) (q8 _ (r_load1 rfl rfl underlying3 rfl hc56)) hp
    obtain ⟨hl58, hu58, h⟩ := h
    refine gU 10 (.pointer (some (Addr.add v3a_ (Int.toNat (2 : Int) * 2)))) rfl (fun _ => r_indexAddrAr rfl h3 rfl underlying89 sz28 hl58 (by exact hu58)) hp ?_
    obtain ⟨v_59, hs59, hc59, h⟩ := h
    refine gR 11 (.agg v_59) rfl (w_loadN rfl underlying28 rfl sz28 hs59 hc59) hp (fun S11 q11 => ?_)
    replace hp := holdC (i := 11) (q11 _ (w_loadN rfl underlying28 rfl sz28 hs59 hc59)) hp
    obtain ⟨hl60, hu60, h⟩ := h
    refine gU 12 (.pointer (some (Addr.add (Addr.mk b6 0 none) (Int.toNat (2 : Int) * 1)))) rfl (fun _ => r_indexAddrAr rfl h6 rfl underlying114 sz3 hl60 (by exact hu60)) hp ?_
    obtain ⟨v_61, hc61, h⟩ := h
    refine gR 13 (.int .i64 v_61) rfl (r_load1 rfl rfl underlying3 rfl hc61) hp (fun S13 q13 => ?_)
    replace hp := holdC (i := 13) (q13 _ (r_load1 rfl rfl underlying3 rfl hc61)) hp
    refine RG_eff1 (i := 4) (by kernel_rfl) (g_op (Sp' := [(13, S13), (11, S11), (8, S8), (6, S6)]) rfl rfl (k_call (vs := [(.agg v_49), (.int .i64 v_51)]) cb63 (evC rfl (evC rfl evN)) (h.mono ?_)))
    clear h; rintro v F ⟨v_52, rfl, h⟩
    obtain ⟨hk_7, hk_8, hk_9, hk_10, h⟩ := h
    refine holdI (holdC (i := 13) (q13 _ (r_load1 rfl rfl underlying3 rfl hk_7)) (holdC (i := 11) (q11 _ (w_loadN rfl underlying28 rfl sz28 hs59 hk_8)) (holdC (i := 8) (q8 _ (r_load1 rfl rfl underlying3 rfl hk_9)) (holdC (i := 6) (q6 _ (w_loadN rfl underlying28 rfl sz28 hs54 hk_10)) hold0)))) (fun hp => ?_)
    refine RG_eff1 (i := 9) (by kernel_rfl) (g_op (Sp' := [(13, S13), (11, S11)]) rfl rfl (k_call (vs := [(.agg v_54), (.int .i64 v_56)]) cb63 (evC rfl (evC rfl evN)) (h.mono ?_)))
    clear h; rintro v F ⟨v_57, rfl, h⟩
    obtain ⟨hk_11, hk_12, h⟩ := h
    refine holdI (holdC (i := 13) (q13 _ (r_load1 rfl rfl underlying3 rfl hk_11)) (holdC (i := 11) (q11 _ (w_loadN rfl underlying28 rfl sz28 hs59 hk_12)) hold0)) (fun hp => ?_)
    refine RG_eff1 (i := 14) (by kernel_rfl) (g_op (Sp' := []) rfl rfl (k_call (vs := [(.agg v_59), (.int .i64 v_61)]) cb63 (evC rfl (evC rfl evN)) (h.mono ?_)))
    clear h; rintro v F ⟨v_62, rfl, h⟩
    refine holdI hold0 (fun hp => ?_)
    refine gU 15 (.int .i64 (min (min v_52 v_57) v_62)) rfl (fun _ => r_min3 rfl rfl rfl rfl) hp ?_
    refine gU 16 (.int .i64 (min (min v_52 v_57) v_62)) rfl (fun _ => r_assign rfl rfl) hp ?_
    refine RG_done (by kernel_rfl) ?_
    refine cR ?_
    refine s_ef (k_alloc zr114 ?_)
    intro b11 hf_b11
    replace h := atE (h b11 hf_b11)
    refine s_ef (k_alloc zr114 ?_)
    intro b12 hf_b12
    replace h := atE (h b12 hf_b12)
    refine HL_nil ?_
    refine HC_seqJ (b97J2 v2a_ v_4 v_5 b6 v_52 v_57 v_62 b11 b12 R) ?_ ?_
    ·
     clear h; rintro E F ⟨h2, h4, h5, h6, h10, h11, h12, h⟩
     unfold b97j2 at h
     refine cR ?_
     obtain ⟨v4a_, rfl, h⟩ := h
     obtain ⟨v_83, hc83, h⟩ := h
     refine sR v_83 (r_load1 rfl h4 underlying113 rfl hc83) ?_
     obtain ⟨v_84, hs84, hc84, h⟩ := h
     refine sR (.agg v_84) (w_loadN h11 underlying114 rfl sz114 hs84 hc84) ?_
     obtain ⟨_, _, _, hk1, hk2, h⟩ := h
     refine s_ef (k_callF (vs := [(.agg v_84)]) hk2 ((rfl : _ = v_83).trans hk1) (evC rfl evN) (h.mono ?_))
     clear h; rintro v F ⟨v_85, rfl, h⟩
     refine sR (.int .i64 v_85) (r_assign rfl rfl) ?_
     refine HL_nil ?_
     refine HC_seq ?_
     refine HC_draw0 (by kernel_rfl) (fun hp => ?_)
     obtain ⟨v5a_, rfl, h⟩ := h
     obtain ⟨v_86, hc86, h⟩ := h
     refine gR 0 (.pointer v_86) rfl (r_load1 rfl h5 underlying81 rfl hc86) hp (fun S0 q0 => ?_)
     replace hp := holdC (i := 0) (q0 _ (r_load1 rfl h5 underlying81 rfl hc86)) hp
     refine gU 1 (.int .i64 (min (min v_52 v_57) v_62)) rfl (fun _ => r_move rfl h10) hp ?_
     refine gU 2 (.int .i64 v_85) rfl (fun _ => r_move rfl rfl) hp ?_
     obtain ⟨v_89, hc89, h⟩ := h
     refine gR 3 v_89 rfl (r_load1 rfl h4 underlying113 rfl hc89) hp (fun S3 q3 => ?_)
     replace hp := holdC (i := 3) (q3 _ (r_load1 rfl h4 underlying113 rfl hc89)) hp
     obtain ⟨v_90, hs90, hc90, h⟩ := h
     refine gR 4 (.agg v_90) rfl (w_loadN h12 underlying114 rfl sz114 hs90 hc90) hp (fun S4 q4 => ?_)
     replace hp := holdC (i := 4) (q4 _ (w_loadN h12 underlying114 rfl sz114 hs90 hc90)) hp
     obtain ⟨_, _, _, hk1, hk2, h⟩ := h
     refine RG_eff1 (i := 5) (by kernel_rfl) (g_op (Sp' := [(0, S0)]) rfl rfl (k_callF (vs := [(.agg v_90)]) hk2 ((rfl : _ = v_89).trans hk1) (evC rfl evN) (h.mono ?_)))
     clear h; rintro v F ⟨v_91, rfl, h⟩
     obtain ⟨hk_14, h⟩ := h
     refine holdI (holdC (i := 0) (q0 _ (r_load1 rfl h5 underlying81 rfl hk_14)) hold0) (fun hp => ?_)
     refine RG_eff1 (i := 6) (by kernel_rfl) (g_op (Sp' := []) rfl rfl (k_call (vs := [(.pointer v_86), (.int .i64 (min (min v_52 v_57) v_62)), (.int .i64 v_85), (.int .i64 v_91)]) cb99 (evC rfl (evC rfl (evC rfl (evC rfl evN)))) (h.mono ?_)))
     clear h; rintro v F ⟨v_92, rfl, h⟩
     refine holdI hold0 (fun hp => ?_)
     refine gU 7 (.int .i64 v_92) rfl (fun _ => r_assign rfl rfl) hp ?_
     refine RG_done (by kernel_rfl) ?_
     refine cR ?_
     obtain ⟨v_93, hc93, h⟩ := h
     refine sR (.map v_93) (r_load1 rfl h2 underlying112 rfl hc93) ?_
     obtain ⟨v_94, hs94, hc94, h⟩ := h
     refine sR (.agg v_94) (w_loadN h6 underlying114 rfl sz114 hs94 hc94) ?_
     refine sR (.int .i64 v_92) (r_move rfl rfl) ?_
     refine s_ef0 (k_mapUpdate rfl rfl rfl (runs_mono _ _ h ?_))
     clear h; rintro _ F h
     refine HL_nil ?_
     refine cR ?_
     refine sR (.int .i64 v_92) (r_move rfl rfl) ?_
     refine sR (.int .i64 v_92) (r_assign rfl rfl) ?_
     refine HL_nil ?_
     exact HC_ret (show endQ prog f97 R .ret _ _ from ⟨_, res1 rfl (rv_tmp rfl), h⟩)
    ·
     skip
     refine cR ?_
     refine sR (.int .i64 (0 : Int)) (r_move rfl rfl) ?_
     refine HL_nil ?_
     refine HC_block ?_
     obtain ⟨I1, m1, hI0, hr⟩ := h
     refine HC_loop (fun m1 E F => ∃ v_64 : Int, E 2 = (.pointer (some v2a_)) ∧ E 3 = (.pointer (some v3a_)) ∧ E 4 = (.pointer v_4) ∧ E 5 = (.pointer v_5) ∧ E 6 = (.pointer (some (Addr.mk b6 0 none))) ∧ E 10 = (.int .i64 (min (min v_52 v_57) v_62)) ∧ E 11 = (.pointer (some (Addr.mk b11 0 none))) ∧ E 12 = (.pointer (some (Addr.mk b12 0 none))) ∧ E 64 = (.int .i64 v_64) ∧ I1 m1 v_64 F) m1 ⟨_, h2, h3, h4, h5, h6, rfl, rfl, rfl, rfl, hI0⟩ ?_
     clear hI0; rintro m1 E F ⟨v_64, h2, h3, h4, h5, h6, h10, h11, h12, h64, hI⟩
     have h := hr m1 v_64 F hI
     clear hr hI
     unfold b97L1 at h
     refine cR ?_
     refine sR (.bool (decide (v_64 < (3 : Int)))) (r_lss rfl h64 rfl) ?_
     refine HL_nil ?_
     refine HC_seq ?_
     refine HC_cond (t := (decide (v_64 < (3 : Int)))) rfl (fun hc => ?_) (fun hc => ?_)
     ·
      replace h := h.1 (of_decide_eq_true hc)
      clear hc
      refine HC_skip ?_
      refine HC_seq ?_
      refine HC_block ?_
      refine cR ?_
      refine sR (.int .i64 v_64) (r_move rfl h64) ?_
      refine sR (.int .i64 v_64) (r_assign rfl rfl) ?_
      refine HL_nil ?_
      refine HC_draw0 (by kernel_rfl) (fun hp => ?_)
      refine gU 0 (.int .i64 v_64) rfl (fun _ => r_move rfl rfl) hp ?_
      refine gU 1 (.int .i64 v_64) rfl (fun _ => r_move rfl rfl) hp ?_
      refine gU 2 (.int .i64 v_64) rfl (fun _ => r_move rfl rfl) hp ?_
      obtain ⟨hl71, hu71, h⟩ := h
      refine gU 3 (.pointer (some (Addr.add v3a_ (Int.toNat v_64 * 2)))) rfl (fun _ => r_indexAddrAr rfl h3 rfl underlying89 sz28 hl71 (by exact hu71)) hp ?_
      obtain ⟨v_72, hs72, hc72, h⟩ := h
      refine gR 4 (.agg v_72) rfl (w_loadN rfl underlying28 rfl sz28 hs72 hc72) hp (fun S4 q4 => ?_)
      replace hp := holdC (i := 4) (q4 _ (w_loadN rfl underlying28 rfl sz28 hs72 hc72)) hp
      refine gU 5 (.int .i64 v_64) rfl (fun _ => r_move rfl rfl) hp ?_
      obtain ⟨hl74, hu74, h⟩ := h
      refine gU 6 (.pointer (some (Addr.add (Addr.mk b6 0 none) (Int.toNat v_64 * 1)))) rfl (fun _ => r_indexAddrAr rfl h6 rfl underlying114 sz3 hl74 (by exact hu74)) hp ?_
      obtain ⟨v_75, hc75, h⟩ := h
      refine gR 7 (.int .i64 v_75) rfl (r_load1 rfl rfl underlying3 rfl hc75) hp (fun S7 q7 => ?_)
      replace hp := holdC (i := 7) (q7 _ (r_load1 rfl rfl underlying3 rfl hc75)) hp
      refine gU 8 (.int .i64 (min (min v_52 v_57) v_62)) rfl (fun _ => r_move rfl h10) hp ?_
      refine RG_eff1 (i := 9) (by kernel_rfl) (g_op (Sp' := []) rfl rfl (k_call (vs := [(.agg v_72), (.int .i64 v_75), (.int .i64 (min (min v_52 v_57) v_62))]) cb98 (evC rfl (evC rfl (evC rfl evN))) (h.mono ?_)))
      clear h; rintro v F ⟨v_77, v_77_1, rfl, h⟩
      refine holdI hold0 (fun hp => ?_)
      refine gU 10 (.tuple #[(.int .i64 v_77), (.int .i64 v_77_1)]) rfl (fun _ => r_move rfl rfl) hp ?_
      refine gU 11 (.int .i64 v_77) rfl (fun _ => r_extract rfl rfl rfl) hp ?_
      refine gU 12 (.int .i64 v_77_1) rfl (fun _ => r_extract rfl rfl rfl) hp ?_
      obtain ⟨hl80, hu80, h⟩ := h
      refine gU 13 (.pointer (some (Addr.add (Addr.mk b11 0 none) (Int.toNat v_64 * 1)))) rfl (fun _ => r_indexAddrAr rfl h11 rfl underlying114 sz3 hl80 (by exact hu80)) hp ?_
      refine RG_eff1 (i := 14) (by kernel_rfl) (g_op0 (Sp' := []) rfl rfl (k_store1 (v := (.int .i64 v_77)) rfl rfl sz3 rfl st_int ?_))
      obtain ⟨c, e, hz3, hz4, hz5, h⟩ := h
      refine ⟨c, e, hz3, hz4, hz5, ?_⟩
      replace h := atE h
      refine holdI hold0 (fun hp => ?_)
      obtain ⟨hl81, hu81, h⟩ := h
      refine gU 15 (.pointer (some (Addr.add (Addr.mk b12 0 none) (Int.toNat v_64 * 1)))) rfl (fun _ => r_indexAddrAr rfl h12 rfl underlying114 sz3 hl81 (by exact hu81)) hp ?_
      refine RG_eff1 (i := 16) (by kernel_rfl) (g_op0 (Sp' := []) rfl rfl (k_store1 (v := (.int .i64 v_77_1)) rfl rfl sz3 rfl st_int ?_))
      obtain ⟨c, e, hz3, hz4, hz5, h⟩ := h
      refine ⟨c, e, hz3, hz4, hz5, ?_⟩
      replace h := atE h
      refine holdI hold0 (fun hp => ?_)
      refine RG_done (by kernel_rfl) ?_
      refine HC_region ?_
      refine sR (.int .i64 (IntKind.i64.wrap (v_64 + (1 : Int)))) (r_add rfl h64 rfl) ?_
      refine sR (.int .i64 (IntKind.i64.wrap (v_64 + (1 : Int)))) (r_move rfl rfl) ?_
      refine HL_nil ?_
      obtain ⟨m', hm, h⟩ := h
      exact ⟨m', hm, _, h2, h3, h4, h5, h6, h10, h11, h12, rfl, h⟩
     ·
      replace h := h.2 (of_decide_eq_false hc)
      clear hc
      refine HC_exit ?_
      show b97J2 v2a_ v_4 v_5 b6 v_52 v_57 v_62 b11 b12 R _ _
      exact ⟨h2, h4, h5, h6, h10, h11, h12, h⟩
 ·
  skip
  refine HC_region ?_
  obtain ⟨hl16, hu16, h⟩ := h
  refine sR (.pointer (some (Addr.add (Addr.mk b6 0 none) (Int.toNat (0 : Int) * 1)))) (r_indexAddrAr rfl rfl rfl underlying114 sz3 hl16 (by exact hu16)) ?_
  obtain ⟨v_17, hc17, h⟩ := h
  refine sR (.int .i64 v_17) (r_load1 rfl rfl underlying3 rfl hc17) ?_
  refine sR (.bool (decide (v_17 < (2 : Int)))) (r_lss rfl rfl rfl) ?_
  refine sR (.bool (decide (v_17 < (2 : Int)))) (r_move rfl rfl) ?_
  by_cases hc : v_17 < (2 : Int)
  ·
   replace h := h.1 hc
   refine kN 18 (decide_eq_true hc) ?_
   refine kN 19 (decide_eq_true hc) ?_
   obtain ⟨hl20, hu20, h⟩ := h
   refine sR (.pointer (some (Addr.add (Addr.mk b6 0 none) (Int.toNat (1 : Int) * 1)))) (r_indexAddrAr rfl rfl rfl underlying114 sz3 hl20 (by exact hu20)) ?_
   obtain ⟨v_21, hc21, h⟩ := h
   refine sR (.int .i64 v_21) (r_load1 rfl rfl underlying3 rfl hc21) ?_
   refine sR (.bool (decide (v_21 < (2 : Int)))) (r_lss rfl rfl rfl) ?_
   refine sR (.bool (decide (v_21 < (2 : Int)))) (r_pick rfl rfl (fun _ => rfl) (fun h => by cases h)) ?_
   refine sR (.bool (decide (v_21 < (2 : Int)))) (r_move rfl rfl) ?_
   by_cases hc : v_21 < (2 : Int)
   ·
    replace h := h.1 hc
    refine kN 22 (decide_eq_true hc) ?_
    refine kN 23 (decide_eq_true hc) ?_
    refine kN 24 (decide_eq_true hc) ?_
    obtain ⟨hl25, hu25, h⟩ := h
    refine sR (.pointer (some (Addr.add (Addr.mk b6 0 none) (Int.toNat (2 : Int) * 1)))) (r_indexAddrAr rfl rfl rfl underlying114 sz3 hl25 (by exact hu25)) ?_
    obtain ⟨v_26, hc26, h⟩ := h
    refine sR (.int .i64 v_26) (r_load1 rfl rfl underlying3 rfl hc26) ?_
    refine sR (.bool (decide (v_26 < (2 : Int)))) (r_lss rfl rfl rfl) ?_
    refine sR (.bool (decide (v_26 < (2 : Int)))) (r_pick rfl rfl (fun _ => rfl) (fun h => by cases h)) ?_
    refine HL_nil ?_
    show b97J1 v_1 v_2 v_3 v_4 v_5 b6 R _ _
    exact ⟨_, rfl, rfl, rfl, rfl, rfl, rfl, rfl, h⟩
   ·
    replace h := h.2 hc
    refine kN 22 (decide_eq_false hc) ?_
    refine kN 23 (decide_eq_false hc) ?_
    refine kN 24 (decide_eq_false hc) ?_
    refine s_skip ?_
    refine s_skip ?_
    refine s_skip ?_
    refine sR (.bool false) (r_pick rfl rfl (fun h => by cases h) (fun _ => rfl)) ?_
    refine HL_nil ?_
    show b97J1 v_1 v_2 v_3 v_4 v_5 b6 R _ _
    exact ⟨_, rfl, rfl, rfl, rfl, rfl, rfl, rfl, h⟩
  ·
   replace h := h.2 hc
   refine kN 18 (decide_eq_false hc) ?_
   refine kN 19 (decide_eq_false hc) ?_
   refine s_skip ?_
   refine s_skip ?_
   refine s_skip ?_
   refine sR (.bool false) (r_pick rfl rfl (fun h => by cases h) (fun _ => rfl)) ?_
   refine sR (.bool false) (r_move rfl rfl) ?_
   refine s_skip ?_
   refine s_skip ?_
   refine s_skip ?_
   refine sR (.bool false) (r_pick rfl rfl (fun h => by cases h) (fun _ => rfl)) ?_
   refine HL_nil ?_
   show b97J1 v_1 v_2 v_3 v_4 v_5 b6 R _ _
   exact ⟨_, rfl, rfl, rfl, rfl, rfl, rfl, rfl, h⟩

/- 70 koine.diagram.combine -/
def b70 (l_0 : Array Value) (op_1 : Value) (R : Value → PH → Prop) (F : PH) : Prop :=
 ∀ b2, F b2 = none → atF (F.set b2 (.cells l_0 89)) fun F =>
 op_1.cells = #[op_1] ∧ ∀ b3, F b3 = none → atF (F.set b3 (.cells #[op_1] 90)) fun F =>
 ∀ b4, F b4 = none → atF (F.set b4 (.cells (#[.slice none 0 0, .int .i64 0]) 28)) fun F =>
 Spec prog 96 #[] F fun v F => ∃ v_8 : Option Addr, v = (.pointer v_8) ∧
 ∀ b5, F b5 = none → atF (F.set b5 (.cells (#[.pointer none]) 81)) fun F =>
 ∃ c e, F (Addr.mk b5 0 none).block = some (.cells c e (0, 0)) ∧ (Addr.mk b5 0 none).spot = none ∧ (Addr.mk b5 0 none).off < c.size ∧
 atF (F.set (Addr.mk b5 0 none).block (.cells (c.setIfInBounds (Addr.mk b5 0 none).off (.pointer v_8)) e)) fun F =>
 ∀ b9, F b9 = none → atF (F.set b9 (.map #[] 0)) fun F =>
 ∀ b6, F b6 = none → atF (F.set b6 (.cells (#[.map none]) 112)) fun F =>
 ∃ c e, F (Addr.mk b6 0 none).block = some (.cells c e (0, 0)) ∧ (Addr.mk b6 0 none).spot = none ∧ (Addr.mk b6 0 none).off < c.size ∧
 atF (F.set (Addr.mk b6 0 none).block (.cells (c.setIfInBounds (Addr.mk b6 0 none).off (.map (some b9))) e)) fun F =>
 ∀ b7, F b7 = none → atF (F.set b7 (.cells (#[.nilFunc]) 113)) fun F =>
 ∃ c e, F (Addr.mk b7 0 none).block = some (.cells c e (0, 0)) ∧ (Addr.mk b7 0 none).spot = none ∧ (Addr.mk b7 0 none).off < c.size ∧
 atF (F.set (Addr.mk b7 0 none).block (.cells (c.setIfInBounds (Addr.mk b7 0 none).off (.func (.func 97) #[] #[(.pointer (some (Addr.mk b3 0 none))), (.pointer (some (Addr.mk b6 0 none))), (.pointer (some (Addr.mk b2 0 none))), (.pointer (some (Addr.mk b7 0 none))), (.pointer (some (Addr.mk b5 0 none)))])) e)) fun F =>
 ∃ v_11 : Option Addr, F.cell (Addr.mk b5 0 none) = some (.pointer v_11) ∧
 ∃ v_12 : Value, F.cell (Addr.mk b7 0 none) = some v_12 ∧
 0 ≤ (0 : Int) ∧ (0 : Int) < (3 : Int) ∧
 ∃ v_15 : Int, F.cell (Addr.add (Addr.add (Addr.mk b2 0 none) (Int.toNat (0 : Int) * 2)) 1) = some (.int .i64 v_15) ∧
 0 ≤ (1 : Int) ∧ (1 : Int) < (3 : Int) ∧
 ∃ v_18 : Int, F.cell (Addr.add (Addr.add (Addr.mk b2 0 none) (Int.toNat (1 : Int) * 2)) 1) = some (.int .i64 v_18) ∧
 0 ≤ (2 : Int) ∧ (2 : Int) < (3 : Int) ∧
 ∃ v_21 : Int, F.cell (Addr.add (Addr.add (Addr.mk b2 0 none) (Int.toNat (2 : Int) * 2)) 1) = some (.int .i64 v_21) ∧
 ∃ (k23 : Nat) (fst23 cap23 : Array Value), v_12 = Value.func (.func k23) fst23 cap23 ∧ callableB prog k23 = true ∧ Spec prog k23 (fst23 ++ ([(Value.agg (#[(Value.int .i64 v_15), (Value.int .i64 v_18), (Value.int .i64 v_21)] : Array Value))]).toArray ++ cap23) F fun v F => ∃ v_23 : Int, v = (Value.int .i64 v_23) ∧
 F.cell (Addr.add (Addr.add (Addr.mk b2 0 none) (Int.toNat (2 : Int) * 2)) 1) = some (.int .i64 v_21) ∧ F.cell (Addr.add (Addr.add (Addr.mk b2 0 none) (Int.toNat (1 : Int) * 2)) 1) = some (.int .i64 v_18) ∧ F.cell (Addr.add (Addr.add (Addr.mk b2 0 none) (Int.toNat (0 : Int) * 2)) 1) = some (.int .i64 v_15) ∧ F.cell (Addr.mk b5 0 none) = some (.pointer v_11) ∧ Spec prog 64 #[(.pointer v_11), (.int .i64 v_23)] F fun v F => ∃ v_24 : Array Value, v = (.agg v_24) ∧
 F.cell (Addr.add (Addr.add (Addr.mk b2 0 none) (Int.toNat (2 : Int) * 2)) 1) = some (.int .i64 v_21) ∧ F.cell (Addr.add (Addr.add (Addr.mk b2 0 none) (Int.toNat (1 : Int) * 2)) 1) = some (.int .i64 v_18) ∧ F.cell (Addr.add (Addr.add (Addr.mk b2 0 none) (Int.toNat (0 : Int) * 2)) 1) = some (.int .i64 v_15) ∧ v_24.size = 2 ∧ (∀ v ∈ v_24.toList, storable v) ∧ ∃ c e, F (Addr.mk b4 0 none).block = some (.cells c e (0, 0)) ∧ (Addr.mk b4 0 none).spot = none ∧ (Addr.mk b4 0 none).off + 2 ≤ c.size ∧
 atF (F.set (Addr.mk b4 0 none).block (.cells (wr c (Addr.mk b4 0 none).off v_24.toList) e)) fun F =>
 ∃ vres_4 : Array Value, vres_4.size = 2 ∧ F.row (Addr.mk b4 0 none) vres_4 ∧ R (.agg vres_4) F
theorem c70 {l_0 : Array Value} {op_1 : Value} {R : Value → PH → Prop} {F : PH} (h : b70 l_0 op_1 R F) : Spec prog 70 #[(.agg l_0), op_1] F R := by
 refine spec_of (args := [(.agg l_0), op_1]) func70 rfl ntmps70 rfl ?_
 unfold b70 at h
 refine cR ?_
 refine s_ef (k_box (cs := l_0) rfl rfl ?_)
 intro b2 hf_b2
 replace h := atE (h b2 hf_b2)
 obtain ⟨hcl, h⟩ := h
 refine s_ef (k_box (cs := #[op_1]) rfl hcl ?_)
 intro b3 hf_b3
 replace h := atE (h b3 hf_b3)
 refine s_ef (k_alloc zr28 ?_)
 intro b4 hf_b4
 replace h := atE (h b4 hf_b4)
 refine HL_nil ?_
 refine cR ?_
 refine s_ef (k_call (vs := []) cb96 evN (h.mono ?_))
 clear h; rintro v F ⟨v_8, rfl, h⟩
 refine s_ef (k_alloc zr81 ?_)
 intro b5 hf_b5
 replace h := atE (h b5 hf_b5)
 refine s_ef0 (k_store1 (v := (.pointer v_8)) rfl rfl sz81 rfl st_ptr ?_)
 obtain ⟨c, e, hz3, hz4, hz5, h⟩ := h
 refine ⟨c, e, hz3, hz4, hz5, ?_⟩
 replace h := atE h
 refine HL_nil ?_
 refine cR ?_
 refine s_ef (k_makeMap0 ?_)
 intro b9 hf_b9
 replace h := atE (h b9 hf_b9)
 refine s_ef (k_alloc zr112 ?_)
 intro b6 hf_b6
 replace h := atE (h b6 hf_b6)
 refine s_ef0 (k_store1 (v := (.map (some b9))) rfl rfl sz112 rfl st_map ?_)
 obtain ⟨c, e, hz3, hz4, hz5, h⟩ := h
 refine ⟨c, e, hz3, hz4, hz5, ?_⟩
 replace h := atE h
 refine HL_nil ?_
 refine cR ?_
 refine s_ef (k_alloc zr113 ?_)
 intro b7 hf_b7
 replace h := atE (h b7 hf_b7)
 refine HL_nil ?_
 refine cR ?_
 refine sR (.func (.func 97) #[] #[(.pointer (some (Addr.mk b3 0 none))), (.pointer (some (Addr.mk b6 0 none))), (.pointer (some (Addr.mk b2 0 none))), (.pointer (some (Addr.mk b7 0 none))), (.pointer (some (Addr.mk b5 0 none)))]) (w_makeFunc evN (evC rfl (evC rfl (evC rfl (evC rfl (evC rfl evN)))))) ?_
 refine s_ef0 (k_store1 (v := (.func (.func 97) #[] #[(.pointer (some (Addr.mk b3 0 none))), (.pointer (some (Addr.mk b6 0 none))), (.pointer (some (Addr.mk b2 0 none))), (.pointer (some (Addr.mk b7 0 none))), (.pointer (some (Addr.mk b5 0 none)))])) rfl rfl sz113 rfl st_func ?_)
 obtain ⟨c, e, hz3, hz4, hz5, h⟩ := h
 refine ⟨c, e, hz3, hz4, hz5, ?_⟩
 replace h := atE h
 refine HL_nil ?_
 refine HC_seq ?_
 refine HC_draw0 (by kernel_rfl) (fun hp => ?_)
 obtain ⟨v_11, hc11, h⟩ := h
 refine gR 0 (.pointer v_11) rfl (r_load1 rfl rfl underlying81 rfl hc11) hp (fun S0 q0 => ?_)
 replace hp := holdC (i := 0) (q0 _ (r_load1 rfl rfl underlying81 rfl hc11)) hp
 obtain ⟨v_12, hc12, h⟩ := h
 refine gR 1 v_12 rfl (r_load1 rfl rfl underlying113 rfl hc12) hp (fun S1 q1 => ?_)
 replace hp := holdC (i := 1) (q1 _ (r_load1 rfl rfl underlying113 rfl hc12)) hp
 obtain ⟨hl13, hu13, h⟩ := h
 refine gU 2 (.pointer (some (Addr.add (Addr.mk b2 0 none) (Int.toNat (0 : Int) * 2)))) rfl (fun _ => r_indexAddrAr rfl rfl rfl underlying89 sz28 hl13 (by exact hu13)) hp ?_
 refine gU 3 (.pointer (some (Addr.add (Addr.add (Addr.mk b2 0 none) (Int.toNat (0 : Int) * 2)) 1))) rfl (fun _ => w_fieldAddr (a' := (Addr.add (Addr.add (Addr.mk b2 0 none) (Int.toNat (0 : Int) * 2)) 1)) rfl underlying28 rfl rfl sz3 rfl rfl) hp ?_
 obtain ⟨v_15, hc15, h⟩ := h
 refine gR 4 (.int .i64 v_15) rfl (r_load1 rfl rfl underlying3 rfl hc15) hp (fun S4 q4 => ?_)
 replace hp := holdC (i := 4) (q4 _ (r_load1 rfl rfl underlying3 rfl hc15)) hp
 obtain ⟨hl16, hu16, h⟩ := h
 refine gU 5 (.pointer (some (Addr.add (Addr.mk b2 0 none) (Int.toNat (1 : Int) * 2)))) rfl (fun _ => r_indexAddrAr rfl rfl rfl underlying89 sz28 hl16 (by exact hu16)) hp ?_
 refine gU 6 (.pointer (some (Addr.add (Addr.add (Addr.mk b2 0 none) (Int.toNat (1 : Int) * 2)) 1))) rfl (fun _ => w_fieldAddr (a' := (Addr.add (Addr.add (Addr.mk b2 0 none) (Int.toNat (1 : Int) * 2)) 1)) rfl underlying28 rfl rfl sz3 rfl rfl) hp ?_
 obtain ⟨v_18, hc18, h⟩ := h
 refine gR 7 (.int .i64 v_18) rfl (r_load1 rfl rfl underlying3 rfl hc18) hp (fun S7 q7 => ?_)
 replace hp := holdC (i := 7) (q7 _ (r_load1 rfl rfl underlying3 rfl hc18)) hp
 obtain ⟨hl19, hu19, h⟩ := h
 refine gU 8 (.pointer (some (Addr.add (Addr.mk b2 0 none) (Int.toNat (2 : Int) * 2)))) rfl (fun _ => r_indexAddrAr rfl rfl rfl underlying89 sz28 hl19 (by exact hu19)) hp ?_
 refine gU 9 (.pointer (some (Addr.add (Addr.add (Addr.mk b2 0 none) (Int.toNat (2 : Int) * 2)) 1))) rfl (fun _ => w_fieldAddr (a' := (Addr.add (Addr.add (Addr.mk b2 0 none) (Int.toNat (2 : Int) * 2)) 1)) rfl underlying28 rfl rfl sz3 rfl rfl) hp ?_
 obtain ⟨v_21, hc21, h⟩ := h
 refine gR 10 (.int .i64 v_21) rfl (r_load1 rfl rfl underlying3 rfl hc21) hp (fun S10 q10 => ?_)
 replace hp := holdC (i := 10) (q10 _ (r_load1 rfl rfl underlying3 rfl hc21)) hp
 refine gU 11 (.agg (#[(.int .i64 v_15), (.int .i64 v_18), (.int .i64 v_21)] : Array Value)) rfl (fun _ => w_buildArray (cells := #[(.int .i64 v_15), (.int .i64 v_18), (.int .i64 v_21)]) underlying114 zr114 sz3 (evPC rfl (evPC rfl (evPC rfl evPN))) (fill1 rfl rfl rfl (fill1 rfl rfl rfl (fill1 rfl rfl rfl (fillN rfl))))) hp ?_
 obtain ⟨_, _, _, hk1, hk2, h⟩ := h
 refine RG_eff1 (i := 12) (by kernel_rfl) (g_op (Sp' := [(10, S10), (7, S7), (4, S4), (0, S0)]) rfl rfl (k_callF (vs := [(.agg (#[(.int .i64 v_15), (.int .i64 v_18), (.int .i64 v_21)] : Array Value))]) hk2 ((rfl : _ = v_12).trans hk1) (evC rfl evN) (h.mono ?_)))
 clear h; rintro v F ⟨v_23, rfl, h⟩
 obtain ⟨hk_8, hk_9, hk_10, hk_11, h⟩ := h
 refine holdI (holdC (i := 10) (q10 _ (r_load1 rfl rfl underlying3 rfl hk_8)) (holdC (i := 7) (q7 _ (r_load1 rfl rfl underlying3 rfl hk_9)) (holdC (i := 4) (q4 _ (r_load1 rfl rfl underlying3 rfl hk_10)) (holdC (i := 0) (q0 _ (r_load1 rfl rfl underlying81 rfl hk_11)) hold0)))) (fun hp => ?_)
 refine RG_eff1 (i := 13) (by kernel_rfl) (g_op (Sp' := [(10, S10), (7, S7), (4, S4)]) rfl rfl (k_call (vs := [(.pointer v_11), (.int .i64 v_23)]) cb64 (evC rfl (evC rfl evN)) (h.mono ?_)))
 clear h; rintro v F ⟨v_24, rfl, h⟩
 obtain ⟨hk_12, hk_13, hk_14, h⟩ := h
 refine holdI (holdC (i := 10) (q10 _ (r_load1 rfl rfl underlying3 rfl hk_12)) (holdC (i := 7) (q7 _ (r_load1 rfl rfl underlying3 rfl hk_13)) (holdC (i := 4) (q4 _ (r_load1 rfl rfl underlying3 rfl hk_14)) hold0))) (fun hp => ?_)
 refine RG_eff1 (i := 14) (by kernel_rfl) (g_op0 (Sp' := []) rfl rfl (k_storeN (vs := v_24) rfl rfl sz28 (by decide) ?_))
 obtain ⟨hz1, hz2, c, e, hz3, hz4, hz5, h⟩ := h
 refine ⟨hz1, hz2, c, e, hz3, hz4, hz5, ?_⟩
 replace h := atE h
 refine holdI hold0 (fun hp => ?_)
 refine RG_done (by kernel_rfl) ?_
 obtain ⟨vres_4, hs4, hr4, h⟩ := h
 exact HC_ret (show endQ prog f70 R .ret _ _ from ⟨_, res1 rfl (rv_cellN rfl underlying28 rfl sz28 hs4 hr4), h⟩)

/- 94 koine.diagram.binary$1 -/
def b94 (x_0 : Bool) (y_1 : Bool) (v_2 : Bool) (v_3 : Option Addr) (R : Value → PH → Prop) (F : PH) : Prop :=
 ∃ v3a_ : Addr, v_3 = some v3a_ ∧ ∃ v_8 : Value, F.cell v3a_ = some v_8 ∧
 ∃ (k11 : Nat) (fst11 cap11 : Array Value), v_8 = Value.func (.func k11) fst11 cap11 ∧ callableB prog k11 = true ∧ Spec prog k11 (fst11 ++ ([(Value.bool x_0), (Value.bool y_1)]).toArray ++ cap11) F fun v F => ∃ v_11 : Bool, v = (Value.bool v_11) ∧
 R (.bool v_11) F
theorem c94 {x_0 : Bool} {y_1 : Bool} {v_2 : Bool} {v_3 : Option Addr} {R : Value → PH → Prop} {F : PH} (h : b94 x_0 y_1 v_2 v_3 R F) : Spec prog 94 #[(.bool x_0), (.bool y_1), (.bool v_2), (.pointer v_3)] F R := by
 refine spec_of (args := [(.bool x_0), (.bool y_1), (.bool v_2), (.pointer v_3)]) func94 rfl ntmps94 rfl ?_
 unfold b94 at h
 refine cR ?_
 refine sR (.bool false) (r_assign rfl rfl) ?_
 refine HL_nil ?_
 refine cR ?_
 obtain ⟨v3a_, rfl, h⟩ := h
 obtain ⟨v_8, hc8, h⟩ := h
 refine sR v_8 (r_load1 rfl rfl underlying78 rfl hc8) ?_
 refine sR (.bool x_0) (r_move rfl rfl) ?_
 refine sR (.bool y_1) (r_move rfl rfl) ?_
 obtain ⟨_, _, _, hk1, hk2, h⟩ := h
 refine s_ef (k_callF (vs := [(.bool x_0), (.bool y_1)]) hk2 ((rfl : _ = v_8).trans hk1) (evC rfl (evC rfl evN)) (h.mono ?_))
 clear h; rintro v F ⟨v_11, rfl, h⟩
 refine sR (.bool v_11) (r_assign rfl rfl) ?_
 refine HL_nil ?_
 exact HC_ret (show endQ prog f94 R .ret _ _ from ⟨_, res1 rfl (rv_tmp rfl), h⟩)

/- 60 koine.diagram.binary -/
def b60 (a_0 : Array Value) (b_1 : Array Value) (op_2 : Value) (R : Value → PH → Prop) (F : PH) : Prop :=
 ∀ b3, F b3 = none → atF (F.set b3 (.cells a_0 28)) fun F =>
 ∀ b4, F b4 = none → atF (F.set b4 (.cells b_1 28)) fun F =>
 op_2.cells = #[op_2] ∧ ∀ b5, F b5 = none → atF (F.set b5 (.cells #[op_2] 78)) fun F =>
 ∀ b6, F b6 = none → atF (F.set b6 (.cells (#[.slice none 0 0, .int .i64 0]) 28)) fun F =>
 ∃ v_9 : Array Value, v_9.size = 2 ∧ F.row (Addr.mk b3 0 none) v_9 ∧
 ∃ v_10 : Array Value, v_10.size = 2 ∧ F.row (Addr.mk b4 0 none) v_10 ∧
 v_9.size = 2 ∧ v_10.size = 2 ∧ ∀ b11, F b11 = none → atF (F.set b11 (.cells (wr (wr (#[.slice none 0 0, .int .i64 0, .slice none 0 0, .int .i64 0] : Array Value) 0 v_9.toList) 2 v_10.toList) 28)) fun F =>
 Spec prog 68 #[(Sl.v (Sl.mk (some (Addr.mk b11 0 none)) 2 2))] F fun v F => ∃ v_12 : Int, v = (.int .i64 v_12) ∧
 ((v_12 ≠ (0 : Int) →
  (#[.slice none 0 0, .int .i64 0] : Array Value).size = 2 ∧ (∀ v ∈ (#[.slice none 0 0, .int .i64 0] : Array Value).toList, storable v) ∧ ∃ c e, F (Addr.mk b6 0 none).block = some (.cells c e (0, 0)) ∧ (Addr.mk b6 0 none).spot = none ∧ (Addr.mk b6 0 none).off + 2 ≤ c.size ∧
  atF (F.set (Addr.mk b6 0 none).block (.cells (wr c (Addr.mk b6 0 none).off (#[.slice none 0 0, .int .i64 0] : Array Value).toList) e)) fun F =>
  ∃ vres_6 : Array Value, vres_6.size = 2 ∧ F.row (Addr.mk b6 0 none) vres_6 ∧ R (.tuple #[(.agg vres_6), (.int .i64 v_12)]) F) ∧
 (¬ (v_12 ≠ (0 : Int)) →
  ∃ v_17 : Array Value, v_17.size = 2 ∧ F.row (Addr.mk b3 0 none) v_17 ∧
  ∃ v_18 : Array Value, v_18.size = 2 ∧ F.row (Addr.mk b4 0 none) v_18 ∧
  v_17.size = 2 ∧ v_18.size = 2 ∧ (#[.slice none 0 0, .int .i64 0] : Array Value).size = 2 ∧ Spec prog 70 #[(.agg (wr (wr (wr (#[.slice none 0 0, .int .i64 0, .slice none 0 0, .int .i64 0, .slice none 0 0, .int .i64 0] : Array Value) 0 v_17.toList) 2 v_18.toList) 4 (#[.slice none 0 0, .int .i64 0] : Array Value).toList)), (.func (.func 94) #[] #[(.pointer (some (Addr.mk b5 0 none)))])] F fun v F => ∃ v_22 : Array Value, v = (.agg v_22) ∧
  Spec prog 69 #[(.agg v_22)] F fun v F => ∃ v_23 : Array Value, ∃ v_23_1 : Int, v = (.tuple #[(.agg v_23), (.int .i64 v_23_1)]) ∧
  v_23.size = 2 ∧ (∀ v ∈ v_23.toList, storable v) ∧ ∃ c e, F (Addr.mk b6 0 none).block = some (.cells c e (0, 0)) ∧ (Addr.mk b6 0 none).spot = none ∧ (Addr.mk b6 0 none).off + 2 ≤ c.size ∧
  atF (F.set (Addr.mk b6 0 none).block (.cells (wr c (Addr.mk b6 0 none).off v_23.toList) e)) fun F =>
  ∃ vres_6_1 : Array Value, vres_6_1.size = 2 ∧ F.row (Addr.mk b6 0 none) vres_6_1 ∧ R (.tuple #[(.agg vres_6_1), (.int .i64 v_23_1)]) F))
theorem c60 {a_0 : Array Value} {b_1 : Array Value} {op_2 : Value} {R : Value → PH → Prop} {F : PH} (h : b60 a_0 b_1 op_2 R F) : Spec prog 60 #[(.agg a_0), (.agg b_1), op_2] F R := by
 refine spec_of (args := [(.agg a_0), (.agg b_1), op_2]) func60 rfl ntmps60 rfl ?_
 unfold b60 at h
 refine cR ?_
 refine s_ef (k_box (cs := a_0) rfl rfl ?_)
 intro b3 hf_b3
 replace h := atE (h b3 hf_b3)
 refine s_ef (k_box (cs := b_1) rfl rfl ?_)
 intro b4 hf_b4
 replace h := atE (h b4 hf_b4)
 obtain ⟨hcl, h⟩ := h
 refine s_ef (k_box (cs := #[op_2]) rfl hcl ?_)
 intro b5 hf_b5
 replace h := atE (h b5 hf_b5)
 refine s_ef (k_alloc zr28 ?_)
 intro b6 hf_b6
 replace h := atE (h b6 hf_b6)
 refine sR (.int .i64 (0 : Int)) (r_assign rfl rfl) ?_
 refine HL_nil ?_
 refine HC_seq ?_
 refine cR ?_
 obtain ⟨v_9, hs9, hc9, h⟩ := h
 refine sR (.agg v_9) (w_loadN rfl underlying28 rfl sz28 hs9 hc9) ?_
 obtain ⟨v_10, hs10, hc10, h⟩ := h
 refine sR (.agg v_10) (w_loadN rfl underlying28 rfl sz28 hs10 hc10) ?_
 obtain ⟨hz11_0, hz11_1, h⟩ := h
 refine s_ef (k_buildSlice (cells := (wr (wr (#[.slice none 0 0, .int .i64 0, .slice none 0 0, .int .i64 0] : Array Value) 0 v_9.toList) 2 v_10.toList)) underlying100 sz28 (by decide) zr28 ((zc_flat _ rfl _).trans (rfl : _ = (#[.slice none 0 0, .int .i64 0, .slice none 0 0, .int .i64 0] : Array Value))) (evPC rfl (evPC rfl evPN)) (fillA rfl hz11_0 (by first | rfl | (simp only [wr_size, Array.size_setIfInBounds]; rfl)) (fillA rfl hz11_1 (by first | rfl | (simp only [wr_size, Array.size_setIfInBounds]; rfl)) (fillN rfl))) rfl ?_)
 intro b11 hf_b11
 replace h := atE (h b11 hf_b11)
 refine s_ef (k_call (vs := [(Sl.v (Sl.mk (some (Addr.mk b11 0 none)) 2 2))]) cb68 (evC rfl evN) (h.mono ?_))
 clear h; rintro v F ⟨v_12, rfl, h⟩
 refine sR (.int .i64 v_12) (r_assign rfl rfl) ?_
 refine HL_nil ?_
 refine cR ?_
 refine sR (.int .i64 v_12) (r_move rfl rfl) ?_
 refine sR (.bool (decide (v_12 ≠ (0 : Int)))) (w_neq rfl rfl) ?_
 refine HL_nil ?_
 refine HC_cond (t := (decide (v_12 ≠ (0 : Int)))) rfl (fun hc => ?_) (fun hc => ?_)
 ·
  replace h := h.1 (of_decide_eq_true hc)
  clear hc
  refine cR ?_
  refine sR (.agg (#[.slice none 0 0, .int .i64 0] : Array Value)) (w_buildStruct (cells := #[.slice none 0 0, .int .i64 0]) underlying28 zr28 kf28 (evPN) (fillN rfl)) ?_
  refine sR (.int .i64 v_12) (r_move rfl rfl) ?_
  refine s_ef0 (k_storeN (vs := (#[.slice none 0 0, .int .i64 0] : Array Value)) rfl rfl sz28 (by decide) ?_)
  obtain ⟨hz1, hz2, c, e, hz3, hz4, hz5, h⟩ := h
  refine ⟨hz1, hz2, c, e, hz3, hz4, hz5, ?_⟩
  replace h := atE h
  refine sR (.int .i64 v_12) (r_assign rfl rfl) ?_
  refine HL_nil ?_
  obtain ⟨vres_6, hs6, hr6, h⟩ := h
  exact HC_ret (show endQ prog f60 R .ret _ _ from ⟨_, res2 rfl (rv_cellN rfl underlying28 rfl sz28 hs6 hr6) (rv_tmp rfl), h⟩)
 ·
  replace h := h.2 (of_decide_eq_false hc)
  clear hc
  refine HC_skip ?_
  refine cR ?_
  obtain ⟨v_17, hs17, hc17, h⟩ := h
  refine sR (.agg v_17) (w_loadN rfl underlying28 rfl sz28 hs17 hc17) ?_
  obtain ⟨v_18, hs18, hc18, h⟩ := h
  refine sR (.agg v_18) (w_loadN rfl underlying28 rfl sz28 hs18 hc18) ?_
  refine sR (.agg (#[.slice none 0 0, .int .i64 0] : Array Value)) (w_buildStruct (cells := #[.slice none 0 0, .int .i64 0]) underlying28 zr28 kf28 (evPN) (fillN rfl)) ?_
  obtain ⟨hz20_0, hz20_1, hz20_2, h⟩ := h
  refine sR (.agg (wr (wr (wr (#[.slice none 0 0, .int .i64 0, .slice none 0 0, .int .i64 0, .slice none 0 0, .int .i64 0] : Array Value) 0 v_17.toList) 2 v_18.toList) 4 (#[.slice none 0 0, .int .i64 0] : Array Value).toList)) (w_buildArray (cells := (wr (wr (wr (#[.slice none 0 0, .int .i64 0, .slice none 0 0, .int .i64 0, .slice none 0 0, .int .i64 0] : Array Value) 0 v_17.toList) 2 v_18.toList) 4 (#[.slice none 0 0, .int .i64 0] : Array Value).toList)) underlying89 zr89 sz28 (evPC rfl (evPC rfl (evPC rfl evPN))) (fillA rfl hz20_0 (by first | rfl | (simp only [wr_size, Array.size_setIfInBounds]; rfl)) (fillA rfl hz20_1 (by first | rfl | (simp only [wr_size, Array.size_setIfInBounds]; rfl)) (fillA rfl hz20_2 (by first | rfl | (simp only [wr_size, Array.size_setIfInBounds]; rfl)) (fillN rfl))))) ?_
  refine sR (.func (.func 94) #[] #[(.pointer (some (Addr.mk b5 0 none)))]) (w_makeFunc evN (evC rfl evN)) ?_
  refine s_ef (k_call (vs := [(.agg (wr (wr (wr (#[.slice none 0 0, .int .i64 0, .slice none 0 0, .int .i64 0, .slice none 0 0, .int .i64 0] : Array Value) 0 v_17.toList) 2 v_18.toList) 4 (#[.slice none 0 0, .int .i64 0] : Array Value).toList)), (.func (.func 94) #[] #[(.pointer (some (Addr.mk b5 0 none)))])]) cb70 (evC rfl (evC rfl evN)) (h.mono ?_))
  clear h; rintro v F ⟨v_22, rfl, h⟩
  refine s_ef (k_call (vs := [(.agg v_22)]) cb69 (evC rfl evN) (h.mono ?_))
  clear h; rintro v F ⟨v_23, v_23_1, rfl, h⟩
  refine sR (.agg v_23) (r_extract rfl rfl rfl) ?_
  refine sR (.int .i64 v_23_1) (r_extract rfl rfl rfl) ?_
  refine s_ef0 (k_storeN (vs := v_23) rfl rfl sz28 (by decide) ?_)
  obtain ⟨hz1, hz2, c, e, hz3, hz4, hz5, h⟩ := h
  refine ⟨hz1, hz2, c, e, hz3, hz4, hz5, ?_⟩
  replace h := atE h
  refine sR (.int .i64 v_23_1) (r_assign rfl rfl) ?_
  refine HL_nil ?_
  obtain ⟨vres_6_1, hs6, hr6, h⟩ := h
  exact HC_ret (show endQ prog f60 R .ret _ _ from ⟨_, res2 rfl (rv_cellN rfl underlying28 rfl sz28 hs6 hr6) (rv_tmp rfl), h⟩)

/- 61 koine.diagram.And$1 -/
def b61 (x_0 : Bool) (y_1 : Bool) (R : Value → PH → Prop) (F : PH) : Prop :=
 ((x_0 = true →
  R (.bool y_1) F) ∧
 (x_0 = false →
  R (.bool false) F))
theorem c61 {x_0 : Bool} {y_1 : Bool} {R : Value → PH → Prop} {F : PH} (h : b61 x_0 y_1 R F) : Spec prog 61 #[(.bool x_0), (.bool y_1)] F R := by
 refine spec_of (args := [(.bool x_0), (.bool y_1)]) func61 rfl ntmps61 rfl ?_
 unfold b61 at h
 refine cR ?_
 refine sR (.bool false) (r_assign rfl rfl) ?_
 refine HL_nil ?_
 refine cR ?_
 refine sR (.bool x_0) (r_move rfl rfl) ?_
 refine sR (.bool x_0) (r_move rfl rfl) ?_
 by_cases hc : x_0 = true
 ·
  replace h := h.1 hc
  refine kN 0 hc ?_
  refine kN 5 hc ?_
  refine kN 6 hc ?_
  refine sR (.bool y_1) (r_move rfl rfl) ?_
  refine sR (.bool y_1) (r_pick rfl rfl (fun _ => rfl) (fun h => by cases h)) ?_
  refine sR (.bool y_1) (r_assign rfl rfl) ?_
  refine HL_nil ?_
  exact HC_ret (show endQ prog f61 R .ret _ _ from ⟨_, res1 rfl (rv_tmp rfl), h⟩)
 ·
  replace hc := eq_false_of_ne_true hc; replace h := h.2 hc
  refine kN 0 hc ?_
  refine kN 5 hc ?_
  refine kN 6 hc ?_
  refine s_skip ?_
  refine sR (.bool false) (r_pick rfl rfl (fun h => by cases h) (fun _ => rfl)) ?_
  refine sR (.bool false) (r_assign rfl rfl) ?_
  refine HL_nil ?_
  exact HC_ret (show endQ prog f61 R .ret _ _ from ⟨_, res1 rfl (rv_tmp rfl), h⟩)

/- 62 koine.diagram.Or$1 -/
def b62 (x_0 : Bool) (y_1 : Bool) (R : Value → PH → Prop) (F : PH) : Prop :=
 ((x_0 = true →
  R (.bool true) F) ∧
 (x_0 = false →
  R (.bool y_1) F))
theorem c62 {x_0 : Bool} {y_1 : Bool} {R : Value → PH → Prop} {F : PH} (h : b62 x_0 y_1 R F) : Spec prog 62 #[(.bool x_0), (.bool y_1)] F R := by
 refine spec_of (args := [(.bool x_0), (.bool y_1)]) func62 rfl ntmps62 rfl ?_
 unfold b62 at h
 refine cR ?_
 refine sR (.bool false) (r_assign rfl rfl) ?_
 refine HL_nil ?_
 refine cR ?_
 refine sR (.bool x_0) (r_move rfl rfl) ?_
 refine sR (.bool x_0) (r_move rfl rfl) ?_
 by_cases hc : x_0 = true
 ·
  replace h := h.1 hc
  refine kN 0 hc ?_
  refine kN 5 hc ?_
  refine kN 6 hc ?_
  refine s_skip ?_
  refine sR (.bool true) (r_pick rfl rfl (fun _ => rfl) (fun h => by cases h)) ?_
  refine sR (.bool true) (r_assign rfl rfl) ?_
  refine HL_nil ?_
  exact HC_ret (show endQ prog f62 R .ret _ _ from ⟨_, res1 rfl (rv_tmp rfl), h⟩)
 ·
  replace hc := eq_false_of_ne_true hc; replace h := h.2 hc
  refine kN 0 hc ?_
  refine kN 5 hc ?_
  refine kN 6 hc ?_
  refine sR (.bool y_1) (r_move rfl rfl) ?_
  refine sR (.bool y_1) (r_pick rfl rfl (fun h => by cases h) (fun _ => rfl)) ?_
  refine sR (.bool y_1) (r_assign rfl rfl) ?_
  refine HL_nil ?_
  exact HC_ret (show endQ prog f62 R .ret _ _ from ⟨_, res1 rfl (rv_tmp rfl), h⟩)

/- 66 koine.diagram.Not$1 -/
def b66 (x_0 : Bool) (v_1 : Bool) (R : Value → PH → Prop) (F : PH) : Prop :=
 R (.bool (!x_0)) F
theorem c66 {x_0 : Bool} {v_1 : Bool} {R : Value → PH → Prop} {F : PH} (h : b66 x_0 v_1 R F) : Spec prog 66 #[(.bool x_0), (.bool v_1)] F R := by
 refine spec_of (args := [(.bool x_0), (.bool v_1)]) func66 rfl ntmps66 rfl ?_
 unfold b66 at h
 refine cR ?_
 refine sR (.bool false) (r_assign rfl rfl) ?_
 refine HL_nil ?_
 refine cR ?_
 refine sR (.bool x_0) (r_move rfl rfl) ?_
 refine sR (.bool (!x_0)) (r_not rfl rfl) ?_
 refine sR (.bool (!x_0)) (r_assign rfl rfl) ?_
 refine HL_nil ?_
 exact HC_ret (show endQ prog f66 R .ret _ _ from ⟨_, res1 rfl (rv_tmp rfl), h⟩)

/- 67 koine.diagram.Xor$1 -/
def b67 (x_0 : Bool) (y_1 : Bool) (R : Value → PH → Prop) (F : PH) : Prop :=
 R (.bool (!(x_0 == y_1))) F
theorem c67 {x_0 : Bool} {y_1 : Bool} {R : Value → PH → Prop} {F : PH} (h : b67 x_0 y_1 R F) : Spec prog 67 #[(.bool x_0), (.bool y_1)] F R := by
 refine spec_of (args := [(.bool x_0), (.bool y_1)]) func67 rfl ntmps67 rfl ?_
 unfold b67 at h
 refine cR ?_
 refine sR (.bool false) (r_assign rfl rfl) ?_
 refine HL_nil ?_
 refine cR ?_
 refine sR (.bool x_0) (r_move rfl rfl) ?_
 refine sR (.bool y_1) (r_move rfl rfl) ?_
 refine sR (.bool (!(x_0 == y_1))) (r_neqB rfl rfl rfl underlying4) ?_
 refine sR (.bool (!(x_0 == y_1))) (r_assign rfl rfl) ?_
 refine HL_nil ?_
 exact HC_ret (show endQ prog f67 R .ret _ _ from ⟨_, res1 rfl (rv_tmp rfl), h⟩)

/- 71 koine.diagram.Choose$1 -/
def b71 (x_0 : Bool) (y_1 : Bool) (z_2 : Bool) (R : Value → PH → Prop) (F : PH) : Prop :=
 ((x_0 = true →
  ((y_1 = true →
   R (.bool true) F) ∧
  (y_1 = false →
   R (.bool false) F))) ∧
 (x_0 = false →
  R (.bool z_2) F))
theorem c71 {x_0 : Bool} {y_1 : Bool} {z_2 : Bool} {R : Value → PH → Prop} {F : PH} (h : b71 x_0 y_1 z_2 R F) : Spec prog 71 #[(.bool x_0), (.bool y_1), (.bool z_2)] F R := by
 refine spec_of (args := [(.bool x_0), (.bool y_1), (.bool z_2)]) func71 rfl ntmps71 rfl ?_
 unfold b71 at h
 refine cR ?_
 refine sR (.bool false) (r_assign rfl rfl) ?_
 refine HL_nil ?_
 refine cR ?_
 refine sR (.bool x_0) (r_move rfl rfl) ?_
 refine sR (.bool x_0) (r_move rfl rfl) ?_
 by_cases hc : x_0 = true
 ·
  replace h := h.1 hc
  refine kN 0 hc ?_
  refine kN 7 hc ?_
  refine kN 8 hc ?_
  refine sR (.bool y_1) (r_move rfl rfl) ?_
  refine sR (.bool y_1) (r_pick rfl rfl (fun _ => rfl) (fun h => by cases h)) ?_
  refine sR (.bool y_1) (r_move rfl rfl) ?_
  by_cases hc : y_1 = true
  ·
   replace h := h.1 hc
   refine kN 1 hc ?_
   refine kN 9 hc ?_
   refine kN 10 hc ?_
   refine kN 11 hc ?_
   refine s_skip ?_
   refine s_skip ?_
   refine s_skip ?_
   refine s_skip ?_
   refine s_skip ?_
   refine sR (.bool true) (r_pick rfl rfl (fun _ => rfl) (fun h => by cases h)) ?_
   refine sR (.bool true) (r_assign rfl rfl) ?_
   refine HL_nil ?_
   exact HC_ret (show endQ prog f71 R .ret _ _ from ⟨_, res1 rfl (rv_tmp rfl), h⟩)
  ·
   replace hc := eq_false_of_ne_true hc; replace h := h.2 hc
   refine kN 1 hc ?_
   refine kN 9 hc ?_
   refine kN 10 hc ?_
   refine kN 11 hc ?_
   refine sR (.bool true) (r_move rfl rfl) ?_
   refine sR (.bool false) (r_not (c := true) rfl rfl) ?_
   refine sR (.bool false) (r_move rfl rfl) ?_
   refine s_skip ?_
   refine sR (.bool false) (r_pick rfl rfl (fun h => by cases h) (fun _ => rfl)) ?_
   refine sR (.bool false) (r_pick rfl rfl (fun h => by cases h) (fun _ => rfl)) ?_
   refine sR (.bool false) (r_assign rfl rfl) ?_
   refine HL_nil ?_
   exact HC_ret (show endQ prog f71 R .ret _ _ from ⟨_, res1 rfl (rv_tmp rfl), h⟩)
 ·
  replace hc := eq_false_of_ne_true hc; replace h := h.2 hc
  refine kN 0 hc ?_
  refine kN 7 hc ?_
  refine kN 8 hc ?_
  refine s_skip ?_
  refine sR (.bool false) (r_pick rfl rfl (fun h => by cases h) (fun _ => rfl)) ?_
  refine sR (.bool false) (r_move rfl rfl) ?_
  refine sR (.bool false) (r_move rfl rfl) ?_
  refine sR (.bool true) (r_not (c := false) rfl rfl) ?_
  refine sR (.bool true) (r_move rfl rfl) ?_
  refine sR (.bool z_2) (r_move rfl rfl) ?_
  refine sR (.bool z_2) (r_pick rfl rfl (fun _ => rfl) (fun h => by cases h)) ?_
  refine sR (.bool z_2) (r_pick rfl rfl (fun h => by cases h) (fun _ => rfl)) ?_
  refine sR (.bool z_2) (r_assign rfl rfl) ?_
  refine HL_nil ?_
  exact HC_ret (show endQ prog f71 R .ret _ _ from ⟨_, res1 rfl (rv_tmp rfl), h⟩)

/- 73 koine.diagram.Exists$1 -/
def b73 (x_0 : Bool) (y_1 : Bool) (v_2 : Bool) (R : Value → PH → Prop) (F : PH) : Prop :=
 ((x_0 = true →
  R (.bool true) F) ∧
 (x_0 = false →
  R (.bool y_1) F))
theorem c73 {x_0 : Bool} {y_1 : Bool} {v_2 : Bool} {R : Value → PH → Prop} {F : PH} (h : b73 x_0 y_1 v_2 R F) : Spec prog 73 #[(.bool x_0), (.bool y_1), (.bool v_2)] F R := by
 refine spec_of (args := [(.bool x_0), (.bool y_1), (.bool v_2)]) func73 rfl ntmps73 rfl ?_
 unfold b73 at h
 refine cR ?_
 refine sR (.bool false) (r_assign rfl rfl) ?_
 refine HL_nil ?_
 refine cR ?_
 refine sR (.bool x_0) (r_move rfl rfl) ?_
 refine sR (.bool x_0) (r_move rfl rfl) ?_
 by_cases hc : x_0 = true
 ·
  replace h := h.1 hc
  refine kN 0 hc ?_
  refine kN 7 hc ?_
  refine kN 8 hc ?_
  refine s_skip ?_
  refine sR (.bool true) (r_pick rfl rfl (fun _ => rfl) (fun h => by cases h)) ?_
  refine sR (.bool true) (r_assign rfl rfl) ?_
  refine HL_nil ?_
  exact HC_ret (show endQ prog f73 R .ret _ _ from ⟨_, res1 rfl (rv_tmp rfl), h⟩)
 ·
  replace hc := eq_false_of_ne_true hc; replace h := h.2 hc
  refine kN 0 hc ?_
  refine kN 7 hc ?_
  refine kN 8 hc ?_
  refine sR (.bool y_1) (r_move rfl rfl) ?_
  refine sR (.bool y_1) (r_pick rfl rfl (fun h => by cases h) (fun _ => rfl)) ?_
  refine sR (.bool y_1) (r_assign rfl rfl) ?_
  refine HL_nil ?_
  exact HC_ret (show endQ prog f73 R .ret _ _ from ⟨_, res1 rfl (rv_tmp rfl), h⟩)

/- 19 koine.diagram.And -/
def b19 (a_0 : Array Value) (b_1 : Array Value) (R : Value → PH → Prop) (F : PH) : Prop :=
 ∀ b2, F b2 = none → atF (F.set b2 (.cells a_0 28)) fun F =>
 ∀ b3, F b3 = none → atF (F.set b3 (.cells b_1 28)) fun F =>
 ∀ b4, F b4 = none → atF (F.set b4 (.cells (#[.slice none 0 0, .int .i64 0]) 28)) fun F =>
 ∃ v_6 : Array Value, v_6.size = 2 ∧ F.row (Addr.mk b2 0 none) v_6 ∧
 ∃ v_7 : Array Value, v_7.size = 2 ∧ F.row (Addr.mk b3 0 none) v_7 ∧
 Spec prog 60 #[(.agg v_6), (.agg v_7), (.func (.func 61) #[] #[])] F fun v F => ∃ v_8 : Array Value, ∃ v_8_1 : Int, v = (.tuple #[(.agg v_8), (.int .i64 v_8_1)]) ∧
 v_8.size = 2 ∧ (∀ v ∈ v_8.toList, storable v) ∧ ∃ c e, F (Addr.mk b4 0 none).block = some (.cells c e (0, 0)) ∧ (Addr.mk b4 0 none).spot = none ∧ (Addr.mk b4 0 none).off + 2 ≤ c.size ∧
 atF (F.set (Addr.mk b4 0 none).block (.cells (wr c (Addr.mk b4 0 none).off v_8.toList) e)) fun F =>
 ∃ vres_4 : Array Value, vres_4.size = 2 ∧ F.row (Addr.mk b4 0 none) vres_4 ∧ R (.tuple #[(.agg vres_4), (.int .i64 v_8_1)]) F
theorem c19 {a_0 : Array Value} {b_1 : Array Value} {R : Value → PH → Prop} {F : PH} (h : b19 a_0 b_1 R F) : Spec prog 19 #[(.agg a_0), (.agg b_1)] F R := by
 refine spec_of (args := [(.agg a_0), (.agg b_1)]) func19 rfl ntmps19 rfl ?_
 unfold b19 at h
 refine cR ?_
 refine s_ef (k_box (cs := a_0) rfl rfl ?_)
 intro b2 hf_b2
 replace h := atE (h b2 hf_b2)
 refine s_ef (k_box (cs := b_1) rfl rfl ?_)
 intro b3 hf_b3
 replace h := atE (h b3 hf_b3)
 refine s_ef (k_alloc zr28 ?_)
 intro b4 hf_b4
 replace h := atE (h b4 hf_b4)
 refine sR (.int .i64 (0 : Int)) (r_assign rfl rfl) ?_
 refine HL_nil ?_
 refine cR ?_
 obtain ⟨v_6, hs6, hc6, h⟩ := h
 refine sR (.agg v_6) (w_loadN rfl underlying28 rfl sz28 hs6 hc6) ?_
 obtain ⟨v_7, hs7, hc7, h⟩ := h
 refine sR (.agg v_7) (w_loadN rfl underlying28 rfl sz28 hs7 hc7) ?_
 refine s_ef (k_call (vs := [(.agg v_6), (.agg v_7), (.func (.func 61) #[] #[])]) cb60 (evC rfl (evC rfl (evC rfl evN))) (h.mono ?_))
 clear h; rintro v F ⟨v_8, v_8_1, rfl, h⟩
 refine sR (.agg v_8) (r_extract rfl rfl rfl) ?_
 refine sR (.int .i64 v_8_1) (r_extract rfl rfl rfl) ?_
 refine s_ef0 (k_storeN (vs := v_8) rfl rfl sz28 (by decide) ?_)
 obtain ⟨hz1, hz2, c, e, hz3, hz4, hz5, h⟩ := h
 refine ⟨hz1, hz2, c, e, hz3, hz4, hz5, ?_⟩
 replace h := atE h
 refine sR (.int .i64 v_8_1) (r_assign rfl rfl) ?_
 refine HL_nil ?_
 obtain ⟨vres_4, hs4, hr4, h⟩ := h
 exact HC_ret (show endQ prog f19 R .ret _ _ from ⟨_, res2 rfl (rv_cellN rfl underlying28 rfl sz28 hs4 hr4) (rv_tmp rfl), h⟩)

/- 22 koine.diagram.Or -/
def b22 (a_0 : Array Value) (b_1 : Array Value) (R : Value → PH → Prop) (F : PH) : Prop :=
 ∀ b2, F b2 = none → atF (F.set b2 (.cells a_0 28)) fun F =>
 ∀ b3, F b3 = none → atF (F.set b3 (.cells b_1 28)) fun F =>
 ∀ b4, F b4 = none → atF (F.set b4 (.cells (#[.slice none 0 0, .int .i64 0]) 28)) fun F =>
 ∃ v_6 : Array Value, v_6.size = 2 ∧ F.row (Addr.mk b2 0 none) v_6 ∧
 ∃ v_7 : Array Value, v_7.size = 2 ∧ F.row (Addr.mk b3 0 none) v_7 ∧
 Spec prog 60 #[(.agg v_6), (.agg v_7), (.func (.func 62) #[] #[])] F fun v F => ∃ v_8 : Array Value, ∃ v_8_1 : Int, v = (.tuple #[(.agg v_8), (.int .i64 v_8_1)]) ∧
 v_8.size = 2 ∧ (∀ v ∈ v_8.toList, storable v) ∧ ∃ c e, F (Addr.mk b4 0 none).block = some (.cells c e (0, 0)) ∧ (Addr.mk b4 0 none).spot = none ∧ (Addr.mk b4 0 none).off + 2 ≤ c.size ∧
 atF (F.set (Addr.mk b4 0 none).block (.cells (wr c (Addr.mk b4 0 none).off v_8.toList) e)) fun F =>
 ∃ vres_4 : Array Value, vres_4.size = 2 ∧ F.row (Addr.mk b4 0 none) vres_4 ∧ R (.tuple #[(.agg vres_4), (.int .i64 v_8_1)]) F
theorem c22 {a_0 : Array Value} {b_1 : Array Value} {R : Value → PH → Prop} {F : PH} (h : b22 a_0 b_1 R F) : Spec prog 22 #[(.agg a_0), (.agg b_1)] F R := by
 refine spec_of (args := [(.agg a_0), (.agg b_1)]) func22 rfl ntmps22 rfl ?_
 unfold b22 at h
 refine cR ?_
 refine s_ef (k_box (cs := a_0) rfl rfl ?_)
 intro b2 hf_b2
 replace h := atE (h b2 hf_b2)
 refine s_ef (k_box (cs := b_1) rfl rfl ?_)
 intro b3 hf_b3
 replace h := atE (h b3 hf_b3)
 refine s_ef (k_alloc zr28 ?_)
 intro b4 hf_b4
 replace h := atE (h b4 hf_b4)
 refine sR (.int .i64 (0 : Int)) (r_assign rfl rfl) ?_
 refine HL_nil ?_
 refine cR ?_
 obtain ⟨v_6, hs6, hc6, h⟩ := h
 refine sR (.agg v_6) (w_loadN rfl underlying28 rfl sz28 hs6 hc6) ?_
 obtain ⟨v_7, hs7, hc7, h⟩ := h
 refine sR (.agg v_7) (w_loadN rfl underlying28 rfl sz28 hs7 hc7) ?_
 refine s_ef (k_call (vs := [(.agg v_6), (.agg v_7), (.func (.func 62) #[] #[])]) cb60 (evC rfl (evC rfl (evC rfl evN))) (h.mono ?_))
 clear h; rintro v F ⟨v_8, v_8_1, rfl, h⟩
 refine sR (.agg v_8) (r_extract rfl rfl rfl) ?_
 refine sR (.int .i64 v_8_1) (r_extract rfl rfl rfl) ?_
 refine s_ef0 (k_storeN (vs := v_8) rfl rfl sz28 (by decide) ?_)
 obtain ⟨hz1, hz2, c, e, hz3, hz4, hz5, h⟩ := h
 refine ⟨hz1, hz2, c, e, hz3, hz4, hz5, ?_⟩
 replace h := atE h
 refine sR (.int .i64 v_8_1) (r_assign rfl rfl) ?_
 refine HL_nil ?_
 obtain ⟨vres_4, hs4, hr4, h⟩ := h
 exact HC_ret (show endQ prog f22 R .ret _ _ from ⟨_, res2 rfl (rv_cellN rfl underlying28 rfl sz28 hs4 hr4) (rv_tmp rfl), h⟩)

/- 25 koine.diagram.Not -/
def b25 (a_0 : Array Value) (R : Value → PH → Prop) (F : PH) : Prop :=
 ∀ b1, F b1 = none → atF (F.set b1 (.cells a_0 28)) fun F =>
 ∀ b2, F b2 = none → atF (F.set b2 (.cells (#[.slice none 0 0, .int .i64 0]) 28)) fun F =>
 ∃ v_4 : Array Value, v_4.size = 2 ∧ F.row (Addr.mk b1 0 none) v_4 ∧
 Spec prog 60 #[(.agg v_4), (.agg (#[.slice none 0 0, .int .i64 0] : Array Value)), (.func (.func 66) #[] #[])] F fun v F => ∃ v_6 : Array Value, ∃ v_6_1 : Int, v = (.tuple #[(.agg v_6), (.int .i64 v_6_1)]) ∧
 v_6.size = 2 ∧ (∀ v ∈ v_6.toList, storable v) ∧ ∃ c e, F (Addr.mk b2 0 none).block = some (.cells c e (0, 0)) ∧ (Addr.mk b2 0 none).spot = none ∧ (Addr.mk b2 0 none).off + 2 ≤ c.size ∧
 atF (F.set (Addr.mk b2 0 none).block (.cells (wr c (Addr.mk b2 0 none).off v_6.toList) e)) fun F =>
 ∃ vres_2 : Array Value, vres_2.size = 2 ∧ F.row (Addr.mk b2 0 none) vres_2 ∧ R (.tuple #[(.agg vres_2), (.int .i64 v_6_1)]) F
theorem c25 {a_0 : Array Value} {R : Value → PH → Prop} {F : PH} (h : b25 a_0 R F) : Spec prog 25 #[(.agg a_0)] F R := by
 refine spec_of (args := [(.agg a_0)]) func25 rfl ntmps25 rfl ?_
 unfold b25 at h
 refine cR ?_
 refine s_ef (k_box (cs := a_0) rfl rfl ?_)
 intro b1 hf_b1
 replace h := atE (h b1 hf_b1)
 refine s_ef (k_alloc zr28 ?_)
 intro b2 hf_b2
 replace h := atE (h b2 hf_b2)
 refine sR (.int .i64 (0 : Int)) (r_assign rfl rfl) ?_
 refine HL_nil ?_
 refine cR ?_
 obtain ⟨v_4, hs4, hc4, h⟩ := h
 refine sR (.agg v_4) (w_loadN rfl underlying28 rfl sz28 hs4 hc4) ?_
 refine sR (.agg (#[.slice none 0 0, .int .i64 0] : Array Value)) (w_buildStruct (cells := #[.slice none 0 0, .int .i64 0]) underlying28 zr28 kf28 (evPN) (fillN rfl)) ?_
 refine s_ef (k_call (vs := [(.agg v_4), (.agg (#[.slice none 0 0, .int .i64 0] : Array Value)), (.func (.func 66) #[] #[])]) cb60 (evC rfl (evC rfl (evC rfl evN))) (h.mono ?_))
 clear h; rintro v F ⟨v_6, v_6_1, rfl, h⟩
 refine sR (.agg v_6) (r_extract rfl rfl rfl) ?_
 refine sR (.int .i64 v_6_1) (r_extract rfl rfl rfl) ?_
 refine s_ef0 (k_storeN (vs := v_6) rfl rfl sz28 (by decide) ?_)
 obtain ⟨hz1, hz2, c, e, hz3, hz4, hz5, h⟩ := h
 refine ⟨hz1, hz2, c, e, hz3, hz4, hz5, ?_⟩
 replace h := atE h
 refine sR (.int .i64 v_6_1) (r_assign rfl rfl) ?_
 refine HL_nil ?_
 obtain ⟨vres_2, hs2, hr2, h⟩ := h
 exact HC_ret (show endQ prog f25 R .ret _ _ from ⟨_, res2 rfl (rv_cellN rfl underlying28 rfl sz28 hs2 hr2) (rv_tmp rfl), h⟩)

/- 26 koine.diagram.Xor -/
def b26 (a_0 : Array Value) (b_1 : Array Value) (R : Value → PH → Prop) (F : PH) : Prop :=
 ∀ b2, F b2 = none → atF (F.set b2 (.cells a_0 28)) fun F =>
 ∀ b3, F b3 = none → atF (F.set b3 (.cells b_1 28)) fun F =>
 ∀ b4, F b4 = none → atF (F.set b4 (.cells (#[.slice none 0 0, .int .i64 0]) 28)) fun F =>
 ∃ v_6 : Array Value, v_6.size = 2 ∧ F.row (Addr.mk b2 0 none) v_6 ∧
 ∃ v_7 : Array Value, v_7.size = 2 ∧ F.row (Addr.mk b3 0 none) v_7 ∧
 Spec prog 60 #[(.agg v_6), (.agg v_7), (.func (.func 67) #[] #[])] F fun v F => ∃ v_8 : Array Value, ∃ v_8_1 : Int, v = (.tuple #[(.agg v_8), (.int .i64 v_8_1)]) ∧
 v_8.size = 2 ∧ (∀ v ∈ v_8.toList, storable v) ∧ ∃ c e, F (Addr.mk b4 0 none).block = some (.cells c e (0, 0)) ∧ (Addr.mk b4 0 none).spot = none ∧ (Addr.mk b4 0 none).off + 2 ≤ c.size ∧
 atF (F.set (Addr.mk b4 0 none).block (.cells (wr c (Addr.mk b4 0 none).off v_8.toList) e)) fun F =>
 ∃ vres_4 : Array Value, vres_4.size = 2 ∧ F.row (Addr.mk b4 0 none) vres_4 ∧ R (.tuple #[(.agg vres_4), (.int .i64 v_8_1)]) F
theorem c26 {a_0 : Array Value} {b_1 : Array Value} {R : Value → PH → Prop} {F : PH} (h : b26 a_0 b_1 R F) : Spec prog 26 #[(.agg a_0), (.agg b_1)] F R := by
 refine spec_of (args := [(.agg a_0), (.agg b_1)]) func26 rfl ntmps26 rfl ?_
 unfold b26 at h
 refine cR ?_
 refine s_ef (k_box (cs := a_0) rfl rfl ?_)
 intro b2 hf_b2
 replace h := atE (h b2 hf_b2)
 refine s_ef (k_box (cs := b_1) rfl rfl ?_)
 intro b3 hf_b3
 replace h := atE (h b3 hf_b3)
 refine s_ef (k_alloc zr28 ?_)
 intro b4 hf_b4
 replace h := atE (h b4 hf_b4)
 refine sR (.int .i64 (0 : Int)) (r_assign rfl rfl) ?_
 refine HL_nil ?_
 refine cR ?_
 obtain ⟨v_6, hs6, hc6, h⟩ := h
 refine sR (.agg v_6) (w_loadN rfl underlying28 rfl sz28 hs6 hc6) ?_
 obtain ⟨v_7, hs7, hc7, h⟩ := h
 refine sR (.agg v_7) (w_loadN rfl underlying28 rfl sz28 hs7 hc7) ?_
 refine s_ef (k_call (vs := [(.agg v_6), (.agg v_7), (.func (.func 67) #[] #[])]) cb60 (evC rfl (evC rfl (evC rfl evN))) (h.mono ?_))
 clear h; rintro v F ⟨v_8, v_8_1, rfl, h⟩
 refine sR (.agg v_8) (r_extract rfl rfl rfl) ?_
 refine sR (.int .i64 v_8_1) (r_extract rfl rfl rfl) ?_
 refine s_ef0 (k_storeN (vs := v_8) rfl rfl sz28 (by decide) ?_)
 obtain ⟨hz1, hz2, c, e, hz3, hz4, hz5, h⟩ := h
 refine ⟨hz1, hz2, c, e, hz3, hz4, hz5, ?_⟩
 replace h := atE h
 refine sR (.int .i64 v_8_1) (r_assign rfl rfl) ?_
 refine HL_nil ?_
 obtain ⟨vres_4, hs4, hr4, h⟩ := h
 exact HC_ret (show endQ prog f26 R .ret _ _ from ⟨_, res2 rfl (rv_cellN rfl underlying28 rfl sz28 hs4 hr4) (rv_tmp rfl), h⟩)

/- 27 koine.diagram.Choose -/
def b27 (c_0 : Array Value) (a_1 : Array Value) (b_2 : Array Value) (R : Value → PH → Prop) (F : PH) : Prop :=
 ∀ b3, F b3 = none → atF (F.set b3 (.cells c_0 28)) fun F =>
 ∀ b4, F b4 = none → atF (F.set b4 (.cells a_1 28)) fun F =>
 ∀ b5, F b5 = none → atF (F.set b5 (.cells b_2 28)) fun F =>
 ∀ b6, F b6 = none → atF (F.set b6 (.cells (#[.slice none 0 0, .int .i64 0]) 28)) fun F =>
 ∃ v_9 : Array Value, v_9.size = 2 ∧ F.row (Addr.mk b3 0 none) v_9 ∧
 ∃ v_10 : Array Value, v_10.size = 2 ∧ F.row (Addr.mk b4 0 none) v_10 ∧
 ∃ v_11 : Array Value, v_11.size = 2 ∧ F.row (Addr.mk b5 0 none) v_11 ∧
 v_9.size = 2 ∧ v_10.size = 2 ∧ v_11.size = 2 ∧ ∀ b12, F b12 = none → atF (F.set b12 (.cells (wr (wr (wr (#[.slice none 0 0, .int .i64 0, .slice none 0 0, .int .i64 0, .slice none 0 0, .int .i64 0] : Array Value) 0 v_9.toList) 2 v_10.toList) 4 v_11.toList) 28)) fun F =>
 Spec prog 68 #[(Sl.v (Sl.mk (some (Addr.mk b12 0 none)) 3 3))] F fun v F => ∃ v_13 : Int, v = (.int .i64 v_13) ∧
 ((v_13 ≠ (0 : Int) →
  (#[.slice none 0 0, .int .i64 0] : Array Value).size = 2 ∧ (∀ v ∈ (#[.slice none 0 0, .int .i64 0] : Array Value).toList, storable v) ∧ ∃ c e, F (Addr.mk b6 0 none).block = some (.cells c e (0, 0)) ∧ (Addr.mk b6 0 none).spot = none ∧ (Addr.mk b6 0 none).off + 2 ≤ c.size ∧
  atF (F.set (Addr.mk b6 0 none).block (.cells (wr c (Addr.mk b6 0 none).off (#[.slice none 0 0, .int .i64 0] : Array Value).toList) e)) fun F =>
  ∃ vres_6 : Array Value, vres_6.size = 2 ∧ F.row (Addr.mk b6 0 none) vres_6 ∧ R (.tuple #[(.agg vres_6), (.int .i64 v_13)]) F) ∧
 (¬ (v_13 ≠ (0 : Int)) →
  ∃ v_18 : Array Value, v_18.size = 2 ∧ F.row (Addr.mk b3 0 none) v_18 ∧
  ∃ v_19 : Array Value, v_19.size = 2 ∧ F.row (Addr.mk b4 0 none) v_19 ∧
  ∃ v_20 : Array Value, v_20.size = 2 ∧ F.row (Addr.mk b5 0 none) v_20 ∧
  v_18.size = 2 ∧ v_19.size = 2 ∧ v_20.size = 2 ∧ Spec prog 70 #[(.agg (wr (wr (wr (#[.slice none 0 0, .int .i64 0, .slice none 0 0, .int .i64 0, .slice none 0 0, .int .i64 0] : Array Value) 0 v_18.toList) 2 v_19.toList) 4 v_20.toList)), (.func (.func 71) #[] #[])] F fun v F => ∃ v_22 : Array Value, v = (.agg v_22) ∧
  Spec prog 69 #[(.agg v_22)] F fun v F => ∃ v_23 : Array Value, ∃ v_23_1 : Int, v = (.tuple #[(.agg v_23), (.int .i64 v_23_1)]) ∧
  v_23.size = 2 ∧ (∀ v ∈ v_23.toList, storable v) ∧ ∃ c e, F (Addr.mk b6 0 none).block = some (.cells c e (0, 0)) ∧ (Addr.mk b6 0 none).spot = none ∧ (Addr.mk b6 0 none).off + 2 ≤ c.size ∧
  atF (F.set (Addr.mk b6 0 none).block (.cells (wr c (Addr.mk b6 0 none).off v_23.toList) e)) fun F =>
  ∃ vres_6_1 : Array Value, vres_6_1.size = 2 ∧ F.row (Addr.mk b6 0 none) vres_6_1 ∧ R (.tuple #[(.agg vres_6_1), (.int .i64 v_23_1)]) F))
theorem c27 {c_0 : Array Value} {a_1 : Array Value} {b_2 : Array Value} {R : Value → PH → Prop} {F : PH} (h : b27 c_0 a_1 b_2 R F) : Spec prog 27 #[(.agg c_0), (.agg a_1), (.agg b_2)] F R := by
 refine spec_of (args := [(.agg c_0), (.agg a_1), (.agg b_2)]) func27 rfl ntmps27 rfl ?_
 unfold b27 at h
 refine cR ?_
 refine s_ef (k_box (cs := c_0) rfl rfl ?_)
 intro b3 hf_b3
 replace h := atE (h b3 hf_b3)
 refine s_ef (k_box (cs := a_1) rfl rfl ?_)
 intro b4 hf_b4
 replace h := atE (h b4 hf_b4)
 refine s_ef (k_box (cs := b_2) rfl rfl ?_)
 intro b5 hf_b5
 replace h := atE (h b5 hf_b5)
 refine s_ef (k_alloc zr28 ?_)
 intro b6 hf_b6
 replace h := atE (h b6 hf_b6)
 refine sR (.int .i64 (0 : Int)) (r_assign rfl rfl) ?_
 refine HL_nil ?_
 refine HC_seq ?_
 refine cR ?_
 obtain ⟨v_9, hs9, hc9, h⟩ := h
 refine sR (.agg v_9) (w_loadN rfl underlying28 rfl sz28 hs9 hc9) ?_
 obtain ⟨v_10, hs10, hc10, h⟩ := h
 refine sR (.agg v_10) (w_loadN rfl underlying28 rfl sz28 hs10 hc10) ?_
 obtain ⟨v_11, hs11, hc11, h⟩ := h
 refine sR (.agg v_11) (w_loadN rfl underlying28 rfl sz28 hs11 hc11) ?_
 obtain ⟨hz12_0, hz12_1, hz12_2, h⟩ := h
 refine s_ef (k_buildSlice (cells := (wr (wr (wr (#[.slice none 0 0, .int .i64 0, .slice none 0 0, .int .i64 0, .slice none 0 0, .int .i64 0] : Array Value) 0 v_9.toList) 2 v_10.toList) 4 v_11.toList)) underlying100 sz28 (by decide) zr28 ((zc_flat _ rfl _).trans (rfl : _ = (#[.slice none 0 0, .int .i64 0, .slice none 0 0, .int .i64 0, .slice none 0 0, .int .i64 0] : Array Value))) (evPC rfl (evPC rfl (evPC rfl evPN))) (fillA rfl hz12_0 (by first | rfl | (simp only [wr_size, Array.size_setIfInBounds]; rfl)) (fillA rfl hz12_1 (by first | rfl | (simp only [wr_size, Array.size_setIfInBounds]; rfl)) (fillA rfl hz12_2 (by first | rfl | (simp only [wr_size, Array.size_setIfInBounds]; rfl)) (fillN rfl)))) rfl ?_)
 intro b12 hf_b12
 replace h := atE (h b12 hf_b12)
 refine s_ef (k_call (vs := [(Sl.v (Sl.mk (some (Addr.mk b12 0 none)) 3 3))]) cb68 (evC rfl evN) (h.mono ?_))
 clear h; rintro v F ⟨v_13, rfl, h⟩
 refine sR (.int .i64 v_13) (r_assign rfl rfl) ?_
 refine HL_nil ?_
 refine cR ?_
 refine sR (.int .i64 v_13) (r_move rfl rfl) ?_
 refine sR (.bool (decide (v_13 ≠ (0 : Int)))) (w_neq rfl rfl) ?_
 refine HL_nil ?_
 refine HC_cond (t := (decide (v_13 ≠ (0 : Int)))) rfl (fun hc => ?_) (fun hc => ?_)
 ·
  replace h := h.1 (of_decide_eq_true hc)
  clear hc
  refine cR ?_
  refine sR (.agg (#[.slice none 0 0, .int .i64 0] : Array Value)) (w_buildStruct (cells := #[.slice none 0 0, .int .i64 0]) underlying28 zr28 kf28 (evPN) (fillN rfl)) ?_
  refine sR (.int .i64 v_13) (r_move rfl rfl) ?_
  refine s_ef0 (k_storeN (vs := (#[.slice none 0 0, .int .i64 0] : Array Value)) rfl rfl sz28 (by decide) ?_)
  obtain ⟨hz1, hz2, c, e, hz3, hz4, hz5, h⟩ := h
  refine ⟨hz1, hz2, c, e, hz3, hz4, hz5, ?_⟩
  replace h := atE h
  refine sR (.int .i64 v_13) (r_assign rfl rfl) ?_
  refine HL_nil ?_
  obtain ⟨vres_6, hs6, hr6, h⟩ := h
  exact HC_ret (show endQ prog f27 R .ret _ _ from ⟨_, res2 rfl (rv_cellN rfl underlying28 rfl sz28 hs6 hr6) (rv_tmp rfl), h⟩)
 ·
  replace h := h.2 (of_decide_eq_false hc)
  clear hc
  refine HC_skip ?_
  refine cR ?_
  obtain ⟨v_18, hs18, hc18, h⟩ := h
  refine sR (.agg v_18) (w_loadN rfl underlying28 rfl sz28 hs18 hc18) ?_
  obtain ⟨v_19, hs19, hc19, h⟩ := h
  refine sR (.agg v_19) (w_loadN rfl underlying28 rfl sz28 hs19 hc19) ?_
  obtain ⟨v_20, hs20, hc20, h⟩ := h
  refine sR (.agg v_20) (w_loadN rfl underlying28 rfl sz28 hs20 hc20) ?_
  obtain ⟨hz21_0, hz21_1, hz21_2, h⟩ := h
  refine sR (.agg (wr (wr (wr (#[.slice none 0 0, .int .i64 0, .slice none 0 0, .int .i64 0, .slice none 0 0, .int .i64 0] : Array Value) 0 v_18.toList) 2 v_19.toList) 4 v_20.toList)) (w_buildArray (cells := (wr (wr (wr (#[.slice none 0 0, .int .i64 0, .slice none 0 0, .int .i64 0, .slice none 0 0, .int .i64 0] : Array Value) 0 v_18.toList) 2 v_19.toList) 4 v_20.toList)) underlying89 zr89 sz28 (evPC rfl (evPC rfl (evPC rfl evPN))) (fillA rfl hz21_0 (by first | rfl | (simp only [wr_size, Array.size_setIfInBounds]; rfl)) (fillA rfl hz21_1 (by first | rfl | (simp only [wr_size, Array.size_setIfInBounds]; rfl)) (fillA rfl hz21_2 (by first | rfl | (simp only [wr_size, Array.size_setIfInBounds]; rfl)) (fillN rfl))))) ?_
  refine s_ef (k_call (vs := [(.agg (wr (wr (wr (#[.slice none 0 0, .int .i64 0, .slice none 0 0, .int .i64 0, .slice none 0 0, .int .i64 0] : Array Value) 0 v_18.toList) 2 v_19.toList) 4 v_20.toList)), (.func (.func 71) #[] #[])]) cb70 (evC rfl (evC rfl evN)) (h.mono ?_))
  clear h; rintro v F ⟨v_22, rfl, h⟩
  refine s_ef (k_call (vs := [(.agg v_22)]) cb69 (evC rfl evN) (h.mono ?_))
  clear h; rintro v F ⟨v_23, v_23_1, rfl, h⟩
  refine sR (.agg v_23) (r_extract rfl rfl rfl) ?_
  refine sR (.int .i64 v_23_1) (r_extract rfl rfl rfl) ?_
  refine s_ef0 (k_storeN (vs := v_23) rfl rfl sz28 (by decide) ?_)
  obtain ⟨hz1, hz2, c, e, hz3, hz4, hz5, h⟩ := h
  refine ⟨hz1, hz2, c, e, hz3, hz4, hz5, ?_⟩
  replace h := atE h
  refine sR (.int .i64 v_23_1) (r_assign rfl rfl) ?_
  refine HL_nil ?_
  obtain ⟨vres_6_1, hs6, hr6, h⟩ := h
  exact HC_ret (show endQ prog f27 R .ret _ _ from ⟨_, res2 rfl (rv_cellN rfl underlying28 rfl sz28 hs6 hr6) (rv_tmp rfl), h⟩)

end Go.Proofs.Ytafojmoeaneedaa
