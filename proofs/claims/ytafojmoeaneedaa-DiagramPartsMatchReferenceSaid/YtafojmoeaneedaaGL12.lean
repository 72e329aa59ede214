/-
  What functions of the program do, in a clean form, each with the proof that its code does so. Printed by a program.
-/
import Derived.Test.YtafojmoeaneedaaGf
import Derived.Test.YtafojmoeaneedaaPho
namespace Go.Proofs.Ytafojmoeaneedaa
open Go Go.Proofs.Try
set_option maxRecDepth 10000
set_option maxHeartbeats 4000000
/- 12 koine.koinelaw02.DiagramPartsMatchReference -/
def b12 (a_0 : Array Value) (v_1 : Int) (c_2 : Int) (R : Value → PH → Prop) (F : PH) : Prop :=
 ∀ b3, F b3 = none → atF (F.set b3 (.cells a_0 28)) fun F =>
 Spec prog 15 #[] F fun v F => ∃ v_28 : Bool, v = (.bool v_28) ∧
 ∃ v_29 : Array Value, v_29.size = 2 ∧ F.row (Addr.mk b3 0 none) v_29 ∧
 Spec prog 36 #[(.agg v_29)] F fun v F => ∃ v_30 : Bool, v = (.bool v_30) ∧
 (((!v_30) = true →
  R (.bool v_28) F) ∧
 ((!v_30) = false →
  ∃ v_34 : Array Value, v_34.size = 2 ∧ F.row (Addr.mk b3 0 none) v_34 ∧
  Spec prog 28 #[(.agg v_34), (.int .i64 v_1), (.bool (decide ((Int.tmod c_2 (2 : Int)) = (1 : Int))))] F fun v F => ∃ v_39 : Array Value, ∃ v_39_1 : Int, v = (.tuple #[(.agg v_39), (.int .i64 v_39_1)]) ∧
  ∀ b8, F b8 = none → atF (F.set b8 (.cells (#[.slice none 0 0, .int .i64 0]) 28)) fun F =>
  v_39.size = 2 ∧ (∀ v ∈ v_39.toList, storable v) ∧ ∃ c e, F (Addr.mk b8 0 none).block = some (.cells c e (0, 0)) ∧ (Addr.mk b8 0 none).spot = none ∧ (Addr.mk b8 0 none).off + 2 ≤ c.size ∧
  atF (F.set (Addr.mk b8 0 none).block (.cells (wr c (Addr.mk b8 0 none).off v_39.toList) e)) fun F =>
  ∃ v_43 : Array Value, v_43.size = 2 ∧ F.row (Addr.mk b3 0 none) v_43 ∧
  Spec prog 48 #[(.agg v_43), (.int .i64 v_1), (.bool (decide ((Int.tmod c_2 (2 : Int)) = (1 : Int))))] F fun v F => ∃ v_48 : Array Value, ∃ v_48_1 : Int, v = (.tuple #[(.agg v_48), (.int .i64 v_48_1)]) ∧
  ∀ b10, F b10 = none → atF (F.set b10 (.cells (#[.slice none 0 0, .int .i64 0]) 28)) fun F =>
  v_48.size = 2 ∧ (∀ v ∈ v_48.toList, storable v) ∧ ∃ c e, F (Addr.mk b10 0 none).block = some (.cells c e (0, 0)) ∧ (Addr.mk b10 0 none).spot = none ∧ (Addr.mk b10 0 none).off + 2 ≤ c.size ∧
  atF (F.set (Addr.mk b10 0 none).block (.cells (wr c (Addr.mk b10 0 none).off v_48.toList) e)) fun F =>
  ∃ v_52 : Array Value, v_52.size = 2 ∧ F.row (Addr.mk b3 0 none) v_52 ∧
  Spec prog 29 #[(.agg v_52), (.int .i64 v_1)] F fun v F => ∃ v_54 : Array Value, ∃ v_54_1 : Int, v = (.tuple #[(.agg v_54), (.int .i64 v_54_1)]) ∧
  ∀ b12, F b12 = none → atF (F.set b12 (.cells (#[.slice none 0 0, .int .i64 0]) 28)) fun F =>
  v_54.size = 2 ∧ (∀ v ∈ v_54.toList, storable v) ∧ ∃ c e, F (Addr.mk b12 0 none).block = some (.cells c e (0, 0)) ∧ (Addr.mk b12 0 none).spot = none ∧ (Addr.mk b12 0 none).off + 2 ≤ c.size ∧
  atF (F.set (Addr.mk b12 0 none).block (.cells (wr c (Addr.mk b12 0 none).off v_54.toList) e)) fun F =>
  ∃ v_58 : Array Value, v_58.size = 2 ∧ F.row (Addr.mk b3 0 none) v_58 ∧
  Spec prog 49 #[(.agg v_58), (.int .i64 v_1)] F fun v F => ∃ v_60 : Array Value, ∃ v_60_1 : Int, v = (.tuple #[(.agg v_60), (.int .i64 v_60_1)]) ∧
  ∀ b14, F b14 = none → atF (F.set b14 (.cells (#[.slice none 0 0, .int .i64 0]) 28)) fun F =>
  v_60.size = 2 ∧ (∀ v ∈ v_60.toList, storable v) ∧ ∃ c e, F (Addr.mk b14 0 none).block = some (.cells c e (0, 0)) ∧ (Addr.mk b14 0 none).spot = none ∧ (Addr.mk b14 0 none).off + 2 ≤ c.size ∧
  atF (F.set (Addr.mk b14 0 none).block (.cells (wr c (Addr.mk b14 0 none).off v_60.toList) e)) fun F =>
  ∃ v_63 : Array Value, v_63.size = 2 ∧ F.row (Addr.mk b8 0 none) v_63 ∧
  ∃ v_64 : Array Value, v_64.size = 2 ∧ F.row (Addr.mk b10 0 none) v_64 ∧
  Spec prog 39 #[(.agg v_63), (.agg v_64)] F fun v F => ∃ v_65 : Bool, v = (.bool v_65) ∧
  (((!v_65) = true →
   R (.bool false) F) ∧
  ((!v_65) = false →
   ((v_39_1 ≠ v_48_1 →
    R (.bool false) F) ∧
   (¬ (v_39_1 ≠ v_48_1) →
    ∃ v_73 : Array Value, v_73.size = 2 ∧ F.row (Addr.mk b12 0 none) v_73 ∧
    ∃ v_74 : Array Value, v_74.size = 2 ∧ F.row (Addr.mk b14 0 none) v_74 ∧
    Spec prog 39 #[(.agg v_73), (.agg v_74)] F fun v F => ∃ v_75 : Bool, v = (.bool v_75) ∧
    (((!v_75) = true →
     R (.bool false) F) ∧
    ((!v_75) = false →
     ((v_54_1 ≠ v_60_1 →
      R (.bool false) F) ∧
     (¬ (v_54_1 ≠ v_60_1) →
      ∃ v_84 : Array Value, v_84.size = 2 ∧ F.row (Addr.mk b3 0 none) v_84 ∧
      Spec prog 32 #[(.agg v_84), (.int .i64 v_1)] F fun v F => ∃ v_86 : Sl, ∃ v_86_1 : Int, v = (.tuple #[(Sl.v v_86), (.int .i64 v_86_1)]) ∧
      ∃ v_90 : Array Value, v_90.size = 2 ∧ F.row (Addr.mk b3 0 none) v_90 ∧
      Spec prog 50 #[(.agg v_90), (.int .i64 v_1)] F fun v F => ∃ v_92 : Sl, ∃ v_92_1 : Int, v = (.tuple #[(Sl.v v_92), (.int .i64 v_92_1)]) ∧
      ∃ v_96 : Array Value, v_96.size = 2 ∧ F.row (Addr.mk b3 0 none) v_96 ∧
      Spec prog 31 #[(.agg v_96)] F fun v F => ∃ v_97 : Int, ∃ v_97_1 : Bool, v = (.tuple #[(.int .u64 v_97), (.bool v_97_1)]) ∧
      ∃ v_101 : Array Value, v_101.size = 2 ∧ F.row (Addr.mk b3 0 none) v_101 ∧
      Spec prog 51 #[(.agg v_101)] F fun v F => ∃ v_102 : Int, ∃ v_102_1 : Bool, v = (.tuple #[(.int .u64 v_102), (.bool v_102_1)]) ∧
      Spec prog 30 #[(.int .i64 v_1)] F fun v F => ∃ v_107 : Array Value, ∃ v_107_1 : Int, v = (.tuple #[(.agg v_107), (.int .i64 v_107_1)]) ∧
      ∀ b24, F b24 = none → atF (F.set b24 (.cells (#[.slice none 0 0, .int .i64 0]) 28)) fun F =>
      v_107.size = 2 ∧ (∀ v ∈ v_107.toList, storable v) ∧ ∃ c e, F (Addr.mk b24 0 none).block = some (.cells c e (0, 0)) ∧ (Addr.mk b24 0 none).spot = none ∧ (Addr.mk b24 0 none).off + 2 ≤ c.size ∧
      atF (F.set (Addr.mk b24 0 none).block (.cells (wr c (Addr.mk b24 0 none).off v_107.toList) e)) fun F =>
      Spec prog 52 #[(.int .i64 v_1)] F fun v F => ∃ v_112 : Array Value, ∃ v_112_1 : Int, v = (.tuple #[(.agg v_112), (.int .i64 v_112_1)]) ∧
      ∀ b26, F b26 = none → atF (F.set b26 (.cells (#[.slice none 0 0, .int .i64 0]) 28)) fun F =>
      v_112.size = 2 ∧ (∀ v ∈ v_112.toList, storable v) ∧ ∃ c e, F (Addr.mk b26 0 none).block = some (.cells c e (0, 0)) ∧ (Addr.mk b26 0 none).spot = none ∧ (Addr.mk b26 0 none).off + 2 ≤ c.size ∧
      atF (F.set (Addr.mk b26 0 none).block (.cells (wr c (Addr.mk b26 0 none).off v_112.toList) e)) fun F =>
      Spec prog 53 #[(Sl.v v_86), (Sl.v v_92)] F fun v F => ∃ v_117 : Bool, v = (.bool v_117) ∧
      ((v_117 = true →
       ((v_86_1 = v_92_1 →
        ((v_97 = v_102 →
         (((v_97_1 == v_102_1) = true →
          ∃ v_134 : Array Value, v_134.size = 2 ∧ F.row (Addr.mk b24 0 none) v_134 ∧
          ∃ v_135 : Array Value, v_135.size = 2 ∧ F.row (Addr.mk b26 0 none) v_135 ∧
          Spec prog 39 #[(.agg v_134), (.agg v_135)] F fun v F => ∃ v_136 : Bool, v = (.bool v_136) ∧
          ((v_136 = true →
           ((v_107_1 = v_112_1 →
            ∃ v_144 : Array Value, v_144.size = 2 ∧ F.row (Addr.mk b3 0 none) v_144 ∧
            ∃ v_147 : Array Value, v_147.size = 2 ∧ F.row (Addr.mk b3 0 none) v_147 ∧
            Spec prog 21 #[(.agg v_144), (.int .u64 c_2)] F fun v F => ∃ v_146 : Bool, v = (.bool v_146) ∧
            F.row (Addr.mk b3 0 none) v_147 ∧ Spec prog 54 #[(.agg v_147), (.int .u64 c_2)] F fun v F => ∃ v_149 : Bool, v = (.bool v_149) ∧
            (((v_146 == v_149) = true →
             ∃ v_153 : Array Value, v_153.size = 2 ∧ F.row (Addr.mk b3 0 none) v_153 ∧
             ∃ v_155 : Array Value, v_155.size = 2 ∧ F.row (Addr.mk b3 0 none) v_155 ∧
             Spec prog 56 #[(.agg v_153)] F fun v F => ∃ v_154 : Sl, v = (Sl.v v_154) ∧
             F.row (Addr.mk b3 0 none) v_155 ∧ Spec prog 57 #[(.agg v_155)] F fun v F => ∃ v_156 : Sl, v = (Sl.v v_156) ∧
             Spec prog 55 #[(Sl.v v_154), (Sl.v v_156)] F fun v F => ∃ v_157 : Bool, v = (.bool v_157) ∧
             ((v_157 = true →
              R (.bool v_28) F) ∧
             (v_157 = false →
              R (.bool false) F))) ∧
            ((v_146 == v_149) = false →
             R (.bool false) F))) ∧
           (¬ (v_107_1 = v_112_1) →
            R (.bool false) F))) ∧
          (v_136 = false →
           R (.bool false) F))) ∧
         ((v_97_1 == v_102_1) = false →
          R (.bool false) F))) ∧
        (¬ (v_97 = v_102) →
         R (.bool false) F))) ∧
       (¬ (v_86_1 = v_92_1) →
        R (.bool false) F))) ∧
      (v_117 = false →
       R (.bool false) F))))))))))))
theorem c12 {a_0 : Array Value} {v_1 : Int} {c_2 : Int} {R : Value → PH → Prop} {F : PH} (h : b12 a_0 v_1 c_2 R F) : Spec prog 12 #[(.agg a_0), (.int .i64 v_1), (.int .u64 c_2)] F R := by
 refine spec_of (args := [(.agg a_0), (.int .i64 v_1), (.int .u64 c_2)]) func12 rfl ntmps12 rfl ?_
 unfold b12 at h
 refine cR ?_
 refine s_ef (k_box (cs := a_0) rfl rfl ?_)
 intro b3 hf_b3
 replace h := atE (h b3 hf_b3)
 refine sR (.bool false) (r_assign rfl rfl) ?_
 refine HL_nil ?_
 refine cR ?_
 refine s_ef (k_call (vs := []) cb15 evN (h.mono ?_))
 clear h; rintro v F ⟨v_28, rfl, h⟩
 refine sR (.bool v_28) (r_assign rfl rfl) ?_
 refine HL_nil ?_
 refine HC_seq ?_
 refine cR ?_
 obtain ⟨v_29, hs29, hc29, h⟩ := h
 refine sR (.agg v_29) (w_loadN rfl underlying28 rfl sz28 hs29 hc29) ?_
 refine s_ef (k_call (vs := [(.agg v_29)]) cb36 (evC rfl evN) (h.mono ?_))
 clear h; rintro v F ⟨v_30, rfl, h⟩
 refine sR (.bool (!v_30)) (r_not rfl rfl) ?_
 refine HL_nil ?_
 refine HC_cond (t := (!v_30)) rfl (fun hc => ?_) (fun hc => ?_)
 ·
  replace h := h.1 hc
  clear hc
  refine cR ?_
  refine sR (.bool v_28) (r_move rfl rfl) ?_
  refine sR (.bool v_28) (r_assign rfl rfl) ?_
  refine HL_nil ?_
  exact HC_ret (show endQ prog f12 R .ret _ _ from ⟨_, res1 rfl (rv_tmp rfl), h⟩)
 ·
  replace h := h.2 hc
  clear hc
  refine HC_skip ?_
  refine cR ?_
  obtain ⟨v_34, hs34, hc34, h⟩ := h
  refine sR (.agg v_34) (w_loadN rfl underlying28 rfl sz28 hs34 hc34) ?_
  refine sR (.int .i64 v_1) (r_move rfl rfl) ?_
  refine sR (.int .u64 c_2) (r_move rfl rfl) ?_
  refine sR (.int .u64 (Int.tmod c_2 (2 : Int))) (r_rem rfl rfl rfl (by decide)) ?_
  refine sR (.bool (decide ((Int.tmod c_2 (2 : Int)) = (1 : Int)))) (w_eql rfl rfl) ?_
  refine s_ef (k_call (vs := [(.agg v_34), (.int .i64 v_1), (.bool (decide ((Int.tmod c_2 (2 : Int)) = (1 : Int))))]) cb28 (evC rfl (evC rfl (evC rfl evN))) (h.mono ?_))
  clear h; rintro v F ⟨v_39, v_39_1, rfl, h⟩
  refine sR (.tuple #[(.agg v_39), (.int .i64 v_39_1)]) (r_move rfl rfl) ?_
  refine sR (.agg v_39) (r_extract rfl rfl rfl) ?_
  refine sR (.int .i64 v_39_1) (r_extract rfl rfl rfl) ?_
  refine s_ef (k_alloc zr28 ?_)
  intro b8 hf_b8
  replace h := atE (h b8 hf_b8)
  refine s_ef0 (k_storeN (vs := v_39) rfl rfl sz28 (by decide) ?_)
  obtain ⟨hz1, hz2, c, e, hz3, hz4, hz5, h⟩ := h
  refine ⟨hz1, hz2, c, e, hz3, hz4, hz5, ?_⟩
  replace h := atE h
  refine sR (.int .i64 v_39_1) (r_assign rfl rfl) ?_
  refine HL_nil ?_
  refine cR ?_
  obtain ⟨v_43, hs43, hc43, h⟩ := h
  refine sR (.agg v_43) (w_loadN rfl underlying28 rfl sz28 hs43 hc43) ?_
  refine sR (.int .i64 v_1) (r_move rfl rfl) ?_
  refine sR (.int .u64 c_2) (r_move rfl rfl) ?_
  refine sR (.int .u64 (Int.tmod c_2 (2 : Int))) (r_rem rfl rfl rfl (by decide)) ?_
  refine sR (.bool (decide ((Int.tmod c_2 (2 : Int)) = (1 : Int)))) (w_eql rfl rfl) ?_
  refine s_ef (k_call (vs := [(.agg v_43), (.int .i64 v_1), (.bool (decide ((Int.tmod c_2 (2 : Int)) = (1 : Int))))]) cb48 (evC rfl (evC rfl (evC rfl evN))) (h.mono ?_))
  clear h; rintro v F ⟨v_48, v_48_1, rfl, h⟩
  refine sR (.tuple #[(.agg v_48), (.int .i64 v_48_1)]) (r_move rfl rfl) ?_
  refine sR (.agg v_48) (r_extract rfl rfl rfl) ?_
  refine sR (.int .i64 v_48_1) (r_extract rfl rfl rfl) ?_
  refine s_ef (k_alloc zr28 ?_)
  intro b10 hf_b10
  replace h := atE (h b10 hf_b10)
  refine s_ef0 (k_storeN (vs := v_48) rfl rfl sz28 (by decide) ?_)
  obtain ⟨hz1, hz2, c, e, hz3, hz4, hz5, h⟩ := h
  refine ⟨hz1, hz2, c, e, hz3, hz4, hz5, ?_⟩
  replace h := atE h
  refine sR (.int .i64 v_48_1) (r_assign rfl rfl) ?_
  refine HL_nil ?_
  refine cR ?_
  obtain ⟨v_52, hs52, hc52, h⟩ := h
  refine sR (.agg v_52) (w_loadN rfl underlying28 rfl sz28 hs52 hc52) ?_
  refine sR (.int .i64 v_1) (r_move rfl rfl) ?_
  refine s_ef (k_call (vs := [(.agg v_52), (.int .i64 v_1)]) cb29 (evC rfl (evC rfl evN)) (h.mono ?_))
  clear h; rintro v F ⟨v_54, v_54_1, rfl, h⟩
  refine sR (.tuple #[(.agg v_54), (.int .i64 v_54_1)]) (r_move rfl rfl) ?_
  refine sR (.agg v_54) (r_extract rfl rfl rfl) ?_
  refine sR (.int .i64 v_54_1) (r_extract rfl rfl rfl) ?_
  refine s_ef (k_alloc zr28 ?_)
  intro b12 hf_b12
  replace h := atE (h b12 hf_b12)
  refine s_ef0 (k_storeN (vs := v_54) rfl rfl sz28 (by decide) ?_)
  obtain ⟨hz1, hz2, c, e, hz3, hz4, hz5, h⟩ := h
  refine ⟨hz1, hz2, c, e, hz3, hz4, hz5, ?_⟩
  replace h := atE h
  refine sR (.int .i64 v_54_1) (r_assign rfl rfl) ?_
  refine HL_nil ?_
  refine cR ?_
  obtain ⟨v_58, hs58, hc58, h⟩ := h
  refine sR (.agg v_58) (w_loadN rfl underlying28 rfl sz28 hs58 hc58) ?_
  refine sR (.int .i64 v_1) (r_move rfl rfl) ?_
  refine s_ef (k_call (vs := [(.agg v_58), (.int .i64 v_1)]) cb49 (evC rfl (evC rfl evN)) (h.mono ?_))
  clear h; rintro v F ⟨v_60, v_60_1, rfl, h⟩
  refine sR (.tuple #[(.agg v_60), (.int .i64 v_60_1)]) (r_move rfl rfl) ?_
  refine sR (.agg v_60) (r_extract rfl rfl rfl) ?_
  refine sR (.int .i64 v_60_1) (r_extract rfl rfl rfl) ?_
  refine s_ef (k_alloc zr28 ?_)
  intro b14 hf_b14
  replace h := atE (h b14 hf_b14)
  refine s_ef0 (k_storeN (vs := v_60) rfl rfl sz28 (by decide) ?_)
  obtain ⟨hz1, hz2, c, e, hz3, hz4, hz5, h⟩ := h
  refine ⟨hz1, hz2, c, e, hz3, hz4, hz5, ?_⟩
  replace h := atE h
  refine sR (.int .i64 v_60_1) (r_assign rfl rfl) ?_
  refine HL_nil ?_
  refine HC_seq ?_
  refine cR ?_
  obtain ⟨v_63, hs63, hc63, h⟩ := h
  refine sR (.agg v_63) (w_loadN rfl underlying28 rfl sz28 hs63 hc63) ?_
  obtain ⟨v_64, hs64, hc64, h⟩ := h
  refine sR (.agg v_64) (w_loadN rfl underlying28 rfl sz28 hs64 hc64) ?_
  refine s_ef (k_call (vs := [(.agg v_63), (.agg v_64)]) cb39 (evC rfl (evC rfl evN)) (h.mono ?_))
  clear h; rintro v F ⟨v_65, rfl, h⟩
  refine sR (.bool (!v_65)) (r_not rfl rfl) ?_
  refine sR (.bool (!v_65)) (r_move rfl rfl) ?_
  by_cases hc : (!v_65) = true
  ·
   replace h := h.1 hc
   refine kN 66 hc ?_
   refine kN 67 hc ?_
   refine s_skip ?_
   refine s_skip ?_
   refine s_skip ?_
   refine sR (.bool true) (r_pick rfl rfl (fun _ => rfl) (fun h => by cases h)) ?_
   refine sR (.bool true) (r_move rfl rfl) ?_
   refine s_skip ?_
   refine s_skip ?_
   refine s_skip ?_
   refine s_skip ?_
   refine sR (.bool true) (r_pick rfl rfl (fun _ => rfl) (fun h => by cases h)) ?_
   refine sR (.bool true) (r_move rfl rfl) ?_
   refine s_skip ?_
   refine s_skip ?_
   refine s_skip ?_
   refine sR (.bool true) (r_pick rfl rfl (fun _ => rfl) (fun h => by cases h)) ?_
   refine HL_nil ?_
   refine HC_condT rfl ?_
   refine cR ?_
   refine sR (.bool false) (r_assign rfl rfl) ?_
   refine HL_nil ?_
   exact HC_ret (show endQ prog f12 R .ret _ _ from ⟨_, res1 rfl (rv_tmp rfl), h⟩)
  ·
   replace hc := eq_false_of_ne_true hc; replace h := h.2 hc
   refine kN 66 hc ?_
   refine kN 67 hc ?_
   refine sR (.int .i64 v_39_1) (r_move rfl rfl) ?_
   refine sR (.int .i64 v_48_1) (r_move rfl rfl) ?_
   refine sR (.bool (decide (v_39_1 ≠ v_48_1))) (w_neq rfl rfl) ?_
   refine sR (.bool (decide (v_39_1 ≠ v_48_1))) (r_pick rfl rfl (fun h => by cases h) (fun _ => rfl)) ?_
   refine sR (.bool (decide (v_39_1 ≠ v_48_1))) (r_move rfl rfl) ?_
   by_cases hc : v_39_1 ≠ v_48_1
   ·
    replace h := h.1 hc
    refine kN 70 (decide_eq_true hc) ?_
    refine kN 71 (decide_eq_true hc) ?_
    refine kN 72 (decide_eq_true hc) ?_
    refine s_skip ?_
    refine s_skip ?_
    refine s_skip ?_
    refine s_skip ?_
    refine sR (.bool true) (r_pick rfl rfl (fun _ => rfl) (fun h => by cases h)) ?_
    refine sR (.bool true) (r_move rfl rfl) ?_
    refine s_skip ?_
    refine s_skip ?_
    refine s_skip ?_
    refine sR (.bool true) (r_pick rfl rfl (fun _ => rfl) (fun h => by cases h)) ?_
    refine HL_nil ?_
    refine HC_condT rfl ?_
    refine cR ?_
    refine sR (.bool false) (r_assign rfl rfl) ?_
    refine HL_nil ?_
    exact HC_ret (show endQ prog f12 R .ret _ _ from ⟨_, res1 rfl (rv_tmp rfl), h⟩)
   ·
    replace h := h.2 hc
    refine kN 70 (decide_eq_false hc) ?_
    refine kN 71 (decide_eq_false hc) ?_
    refine kN 72 (decide_eq_false hc) ?_
    obtain ⟨v_73, hs73, hc73, h⟩ := h
    refine sR (.agg v_73) (w_loadN rfl underlying28 rfl sz28 hs73 hc73) ?_
    obtain ⟨v_74, hs74, hc74, h⟩ := h
    refine sR (.agg v_74) (w_loadN rfl underlying28 rfl sz28 hs74 hc74) ?_
    refine s_ef (k_call (vs := [(.agg v_73), (.agg v_74)]) cb39 (evC rfl (evC rfl evN)) (h.mono ?_))
    clear h; rintro v F ⟨v_75, rfl, h⟩
    refine sR (.bool (!v_75)) (r_not rfl rfl) ?_
    refine sR (.bool (!v_75)) (r_pick rfl rfl (fun h => by cases h) (fun _ => rfl)) ?_
    refine sR (.bool (!v_75)) (r_move rfl rfl) ?_
    by_cases hc : (!v_75) = true
    ·
     replace h := h.1 hc
     refine kN 76 hc ?_
     refine kN 77 hc ?_
     refine kN 78 hc ?_
     refine s_skip ?_
     refine s_skip ?_
     refine s_skip ?_
     refine sR (.bool true) (r_pick rfl rfl (fun _ => rfl) (fun h => by cases h)) ?_
     refine HL_nil ?_
     refine HC_condT rfl ?_
     refine cR ?_
     refine sR (.bool false) (r_assign rfl rfl) ?_
     refine HL_nil ?_
     exact HC_ret (show endQ prog f12 R .ret _ _ from ⟨_, res1 rfl (rv_tmp rfl), h⟩)
    ·
     replace hc := eq_false_of_ne_true hc; replace h := h.2 hc
     refine kN 76 hc ?_
     refine kN 77 hc ?_
     refine kN 78 hc ?_
     refine sR (.int .i64 v_54_1) (r_move rfl rfl) ?_
     refine sR (.int .i64 v_60_1) (r_move rfl rfl) ?_
     refine sR (.bool (decide (v_54_1 ≠ v_60_1))) (w_neq rfl rfl) ?_
     refine sR (.bool (decide (v_54_1 ≠ v_60_1))) (r_pick rfl rfl (fun h => by cases h) (fun _ => rfl)) ?_
     refine HL_nil ?_
     refine HC_cond (t := (decide (v_54_1 ≠ v_60_1))) rfl (fun hc => ?_) (fun hc => ?_)
     ·
      replace h := h.1 (of_decide_eq_true hc)
      clear hc
      refine cR ?_
      refine sR (.bool false) (r_assign rfl rfl) ?_
      refine HL_nil ?_
      exact HC_ret (show endQ prog f12 R .ret _ _ from ⟨_, res1 rfl (rv_tmp rfl), h⟩)
     ·
      replace h := h.2 (of_decide_eq_false hc)
      clear hc
      refine HC_skip ?_
      refine cR ?_
      obtain ⟨v_84, hs84, hc84, h⟩ := h
      refine sR (.agg v_84) (w_loadN rfl underlying28 rfl sz28 hs84 hc84) ?_
      refine sR (.int .i64 v_1) (r_move rfl rfl) ?_
      refine s_ef (k_call (vs := [(.agg v_84), (.int .i64 v_1)]) cb32 (evC rfl (evC rfl evN)) (h.mono ?_))
      clear h; rintro v F ⟨v_86, v_86_1, rfl, h⟩
      refine sR (.tuple #[(Sl.v v_86), (.int .i64 v_86_1)]) (r_move rfl rfl) ?_
      refine sR (Sl.v v_86) (r_extract rfl rfl rfl) ?_
      refine sR (.int .i64 v_86_1) (r_extract rfl rfl rfl) ?_
      refine sR (Sl.v v_86) (r_assign rfl rfl) ?_
      refine sR (.int .i64 v_86_1) (r_assign rfl rfl) ?_
      refine HL_nil ?_
      refine cR ?_
      obtain ⟨v_90, hs90, hc90, h⟩ := h
      refine sR (.agg v_90) (w_loadN rfl underlying28 rfl sz28 hs90 hc90) ?_
      refine sR (.int .i64 v_1) (r_move rfl rfl) ?_
      refine s_ef (k_call (vs := [(.agg v_90), (.int .i64 v_1)]) cb50 (evC rfl (evC rfl evN)) (h.mono ?_))
      clear h; rintro v F ⟨v_92, v_92_1, rfl, h⟩
      refine sR (.tuple #[(Sl.v v_92), (.int .i64 v_92_1)]) (r_move rfl rfl) ?_
      refine sR (Sl.v v_92) (r_extract rfl rfl rfl) ?_
      refine sR (.int .i64 v_92_1) (r_extract rfl rfl rfl) ?_
      refine sR (Sl.v v_92) (r_assign rfl rfl) ?_
      refine sR (.int .i64 v_92_1) (r_assign rfl rfl) ?_
      refine HL_nil ?_
      refine cR ?_
      obtain ⟨v_96, hs96, hc96, h⟩ := h
      refine sR (.agg v_96) (w_loadN rfl underlying28 rfl sz28 hs96 hc96) ?_
      refine s_ef (k_call (vs := [(.agg v_96)]) cb31 (evC rfl evN) (h.mono ?_))
      clear h; rintro v F ⟨v_97, v_97_1, rfl, h⟩
      refine sR (.tuple #[(.int .u64 v_97), (.bool v_97_1)]) (r_move rfl rfl) ?_
      refine sR (.int .u64 v_97) (r_extract rfl rfl rfl) ?_
      refine sR (.bool v_97_1) (r_extract rfl rfl rfl) ?_
      refine sR (.int .u64 v_97) (r_assign rfl rfl) ?_
      refine sR (.bool v_97_1) (r_assign rfl rfl) ?_
      refine HL_nil ?_
      refine cR ?_
      obtain ⟨v_101, hs101, hc101, h⟩ := h
      refine sR (.agg v_101) (w_loadN rfl underlying28 rfl sz28 hs101 hc101) ?_
      refine s_ef (k_call (vs := [(.agg v_101)]) cb51 (evC rfl evN) (h.mono ?_))
      clear h; rintro v F ⟨v_102, v_102_1, rfl, h⟩
      refine sR (.tuple #[(.int .u64 v_102), (.bool v_102_1)]) (r_move rfl rfl) ?_
      refine sR (.int .u64 v_102) (r_extract rfl rfl rfl) ?_
      refine sR (.bool v_102_1) (r_extract rfl rfl rfl) ?_
      refine sR (.int .u64 v_102) (r_assign rfl rfl) ?_
      refine sR (.bool v_102_1) (r_assign rfl rfl) ?_
      refine HL_nil ?_
      refine cR ?_
      refine sR (.int .i64 v_1) (r_move rfl rfl) ?_
      refine s_ef (k_call (vs := [(.int .i64 v_1)]) cb30 (evC rfl evN) (h.mono ?_))
      clear h; rintro v F ⟨v_107, v_107_1, rfl, h⟩
      refine sR (.tuple #[(.agg v_107), (.int .i64 v_107_1)]) (r_move rfl rfl) ?_
      refine sR (.agg v_107) (r_extract rfl rfl rfl) ?_
      refine sR (.int .i64 v_107_1) (r_extract rfl rfl rfl) ?_
      refine s_ef (k_alloc zr28 ?_)
      intro b24 hf_b24
      replace h := atE (h b24 hf_b24)
      refine s_ef0 (k_storeN (vs := v_107) rfl rfl sz28 (by decide) ?_)
      obtain ⟨hz1, hz2, c, e, hz3, hz4, hz5, h⟩ := h
      refine ⟨hz1, hz2, c, e, hz3, hz4, hz5, ?_⟩
      replace h := atE h
      refine sR (.int .i64 v_107_1) (r_assign rfl rfl) ?_
      refine HL_nil ?_
      refine cR ?_
      refine sR (.int .i64 v_1) (r_move rfl rfl) ?_
      refine s_ef (k_call (vs := [(.int .i64 v_1)]) cb52 (evC rfl evN) (h.mono ?_))
      clear h; rintro v F ⟨v_112, v_112_1, rfl, h⟩
      refine sR (.tuple #[(.agg v_112), (.int .i64 v_112_1)]) (r_move rfl rfl) ?_
      refine sR (.agg v_112) (r_extract rfl rfl rfl) ?_
      refine sR (.int .i64 v_112_1) (r_extract rfl rfl rfl) ?_
      refine s_ef (k_alloc zr28 ?_)
      intro b26 hf_b26
      replace h := atE (h b26 hf_b26)
      refine s_ef0 (k_storeN (vs := v_112) rfl rfl sz28 (by decide) ?_)
      obtain ⟨hz1, hz2, c, e, hz3, hz4, hz5, h⟩ := h
      refine ⟨hz1, hz2, c, e, hz3, hz4, hz5, ?_⟩
      replace h := atE h
      refine sR (.int .i64 v_112_1) (r_assign rfl rfl) ?_
      refine HL_nil ?_
      refine HC_seq ?_
      refine HC_draw0 (by kernel_rfl) (fun hp => ?_)
      refine gU 0 (Sl.v v_86) rfl (fun _ => r_move rfl rfl) hp ?_
      refine gU 1 (Sl.v v_92) rfl (fun _ => r_move rfl rfl) hp ?_
      refine RG_eff1 (i := 2) (by kernel_rfl) (g_op (Sp' := []) rfl rfl (k_call (vs := [(Sl.v v_86), (Sl.v v_92)]) cb53 (evC rfl (evC rfl evN)) (h.mono ?_)))
      clear h; rintro v F ⟨v_117, rfl, h⟩
      refine holdI hold0 (fun hp => ?_)
      refine gU 3 (.bool v_117) rfl (fun _ => r_move rfl rfl) hp ?_
      by_cases hc : v_117 = true
      ·
       replace h := h.1 hc
       refine RG_known (t := 117) (v := .bool true) (congrArg Value.bool hc) ?_
       refine RG_known (t := 118) (v := .bool true) (congrArg Value.bool hc) ?_
       refine gU 4 (.int .i64 v_86_1) rfl (fun _ => r_move rfl rfl) hp ?_
       refine gU 5 (.int .i64 v_92_1) rfl (fun _ => r_move rfl rfl) hp ?_
       refine gU 6 (.bool (decide (v_86_1 = v_92_1))) rfl (fun _ => w_eql rfl rfl) hp ?_
       refine gU 7 (.bool (decide (v_86_1 = v_92_1))) rfl (fun _ => r_pick rfl rfl (fun _ => rfl) (fun h => by cases h)) hp ?_
       refine gU 8 (.bool (decide (v_86_1 = v_92_1))) rfl (fun _ => r_move rfl rfl) hp ?_
       by_cases hc : v_86_1 = v_92_1
       ·
        replace h := h.1 hc
        refine RG_known (t := 121) (v := .bool true) (congrArg Value.bool (decide_eq_true hc)) ?_
        refine RG_known (t := 122) (v := .bool true) (congrArg Value.bool (decide_eq_true hc)) ?_
        refine RG_known (t := 123) (v := .bool true) (congrArg Value.bool (decide_eq_true hc)) ?_
        refine gU 9 (.int .u64 v_97) rfl (fun _ => r_move rfl rfl) hp ?_
        refine gU 10 (.int .u64 v_102) rfl (fun _ => r_move rfl rfl) hp ?_
        refine gU 11 (.bool (decide (v_97 = v_102))) rfl (fun _ => w_eql rfl rfl) hp ?_
        refine gU 12 (.bool (decide (v_97 = v_102))) rfl (fun _ => r_pick rfl rfl (fun _ => rfl) (fun h => by cases h)) hp ?_
        refine gU 13 (.bool (decide (v_97 = v_102))) rfl (fun _ => r_move rfl rfl) hp ?_
        by_cases hc : v_97 = v_102
        ·
         replace h := h.1 hc
         refine RG_known (t := 126) (v := .bool true) (congrArg Value.bool (decide_eq_true hc)) ?_
         refine RG_known (t := 127) (v := .bool true) (congrArg Value.bool (decide_eq_true hc)) ?_
         refine RG_known (t := 128) (v := .bool true) (congrArg Value.bool (decide_eq_true hc)) ?_
         refine gU 14 (.bool v_97_1) rfl (fun _ => r_move rfl rfl) hp ?_
         refine gU 15 (.bool v_102_1) rfl (fun _ => r_move rfl rfl) hp ?_
         refine gU 16 (.bool (v_97_1 == v_102_1)) rfl (fun _ => r_eqlB rfl rfl rfl underlying4) hp ?_
         refine gU 17 (.bool (v_97_1 == v_102_1)) rfl (fun _ => r_pick rfl rfl (fun _ => rfl) (fun h => by cases h)) hp ?_
         refine gU 18 (.bool (v_97_1 == v_102_1)) rfl (fun _ => r_move rfl rfl) hp ?_
         by_cases hc : (v_97_1 == v_102_1) = true
         ·
          replace h := h.1 hc
          refine RG_known (t := 131) (v := .bool true) (congrArg Value.bool hc) ?_
          refine RG_known (t := 132) (v := .bool true) (congrArg Value.bool hc) ?_
          refine RG_known (t := 133) (v := .bool true) (congrArg Value.bool hc) ?_
          obtain ⟨v_134, hs134, hc134, h⟩ := h
          refine gR 19 (.agg v_134) rfl (w_loadN rfl underlying28 rfl sz28 hs134 hc134) hp (fun S19 q19 => ?_)
          replace hp := holdC (i := 19) (q19 _ (w_loadN rfl underlying28 rfl sz28 hs134 hc134)) hp
          obtain ⟨v_135, hs135, hc135, h⟩ := h
          refine gR 20 (.agg v_135) rfl (w_loadN rfl underlying28 rfl sz28 hs135 hc135) hp (fun S20 q20 => ?_)
          replace hp := holdC (i := 20) (q20 _ (w_loadN rfl underlying28 rfl sz28 hs135 hc135)) hp
          refine RG_eff1 (i := 21) (by kernel_rfl) (g_op (Sp' := []) rfl rfl (k_call (vs := [(.agg v_134), (.agg v_135)]) cb39 (evC rfl (evC rfl evN)) (h.mono ?_)))
          clear h; rintro v F ⟨v_136, rfl, h⟩
          refine holdI hold0 (fun hp => ?_)
          refine gU 22 (.bool v_136) rfl (fun _ => r_pick rfl rfl (fun _ => rfl) (fun h => by cases h)) hp ?_
          refine gU 23 (.bool v_136) rfl (fun _ => r_move rfl rfl) hp ?_
          by_cases hc : v_136 = true
          ·
           replace h := h.1 hc
           refine RG_known (t := 136) (v := .bool true) (congrArg Value.bool hc) ?_
           refine RG_known (t := 137) (v := .bool true) (congrArg Value.bool hc) ?_
           refine RG_known (t := 138) (v := .bool true) (congrArg Value.bool hc) ?_
           refine gU 24 (.int .i64 v_107_1) rfl (fun _ => r_move rfl rfl) hp ?_
           refine gU 25 (.int .i64 v_112_1) rfl (fun _ => r_move rfl rfl) hp ?_
           refine gU 26 (.bool (decide (v_107_1 = v_112_1))) rfl (fun _ => w_eql rfl rfl) hp ?_
           refine gU 27 (.bool (decide (v_107_1 = v_112_1))) rfl (fun _ => r_pick rfl rfl (fun _ => rfl) (fun h => by cases h)) hp ?_
           refine gU 28 (.bool (decide (v_107_1 = v_112_1))) rfl (fun _ => r_move rfl rfl) hp ?_
           by_cases hc : v_107_1 = v_112_1
           ·
            replace h := h.1 hc
            refine RG_known (t := 141) (v := .bool true) (congrArg Value.bool (decide_eq_true hc)) ?_
            refine RG_known (t := 142) (v := .bool true) (congrArg Value.bool (decide_eq_true hc)) ?_
            refine RG_known (t := 143) (v := .bool true) (congrArg Value.bool (decide_eq_true hc)) ?_
            obtain ⟨v_144, hs144, hc144, h⟩ := h
            refine gR 29 (.agg v_144) rfl (w_loadN rfl underlying28 rfl sz28 hs144 hc144) hp (fun S29 q29 => ?_)
            replace hp := holdC (i := 29) (q29 _ (w_loadN rfl underlying28 rfl sz28 hs144 hc144)) hp
            refine gU 30 (.int .u64 c_2) rfl (fun _ => r_move rfl rfl) hp ?_
            obtain ⟨v_147, hs147, hc147, h⟩ := h
            refine gR 32 (.agg v_147) rfl (w_loadN rfl underlying28 rfl sz28 hs147 hc147) hp (fun S32 q32 => ?_)
            replace hp := holdC (i := 32) (q32 _ (w_loadN rfl underlying28 rfl sz28 hs147 hc147)) hp
            refine gU 33 (.int .u64 c_2) rfl (fun _ => r_move rfl rfl) hp ?_
            refine RG_eff1 (i := 31) (by kernel_rfl) (g_op (Sp' := [(32, S32)]) rfl rfl (k_call (vs := [(.agg v_144), (.int .u64 c_2)]) cb21 (evC rfl (evC rfl evN)) (h.mono ?_)))
            clear h; rintro v F ⟨v_146, rfl, h⟩
            obtain ⟨hk_3, h⟩ := h
            refine holdI (holdC (i := 32) (q32 _ (w_loadN rfl underlying28 rfl sz28 hs147 hk_3)) hold0) (fun hp => ?_)
            refine RG_eff1 (i := 34) (by kernel_rfl) (g_op (Sp' := []) rfl rfl (k_call (vs := [(.agg v_147), (.int .u64 c_2)]) cb54 (evC rfl (evC rfl evN)) (h.mono ?_)))
            clear h; rintro v F ⟨v_149, rfl, h⟩
            refine holdI hold0 (fun hp => ?_)
            refine gU 35 (.bool (v_146 == v_149)) rfl (fun _ => r_eqlB rfl rfl rfl underlying4) hp ?_
            refine gU 36 (.bool (v_146 == v_149)) rfl (fun _ => r_pick rfl rfl (fun _ => rfl) (fun h => by cases h)) hp ?_
            refine gU 37 (.bool (v_146 == v_149)) rfl (fun _ => r_move rfl rfl) hp ?_
            by_cases hc : (v_146 == v_149) = true
            ·
             replace h := h.1 hc
             refine RG_known (t := 150) (v := .bool true) (congrArg Value.bool hc) ?_
             refine RG_known (t := 151) (v := .bool true) (congrArg Value.bool hc) ?_
             refine RG_known (t := 152) (v := .bool true) (congrArg Value.bool hc) ?_
             obtain ⟨v_153, hs153, hc153, h⟩ := h
             refine gR 38 (.agg v_153) rfl (w_loadN rfl underlying28 rfl sz28 hs153 hc153) hp (fun S38 q38 => ?_)
             replace hp := holdC (i := 38) (q38 _ (w_loadN rfl underlying28 rfl sz28 hs153 hc153)) hp
             obtain ⟨v_155, hs155, hc155, h⟩ := h
             refine gR 40 (.agg v_155) rfl (w_loadN rfl underlying28 rfl sz28 hs155 hc155) hp (fun S40 q40 => ?_)
             replace hp := holdC (i := 40) (q40 _ (w_loadN rfl underlying28 rfl sz28 hs155 hc155)) hp
             refine RG_eff1 (i := 39) (by kernel_rfl) (g_op (Sp' := [(40, S40)]) rfl rfl (k_call (vs := [(.agg v_153)]) cb56 (evC rfl evN) (h.mono ?_)))
             clear h; rintro v F ⟨v_154, rfl, h⟩
             obtain ⟨hk_4, h⟩ := h
             refine holdI (holdC (i := 40) (q40 _ (w_loadN rfl underlying28 rfl sz28 hs155 hk_4)) hold0) (fun hp => ?_)
             refine RG_eff1 (i := 41) (by kernel_rfl) (g_op (Sp' := []) rfl rfl (k_call (vs := [(.agg v_155)]) cb57 (evC rfl evN) (h.mono ?_)))
             clear h; rintro v F ⟨v_156, rfl, h⟩
             refine holdI hold0 (fun hp => ?_)
             refine RG_eff1 (i := 42) (by kernel_rfl) (g_op (Sp' := []) rfl rfl (k_call (vs := [(Sl.v v_154), (Sl.v v_156)]) cb55 (evC rfl (evC rfl evN)) (h.mono ?_)))
             clear h; rintro v F ⟨v_157, rfl, h⟩
             refine holdI hold0 (fun hp => ?_)
             refine gU 43 (.bool v_157) rfl (fun _ => r_pick rfl rfl (fun _ => rfl) (fun h => by cases h)) hp ?_
             refine gU 44 (.bool v_157) rfl (fun _ => r_move rfl rfl) hp ?_
             by_cases hc : v_157 = true
             ·
              replace h := h.1 hc
              refine RG_known (t := 157) (v := .bool true) (congrArg Value.bool hc) ?_
              refine RG_known (t := 158) (v := .bool true) (congrArg Value.bool hc) ?_
              refine RG_known (t := 159) (v := .bool true) (congrArg Value.bool hc) ?_
              refine gU 45 (.bool v_28) rfl (fun _ => r_move rfl rfl) hp ?_
              refine gU 46 (.bool v_28) rfl (fun _ => r_pick rfl rfl (fun _ => rfl) (fun h => by cases h)) hp ?_
              refine gU 47 (.bool v_28) rfl (fun _ => r_assign rfl rfl) hp ?_
              refine RG_done (by kernel_rfl) ?_
              exact HC_ret (show endQ prog f12 R .ret _ _ from ⟨_, res1 rfl (rv_tmp rfl), h⟩)
             ·
              replace hc := eq_false_of_ne_true hc; replace h := h.2 hc
              refine RG_known (t := 157) (v := .bool false) (congrArg Value.bool hc) ?_
              refine RG_known (t := 158) (v := .bool false) (congrArg Value.bool hc) ?_
              refine RG_known (t := 159) (v := .bool false) (congrArg Value.bool hc) ?_
              refine gS 45 rfl hp ?_
              refine gU 46 (.bool false) rfl (fun _ => r_pick rfl rfl (fun h => by cases h) (fun _ => rfl)) hp ?_
              refine gU 47 (.bool false) rfl (fun _ => r_assign rfl rfl) hp ?_
              refine RG_done (by kernel_rfl) ?_
              exact HC_ret (show endQ prog f12 R .ret _ _ from ⟨_, res1 rfl (rv_tmp rfl), h⟩)
            ·
             replace hc := eq_false_of_ne_true hc; replace h := h.2 hc
             refine RG_known (t := 150) (v := .bool false) (congrArg Value.bool hc) ?_
             refine RG_known (t := 151) (v := .bool false) (congrArg Value.bool hc) ?_
             refine RG_known (t := 152) (v := .bool false) (congrArg Value.bool hc) ?_
             refine gS 38 rfl hp ?_
             refine gS 39 rfl hp ?_
             refine gS 40 rfl hp ?_
             refine gS 41 rfl hp ?_
             refine gS 42 rfl hp ?_
             refine gU 43 (.bool false) rfl (fun _ => r_pick rfl rfl (fun h => by cases h) (fun _ => rfl)) hp ?_
             refine gU 44 (.bool false) rfl (fun _ => r_move rfl rfl) hp ?_
             refine gS 45 rfl hp ?_
             refine gU 46 (.bool false) rfl (fun _ => r_pick rfl rfl (fun h => by cases h) (fun _ => rfl)) hp ?_
             refine gU 47 (.bool false) rfl (fun _ => r_assign rfl rfl) hp ?_
             refine RG_done (by kernel_rfl) ?_
             exact HC_ret (show endQ prog f12 R .ret _ _ from ⟨_, res1 rfl (rv_tmp rfl), h⟩)
           ·
            replace h := h.2 hc
            refine RG_known (t := 141) (v := .bool false) (congrArg Value.bool (decide_eq_false hc)) ?_
            refine RG_known (t := 142) (v := .bool false) (congrArg Value.bool (decide_eq_false hc)) ?_
            refine RG_known (t := 143) (v := .bool false) (congrArg Value.bool (decide_eq_false hc)) ?_
            refine gS 29 rfl hp ?_
            refine gS 30 rfl hp ?_
            refine gS 31 rfl hp ?_
            refine gS 32 rfl hp ?_
            refine gS 33 rfl hp ?_
            refine gS 34 rfl hp ?_
            refine gS 35 rfl hp ?_
            refine gU 36 (.bool false) rfl (fun _ => r_pick rfl rfl (fun h => by cases h) (fun _ => rfl)) hp ?_
            refine gU 37 (.bool false) rfl (fun _ => r_move rfl rfl) hp ?_
            refine gS 38 rfl hp ?_
            refine gS 39 rfl hp ?_
            refine gS 40 rfl hp ?_
            refine gS 41 rfl hp ?_
            refine gS 42 rfl hp ?_
            refine gU 43 (.bool false) rfl (fun _ => r_pick rfl rfl (fun h => by cases h) (fun _ => rfl)) hp ?_
            refine gU 44 (.bool false) rfl (fun _ => r_move rfl rfl) hp ?_
            refine gS 45 rfl hp ?_
            refine gU 46 (.bool false) rfl (fun _ => r_pick rfl rfl (fun h => by cases h) (fun _ => rfl)) hp ?_
            refine gU 47 (.bool false) rfl (fun _ => r_assign rfl rfl) hp ?_
            refine RG_done (by kernel_rfl) ?_
            exact HC_ret (show endQ prog f12 R .ret _ _ from ⟨_, res1 rfl (rv_tmp rfl), h⟩)
          ·
           replace hc := eq_false_of_ne_true hc; replace h := h.2 hc
           refine RG_known (t := 136) (v := .bool false) (congrArg Value.bool hc) ?_
           refine RG_known (t := 137) (v := .bool false) (congrArg Value.bool hc) ?_
           refine RG_known (t := 138) (v := .bool false) (congrArg Value.bool hc) ?_
           refine gS 24 rfl hp ?_
           refine gS 25 rfl hp ?_
           refine gS 26 rfl hp ?_
           refine gU 27 (.bool false) rfl (fun _ => r_pick rfl rfl (fun h => by cases h) (fun _ => rfl)) hp ?_
           refine gU 28 (.bool false) rfl (fun _ => r_move rfl rfl) hp ?_
           refine gS 29 rfl hp ?_
           refine gS 30 rfl hp ?_
           refine gS 31 rfl hp ?_
           refine gS 32 rfl hp ?_
           refine gS 33 rfl hp ?_
           refine gS 34 rfl hp ?_
           refine gS 35 rfl hp ?_
           refine gU 36 (.bool false) rfl (fun _ => r_pick rfl rfl (fun h => by cases h) (fun _ => rfl)) hp ?_
           refine gU 37 (.bool false) rfl (fun _ => r_move rfl rfl) hp ?_
           refine gS 38 rfl hp ?_
           refine gS 39 rfl hp ?_
           refine gS 40 rfl hp ?_
           refine gS 41 rfl hp ?_
           refine gS 42 rfl hp ?_
           refine gU 43 (.bool false) rfl (fun _ => r_pick rfl rfl (fun h => by cases h) (fun _ => rfl)) hp ?_
           refine gU 44 (.bool false) rfl (fun _ => r_move rfl rfl) hp ?_
           refine gS 45 rfl hp ?_
           refine gU 46 (.bool false) rfl (fun _ => r_pick rfl rfl (fun h => by cases h) (fun _ => rfl)) hp ?_
           refine gU 47 (.bool false) rfl (fun _ => r_assign rfl rfl) hp ?_
           refine RG_done (by kernel_rfl) ?_
           exact HC_ret (show endQ prog f12 R .ret _ _ from ⟨_, res1 rfl (rv_tmp rfl), h⟩)
         ·
          replace hc := eq_false_of_ne_true hc; replace h := h.2 hc
          refine RG_known (t := 131) (v := .bool false) (congrArg Value.bool hc) ?_
          refine RG_known (t := 132) (v := .bool false) (congrArg Value.bool hc) ?_
          refine RG_known (t := 133) (v := .bool false) (congrArg Value.bool hc) ?_
          refine gS 19 rfl hp ?_
          refine gS 20 rfl hp ?_
          refine gS 21 rfl hp ?_
          refine gU 22 (.bool false) rfl (fun _ => r_pick rfl rfl (fun h => by cases h) (fun _ => rfl)) hp ?_
          refine gU 23 (.bool false) rfl (fun _ => r_move rfl rfl) hp ?_
          refine gS 24 rfl hp ?_
          refine gS 25 rfl hp ?_
          refine gS 26 rfl hp ?_
          refine gU 27 (.bool false) rfl (fun _ => r_pick rfl rfl (fun h => by cases h) (fun _ => rfl)) hp ?_
          refine gU 28 (.bool false) rfl (fun _ => r_move rfl rfl) hp ?_
          refine gS 29 rfl hp ?_
          refine gS 30 rfl hp ?_
          refine gS 31 rfl hp ?_
          refine gS 32 rfl hp ?_
          refine gS 33 rfl hp ?_
          refine gS 34 rfl hp ?_
          refine gS 35 rfl hp ?_
          refine gU 36 (.bool false) rfl (fun _ => r_pick rfl rfl (fun h => by cases h) (fun _ => rfl)) hp ?_
          refine gU 37 (.bool false) rfl (fun _ => r_move rfl rfl) hp ?_
          refine gS 38 rfl hp ?_
          refine gS 39 rfl hp ?_
          refine gS 40 rfl hp ?_
          refine gS 41 rfl hp ?_
          refine gS 42 rfl hp ?_
          refine gU 43 (.bool false) rfl (fun _ => r_pick rfl rfl (fun h => by cases h) (fun _ => rfl)) hp ?_
          refine gU 44 (.bool false) rfl (fun _ => r_move rfl rfl) hp ?_
          refine gS 45 rfl hp ?_
          refine gU 46 (.bool false) rfl (fun _ => r_pick rfl rfl (fun h => by cases h) (fun _ => rfl)) hp ?_
          refine gU 47 (.bool false) rfl (fun _ => r_assign rfl rfl) hp ?_
          refine RG_done (by kernel_rfl) ?_
          exact HC_ret (show endQ prog f12 R .ret _ _ from ⟨_, res1 rfl (rv_tmp rfl), h⟩)
        ·
         replace h := h.2 hc
         refine RG_known (t := 126) (v := .bool false) (congrArg Value.bool (decide_eq_false hc)) ?_
         refine RG_known (t := 127) (v := .bool false) (congrArg Value.bool (decide_eq_false hc)) ?_
         refine RG_known (t := 128) (v := .bool false) (congrArg Value.bool (decide_eq_false hc)) ?_
         refine gS 14 rfl hp ?_
         refine gS 15 rfl hp ?_
         refine gS 16 rfl hp ?_
         refine gU 17 (.bool false) rfl (fun _ => r_pick rfl rfl (fun h => by cases h) (fun _ => rfl)) hp ?_
         refine gU 18 (.bool false) rfl (fun _ => r_move rfl rfl) hp ?_
         refine gS 19 rfl hp ?_
         refine gS 20 rfl hp ?_
         refine gS 21 rfl hp ?_
         refine gU 22 (.bool false) rfl (fun _ => r_pick rfl rfl (fun h => by cases h) (fun _ => rfl)) hp ?_
         refine gU 23 (.bool false) rfl (fun _ => r_move rfl rfl) hp ?_
         refine gS 24 rfl hp ?_
         refine gS 25 rfl hp ?_
         refine gS 26 rfl hp ?_
         refine gU 27 (.bool false) rfl (fun _ => r_pick rfl rfl (fun h => by cases h) (fun _ => rfl)) hp ?_
         refine gU 28 (.bool false) rfl (fun _ => r_move rfl rfl) hp ?_
         refine gS 29 rfl hp ?_
         refine gS 30 rfl hp ?_
         refine gS 31 rfl hp ?_
         refine gS 32 rfl hp ?_
         refine gS 33 rfl hp ?_
         refine gS 34 rfl hp ?_
         refine gS 35 rfl hp ?_
         refine gU 36 (.bool false) rfl (fun _ => r_pick rfl rfl (fun h => by cases h) (fun _ => rfl)) hp ?_
         refine gU 37 (.bool false) rfl (fun _ => r_move rfl rfl) hp ?_
         refine gS 38 rfl hp ?_
         refine gS 39 rfl hp ?_
         refine gS 40 rfl hp ?_
         refine gS 41 rfl hp ?_
         refine gS 42 rfl hp ?_
         refine gU 43 (.bool false) rfl (fun _ => r_pick rfl rfl (fun h => by cases h) (fun _ => rfl)) hp ?_
         refine gU 44 (.bool false) rfl (fun _ => r_move rfl rfl) hp ?_
         refine gS 45 rfl hp ?_
         refine gU 46 (.bool false) rfl (fun _ => r_pick rfl rfl (fun h => by cases h) (fun _ => rfl)) hp ?_
         refine gU 47 (.bool false) rfl (fun _ => r_assign rfl rfl) hp ?_
         refine RG_done (by kernel_rfl) ?_
         exact HC_ret (show endQ prog f12 R .ret _ _ from ⟨_, res1 rfl (rv_tmp rfl), h⟩)
       ·
        replace h := h.2 hc
        refine RG_known (t := 121) (v := .bool false) (congrArg Value.bool (decide_eq_false hc)) ?_
        refine RG_known (t := 122) (v := .bool false) (congrArg Value.bool (decide_eq_false hc)) ?_
        refine RG_known (t := 123) (v := .bool false) (congrArg Value.bool (decide_eq_false hc)) ?_
        refine gS 9 rfl hp ?_
        refine gS 10 rfl hp ?_
        refine gS 11 rfl hp ?_
        refine gU 12 (.bool false) rfl (fun _ => r_pick rfl rfl (fun h => by cases h) (fun _ => rfl)) hp ?_
        refine gU 13 (.bool false) rfl (fun _ => r_move rfl rfl) hp ?_
        refine gS 14 rfl hp ?_
        refine gS 15 rfl hp ?_
        refine gS 16 rfl hp ?_
        refine gU 17 (.bool false) rfl (fun _ => r_pick rfl rfl (fun h => by cases h) (fun _ => rfl)) hp ?_
        refine gU 18 (.bool false) rfl (fun _ => r_move rfl rfl) hp ?_
        refine gS 19 rfl hp ?_
        refine gS 20 rfl hp ?_
        refine gS 21 rfl hp ?_
        refine gU 22 (.bool false) rfl (fun _ => r_pick rfl rfl (fun h => by cases h) (fun _ => rfl)) hp ?_
        refine gU 23 (.bool false) rfl (fun _ => r_move rfl rfl) hp ?_
        refine gS 24 rfl hp ?_
        refine gS 25 rfl hp ?_
        refine gS 26 rfl hp ?_
        refine gU 27 (.bool false) rfl (fun _ => r_pick rfl rfl (fun h => by cases h) (fun _ => rfl)) hp ?_
        refine gU 28 (.bool false) rfl (fun _ => r_move rfl rfl) hp ?_
        refine gS 29 rfl hp ?_
        refine gS 30 rfl hp ?_
        refine gS 31 rfl hp ?_
        refine gS 32 rfl hp ?_
        refine gS 33 rfl hp ?_
        refine gS 34 rfl hp ?_
        refine gS 35 rfl hp ?_
        refine gU 36 (.bool false) rfl (fun _ => r_pick rfl rfl (fun h => by cases h) (fun _ => rfl)) hp ?_
        refine gU 37 (.bool false) rfl (fun _ => r_move rfl rfl) hp ?_
        refine gS 38 rfl hp ?_
        refine gS 39 rfl hp ?_
        refine gS 40 rfl hp ?_
        refine gS 41 rfl hp ?_
        refine gS 42 rfl hp ?_
        refine gU 43 (.bool false) rfl (fun _ => r_pick rfl rfl (fun h => by cases h) (fun _ => rfl)) hp ?_
        refine gU 44 (.bool false) rfl (fun _ => r_move rfl rfl) hp ?_
        refine gS 45 rfl hp ?_
        refine gU 46 (.bool false) rfl (fun _ => r_pick rfl rfl (fun h => by cases h) (fun _ => rfl)) hp ?_
        refine gU 47 (.bool false) rfl (fun _ => r_assign rfl rfl) hp ?_
        refine RG_done (by kernel_rfl) ?_
        exact HC_ret (show endQ prog f12 R .ret _ _ from ⟨_, res1 rfl (rv_tmp rfl), h⟩)
      ·
       replace hc := eq_false_of_ne_true hc; replace h := h.2 hc
       refine RG_known (t := 117) (v := .bool false) (congrArg Value.bool hc) ?_
       refine RG_known (t := 118) (v := .bool false) (congrArg Value.bool hc) ?_
       refine gS 4 rfl hp ?_
       refine gS 5 rfl hp ?_
       refine gS 6 rfl hp ?_
       refine gU 7 (.bool false) rfl (fun _ => r_pick rfl rfl (fun h => by cases h) (fun _ => rfl)) hp ?_
       refine gU 8 (.bool false) rfl (fun _ => r_move rfl rfl) hp ?_
       refine gS 9 rfl hp ?_
       refine gS 10 rfl hp ?_
       refine gS 11 rfl hp ?_
       refine gU 12 (.bool false) rfl (fun _ => r_pick rfl rfl (fun h => by cases h) (fun _ => rfl)) hp ?_
       refine gU 13 (.bool false) rfl (fun _ => r_move rfl rfl) hp ?_
       refine gS 14 rfl hp ?_
       refine gS 15 rfl hp ?_
       refine gS 16 rfl hp ?_
       refine gU 17 (.bool false) rfl (fun _ => r_pick rfl rfl (fun h => by cases h) (fun _ => rfl)) hp ?_
       refine gU 18 (.bool false) rfl (fun _ => r_move rfl rfl) hp ?_
       refine gS 19 rfl hp ?_
       refine gS 20 rfl hp ?_
       refine gS 21 rfl hp ?_
       refine gU 22 (.bool false) rfl (fun _ => r_pick rfl rfl (fun h => by cases h) (fun _ => rfl)) hp ?_
       refine gU 23 (.bool false) rfl (fun _ => r_move rfl rfl) hp ?_
       refine gS 24 rfl hp ?_
       refine gS 25 rfl hp ?_
       refine gS 26 rfl hp ?_
       refine gU 27 (.bool false) rfl (fun _ => r_pick rfl rfl (fun h => by cases h) (fun _ => rfl)) hp ?_
       refine gU 28 (.bool false) rfl (fun _ => r_move rfl rfl) hp ?_
       refine gS 29 rfl hp ?_
       refine gS 30 rfl hp ?_
       refine gS 31 rfl hp ?_
       refine gS 32 rfl hp ?_
       refine gS 33 rfl hp ?_
       refine gS 34 rfl hp ?_
       refine gS 35 rfl hp ?_
       refine gU 36 (.bool false) rfl (fun _ => r_pick rfl rfl (fun h => by cases h) (fun _ => rfl)) hp ?_
       refine gU 37 (.bool false) rfl (fun _ => r_move rfl rfl) hp ?_
       refine gS 38 rfl hp ?_
       refine gS 39 rfl hp ?_
       refine gS 40 rfl hp ?_
       refine gS 41 rfl hp ?_
       refine gS 42 rfl hp ?_
       refine gU 43 (.bool false) rfl (fun _ => r_pick rfl rfl (fun h => by cases h) (fun _ => rfl)) hp ?_
       refine gU 44 (.bool false) rfl (fun _ => r_move rfl rfl) hp ?_
       refine gS 45 rfl hp ?_
       refine gU 46 (.bool false) rfl (fun _ => r_pick rfl rfl (fun h => by cases h) (fun _ => rfl)) hp ?_
       refine gU 47 (.bool false) rfl (fun _ => r_assign rfl rfl) hp ?_
       refine RG_done (by kernel_rfl) ?_
       exact HC_ret (show endQ prog f12 R .ret _ _ from ⟨_, res1 rfl (rv_tmp rfl), h⟩)

end Go.Proofs.Ytafojmoeaneedaa
