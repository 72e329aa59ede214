/-
  What functions of the program do, in a clean form, each with the proof that its code does so. Printed by a program.
-/
import Derived.Test.YtafojmoeaneedaaGf
namespace Go.Proofs.Ytafojmoeaneedaa
open Go Go.Proofs.Try
set_option maxRecDepth 10000
set_option maxHeartbeats 4000000
/- 6 koine.koinelaw02.DiagramExpansion -/
def b6j1 (v_23 : Bool) (b6 : Nat) (b8 : Nat) (b12 : Nat) (b16 : Nat) (b18 : Nat) (b20 : Nat) (codes_22 : Bool) (R : Value → PH → Prop) (F : PH) : Prop :=
  ((codes_22 = true →
    ∃ v_95 : Array Value, v_95.size = 2 ∧ F.row (Addr.mk b16 0 none) v_95 ∧
    ∃ v_96 : Array Value, v_96.size = 2 ∧ F.row (Addr.mk b6 0 none) v_96 ∧
    Spec prog 24 #[(Value.agg v_95), (Value.agg v_96)] F fun v F => ∃ v_97 : Bool, v = (Value.bool v_97) ∧
    ((v_97 = true →
      ∃ v_100 : Array Value, v_100.size = 2 ∧ F.row (Addr.mk b12 0 none) v_100 ∧
      ∃ v_101 : Array Value, v_101.size = 2 ∧ F.row (Addr.mk b18 0 none) v_101 ∧
      Spec prog 24 #[(Value.agg v_100), (Value.agg v_101)] F fun v F => ∃ v_102 : Bool, v = (Value.bool v_102) ∧
      ((v_102 = true →
        ∃ v_105 : Array Value, v_105.size = 2 ∧ F.row (Addr.mk b20 0 none) v_105 ∧
        ∃ v_106 : Array Value, v_106.size = 2 ∧ F.row (Addr.mk b8 0 none) v_106 ∧
        Spec prog 24 #[(Value.agg v_105), (Value.agg v_106)] F fun v F => ∃ v_107 : Bool, v = (Value.bool v_107) ∧
        ((v_107 = true →
          R (Value.bool v_23) F) ∧
        (v_107 = false →
          R (Value.bool false) F))) ∧
      (v_102 = false →
        R (Value.bool false) F))) ∧
    (v_97 = false →
      R (Value.bool false) F))) ∧
  (codes_22 = false →
    R (Value.bool false) F))
abbrev b6J1 (v_23 : Bool) (b6 : Nat) (b8 : Nat) (b12 : Nat) (b16 : Nat) (b18 : Nat) (b20 : Nat) (R : Value → PH → Prop) (E : En) (F : PH) : Prop := ∃ codes_22 : Bool, E 5 = (Value.bool v_23) ∧ E 6 = (Value.pointer (some (Addr.mk b6 0 none))) ∧ E 8 = (Value.pointer (some (Addr.mk b8 0 none))) ∧ E 12 = (Value.pointer (some (Addr.mk b12 0 none))) ∧ E 16 = (Value.pointer (some (Addr.mk b16 0 none))) ∧ E 18 = (Value.pointer (some (Addr.mk b18 0 none))) ∧ E 20 = (Value.pointer (some (Addr.mk b20 0 none))) ∧ E 22 = (Value.bool codes_22) ∧ b6j1 v_23 b6 b8 b12 b16 b18 b20 codes_22 R F
def b6 (s_0 : Array Value) (condition_1 : Int) (R : Value → PH → Prop) (F : PH) : Prop :=
  ∀ b2, F b2 = none → atF (F.set b2 (.cells s_0 24)) fun F =>
  Spec prog 15 #[] F fun v F => ∃ v_23 : Bool, v = (Value.bool v_23) ∧
  ∃ v_24 : Array Value, v_24.size = 2 ∧ F.row (Addr.mk b2 0 none) v_24 ∧
  Spec prog 16 #[(Value.agg v_24)] F fun v F => ∃ v_25 : Array Value, v = (Value.agg v_25) ∧
  ∀ b6, F b6 = none → atF (F.set b6 (.cells (#[Value.slice none 0 0, Value.int .i64 0]) 28)) fun F =>
  v_25.size = 2 ∧ (∀ v ∈ v_25.toList, storable v) ∧ ∃ c e, F (Addr.mk b6 0 none).block = some (.cells c e (0, 0)) ∧ (Addr.mk b6 0 none).spot = none ∧ (Addr.mk b6 0 none).off + 2 ≤ c.size ∧
  atF (F.set (Addr.mk b6 0 none).block (.cells (wr c (Addr.mk b6 0 none).off v_25.toList) e)) fun F =>
  ∃ v_30 : Array Value, v_30.size = 2 ∧ F.row (Addr.mk b6 0 none) v_30 ∧
  Spec prog 28 #[(Value.agg v_30), (Value.int .i64 (IntKind.i64.wrap (Int.tmod condition_1 (64 : Int)))), (Value.bool true)] F fun v F => ∃ v_32 : Array Value, ∃ v_32_1 : Int, v = (Value.tuple #[(Value.agg v_32), (Value.int .i64 v_32_1)]) ∧
  ∀ b8, F b8 = none → atF (F.set b8 (.cells (#[Value.slice none 0 0, Value.int .i64 0]) 28)) fun F =>
  v_32.size = 2 ∧ (∀ v ∈ v_32.toList, storable v) ∧ ∃ c e, F (Addr.mk b8 0 none).block = some (.cells c e (0, 0)) ∧ (Addr.mk b8 0 none).spot = none ∧ (Addr.mk b8 0 none).off + 2 ≤ c.size ∧
  atF (F.set (Addr.mk b8 0 none).block (.cells (wr c (Addr.mk b8 0 none).off v_32.toList) e)) fun F =>
  ∃ v_36 : Array Value, v_36.size = 2 ∧ F.row (Addr.mk b6 0 none) v_36 ∧
  Spec prog 28 #[(Value.agg v_36), (Value.int .i64 (IntKind.i64.wrap (Int.tmod condition_1 (64 : Int)))), (Value.bool false)] F fun v F => ∃ v_38 : Array Value, ∃ v_38_1 : Int, v = (Value.tuple #[(Value.agg v_38), (Value.int .i64 v_38_1)]) ∧
  ∀ b10, F b10 = none → atF (F.set b10 (.cells (#[Value.slice none 0 0, Value.int .i64 0]) 28)) fun F =>
  v_38.size = 2 ∧ (∀ v ∈ v_38.toList, storable v) ∧ ∃ c e, F (Addr.mk b10 0 none).block = some (.cells c e (0, 0)) ∧ (Addr.mk b10 0 none).spot = none ∧ (Addr.mk b10 0 none).off + 2 ≤ c.size ∧
  atF (F.set (Addr.mk b10 0 none).block (.cells (wr c (Addr.mk b10 0 none).off v_38.toList) e)) fun F =>
  ∃ v_42 : Array Value, v_42.size = 2 ∧ F.row (Addr.mk b6 0 none) v_42 ∧
  Spec prog 29 #[(Value.agg v_42), (Value.int .i64 (IntKind.i64.wrap (Int.tmod condition_1 (64 : Int))))] F fun v F => ∃ v_44 : Array Value, ∃ v_44_1 : Int, v = (Value.tuple #[(Value.agg v_44), (Value.int .i64 v_44_1)]) ∧
  ∀ b12, F b12 = none → atF (F.set b12 (.cells (#[Value.slice none 0 0, Value.int .i64 0]) 28)) fun F =>
  v_44.size = 2 ∧ (∀ v ∈ v_44.toList, storable v) ∧ ∃ c e, F (Addr.mk b12 0 none).block = some (.cells c e (0, 0)) ∧ (Addr.mk b12 0 none).spot = none ∧ (Addr.mk b12 0 none).off + 2 ≤ c.size ∧
  atF (F.set (Addr.mk b12 0 none).block (.cells (wr c (Addr.mk b12 0 none).off v_44.toList) e)) fun F =>
  Spec prog 30 #[(Value.int .i64 (IntKind.i64.wrap (Int.tmod condition_1 (64 : Int))))] F fun v F => ∃ v_49 : Array Value, ∃ v_49_1 : Int, v = (Value.tuple #[(Value.agg v_49), (Value.int .i64 v_49_1)]) ∧
  ∀ b14, F b14 = none → atF (F.set b14 (.cells (#[Value.slice none 0 0, Value.int .i64 0]) 28)) fun F =>
  v_49.size = 2 ∧ (∀ v ∈ v_49.toList, storable v) ∧ ∃ c e, F (Addr.mk b14 0 none).block = some (.cells c e (0, 0)) ∧ (Addr.mk b14 0 none).spot = none ∧ (Addr.mk b14 0 none).off + 2 ≤ c.size ∧
  atF (F.set (Addr.mk b14 0 none).block (.cells (wr c (Addr.mk b14 0 none).off v_49.toList) e)) fun F =>
  ∃ v_53 : Array Value, v_53.size = 2 ∧ F.row (Addr.mk b14 0 none) v_53 ∧
  ∃ v_54 : Array Value, v_54.size = 2 ∧ F.row (Addr.mk b8 0 none) v_54 ∧
  ∃ v_55 : Array Value, v_55.size = 2 ∧ F.row (Addr.mk b10 0 none) v_55 ∧
  Spec prog 27 #[(Value.agg v_53), (Value.agg v_54), (Value.agg v_55)] F fun v F => ∃ v_56 : Array Value, ∃ v_56_1 : Int, v = (Value.tuple #[(Value.agg v_56), (Value.int .i64 v_56_1)]) ∧
  ∀ b16, F b16 = none → atF (F.set b16 (.cells (#[Value.slice none 0 0, Value.int .i64 0]) 28)) fun F =>
  v_56.size = 2 ∧ (∀ v ∈ v_56.toList, storable v) ∧ ∃ c e, F (Addr.mk b16 0 none).block = some (.cells c e (0, 0)) ∧ (Addr.mk b16 0 none).spot = none ∧ (Addr.mk b16 0 none).off + 2 ≤ c.size ∧
  atF (F.set (Addr.mk b16 0 none).block (.cells (wr c (Addr.mk b16 0 none).off v_56.toList) e)) fun F =>
  ∃ v_60 : Array Value, v_60.size = 2 ∧ F.row (Addr.mk b8 0 none) v_60 ∧
  ∃ v_61 : Array Value, v_61.size = 2 ∧ F.row (Addr.mk b10 0 none) v_61 ∧
  Spec prog 22 #[(Value.agg v_60), (Value.agg v_61)] F fun v F => ∃ v_62 : Array Value, ∃ v_62_1 : Int, v = (Value.tuple #[(Value.agg v_62), (Value.int .i64 v_62_1)]) ∧
  ∀ b18, F b18 = none → atF (F.set b18 (.cells (#[Value.slice none 0 0, Value.int .i64 0]) 28)) fun F =>
  v_62.size = 2 ∧ (∀ v ∈ v_62.toList, storable v) ∧ ∃ c e, F (Addr.mk b18 0 none).block = some (.cells c e (0, 0)) ∧ (Addr.mk b18 0 none).spot = none ∧ (Addr.mk b18 0 none).off + 2 ≤ c.size ∧
  atF (F.set (Addr.mk b18 0 none).block (.cells (wr c (Addr.mk b18 0 none).off v_62.toList) e)) fun F =>
  ∃ v_66 : Array Value, v_66.size = 2 ∧ F.row (Addr.mk b8 0 none) v_66 ∧
  Spec prog 28 #[(Value.agg v_66), (Value.int .i64 (IntKind.i64.wrap (Int.tmod condition_1 (64 : Int)))), (Value.bool false)] F fun v F => ∃ v_68 : Array Value, ∃ v_68_1 : Int, v = (Value.tuple #[(Value.agg v_68), (Value.int .i64 v_68_1)]) ∧
  ∀ b20, F b20 = none → atF (F.set b20 (.cells (#[Value.slice none 0 0, Value.int .i64 0]) 28)) fun F =>
  v_68.size = 2 ∧ (∀ v ∈ v_68.toList, storable v) ∧ ∃ c e, F (Addr.mk b20 0 none).block = some (.cells c e (0, 0)) ∧ (Addr.mk b20 0 none).spot = none ∧ (Addr.mk b20 0 none).off + 2 ≤ c.size ∧
  atF (F.set (Addr.mk b20 0 none).block (.cells (wr c (Addr.mk b20 0 none).off v_68.toList) e)) fun F =>
  ((v_32_1 = (0 : Int) →
    ((v_38_1 = (0 : Int) →
      ((v_44_1 = (0 : Int) →
        ((v_56_1 = (0 : Int) →
          ((v_62_1 = (0 : Int) →
            b6j1 v_23 b6 b8 b12 b16 b18 b20 (decide (v_68_1 = (0 : Int))) R F) ∧
          (¬ (v_62_1 = (0 : Int)) →
            b6j1 v_23 b6 b8 b12 b16 b18 b20 false R F))) ∧
        (¬ (v_56_1 = (0 : Int)) →
          b6j1 v_23 b6 b8 b12 b16 b18 b20 false R F))) ∧
      (¬ (v_44_1 = (0 : Int)) →
        b6j1 v_23 b6 b8 b12 b16 b18 b20 false R F))) ∧
    (¬ (v_38_1 = (0 : Int)) →
      b6j1 v_23 b6 b8 b12 b16 b18 b20 false R F))) ∧
  (¬ (v_32_1 = (0 : Int)) →
    b6j1 v_23 b6 b8 b12 b16 b18 b20 false R F))
theorem c6 {s_0 : Array Value} {condition_1 : Int} {R : Value → PH → Prop} {F : PH} (h : b6 s_0 condition_1 R F) : Spec prog 6 #[(Value.agg s_0), (Value.int .u8 condition_1)] F R := by
  refine spec_of (args := [(Value.agg s_0), (Value.int .u8 condition_1)]) func6 rfl ntmps6 rfl ?_
  unfold b6 at h
  refine HC_seq ?_
  refine HC_region ?_
  refine s_ef (k_box (cs := s_0) rfl rfl ?_)
  intro b2 hf_b2
  replace h := atE (h b2 hf_b2)
  refine s_rd (v := (Value.bool false)) (r_assign rfl rfl) ?_
  refine HL_nil ?_
  refine HC_seq ?_
  refine HC_region ?_
  refine s_ef (k_call (vs := []) cb15 evN (h.mono ?_))
  clear h; rintro v F ⟨v_23, rfl, h⟩
  refine s_rd (v := (Value.bool v_23)) (r_assign rfl rfl) ?_
  refine HL_nil ?_
  refine HC_seq ?_
  refine HC_region ?_
  obtain ⟨v_24, hs24, hc24, h⟩ := h
  refine s_rd (v := (Value.agg v_24)) (w_loadN rfl underlying24 rfl sz24 hs24 hc24) ?_
  refine s_ef (k_call (vs := [(Value.agg v_24)]) cb16 (evC rfl evN) (h.mono ?_))
  clear h; rintro v F ⟨v_25, rfl, h⟩
  refine s_ef (k_alloc zr28 ?_)
  intro b6 hf_b6
  replace h := atE (h b6 hf_b6)
  refine s_ef0 (k_storeN (vs := v_25) rfl rfl sz28 (by decide) ?_)
  obtain ⟨hz1, hz2, c, e, hz3, hz4, hz5, h⟩ := h
  refine ⟨hz1, hz2, c, e, hz3, hz4, hz5, ?_⟩
  replace h := atE h
  refine HL_nil ?_
  refine HC_seq ?_
  refine HC_region ?_
  refine s_rd (v := (Value.int .u8 condition_1)) (r_move rfl rfl) ?_
  refine s_rd (v := (Value.int .u8 (Int.tmod condition_1 (64 : Int)))) (r_rem rfl rfl rfl (by decide)) ?_
  refine s_rd (v := (Value.int .i64 (IntKind.i64.wrap (Int.tmod condition_1 (64 : Int))))) (r_convInt rfl rfl underlying5 underlying3) ?_
  refine s_rd (v := (Value.int .i64 (IntKind.i64.wrap (Int.tmod condition_1 (64 : Int))))) (r_assign rfl rfl) ?_
  refine HL_nil ?_
  refine HC_seq ?_
  refine HC_region ?_
  obtain ⟨v_30, hs30, hc30, h⟩ := h
  refine s_rd (v := (Value.agg v_30)) (w_loadN rfl underlying28 rfl sz28 hs30 hc30) ?_
  refine s_rd (v := (Value.int .i64 (IntKind.i64.wrap (Int.tmod condition_1 (64 : Int))))) (r_move rfl rfl) ?_
  refine s_ef (k_call (vs := [(Value.agg v_30), (Value.int .i64 (IntKind.i64.wrap (Int.tmod condition_1 (64 : Int)))), (Value.bool true)]) cb28 (evC rfl (evC rfl (evC rfl evN))) (h.mono ?_))
  clear h; rintro v F ⟨v_32, v_32_1, rfl, h⟩
  refine s_rd (v := (Value.tuple #[(Value.agg v_32), (Value.int .i64 v_32_1)])) (r_move rfl rfl) ?_
  refine s_rd (v := (Value.agg v_32)) (r_extract rfl rfl rfl) ?_
  refine s_rd (v := (Value.int .i64 v_32_1)) (r_extract rfl rfl rfl) ?_
  refine s_ef (k_alloc zr28 ?_)
  intro b8 hf_b8
  replace h := atE (h b8 hf_b8)
  refine s_ef0 (k_storeN (vs := v_32) rfl rfl sz28 (by decide) ?_)
  obtain ⟨hz1, hz2, c, e, hz3, hz4, hz5, h⟩ := h
  refine ⟨hz1, hz2, c, e, hz3, hz4, hz5, ?_⟩
  replace h := atE h
  refine s_rd (v := (Value.int .i64 v_32_1)) (r_assign rfl rfl) ?_
  refine HL_nil ?_
  refine HC_seq ?_
  refine HC_region ?_
  obtain ⟨v_36, hs36, hc36, h⟩ := h
  refine s_rd (v := (Value.agg v_36)) (w_loadN rfl underlying28 rfl sz28 hs36 hc36) ?_
  refine s_rd (v := (Value.int .i64 (IntKind.i64.wrap (Int.tmod condition_1 (64 : Int))))) (r_move rfl rfl) ?_
  refine s_ef (k_call (vs := [(Value.agg v_36), (Value.int .i64 (IntKind.i64.wrap (Int.tmod condition_1 (64 : Int)))), (Value.bool false)]) cb28 (evC rfl (evC rfl (evC rfl evN))) (h.mono ?_))
  clear h; rintro v F ⟨v_38, v_38_1, rfl, h⟩
  refine s_rd (v := (Value.tuple #[(Value.agg v_38), (Value.int .i64 v_38_1)])) (r_move rfl rfl) ?_
  refine s_rd (v := (Value.agg v_38)) (r_extract rfl rfl rfl) ?_
  refine s_rd (v := (Value.int .i64 v_38_1)) (r_extract rfl rfl rfl) ?_
  refine s_ef (k_alloc zr28 ?_)
  intro b10 hf_b10
  replace h := atE (h b10 hf_b10)
  refine s_ef0 (k_storeN (vs := v_38) rfl rfl sz28 (by decide) ?_)
  obtain ⟨hz1, hz2, c, e, hz3, hz4, hz5, h⟩ := h
  refine ⟨hz1, hz2, c, e, hz3, hz4, hz5, ?_⟩
  replace h := atE h
  refine s_rd (v := (Value.int .i64 v_38_1)) (r_assign rfl rfl) ?_
  refine HL_nil ?_
  refine HC_seq ?_
  refine HC_region ?_
  obtain ⟨v_42, hs42, hc42, h⟩ := h
  refine s_rd (v := (Value.agg v_42)) (w_loadN rfl underlying28 rfl sz28 hs42 hc42) ?_
  refine s_rd (v := (Value.int .i64 (IntKind.i64.wrap (Int.tmod condition_1 (64 : Int))))) (r_move rfl rfl) ?_
  refine s_ef (k_call (vs := [(Value.agg v_42), (Value.int .i64 (IntKind.i64.wrap (Int.tmod condition_1 (64 : Int))))]) cb29 (evC rfl (evC rfl evN)) (h.mono ?_))
  clear h; rintro v F ⟨v_44, v_44_1, rfl, h⟩
  refine s_rd (v := (Value.tuple #[(Value.agg v_44), (Value.int .i64 v_44_1)])) (r_move rfl rfl) ?_
  refine s_rd (v := (Value.agg v_44)) (r_extract rfl rfl rfl) ?_
  refine s_rd (v := (Value.int .i64 v_44_1)) (r_extract rfl rfl rfl) ?_
  refine s_ef (k_alloc zr28 ?_)
  intro b12 hf_b12
  replace h := atE (h b12 hf_b12)
  refine s_ef0 (k_storeN (vs := v_44) rfl rfl sz28 (by decide) ?_)
  obtain ⟨hz1, hz2, c, e, hz3, hz4, hz5, h⟩ := h
  refine ⟨hz1, hz2, c, e, hz3, hz4, hz5, ?_⟩
  replace h := atE h
  refine s_rd (v := (Value.int .i64 v_44_1)) (r_assign rfl rfl) ?_
  refine HL_nil ?_
  refine HC_seq ?_
  refine HC_region ?_
  refine s_rd (v := (Value.int .i64 (IntKind.i64.wrap (Int.tmod condition_1 (64 : Int))))) (r_move rfl rfl) ?_
  refine s_ef (k_call (vs := [(Value.int .i64 (IntKind.i64.wrap (Int.tmod condition_1 (64 : Int))))]) cb30 (evC rfl evN) (h.mono ?_))
  clear h; rintro v F ⟨v_49, v_49_1, rfl, h⟩
  refine s_rd (v := (Value.tuple #[(Value.agg v_49), (Value.int .i64 v_49_1)])) (r_move rfl rfl) ?_
  refine s_rd (v := (Value.agg v_49)) (r_extract rfl rfl rfl) ?_
  refine s_rd (v := (Value.int .i64 v_49_1)) (r_extract rfl rfl rfl) ?_
  refine s_ef (k_alloc zr28 ?_)
  intro b14 hf_b14
  replace h := atE (h b14 hf_b14)
  refine s_ef0 (k_storeN (vs := v_49) rfl rfl sz28 (by decide) ?_)
  obtain ⟨hz1, hz2, c, e, hz3, hz4, hz5, h⟩ := h
  refine ⟨hz1, hz2, c, e, hz3, hz4, hz5, ?_⟩
  replace h := atE h
  refine s_rd (v := (Value.int .i64 v_49_1)) (r_assign rfl rfl) ?_
  refine HL_nil ?_
  refine HC_seq ?_
  refine HC_region ?_
  obtain ⟨v_53, hs53, hc53, h⟩ := h
  refine s_rd (v := (Value.agg v_53)) (w_loadN rfl underlying28 rfl sz28 hs53 hc53) ?_
  obtain ⟨v_54, hs54, hc54, h⟩ := h
  refine s_rd (v := (Value.agg v_54)) (w_loadN rfl underlying28 rfl sz28 hs54 hc54) ?_
  obtain ⟨v_55, hs55, hc55, h⟩ := h
  refine s_rd (v := (Value.agg v_55)) (w_loadN rfl underlying28 rfl sz28 hs55 hc55) ?_
  refine s_ef (k_call (vs := [(Value.agg v_53), (Value.agg v_54), (Value.agg v_55)]) cb27 (evC rfl (evC rfl (evC rfl evN))) (h.mono ?_))
  clear h; rintro v F ⟨v_56, v_56_1, rfl, h⟩
  refine s_rd (v := (Value.tuple #[(Value.agg v_56), (Value.int .i64 v_56_1)])) (r_move rfl rfl) ?_
  refine s_rd (v := (Value.agg v_56)) (r_extract rfl rfl rfl) ?_
  refine s_rd (v := (Value.int .i64 v_56_1)) (r_extract rfl rfl rfl) ?_
  refine s_ef (k_alloc zr28 ?_)
  intro b16 hf_b16
  replace h := atE (h b16 hf_b16)
  refine s_ef0 (k_storeN (vs := v_56) rfl rfl sz28 (by decide) ?_)
  obtain ⟨hz1, hz2, c, e, hz3, hz4, hz5, h⟩ := h
  refine ⟨hz1, hz2, c, e, hz3, hz4, hz5, ?_⟩
  replace h := atE h
  refine s_rd (v := (Value.int .i64 v_56_1)) (r_assign rfl rfl) ?_
  refine HL_nil ?_
  refine HC_seq ?_
  refine HC_region ?_
  obtain ⟨v_60, hs60, hc60, h⟩ := h
  refine s_rd (v := (Value.agg v_60)) (w_loadN rfl underlying28 rfl sz28 hs60 hc60) ?_
  obtain ⟨v_61, hs61, hc61, h⟩ := h
  refine s_rd (v := (Value.agg v_61)) (w_loadN rfl underlying28 rfl sz28 hs61 hc61) ?_
  refine s_ef (k_call (vs := [(Value.agg v_60), (Value.agg v_61)]) cb22 (evC rfl (evC rfl evN)) (h.mono ?_))
  clear h; rintro v F ⟨v_62, v_62_1, rfl, h⟩
  refine s_rd (v := (Value.tuple #[(Value.agg v_62), (Value.int .i64 v_62_1)])) (r_move rfl rfl) ?_
  refine s_rd (v := (Value.agg v_62)) (r_extract rfl rfl rfl) ?_
  refine s_rd (v := (Value.int .i64 v_62_1)) (r_extract rfl rfl rfl) ?_
  refine s_ef (k_alloc zr28 ?_)
  intro b18 hf_b18
  replace h := atE (h b18 hf_b18)
  refine s_ef0 (k_storeN (vs := v_62) rfl rfl sz28 (by decide) ?_)
  obtain ⟨hz1, hz2, c, e, hz3, hz4, hz5, h⟩ := h
  refine ⟨hz1, hz2, c, e, hz3, hz4, hz5, ?_⟩
  replace h := atE h
  refine s_rd (v := (Value.int .i64 v_62_1)) (r_assign rfl rfl) ?_
  refine HL_nil ?_
  refine HC_seq ?_
  refine HC_region ?_
  obtain ⟨v_66, hs66, hc66, h⟩ := h
  refine s_rd (v := (Value.agg v_66)) (w_loadN rfl underlying28 rfl sz28 hs66 hc66) ?_
  refine s_rd (v := (Value.int .i64 (IntKind.i64.wrap (Int.tmod condition_1 (64 : Int))))) (r_move rfl rfl) ?_
  refine s_ef (k_call (vs := [(Value.agg v_66), (Value.int .i64 (IntKind.i64.wrap (Int.tmod condition_1 (64 : Int)))), (Value.bool false)]) cb28 (evC rfl (evC rfl (evC rfl evN))) (h.mono ?_))
  clear h; rintro v F ⟨v_68, v_68_1, rfl, h⟩
  refine s_rd (v := (Value.tuple #[(Value.agg v_68), (Value.int .i64 v_68_1)])) (r_move rfl rfl) ?_
  refine s_rd (v := (Value.agg v_68)) (r_extract rfl rfl rfl) ?_
  refine s_rd (v := (Value.int .i64 v_68_1)) (r_extract rfl rfl rfl) ?_
  refine s_ef (k_alloc zr28 ?_)
  intro b20 hf_b20
  replace h := atE (h b20 hf_b20)
  refine s_ef0 (k_storeN (vs := v_68) rfl rfl sz28 (by decide) ?_)
  obtain ⟨hz1, hz2, c, e, hz3, hz4, hz5, h⟩ := h
  refine ⟨hz1, hz2, c, e, hz3, hz4, hz5, ?_⟩
  replace h := atE h
  refine s_rd (v := (Value.int .i64 v_68_1)) (r_assign rfl rfl) ?_
  refine HL_nil ?_
  refine HC_seqJ (b6J1 v_23 b6 b8 b12 b16 b18 b20 R) ?_ ?_
  · clear h; rintro E F ⟨codes_22, h5, h6, h8, h12, h16, h18, h20, h22, h⟩
    unfold b6j1 at h
    refine HC_seq ?_
    refine HC_region ?_
    refine s_rd (v := (Value.bool codes_22)) (r_move rfl h22) ?_
    refine s_rd (v := (Value.bool codes_22)) (r_move rfl rfl) ?_
    by_cases hc : codes_22 = true
    · replace h := h.1 hc
      refine HL_known (t := 22) (v := .bool true) (h22.trans (congrArg Value.bool hc)) ?_
      refine HL_known (t := 93) (v := .bool true) (congrArg Value.bool hc) ?_
      refine HL_known (t := 94) (v := .bool true) (congrArg Value.bool hc) ?_
      obtain ⟨v_95, hs95, hc95, h⟩ := h
      refine s_rd (v := (Value.agg v_95)) (w_loadN h16 underlying28 rfl sz28 hs95 hc95) ?_
      obtain ⟨v_96, hs96, hc96, h⟩ := h
      refine s_rd (v := (Value.agg v_96)) (w_loadN h6 underlying28 rfl sz28 hs96 hc96) ?_
      refine s_ef (k_call (vs := [(Value.agg v_95), (Value.agg v_96)]) cb24 (evC rfl (evC rfl evN)) (h.mono ?_))
      clear h; rintro v F ⟨v_97, rfl, h⟩
      refine s_rd (v := (Value.bool v_97)) (r_pick rfl rfl (fun _ => rfl) (fun h => by cases h)) ?_
      refine s_rd (v := (Value.bool v_97)) (r_move rfl rfl) ?_
      by_cases hc : v_97 = true
      · replace h := h.1 hc
        refine HL_known (t := 97) (v := .bool true) (congrArg Value.bool hc) ?_
        refine HL_known (t := 98) (v := .bool true) (congrArg Value.bool hc) ?_
        refine HL_known (t := 99) (v := .bool true) (congrArg Value.bool hc) ?_
        obtain ⟨v_100, hs100, hc100, h⟩ := h
        refine s_rd (v := (Value.agg v_100)) (w_loadN h12 underlying28 rfl sz28 hs100 hc100) ?_
        obtain ⟨v_101, hs101, hc101, h⟩ := h
        refine s_rd (v := (Value.agg v_101)) (w_loadN h18 underlying28 rfl sz28 hs101 hc101) ?_
        refine s_ef (k_call (vs := [(Value.agg v_100), (Value.agg v_101)]) cb24 (evC rfl (evC rfl evN)) (h.mono ?_))
        clear h; rintro v F ⟨v_102, rfl, h⟩
        refine s_rd (v := (Value.bool v_102)) (r_pick rfl rfl (fun _ => rfl) (fun h => by cases h)) ?_
        refine s_rd (v := (Value.bool v_102)) (r_move rfl rfl) ?_
        by_cases hc : v_102 = true
        · replace h := h.1 hc
          refine HL_known (t := 102) (v := .bool true) (congrArg Value.bool hc) ?_
          refine HL_known (t := 103) (v := .bool true) (congrArg Value.bool hc) ?_
          refine HL_known (t := 104) (v := .bool true) (congrArg Value.bool hc) ?_
          obtain ⟨v_105, hs105, hc105, h⟩ := h
          refine s_rd (v := (Value.agg v_105)) (w_loadN h20 underlying28 rfl sz28 hs105 hc105) ?_
          obtain ⟨v_106, hs106, hc106, h⟩ := h
          refine s_rd (v := (Value.agg v_106)) (w_loadN h8 underlying28 rfl sz28 hs106 hc106) ?_
          refine s_ef (k_call (vs := [(Value.agg v_105), (Value.agg v_106)]) cb24 (evC rfl (evC rfl evN)) (h.mono ?_))
          clear h; rintro v F ⟨v_107, rfl, h⟩
          refine s_rd (v := (Value.bool v_107)) (r_pick rfl rfl (fun _ => rfl) (fun h => by cases h)) ?_
          refine s_rd (v := (Value.bool v_107)) (r_move rfl rfl) ?_
          by_cases hc : v_107 = true
          · replace h := h.1 hc
            refine HL_known (t := 107) (v := .bool true) (congrArg Value.bool hc) ?_
            refine HL_known (t := 108) (v := .bool true) (congrArg Value.bool hc) ?_
            refine HL_known (t := 109) (v := .bool true) (congrArg Value.bool hc) ?_
            refine s_rd (v := (Value.bool v_23)) (r_move rfl h5) ?_
            refine s_rd (v := (Value.bool v_23)) (r_pick rfl rfl (fun _ => rfl) (fun h => by cases h)) ?_
            refine s_rd (v := (Value.bool v_23)) (r_assign rfl rfl) ?_
            refine HL_nil ?_
            exact HC_ret (show endQ prog f6 R .ret _ _ from ⟨_, res1 rfl (rv_tmp rfl), h⟩)
          · replace hc := eq_false_of_ne_true hc; replace h := h.2 hc
            refine HL_known (t := 107) (v := .bool false) (congrArg Value.bool hc) ?_
            refine HL_known (t := 108) (v := .bool false) (congrArg Value.bool hc) ?_
            refine HL_known (t := 109) (v := .bool false) (congrArg Value.bool hc) ?_
            refine s_skip ?_
            refine s_rd (v := (Value.bool false)) (r_pick rfl rfl (fun h => by cases h) (fun _ => rfl)) ?_
            refine s_rd (v := (Value.bool false)) (r_assign rfl rfl) ?_
            refine HL_nil ?_
            exact HC_ret (show endQ prog f6 R .ret _ _ from ⟨_, res1 rfl (rv_tmp rfl), h⟩)
        · replace hc := eq_false_of_ne_true hc; replace h := h.2 hc
          refine HL_known (t := 102) (v := .bool false) (congrArg Value.bool hc) ?_
          refine HL_known (t := 103) (v := .bool false) (congrArg Value.bool hc) ?_
          refine HL_known (t := 104) (v := .bool false) (congrArg Value.bool hc) ?_
          refine s_skip ?_
          refine s_skip ?_
          refine s_skip ?_
          refine s_rd (v := (Value.bool false)) (r_pick rfl rfl (fun h => by cases h) (fun _ => rfl)) ?_
          refine s_rd (v := (Value.bool false)) (r_move rfl rfl) ?_
          refine s_skip ?_
          refine s_rd (v := (Value.bool false)) (r_pick rfl rfl (fun h => by cases h) (fun _ => rfl)) ?_
          refine s_rd (v := (Value.bool false)) (r_assign rfl rfl) ?_
          refine HL_nil ?_
          exact HC_ret (show endQ prog f6 R .ret _ _ from ⟨_, res1 rfl (rv_tmp rfl), h⟩)
      · replace hc := eq_false_of_ne_true hc; replace h := h.2 hc
        refine HL_known (t := 97) (v := .bool false) (congrArg Value.bool hc) ?_
        refine HL_known (t := 98) (v := .bool false) (congrArg Value.bool hc) ?_
        refine HL_known (t := 99) (v := .bool false) (congrArg Value.bool hc) ?_
        refine s_skip ?_
        refine s_skip ?_
        refine s_skip ?_
        refine s_rd (v := (Value.bool false)) (r_pick rfl rfl (fun h => by cases h) (fun _ => rfl)) ?_
        refine s_rd (v := (Value.bool false)) (r_move rfl rfl) ?_
        refine s_skip ?_
        refine s_skip ?_
        refine s_skip ?_
        refine s_rd (v := (Value.bool false)) (r_pick rfl rfl (fun h => by cases h) (fun _ => rfl)) ?_
        refine s_rd (v := (Value.bool false)) (r_move rfl rfl) ?_
        refine s_skip ?_
        refine s_rd (v := (Value.bool false)) (r_pick rfl rfl (fun h => by cases h) (fun _ => rfl)) ?_
        refine s_rd (v := (Value.bool false)) (r_assign rfl rfl) ?_
        refine HL_nil ?_
        exact HC_ret (show endQ prog f6 R .ret _ _ from ⟨_, res1 rfl (rv_tmp rfl), h⟩)
    · replace hc := eq_false_of_ne_true hc; replace h := h.2 hc
      refine HL_known (t := 22) (v := .bool false) (h22.trans (congrArg Value.bool hc)) ?_
      refine HL_known (t := 93) (v := .bool false) (congrArg Value.bool hc) ?_
      refine HL_known (t := 94) (v := .bool false) (congrArg Value.bool hc) ?_
      refine s_skip ?_
      refine s_skip ?_
      refine s_skip ?_
      refine s_rd (v := (Value.bool false)) (r_pick rfl rfl (fun h => by cases h) (fun _ => rfl)) ?_
      refine s_rd (v := (Value.bool false)) (r_move rfl rfl) ?_
      refine s_skip ?_
      refine s_skip ?_
      refine s_skip ?_
      refine s_rd (v := (Value.bool false)) (r_pick rfl rfl (fun h => by cases h) (fun _ => rfl)) ?_
      refine s_rd (v := (Value.bool false)) (r_move rfl rfl) ?_
      refine s_skip ?_
      refine s_skip ?_
      refine s_skip ?_
      refine s_rd (v := (Value.bool false)) (r_pick rfl rfl (fun h => by cases h) (fun _ => rfl)) ?_
      refine s_rd (v := (Value.bool false)) (r_move rfl rfl) ?_
      refine s_skip ?_
      refine s_rd (v := (Value.bool false)) (r_pick rfl rfl (fun h => by cases h) (fun _ => rfl)) ?_
      refine s_rd (v := (Value.bool false)) (r_assign rfl rfl) ?_
      refine HL_nil ?_
      exact HC_ret (show endQ prog f6 R .ret _ _ from ⟨_, res1 rfl (rv_tmp rfl), h⟩)
  · skip
    refine HC_region ?_
    refine s_rd (v := (Value.int .i64 v_32_1)) (r_move rfl rfl) ?_
    refine s_rd (v := (Value.bool (decide (v_32_1 = (0 : Int))))) (w_eql rfl rfl) ?_
    refine s_rd (v := (Value.bool (decide (v_32_1 = (0 : Int))))) (r_move rfl rfl) ?_
    by_cases hc : v_32_1 = (0 : Int)
    · replace h := h.1 hc
      refine HL_known (t := 72) (v := .bool true) (congrArg Value.bool (decide_eq_true hc)) ?_
      refine HL_known (t := 73) (v := .bool true) (congrArg Value.bool (decide_eq_true hc)) ?_
      refine s_rd (v := (Value.int .i64 v_38_1)) (r_move rfl rfl) ?_
      refine s_rd (v := (Value.bool (decide (v_38_1 = (0 : Int))))) (w_eql rfl rfl) ?_
      refine s_rd (v := (Value.bool (decide (v_38_1 = (0 : Int))))) (r_pick rfl rfl (fun _ => rfl) (fun h => by cases h)) ?_
      refine s_rd (v := (Value.bool (decide (v_38_1 = (0 : Int))))) (r_move rfl rfl) ?_
      by_cases hc : v_38_1 = (0 : Int)
      · replace h := h.1 hc
        refine HL_known (t := 75) (v := .bool true) (congrArg Value.bool (decide_eq_true hc)) ?_
        refine HL_known (t := 76) (v := .bool true) (congrArg Value.bool (decide_eq_true hc)) ?_
        refine HL_known (t := 77) (v := .bool true) (congrArg Value.bool (decide_eq_true hc)) ?_
        refine s_rd (v := (Value.int .i64 v_44_1)) (r_move rfl rfl) ?_
        refine s_rd (v := (Value.bool (decide (v_44_1 = (0 : Int))))) (w_eql rfl rfl) ?_
        refine s_rd (v := (Value.bool (decide (v_44_1 = (0 : Int))))) (r_pick rfl rfl (fun _ => rfl) (fun h => by cases h)) ?_
        refine s_rd (v := (Value.bool (decide (v_44_1 = (0 : Int))))) (r_move rfl rfl) ?_
        by_cases hc : v_44_1 = (0 : Int)
        · replace h := h.1 hc
          refine HL_known (t := 79) (v := .bool true) (congrArg Value.bool (decide_eq_true hc)) ?_
          refine HL_known (t := 80) (v := .bool true) (congrArg Value.bool (decide_eq_true hc)) ?_
          refine HL_known (t := 81) (v := .bool true) (congrArg Value.bool (decide_eq_true hc)) ?_
          refine s_rd (v := (Value.int .i64 v_56_1)) (r_move rfl rfl) ?_
          refine s_rd (v := (Value.bool (decide (v_56_1 = (0 : Int))))) (w_eql rfl rfl) ?_
          refine s_rd (v := (Value.bool (decide (v_56_1 = (0 : Int))))) (r_pick rfl rfl (fun _ => rfl) (fun h => by cases h)) ?_
          refine s_rd (v := (Value.bool (decide (v_56_1 = (0 : Int))))) (r_move rfl rfl) ?_
          by_cases hc : v_56_1 = (0 : Int)
          · replace h := h.1 hc
            refine HL_known (t := 83) (v := .bool true) (congrArg Value.bool (decide_eq_true hc)) ?_
            refine HL_known (t := 84) (v := .bool true) (congrArg Value.bool (decide_eq_true hc)) ?_
            refine HL_known (t := 85) (v := .bool true) (congrArg Value.bool (decide_eq_true hc)) ?_
            refine s_rd (v := (Value.int .i64 v_62_1)) (r_move rfl rfl) ?_
            refine s_rd (v := (Value.bool (decide (v_62_1 = (0 : Int))))) (w_eql rfl rfl) ?_
            refine s_rd (v := (Value.bool (decide (v_62_1 = (0 : Int))))) (r_pick rfl rfl (fun _ => rfl) (fun h => by cases h)) ?_
            refine s_rd (v := (Value.bool (decide (v_62_1 = (0 : Int))))) (r_move rfl rfl) ?_
            by_cases hc : v_62_1 = (0 : Int)
            · replace h := h.1 hc
              refine HL_known (t := 87) (v := .bool true) (congrArg Value.bool (decide_eq_true hc)) ?_
              refine HL_known (t := 88) (v := .bool true) (congrArg Value.bool (decide_eq_true hc)) ?_
              refine HL_known (t := 89) (v := .bool true) (congrArg Value.bool (decide_eq_true hc)) ?_
              refine s_rd (v := (Value.int .i64 v_68_1)) (r_move rfl rfl) ?_
              refine s_rd (v := (Value.bool (decide (v_68_1 = (0 : Int))))) (w_eql rfl rfl) ?_
              refine s_rd (v := (Value.bool (decide (v_68_1 = (0 : Int))))) (r_pick rfl rfl (fun _ => rfl) (fun h => by cases h)) ?_
              refine s_rd (v := (Value.bool (decide (v_68_1 = (0 : Int))))) (r_assign rfl rfl) ?_
              refine HL_nil ?_
              show b6J1 v_23 b6 b8 b12 b16 b18 b20 R _ _
              exact ⟨_, rfl, rfl, rfl, rfl, rfl, rfl, rfl, rfl, h⟩
            · replace h := h.2 hc
              refine HL_known (t := 87) (v := .bool false) (congrArg Value.bool (decide_eq_false hc)) ?_
              refine HL_known (t := 88) (v := .bool false) (congrArg Value.bool (decide_eq_false hc)) ?_
              refine HL_known (t := 89) (v := .bool false) (congrArg Value.bool (decide_eq_false hc)) ?_
              refine s_skip ?_
              refine s_skip ?_
              refine s_rd (v := (Value.bool false)) (r_pick rfl rfl (fun h => by cases h) (fun _ => rfl)) ?_
              refine s_rd (v := (Value.bool false)) (r_assign rfl rfl) ?_
              refine HL_nil ?_
              show b6J1 v_23 b6 b8 b12 b16 b18 b20 R _ _
              exact ⟨_, rfl, rfl, rfl, rfl, rfl, rfl, rfl, rfl, h⟩
          · replace h := h.2 hc
            refine HL_known (t := 83) (v := .bool false) (congrArg Value.bool (decide_eq_false hc)) ?_
            refine HL_known (t := 84) (v := .bool false) (congrArg Value.bool (decide_eq_false hc)) ?_
            refine HL_known (t := 85) (v := .bool false) (congrArg Value.bool (decide_eq_false hc)) ?_
            refine s_skip ?_
            refine s_skip ?_
            refine s_rd (v := (Value.bool false)) (r_pick rfl rfl (fun h => by cases h) (fun _ => rfl)) ?_
            refine s_rd (v := (Value.bool false)) (r_move rfl rfl) ?_
            refine s_skip ?_
            refine s_skip ?_
            refine s_rd (v := (Value.bool false)) (r_pick rfl rfl (fun h => by cases h) (fun _ => rfl)) ?_
            refine s_rd (v := (Value.bool false)) (r_assign rfl rfl) ?_
            refine HL_nil ?_
            show b6J1 v_23 b6 b8 b12 b16 b18 b20 R _ _
            exact ⟨_, rfl, rfl, rfl, rfl, rfl, rfl, rfl, rfl, h⟩
        · replace h := h.2 hc
          refine HL_known (t := 79) (v := .bool false) (congrArg Value.bool (decide_eq_false hc)) ?_
          refine HL_known (t := 80) (v := .bool false) (congrArg Value.bool (decide_eq_false hc)) ?_
          refine HL_known (t := 81) (v := .bool false) (congrArg Value.bool (decide_eq_false hc)) ?_
          refine s_skip ?_
          refine s_skip ?_
          refine s_rd (v := (Value.bool false)) (r_pick rfl rfl (fun h => by cases h) (fun _ => rfl)) ?_
          refine s_rd (v := (Value.bool false)) (r_move rfl rfl) ?_
          refine s_skip ?_
          refine s_skip ?_
          refine s_rd (v := (Value.bool false)) (r_pick rfl rfl (fun h => by cases h) (fun _ => rfl)) ?_
          refine s_rd (v := (Value.bool false)) (r_move rfl rfl) ?_
          refine s_skip ?_
          refine s_skip ?_
          refine s_rd (v := (Value.bool false)) (r_pick rfl rfl (fun h => by cases h) (fun _ => rfl)) ?_
          refine s_rd (v := (Value.bool false)) (r_assign rfl rfl) ?_
          refine HL_nil ?_
          show b6J1 v_23 b6 b8 b12 b16 b18 b20 R _ _
          exact ⟨_, rfl, rfl, rfl, rfl, rfl, rfl, rfl, rfl, h⟩
      · replace h := h.2 hc
        refine HL_known (t := 75) (v := .bool false) (congrArg Value.bool (decide_eq_false hc)) ?_
        refine HL_known (t := 76) (v := .bool false) (congrArg Value.bool (decide_eq_false hc)) ?_
        refine HL_known (t := 77) (v := .bool false) (congrArg Value.bool (decide_eq_false hc)) ?_
        refine s_skip ?_
        refine s_skip ?_
        refine s_rd (v := (Value.bool false)) (r_pick rfl rfl (fun h => by cases h) (fun _ => rfl)) ?_
        refine s_rd (v := (Value.bool false)) (r_move rfl rfl) ?_
        refine s_skip ?_
        refine s_skip ?_
        refine s_rd (v := (Value.bool false)) (r_pick rfl rfl (fun h => by cases h) (fun _ => rfl)) ?_
        refine s_rd (v := (Value.bool false)) (r_move rfl rfl) ?_
        refine s_skip ?_
        refine s_skip ?_
        refine s_rd (v := (Value.bool false)) (r_pick rfl rfl (fun h => by cases h) (fun _ => rfl)) ?_
        refine s_rd (v := (Value.bool false)) (r_move rfl rfl) ?_
        refine s_skip ?_
        refine s_skip ?_
        refine s_rd (v := (Value.bool false)) (r_pick rfl rfl (fun h => by cases h) (fun _ => rfl)) ?_
        refine s_rd (v := (Value.bool false)) (r_assign rfl rfl) ?_
        refine HL_nil ?_
        show b6J1 v_23 b6 b8 b12 b16 b18 b20 R _ _
        exact ⟨_, rfl, rfl, rfl, rfl, rfl, rfl, rfl, rfl, h⟩
    · replace h := h.2 hc
      refine HL_known (t := 72) (v := .bool false) (congrArg Value.bool (decide_eq_false hc)) ?_
      refine HL_known (t := 73) (v := .bool false) (congrArg Value.bool (decide_eq_false hc)) ?_
      refine s_skip ?_
      refine s_skip ?_
      refine s_rd (v := (Value.bool false)) (r_pick rfl rfl (fun h => by cases h) (fun _ => rfl)) ?_
      refine s_rd (v := (Value.bool false)) (r_move rfl rfl) ?_
      refine s_skip ?_
      refine s_skip ?_
      refine s_rd (v := (Value.bool false)) (r_pick rfl rfl (fun h => by cases h) (fun _ => rfl)) ?_
      refine s_rd (v := (Value.bool false)) (r_move rfl rfl) ?_
      refine s_skip ?_
      refine s_skip ?_
      refine s_rd (v := (Value.bool false)) (r_pick rfl rfl (fun h => by cases h) (fun _ => rfl)) ?_
      refine s_rd (v := (Value.bool false)) (r_move rfl rfl) ?_
      refine s_skip ?_
      refine s_skip ?_
      refine s_rd (v := (Value.bool false)) (r_pick rfl rfl (fun h => by cases h) (fun _ => rfl)) ?_
      refine s_rd (v := (Value.bool false)) (r_move rfl rfl) ?_
      refine s_skip ?_
      refine s_skip ?_
      refine s_rd (v := (Value.bool false)) (r_pick rfl rfl (fun h => by cases h) (fun _ => rfl)) ?_
      refine s_rd (v := (Value.bool false)) (r_assign rfl rfl) ?_
      refine HL_nil ?_
      show b6J1 v_23 b6 b8 b12 b16 b18 b20 R _ _
      exact ⟨_, rfl, rfl, rfl, rfl, rfl, rfl, rfl, rfl, h⟩

end Go.Proofs.Ytafojmoeaneedaa
