/-
  What functions of the program do, in a clean form, each with the proof that its code does so. Printed by a program.
-/
import Derived.Test.YtafojmoeaneedaaGf
namespace Go.Proofs.Ytafojmoeaneedaa
open Go Go.Proofs.Try
set_option maxRecDepth 10000
set_option maxHeartbeats 4000000
/- 3 koine.koinelaw02.DiagramCanonical -/
def b3j1 (v_13 : Bool) (b6 : Nat) (b7 : Nat) (b8 : Nat) (equal_9 : Bool) (R : Value → PH → Prop) (F : PH) : Prop :=
  ∃ v_72 : Array Value, v_72.size = 2 ∧ F.row (Addr.mk b8 0 none) v_72 ∧
  Spec prog 23 #[(Value.agg v_72)] F fun v F => ∃ v_73 : Int, v = (Value.int .i64 v_73) ∧
  ((v_73 = (0 : Int) →
    ∃ v_76 : Array Value, v_76.size = 2 ∧ F.row (Addr.mk b6 0 none) v_76 ∧
    ∃ v_77 : Array Value, v_77.size = 2 ∧ F.row (Addr.mk b8 0 none) v_77 ∧
    Spec prog 24 #[(Value.agg v_76), (Value.agg v_77)] F fun v F => ∃ v_78 : Bool, v = (Value.bool v_78) ∧
    ((v_78 = true →
      ∃ v_81 : Array Value, v_81.size = 2 ∧ F.row (Addr.mk b6 0 none) v_81 ∧
      ∃ v_82 : Array Value, v_82.size = 2 ∧ F.row (Addr.mk b7 0 none) v_82 ∧
      Spec prog 24 #[(Value.agg v_81), (Value.agg v_82)] F fun v F => ∃ v_83 : Bool, v = (Value.bool v_83) ∧
      (((v_83 == equal_9) = true →
        R (Value.bool v_13) F) ∧
      ((v_83 == equal_9) = false →
        R (Value.bool false) F))) ∧
    (v_78 = false →
      R (Value.bool false) F))) ∧
  (¬ (v_73 = (0 : Int)) →
    R (Value.bool false) F))
abbrev b3J1 (v_13 : Bool) (b6 : Nat) (b7 : Nat) (b8 : Nat) (R : Value → PH → Prop) (E : En) (F : PH) : Prop := ∃ equal_9 : Bool, E 5 = (Value.bool v_13) ∧ E 6 = (Value.pointer (some (Addr.mk b6 0 none))) ∧ E 7 = (Value.pointer (some (Addr.mk b7 0 none))) ∧ E 8 = (Value.pointer (some (Addr.mk b8 0 none))) ∧ E 9 = (Value.bool equal_9) ∧ b3j1 v_13 b6 b7 b8 equal_9 R F
def b3j2 (N1 : Bool → Int → PH → Prop) (b2 : Nat) (v_13 : Bool) (b6 : Nat) (b7 : Nat) (b8 : Nat) (k_10 : Int) (equal_9_2 : Bool) (R : Value → PH → Prop) (F : PH) : Prop :=
  N1 equal_9_2 (IntKind.i64.wrap (k_10 + (1 : Int))) F
abbrev b3J2 (N1 : Bool → Int → PH → Prop) (b2 : Nat) (v_13 : Bool) (b6 : Nat) (b7 : Nat) (b8 : Nat) (k_10 : Int) (R : Value → PH → Prop) (E : En) (F : PH) : Prop := ∃ equal_9_2 : Bool, E 2 = (Value.pointer (some (Addr.mk b2 0 none))) ∧ E 5 = (Value.bool v_13) ∧ E 6 = (Value.pointer (some (Addr.mk b6 0 none))) ∧ E 7 = (Value.pointer (some (Addr.mk b7 0 none))) ∧ E 8 = (Value.pointer (some (Addr.mk b8 0 none))) ∧ E 9 = (Value.bool equal_9_2) ∧ E 10 = (Value.int .i64 k_10) ∧ b3j2 N1 b2 v_13 b6 b7 b8 k_10 equal_9_2 R F
def b3j4 (N1 : Bool → Int → PH → Prop) (b2 : Nat) (v_13 : Bool) (b6 : Nat) (b7 : Nat) (b8 : Nat) (equal_9_1 : Bool) (k_10 : Int) (R : Value → PH → Prop) (F : PH) : Prop :=
  ((equal_9_1 = true →
    ∃ v_62 : Array Value, v_62.size = 2 ∧ F.row (Addr.mk b6 0 none) v_62 ∧
    ∃ v_66 : Array Value, v_66.size = 2 ∧ F.row (Addr.mk b7 0 none) v_66 ∧
    Spec prog 21 #[(Value.agg v_62), (Value.int .u64 (IntKind.u64.wrap k_10))] F fun v F => ∃ v_65 : Bool, v = (Value.bool v_65) ∧
    F.row (Addr.mk b7 0 none) v_66 ∧ Spec prog 21 #[(Value.agg v_66), (Value.int .u64 (IntKind.u64.wrap k_10))] F fun v F => ∃ v_69 : Bool, v = (Value.bool v_69) ∧
    b3j2 N1 b2 v_13 b6 b7 b8 k_10 (v_65 == v_69) R F) ∧
  (equal_9_1 = false →
    b3j2 N1 b2 v_13 b6 b7 b8 k_10 false R F))
abbrev b3J4 (N1 : Bool → Int → PH → Prop) (b2 : Nat) (v_13 : Bool) (b6 : Nat) (b7 : Nat) (b8 : Nat) (equal_9_1 : Bool) (k_10 : Int) (R : Value → PH → Prop) (E : En) (F : PH) : Prop := E 2 = (Value.pointer (some (Addr.mk b2 0 none))) ∧ E 5 = (Value.bool v_13) ∧ E 6 = (Value.pointer (some (Addr.mk b6 0 none))) ∧ E 7 = (Value.pointer (some (Addr.mk b7 0 none))) ∧ E 8 = (Value.pointer (some (Addr.mk b8 0 none))) ∧ E 9 = (Value.bool equal_9_1) ∧ E 10 = (Value.int .i64 k_10) ∧ b3j4 N1 b2 v_13 b6 b7 b8 equal_9_1 k_10 R F
def b3j3 (N1 : Bool → Int → PH → Prop) (b2 : Nat) (v_13 : Bool) (b6 : Nat) (b7 : Nat) (b8 : Nat) (equal_9_1 : Bool) (k_10 : Int) (b11 : Nat) (R : Value → PH → Prop) (F : PH) : Prop :=
  ∃ v_50 : Array Value, v_50.size = 2 ∧ F.row (Addr.mk b6 0 none) v_50 ∧
  Spec prog 21 #[(Value.agg v_50), (Value.int .u64 (IntKind.u64.wrap k_10))] F fun v F => ∃ v_53 : Bool, v = (Value.bool v_53) ∧
  ((v_53 = true →
    ∃ v_55 : Array Value, v_55.size = 2 ∧ F.row (Addr.mk b11 0 none) v_55 ∧
    ∃ v_56 : Array Value, v_56.size = 2 ∧ F.row (Addr.mk b8 0 none) v_56 ∧
    Spec prog 22 #[(Value.agg v_55), (Value.agg v_56)] F fun v F => ∃ v_57 : Array Value, ∃ v_57_1 : Int, v = (Value.tuple #[(Value.agg v_57), (Value.int .i64 v_57_1)]) ∧
    v_57.size = 2 ∧ (∀ v ∈ v_57.toList, storable v) ∧ ∃ c e, F (Addr.mk b8 0 none).block = some (.cells c e (0, 0)) ∧ (Addr.mk b8 0 none).spot = none ∧ (Addr.mk b8 0 none).off + 2 ≤ c.size ∧
    atF (F.set (Addr.mk b8 0 none).block (.cells (wr c (Addr.mk b8 0 none).off v_57.toList) e)) fun F =>
    b3j4 N1 b2 v_13 b6 b7 b8 equal_9_1 k_10 R F) ∧
  (v_53 = false →
    b3j4 N1 b2 v_13 b6 b7 b8 equal_9_1 k_10 R F))
abbrev b3J3 (N1 : Bool → Int → PH → Prop) (b2 : Nat) (v_13 : Bool) (b6 : Nat) (b7 : Nat) (b8 : Nat) (equal_9_1 : Bool) (k_10 : Int) (b11 : Nat) (R : Value → PH → Prop) (E : En) (F : PH) : Prop := E 2 = (Value.pointer (some (Addr.mk b2 0 none))) ∧ E 5 = (Value.bool v_13) ∧ E 6 = (Value.pointer (some (Addr.mk b6 0 none))) ∧ E 7 = (Value.pointer (some (Addr.mk b7 0 none))) ∧ E 8 = (Value.pointer (some (Addr.mk b8 0 none))) ∧ E 9 = (Value.bool equal_9_1) ∧ E 10 = (Value.int .i64 k_10) ∧ E 11 = (Value.pointer (some (Addr.mk b11 0 none))) ∧ b3j3 N1 b2 v_13 b6 b7 b8 equal_9_1 k_10 b11 R F
def b3L2 (N1 : Bool → Int → PH → Prop) (N2 : Int → PH → Prop) (b2 : Nat) (v_13 : Bool) (b6 : Nat) (b7 : Nat) (b8 : Nat) (equal_9_1 : Bool) (k_10 : Int) (b11 : Nat) (R : Value → PH → Prop) (v_12 : Int) (F : PH) : Prop :=
  ∃ v_32 : Array Value, v_32.size = 2 ∧ F.row (Addr.mk b2 0 none) v_32 ∧
  Spec prog 18 #[(Value.agg v_32)] F fun v F => ∃ v_33 : Int, v = (Value.int .i64 v_33) ∧
  ((v_12 < v_33 →
    ∃ v_38 : Array Value, v_38.size = 2 ∧ F.row (Addr.mk b11 0 none) v_38 ∧
    0 ≤ (IntKind.u64.wrap v_12) ∧ Spec prog 20 #[(Value.int .i64 v_12), (Value.bool (decide ((Int.tmod (Int.fdiv k_10 (2 ^ (min (Int.toNat (IntKind.u64.wrap v_12)) (IntKind.i64).bits))) (2 : Int)) = (1 : Int))))] F fun v F => ∃ v_46 : Array Value, v = (Value.agg v_46) ∧
    F.row (Addr.mk b11 0 none) v_38 ∧ Spec prog 19 #[(Value.agg v_38), (Value.agg v_46)] F fun v F => ∃ v_47 : Array Value, ∃ v_47_1 : Int, v = (Value.tuple #[(Value.agg v_47), (Value.int .i64 v_47_1)]) ∧
    v_47.size = 2 ∧ (∀ v ∈ v_47.toList, storable v) ∧ ∃ c e, F (Addr.mk b11 0 none).block = some (.cells c e (0, 0)) ∧ (Addr.mk b11 0 none).spot = none ∧ (Addr.mk b11 0 none).off + 2 ≤ c.size ∧
    atF (F.set (Addr.mk b11 0 none).block (.cells (wr c (Addr.mk b11 0 none).off v_47.toList) e)) fun F =>
    N2 (IntKind.i64.wrap (v_12 + (1 : Int))) F) ∧
  (¬ (v_12 < v_33) →
    b3j3 N1 b2 v_13 b6 b7 b8 equal_9_1 k_10 b11 R F))
def b3L1 (N1 : Bool → Int → PH → Prop) (b2 : Nat) (v_13 : Bool) (b6 : Nat) (b7 : Nat) (b8 : Nat) (R : Value → PH → Prop) (equal_9_1 : Bool) (k_10 : Int) (F : PH) : Prop :=
  ∃ v_23 : Array Value, v_23.size = 2 ∧ F.row (Addr.mk b2 0 none) v_23 ∧
  Spec prog 18 #[(Value.agg v_23)] F fun v F => ∃ v_24 : Int, v = (Value.int .i64 v_24) ∧
  0 ≤ (IntKind.u64.wrap v_24) ∧ ((k_10 < (IntKind.i64.wrap ((1 : Int) * 2 ^ (min (Int.toNat (IntKind.u64.wrap v_24)) (IntKind.i64).bits))) →
    Spec prog 17 #[(Value.bool true)] F fun v F => ∃ v_30 : Array Value, v = (Value.agg v_30) ∧
    ∀ b11, F b11 = none → atF (F.set b11 (.cells (#[Value.slice none 0 0, Value.int .i64 0]) 28)) fun F =>
    v_30.size = 2 ∧ (∀ v ∈ v_30.toList, storable v) ∧ ∃ c e, F (Addr.mk b11 0 none).block = some (.cells c e (0, 0)) ∧ (Addr.mk b11 0 none).spot = none ∧ (Addr.mk b11 0 none).off + 2 ≤ c.size ∧
    atF (F.set (Addr.mk b11 0 none).block (.cells (wr c (Addr.mk b11 0 none).off v_30.toList) e)) fun F =>
    (∃ (I2 : Nat → Int → PH → Prop) (m2 : Nat), I2 m2 (0 : Int) F ∧ ∀ m2 v_12 F, I2 m2 v_12 F →
      b3L2 N1 (fun v_12 F => ∃ m', m' < m2 ∧ I2 m' v_12 F) b2 v_13 b6 b7 b8 equal_9_1 k_10 b11 R v_12 F)) ∧
  (¬ (k_10 < (IntKind.i64.wrap ((1 : Int) * 2 ^ (min (Int.toNat (IntKind.u64.wrap v_24)) (IntKind.i64).bits)))) →
    b3j1 v_13 b6 b7 b8 equal_9_1 R F))
def b3 (s_0 : Array Value) (t_1 : Array Value) (R : Value → PH → Prop) (F : PH) : Prop :=
  ∀ b2, F b2 = none → atF (F.set b2 (.cells s_0 24)) fun F =>
  ∀ b3, F b3 = none → atF (F.set b3 (.cells t_1 24)) fun F =>
  Spec prog 15 #[] F fun v F => ∃ v_13 : Bool, v = (Value.bool v_13) ∧
  ∃ v_15 : Int, F.cell (Addr.mk b2 1 none) = some (Value.int .u8 v_15) ∧
  ∃ c e, F (Addr.mk b3 1 none).block = some (.cells c e (0, 0)) ∧ (Addr.mk b3 1 none).spot = none ∧ (Addr.mk b3 1 none).off < c.size ∧
  atF (F.set (Addr.mk b3 1 none).block (.cells (c.setIfInBounds (Addr.mk b3 1 none).off (Value.int .u8 v_15)) e)) fun F =>
  ∃ v_17 : Array Value, v_17.size = 2 ∧ F.row (Addr.mk b2 0 none) v_17 ∧
  Spec prog 16 #[(Value.agg v_17)] F fun v F => ∃ v_18 : Array Value, v = (Value.agg v_18) ∧
  ∀ b6, F b6 = none → atF (F.set b6 (.cells (#[Value.slice none 0 0, Value.int .i64 0]) 28)) fun F =>
  v_18.size = 2 ∧ (∀ v ∈ v_18.toList, storable v) ∧ ∃ c e, F (Addr.mk b6 0 none).block = some (.cells c e (0, 0)) ∧ (Addr.mk b6 0 none).spot = none ∧ (Addr.mk b6 0 none).off + 2 ≤ c.size ∧
  atF (F.set (Addr.mk b6 0 none).block (.cells (wr c (Addr.mk b6 0 none).off v_18.toList) e)) fun F =>
  ∃ v_19 : Array Value, v_19.size = 2 ∧ F.row (Addr.mk b3 0 none) v_19 ∧
  Spec prog 16 #[(Value.agg v_19)] F fun v F => ∃ v_20 : Array Value, v = (Value.agg v_20) ∧
  ∀ b7, F b7 = none → atF (F.set b7 (.cells (#[Value.slice none 0 0, Value.int .i64 0]) 28)) fun F =>
  v_20.size = 2 ∧ (∀ v ∈ v_20.toList, storable v) ∧ ∃ c e, F (Addr.mk b7 0 none).block = some (.cells c e (0, 0)) ∧ (Addr.mk b7 0 none).spot = none ∧ (Addr.mk b7 0 none).off + 2 ≤ c.size ∧
  atF (F.set (Addr.mk b7 0 none).block (.cells (wr c (Addr.mk b7 0 none).off v_20.toList) e)) fun F =>
  Spec prog 17 #[(Value.bool false)] F fun v F => ∃ v_21 : Array Value, v = (Value.agg v_21) ∧
  ∀ b8, F b8 = none → atF (F.set b8 (.cells (#[Value.slice none 0 0, Value.int .i64 0]) 28)) fun F =>
  v_21.size = 2 ∧ (∀ v ∈ v_21.toList, storable v) ∧ ∃ c e, F (Addr.mk b8 0 none).block = some (.cells c e (0, 0)) ∧ (Addr.mk b8 0 none).spot = none ∧ (Addr.mk b8 0 none).off + 2 ≤ c.size ∧
  atF (F.set (Addr.mk b8 0 none).block (.cells (wr c (Addr.mk b8 0 none).off v_21.toList) e)) fun F =>
  (∃ (I1 : Nat → Bool → Int → PH → Prop) (m1 : Nat), I1 m1 true (0 : Int) F ∧ ∀ m1 equal_9_1 k_10 F, I1 m1 equal_9_1 k_10 F →
    b3L1 (fun equal_9_1 k_10 F => ∃ m', m' < m1 ∧ I1 m' equal_9_1 k_10 F) b2 v_13 b6 b7 b8 R equal_9_1 k_10 F)
theorem c3 {s_0 : Array Value} {t_1 : Array Value} {R : Value → PH → Prop} {F : PH} (h : b3 s_0 t_1 R F) : Spec prog 3 #[(Value.agg s_0), (Value.agg t_1)] F R := by
  refine spec_of (args := [(Value.agg s_0), (Value.agg t_1)]) func3 rfl ntmps3 rfl ?_
  unfold b3 at h
  refine HC_seq ?_
  refine HC_region ?_
  refine s_ef (k_box (cs := s_0) rfl rfl ?_)
  intro b2 hf_b2
  replace h := atE (h b2 hf_b2)
  refine s_ef (k_box (cs := t_1) rfl rfl ?_)
  intro b3 hf_b3
  replace h := atE (h b3 hf_b3)
  refine s_rd (v := (Value.bool false)) (r_assign rfl rfl) ?_
  refine HL_nil ?_
  refine HC_seq ?_
  refine HC_region ?_
  refine s_ef (k_call (vs := []) cb15 evN (h.mono ?_))
  clear h; rintro v F ⟨v_13, rfl, h⟩
  refine s_rd (v := (Value.bool v_13)) (r_assign rfl rfl) ?_
  refine HL_nil ?_
  refine HC_seq ?_
  refine HC_region ?_
  refine s_rd (v := (Value.pointer (some (Addr.mk b2 1 none)))) (w_fieldAddr (a' := (Addr.mk b2 1 none)) rfl underlying24 rfl rfl sz5 rfl rfl) ?_
  obtain ⟨v_15, hc15, h⟩ := h
  refine s_rd (v := (Value.int .u8 v_15)) (r_load1 rfl rfl underlying5 rfl hc15) ?_
  refine s_rd (v := (Value.pointer (some (Addr.mk b3 1 none)))) (w_fieldAddr (a' := (Addr.mk b3 1 none)) rfl underlying24 rfl rfl sz5 rfl rfl) ?_
  refine s_ef0 (k_store1 (v := (Value.int .u8 v_15)) rfl rfl sz5 rfl st_int ?_)
  obtain ⟨c, e, hz3, hz4, hz5, h⟩ := h
  refine ⟨c, e, hz3, hz4, hz5, ?_⟩
  replace h := atE h
  refine HL_nil ?_
  refine HC_seq ?_
  refine HC_region ?_
  obtain ⟨v_17, hs17, hc17, h⟩ := h
  refine s_rd (v := (Value.agg v_17)) (w_loadN rfl underlying24 rfl sz24 hs17 hc17) ?_
  refine s_ef (k_call (vs := [(Value.agg v_17)]) cb16 (evC rfl evN) (h.mono ?_))
  clear h; rintro v F ⟨v_18, rfl, h⟩
  refine s_ef (k_alloc zr28 ?_)
  intro b6 hf_b6
  replace h := atE (h b6 hf_b6)
  refine s_ef0 (k_storeN (vs := v_18) rfl rfl sz28 (by decide) ?_)
  obtain ⟨hz1, hz2, c, e, hz3, hz4, hz5, h⟩ := h
  refine ⟨hz1, hz2, c, e, hz3, hz4, hz5, ?_⟩
  replace h := atE h
  refine HL_nil ?_
  refine HC_seq ?_
  refine HC_region ?_
  obtain ⟨v_19, hs19, hc19, h⟩ := h
  refine s_rd (v := (Value.agg v_19)) (w_loadN rfl underlying24 rfl sz24 hs19 hc19) ?_
  refine s_ef (k_call (vs := [(Value.agg v_19)]) cb16 (evC rfl evN) (h.mono ?_))
  clear h; rintro v F ⟨v_20, rfl, h⟩
  refine s_ef (k_alloc zr28 ?_)
  intro b7 hf_b7
  replace h := atE (h b7 hf_b7)
  refine s_ef0 (k_storeN (vs := v_20) rfl rfl sz28 (by decide) ?_)
  obtain ⟨hz1, hz2, c, e, hz3, hz4, hz5, h⟩ := h
  refine ⟨hz1, hz2, c, e, hz3, hz4, hz5, ?_⟩
  replace h := atE h
  refine HL_nil ?_
  refine HC_seq ?_
  refine HC_region ?_
  refine s_ef (k_call (vs := [(Value.bool false)]) cb17 (evC rfl evN) (h.mono ?_))
  clear h; rintro v F ⟨v_21, rfl, h⟩
  refine s_ef (k_alloc zr28 ?_)
  intro b8 hf_b8
  replace h := atE (h b8 hf_b8)
  refine s_ef0 (k_storeN (vs := v_21) rfl rfl sz28 (by decide) ?_)
  obtain ⟨hz1, hz2, c, e, hz3, hz4, hz5, h⟩ := h
  refine ⟨hz1, hz2, c, e, hz3, hz4, hz5, ?_⟩
  replace h := atE h
  refine HL_nil ?_
  refine HC_seq ?_
  refine HC_region ?_
  refine s_rd (v := (Value.bool true)) (r_assign rfl rfl) ?_
  refine HL_nil ?_
  refine HC_seqJ (b3J1 v_13 b6 b7 b8 R) ?_ ?_
  · clear h; rintro E F ⟨equal_9, h5, h6, h7, h8, h9, h⟩
    unfold b3j1 at h
    refine HC_seq ?_
    refine HC_region ?_
    obtain ⟨v_72, hs72, hc72, h⟩ := h
    refine s_rd (v := (Value.agg v_72)) (w_loadN h8 underlying28 rfl sz28 hs72 hc72) ?_
    refine s_ef (k_call (vs := [(Value.agg v_72)]) cb23 (evC rfl evN) (h.mono ?_))
    clear h; rintro v F ⟨v_73, rfl, h⟩
    refine s_rd (v := (Value.bool (decide (v_73 = (0 : Int))))) (w_eql rfl rfl) ?_
    refine s_rd (v := (Value.bool (decide (v_73 = (0 : Int))))) (r_move rfl rfl) ?_
    by_cases hc : v_73 = (0 : Int)
    · replace h := h.1 hc
      refine HL_known (t := 74) (v := .bool true) (congrArg Value.bool (decide_eq_true hc)) ?_
      refine HL_known (t := 75) (v := .bool true) (congrArg Value.bool (decide_eq_true hc)) ?_
      obtain ⟨v_76, hs76, hc76, h⟩ := h
      refine s_rd (v := (Value.agg v_76)) (w_loadN h6 underlying28 rfl sz28 hs76 hc76) ?_
      obtain ⟨v_77, hs77, hc77, h⟩ := h
      refine s_rd (v := (Value.agg v_77)) (w_loadN h8 underlying28 rfl sz28 hs77 hc77) ?_
      refine s_ef (k_call (vs := [(Value.agg v_76), (Value.agg v_77)]) cb24 (evC rfl (evC rfl evN)) (h.mono ?_))
      clear h; rintro v F ⟨v_78, rfl, h⟩
      refine s_rd (v := (Value.bool v_78)) (r_pick rfl rfl (fun _ => rfl) (fun h => by cases h)) ?_
      refine s_rd (v := (Value.bool v_78)) (r_move rfl rfl) ?_
      by_cases hc : v_78 = true
      · replace h := h.1 hc
        refine HL_known (t := 78) (v := .bool true) (congrArg Value.bool hc) ?_
        refine HL_known (t := 79) (v := .bool true) (congrArg Value.bool hc) ?_
        refine HL_known (t := 80) (v := .bool true) (congrArg Value.bool hc) ?_
        obtain ⟨v_81, hs81, hc81, h⟩ := h
        refine s_rd (v := (Value.agg v_81)) (w_loadN h6 underlying28 rfl sz28 hs81 hc81) ?_
        obtain ⟨v_82, hs82, hc82, h⟩ := h
        refine s_rd (v := (Value.agg v_82)) (w_loadN h7 underlying28 rfl sz28 hs82 hc82) ?_
        refine s_ef (k_call (vs := [(Value.agg v_81), (Value.agg v_82)]) cb24 (evC rfl (evC rfl evN)) (h.mono ?_))
        clear h; rintro v F ⟨v_83, rfl, h⟩
        refine s_rd (v := (Value.bool equal_9)) (r_move rfl h9) ?_
        refine s_rd (v := (Value.bool (v_83 == equal_9))) (r_eqlB rfl rfl rfl underlying4) ?_
        refine s_rd (v := (Value.bool (v_83 == equal_9))) (r_pick rfl rfl (fun _ => rfl) (fun h => by cases h)) ?_
        refine s_rd (v := (Value.bool (v_83 == equal_9))) (r_move rfl rfl) ?_
        by_cases hc : (v_83 == equal_9) = true
        · replace h := h.1 hc
          refine HL_known (t := 85) (v := .bool true) (congrArg Value.bool hc) ?_
          refine HL_known (t := 86) (v := .bool true) (congrArg Value.bool hc) ?_
          refine HL_known (t := 87) (v := .bool true) (congrArg Value.bool hc) ?_
          refine s_rd (v := (Value.bool v_13)) (r_move rfl h5) ?_
          refine s_rd (v := (Value.bool v_13)) (r_pick rfl rfl (fun _ => rfl) (fun h => by cases h)) ?_
          refine s_rd (v := (Value.bool v_13)) (r_assign rfl rfl) ?_
          refine HL_nil ?_
          exact HC_ret (show endQ prog f3 R .ret _ _ from ⟨_, res1 rfl (rv_tmp rfl), h⟩)
        · replace hc := eq_false_of_ne_true hc; replace h := h.2 hc
          refine HL_known (t := 85) (v := .bool false) (congrArg Value.bool hc) ?_
          refine HL_known (t := 86) (v := .bool false) (congrArg Value.bool hc) ?_
          refine HL_known (t := 87) (v := .bool false) (congrArg Value.bool hc) ?_
          refine s_skip ?_
          refine s_rd (v := (Value.bool false)) (r_pick rfl rfl (fun h => by cases h) (fun _ => rfl)) ?_
          refine s_rd (v := (Value.bool false)) (r_assign rfl rfl) ?_
          refine HL_nil ?_
          exact HC_ret (show endQ prog f3 R .ret _ _ from ⟨_, res1 rfl (rv_tmp rfl), h⟩)
      · replace hc := eq_false_of_ne_true hc; replace h := h.2 hc
        refine HL_known (t := 78) (v := .bool false) (congrArg Value.bool hc) ?_
        refine HL_known (t := 79) (v := .bool false) (congrArg Value.bool hc) ?_
        refine HL_known (t := 80) (v := .bool false) (congrArg Value.bool hc) ?_
        refine s_skip ?_
        refine s_skip ?_
        refine s_skip ?_
        refine s_skip ?_
        refine s_skip ?_
        refine s_rd (v := (Value.bool false)) (r_pick rfl rfl (fun h => by cases h) (fun _ => rfl)) ?_
        refine s_rd (v := (Value.bool false)) (r_move rfl rfl) ?_
        refine s_skip ?_
        refine s_rd (v := (Value.bool false)) (r_pick rfl rfl (fun h => by cases h) (fun _ => rfl)) ?_
        refine s_rd (v := (Value.bool false)) (r_assign rfl rfl) ?_
        refine HL_nil ?_
        exact HC_ret (show endQ prog f3 R .ret _ _ from ⟨_, res1 rfl (rv_tmp rfl), h⟩)
    · replace h := h.2 hc
      refine HL_known (t := 74) (v := .bool false) (congrArg Value.bool (decide_eq_false hc)) ?_
      refine HL_known (t := 75) (v := .bool false) (congrArg Value.bool (decide_eq_false hc)) ?_
      refine s_skip ?_
      refine s_skip ?_
      refine s_skip ?_
      refine s_rd (v := (Value.bool false)) (r_pick rfl rfl (fun h => by cases h) (fun _ => rfl)) ?_
      refine s_rd (v := (Value.bool false)) (r_move rfl rfl) ?_
      refine s_skip ?_
      refine s_skip ?_
      refine s_skip ?_
      refine s_skip ?_
      refine s_skip ?_
      refine s_rd (v := (Value.bool false)) (r_pick rfl rfl (fun h => by cases h) (fun _ => rfl)) ?_
      refine s_rd (v := (Value.bool false)) (r_move rfl rfl) ?_
      refine s_skip ?_
      refine s_rd (v := (Value.bool false)) (r_pick rfl rfl (fun h => by cases h) (fun _ => rfl)) ?_
      refine s_rd (v := (Value.bool false)) (r_assign rfl rfl) ?_
      refine HL_nil ?_
      exact HC_ret (show endQ prog f3 R .ret _ _ from ⟨_, res1 rfl (rv_tmp rfl), h⟩)
  · skip
    refine HC_seq ?_
    refine HC_region ?_
    refine s_rd (v := (Value.int .i64 (0 : Int))) (r_assign rfl rfl) ?_
    refine HL_nil ?_
    refine HC_block ?_
    obtain ⟨I1, m1, hI0, hr⟩ := h
    refine HC_loop (fun m1 E F => ∃ equal_9_1 : Bool, ∃ k_10 : Int, E 2 = (Value.pointer (some (Addr.mk b2 0 none))) ∧ E 5 = (Value.bool v_13) ∧ E 6 = (Value.pointer (some (Addr.mk b6 0 none))) ∧ E 7 = (Value.pointer (some (Addr.mk b7 0 none))) ∧ E 8 = (Value.pointer (some (Addr.mk b8 0 none))) ∧ E 9 = (Value.bool equal_9_1) ∧ E 10 = (Value.int .i64 k_10) ∧ I1 m1 equal_9_1 k_10 F) m1 ⟨_, _, rfl, rfl, rfl, rfl, rfl, rfl, rfl, hI0⟩ ?_
    clear hI0; rintro m1 E F ⟨equal_9_1, k_10, h2, h5, h6, h7, h8, h9, h10, hI⟩
    have h := hr m1 equal_9_1 k_10 F hI
    clear hr hI
    unfold b3L1 at h
    refine HC_seq ?_
    refine HC_seq ?_
    refine HC_region ?_
    refine s_rd (v := (Value.int .i64 k_10)) (r_move rfl h10) ?_
    obtain ⟨v_23, hs23, hc23, h⟩ := h
    refine s_rd (v := (Value.agg v_23)) (w_loadN h2 underlying24 rfl sz24 hs23 hc23) ?_
    refine s_ef (k_call (vs := [(Value.agg v_23)]) cb18 (evC rfl evN) (h.mono ?_))
    clear h; rintro v F ⟨v_24, rfl, h⟩
    refine s_rd (v := (Value.int .u64 (IntKind.u64.wrap v_24))) (r_convInt rfl rfl underlying3 underlying31) ?_
    obtain ⟨hd26, h⟩ := h
    refine s_rd (v := (Value.int .i64 (IntKind.i64.wrap ((1 : Int) * 2 ^ (min (Int.toNat (IntKind.u64.wrap v_24)) (IntKind.i64).bits))))) (r_shl rfl rfl rfl hd26) ?_
    refine s_rd (v := (Value.bool (decide (k_10 < (IntKind.i64.wrap ((1 : Int) * 2 ^ (min (Int.toNat (IntKind.u64.wrap v_24)) (IntKind.i64).bits))))))) (r_lss rfl rfl rfl) ?_
    refine HL_nil ?_
    refine HC_cond (t := (decide (k_10 < (IntKind.i64.wrap ((1 : Int) * 2 ^ (min (Int.toNat (IntKind.u64.wrap v_24)) (IntKind.i64).bits)))))) rfl (fun hc => ?_) (fun hc => ?_)
    · replace h := h.1 (of_decide_eq_true hc)
      clear hc
      refine HC_skip ?_
      refine HC_seqJ (b3J2 (fun equal_9_1 k_10 F => ∃ m', m' < m1 ∧ I1 m' equal_9_1 k_10 F) b2 v_13 b6 b7 b8 k_10 R) ?_ ?_
      · clear h; rintro E F ⟨equal_9_2, h2, h5, h6, h7, h8, h9, h10, h⟩
        unfold b3j2 at h
        refine HC_region ?_
        refine s_rd (v := (Value.int .i64 k_10)) (r_move rfl h10) ?_
        refine s_rd (v := (Value.int .i64 (IntKind.i64.wrap (k_10 + (1 : Int))))) (r_add rfl rfl rfl) ?_
        refine s_rd (v := (Value.int .i64 (IntKind.i64.wrap (k_10 + (1 : Int))))) (r_assign rfl rfl) ?_
        refine HL_nil ?_
        obtain ⟨m', hm, h⟩ := h
        exact ⟨m', hm, _, _, h2, h5, h6, h7, h8, h9, rfl, h⟩
      · skip
        refine HC_block ?_
        refine HC_seq ?_
        refine HC_region ?_
        refine s_ef (k_call (vs := [(Value.bool true)]) cb17 (evC rfl evN) (h.mono ?_))
        clear h; rintro v F ⟨v_30, rfl, h⟩
        refine s_ef (k_alloc zr28 ?_)
        intro b11 hf_b11
        replace h := atE (h b11 hf_b11)
        refine s_ef0 (k_storeN (vs := v_30) rfl rfl sz28 (by decide) ?_)
        obtain ⟨hz1, hz2, c, e, hz3, hz4, hz5, h⟩ := h
        refine ⟨hz1, hz2, c, e, hz3, hz4, hz5, ?_⟩
        replace h := atE h
        refine HL_nil ?_
        refine HC_seqJ (b3J3 (fun equal_9_1 k_10 F => ∃ m', m' < m1 ∧ I1 m' equal_9_1 k_10 F) b2 v_13 b6 b7 b8 equal_9_1 k_10 b11 R) ?_ ?_
        · clear h; rintro E F ⟨h2, h5, h6, h7, h8, h9, h10, h11, h⟩
          unfold b3j3 at h
          refine HC_seqJ (b3J4 (fun equal_9_1 k_10 F => ∃ m', m' < m1 ∧ I1 m' equal_9_1 k_10 F) b2 v_13 b6 b7 b8 equal_9_1 k_10 R) ?_ ?_
          · clear h; rintro E F ⟨h2, h5, h6, h7, h8, h9, h10, h⟩
            unfold b3j4 at h
            refine HC_draw0 (by kernel_rfl) (fun hp => ?_)
            refine g_pu (i := 0) (v := (Value.bool equal_9_1)) rfl (by kernel_rfl) (by kernel_rfl) (by kernel_rfl) (fun _ _ _ h => h) (fun _ => r_move rfl h9) hp ?_
            refine g_pu (i := 1) (v := (Value.bool equal_9_1)) rfl (by kernel_rfl) (by kernel_rfl) (by kernel_rfl) (fun _ _ _ h => h) (fun _ => r_move rfl rfl) hp ?_
            by_cases hc : equal_9_1 = true
            · replace h := h.1 hc
              refine RG_known (t := 9) (v := .bool true) (h9.trans (congrArg Value.bool hc)) ?_
              refine RG_known (t := 60) (v := .bool true) (congrArg Value.bool hc) ?_
              refine RG_known (t := 61) (v := .bool true) (congrArg Value.bool hc) ?_
              obtain ⟨v_62, hs62, hc62, h⟩ := h
              refine g_rd (i := 2) (v := (Value.agg v_62)) rfl (by kernel_rfl) (by kernel_rfl) (by kernel_rfl) (fun _ _ _ h => h) (w_loadN h6 underlying28 rfl sz28 hs62 hc62) hp (fun S2 q2 => ?_)
              replace hp := holdC (i := 2) (q2 _ (w_loadN h6 underlying28 rfl sz28 hs62 hc62)) hp
              refine g_pu (i := 3) (v := (Value.int .i64 k_10)) rfl (by kernel_rfl) (by kernel_rfl) (by kernel_rfl) (fun _ _ _ h => h) (fun _ => r_move rfl h10) hp ?_
              refine g_pu (i := 4) (v := (Value.int .u64 (IntKind.u64.wrap k_10))) rfl (by kernel_rfl) (by kernel_rfl) (by kernel_rfl) (fun _ _ _ h => h) (fun _ => r_convInt rfl rfl underlying3 underlying39) hp ?_
              obtain ⟨v_66, hs66, hc66, h⟩ := h
              refine g_rd (i := 6) (v := (Value.agg v_66)) rfl (by kernel_rfl) (by kernel_rfl) (by kernel_rfl) (fun _ _ _ h => h) (w_loadN h7 underlying28 rfl sz28 hs66 hc66) hp (fun S6 q6 => ?_)
              replace hp := holdC (i := 6) (q6 _ (w_loadN h7 underlying28 rfl sz28 hs66 hc66)) hp
              refine g_pu (i := 7) (v := (Value.int .i64 k_10)) rfl (by kernel_rfl) (by kernel_rfl) (by kernel_rfl) (fun _ _ _ h => h) (fun _ => r_move rfl h10) hp ?_
              refine g_pu (i := 8) (v := (Value.int .u64 (IntKind.u64.wrap k_10))) rfl (by kernel_rfl) (by kernel_rfl) (by kernel_rfl) (fun _ _ _ h => h) (fun _ => r_convInt rfl rfl underlying3 underlying39) hp ?_
              refine RG_eff1 (i := 5) (by kernel_rfl) (g_op (Sp' := [(6, S6)]) rfl rfl (k_call (vs := [(Value.agg v_62), (Value.int .u64 (IntKind.u64.wrap k_10))]) cb21 (evC rfl (evC rfl evN)) (h.mono ?_)))
              clear h; rintro v F ⟨v_65, rfl, h⟩
              obtain ⟨hk_18, h⟩ := h
              refine holdI (holdC (i := 6) (q6 _ (w_loadN h7 underlying28 rfl sz28 hs66 hk_18)) hold0) (fun hp => ?_)
              refine RG_eff1 (i := 9) (by kernel_rfl) (g_op (Sp' := []) rfl rfl (k_call (vs := [(Value.agg v_66), (Value.int .u64 (IntKind.u64.wrap k_10))]) cb21 (evC rfl (evC rfl evN)) (h.mono ?_)))
              clear h; rintro v F ⟨v_69, rfl, h⟩
              refine holdI hold0 (fun hp => ?_)
              refine g_pu (i := 10) (v := (Value.bool (v_65 == v_69))) rfl (by kernel_rfl) (by kernel_rfl) (by kernel_rfl) (fun _ _ _ h => h) (fun _ => r_eqlB rfl rfl rfl underlying4) hp ?_
              refine g_pu (i := 11) (v := (Value.bool (v_65 == v_69))) rfl (by kernel_rfl) (by kernel_rfl) (by kernel_rfl) (fun _ _ _ h => h) (fun _ => r_pick rfl rfl (fun _ => rfl) (fun h => by cases h)) hp ?_
              refine g_pu (i := 12) (v := (Value.bool (v_65 == v_69))) rfl (by kernel_rfl) (by kernel_rfl) (by kernel_rfl) (fun _ _ _ h => h) (fun _ => r_assign rfl rfl) hp ?_
              refine RG_done (by kernel_rfl) ?_
              show b3J2 (fun equal_9_1 k_10 F => ∃ m', m' < m1 ∧ I1 m' equal_9_1 k_10 F) b2 v_13 b6 b7 b8 k_10 R _ _
              exact ⟨_, h2, h5, h6, h7, h8, rfl, h10, h⟩
            · replace hc := eq_false_of_ne_true hc; replace h := h.2 hc
              refine RG_known (t := 9) (v := .bool false) (h9.trans (congrArg Value.bool hc)) ?_
              refine RG_known (t := 60) (v := .bool false) (congrArg Value.bool hc) ?_
              refine RG_known (t := 61) (v := .bool false) (congrArg Value.bool hc) ?_
              refine g_skip (i := 2) rfl (by kernel_rfl) (by kernel_rfl) (by kernel_rfl) (fun _ _ _ h => h) hp ?_
              refine g_skip (i := 3) rfl (by kernel_rfl) (by kernel_rfl) (by kernel_rfl) (fun _ _ _ h => h) hp ?_
              refine g_skip (i := 4) rfl (by kernel_rfl) (by kernel_rfl) (by kernel_rfl) (fun _ _ _ h => h) hp ?_
              refine g_skip (i := 5) rfl (by kernel_rfl) (by kernel_rfl) (by kernel_rfl) (fun _ _ _ h => h) hp ?_
              refine g_skip (i := 6) rfl (by kernel_rfl) (by kernel_rfl) (by kernel_rfl) (fun _ _ _ h => h) hp ?_
              refine g_skip (i := 7) rfl (by kernel_rfl) (by kernel_rfl) (by kernel_rfl) (fun _ _ _ h => h) hp ?_
              refine g_skip (i := 8) rfl (by kernel_rfl) (by kernel_rfl) (by kernel_rfl) (fun _ _ _ h => h) hp ?_
              refine g_skip (i := 9) rfl (by kernel_rfl) (by kernel_rfl) (by kernel_rfl) (fun _ _ _ h => h) hp ?_
              refine g_skip (i := 10) rfl (by kernel_rfl) (by kernel_rfl) (by kernel_rfl) (fun _ _ _ h => h) hp ?_
              refine g_pu (i := 11) (v := (Value.bool false)) rfl (by kernel_rfl) (by kernel_rfl) (by kernel_rfl) (fun _ _ _ h => h) (fun _ => r_pick rfl rfl (fun h => by cases h) (fun _ => rfl)) hp ?_
              refine g_pu (i := 12) (v := (Value.bool false)) rfl (by kernel_rfl) (by kernel_rfl) (by kernel_rfl) (fun _ _ _ h => h) (fun _ => r_assign rfl rfl) hp ?_
              refine RG_done (by kernel_rfl) ?_
              show b3J2 (fun equal_9_1 k_10 F => ∃ m', m' < m1 ∧ I1 m' equal_9_1 k_10 F) b2 v_13 b6 b7 b8 k_10 R _ _
              exact ⟨_, h2, h5, h6, h7, h8, rfl, h10, h⟩
          · skip
            refine HC_seq ?_
            refine HC_region ?_
            obtain ⟨v_50, hs50, hc50, h⟩ := h
            refine s_rd (v := (Value.agg v_50)) (w_loadN h6 underlying28 rfl sz28 hs50 hc50) ?_
            refine s_rd (v := (Value.int .i64 k_10)) (r_move rfl h10) ?_
            refine s_rd (v := (Value.int .u64 (IntKind.u64.wrap k_10))) (r_convInt rfl rfl underlying3 underlying39) ?_
            refine s_ef (k_call (vs := [(Value.agg v_50), (Value.int .u64 (IntKind.u64.wrap k_10))]) cb21 (evC rfl (evC rfl evN)) (h.mono ?_))
            clear h; rintro v F ⟨v_53, rfl, h⟩
            refine HL_nil ?_
            refine HC_cond (t := v_53) rfl (fun hc => ?_) (fun hc => ?_)
            · replace h := h.1 hc
              clear hc
              refine HC_region ?_
              obtain ⟨v_55, hs55, hc55, h⟩ := h
              refine s_rd (v := (Value.agg v_55)) (w_loadN h11 underlying28 rfl sz28 hs55 hc55) ?_
              obtain ⟨v_56, hs56, hc56, h⟩ := h
              refine s_rd (v := (Value.agg v_56)) (w_loadN h8 underlying28 rfl sz28 hs56 hc56) ?_
              refine s_ef (k_call (vs := [(Value.agg v_55), (Value.agg v_56)]) cb22 (evC rfl (evC rfl evN)) (h.mono ?_))
              clear h; rintro v F ⟨v_57, v_57_1, rfl, h⟩
              refine s_rd (v := (Value.tuple #[(Value.agg v_57), (Value.int .i64 v_57_1)])) (r_move rfl rfl) ?_
              refine s_rd (v := (Value.agg v_57)) (r_extract rfl rfl rfl) ?_
              refine s_rd (v := (Value.int .i64 v_57_1)) (r_extract rfl rfl rfl) ?_
              refine s_ef0 (k_storeN (vs := v_57) h8 rfl sz28 (by decide) ?_)
              obtain ⟨hz1, hz2, c, e, hz3, hz4, hz5, h⟩ := h
              refine ⟨hz1, hz2, c, e, hz3, hz4, hz5, ?_⟩
              replace h := atE h
              refine HL_nil ?_
              show b3J4 (fun equal_9_1 k_10 F => ∃ m', m' < m1 ∧ I1 m' equal_9_1 k_10 F) b2 v_13 b6 b7 b8 equal_9_1 k_10 R _ _
              exact ⟨h2, h5, h6, h7, h8, h9, h10, h⟩
            · replace h := h.2 hc
              clear hc
              refine HC_skip ?_
              show b3J4 (fun equal_9_1 k_10 F => ∃ m', m' < m1 ∧ I1 m' equal_9_1 k_10 F) b2 v_13 b6 b7 b8 equal_9_1 k_10 R _ _
              exact ⟨h2, h5, h6, h7, h8, h9, h10, h⟩
        · skip
          refine HC_seq ?_
          refine HC_region ?_
          refine s_rd (v := (Value.int .i64 (0 : Int))) (r_assign rfl rfl) ?_
          refine HL_nil ?_
          refine HC_block ?_
          obtain ⟨I2, m2, hI0, hr⟩ := h
          refine HC_loop (fun m2 E F => ∃ v_12 : Int, E 2 = (Value.pointer (some (Addr.mk b2 0 none))) ∧ E 5 = (Value.bool v_13) ∧ E 6 = (Value.pointer (some (Addr.mk b6 0 none))) ∧ E 7 = (Value.pointer (some (Addr.mk b7 0 none))) ∧ E 8 = (Value.pointer (some (Addr.mk b8 0 none))) ∧ E 9 = (Value.bool equal_9_1) ∧ E 10 = (Value.int .i64 k_10) ∧ E 11 = (Value.pointer (some (Addr.mk b11 0 none))) ∧ E 12 = (Value.int .i64 v_12) ∧ I2 m2 v_12 F) m2 ⟨_, h2, h5, h6, h7, h8, h9, h10, rfl, rfl, hI0⟩ ?_
          clear hI0; rintro m2 E F ⟨v_12, h2, h5, h6, h7, h8, h9, h10, h11, h12, hI⟩
          have h := hr m2 v_12 F hI
          clear hr hI
          unfold b3L2 at h
          refine HC_seq ?_
          refine HC_seq ?_
          refine HC_region ?_
          refine s_rd (v := (Value.int .i64 v_12)) (r_move rfl h12) ?_
          obtain ⟨v_32, hs32, hc32, h⟩ := h
          refine s_rd (v := (Value.agg v_32)) (w_loadN h2 underlying24 rfl sz24 hs32 hc32) ?_
          refine s_ef (k_call (vs := [(Value.agg v_32)]) cb18 (evC rfl evN) (h.mono ?_))
          clear h; rintro v F ⟨v_33, rfl, h⟩
          refine s_rd (v := (Value.bool (decide (v_12 < v_33)))) (r_lss rfl rfl rfl) ?_
          refine HL_nil ?_
          refine HC_cond (t := (decide (v_12 < v_33))) rfl (fun hc => ?_) (fun hc => ?_)
          · replace h := h.1 (of_decide_eq_true hc)
            clear hc
            refine HC_skip ?_
            refine HC_seq ?_
            refine HC_block ?_
            refine HC_draw0 (by kernel_rfl) (fun hp => ?_)
            obtain ⟨v_38, hs38, hc38, h⟩ := h
            refine g_rd (i := 0) (v := (Value.agg v_38)) rfl (by kernel_rfl) (by kernel_rfl) (by kernel_rfl) (fun _ _ _ h => h) (w_loadN h11 underlying28 rfl sz28 hs38 hc38) hp (fun S0 q0 => ?_)
            replace hp := holdC (i := 0) (q0 _ (w_loadN h11 underlying28 rfl sz28 hs38 hc38)) hp
            refine g_pu (i := 1) (v := (Value.int .i64 v_12)) rfl (by kernel_rfl) (by kernel_rfl) (by kernel_rfl) (fun _ _ _ h => h) (fun _ => r_move rfl h12) hp ?_
            refine g_pu (i := 2) (v := (Value.int .i64 k_10)) rfl (by kernel_rfl) (by kernel_rfl) (by kernel_rfl) (fun _ _ _ h => h) (fun _ => r_move rfl h10) hp ?_
            refine g_pu (i := 3) (v := (Value.int .i64 v_12)) rfl (by kernel_rfl) (by kernel_rfl) (by kernel_rfl) (fun _ _ _ h => h) (fun _ => r_move rfl h12) hp ?_
            refine g_pu (i := 4) (v := (Value.int .u64 (IntKind.u64.wrap v_12))) rfl (by kernel_rfl) (by kernel_rfl) (by kernel_rfl) (fun _ _ _ h => h) (fun _ => r_convInt rfl rfl underlying3 underlying31) hp ?_
            obtain ⟨hd43, h⟩ := h
            refine g_pu (i := 5) (v := (Value.int .i64 (Int.fdiv k_10 (2 ^ (min (Int.toNat (IntKind.u64.wrap v_12)) (IntKind.i64).bits))))) rfl (by kernel_rfl) (by kernel_rfl) (by kernel_rfl) (fun _ _ _ h => h) (fun _ => r_shr rfl rfl rfl hd43) hp ?_
            refine g_pu (i := 6) (v := (Value.int .i64 (Int.tmod (Int.fdiv k_10 (2 ^ (min (Int.toNat (IntKind.u64.wrap v_12)) (IntKind.i64).bits))) (2 : Int)))) rfl (by kernel_rfl) (by kernel_rfl) (by kernel_rfl) (fun _ _ _ h => h) (fun _ => r_rem rfl rfl rfl (by decide)) hp ?_
            refine g_pu (i := 7) (v := (Value.bool (decide ((Int.tmod (Int.fdiv k_10 (2 ^ (min (Int.toNat (IntKind.u64.wrap v_12)) (IntKind.i64).bits))) (2 : Int)) = (1 : Int))))) rfl (by kernel_rfl) (by kernel_rfl) (by kernel_rfl) (fun _ _ _ h => h) (fun _ => w_eql rfl rfl) hp ?_
            refine RG_eff1 (i := 8) (by kernel_rfl) (g_op (Sp' := [(0, S0)]) rfl rfl (k_call (vs := [(Value.int .i64 v_12), (Value.bool (decide ((Int.tmod (Int.fdiv k_10 (2 ^ (min (Int.toNat (IntKind.u64.wrap v_12)) (IntKind.i64).bits))) (2 : Int)) = (1 : Int))))]) cb20 (evC rfl (evC rfl evN)) (h.mono ?_)))
            clear h; rintro v F ⟨v_46, rfl, h⟩
            obtain ⟨hk_20, h⟩ := h
            refine holdI (holdC (i := 0) (q0 _ (w_loadN h11 underlying28 rfl sz28 hs38 hk_20)) hold0) (fun hp => ?_)
            refine RG_eff1 (i := 9) (by kernel_rfl) (g_op (Sp' := []) rfl rfl (k_call (vs := [(Value.agg v_38), (Value.agg v_46)]) cb19 (evC rfl (evC rfl evN)) (h.mono ?_)))
            clear h; rintro v F ⟨v_47, v_47_1, rfl, h⟩
            refine holdI hold0 (fun hp => ?_)
            refine g_pu (i := 10) (v := (Value.tuple #[(Value.agg v_47), (Value.int .i64 v_47_1)])) rfl (by kernel_rfl) (by kernel_rfl) (by kernel_rfl) (fun _ _ _ h => h) (fun _ => r_move rfl rfl) hp ?_
            refine g_pu (i := 11) (v := (Value.agg v_47)) rfl (by kernel_rfl) (by kernel_rfl) (by kernel_rfl) (fun _ _ _ h => h) (fun _ => r_extract rfl rfl rfl) hp ?_
            refine g_pu (i := 12) (v := (Value.int .i64 v_47_1)) rfl (by kernel_rfl) (by kernel_rfl) (by kernel_rfl) (fun _ _ _ h => h) (fun _ => r_extract rfl rfl rfl) hp ?_
            refine RG_eff1 (i := 13) (by kernel_rfl) (g_op0 (Sp' := []) rfl rfl (k_storeN (vs := v_47) h11 rfl sz28 (by decide) ?_))
            obtain ⟨hz1, hz2, c, e, hz3, hz4, hz5, h⟩ := h
            refine ⟨hz1, hz2, c, e, hz3, hz4, hz5, ?_⟩
            replace h := atE h
            refine holdI hold0 (fun hp => ?_)
            refine RG_done (by kernel_rfl) ?_
            refine HC_region ?_
            refine s_rd (v := (Value.int .i64 v_12)) (r_move rfl h12) ?_
            refine s_rd (v := (Value.int .i64 (IntKind.i64.wrap (v_12 + (1 : Int))))) (r_add rfl rfl rfl) ?_
            refine s_rd (v := (Value.int .i64 (IntKind.i64.wrap (v_12 + (1 : Int))))) (r_assign rfl rfl) ?_
            refine HL_nil ?_
            obtain ⟨m', hm, h⟩ := h
            exact ⟨m', hm, _, h2, h5, h6, h7, h8, h9, h10, h11, rfl, h⟩
          · replace h := h.2 (of_decide_eq_false hc)
            clear hc
            refine HC_exit ?_
            show b3J3 (fun equal_9_1 k_10 F => ∃ m', m' < m1 ∧ I1 m' equal_9_1 k_10 F) b2 v_13 b6 b7 b8 equal_9_1 k_10 b11 R _ _
            exact ⟨h2, h5, h6, h7, h8, h9, h10, h11, h⟩
    · replace h := h.2 (of_decide_eq_false hc)
      clear hc
      refine HC_exit ?_
      show b3J1 v_13 b6 b7 b8 R _ _
      exact ⟨_, h5, h6, h7, h8, h9, h⟩

end Go.Proofs.Ytafojmoeaneedaa
