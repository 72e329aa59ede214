/-
  What functions of the program do, in a clean form, each with the proof that its code does so. Printed by a program.
-/
import Derived.Test.YtafojmoeaneedaaGf
import Derived.Test.YtafojmoeaneedaaPho
namespace Go.Proofs.Ytafojmoeaneedaa
open Go Go.Proofs.Try
set_option maxRecDepth 10000
set_option maxHeartbeats 4000000
/- 4 koine.koinelaw02.DiagramOperations -/
def b4j3 (c_1 : Int) (v_25 : Bool) (v_37 : Bool) (b12 : Nat) (b20 : Nat) (codes_22 : Bool) (chosen_23 : Bool) (pairs_24 : Bool) (R : Value → PH → Prop) (F : PH) : Prop :=
  ((codes_22 = true →
    ((pairs_24 = true →
      ∃ v_127 : Array Value, v_127.size = 2 ∧ F.row (Addr.mk b12 0 none) v_127 ∧
      Spec prog 21 #[(Value.agg v_127), (Value.int .u64 c_1)] F fun v F => ∃ v_129 : Bool, v = (Value.bool v_129) ∧
      (((v_129 == (!v_37)) = true →
        ∃ v_135 : Array Value, v_135.size = 2 ∧ F.row (Addr.mk b20 0 none) v_135 ∧
        Spec prog 21 #[(Value.agg v_135), (Value.int .u64 c_1)] F fun v F => ∃ v_137 : Bool, v = (Value.bool v_137) ∧
        (((v_137 == chosen_23) = true →
          R (Value.bool v_25) F) ∧
        ((v_137 == chosen_23) = false →
          R (Value.bool false) F))) ∧
      ((v_129 == (!v_37)) = false →
        R (Value.bool false) F))) ∧
    (pairs_24 = false →
      R (Value.bool false) F))) ∧
  (codes_22 = false →
    R (Value.bool false) F))
abbrev b4J3 (c_1 : Int) (v_25 : Bool) (v_37 : Bool) (b12 : Nat) (b20 : Nat) (codes_22 : Bool) (chosen_23 : Bool) (R : Value → PH → Prop) (E : En) (F : PH) : Prop := ∃ pairs_24 : Bool, E 1 = (Value.int .u64 c_1) ∧ E 5 = (Value.bool v_25) ∧ E 9 = (Value.bool v_37) ∧ E 12 = (Value.pointer (some (Addr.mk b12 0 none))) ∧ E 20 = (Value.pointer (some (Addr.mk b20 0 none))) ∧ E 22 = (Value.bool codes_22) ∧ E 23 = (Value.bool chosen_23) ∧ E 24 = (Value.bool pairs_24) ∧ b4j3 c_1 v_25 v_37 b12 b20 codes_22 chosen_23 pairs_24 R F
def b4j2 (c_1 : Int) (v_25 : Bool) (v_37 : Bool) (v_40 : Bool) (b12 : Nat) (b14 : Nat) (b16 : Nat) (b18 : Nat) (b20 : Nat) (codes_22 : Bool) (chosen_23 : Bool) (R : Value → PH → Prop) (F : PH) : Prop :=
  ∃ v_95 : Array Value, v_95.size = 2 ∧ F.row (Addr.mk b14 0 none) v_95 ∧
  Spec prog 21 #[(Value.agg v_95), (Value.int .u64 c_1)] F fun v F => ∃ v_97 : Bool, v = (Value.bool v_97) ∧
  ((v_37 = true →
    (((v_97 == v_40) = true →
      ∃ v_104 : Array Value, v_104.size = 2 ∧ F.row (Addr.mk b16 0 none) v_104 ∧
      Spec prog 21 #[(Value.agg v_104), (Value.int .u64 c_1)] F fun v F => ∃ v_106 : Bool, v = (Value.bool v_106) ∧
      (((v_106 == true) = true →
        ∃ v_114 : Array Value, v_114.size = 2 ∧ F.row (Addr.mk b18 0 none) v_114 ∧
        Spec prog 21 #[(Value.agg v_114), (Value.int .u64 c_1)] F fun v F => ∃ v_116 : Bool, v = (Value.bool v_116) ∧
        b4j3 c_1 v_25 v_37 b12 b20 codes_22 chosen_23 (v_116 == (!(true == v_40))) R F) ∧
      ((v_106 == true) = false →
        b4j3 c_1 v_25 v_37 b12 b20 codes_22 chosen_23 false R F))) ∧
    ((v_97 == v_40) = false →
      b4j3 c_1 v_25 v_37 b12 b20 codes_22 chosen_23 false R F))) ∧
  (v_37 = false →
    (((v_97 == false) = true →
      ∃ v_104_1 : Array Value, v_104_1.size = 2 ∧ F.row (Addr.mk b16 0 none) v_104_1 ∧
      Spec prog 21 #[(Value.agg v_104_1), (Value.int .u64 c_1)] F fun v F => ∃ v_106_1 : Bool, v = (Value.bool v_106_1) ∧
      (((v_106_1 == v_40) = true →
        ∃ v_114_1 : Array Value, v_114_1.size = 2 ∧ F.row (Addr.mk b18 0 none) v_114_1 ∧
        Spec prog 21 #[(Value.agg v_114_1), (Value.int .u64 c_1)] F fun v F => ∃ v_116_1 : Bool, v = (Value.bool v_116_1) ∧
        b4j3 c_1 v_25 v_37 b12 b20 codes_22 chosen_23 (v_116_1 == (!(false == v_40))) R F) ∧
      ((v_106_1 == v_40) = false →
        b4j3 c_1 v_25 v_37 b12 b20 codes_22 chosen_23 false R F))) ∧
    ((v_97 == false) = false →
      b4j3 c_1 v_25 v_37 b12 b20 codes_22 chosen_23 false R F))))
abbrev b4J2 (c_1 : Int) (v_25 : Bool) (v_37 : Bool) (v_40 : Bool) (b12 : Nat) (b14 : Nat) (b16 : Nat) (b18 : Nat) (b20 : Nat) (codes_22 : Bool) (R : Value → PH → Prop) (E : En) (F : PH) : Prop := ∃ chosen_23 : Bool, E 1 = (Value.int .u64 c_1) ∧ E 5 = (Value.bool v_25) ∧ E 9 = (Value.bool v_37) ∧ E 10 = (Value.bool v_40) ∧ E 12 = (Value.pointer (some (Addr.mk b12 0 none))) ∧ E 14 = (Value.pointer (some (Addr.mk b14 0 none))) ∧ E 16 = (Value.pointer (some (Addr.mk b16 0 none))) ∧ E 18 = (Value.pointer (some (Addr.mk b18 0 none))) ∧ E 20 = (Value.pointer (some (Addr.mk b20 0 none))) ∧ E 22 = (Value.bool codes_22) ∧ E 23 = (Value.bool chosen_23) ∧ b4j2 c_1 v_25 v_37 v_40 b12 b14 b16 b18 b20 codes_22 chosen_23 R F
def b4j1 (c_1 : Int) (v_25 : Bool) (v_37 : Bool) (v_40 : Bool) (v_43 : Bool) (b12 : Nat) (b14 : Nat) (b16 : Nat) (b18 : Nat) (b20 : Nat) (codes_22 : Bool) (R : Value → PH → Prop) (F : PH) : Prop :=
  ((v_37 = true →
    b4j2 c_1 v_25 v_37 v_40 b12 b14 b16 b18 b20 codes_22 v_40 R F) ∧
  (v_37 = false →
    b4j2 c_1 v_25 v_37 v_40 b12 b14 b16 b18 b20 codes_22 v_43 R F))
abbrev b4J1 (c_1 : Int) (v_25 : Bool) (v_37 : Bool) (v_40 : Bool) (v_43 : Bool) (b12 : Nat) (b14 : Nat) (b16 : Nat) (b18 : Nat) (b20 : Nat) (R : Value → PH → Prop) (E : En) (F : PH) : Prop := ∃ codes_22 : Bool, E 1 = (Value.int .u64 c_1) ∧ E 5 = (Value.bool v_25) ∧ E 9 = (Value.bool v_37) ∧ E 10 = (Value.bool v_40) ∧ E 11 = (Value.bool v_43) ∧ E 12 = (Value.pointer (some (Addr.mk b12 0 none))) ∧ E 14 = (Value.pointer (some (Addr.mk b14 0 none))) ∧ E 16 = (Value.pointer (some (Addr.mk b16 0 none))) ∧ E 18 = (Value.pointer (some (Addr.mk b18 0 none))) ∧ E 20 = (Value.pointer (some (Addr.mk b20 0 none))) ∧ E 22 = (Value.bool codes_22) ∧ b4j1 c_1 v_25 v_37 v_40 v_43 b12 b14 b16 b18 b20 codes_22 R F
def b4d9 (b6 : Nat) (b7 : Nat) (b8 : Nat) (c_1 : Int) (v_25 : Bool) (R : Value → PH → Prop) (F : PH) : Prop :=
  ∃ v_35 : Array Value, v_35.size = 2 ∧ F.row (Addr.mk b6 0 none) v_35 ∧
  ∃ v_38 : Array Value, v_38.size = 2 ∧ F.row (Addr.mk b7 0 none) v_38 ∧
  ∃ v_41 : Array Value, v_41.size = 2 ∧ F.row (Addr.mk b8 0 none) v_41 ∧
  Spec prog 21 #[(Value.agg v_35), (Value.int .u64 c_1)] F fun v F => ∃ v_37 : Bool, v = (Value.bool v_37) ∧
  F.row (Addr.mk b8 0 none) v_41 ∧ F.row (Addr.mk b7 0 none) v_38 ∧ Spec prog 21 #[(Value.agg v_38), (Value.int .u64 c_1)] F fun v F => ∃ v_40 : Bool, v = (Value.bool v_40) ∧
  F.row (Addr.mk b8 0 none) v_41 ∧ Spec prog 21 #[(Value.agg v_41), (Value.int .u64 c_1)] F fun v F => ∃ v_43 : Bool, v = (Value.bool v_43) ∧
  ∃ v_45 : Array Value, v_45.size = 2 ∧ F.row (Addr.mk b6 0 none) v_45 ∧
  Spec prog 25 #[(Value.agg v_45)] F fun v F => ∃ v_46 : Array Value, ∃ v_46_1 : Int, v = (Value.tuple #[(Value.agg v_46), (Value.int .i64 v_46_1)]) ∧
  ∀ b12, F b12 = none → atF (F.set b12 (.cells (#[Value.slice none 0 0, Value.int .i64 0]) 28)) fun F =>
  v_46.size = 2 ∧ (∀ v ∈ v_46.toList, storable v) ∧ ∃ c e, F (Addr.mk b12 0 none).block = some (.cells c e (0, 0)) ∧ (Addr.mk b12 0 none).spot = none ∧ (Addr.mk b12 0 none).off + 2 ≤ c.size ∧
  atF (F.set (Addr.mk b12 0 none).block (.cells (wr c (Addr.mk b12 0 none).off v_46.toList) e)) fun F =>
  ∃ v_50 : Array Value, v_50.size = 2 ∧ F.row (Addr.mk b6 0 none) v_50 ∧
  ∃ v_51 : Array Value, v_51.size = 2 ∧ F.row (Addr.mk b7 0 none) v_51 ∧
  Spec prog 19 #[(Value.agg v_50), (Value.agg v_51)] F fun v F => ∃ v_52 : Array Value, ∃ v_52_1 : Int, v = (Value.tuple #[(Value.agg v_52), (Value.int .i64 v_52_1)]) ∧
  ∀ b14, F b14 = none → atF (F.set b14 (.cells (#[Value.slice none 0 0, Value.int .i64 0]) 28)) fun F =>
  v_52.size = 2 ∧ (∀ v ∈ v_52.toList, storable v) ∧ ∃ c e, F (Addr.mk b14 0 none).block = some (.cells c e (0, 0)) ∧ (Addr.mk b14 0 none).spot = none ∧ (Addr.mk b14 0 none).off + 2 ≤ c.size ∧
  atF (F.set (Addr.mk b14 0 none).block (.cells (wr c (Addr.mk b14 0 none).off v_52.toList) e)) fun F =>
  ∃ v_56 : Array Value, v_56.size = 2 ∧ F.row (Addr.mk b6 0 none) v_56 ∧
  ∃ v_57 : Array Value, v_57.size = 2 ∧ F.row (Addr.mk b7 0 none) v_57 ∧
  Spec prog 22 #[(Value.agg v_56), (Value.agg v_57)] F fun v F => ∃ v_58 : Array Value, ∃ v_58_1 : Int, v = (Value.tuple #[(Value.agg v_58), (Value.int .i64 v_58_1)]) ∧
  ∀ b16, F b16 = none → atF (F.set b16 (.cells (#[Value.slice none 0 0, Value.int .i64 0]) 28)) fun F =>
  v_58.size = 2 ∧ (∀ v ∈ v_58.toList, storable v) ∧ ∃ c e, F (Addr.mk b16 0 none).block = some (.cells c e (0, 0)) ∧ (Addr.mk b16 0 none).spot = none ∧ (Addr.mk b16 0 none).off + 2 ≤ c.size ∧
  atF (F.set (Addr.mk b16 0 none).block (.cells (wr c (Addr.mk b16 0 none).off v_58.toList) e)) fun F =>
  ∃ v_62 : Array Value, v_62.size = 2 ∧ F.row (Addr.mk b6 0 none) v_62 ∧
  ∃ v_63 : Array Value, v_63.size = 2 ∧ F.row (Addr.mk b7 0 none) v_63 ∧
  Spec prog 26 #[(Value.agg v_62), (Value.agg v_63)] F fun v F => ∃ v_64 : Array Value, ∃ v_64_1 : Int, v = (Value.tuple #[(Value.agg v_64), (Value.int .i64 v_64_1)]) ∧
  ∀ b18, F b18 = none → atF (F.set b18 (.cells (#[Value.slice none 0 0, Value.int .i64 0]) 28)) fun F =>
  v_64.size = 2 ∧ (∀ v ∈ v_64.toList, storable v) ∧ ∃ c e, F (Addr.mk b18 0 none).block = some (.cells c e (0, 0)) ∧ (Addr.mk b18 0 none).spot = none ∧ (Addr.mk b18 0 none).off + 2 ≤ c.size ∧
  atF (F.set (Addr.mk b18 0 none).block (.cells (wr c (Addr.mk b18 0 none).off v_64.toList) e)) fun F =>
  ∃ v_68 : Array Value, v_68.size = 2 ∧ F.row (Addr.mk b6 0 none) v_68 ∧
  ∃ v_69 : Array Value, v_69.size = 2 ∧ F.row (Addr.mk b7 0 none) v_69 ∧
  ∃ v_70 : Array Value, v_70.size = 2 ∧ F.row (Addr.mk b8 0 none) v_70 ∧
  Spec prog 27 #[(Value.agg v_68), (Value.agg v_69), (Value.agg v_70)] F fun v F => ∃ v_71 : Array Value, ∃ v_71_1 : Int, v = (Value.tuple #[(Value.agg v_71), (Value.int .i64 v_71_1)]) ∧
  ∀ b20, F b20 = none → atF (F.set b20 (.cells (#[Value.slice none 0 0, Value.int .i64 0]) 28)) fun F =>
  v_71.size = 2 ∧ (∀ v ∈ v_71.toList, storable v) ∧ ∃ c e, F (Addr.mk b20 0 none).block = some (.cells c e (0, 0)) ∧ (Addr.mk b20 0 none).spot = none ∧ (Addr.mk b20 0 none).off + 2 ≤ c.size ∧
  atF (F.set (Addr.mk b20 0 none).block (.cells (wr c (Addr.mk b20 0 none).off v_71.toList) e)) fun F =>
  ((v_46_1 = (0 : Int) →
    ((v_52_1 = (0 : Int) →
      ((v_58_1 = (0 : Int) →
        ((v_64_1 = (0 : Int) →
          b4j1 c_1 v_25 v_37 v_40 v_43 b12 b14 b16 b18 b20 (decide (v_71_1 = (0 : Int))) R F) ∧
        (¬ (v_64_1 = (0 : Int)) →
          b4j1 c_1 v_25 v_37 v_40 v_43 b12 b14 b16 b18 b20 false R F))) ∧
      (¬ (v_58_1 = (0 : Int)) →
        b4j1 c_1 v_25 v_37 v_40 v_43 b12 b14 b16 b18 b20 false R F))) ∧
    (¬ (v_52_1 = (0 : Int)) →
      b4j1 c_1 v_25 v_37 v_40 v_43 b12 b14 b16 b18 b20 false R F))) ∧
  (¬ (v_46_1 = (0 : Int)) →
    b4j1 c_1 v_25 v_37 v_40 v_43 b12 b14 b16 b18 b20 false R F))
def b4d8 (v_34 : Array Value) (b8 : Nat) (b6 : Nat) (b7 : Nat) (c_1 : Int) (v_25 : Bool) (R : Value → PH → Prop) (F : PH) : Prop :=
  v_34.size = 2 ∧ (∀ v ∈ v_34.toList, storable v) ∧ ∃ c e, F (Addr.mk b8 0 none).block = some (.cells c e (0, 0)) ∧ (Addr.mk b8 0 none).spot = none ∧ (Addr.mk b8 0 none).off + 2 ≤ c.size ∧
  atF (F.set (Addr.mk b8 0 none).block (.cells (wr c (Addr.mk b8 0 none).off v_34.toList) e)) fun F =>
  b4d9 b6 b7 b8 c_1 v_25 R F
def b4d7 (v_31 : Array Value) (b7 : Nat) (v_34 : Array Value) (b8 : Nat) (b6 : Nat) (c_1 : Int) (v_25 : Bool) (R : Value → PH → Prop) (F : PH) : Prop :=
  v_31.size = 2 ∧ (∀ v ∈ v_31.toList, storable v) ∧ ∃ c e, F (Addr.mk b7 0 none).block = some (.cells c e (0, 0)) ∧ (Addr.mk b7 0 none).spot = none ∧ (Addr.mk b7 0 none).off + 2 ≤ c.size ∧
  atF (F.set (Addr.mk b7 0 none).block (.cells (wr c (Addr.mk b7 0 none).off v_31.toList) e)) fun F =>
  b4d8 v_34 b8 b6 b7 c_1 v_25 R F
def b4d6 (v_28 : Array Value) (b6 : Nat) (v_31 : Array Value) (b7 : Nat) (v_34 : Array Value) (b8 : Nat) (c_1 : Int) (v_25 : Bool) (R : Value → PH → Prop) (F : PH) : Prop :=
  v_28.size = 2 ∧ (∀ v ∈ v_28.toList, storable v) ∧ ∃ c e, F (Addr.mk b6 0 none).block = some (.cells c e (0, 0)) ∧ (Addr.mk b6 0 none).spot = none ∧ (Addr.mk b6 0 none).off + 2 ≤ c.size ∧
  atF (F.set (Addr.mk b6 0 none).block (.cells (wr c (Addr.mk b6 0 none).off v_28.toList) e)) fun F =>
  b4d7 v_31 b7 v_34 b8 b6 c_1 v_25 R F
def b4d5 (v_28 : Array Value) (b6 : Nat) (v_31 : Array Value) (b7 : Nat) (v_34 : Array Value) (c_1 : Int) (v_25 : Bool) (R : Value → PH → Prop) (F : PH) : Prop :=
  ∀ b8, F b8 = none → atF (F.set b8 (.cells (#[Value.slice none 0 0, Value.int .i64 0]) 28)) fun F =>
  b4d6 v_28 b6 v_31 b7 v_34 b8 c_1 v_25 R F
def b4d10 (v_28 : Array Value) (b6 : Nat) (v_31 : Array Value) (v_34 : Array Value) (b8_1 : Nat) (c_1 : Int) (v_25 : Bool) (R : Value → PH → Prop) (F : PH) : Prop :=
  ∀ b7_1, F b7_1 = none → atF (F.set b7_1 (.cells (#[Value.slice none 0 0, Value.int .i64 0]) 28)) fun F =>
  b4d6 v_28 b6 v_31 b7_1 v_34 b8_1 c_1 v_25 R F
def b4d4 (v_28 : Array Value) (b6 : Nat) (v_31 : Array Value) (v_34 : Array Value) (c_1 : Int) (v_25 : Bool) (R : Value → PH → Prop) (F : PH) : Prop :=
  ((∀ b7, F b7 = none → atF (F.set b7 (.cells (#[Value.slice none 0 0, Value.int .i64 0]) 28)) fun F =>
  b4d5 v_28 b6 v_31 b7 v_34 c_1 v_25 R F) ∧
  (∀ b8_1, F b8_1 = none → atF (F.set b8_1 (.cells (#[Value.slice none 0 0, Value.int .i64 0]) 28)) fun F =>
  b4d10 v_28 b6 v_31 v_34 b8_1 c_1 v_25 R F))
def b4d12 (v_28 : Array Value) (v_31 : Array Value) (b7_2 : Nat) (v_34 : Array Value) (b8_2 : Nat) (c_1 : Int) (v_25 : Bool) (R : Value → PH → Prop) (F : PH) : Prop :=
  ∀ b6_2, F b6_2 = none → atF (F.set b6_2 (.cells (#[Value.slice none 0 0, Value.int .i64 0]) 28)) fun F =>
  b4d6 v_28 b6_2 v_31 b7_2 v_34 b8_2 c_1 v_25 R F
def b4d11 (v_28 : Array Value) (v_31 : Array Value) (b7_2 : Nat) (v_34 : Array Value) (c_1 : Int) (v_25 : Bool) (R : Value → PH → Prop) (F : PH) : Prop :=
  ((∀ b6_1, F b6_1 = none → atF (F.set b6_1 (.cells (#[Value.slice none 0 0, Value.int .i64 0]) 28)) fun F =>
  b4d5 v_28 b6_1 v_31 b7_2 v_34 c_1 v_25 R F) ∧
  (∀ b8_2, F b8_2 = none → atF (F.set b8_2 (.cells (#[Value.slice none 0 0, Value.int .i64 0]) 28)) fun F =>
  b4d12 v_28 v_31 b7_2 v_34 b8_2 c_1 v_25 R F))
def b4d13 (v_28 : Array Value) (v_31 : Array Value) (v_34 : Array Value) (b8_3 : Nat) (c_1 : Int) (v_25 : Bool) (R : Value → PH → Prop) (F : PH) : Prop :=
  ((∀ b6_3, F b6_3 = none → atF (F.set b6_3 (.cells (#[Value.slice none 0 0, Value.int .i64 0]) 28)) fun F =>
  b4d10 v_28 b6_3 v_31 v_34 b8_3 c_1 v_25 R F) ∧
  (∀ b7_3, F b7_3 = none → atF (F.set b7_3 (.cells (#[Value.slice none 0 0, Value.int .i64 0]) 28)) fun F =>
  b4d12 v_28 v_31 b7_3 v_34 b8_3 c_1 v_25 R F))
def b4d3 (v_28 : Array Value) (v_31 : Array Value) (v_34 : Array Value) (c_1 : Int) (v_25 : Bool) (R : Value → PH → Prop) (F : PH) : Prop :=
  ((∀ b6, F b6 = none → atF (F.set b6 (.cells (#[Value.slice none 0 0, Value.int .i64 0]) 28)) fun F =>
  b4d4 v_28 b6 v_31 v_34 c_1 v_25 R F) ∧
  (∀ b7_2, F b7_2 = none → atF (F.set b7_2 (.cells (#[Value.slice none 0 0, Value.int .i64 0]) 28)) fun F =>
  b4d11 v_28 v_31 b7_2 v_34 c_1 v_25 R F) ∧
  (∀ b8_3, F b8_3 = none → atF (F.set b8_3 (.cells (#[Value.slice none 0 0, Value.int .i64 0]) 28)) fun F =>
  b4d13 v_28 v_31 v_34 b8_3 c_1 v_25 R F))
def b4d16 (v_33 : Array Value) (v_28 : Array Value) (b6_4 : Nat) (v_31 : Array Value) (b7_4 : Nat) (b8_4 : Nat) (c_1 : Int) (v_25 : Bool) (R : Value → PH → Prop) (F : PH) : Prop :=
  Spec prog 16 #[(Value.agg v_33)] F fun v F => ∃ v_34_3 : Array Value, v = (Value.agg v_34_3) ∧
  b4d6 v_28 b6_4 v_31 b7_4 v_34_3 b8_4 c_1 v_25 R F
def b4d15 (v_33 : Array Value) (v_28 : Array Value) (b6_4 : Nat) (v_31 : Array Value) (b7_4 : Nat) (c_1 : Int) (v_25 : Bool) (R : Value → PH → Prop) (F : PH) : Prop :=
  ((Spec prog 16 #[(Value.agg v_33)] F fun v F => ∃ v_34_2 : Array Value, v = (Value.agg v_34_2) ∧
  b4d5 v_28 b6_4 v_31 b7_4 v_34_2 c_1 v_25 R F) ∧
  (∀ b8_4, F b8_4 = none → atF (F.set b8_4 (.cells (#[Value.slice none 0 0, Value.int .i64 0]) 28)) fun F =>
  b4d16 v_33 v_28 b6_4 v_31 b7_4 b8_4 c_1 v_25 R F))
def b4d17 (v_33 : Array Value) (v_28 : Array Value) (b6_4 : Nat) (v_31 : Array Value) (b8_5 : Nat) (c_1 : Int) (v_25 : Bool) (R : Value → PH → Prop) (F : PH) : Prop :=
  ((Spec prog 16 #[(Value.agg v_33)] F fun v F => ∃ v_34_4 : Array Value, v = (Value.agg v_34_4) ∧
  b4d10 v_28 b6_4 v_31 v_34_4 b8_5 c_1 v_25 R F) ∧
  (∀ b7_5, F b7_5 = none → atF (F.set b7_5 (.cells (#[Value.slice none 0 0, Value.int .i64 0]) 28)) fun F =>
  b4d16 v_33 v_28 b6_4 v_31 b7_5 b8_5 c_1 v_25 R F))
def b4d14 (v_33 : Array Value) (v_28 : Array Value) (b6_4 : Nat) (v_31 : Array Value) (c_1 : Int) (v_25 : Bool) (R : Value → PH → Prop) (F : PH) : Prop :=
  ((Spec prog 16 #[(Value.agg v_33)] F fun v F => ∃ v_34_1 : Array Value, v = (Value.agg v_34_1) ∧
  b4d4 v_28 b6_4 v_31 v_34_1 c_1 v_25 R F) ∧
  (∀ b7_4, F b7_4 = none → atF (F.set b7_4 (.cells (#[Value.slice none 0 0, Value.int .i64 0]) 28)) fun F =>
  b4d15 v_33 v_28 b6_4 v_31 b7_4 c_1 v_25 R F) ∧
  (∀ b8_5, F b8_5 = none → atF (F.set b8_5 (.cells (#[Value.slice none 0 0, Value.int .i64 0]) 28)) fun F =>
  b4d17 v_33 v_28 b6_4 v_31 b8_5 c_1 v_25 R F))
def b4d19 (v_33 : Array Value) (v_28 : Array Value) (v_31 : Array Value) (b7_6 : Nat) (b8_6 : Nat) (c_1 : Int) (v_25 : Bool) (R : Value → PH → Prop) (F : PH) : Prop :=
  ((Spec prog 16 #[(Value.agg v_33)] F fun v F => ∃ v_34_6 : Array Value, v = (Value.agg v_34_6) ∧
  b4d12 v_28 v_31 b7_6 v_34_6 b8_6 c_1 v_25 R F) ∧
  (∀ b6_6, F b6_6 = none → atF (F.set b6_6 (.cells (#[Value.slice none 0 0, Value.int .i64 0]) 28)) fun F =>
  b4d16 v_33 v_28 b6_6 v_31 b7_6 b8_6 c_1 v_25 R F))
def b4d18 (v_33 : Array Value) (v_28 : Array Value) (v_31 : Array Value) (b7_6 : Nat) (c_1 : Int) (v_25 : Bool) (R : Value → PH → Prop) (F : PH) : Prop :=
  ((Spec prog 16 #[(Value.agg v_33)] F fun v F => ∃ v_34_5 : Array Value, v = (Value.agg v_34_5) ∧
  b4d11 v_28 v_31 b7_6 v_34_5 c_1 v_25 R F) ∧
  (∀ b6_5, F b6_5 = none → atF (F.set b6_5 (.cells (#[Value.slice none 0 0, Value.int .i64 0]) 28)) fun F =>
  b4d15 v_33 v_28 b6_5 v_31 b7_6 c_1 v_25 R F) ∧
  (∀ b8_6, F b8_6 = none → atF (F.set b8_6 (.cells (#[Value.slice none 0 0, Value.int .i64 0]) 28)) fun F =>
  b4d19 v_33 v_28 v_31 b7_6 b8_6 c_1 v_25 R F))
def b4d20 (v_33 : Array Value) (v_28 : Array Value) (v_31 : Array Value) (b8_7 : Nat) (c_1 : Int) (v_25 : Bool) (R : Value → PH → Prop) (F : PH) : Prop :=
  ((Spec prog 16 #[(Value.agg v_33)] F fun v F => ∃ v_34_7 : Array Value, v = (Value.agg v_34_7) ∧
  b4d13 v_28 v_31 v_34_7 b8_7 c_1 v_25 R F) ∧
  (∀ b6_7, F b6_7 = none → atF (F.set b6_7 (.cells (#[Value.slice none 0 0, Value.int .i64 0]) 28)) fun F =>
  b4d17 v_33 v_28 b6_7 v_31 b8_7 c_1 v_25 R F) ∧
  (∀ b7_7, F b7_7 = none → atF (F.set b7_7 (.cells (#[Value.slice none 0 0, Value.int .i64 0]) 28)) fun F =>
  b4d19 v_33 v_28 v_31 b7_7 b8_7 c_1 v_25 R F))
def b4d2 (v_33 : Array Value) (v_28 : Array Value) (v_31 : Array Value) (c_1 : Int) (v_25 : Bool) (R : Value → PH → Prop) (F : PH) : Prop :=
  ((Spec prog 16 #[(Value.agg v_33)] F fun v F => ∃ v_34 : Array Value, v = (Value.agg v_34) ∧
  b4d3 v_28 v_31 v_34 c_1 v_25 R F) ∧
  (∀ b6_4, F b6_4 = none → atF (F.set b6_4 (.cells (#[Value.slice none 0 0, Value.int .i64 0]) 28)) fun F =>
  b4d14 v_33 v_28 b6_4 v_31 c_1 v_25 R F) ∧
  (∀ b7_6, F b7_6 = none → atF (F.set b7_6 (.cells (#[Value.slice none 0 0, Value.int .i64 0]) 28)) fun F =>
  b4d18 v_33 v_28 v_31 b7_6 c_1 v_25 R F) ∧
  (∀ b8_7, F b8_7 = none → atF (F.set b8_7 (.cells (#[Value.slice none 0 0, Value.int .i64 0]) 28)) fun F =>
  b4d20 v_33 v_28 v_31 b8_7 c_1 v_25 R F))
def b4d23 (v_30 : Array Value) (b2 : Nat) (v_33 : Array Value) (v_28 : Array Value) (b6_8 : Nat) (b7_8 : Nat) (b8_8 : Nat) (c_1 : Int) (v_25 : Bool) (R : Value → PH → Prop) (F : PH) : Prop :=
  Spec prog 16 #[(Value.agg v_30)] F fun v F => ∃ v_31_3 : Array Value, v = (Value.agg v_31_3) ∧
  F.row (Addr.add (Addr.mk b2 0 none) (Int.toNat (2 : Int) * 2)) v_33 ∧ b4d16 v_33 v_28 b6_8 v_31_3 b7_8 b8_8 c_1 v_25 R F
def b4d22 (v_30 : Array Value) (b2 : Nat) (v_33 : Array Value) (v_28 : Array Value) (b6_8 : Nat) (b7_8 : Nat) (c_1 : Int) (v_25 : Bool) (R : Value → PH → Prop) (F : PH) : Prop :=
  ((Spec prog 16 #[(Value.agg v_30)] F fun v F => ∃ v_31_2 : Array Value, v = (Value.agg v_31_2) ∧
  F.row (Addr.add (Addr.mk b2 0 none) (Int.toNat (2 : Int) * 2)) v_33 ∧ b4d15 v_33 v_28 b6_8 v_31_2 b7_8 c_1 v_25 R F) ∧
  (∀ b8_8, F b8_8 = none → atF (F.set b8_8 (.cells (#[Value.slice none 0 0, Value.int .i64 0]) 28)) fun F =>
  b4d23 v_30 b2 v_33 v_28 b6_8 b7_8 b8_8 c_1 v_25 R F))
def b4d24 (v_30 : Array Value) (b2 : Nat) (v_33 : Array Value) (v_28 : Array Value) (b6_8 : Nat) (b8_9 : Nat) (c_1 : Int) (v_25 : Bool) (R : Value → PH → Prop) (F : PH) : Prop :=
  ((Spec prog 16 #[(Value.agg v_30)] F fun v F => ∃ v_31_4 : Array Value, v = (Value.agg v_31_4) ∧
  F.row (Addr.add (Addr.mk b2 0 none) (Int.toNat (2 : Int) * 2)) v_33 ∧ b4d17 v_33 v_28 b6_8 v_31_4 b8_9 c_1 v_25 R F) ∧
  (∀ b7_9, F b7_9 = none → atF (F.set b7_9 (.cells (#[Value.slice none 0 0, Value.int .i64 0]) 28)) fun F =>
  b4d23 v_30 b2 v_33 v_28 b6_8 b7_9 b8_9 c_1 v_25 R F))
def b4d21 (v_30 : Array Value) (b2 : Nat) (v_33 : Array Value) (v_28 : Array Value) (b6_8 : Nat) (c_1 : Int) (v_25 : Bool) (R : Value → PH → Prop) (F : PH) : Prop :=
  ((Spec prog 16 #[(Value.agg v_30)] F fun v F => ∃ v_31_1 : Array Value, v = (Value.agg v_31_1) ∧
  F.row (Addr.add (Addr.mk b2 0 none) (Int.toNat (2 : Int) * 2)) v_33 ∧ b4d14 v_33 v_28 b6_8 v_31_1 c_1 v_25 R F) ∧
  (∀ b7_8, F b7_8 = none → atF (F.set b7_8 (.cells (#[Value.slice none 0 0, Value.int .i64 0]) 28)) fun F =>
  b4d22 v_30 b2 v_33 v_28 b6_8 b7_8 c_1 v_25 R F) ∧
  (∀ b8_9, F b8_9 = none → atF (F.set b8_9 (.cells (#[Value.slice none 0 0, Value.int .i64 0]) 28)) fun F =>
  b4d24 v_30 b2 v_33 v_28 b6_8 b8_9 c_1 v_25 R F))
def b4d26 (v_30 : Array Value) (b2 : Nat) (v_33 : Array Value) (v_28 : Array Value) (b7_10 : Nat) (b8_10 : Nat) (c_1 : Int) (v_25 : Bool) (R : Value → PH → Prop) (F : PH) : Prop :=
  ((Spec prog 16 #[(Value.agg v_30)] F fun v F => ∃ v_31_6 : Array Value, v = (Value.agg v_31_6) ∧
  F.row (Addr.add (Addr.mk b2 0 none) (Int.toNat (2 : Int) * 2)) v_33 ∧ b4d19 v_33 v_28 v_31_6 b7_10 b8_10 c_1 v_25 R F) ∧
  (∀ b6_10, F b6_10 = none → atF (F.set b6_10 (.cells (#[Value.slice none 0 0, Value.int .i64 0]) 28)) fun F =>
  b4d23 v_30 b2 v_33 v_28 b6_10 b7_10 b8_10 c_1 v_25 R F))
def b4d25 (v_30 : Array Value) (b2 : Nat) (v_33 : Array Value) (v_28 : Array Value) (b7_10 : Nat) (c_1 : Int) (v_25 : Bool) (R : Value → PH → Prop) (F : PH) : Prop :=
  ((Spec prog 16 #[(Value.agg v_30)] F fun v F => ∃ v_31_5 : Array Value, v = (Value.agg v_31_5) ∧
  F.row (Addr.add (Addr.mk b2 0 none) (Int.toNat (2 : Int) * 2)) v_33 ∧ b4d18 v_33 v_28 v_31_5 b7_10 c_1 v_25 R F) ∧
  (∀ b6_9, F b6_9 = none → atF (F.set b6_9 (.cells (#[Value.slice none 0 0, Value.int .i64 0]) 28)) fun F =>
  b4d22 v_30 b2 v_33 v_28 b6_9 b7_10 c_1 v_25 R F) ∧
  (∀ b8_10, F b8_10 = none → atF (F.set b8_10 (.cells (#[Value.slice none 0 0, Value.int .i64 0]) 28)) fun F =>
  b4d26 v_30 b2 v_33 v_28 b7_10 b8_10 c_1 v_25 R F))
def b4d27 (v_30 : Array Value) (b2 : Nat) (v_33 : Array Value) (v_28 : Array Value) (b8_11 : Nat) (c_1 : Int) (v_25 : Bool) (R : Value → PH → Prop) (F : PH) : Prop :=
  ((Spec prog 16 #[(Value.agg v_30)] F fun v F => ∃ v_31_7 : Array Value, v = (Value.agg v_31_7) ∧
  F.row (Addr.add (Addr.mk b2 0 none) (Int.toNat (2 : Int) * 2)) v_33 ∧ b4d20 v_33 v_28 v_31_7 b8_11 c_1 v_25 R F) ∧
  (∀ b6_11, F b6_11 = none → atF (F.set b6_11 (.cells (#[Value.slice none 0 0, Value.int .i64 0]) 28)) fun F =>
  b4d24 v_30 b2 v_33 v_28 b6_11 b8_11 c_1 v_25 R F) ∧
  (∀ b7_11, F b7_11 = none → atF (F.set b7_11 (.cells (#[Value.slice none 0 0, Value.int .i64 0]) 28)) fun F =>
  b4d26 v_30 b2 v_33 v_28 b7_11 b8_11 c_1 v_25 R F))
def b4d1 (v_30 : Array Value) (b2 : Nat) (v_33 : Array Value) (v_28 : Array Value) (c_1 : Int) (v_25 : Bool) (R : Value → PH → Prop) (F : PH) : Prop :=
  ((Spec prog 16 #[(Value.agg v_30)] F fun v F => ∃ v_31 : Array Value, v = (Value.agg v_31) ∧
  F.row (Addr.add (Addr.mk b2 0 none) (Int.toNat (2 : Int) * 2)) v_33 ∧ b4d2 v_33 v_28 v_31 c_1 v_25 R F) ∧
  (∀ b6_8, F b6_8 = none → atF (F.set b6_8 (.cells (#[Value.slice none 0 0, Value.int .i64 0]) 28)) fun F =>
  b4d21 v_30 b2 v_33 v_28 b6_8 c_1 v_25 R F) ∧
  (∀ b7_10, F b7_10 = none → atF (F.set b7_10 (.cells (#[Value.slice none 0 0, Value.int .i64 0]) 28)) fun F =>
  b4d25 v_30 b2 v_33 v_28 b7_10 c_1 v_25 R F) ∧
  (∀ b8_11, F b8_11 = none → atF (F.set b8_11 (.cells (#[Value.slice none 0 0, Value.int .i64 0]) 28)) fun F =>
  b4d27 v_30 b2 v_33 v_28 b8_11 c_1 v_25 R F))
def b4d30 (v_27 : Array Value) (b2 : Nat) (v_33 : Array Value) (v_30 : Array Value) (b6_12 : Nat) (b7_12 : Nat) (b8_12 : Nat) (c_1 : Int) (v_25 : Bool) (R : Value → PH → Prop) (F : PH) : Prop :=
  Spec prog 16 #[(Value.agg v_27)] F fun v F => ∃ v_28_3 : Array Value, v = (Value.agg v_28_3) ∧
  F.row (Addr.add (Addr.mk b2 0 none) (Int.toNat (2 : Int) * 2)) v_33 ∧ F.row (Addr.add (Addr.mk b2 0 none) (Int.toNat (1 : Int) * 2)) v_30 ∧ b4d23 v_30 b2 v_33 v_28_3 b6_12 b7_12 b8_12 c_1 v_25 R F
def b4d29 (v_27 : Array Value) (b2 : Nat) (v_33 : Array Value) (v_30 : Array Value) (b6_12 : Nat) (b7_12 : Nat) (c_1 : Int) (v_25 : Bool) (R : Value → PH → Prop) (F : PH) : Prop :=
  ((Spec prog 16 #[(Value.agg v_27)] F fun v F => ∃ v_28_2 : Array Value, v = (Value.agg v_28_2) ∧
  F.row (Addr.add (Addr.mk b2 0 none) (Int.toNat (2 : Int) * 2)) v_33 ∧ F.row (Addr.add (Addr.mk b2 0 none) (Int.toNat (1 : Int) * 2)) v_30 ∧ b4d22 v_30 b2 v_33 v_28_2 b6_12 b7_12 c_1 v_25 R F) ∧
  (∀ b8_12, F b8_12 = none → atF (F.set b8_12 (.cells (#[Value.slice none 0 0, Value.int .i64 0]) 28)) fun F =>
  b4d30 v_27 b2 v_33 v_30 b6_12 b7_12 b8_12 c_1 v_25 R F))
def b4d31 (v_27 : Array Value) (b2 : Nat) (v_33 : Array Value) (v_30 : Array Value) (b6_12 : Nat) (b8_13 : Nat) (c_1 : Int) (v_25 : Bool) (R : Value → PH → Prop) (F : PH) : Prop :=
  ((Spec prog 16 #[(Value.agg v_27)] F fun v F => ∃ v_28_4 : Array Value, v = (Value.agg v_28_4) ∧
  F.row (Addr.add (Addr.mk b2 0 none) (Int.toNat (2 : Int) * 2)) v_33 ∧ F.row (Addr.add (Addr.mk b2 0 none) (Int.toNat (1 : Int) * 2)) v_30 ∧ b4d24 v_30 b2 v_33 v_28_4 b6_12 b8_13 c_1 v_25 R F) ∧
  (∀ b7_13, F b7_13 = none → atF (F.set b7_13 (.cells (#[Value.slice none 0 0, Value.int .i64 0]) 28)) fun F =>
  b4d30 v_27 b2 v_33 v_30 b6_12 b7_13 b8_13 c_1 v_25 R F))
def b4d28 (v_27 : Array Value) (b2 : Nat) (v_33 : Array Value) (v_30 : Array Value) (b6_12 : Nat) (c_1 : Int) (v_25 : Bool) (R : Value → PH → Prop) (F : PH) : Prop :=
  ((Spec prog 16 #[(Value.agg v_27)] F fun v F => ∃ v_28_1 : Array Value, v = (Value.agg v_28_1) ∧
  F.row (Addr.add (Addr.mk b2 0 none) (Int.toNat (2 : Int) * 2)) v_33 ∧ F.row (Addr.add (Addr.mk b2 0 none) (Int.toNat (1 : Int) * 2)) v_30 ∧ b4d21 v_30 b2 v_33 v_28_1 b6_12 c_1 v_25 R F) ∧
  (∀ b7_12, F b7_12 = none → atF (F.set b7_12 (.cells (#[Value.slice none 0 0, Value.int .i64 0]) 28)) fun F =>
  b4d29 v_27 b2 v_33 v_30 b6_12 b7_12 c_1 v_25 R F) ∧
  (∀ b8_13, F b8_13 = none → atF (F.set b8_13 (.cells (#[Value.slice none 0 0, Value.int .i64 0]) 28)) fun F =>
  b4d31 v_27 b2 v_33 v_30 b6_12 b8_13 c_1 v_25 R F))
def b4d33 (v_27 : Array Value) (b2 : Nat) (v_33 : Array Value) (v_30 : Array Value) (b7_14 : Nat) (b8_14 : Nat) (c_1 : Int) (v_25 : Bool) (R : Value → PH → Prop) (F : PH) : Prop :=
  ((Spec prog 16 #[(Value.agg v_27)] F fun v F => ∃ v_28_6 : Array Value, v = (Value.agg v_28_6) ∧
  F.row (Addr.add (Addr.mk b2 0 none) (Int.toNat (2 : Int) * 2)) v_33 ∧ F.row (Addr.add (Addr.mk b2 0 none) (Int.toNat (1 : Int) * 2)) v_30 ∧ b4d26 v_30 b2 v_33 v_28_6 b7_14 b8_14 c_1 v_25 R F) ∧
  (∀ b6_14, F b6_14 = none → atF (F.set b6_14 (.cells (#[Value.slice none 0 0, Value.int .i64 0]) 28)) fun F =>
  b4d30 v_27 b2 v_33 v_30 b6_14 b7_14 b8_14 c_1 v_25 R F))
def b4d32 (v_27 : Array Value) (b2 : Nat) (v_33 : Array Value) (v_30 : Array Value) (b7_14 : Nat) (c_1 : Int) (v_25 : Bool) (R : Value → PH → Prop) (F : PH) : Prop :=
  ((Spec prog 16 #[(Value.agg v_27)] F fun v F => ∃ v_28_5 : Array Value, v = (Value.agg v_28_5) ∧
  F.row (Addr.add (Addr.mk b2 0 none) (Int.toNat (2 : Int) * 2)) v_33 ∧ F.row (Addr.add (Addr.mk b2 0 none) (Int.toNat (1 : Int) * 2)) v_30 ∧ b4d25 v_30 b2 v_33 v_28_5 b7_14 c_1 v_25 R F) ∧
  (∀ b6_13, F b6_13 = none → atF (F.set b6_13 (.cells (#[Value.slice none 0 0, Value.int .i64 0]) 28)) fun F =>
  b4d29 v_27 b2 v_33 v_30 b6_13 b7_14 c_1 v_25 R F) ∧
  (∀ b8_14, F b8_14 = none → atF (F.set b8_14 (.cells (#[Value.slice none 0 0, Value.int .i64 0]) 28)) fun F =>
  b4d33 v_27 b2 v_33 v_30 b7_14 b8_14 c_1 v_25 R F))
def b4d34 (v_27 : Array Value) (b2 : Nat) (v_33 : Array Value) (v_30 : Array Value) (b8_15 : Nat) (c_1 : Int) (v_25 : Bool) (R : Value → PH → Prop) (F : PH) : Prop :=
  ((Spec prog 16 #[(Value.agg v_27)] F fun v F => ∃ v_28_7 : Array Value, v = (Value.agg v_28_7) ∧
  F.row (Addr.add (Addr.mk b2 0 none) (Int.toNat (2 : Int) * 2)) v_33 ∧ F.row (Addr.add (Addr.mk b2 0 none) (Int.toNat (1 : Int) * 2)) v_30 ∧ b4d27 v_30 b2 v_33 v_28_7 b8_15 c_1 v_25 R F) ∧
  (∀ b6_15, F b6_15 = none → atF (F.set b6_15 (.cells (#[Value.slice none 0 0, Value.int .i64 0]) 28)) fun F =>
  b4d31 v_27 b2 v_33 v_30 b6_15 b8_15 c_1 v_25 R F) ∧
  (∀ b7_15, F b7_15 = none → atF (F.set b7_15 (.cells (#[Value.slice none 0 0, Value.int .i64 0]) 28)) fun F =>
  b4d33 v_27 b2 v_33 v_30 b7_15 b8_15 c_1 v_25 R F))
def b4 (l_0 : Array Value) (c_1 : Int) (R : Value → PH → Prop) (F : PH) : Prop :=
  ∀ b2, F b2 = none → atF (F.set b2 (.cells l_0 43)) fun F =>
  Spec prog 15 #[] F fun v F => ∃ v_25 : Bool, v = (Value.bool v_25) ∧
  0 ≤ (0 : Int) ∧ (0 : Int) < (3 : Int) ∧
  ∃ v_27 : Array Value, v_27.size = 2 ∧ F.row (Addr.add (Addr.mk b2 0 none) (Int.toNat (0 : Int) * 2)) v_27 ∧
  0 ≤ (1 : Int) ∧ (1 : Int) < (3 : Int) ∧
  ∃ v_30 : Array Value, v_30.size = 2 ∧ F.row (Addr.add (Addr.mk b2 0 none) (Int.toNat (1 : Int) * 2)) v_30 ∧
  0 ≤ (2 : Int) ∧ (2 : Int) < (3 : Int) ∧
  ∃ v_33 : Array Value, v_33.size = 2 ∧ F.row (Addr.add (Addr.mk b2 0 none) (Int.toNat (2 : Int) * 2)) v_33 ∧
  ((Spec prog 16 #[(Value.agg v_27)] F fun v F => ∃ v_28 : Array Value, v = (Value.agg v_28) ∧
  F.row (Addr.add (Addr.mk b2 0 none) (Int.toNat (2 : Int) * 2)) v_33 ∧ F.row (Addr.add (Addr.mk b2 0 none) (Int.toNat (1 : Int) * 2)) v_30 ∧ b4d1 v_30 b2 v_33 v_28 c_1 v_25 R F) ∧
  (∀ b6_12, F b6_12 = none → atF (F.set b6_12 (.cells (#[Value.slice none 0 0, Value.int .i64 0]) 28)) fun F =>
  b4d28 v_27 b2 v_33 v_30 b6_12 c_1 v_25 R F) ∧
  (∀ b7_14, F b7_14 = none → atF (F.set b7_14 (.cells (#[Value.slice none 0 0, Value.int .i64 0]) 28)) fun F =>
  b4d32 v_27 b2 v_33 v_30 b7_14 c_1 v_25 R F) ∧
  (∀ b8_15, F b8_15 = none → atF (F.set b8_15 (.cells (#[Value.slice none 0 0, Value.int .i64 0]) 28)) fun F =>
  b4d34 v_27 b2 v_33 v_30 b8_15 c_1 v_25 R F))
theorem c4 {l_0 : Array Value} {c_1 : Int} {R : Value → PH → Prop} {F : PH} (h : b4 l_0 c_1 R F) : Spec prog 4 #[(Value.agg l_0), (Value.int .u64 c_1)] F R := by
  refine spec_of (args := [(Value.agg l_0), (Value.int .u64 c_1)]) func4 rfl ntmps4 rfl ?_
  unfold b4 at h
  refine HC_seq ?_
  refine HC_region ?_
  refine s_ef (k_box (cs := l_0) rfl rfl ?_)
  intro b2 hf_b2
  replace h := atE (h b2 hf_b2)
  refine s_rd (v := (Value.bool false)) (r_assign rfl rfl) ?_
  refine HL_nil ?_
  refine HC_seq ?_
  refine HC_region ?_
  refine s_ef (k_call (vs := []) cb15 evN (h.mono ?_))
  clear h; rintro v F ⟨v_25, rfl, h⟩
  refine s_rd (v := (Value.bool v_25)) (r_assign rfl rfl) ?_
  refine HL_nil ?_
  refine HC_seq ?_
  refine HC_draw0 (by kernel_rfl) (fun hp => ?_)
  refine RG_share (A := (Nat) × (Nat) × (Nat)) (fun a E F => match a with | (b6, b7, b8) => E 1 = (Value.int .u64 c_1) ∧ E 5 = (Value.bool v_25) ∧ E 6 = (Value.pointer (some (Addr.mk b6 0 none))) ∧ E 7 = (Value.pointer (some (Addr.mk b7 0 none))) ∧ E 8 = (Value.pointer (some (Addr.mk b8 0 none))) ∧ b4d9 b6 b7 b8 c_1 v_25 R F ∧ holdF [] F) 0 #[true, true, true, true, true, true, true, true, true, true, true, true, true, true, true] (fun a => match a with | (b6, b7, b8) => []) ?_ (fun hD9 => ?_)
  · clear h hp; rintro ⟨b6, b7, b8⟩ E F ⟨h1, h5, h6, h7, h8, h, hp⟩
    unfold b4d9 at h
    refine RG_done (by kernel_rfl) ?_
    refine HC_seq ?_
    refine HC_draw0 (by kernel_rfl) (fun hp => ?_)
    obtain ⟨v_35, hs35, hc35, h⟩ := h
    refine g_rd (i := 0) (v := (Value.agg v_35)) rfl (by kernel_rfl) (by kernel_rfl) (by kernel_rfl) (fun _ _ _ h => h) (w_loadN h6 underlying28 rfl sz28 hs35 hc35) hp (fun S0 q0 => ?_)
    replace hp := holdC (i := 0) (q0 _ (w_loadN h6 underlying28 rfl sz28 hs35 hc35)) hp
    refine g_pu (i := 1) (v := (Value.int .u64 c_1)) rfl (by kernel_rfl) (by kernel_rfl) (by kernel_rfl) (fun _ _ _ h => h) (fun _ => r_move rfl h1) hp ?_
    obtain ⟨v_38, hs38, hc38, h⟩ := h
    refine g_rd (i := 3) (v := (Value.agg v_38)) rfl (by kernel_rfl) (by kernel_rfl) (by kernel_rfl) (fun _ _ _ h => h) (w_loadN h7 underlying28 rfl sz28 hs38 hc38) hp (fun S3 q3 => ?_)
    replace hp := holdC (i := 3) (q3 _ (w_loadN h7 underlying28 rfl sz28 hs38 hc38)) hp
    refine g_pu (i := 4) (v := (Value.int .u64 c_1)) rfl (by kernel_rfl) (by kernel_rfl) (by kernel_rfl) (fun _ _ _ h => h) (fun _ => r_move rfl h1) hp ?_
    obtain ⟨v_41, hs41, hc41, h⟩ := h
    refine g_rd (i := 6) (v := (Value.agg v_41)) rfl (by kernel_rfl) (by kernel_rfl) (by kernel_rfl) (fun _ _ _ h => h) (w_loadN h8 underlying28 rfl sz28 hs41 hc41) hp (fun S6 q6 => ?_)
    replace hp := holdC (i := 6) (q6 _ (w_loadN h8 underlying28 rfl sz28 hs41 hc41)) hp
    refine g_pu (i := 7) (v := (Value.int .u64 c_1)) rfl (by kernel_rfl) (by kernel_rfl) (by kernel_rfl) (fun _ _ _ h => h) (fun _ => r_move rfl h1) hp ?_
    refine RG_eff1 (i := 2) (by kernel_rfl) (g_op (Sp' := [(6, S6), (3, S3)]) rfl rfl (k_call (vs := [(Value.agg v_35), (Value.int .u64 c_1)]) cb21 (evC rfl (evC rfl evN)) (h.mono ?_)))
    clear h; rintro v F ⟨v_37, rfl, h⟩
    obtain ⟨hk_79, hk_80, h⟩ := h
    refine holdI (holdC (i := 6) (q6 _ (w_loadN h8 underlying28 rfl sz28 hs41 hk_79)) (holdC (i := 3) (q3 _ (w_loadN h7 underlying28 rfl sz28 hs38 hk_80)) hold0)) (fun hp => ?_)
    refine RG_eff1 (i := 5) (by kernel_rfl) (g_op (Sp' := [(6, S6)]) rfl rfl (k_call (vs := [(Value.agg v_38), (Value.int .u64 c_1)]) cb21 (evC rfl (evC rfl evN)) (h.mono ?_)))
    clear h; rintro v F ⟨v_40, rfl, h⟩
    obtain ⟨hk_81, h⟩ := h
    refine holdI (holdC (i := 6) (q6 _ (w_loadN h8 underlying28 rfl sz28 hs41 hk_81)) hold0) (fun hp => ?_)
    refine RG_eff1 (i := 8) (by kernel_rfl) (g_op (Sp' := []) rfl rfl (k_call (vs := [(Value.agg v_41), (Value.int .u64 c_1)]) cb21 (evC rfl (evC rfl evN)) (h.mono ?_)))
    clear h; rintro v F ⟨v_43, rfl, h⟩
    refine holdI hold0 (fun hp => ?_)
    refine g_pu (i := 9) (v := (Value.bool v_37)) rfl (by kernel_rfl) (by kernel_rfl) (by kernel_rfl) (fun _ _ _ h => h) (fun _ => r_assign rfl rfl) hp ?_
    refine g_pu (i := 10) (v := (Value.bool v_40)) rfl (by kernel_rfl) (by kernel_rfl) (by kernel_rfl) (fun _ _ _ h => h) (fun _ => r_assign rfl rfl) hp ?_
    refine g_pu (i := 11) (v := (Value.bool v_43)) rfl (by kernel_rfl) (by kernel_rfl) (by kernel_rfl) (fun _ _ _ h => h) (fun _ => r_assign rfl rfl) hp ?_
    refine RG_done (by kernel_rfl) ?_
    refine HC_seq ?_
    refine HC_region ?_
    obtain ⟨v_45, hs45, hc45, h⟩ := h
    refine s_rd (v := (Value.agg v_45)) (w_loadN h6 underlying28 rfl sz28 hs45 hc45) ?_
    refine s_ef (k_call (vs := [(Value.agg v_45)]) cb25 (evC rfl evN) (h.mono ?_))
    clear h; rintro v F ⟨v_46, v_46_1, rfl, h⟩
    refine s_rd (v := (Value.tuple #[(Value.agg v_46), (Value.int .i64 v_46_1)])) (r_move rfl rfl) ?_
    refine s_rd (v := (Value.agg v_46)) (r_extract rfl rfl rfl) ?_
    refine s_rd (v := (Value.int .i64 v_46_1)) (r_extract rfl rfl rfl) ?_
    refine s_ef (k_alloc zr28 ?_)
    intro b12 hf_b12
    replace h := atE (h b12 hf_b12)
    refine s_ef0 (k_storeN (vs := v_46) rfl rfl sz28 (by decide) ?_)
    obtain ⟨hz1, hz2, c, e, hz3, hz4, hz5, h⟩ := h
    refine ⟨hz1, hz2, c, e, hz3, hz4, hz5, ?_⟩
    replace h := atE h
    refine s_rd (v := (Value.int .i64 v_46_1)) (r_assign rfl rfl) ?_
    refine HL_nil ?_
    refine HC_seq ?_
    refine HC_region ?_
    obtain ⟨v_50, hs50, hc50, h⟩ := h
    refine s_rd (v := (Value.agg v_50)) (w_loadN h6 underlying28 rfl sz28 hs50 hc50) ?_
    obtain ⟨v_51, hs51, hc51, h⟩ := h
    refine s_rd (v := (Value.agg v_51)) (w_loadN h7 underlying28 rfl sz28 hs51 hc51) ?_
    refine s_ef (k_call (vs := [(Value.agg v_50), (Value.agg v_51)]) cb19 (evC rfl (evC rfl evN)) (h.mono ?_))
    clear h; rintro v F ⟨v_52, v_52_1, rfl, h⟩
    refine s_rd (v := (Value.tuple #[(Value.agg v_52), (Value.int .i64 v_52_1)])) (r_move rfl rfl) ?_
    refine s_rd (v := (Value.agg v_52)) (r_extract rfl rfl rfl) ?_
    refine s_rd (v := (Value.int .i64 v_52_1)) (r_extract rfl rfl rfl) ?_
    refine s_ef (k_alloc zr28 ?_)
    intro b14 hf_b14
    replace h := atE (h b14 hf_b14)
    refine s_ef0 (k_storeN (vs := v_52) rfl rfl sz28 (by decide) ?_)
    obtain ⟨hz1, hz2, c, e, hz3, hz4, hz5, h⟩ := h
    refine ⟨hz1, hz2, c, e, hz3, hz4, hz5, ?_⟩
    replace h := atE h
    refine s_rd (v := (Value.int .i64 v_52_1)) (r_assign rfl rfl) ?_
    refine HL_nil ?_
    refine HC_seq ?_
    refine HC_region ?_
    obtain ⟨v_56, hs56, hc56, h⟩ := h
    refine s_rd (v := (Value.agg v_56)) (w_loadN h6 underlying28 rfl sz28 hs56 hc56) ?_
    obtain ⟨v_57, hs57, hc57, h⟩ := h
    refine s_rd (v := (Value.agg v_57)) (w_loadN h7 underlying28 rfl sz28 hs57 hc57) ?_
    refine s_ef (k_call (vs := [(Value.agg v_56), (Value.agg v_57)]) cb22 (evC rfl (evC rfl evN)) (h.mono ?_))
    clear h; rintro v F ⟨v_58, v_58_1, rfl, h⟩
    refine s_rd (v := (Value.tuple #[(Value.agg v_58), (Value.int .i64 v_58_1)])) (r_move rfl rfl) ?_
    refine s_rd (v := (Value.agg v_58)) (r_extract rfl rfl rfl) ?_
    refine s_rd (v := (Value.int .i64 v_58_1)) (r_extract rfl rfl rfl) ?_
    refine s_ef (k_alloc zr28 ?_)
    intro b16 hf_b16
    replace h := atE (h b16 hf_b16)
    refine s_ef0 (k_storeN (vs := v_58) rfl rfl sz28 (by decide) ?_)
    obtain ⟨hz1, hz2, c, e, hz3, hz4, hz5, h⟩ := h
    refine ⟨hz1, hz2, c, e, hz3, hz4, hz5, ?_⟩
    replace h := atE h
    refine s_rd (v := (Value.int .i64 v_58_1)) (r_assign rfl rfl) ?_
    refine HL_nil ?_
    refine HC_seq ?_
    refine HC_region ?_
    obtain ⟨v_62, hs62, hc62, h⟩ := h
    refine s_rd (v := (Value.agg v_62)) (w_loadN h6 underlying28 rfl sz28 hs62 hc62) ?_
    obtain ⟨v_63, hs63, hc63, h⟩ := h
    refine s_rd (v := (Value.agg v_63)) (w_loadN h7 underlying28 rfl sz28 hs63 hc63) ?_
    refine s_ef (k_call (vs := [(Value.agg v_62), (Value.agg v_63)]) cb26 (evC rfl (evC rfl evN)) (h.mono ?_))
    clear h; rintro v F ⟨v_64, v_64_1, rfl, h⟩
    refine s_rd (v := (Value.tuple #[(Value.agg v_64), (Value.int .i64 v_64_1)])) (r_move rfl rfl) ?_
    refine s_rd (v := (Value.agg v_64)) (r_extract rfl rfl rfl) ?_
    refine s_rd (v := (Value.int .i64 v_64_1)) (r_extract rfl rfl rfl) ?_
    refine s_ef (k_alloc zr28 ?_)
    intro b18 hf_b18
    replace h := atE (h b18 hf_b18)
    refine s_ef0 (k_storeN (vs := v_64) rfl rfl sz28 (by decide) ?_)
    obtain ⟨hz1, hz2, c, e, hz3, hz4, hz5, h⟩ := h
    refine ⟨hz1, hz2, c, e, hz3, hz4, hz5, ?_⟩
    replace h := atE h
    refine s_rd (v := (Value.int .i64 v_64_1)) (r_assign rfl rfl) ?_
    refine HL_nil ?_
    refine HC_seq ?_
    refine HC_region ?_
    obtain ⟨v_68, hs68, hc68, h⟩ := h
    refine s_rd (v := (Value.agg v_68)) (w_loadN h6 underlying28 rfl sz28 hs68 hc68) ?_
    obtain ⟨v_69, hs69, hc69, h⟩ := h
    refine s_rd (v := (Value.agg v_69)) (w_loadN h7 underlying28 rfl sz28 hs69 hc69) ?_
    obtain ⟨v_70, hs70, hc70, h⟩ := h
    refine s_rd (v := (Value.agg v_70)) (w_loadN h8 underlying28 rfl sz28 hs70 hc70) ?_
    refine s_ef (k_call (vs := [(Value.agg v_68), (Value.agg v_69), (Value.agg v_70)]) cb27 (evC rfl (evC rfl (evC rfl evN))) (h.mono ?_))
    clear h; rintro v F ⟨v_71, v_71_1, rfl, h⟩
    refine s_rd (v := (Value.tuple #[(Value.agg v_71), (Value.int .i64 v_71_1)])) (r_move rfl rfl) ?_
    refine s_rd (v := (Value.agg v_71)) (r_extract rfl rfl rfl) ?_
    refine s_rd (v := (Value.int .i64 v_71_1)) (r_extract rfl rfl rfl) ?_
    refine s_ef (k_alloc zr28 ?_)
    intro b20 hf_b20
    replace h := atE (h b20 hf_b20)
    refine s_ef0 (k_storeN (vs := v_71) rfl rfl sz28 (by decide) ?_)
    obtain ⟨hz1, hz2, c, e, hz3, hz4, hz5, h⟩ := h
    refine ⟨hz1, hz2, c, e, hz3, hz4, hz5, ?_⟩
    replace h := atE h
    refine s_rd (v := (Value.int .i64 v_71_1)) (r_assign rfl rfl) ?_
    refine HL_nil ?_
    refine HC_seqJ (b4J1 c_1 v_25 v_37 v_40 v_43 b12 b14 b16 b18 b20 R) ?_ ?_
    · clear h; rintro E F ⟨codes_22, h1, h5, h9, h10, h11, h12, h14, h16, h18, h20, h22, h⟩
      unfold b4j1 at h
      refine HC_seq ?_
      refine HC_region ?_
      refine s_rd (v := (Value.bool v_43)) (r_move rfl h11) ?_
      refine s_rd (v := (Value.bool v_43)) (r_assign rfl rfl) ?_
      refine HL_nil ?_
      refine HC_seqJ (b4J2 c_1 v_25 v_37 v_40 b12 b14 b16 b18 b20 codes_22 R) ?_ ?_
      · clear h; rintro E F ⟨chosen_23, h1, h5, h9, h10, h12, h14, h16, h18, h20, h22, h23, h⟩
        unfold b4j2 at h
        refine HC_seqJ (b4J3 c_1 v_25 v_37 b12 b20 codes_22 chosen_23 R) ?_ ?_
        · clear h; rintro E F ⟨pairs_24, h1, h5, h9, h12, h20, h22, h23, h24, h⟩
          unfold b4j3 at h
          refine HC_seq ?_
          refine HC_region ?_
          refine s_rd (v := (Value.bool codes_22)) (r_move rfl h22) ?_
          refine s_rd (v := (Value.bool codes_22)) (r_move rfl rfl) ?_
          by_cases hc : codes_22 = true
          · replace h := h.1 hc
            refine HL_known (t := 22) (v := .bool true) (h22.trans (congrArg Value.bool hc)) ?_
            refine HL_known (t := 122) (v := .bool true) (congrArg Value.bool hc) ?_
            refine HL_known (t := 123) (v := .bool true) (congrArg Value.bool hc) ?_
            refine s_rd (v := (Value.bool pairs_24)) (r_move rfl h24) ?_
            refine s_rd (v := (Value.bool pairs_24)) (r_pick rfl rfl (fun _ => rfl) (fun h => by cases h)) ?_
            refine s_rd (v := (Value.bool pairs_24)) (r_move rfl rfl) ?_
            by_cases hc : pairs_24 = true
            · replace h := h.1 hc
              refine HL_known (t := 24) (v := .bool true) (h24.trans (congrArg Value.bool hc)) ?_
              refine HL_known (t := 124) (v := .bool true) (congrArg Value.bool hc) ?_
              refine HL_known (t := 125) (v := .bool true) (congrArg Value.bool hc) ?_
              refine HL_known (t := 126) (v := .bool true) (congrArg Value.bool hc) ?_
              obtain ⟨v_127, hs127, hc127, h⟩ := h
              refine s_rd (v := (Value.agg v_127)) (w_loadN h12 underlying28 rfl sz28 hs127 hc127) ?_
              refine s_rd (v := (Value.int .u64 c_1)) (r_move rfl h1) ?_
              refine s_ef (k_call (vs := [(Value.agg v_127), (Value.int .u64 c_1)]) cb21 (evC rfl (evC rfl evN)) (h.mono ?_))
              clear h; rintro v F ⟨v_129, rfl, h⟩
              refine s_rd (v := (Value.bool v_37)) (r_move rfl h9) ?_
              refine s_rd (v := (Value.bool (!v_37))) (r_not rfl rfl) ?_
              refine s_rd (v := (Value.bool (v_129 == (!v_37)))) (r_eqlB rfl rfl rfl underlying4) ?_
              refine s_rd (v := (Value.bool (v_129 == (!v_37)))) (r_pick rfl rfl (fun _ => rfl) (fun h => by cases h)) ?_
              refine s_rd (v := (Value.bool (v_129 == (!v_37)))) (r_move rfl rfl) ?_
              by_cases hc : (v_129 == (!v_37)) = true
              · replace h := h.1 hc
                refine HL_known (t := 132) (v := .bool true) (congrArg Value.bool hc) ?_
                refine HL_known (t := 133) (v := .bool true) (congrArg Value.bool hc) ?_
                refine HL_known (t := 134) (v := .bool true) (congrArg Value.bool hc) ?_
                obtain ⟨v_135, hs135, hc135, h⟩ := h
                refine s_rd (v := (Value.agg v_135)) (w_loadN h20 underlying28 rfl sz28 hs135 hc135) ?_
                refine s_rd (v := (Value.int .u64 c_1)) (r_move rfl h1) ?_
                refine s_ef (k_call (vs := [(Value.agg v_135), (Value.int .u64 c_1)]) cb21 (evC rfl (evC rfl evN)) (h.mono ?_))
                clear h; rintro v F ⟨v_137, rfl, h⟩
                refine s_rd (v := (Value.bool chosen_23)) (r_move rfl h23) ?_
                refine s_rd (v := (Value.bool (v_137 == chosen_23))) (r_eqlB rfl rfl rfl underlying4) ?_
                refine s_rd (v := (Value.bool (v_137 == chosen_23))) (r_pick rfl rfl (fun _ => rfl) (fun h => by cases h)) ?_
                refine s_rd (v := (Value.bool (v_137 == chosen_23))) (r_move rfl rfl) ?_
                by_cases hc : (v_137 == chosen_23) = true
                · replace h := h.1 hc
                  refine HL_known (t := 139) (v := .bool true) (congrArg Value.bool hc) ?_
                  refine HL_known (t := 140) (v := .bool true) (congrArg Value.bool hc) ?_
                  refine HL_known (t := 141) (v := .bool true) (congrArg Value.bool hc) ?_
                  refine s_rd (v := (Value.bool v_25)) (r_move rfl h5) ?_
                  refine s_rd (v := (Value.bool v_25)) (r_pick rfl rfl (fun _ => rfl) (fun h => by cases h)) ?_
                  refine s_rd (v := (Value.bool v_25)) (r_assign rfl rfl) ?_
                  refine HL_nil ?_
                  exact HC_ret (show endQ prog f4 R .ret _ _ from ⟨_, res1 rfl (rv_tmp rfl), h⟩)
                · replace hc := eq_false_of_ne_true hc; replace h := h.2 hc
                  refine HL_known (t := 139) (v := .bool false) (congrArg Value.bool hc) ?_
                  refine HL_known (t := 140) (v := .bool false) (congrArg Value.bool hc) ?_
                  refine HL_known (t := 141) (v := .bool false) (congrArg Value.bool hc) ?_
                  refine s_skip ?_
                  refine s_rd (v := (Value.bool false)) (r_pick rfl rfl (fun h => by cases h) (fun _ => rfl)) ?_
                  refine s_rd (v := (Value.bool false)) (r_assign rfl rfl) ?_
                  refine HL_nil ?_
                  exact HC_ret (show endQ prog f4 R .ret _ _ from ⟨_, res1 rfl (rv_tmp rfl), h⟩)
              · replace hc := eq_false_of_ne_true hc; replace h := h.2 hc
                refine HL_known (t := 132) (v := .bool false) (congrArg Value.bool hc) ?_
                refine HL_known (t := 133) (v := .bool false) (congrArg Value.bool hc) ?_
                refine HL_known (t := 134) (v := .bool false) (congrArg Value.bool hc) ?_
                refine s_skip ?_
                refine s_skip ?_
                refine s_skip ?_
                refine s_skip ?_
                refine s_skip ?_
                refine s_rd (v := (Value.bool false)) (r_pick rfl rfl (fun h => by cases h) (fun _ => rfl)) ?_
                refine s_rd (v := (Value.bool false)) (r_move rfl rfl) ?_
                refine s_skip ?_
                refine s_rd (v := (Value.bool false)) (r_pick rfl rfl (fun h => by cases h) (fun _ => rfl)) ?_
                refine s_rd (v := (Value.bool false)) (r_assign rfl rfl) ?_
                refine HL_nil ?_
                exact HC_ret (show endQ prog f4 R .ret _ _ from ⟨_, res1 rfl (rv_tmp rfl), h⟩)
            · replace hc := eq_false_of_ne_true hc; replace h := h.2 hc
              refine HL_known (t := 24) (v := .bool false) (h24.trans (congrArg Value.bool hc)) ?_
              refine HL_known (t := 124) (v := .bool false) (congrArg Value.bool hc) ?_
              refine HL_known (t := 125) (v := .bool false) (congrArg Value.bool hc) ?_
              refine HL_known (t := 126) (v := .bool false) (congrArg Value.bool hc) ?_
              refine s_skip ?_
              refine s_skip ?_
              refine s_skip ?_
              refine s_skip ?_
              refine s_skip ?_
              refine s_skip ?_
              refine s_rd (v := (Value.bool false)) (r_pick rfl rfl (fun h => by cases h) (fun _ => rfl)) ?_
              refine s_rd (v := (Value.bool false)) (r_move rfl rfl) ?_
              refine s_skip ?_
              refine s_skip ?_
              refine s_skip ?_
              refine s_skip ?_
              refine s_skip ?_
              refine s_rd (v := (Value.bool false)) (r_pick rfl rfl (fun h => by cases h) (fun _ => rfl)) ?_
              refine s_rd (v := (Value.bool false)) (r_move rfl rfl) ?_
              refine s_skip ?_
              refine s_rd (v := (Value.bool false)) (r_pick rfl rfl (fun h => by cases h) (fun _ => rfl)) ?_
              refine s_rd (v := (Value.bool false)) (r_assign rfl rfl) ?_
              refine HL_nil ?_
              exact HC_ret (show endQ prog f4 R .ret _ _ from ⟨_, res1 rfl (rv_tmp rfl), h⟩)
          · replace hc := eq_false_of_ne_true hc; replace h := h.2 hc
            refine HL_known (t := 22) (v := .bool false) (h22.trans (congrArg Value.bool hc)) ?_
            refine HL_known (t := 122) (v := .bool false) (congrArg Value.bool hc) ?_
            refine HL_known (t := 123) (v := .bool false) (congrArg Value.bool hc) ?_
            refine s_skip ?_
            refine s_rd (v := (Value.bool false)) (r_pick rfl rfl (fun h => by cases h) (fun _ => rfl)) ?_
            refine s_rd (v := (Value.bool false)) (r_move rfl rfl) ?_
            refine s_skip ?_
            refine s_skip ?_
            refine s_skip ?_
            refine s_skip ?_
            refine s_skip ?_
            refine s_skip ?_
            refine s_rd (v := (Value.bool false)) (r_pick rfl rfl (fun h => by cases h) (fun _ => rfl)) ?_
            refine s_rd (v := (Value.bool false)) (r_move rfl rfl) ?_
            refine s_skip ?_
            refine s_skip ?_
            refine s_skip ?_
            refine s_skip ?_
            refine s_skip ?_
            refine s_rd (v := (Value.bool false)) (r_pick rfl rfl (fun h => by cases h) (fun _ => rfl)) ?_
            refine s_rd (v := (Value.bool false)) (r_move rfl rfl) ?_
            refine s_skip ?_
            refine s_rd (v := (Value.bool false)) (r_pick rfl rfl (fun h => by cases h) (fun _ => rfl)) ?_
            refine s_rd (v := (Value.bool false)) (r_assign rfl rfl) ?_
            refine HL_nil ?_
            exact HC_ret (show endQ prog f4 R .ret _ _ from ⟨_, res1 rfl (rv_tmp rfl), h⟩)
        · skip
          refine HC_region ?_
          obtain ⟨v_95, hs95, hc95, h⟩ := h
          refine s_rd (v := (Value.agg v_95)) (w_loadN h14 underlying28 rfl sz28 hs95 hc95) ?_
          refine s_rd (v := (Value.int .u64 c_1)) (r_move rfl h1) ?_
          refine s_ef (k_call (vs := [(Value.agg v_95), (Value.int .u64 c_1)]) cb21 (evC rfl (evC rfl evN)) (h.mono ?_))
          clear h; rintro v F ⟨v_97, rfl, h⟩
          refine s_rd (v := (Value.bool v_37)) (r_move rfl h9) ?_
          refine s_rd (v := (Value.bool v_37)) (r_move rfl rfl) ?_
          by_cases hc : v_37 = true
          · replace h := h.1 hc
            refine HL_known (t := 9) (v := .bool true) (h9.trans (congrArg Value.bool hc)) ?_
            refine HL_known (t := 98) (v := .bool true) (congrArg Value.bool hc) ?_
            refine HL_known (t := 99) (v := .bool true) (congrArg Value.bool hc) ?_
            refine s_rd (v := (Value.bool v_40)) (r_move rfl h10) ?_
            refine s_rd (v := (Value.bool v_40)) (r_pick rfl rfl (fun _ => rfl) (fun h => by cases h)) ?_
            refine s_rd (v := (Value.bool (v_97 == v_40))) (r_eqlB rfl rfl rfl underlying4) ?_
            refine s_rd (v := (Value.bool (v_97 == v_40))) (r_move rfl rfl) ?_
            by_cases hc : (v_97 == v_40) = true
            · replace h := h.1 hc
              refine HL_known (t := 102) (v := .bool true) (congrArg Value.bool hc) ?_
              refine HL_known (t := 103) (v := .bool true) (congrArg Value.bool hc) ?_
              obtain ⟨v_104, hs104, hc104, h⟩ := h
              refine s_rd (v := (Value.agg v_104)) (w_loadN h16 underlying28 rfl sz28 hs104 hc104) ?_
              refine s_rd (v := (Value.int .u64 c_1)) (r_move rfl h1) ?_
              refine s_ef (k_call (vs := [(Value.agg v_104), (Value.int .u64 c_1)]) cb21 (evC rfl (evC rfl evN)) (h.mono ?_))
              clear h; rintro v F ⟨v_106, rfl, h⟩
              refine s_rd (v := (Value.bool true)) (r_move rfl rfl) ?_
              refine s_rd (v := (Value.bool true)) (r_move rfl rfl) ?_
              refine s_skip ?_
              refine s_rd (v := (Value.bool true)) (r_pick rfl rfl (fun _ => rfl) (fun h => by cases h)) ?_
              refine s_rd (v := (Value.bool (v_106 == true))) (r_eqlB rfl rfl rfl underlying4) ?_
              refine s_rd (v := (Value.bool (v_106 == true))) (r_pick rfl rfl (fun _ => rfl) (fun h => by cases h)) ?_
              refine s_rd (v := (Value.bool (v_106 == true))) (r_move rfl rfl) ?_
              by_cases hc : (v_106 == true) = true
              · replace h := h.1 hc
                refine HL_known (t := 111) (v := .bool true) (congrArg Value.bool hc) ?_
                refine HL_known (t := 112) (v := .bool true) (congrArg Value.bool hc) ?_
                refine HL_known (t := 113) (v := .bool true) (congrArg Value.bool hc) ?_
                obtain ⟨v_114, hs114, hc114, h⟩ := h
                refine s_rd (v := (Value.agg v_114)) (w_loadN h18 underlying28 rfl sz28 hs114 hc114) ?_
                refine s_rd (v := (Value.int .u64 c_1)) (r_move rfl h1) ?_
                refine s_ef (k_call (vs := [(Value.agg v_114), (Value.int .u64 c_1)]) cb21 (evC rfl (evC rfl evN)) (h.mono ?_))
                clear h; rintro v F ⟨v_116, rfl, h⟩
                refine s_rd (v := (Value.bool true)) (r_move rfl rfl) ?_
                refine s_rd (v := (Value.bool v_40)) (r_move rfl h10) ?_
                refine s_rd (v := (Value.bool (!(true == v_40)))) (r_neqB rfl rfl rfl underlying4) ?_
                refine s_rd (v := (Value.bool (v_116 == (!(true == v_40))))) (r_eqlB rfl rfl rfl underlying4) ?_
                refine s_rd (v := (Value.bool (v_116 == (!(true == v_40))))) (r_pick rfl rfl (fun _ => rfl) (fun h => by cases h)) ?_
                refine s_rd (v := (Value.bool (v_116 == (!(true == v_40))))) (r_assign rfl rfl) ?_
                refine HL_nil ?_
                show b4J3 c_1 v_25 v_37 b12 b20 codes_22 chosen_23 R _ _
                exact ⟨_, h1, h5, (by exact (congrArg Value.bool (by assumption)).symm), h12, h20, h22, h23, rfl, h⟩
              · replace hc := eq_false_of_ne_true hc; replace h := h.2 hc
                refine HL_known (t := 111) (v := .bool false) (congrArg Value.bool hc) ?_
                refine HL_known (t := 112) (v := .bool false) (congrArg Value.bool hc) ?_
                refine HL_known (t := 113) (v := .bool false) (congrArg Value.bool hc) ?_
                refine s_skip ?_
                refine s_skip ?_
                refine s_skip ?_
                refine s_skip ?_
                refine s_skip ?_
                refine s_skip ?_
                refine s_skip ?_
                refine s_rd (v := (Value.bool false)) (r_pick rfl rfl (fun h => by cases h) (fun _ => rfl)) ?_
                refine s_rd (v := (Value.bool false)) (r_assign rfl rfl) ?_
                refine HL_nil ?_
                show b4J3 c_1 v_25 v_37 b12 b20 codes_22 chosen_23 R _ _
                exact ⟨_, h1, h5, (by exact (congrArg Value.bool (by assumption)).symm), h12, h20, h22, h23, rfl, h⟩
            · replace hc := eq_false_of_ne_true hc; replace h := h.2 hc
              refine HL_known (t := 102) (v := .bool false) (congrArg Value.bool hc) ?_
              refine HL_known (t := 103) (v := .bool false) (congrArg Value.bool hc) ?_
              refine s_skip ?_
              refine s_skip ?_
              refine s_skip ?_
              refine s_skip ?_
              refine s_skip ?_
              refine s_skip ?_
              refine s_skip ?_
              refine s_skip ?_
              refine s_rd (v := (Value.bool false)) (r_pick rfl rfl (fun h => by cases h) (fun _ => rfl)) ?_
              refine s_rd (v := (Value.bool false)) (r_move rfl rfl) ?_
              refine s_skip ?_
              refine s_skip ?_
              refine s_skip ?_
              refine s_skip ?_
              refine s_skip ?_
              refine s_skip ?_
              refine s_skip ?_
              refine s_rd (v := (Value.bool false)) (r_pick rfl rfl (fun h => by cases h) (fun _ => rfl)) ?_
              refine s_rd (v := (Value.bool false)) (r_assign rfl rfl) ?_
              refine HL_nil ?_
              show b4J3 c_1 v_25 v_37 b12 b20 codes_22 chosen_23 R _ _
              exact ⟨_, h1, h5, (by exact (congrArg Value.bool (by assumption)).symm), h12, h20, h22, h23, rfl, h⟩
          · replace hc := eq_false_of_ne_true hc; replace h := h.2 hc
            refine HL_known (t := 9) (v := .bool false) (h9.trans (congrArg Value.bool hc)) ?_
            refine HL_known (t := 98) (v := .bool false) (congrArg Value.bool hc) ?_
            refine HL_known (t := 99) (v := .bool false) (congrArg Value.bool hc) ?_
            refine s_skip ?_
            refine s_rd (v := (Value.bool false)) (r_pick rfl rfl (fun h => by cases h) (fun _ => rfl)) ?_
            refine s_rd (v := (Value.bool (v_97 == false))) (r_eqlB rfl rfl rfl underlying4) ?_
            refine s_rd (v := (Value.bool (v_97 == false))) (r_move rfl rfl) ?_
            by_cases hc : (v_97 == false) = true
            · replace h := h.1 hc
              refine HL_known (t := 102) (v := .bool true) (congrArg Value.bool hc) ?_
              refine HL_known (t := 103) (v := .bool true) (congrArg Value.bool hc) ?_
              obtain ⟨v_104_1, hs104, hc104, h⟩ := h
              refine s_rd (v := (Value.agg v_104_1)) (w_loadN h16 underlying28 rfl sz28 hs104 hc104) ?_
              refine s_rd (v := (Value.int .u64 c_1)) (r_move rfl h1) ?_
              refine s_ef (k_call (vs := [(Value.agg v_104_1), (Value.int .u64 c_1)]) cb21 (evC rfl (evC rfl evN)) (h.mono ?_))
              clear h; rintro v F ⟨v_106_1, rfl, h⟩
              refine s_rd (v := (Value.bool false)) (r_move rfl rfl) ?_
              refine s_rd (v := (Value.bool false)) (r_move rfl rfl) ?_
              refine s_rd (v := (Value.bool v_40)) (r_move rfl h10) ?_
              refine s_rd (v := (Value.bool v_40)) (r_pick rfl rfl (fun h => by cases h) (fun _ => rfl)) ?_
              refine s_rd (v := (Value.bool (v_106_1 == v_40))) (r_eqlB rfl rfl rfl underlying4) ?_
              refine s_rd (v := (Value.bool (v_106_1 == v_40))) (r_pick rfl rfl (fun _ => rfl) (fun h => by cases h)) ?_
              refine s_rd (v := (Value.bool (v_106_1 == v_40))) (r_move rfl rfl) ?_
              by_cases hc : (v_106_1 == v_40) = true
              · replace h := h.1 hc
                refine HL_known (t := 111) (v := .bool true) (congrArg Value.bool hc) ?_
                refine HL_known (t := 112) (v := .bool true) (congrArg Value.bool hc) ?_
                refine HL_known (t := 113) (v := .bool true) (congrArg Value.bool hc) ?_
                obtain ⟨v_114_1, hs114, hc114, h⟩ := h
                refine s_rd (v := (Value.agg v_114_1)) (w_loadN h18 underlying28 rfl sz28 hs114 hc114) ?_
                refine s_rd (v := (Value.int .u64 c_1)) (r_move rfl h1) ?_
                refine s_ef (k_call (vs := [(Value.agg v_114_1), (Value.int .u64 c_1)]) cb21 (evC rfl (evC rfl evN)) (h.mono ?_))
                clear h; rintro v F ⟨v_116_1, rfl, h⟩
                refine s_rd (v := (Value.bool false)) (r_move rfl rfl) ?_
                refine s_rd (v := (Value.bool v_40)) (r_move rfl h10) ?_
                refine s_rd (v := (Value.bool (!(false == v_40)))) (r_neqB rfl rfl rfl underlying4) ?_
                refine s_rd (v := (Value.bool (v_116_1 == (!(false == v_40))))) (r_eqlB rfl rfl rfl underlying4) ?_
                refine s_rd (v := (Value.bool (v_116_1 == (!(false == v_40))))) (r_pick rfl rfl (fun _ => rfl) (fun h => by cases h)) ?_
                refine s_rd (v := (Value.bool (v_116_1 == (!(false == v_40))))) (r_assign rfl rfl) ?_
                refine HL_nil ?_
                show b4J3 c_1 v_25 v_37 b12 b20 codes_22 chosen_23 R _ _
                exact ⟨_, h1, h5, (by exact (congrArg Value.bool (by assumption)).symm), h12, h20, h22, h23, rfl, h⟩
              · replace hc := eq_false_of_ne_true hc; replace h := h.2 hc
                refine HL_known (t := 111) (v := .bool false) (congrArg Value.bool hc) ?_
                refine HL_known (t := 112) (v := .bool false) (congrArg Value.bool hc) ?_
                refine HL_known (t := 113) (v := .bool false) (congrArg Value.bool hc) ?_
                refine s_skip ?_
                refine s_skip ?_
                refine s_skip ?_
                refine s_skip ?_
                refine s_skip ?_
                refine s_skip ?_
                refine s_skip ?_
                refine s_rd (v := (Value.bool false)) (r_pick rfl rfl (fun h => by cases h) (fun _ => rfl)) ?_
                refine s_rd (v := (Value.bool false)) (r_assign rfl rfl) ?_
                refine HL_nil ?_
                show b4J3 c_1 v_25 v_37 b12 b20 codes_22 chosen_23 R _ _
                exact ⟨_, h1, h5, (by exact (congrArg Value.bool (by assumption)).symm), h12, h20, h22, h23, rfl, h⟩
            · replace hc := eq_false_of_ne_true hc; replace h := h.2 hc
              refine HL_known (t := 102) (v := .bool false) (congrArg Value.bool hc) ?_
              refine HL_known (t := 103) (v := .bool false) (congrArg Value.bool hc) ?_
              refine s_skip ?_
              refine s_skip ?_
              refine s_skip ?_
              refine s_skip ?_
              refine s_skip ?_
              refine s_skip ?_
              refine s_skip ?_
              refine s_skip ?_
              refine s_rd (v := (Value.bool false)) (r_pick rfl rfl (fun h => by cases h) (fun _ => rfl)) ?_
              refine s_rd (v := (Value.bool false)) (r_move rfl rfl) ?_
              refine s_skip ?_
              refine s_skip ?_
              refine s_skip ?_
              refine s_skip ?_
              refine s_skip ?_
              refine s_skip ?_
              refine s_skip ?_
              refine s_rd (v := (Value.bool false)) (r_pick rfl rfl (fun h => by cases h) (fun _ => rfl)) ?_
              refine s_rd (v := (Value.bool false)) (r_assign rfl rfl) ?_
              refine HL_nil ?_
              show b4J3 c_1 v_25 v_37 b12 b20 codes_22 chosen_23 R _ _
              exact ⟨_, h1, h5, (by exact (congrArg Value.bool (by assumption)).symm), h12, h20, h22, h23, rfl, h⟩
      · skip
        refine HC_seq ?_
        refine HC_region ?_
        refine s_rd (v := (Value.bool v_37)) (r_move rfl h9) ?_
        refine HL_nil ?_
        refine HC_cond (t := v_37) rfl (fun hc => ?_) (fun hc => ?_)
        · replace h := h.1 hc
          clear hc
          refine HC_region ?_
          refine s_rd (v := (Value.bool v_40)) (r_move rfl h10) ?_
          refine s_rd (v := (Value.bool v_40)) (r_assign rfl rfl) ?_
          refine HL_nil ?_
          show b4J2 c_1 v_25 v_37 v_40 b12 b14 b16 b18 b20 codes_22 R _ _
          exact ⟨_, h1, h5, h9, h10, h12, h14, h16, h18, h20, h22, rfl, h⟩
        · replace h := h.2 hc
          clear hc
          refine HC_skip ?_
          show b4J2 c_1 v_25 v_37 v_40 b12 b14 b16 b18 b20 codes_22 R _ _
          exact ⟨_, h1, h5, h9, h10, h12, h14, h16, h18, h20, h22, rfl, h⟩
    · skip
      refine HC_region ?_
      refine s_rd (v := (Value.int .i64 v_46_1)) (r_move rfl rfl) ?_
      refine s_rd (v := (Value.bool (decide (v_46_1 = (0 : Int))))) (w_eql rfl rfl) ?_
      refine s_rd (v := (Value.bool (decide (v_46_1 = (0 : Int))))) (r_move rfl rfl) ?_
      by_cases hc : v_46_1 = (0 : Int)
      · replace h := h.1 hc
        refine HL_known (t := 75) (v := .bool true) (congrArg Value.bool (decide_eq_true hc)) ?_
        refine HL_known (t := 76) (v := .bool true) (congrArg Value.bool (decide_eq_true hc)) ?_
        refine s_rd (v := (Value.int .i64 v_52_1)) (r_move rfl rfl) ?_
        refine s_rd (v := (Value.bool (decide (v_52_1 = (0 : Int))))) (w_eql rfl rfl) ?_
        refine s_rd (v := (Value.bool (decide (v_52_1 = (0 : Int))))) (r_pick rfl rfl (fun _ => rfl) (fun h => by cases h)) ?_
        refine s_rd (v := (Value.bool (decide (v_52_1 = (0 : Int))))) (r_move rfl rfl) ?_
        by_cases hc : v_52_1 = (0 : Int)
        · replace h := h.1 hc
          refine HL_known (t := 78) (v := .bool true) (congrArg Value.bool (decide_eq_true hc)) ?_
          refine HL_known (t := 79) (v := .bool true) (congrArg Value.bool (decide_eq_true hc)) ?_
          refine HL_known (t := 80) (v := .bool true) (congrArg Value.bool (decide_eq_true hc)) ?_
          refine s_rd (v := (Value.int .i64 v_58_1)) (r_move rfl rfl) ?_
          refine s_rd (v := (Value.bool (decide (v_58_1 = (0 : Int))))) (w_eql rfl rfl) ?_
          refine s_rd (v := (Value.bool (decide (v_58_1 = (0 : Int))))) (r_pick rfl rfl (fun _ => rfl) (fun h => by cases h)) ?_
          refine s_rd (v := (Value.bool (decide (v_58_1 = (0 : Int))))) (r_move rfl rfl) ?_
          by_cases hc : v_58_1 = (0 : Int)
          · replace h := h.1 hc
            refine HL_known (t := 82) (v := .bool true) (congrArg Value.bool (decide_eq_true hc)) ?_
            refine HL_known (t := 83) (v := .bool true) (congrArg Value.bool (decide_eq_true hc)) ?_
            refine HL_known (t := 84) (v := .bool true) (congrArg Value.bool (decide_eq_true hc)) ?_
            refine s_rd (v := (Value.int .i64 v_64_1)) (r_move rfl rfl) ?_
            refine s_rd (v := (Value.bool (decide (v_64_1 = (0 : Int))))) (w_eql rfl rfl) ?_
            refine s_rd (v := (Value.bool (decide (v_64_1 = (0 : Int))))) (r_pick rfl rfl (fun _ => rfl) (fun h => by cases h)) ?_
            refine s_rd (v := (Value.bool (decide (v_64_1 = (0 : Int))))) (r_move rfl rfl) ?_
            by_cases hc : v_64_1 = (0 : Int)
            · replace h := h.1 hc
              refine HL_known (t := 86) (v := .bool true) (congrArg Value.bool (decide_eq_true hc)) ?_
              refine HL_known (t := 87) (v := .bool true) (congrArg Value.bool (decide_eq_true hc)) ?_
              refine HL_known (t := 88) (v := .bool true) (congrArg Value.bool (decide_eq_true hc)) ?_
              refine s_rd (v := (Value.int .i64 v_71_1)) (r_move rfl rfl) ?_
              refine s_rd (v := (Value.bool (decide (v_71_1 = (0 : Int))))) (w_eql rfl rfl) ?_
              refine s_rd (v := (Value.bool (decide (v_71_1 = (0 : Int))))) (r_pick rfl rfl (fun _ => rfl) (fun h => by cases h)) ?_
              refine s_rd (v := (Value.bool (decide (v_71_1 = (0 : Int))))) (r_assign rfl rfl) ?_
              refine HL_nil ?_
              show b4J1 c_1 v_25 v_37 v_40 v_43 b12 b14 b16 b18 b20 R _ _
              exact ⟨_, h1, h5, rfl, rfl, rfl, rfl, rfl, rfl, rfl, rfl, rfl, h⟩
            · replace h := h.2 hc
              refine HL_known (t := 86) (v := .bool false) (congrArg Value.bool (decide_eq_false hc)) ?_
              refine HL_known (t := 87) (v := .bool false) (congrArg Value.bool (decide_eq_false hc)) ?_
              refine HL_known (t := 88) (v := .bool false) (congrArg Value.bool (decide_eq_false hc)) ?_
              refine s_skip ?_
              refine s_skip ?_
              refine s_rd (v := (Value.bool false)) (r_pick rfl rfl (fun h => by cases h) (fun _ => rfl)) ?_
              refine s_rd (v := (Value.bool false)) (r_assign rfl rfl) ?_
              refine HL_nil ?_
              show b4J1 c_1 v_25 v_37 v_40 v_43 b12 b14 b16 b18 b20 R _ _
              exact ⟨_, h1, h5, rfl, rfl, rfl, rfl, rfl, rfl, rfl, rfl, rfl, h⟩
          · replace h := h.2 hc
            refine HL_known (t := 82) (v := .bool false) (congrArg Value.bool (decide_eq_false hc)) ?_
            refine HL_known (t := 83) (v := .bool false) (congrArg Value.bool (decide_eq_false hc)) ?_
            refine HL_known (t := 84) (v := .bool false) (congrArg Value.bool (decide_eq_false hc)) ?_
            refine s_skip ?_
            refine s_skip ?_
            refine s_rd (v := (Value.bool false)) (r_pick rfl rfl (fun h => by cases h) (fun _ => rfl)) ?_
            refine s_rd (v := (Value.bool false)) (r_move rfl rfl) ?_
            refine s_skip ?_
            refine s_skip ?_
            refine s_rd (v := (Value.bool false)) (r_pick rfl rfl (fun h => by cases h) (fun _ => rfl)) ?_
            refine s_rd (v := (Value.bool false)) (r_assign rfl rfl) ?_
            refine HL_nil ?_
            show b4J1 c_1 v_25 v_37 v_40 v_43 b12 b14 b16 b18 b20 R _ _
            exact ⟨_, h1, h5, rfl, rfl, rfl, rfl, rfl, rfl, rfl, rfl, rfl, h⟩
        · replace h := h.2 hc
          refine HL_known (t := 78) (v := .bool false) (congrArg Value.bool (decide_eq_false hc)) ?_
          refine HL_known (t := 79) (v := .bool false) (congrArg Value.bool (decide_eq_false hc)) ?_
          refine HL_known (t := 80) (v := .bool false) (congrArg Value.bool (decide_eq_false hc)) ?_
          refine s_skip ?_
          refine s_skip ?_
          refine s_rd (v := (Value.bool false)) (r_pick rfl rfl (fun h => by cases h) (fun _ => rfl)) ?_
          refine s_rd (v := (Value.bool false)) (r_move rfl rfl) ?_
          refine s_skip ?_
          refine s_skip ?_
          refine s_rd (v := (Value.bool false)) (r_pick rfl rfl (fun h => by cases h) (fun _ => rfl)) ?_
          refine s_rd (v := (Value.bool false)) (r_move rfl rfl) ?_
          refine s_skip ?_
          refine s_skip ?_
          refine s_rd (v := (Value.bool false)) (r_pick rfl rfl (fun h => by cases h) (fun _ => rfl)) ?_
          refine s_rd (v := (Value.bool false)) (r_assign rfl rfl) ?_
          refine HL_nil ?_
          show b4J1 c_1 v_25 v_37 v_40 v_43 b12 b14 b16 b18 b20 R _ _
          exact ⟨_, h1, h5, rfl, rfl, rfl, rfl, rfl, rfl, rfl, rfl, rfl, h⟩
      · replace h := h.2 hc
        refine HL_known (t := 75) (v := .bool false) (congrArg Value.bool (decide_eq_false hc)) ?_
        refine HL_known (t := 76) (v := .bool false) (congrArg Value.bool (decide_eq_false hc)) ?_
        refine s_skip ?_
        refine s_skip ?_
        refine s_rd (v := (Value.bool false)) (r_pick rfl rfl (fun h => by cases h) (fun _ => rfl)) ?_
        refine s_rd (v := (Value.bool false)) (r_move rfl rfl) ?_
        refine s_skip ?_
        refine s_skip ?_
        refine s_rd (v := (Value.bool false)) (r_pick rfl rfl (fun h => by cases h) (fun _ => rfl)) ?_
        refine s_rd (v := (Value.bool false)) (r_move rfl rfl) ?_
        refine s_skip ?_
        refine s_skip ?_
        refine s_rd (v := (Value.bool false)) (r_pick rfl rfl (fun h => by cases h) (fun _ => rfl)) ?_
        refine s_rd (v := (Value.bool false)) (r_move rfl rfl) ?_
        refine s_skip ?_
        refine s_skip ?_
        refine s_rd (v := (Value.bool false)) (r_pick rfl rfl (fun h => by cases h) (fun _ => rfl)) ?_
        refine s_rd (v := (Value.bool false)) (r_assign rfl rfl) ?_
        refine HL_nil ?_
        show b4J1 c_1 v_25 v_37 v_40 v_43 b12 b14 b16 b18 b20 R _ _
        exact ⟨_, h1, h5, rfl, rfl, rfl, rfl, rfl, rfl, rfl, rfl, rfl, h⟩
  refine RG_share (A := (Nat) × (Nat) × (Nat) × (Array Value)) (fun a E F => match a with | (b6, b7, b8, v_34) => E 1 = (Value.int .u64 c_1) ∧ E 5 = (Value.bool v_25) ∧ E 6 = (Value.pointer (some (Addr.mk b6 0 none))) ∧ E 7 = (Value.pointer (some (Addr.mk b7 0 none))) ∧ E 8 = (Value.pointer (some (Addr.mk b8 0 none))) ∧ E 34 = (Value.agg v_34) ∧ b4d8 v_34 b8 b6 b7 c_1 v_25 R F ∧ holdF [] F) 1 #[true, true, true, true, true, true, true, true, true, true, true, true, true, true, false] (fun a => match a with | (b6, b7, b8, v_34) => []) ?_ (fun hD8 => ?_)
  · clear h hp; rintro ⟨b6, b7, b8, v_34⟩ E F ⟨h1, h5, h6, h7, h8, h34, h, hp⟩
    unfold b4d8 at h
    refine RG_eff1 (i := 14) (by kernel_rfl) (g_op0 (Sp' := []) rfl rfl (k_storeN (vs := v_34) h8 h34 sz28 (by decide) ?_))
    obtain ⟨hz1, hz2, c, e, hz3, hz4, hz5, h⟩ := h
    refine ⟨hz1, hz2, c, e, hz3, hz4, hz5, ?_⟩
    replace h := atE h
    refine holdI hold0 (fun hp => ?_)
    refine RG_list (l' := #[true, true, true, true, true, true, true, true, true, true, true, true, true, true, true]) (by kernel_rfl) ?_
    exact hD9 (b6, b7, b8) _ _ ⟨h1, h5, h6, h7, h8, h, hp⟩
  refine RG_share (A := (Nat) × (Nat) × (Nat) × (Array Value) × (Array Value)) (fun a E F => match a with | (b6, b7, b8, v_31, v_34) => E 1 = (Value.int .u64 c_1) ∧ E 5 = (Value.bool v_25) ∧ E 6 = (Value.pointer (some (Addr.mk b6 0 none))) ∧ E 7 = (Value.pointer (some (Addr.mk b7 0 none))) ∧ E 8 = (Value.pointer (some (Addr.mk b8 0 none))) ∧ E 31 = (Value.agg v_31) ∧ E 34 = (Value.agg v_34) ∧ b4d7 v_31 b7 v_34 b8 b6 c_1 v_25 R F ∧ holdF [] F) 2 #[true, true, true, true, true, true, true, true, true, true, true, true, true, false, false] (fun a => match a with | (b6, b7, b8, v_31, v_34) => []) ?_ (fun hD7 => ?_)
  · clear h hp; rintro ⟨b6, b7, b8, v_31, v_34⟩ E F ⟨h1, h5, h6, h7, h8, h31, h34, h, hp⟩
    unfold b4d7 at h
    refine RG_eff1 (i := 13) (by kernel_rfl) (g_op0 (Sp' := []) rfl rfl (k_storeN (vs := v_31) h7 h31 sz28 (by decide) ?_))
    obtain ⟨hz1, hz2, c, e, hz3, hz4, hz5, h⟩ := h
    refine ⟨hz1, hz2, c, e, hz3, hz4, hz5, ?_⟩
    replace h := atE h
    refine holdI hold0 (fun hp => ?_)
    refine RG_list (l' := #[true, true, true, true, true, true, true, true, true, true, true, true, true, true, false]) (by kernel_rfl) ?_
    exact hD8 (b6, b7, b8, v_34) _ _ ⟨h1, h5, h6, h7, h8, h34, h, hp⟩
  refine RG_share (A := (Nat) × (Nat) × (Nat) × (Array Value) × (Array Value) × (Array Value)) (fun a E F => match a with | (b6, b7, b8, v_28, v_31, v_34) => E 1 = (Value.int .u64 c_1) ∧ E 5 = (Value.bool v_25) ∧ E 6 = (Value.pointer (some (Addr.mk b6 0 none))) ∧ E 7 = (Value.pointer (some (Addr.mk b7 0 none))) ∧ E 8 = (Value.pointer (some (Addr.mk b8 0 none))) ∧ E 28 = (Value.agg v_28) ∧ E 31 = (Value.agg v_31) ∧ E 34 = (Value.agg v_34) ∧ b4d6 v_28 b6 v_31 b7 v_34 b8 c_1 v_25 R F ∧ holdF [] F) 3 #[true, true, true, true, true, true, true, true, true, true, true, true, false, false, false] (fun a => match a with | (b6, b7, b8, v_28, v_31, v_34) => []) ?_ (fun hD6 => ?_)
  · clear h hp; rintro ⟨b6, b7, b8, v_28, v_31, v_34⟩ E F ⟨h1, h5, h6, h7, h8, h28, h31, h34, h, hp⟩
    unfold b4d6 at h
    refine RG_eff1 (i := 12) (by kernel_rfl) (g_op0 (Sp' := []) rfl rfl (k_storeN (vs := v_28) h6 h28 sz28 (by decide) ?_))
    obtain ⟨hz1, hz2, c, e, hz3, hz4, hz5, h⟩ := h
    refine ⟨hz1, hz2, c, e, hz3, hz4, hz5, ?_⟩
    replace h := atE h
    refine holdI hold0 (fun hp => ?_)
    refine RG_list (l' := #[true, true, true, true, true, true, true, true, true, true, true, true, true, false, false]) (by kernel_rfl) ?_
    exact hD7 (b6, b7, b8, v_31, v_34) _ _ ⟨h1, h5, h6, h7, h8, h31, h34, h, hp⟩
  refine RG_share (A := (Nat) × (Nat) × (Array Value) × (Array Value) × (Array Value)) (fun a E F => match a with | (b6, b7, v_28, v_31, v_34) => E 1 = (Value.int .u64 c_1) ∧ E 5 = (Value.bool v_25) ∧ E 6 = (Value.pointer (some (Addr.mk b6 0 none))) ∧ E 7 = (Value.pointer (some (Addr.mk b7 0 none))) ∧ E 28 = (Value.agg v_28) ∧ E 31 = (Value.agg v_31) ∧ E 34 = (Value.agg v_34) ∧ b4d5 v_28 b6 v_31 b7 v_34 c_1 v_25 R F ∧ holdF [] F) 4 #[true, true, true, true, true, true, true, true, true, true, true, false, false, false, false] (fun a => match a with | (b6, b7, v_28, v_31, v_34) => []) ?_ (fun hD5 => ?_)
  · clear h hp; rintro ⟨b6, b7, v_28, v_31, v_34⟩ E F ⟨h1, h5, h6, h7, h28, h31, h34, h, hp⟩
    unfold b4d5 at h
    refine RG_eff1 (i := 11) (by kernel_rfl) (g_op (Sp' := []) rfl rfl (k_alloc zr28 ?_))
    intro b8 hf_b8
    replace h := atE (h b8 hf_b8)
    refine holdI hold0 (fun hp => ?_)
    refine RG_list (l' := #[true, true, true, true, true, true, true, true, true, true, true, true, false, false, false]) (by kernel_rfl) ?_
    exact hD6 (b6, b7, b8, v_28, v_31, v_34) _ _ ⟨h1, h5, h6, h7, rfl, h28, h31, h34, h, hp⟩
  refine RG_share (A := (Nat) × (Nat) × (Array Value) × (Array Value) × (Array Value)) (fun a E F => match a with | (b6, b8_1, v_28, v_31, v_34) => E 1 = (Value.int .u64 c_1) ∧ E 5 = (Value.bool v_25) ∧ E 6 = (Value.pointer (some (Addr.mk b6 0 none))) ∧ E 8 = (Value.pointer (some (Addr.mk b8_1 0 none))) ∧ E 28 = (Value.agg v_28) ∧ E 31 = (Value.agg v_31) ∧ E 34 = (Value.agg v_34) ∧ b4d10 v_28 b6 v_31 v_34 b8_1 c_1 v_25 R F ∧ holdF [] F) 4 #[true, true, true, true, true, true, true, true, true, true, false, true, false, false, false] (fun a => match a with | (b6, b8_1, v_28, v_31, v_34) => []) ?_ (fun hD10 => ?_)
  · clear h hp; rintro ⟨b6, b8_1, v_28, v_31, v_34⟩ E F ⟨h1, h5, h6, h8, h28, h31, h34, h, hp⟩
    unfold b4d10 at h
    refine RG_eff1 (i := 10) (by kernel_rfl) (g_op (Sp' := []) rfl rfl (k_alloc zr28 ?_))
    intro b7_1 hf_b7_1
    replace h := atE (h b7_1 hf_b7_1)
    refine holdI hold0 (fun hp => ?_)
    refine RG_list (l' := #[true, true, true, true, true, true, true, true, true, true, true, true, false, false, false]) (by kernel_rfl) ?_
    exact hD6 (b6, b7_1, b8_1, v_28, v_31, v_34) _ _ ⟨h1, h5, h6, rfl, h8, h28, h31, h34, h, hp⟩
  refine RG_share (A := (Nat) × (Array Value) × (Array Value) × (Array Value)) (fun a E F => match a with | (b6, v_28, v_31, v_34) => E 1 = (Value.int .u64 c_1) ∧ E 5 = (Value.bool v_25) ∧ E 6 = (Value.pointer (some (Addr.mk b6 0 none))) ∧ E 28 = (Value.agg v_28) ∧ E 31 = (Value.agg v_31) ∧ E 34 = (Value.agg v_34) ∧ b4d4 v_28 b6 v_31 v_34 c_1 v_25 R F ∧ holdF [] F) 5 #[true, true, true, true, true, true, true, true, true, true, false, false, false, false, false] (fun a => match a with | (b6, v_28, v_31, v_34) => []) ?_ (fun hD4 => ?_)
  · clear h hp; rintro ⟨b6, v_28, v_31, v_34⟩ E F ⟨h1, h5, h6, h28, h31, h34, h, hp⟩
    unfold b4d4 at h
    refine RG_eff (rs := [10, 11]) (by kernel_rfl) rfl ?_
    obtain ⟨ha0, ha1⟩ := h
    simp only [List.mem_cons, List.not_mem_nil, or_false, forall_eq_or_imp, forall_eq]
    refine ⟨?_, ?_⟩
    · have h := ha0; clear ha0 ha1
      refine g_op (Sp' := []) rfl rfl (k_alloc zr28 ?_)
      intro b7 hf_b7
      replace h := atE (h b7 hf_b7)
      refine holdI hold0 (fun hp => ?_)
      refine RG_list (l' := #[true, true, true, true, true, true, true, true, true, true, true, false, false, false, false]) (by kernel_rfl) ?_
      exact hD5 (b6, b7, v_28, v_31, v_34) _ _ ⟨h1, h5, h6, rfl, h28, h31, h34, h, hp⟩
    · have h := ha1; clear ha0 ha1
      refine g_op (Sp' := []) rfl rfl (k_alloc zr28 ?_)
      intro b8_1 hf_b8_1
      replace h := atE (h b8_1 hf_b8_1)
      refine holdI hold0 (fun hp => ?_)
      refine RG_list (l' := #[true, true, true, true, true, true, true, true, true, true, false, true, false, false, false]) (by kernel_rfl) ?_
      exact hD10 (b6, b8_1, v_28, v_31, v_34) _ _ ⟨h1, h5, h6, rfl, h28, h31, h34, h, hp⟩
  refine RG_share (A := (Nat) × (Nat) × (Array Value) × (Array Value) × (Array Value)) (fun a E F => match a with | (b7_2, b8_2, v_28, v_31, v_34) => E 1 = (Value.int .u64 c_1) ∧ E 5 = (Value.bool v_25) ∧ E 7 = (Value.pointer (some (Addr.mk b7_2 0 none))) ∧ E 8 = (Value.pointer (some (Addr.mk b8_2 0 none))) ∧ E 28 = (Value.agg v_28) ∧ E 31 = (Value.agg v_31) ∧ E 34 = (Value.agg v_34) ∧ b4d12 v_28 v_31 b7_2 v_34 b8_2 c_1 v_25 R F ∧ holdF [] F) 4 #[true, true, true, true, true, true, true, true, true, false, true, true, false, false, false] (fun a => match a with | (b7_2, b8_2, v_28, v_31, v_34) => []) ?_ (fun hD12 => ?_)
  · clear h hp; rintro ⟨b7_2, b8_2, v_28, v_31, v_34⟩ E F ⟨h1, h5, h7, h8, h28, h31, h34, h, hp⟩
    unfold b4d12 at h
    refine RG_eff1 (i := 9) (by kernel_rfl) (g_op (Sp' := []) rfl rfl (k_alloc zr28 ?_))
    intro b6_2 hf_b6_2
    replace h := atE (h b6_2 hf_b6_2)
    refine holdI hold0 (fun hp => ?_)
    refine RG_list (l' := #[true, true, true, true, true, true, true, true, true, true, true, true, false, false, false]) (by kernel_rfl) ?_
    exact hD6 (b6_2, b7_2, b8_2, v_28, v_31, v_34) _ _ ⟨h1, h5, rfl, h7, h8, h28, h31, h34, h, hp⟩
  refine RG_share (A := (Nat) × (Array Value) × (Array Value) × (Array Value)) (fun a E F => match a with | (b7_2, v_28, v_31, v_34) => E 1 = (Value.int .u64 c_1) ∧ E 5 = (Value.bool v_25) ∧ E 7 = (Value.pointer (some (Addr.mk b7_2 0 none))) ∧ E 28 = (Value.agg v_28) ∧ E 31 = (Value.agg v_31) ∧ E 34 = (Value.agg v_34) ∧ b4d11 v_28 v_31 b7_2 v_34 c_1 v_25 R F ∧ holdF [] F) 5 #[true, true, true, true, true, true, true, true, true, false, true, false, false, false, false] (fun a => match a with | (b7_2, v_28, v_31, v_34) => []) ?_ (fun hD11 => ?_)
  · clear h hp; rintro ⟨b7_2, v_28, v_31, v_34⟩ E F ⟨h1, h5, h7, h28, h31, h34, h, hp⟩
    unfold b4d11 at h
    refine RG_eff (rs := [9, 11]) (by kernel_rfl) rfl ?_
    obtain ⟨ha0, ha1⟩ := h
    simp only [List.mem_cons, List.not_mem_nil, or_false, forall_eq_or_imp, forall_eq]
    refine ⟨?_, ?_⟩
    · have h := ha0; clear ha0 ha1
      refine g_op (Sp' := []) rfl rfl (k_alloc zr28 ?_)
      intro b6_1 hf_b6_1
      replace h := atE (h b6_1 hf_b6_1)
      refine holdI hold0 (fun hp => ?_)
      refine RG_list (l' := #[true, true, true, true, true, true, true, true, true, true, true, false, false, false, false]) (by kernel_rfl) ?_
      exact hD5 (b6_1, b7_2, v_28, v_31, v_34) _ _ ⟨h1, h5, rfl, h7, h28, h31, h34, h, hp⟩
    · have h := ha1; clear ha0 ha1
      refine g_op (Sp' := []) rfl rfl (k_alloc zr28 ?_)
      intro b8_2 hf_b8_2
      replace h := atE (h b8_2 hf_b8_2)
      refine holdI hold0 (fun hp => ?_)
      refine RG_list (l' := #[true, true, true, true, true, true, true, true, true, false, true, true, false, false, false]) (by kernel_rfl) ?_
      exact hD12 (b7_2, b8_2, v_28, v_31, v_34) _ _ ⟨h1, h5, h7, rfl, h28, h31, h34, h, hp⟩
  refine RG_share (A := (Nat) × (Array Value) × (Array Value) × (Array Value)) (fun a E F => match a with | (b8_3, v_28, v_31, v_34) => E 1 = (Value.int .u64 c_1) ∧ E 5 = (Value.bool v_25) ∧ E 8 = (Value.pointer (some (Addr.mk b8_3 0 none))) ∧ E 28 = (Value.agg v_28) ∧ E 31 = (Value.agg v_31) ∧ E 34 = (Value.agg v_34) ∧ b4d13 v_28 v_31 v_34 b8_3 c_1 v_25 R F ∧ holdF [] F) 5 #[true, true, true, true, true, true, true, true, true, false, false, true, false, false, false] (fun a => match a with | (b8_3, v_28, v_31, v_34) => []) ?_ (fun hD13 => ?_)
  · clear h hp; rintro ⟨b8_3, v_28, v_31, v_34⟩ E F ⟨h1, h5, h8, h28, h31, h34, h, hp⟩
    unfold b4d13 at h
    refine RG_eff (rs := [9, 10]) (by kernel_rfl) rfl ?_
    obtain ⟨ha0, ha1⟩ := h
    simp only [List.mem_cons, List.not_mem_nil, or_false, forall_eq_or_imp, forall_eq]
    refine ⟨?_, ?_⟩
    · have h := ha0; clear ha0 ha1
      refine g_op (Sp' := []) rfl rfl (k_alloc zr28 ?_)
      intro b6_3 hf_b6_3
      replace h := atE (h b6_3 hf_b6_3)
      refine holdI hold0 (fun hp => ?_)
      refine RG_list (l' := #[true, true, true, true, true, true, true, true, true, true, false, true, false, false, false]) (by kernel_rfl) ?_
      exact hD10 (b6_3, b8_3, v_28, v_31, v_34) _ _ ⟨h1, h5, rfl, h8, h28, h31, h34, h, hp⟩
    · have h := ha1; clear ha0 ha1
      refine g_op (Sp' := []) rfl rfl (k_alloc zr28 ?_)
      intro b7_3 hf_b7_3
      replace h := atE (h b7_3 hf_b7_3)
      refine holdI hold0 (fun hp => ?_)
      refine RG_list (l' := #[true, true, true, true, true, true, true, true, true, false, true, true, false, false, false]) (by kernel_rfl) ?_
      exact hD12 (b7_3, b8_3, v_28, v_31, v_34) _ _ ⟨h1, h5, rfl, h8, h28, h31, h34, h, hp⟩
  refine RG_share (A := (Array Value) × (Array Value) × (Array Value)) (fun a E F => match a with | (v_28, v_31, v_34) => E 1 = (Value.int .u64 c_1) ∧ E 5 = (Value.bool v_25) ∧ E 28 = (Value.agg v_28) ∧ E 31 = (Value.agg v_31) ∧ E 34 = (Value.agg v_34) ∧ b4d3 v_28 v_31 v_34 c_1 v_25 R F ∧ holdF [] F) 6 #[true, true, true, true, true, true, true, true, true, false, false, false, false, false, false] (fun a => match a with | (v_28, v_31, v_34) => []) ?_ (fun hD3 => ?_)
  · clear h hp; rintro ⟨v_28, v_31, v_34⟩ E F ⟨h1, h5, h28, h31, h34, h, hp⟩
    unfold b4d3 at h
    refine RG_eff (rs := [9, 10, 11]) (by kernel_rfl) rfl ?_
    obtain ⟨ha0, ha1, ha2⟩ := h
    simp only [List.mem_cons, List.not_mem_nil, or_false, forall_eq_or_imp, forall_eq]
    refine ⟨?_, ?_, ?_⟩
    · have h := ha0; clear ha0 ha1 ha2
      refine g_op (Sp' := []) rfl rfl (k_alloc zr28 ?_)
      intro b6 hf_b6
      replace h := atE (h b6 hf_b6)
      refine holdI hold0 (fun hp => ?_)
      refine RG_list (l' := #[true, true, true, true, true, true, true, true, true, true, false, false, false, false, false]) (by kernel_rfl) ?_
      exact hD4 (b6, v_28, v_31, v_34) _ _ ⟨h1, h5, rfl, h28, h31, h34, h, hp⟩
    · have h := ha1; clear ha0 ha1 ha2
      refine g_op (Sp' := []) rfl rfl (k_alloc zr28 ?_)
      intro b7_2 hf_b7_2
      replace h := atE (h b7_2 hf_b7_2)
      refine holdI hold0 (fun hp => ?_)
      refine RG_list (l' := #[true, true, true, true, true, true, true, true, true, false, true, false, false, false, false]) (by kernel_rfl) ?_
      exact hD11 (b7_2, v_28, v_31, v_34) _ _ ⟨h1, h5, rfl, h28, h31, h34, h, hp⟩
    · have h := ha2; clear ha0 ha1 ha2
      refine g_op (Sp' := []) rfl rfl (k_alloc zr28 ?_)
      intro b8_3 hf_b8_3
      replace h := atE (h b8_3 hf_b8_3)
      refine holdI hold0 (fun hp => ?_)
      refine RG_list (l' := #[true, true, true, true, true, true, true, true, true, false, false, true, false, false, false]) (by kernel_rfl) ?_
      exact hD13 (b8_3, v_28, v_31, v_34) _ _ ⟨h1, h5, rfl, h28, h31, h34, h, hp⟩
  refine RG_share (A := (Nat) × (Nat) × (Nat) × (Array Value) × (Array Value) × (Array Value) × (World → Prop)) (fun a E F => match a with | (b6_4, b7_4, b8_4, v_28, v_31, v_33, S7) => E 1 = (Value.int .u64 c_1) ∧ E 5 = (Value.bool v_25) ∧ E 6 = (Value.pointer (some (Addr.mk b6_4 0 none))) ∧ E 7 = (Value.pointer (some (Addr.mk b7_4 0 none))) ∧ E 8 = (Value.pointer (some (Addr.mk b8_4 0 none))) ∧ E 28 = (Value.agg v_28) ∧ E 31 = (Value.agg v_31) ∧ E 33 = (Value.agg v_33) ∧ (∀ F : PH, F.row (Addr.add (Addr.mk b2 0 none) (Int.toNat (2 : Int) * 2)) v_33 → allW F S7) ∧ (F.row (Addr.add (Addr.mk b2 0 none) (Int.toNat (2 : Int) * 2)) v_33) ∧ b4d16 v_33 v_28 b6_4 v_31 b7_4 b8_4 c_1 v_25 R F ∧ holdF [(7, S7)] F) 4 #[true, true, true, true, true, true, true, true, false, true, true, true, false, false, false] (fun a => match a with | (b6_4, b7_4, b8_4, v_28, v_31, v_33, S7) => [(7, S7)]) ?_ (fun hD16 => ?_)
  · clear h hp; rintro ⟨b6_4, b7_4, b8_4, v_28, v_31, v_33, S7⟩ E F ⟨h1, h5, h6, h7, h8, h28, h31, h33, q7, kc7, h, hp⟩
    unfold b4d16 at h
    refine RG_eff1 (i := 8) (by kernel_rfl) (g_op (Sp' := []) rfl rfl (k_call (vs := [(Value.agg v_33)]) cb16 (evC h33 evN) (h.mono ?_)))
    clear h; rintro v F ⟨v_34_3, rfl, h⟩
    refine holdI hold0 (fun hp => ?_)
    refine RG_list (l' := #[true, true, true, true, true, true, true, true, true, true, true, true, false, false, false]) (by kernel_rfl) ?_
    exact hD6 (b6_4, b7_4, b8_4, v_28, v_31, v_34_3) _ _ ⟨h1, h5, h6, h7, h8, h28, h31, rfl, h, hp⟩
  refine RG_share (A := (Nat) × (Nat) × (Array Value) × (Array Value) × (Array Value) × (World → Prop)) (fun a E F => match a with | (b6_4, b7_4, v_28, v_31, v_33, S7) => E 1 = (Value.int .u64 c_1) ∧ E 5 = (Value.bool v_25) ∧ E 6 = (Value.pointer (some (Addr.mk b6_4 0 none))) ∧ E 7 = (Value.pointer (some (Addr.mk b7_4 0 none))) ∧ E 28 = (Value.agg v_28) ∧ E 31 = (Value.agg v_31) ∧ E 33 = (Value.agg v_33) ∧ (∀ F : PH, F.row (Addr.add (Addr.mk b2 0 none) (Int.toNat (2 : Int) * 2)) v_33 → allW F S7) ∧ (F.row (Addr.add (Addr.mk b2 0 none) (Int.toNat (2 : Int) * 2)) v_33) ∧ b4d15 v_33 v_28 b6_4 v_31 b7_4 c_1 v_25 R F ∧ holdF [(7, S7)] F) 5 #[true, true, true, true, true, true, true, true, false, true, true, false, false, false, false] (fun a => match a with | (b6_4, b7_4, v_28, v_31, v_33, S7) => [(7, S7)]) ?_ (fun hD15 => ?_)
  · clear h hp; rintro ⟨b6_4, b7_4, v_28, v_31, v_33, S7⟩ E F ⟨h1, h5, h6, h7, h28, h31, h33, q7, kc7, h, hp⟩
    unfold b4d15 at h
    refine RG_eff (rs := [8, 11]) (by kernel_rfl) rfl ?_
    obtain ⟨ha0, ha1⟩ := h
    simp only [List.mem_cons, List.not_mem_nil, or_false, forall_eq_or_imp, forall_eq]
    refine ⟨?_, ?_⟩
    · have h := ha0; clear ha0 ha1
      refine g_op (Sp' := []) rfl rfl (k_call (vs := [(Value.agg v_33)]) cb16 (evC h33 evN) (h.mono ?_))
      clear h; rintro v F ⟨v_34_2, rfl, h⟩
      refine holdI hold0 (fun hp => ?_)
      refine RG_list (l' := #[true, true, true, true, true, true, true, true, true, true, true, false, false, false, false]) (by kernel_rfl) ?_
      exact hD5 (b6_4, b7_4, v_28, v_31, v_34_2) _ _ ⟨h1, h5, h6, h7, h28, h31, rfl, h, hp⟩
    · have h := ha1; clear ha0 ha1
      refine g_op (Sp' := [(7, S7)]) rfl rfl (k_alloc zr28 ?_)
      intro b8_4 hf_b8_4
      replace h := atE (h b8_4 hf_b8_4)
      refine holdI (holdC (i := 7) (q7 _ ((row_set_fresh hf_b8_4 kc7))) hold0) (fun hp => ?_)
      refine RG_list (l' := #[true, true, true, true, true, true, true, true, false, true, true, true, false, false, false]) (by kernel_rfl) ?_
      exact hD16 (b6_4, b7_4, b8_4, v_28, v_31, v_33, _) _ _ ⟨h1, h5, h6, h7, rfl, h28, h31, h33, (fun F hc => q7 F (hc)), (row_set_fresh hf_b8_4 kc7), h, hp⟩
  refine RG_share (A := (Nat) × (Nat) × (Array Value) × (Array Value) × (Array Value) × (World → Prop)) (fun a E F => match a with | (b6_4, b8_5, v_28, v_31, v_33, S7) => E 1 = (Value.int .u64 c_1) ∧ E 5 = (Value.bool v_25) ∧ E 6 = (Value.pointer (some (Addr.mk b6_4 0 none))) ∧ E 8 = (Value.pointer (some (Addr.mk b8_5 0 none))) ∧ E 28 = (Value.agg v_28) ∧ E 31 = (Value.agg v_31) ∧ E 33 = (Value.agg v_33) ∧ (∀ F : PH, F.row (Addr.add (Addr.mk b2 0 none) (Int.toNat (2 : Int) * 2)) v_33 → allW F S7) ∧ (F.row (Addr.add (Addr.mk b2 0 none) (Int.toNat (2 : Int) * 2)) v_33) ∧ b4d17 v_33 v_28 b6_4 v_31 b8_5 c_1 v_25 R F ∧ holdF [(7, S7)] F) 5 #[true, true, true, true, true, true, true, true, false, true, false, true, false, false, false] (fun a => match a with | (b6_4, b8_5, v_28, v_31, v_33, S7) => [(7, S7)]) ?_ (fun hD17 => ?_)
  · clear h hp; rintro ⟨b6_4, b8_5, v_28, v_31, v_33, S7⟩ E F ⟨h1, h5, h6, h8, h28, h31, h33, q7, kc7, h, hp⟩
    unfold b4d17 at h
    refine RG_eff (rs := [8, 10]) (by kernel_rfl) rfl ?_
    obtain ⟨ha0, ha1⟩ := h
    simp only [List.mem_cons, List.not_mem_nil, or_false, forall_eq_or_imp, forall_eq]
    refine ⟨?_, ?_⟩
    · have h := ha0; clear ha0 ha1
      refine g_op (Sp' := []) rfl rfl (k_call (vs := [(Value.agg v_33)]) cb16 (evC h33 evN) (h.mono ?_))
      clear h; rintro v F ⟨v_34_4, rfl, h⟩
      refine holdI hold0 (fun hp => ?_)
      refine RG_list (l' := #[true, true, true, true, true, true, true, true, true, true, false, true, false, false, false]) (by kernel_rfl) ?_
      exact hD10 (b6_4, b8_5, v_28, v_31, v_34_4) _ _ ⟨h1, h5, h6, h8, h28, h31, rfl, h, hp⟩
    · have h := ha1; clear ha0 ha1
      refine g_op (Sp' := [(7, S7)]) rfl rfl (k_alloc zr28 ?_)
      intro b7_5 hf_b7_5
      replace h := atE (h b7_5 hf_b7_5)
      refine holdI (holdC (i := 7) (q7 _ ((row_set_fresh hf_b7_5 kc7))) hold0) (fun hp => ?_)
      refine RG_list (l' := #[true, true, true, true, true, true, true, true, false, true, true, true, false, false, false]) (by kernel_rfl) ?_
      exact hD16 (b6_4, b7_5, b8_5, v_28, v_31, v_33, _) _ _ ⟨h1, h5, h6, rfl, h8, h28, h31, h33, (fun F hc => q7 F (hc)), (row_set_fresh hf_b7_5 kc7), h, hp⟩
  refine RG_share (A := (Nat) × (Array Value) × (Array Value) × (Array Value) × (World → Prop)) (fun a E F => match a with | (b6_4, v_28, v_31, v_33, S7) => E 1 = (Value.int .u64 c_1) ∧ E 5 = (Value.bool v_25) ∧ E 6 = (Value.pointer (some (Addr.mk b6_4 0 none))) ∧ E 28 = (Value.agg v_28) ∧ E 31 = (Value.agg v_31) ∧ E 33 = (Value.agg v_33) ∧ (∀ F : PH, F.row (Addr.add (Addr.mk b2 0 none) (Int.toNat (2 : Int) * 2)) v_33 → allW F S7) ∧ (F.row (Addr.add (Addr.mk b2 0 none) (Int.toNat (2 : Int) * 2)) v_33) ∧ b4d14 v_33 v_28 b6_4 v_31 c_1 v_25 R F ∧ holdF [(7, S7)] F) 6 #[true, true, true, true, true, true, true, true, false, true, false, false, false, false, false] (fun a => match a with | (b6_4, v_28, v_31, v_33, S7) => [(7, S7)]) ?_ (fun hD14 => ?_)
  · clear h hp; rintro ⟨b6_4, v_28, v_31, v_33, S7⟩ E F ⟨h1, h5, h6, h28, h31, h33, q7, kc7, h, hp⟩
    unfold b4d14 at h
    refine RG_eff (rs := [8, 10, 11]) (by kernel_rfl) rfl ?_
    obtain ⟨ha0, ha1, ha2⟩ := h
    simp only [List.mem_cons, List.not_mem_nil, or_false, forall_eq_or_imp, forall_eq]
    refine ⟨?_, ?_, ?_⟩
    · have h := ha0; clear ha0 ha1 ha2
      refine g_op (Sp' := []) rfl rfl (k_call (vs := [(Value.agg v_33)]) cb16 (evC h33 evN) (h.mono ?_))
      clear h; rintro v F ⟨v_34_1, rfl, h⟩
      refine holdI hold0 (fun hp => ?_)
      refine RG_list (l' := #[true, true, true, true, true, true, true, true, true, true, false, false, false, false, false]) (by kernel_rfl) ?_
      exact hD4 (b6_4, v_28, v_31, v_34_1) _ _ ⟨h1, h5, h6, h28, h31, rfl, h, hp⟩
    · have h := ha1; clear ha0 ha1 ha2
      refine g_op (Sp' := [(7, S7)]) rfl rfl (k_alloc zr28 ?_)
      intro b7_4 hf_b7_4
      replace h := atE (h b7_4 hf_b7_4)
      refine holdI (holdC (i := 7) (q7 _ ((row_set_fresh hf_b7_4 kc7))) hold0) (fun hp => ?_)
      refine RG_list (l' := #[true, true, true, true, true, true, true, true, false, true, true, false, false, false, false]) (by kernel_rfl) ?_
      exact hD15 (b6_4, b7_4, v_28, v_31, v_33, _) _ _ ⟨h1, h5, h6, rfl, h28, h31, h33, (fun F hc => q7 F (hc)), (row_set_fresh hf_b7_4 kc7), h, hp⟩
    · have h := ha2; clear ha0 ha1 ha2
      refine g_op (Sp' := [(7, S7)]) rfl rfl (k_alloc zr28 ?_)
      intro b8_5 hf_b8_5
      replace h := atE (h b8_5 hf_b8_5)
      refine holdI (holdC (i := 7) (q7 _ ((row_set_fresh hf_b8_5 kc7))) hold0) (fun hp => ?_)
      refine RG_list (l' := #[true, true, true, true, true, true, true, true, false, true, false, true, false, false, false]) (by kernel_rfl) ?_
      exact hD17 (b6_4, b8_5, v_28, v_31, v_33, _) _ _ ⟨h1, h5, h6, rfl, h28, h31, h33, (fun F hc => q7 F (hc)), (row_set_fresh hf_b8_5 kc7), h, hp⟩
  refine RG_share (A := (Nat) × (Nat) × (Array Value) × (Array Value) × (Array Value) × (World → Prop)) (fun a E F => match a with | (b7_6, b8_6, v_28, v_31, v_33, S7) => E 1 = (Value.int .u64 c_1) ∧ E 5 = (Value.bool v_25) ∧ E 7 = (Value.pointer (some (Addr.mk b7_6 0 none))) ∧ E 8 = (Value.pointer (some (Addr.mk b8_6 0 none))) ∧ E 28 = (Value.agg v_28) ∧ E 31 = (Value.agg v_31) ∧ E 33 = (Value.agg v_33) ∧ (∀ F : PH, F.row (Addr.add (Addr.mk b2 0 none) (Int.toNat (2 : Int) * 2)) v_33 → allW F S7) ∧ (F.row (Addr.add (Addr.mk b2 0 none) (Int.toNat (2 : Int) * 2)) v_33) ∧ b4d19 v_33 v_28 v_31 b7_6 b8_6 c_1 v_25 R F ∧ holdF [(7, S7)] F) 5 #[true, true, true, true, true, true, true, true, false, false, true, true, false, false, false] (fun a => match a with | (b7_6, b8_6, v_28, v_31, v_33, S7) => [(7, S7)]) ?_ (fun hD19 => ?_)
  · clear h hp; rintro ⟨b7_6, b8_6, v_28, v_31, v_33, S7⟩ E F ⟨h1, h5, h7, h8, h28, h31, h33, q7, kc7, h, hp⟩
    unfold b4d19 at h
    refine RG_eff (rs := [8, 9]) (by kernel_rfl) rfl ?_
    obtain ⟨ha0, ha1⟩ := h
    simp only [List.mem_cons, List.not_mem_nil, or_false, forall_eq_or_imp, forall_eq]
    refine ⟨?_, ?_⟩
    · have h := ha0; clear ha0 ha1
      refine g_op (Sp' := []) rfl rfl (k_call (vs := [(Value.agg v_33)]) cb16 (evC h33 evN) (h.mono ?_))
      clear h; rintro v F ⟨v_34_6, rfl, h⟩
      refine holdI hold0 (fun hp => ?_)
      refine RG_list (l' := #[true, true, true, true, true, true, true, true, true, false, true, true, false, false, false]) (by kernel_rfl) ?_
      exact hD12 (b7_6, b8_6, v_28, v_31, v_34_6) _ _ ⟨h1, h5, h7, h8, h28, h31, rfl, h, hp⟩
    · have h := ha1; clear ha0 ha1
      refine g_op (Sp' := [(7, S7)]) rfl rfl (k_alloc zr28 ?_)
      intro b6_6 hf_b6_6
      replace h := atE (h b6_6 hf_b6_6)
      refine holdI (holdC (i := 7) (q7 _ ((row_set_fresh hf_b6_6 kc7))) hold0) (fun hp => ?_)
      refine RG_list (l' := #[true, true, true, true, true, true, true, true, false, true, true, true, false, false, false]) (by kernel_rfl) ?_
      exact hD16 (b6_6, b7_6, b8_6, v_28, v_31, v_33, _) _ _ ⟨h1, h5, rfl, h7, h8, h28, h31, h33, (fun F hc => q7 F (hc)), (row_set_fresh hf_b6_6 kc7), h, hp⟩
  refine RG_share (A := (Nat) × (Array Value) × (Array Value) × (Array Value) × (World → Prop)) (fun a E F => match a with | (b7_6, v_28, v_31, v_33, S7) => E 1 = (Value.int .u64 c_1) ∧ E 5 = (Value.bool v_25) ∧ E 7 = (Value.pointer (some (Addr.mk b7_6 0 none))) ∧ E 28 = (Value.agg v_28) ∧ E 31 = (Value.agg v_31) ∧ E 33 = (Value.agg v_33) ∧ (∀ F : PH, F.row (Addr.add (Addr.mk b2 0 none) (Int.toNat (2 : Int) * 2)) v_33 → allW F S7) ∧ (F.row (Addr.add (Addr.mk b2 0 none) (Int.toNat (2 : Int) * 2)) v_33) ∧ b4d18 v_33 v_28 v_31 b7_6 c_1 v_25 R F ∧ holdF [(7, S7)] F) 6 #[true, true, true, true, true, true, true, true, false, false, true, false, false, false, false] (fun a => match a with | (b7_6, v_28, v_31, v_33, S7) => [(7, S7)]) ?_ (fun hD18 => ?_)
  · clear h hp; rintro ⟨b7_6, v_28, v_31, v_33, S7⟩ E F ⟨h1, h5, h7, h28, h31, h33, q7, kc7, h, hp⟩
    unfold b4d18 at h
    refine RG_eff (rs := [8, 9, 11]) (by kernel_rfl) rfl ?_
    obtain ⟨ha0, ha1, ha2⟩ := h
    simp only [List.mem_cons, List.not_mem_nil, or_false, forall_eq_or_imp, forall_eq]
    refine ⟨?_, ?_, ?_⟩
    · have h := ha0; clear ha0 ha1 ha2
      refine g_op (Sp' := []) rfl rfl (k_call (vs := [(Value.agg v_33)]) cb16 (evC h33 evN) (h.mono ?_))
      clear h; rintro v F ⟨v_34_5, rfl, h⟩
      refine holdI hold0 (fun hp => ?_)
      refine RG_list (l' := #[true, true, true, true, true, true, true, true, true, false, true, false, false, false, false]) (by kernel_rfl) ?_
      exact hD11 (b7_6, v_28, v_31, v_34_5) _ _ ⟨h1, h5, h7, h28, h31, rfl, h, hp⟩
    · have h := ha1; clear ha0 ha1 ha2
      refine g_op (Sp' := [(7, S7)]) rfl rfl (k_alloc zr28 ?_)
      intro b6_5 hf_b6_5
      replace h := atE (h b6_5 hf_b6_5)
      refine holdI (holdC (i := 7) (q7 _ ((row_set_fresh hf_b6_5 kc7))) hold0) (fun hp => ?_)
      refine RG_list (l' := #[true, true, true, true, true, true, true, true, false, true, true, false, false, false, false]) (by kernel_rfl) ?_
      exact hD15 (b6_5, b7_6, v_28, v_31, v_33, _) _ _ ⟨h1, h5, rfl, h7, h28, h31, h33, (fun F hc => q7 F (hc)), (row_set_fresh hf_b6_5 kc7), h, hp⟩
    · have h := ha2; clear ha0 ha1 ha2
      refine g_op (Sp' := [(7, S7)]) rfl rfl (k_alloc zr28 ?_)
      intro b8_6 hf_b8_6
      replace h := atE (h b8_6 hf_b8_6)
      refine holdI (holdC (i := 7) (q7 _ ((row_set_fresh hf_b8_6 kc7))) hold0) (fun hp => ?_)
      refine RG_list (l' := #[true, true, true, true, true, true, true, true, false, false, true, true, false, false, false]) (by kernel_rfl) ?_
      exact hD19 (b7_6, b8_6, v_28, v_31, v_33, _) _ _ ⟨h1, h5, h7, rfl, h28, h31, h33, (fun F hc => q7 F (hc)), (row_set_fresh hf_b8_6 kc7), h, hp⟩
  refine RG_share (A := (Nat) × (Array Value) × (Array Value) × (Array Value) × (World → Prop)) (fun a E F => match a with | (b8_7, v_28, v_31, v_33, S7) => E 1 = (Value.int .u64 c_1) ∧ E 5 = (Value.bool v_25) ∧ E 8 = (Value.pointer (some (Addr.mk b8_7 0 none))) ∧ E 28 = (Value.agg v_28) ∧ E 31 = (Value.agg v_31) ∧ E 33 = (Value.agg v_33) ∧ (∀ F : PH, F.row (Addr.add (Addr.mk b2 0 none) (Int.toNat (2 : Int) * 2)) v_33 → allW F S7) ∧ (F.row (Addr.add (Addr.mk b2 0 none) (Int.toNat (2 : Int) * 2)) v_33) ∧ b4d20 v_33 v_28 v_31 b8_7 c_1 v_25 R F ∧ holdF [(7, S7)] F) 6 #[true, true, true, true, true, true, true, true, false, false, false, true, false, false, false] (fun a => match a with | (b8_7, v_28, v_31, v_33, S7) => [(7, S7)]) ?_ (fun hD20 => ?_)
  · clear h hp; rintro ⟨b8_7, v_28, v_31, v_33, S7⟩ E F ⟨h1, h5, h8, h28, h31, h33, q7, kc7, h, hp⟩
    unfold b4d20 at h
    refine RG_eff (rs := [8, 9, 10]) (by kernel_rfl) rfl ?_
    obtain ⟨ha0, ha1, ha2⟩ := h
    simp only [List.mem_cons, List.not_mem_nil, or_false, forall_eq_or_imp, forall_eq]
    refine ⟨?_, ?_, ?_⟩
    · have h := ha0; clear ha0 ha1 ha2
      refine g_op (Sp' := []) rfl rfl (k_call (vs := [(Value.agg v_33)]) cb16 (evC h33 evN) (h.mono ?_))
      clear h; rintro v F ⟨v_34_7, rfl, h⟩
      refine holdI hold0 (fun hp => ?_)
      refine RG_list (l' := #[true, true, true, true, true, true, true, true, true, false, false, true, false, false, false]) (by kernel_rfl) ?_
      exact hD13 (b8_7, v_28, v_31, v_34_7) _ _ ⟨h1, h5, h8, h28, h31, rfl, h, hp⟩
    · have h := ha1; clear ha0 ha1 ha2
      refine g_op (Sp' := [(7, S7)]) rfl rfl (k_alloc zr28 ?_)
      intro b6_7 hf_b6_7
      replace h := atE (h b6_7 hf_b6_7)
      refine holdI (holdC (i := 7) (q7 _ ((row_set_fresh hf_b6_7 kc7))) hold0) (fun hp => ?_)
      refine RG_list (l' := #[true, true, true, true, true, true, true, true, false, true, false, true, false, false, false]) (by kernel_rfl) ?_
      exact hD17 (b6_7, b8_7, v_28, v_31, v_33, _) _ _ ⟨h1, h5, rfl, h8, h28, h31, h33, (fun F hc => q7 F (hc)), (row_set_fresh hf_b6_7 kc7), h, hp⟩
    · have h := ha2; clear ha0 ha1 ha2
      refine g_op (Sp' := [(7, S7)]) rfl rfl (k_alloc zr28 ?_)
      intro b7_7 hf_b7_7
      replace h := atE (h b7_7 hf_b7_7)
      refine holdI (holdC (i := 7) (q7 _ ((row_set_fresh hf_b7_7 kc7))) hold0) (fun hp => ?_)
      refine RG_list (l' := #[true, true, true, true, true, true, true, true, false, false, true, true, false, false, false]) (by kernel_rfl) ?_
      exact hD19 (b7_7, b8_7, v_28, v_31, v_33, _) _ _ ⟨h1, h5, rfl, h8, h28, h31, h33, (fun F hc => q7 F (hc)), (row_set_fresh hf_b7_7 kc7), h, hp⟩
  refine RG_share (A := (Array Value) × (Array Value) × (Array Value) × (World → Prop)) (fun a E F => match a with | (v_28, v_31, v_33, S7) => E 1 = (Value.int .u64 c_1) ∧ E 5 = (Value.bool v_25) ∧ E 28 = (Value.agg v_28) ∧ E 31 = (Value.agg v_31) ∧ E 33 = (Value.agg v_33) ∧ (∀ F : PH, F.row (Addr.add (Addr.mk b2 0 none) (Int.toNat (2 : Int) * 2)) v_33 → allW F S7) ∧ (F.row (Addr.add (Addr.mk b2 0 none) (Int.toNat (2 : Int) * 2)) v_33) ∧ b4d2 v_33 v_28 v_31 c_1 v_25 R F ∧ holdF [(7, S7)] F) 7 #[true, true, true, true, true, true, true, true, false, false, false, false, false, false, false] (fun a => match a with | (v_28, v_31, v_33, S7) => [(7, S7)]) ?_ (fun hD2 => ?_)
  · clear h hp; rintro ⟨v_28, v_31, v_33, S7⟩ E F ⟨h1, h5, h28, h31, h33, q7, kc7, h, hp⟩
    unfold b4d2 at h
    refine RG_eff (rs := [8, 9, 10, 11]) (by kernel_rfl) rfl ?_
    obtain ⟨ha0, ha1, ha2, ha3⟩ := h
    simp only [List.mem_cons, List.not_mem_nil, or_false, forall_eq_or_imp, forall_eq]
    refine ⟨?_, ?_, ?_, ?_⟩
    · have h := ha0; clear ha0 ha1 ha2 ha3
      refine g_op (Sp' := []) rfl rfl (k_call (vs := [(Value.agg v_33)]) cb16 (evC h33 evN) (h.mono ?_))
      clear h; rintro v F ⟨v_34, rfl, h⟩
      refine holdI hold0 (fun hp => ?_)
      refine RG_list (l' := #[true, true, true, true, true, true, true, true, true, false, false, false, false, false, false]) (by kernel_rfl) ?_
      exact hD3 (v_28, v_31, v_34) _ _ ⟨h1, h5, h28, h31, rfl, h, hp⟩
    · have h := ha1; clear ha0 ha1 ha2 ha3
      refine g_op (Sp' := [(7, S7)]) rfl rfl (k_alloc zr28 ?_)
      intro b6_4 hf_b6_4
      replace h := atE (h b6_4 hf_b6_4)
      refine holdI (holdC (i := 7) (q7 _ ((row_set_fresh hf_b6_4 kc7))) hold0) (fun hp => ?_)
      refine RG_list (l' := #[true, true, true, true, true, true, true, true, false, true, false, false, false, false, false]) (by kernel_rfl) ?_
      exact hD14 (b6_4, v_28, v_31, v_33, _) _ _ ⟨h1, h5, rfl, h28, h31, h33, (fun F hc => q7 F (hc)), (row_set_fresh hf_b6_4 kc7), h, hp⟩
    · have h := ha2; clear ha0 ha1 ha2 ha3
      refine g_op (Sp' := [(7, S7)]) rfl rfl (k_alloc zr28 ?_)
      intro b7_6 hf_b7_6
      replace h := atE (h b7_6 hf_b7_6)
      refine holdI (holdC (i := 7) (q7 _ ((row_set_fresh hf_b7_6 kc7))) hold0) (fun hp => ?_)
      refine RG_list (l' := #[true, true, true, true, true, true, true, true, false, false, true, false, false, false, false]) (by kernel_rfl) ?_
      exact hD18 (b7_6, v_28, v_31, v_33, _) _ _ ⟨h1, h5, rfl, h28, h31, h33, (fun F hc => q7 F (hc)), (row_set_fresh hf_b7_6 kc7), h, hp⟩
    · have h := ha3; clear ha0 ha1 ha2 ha3
      refine g_op (Sp' := [(7, S7)]) rfl rfl (k_alloc zr28 ?_)
      intro b8_7 hf_b8_7
      replace h := atE (h b8_7 hf_b8_7)
      refine holdI (holdC (i := 7) (q7 _ ((row_set_fresh hf_b8_7 kc7))) hold0) (fun hp => ?_)
      refine RG_list (l' := #[true, true, true, true, true, true, true, true, false, false, false, true, false, false, false]) (by kernel_rfl) ?_
      exact hD20 (b8_7, v_28, v_31, v_33, _) _ _ ⟨h1, h5, rfl, h28, h31, h33, (fun F hc => q7 F (hc)), (row_set_fresh hf_b8_7 kc7), h, hp⟩
  refine RG_share (A := (Nat) × (Nat) × (Nat) × (Array Value) × (Array Value) × (Array Value) × (World → Prop) × (World → Prop)) (fun a E F => match a with | (b6_8, b7_8, b8_8, v_28, v_30, v_33, S7, S4) => E 1 = (Value.int .u64 c_1) ∧ E 5 = (Value.bool v_25) ∧ E 6 = (Value.pointer (some (Addr.mk b6_8 0 none))) ∧ E 7 = (Value.pointer (some (Addr.mk b7_8 0 none))) ∧ E 8 = (Value.pointer (some (Addr.mk b8_8 0 none))) ∧ E 28 = (Value.agg v_28) ∧ E 30 = (Value.agg v_30) ∧ E 33 = (Value.agg v_33) ∧ (∀ F : PH, F.row (Addr.add (Addr.mk b2 0 none) (Int.toNat (2 : Int) * 2)) v_33 → allW F S7) ∧ (F.row (Addr.add (Addr.mk b2 0 none) (Int.toNat (2 : Int) * 2)) v_33) ∧ (∀ F : PH, F.row (Addr.add (Addr.mk b2 0 none) (Int.toNat (1 : Int) * 2)) v_30 → allW F S4) ∧ (F.row (Addr.add (Addr.mk b2 0 none) (Int.toNat (1 : Int) * 2)) v_30) ∧ b4d23 v_30 b2 v_33 v_28 b6_8 b7_8 b8_8 c_1 v_25 R F ∧ holdF [(7, S7), (4, S4)] F) 5 #[true, true, true, true, true, false, true, true, false, true, true, true, false, false, false] (fun a => match a with | (b6_8, b7_8, b8_8, v_28, v_30, v_33, S7, S4) => [(7, S7), (4, S4)]) ?_ (fun hD23 => ?_)
  · clear h hp; rintro ⟨b6_8, b7_8, b8_8, v_28, v_30, v_33, S7, S4⟩ E F ⟨h1, h5, h6, h7, h8, h28, h30, h33, q7, kc7, q4, kc4, h, hp⟩
    unfold b4d23 at h
    refine RG_eff1 (i := 5) (by kernel_rfl) (g_op (Sp' := [(7, S7)]) rfl rfl (k_call (vs := [(Value.agg v_30)]) cb16 (evC h30 evN) (h.mono ?_)))
    clear h; rintro v F ⟨v_31_3, rfl, h⟩
    obtain ⟨hk_97, h⟩ := h
    refine holdI (holdC (i := 7) (q7 _ (hk_97)) hold0) (fun hp => ?_)
    refine RG_list (l' := #[true, true, true, true, true, true, true, true, false, true, true, true, false, false, false]) (by kernel_rfl) ?_
    exact hD16 (b6_8, b7_8, b8_8, v_28, v_31_3, v_33, _) _ _ ⟨h1, h5, h6, h7, h8, h28, rfl, h33, (fun F hc => q7 F (hc)), hk_97, h, hp⟩
  refine RG_share (A := (Nat) × (Nat) × (Array Value) × (Array Value) × (Array Value) × (World → Prop) × (World → Prop)) (fun a E F => match a with | (b6_8, b7_8, v_28, v_30, v_33, S7, S4) => E 1 = (Value.int .u64 c_1) ∧ E 5 = (Value.bool v_25) ∧ E 6 = (Value.pointer (some (Addr.mk b6_8 0 none))) ∧ E 7 = (Value.pointer (some (Addr.mk b7_8 0 none))) ∧ E 28 = (Value.agg v_28) ∧ E 30 = (Value.agg v_30) ∧ E 33 = (Value.agg v_33) ∧ (∀ F : PH, F.row (Addr.add (Addr.mk b2 0 none) (Int.toNat (2 : Int) * 2)) v_33 → allW F S7) ∧ (F.row (Addr.add (Addr.mk b2 0 none) (Int.toNat (2 : Int) * 2)) v_33) ∧ (∀ F : PH, F.row (Addr.add (Addr.mk b2 0 none) (Int.toNat (1 : Int) * 2)) v_30 → allW F S4) ∧ (F.row (Addr.add (Addr.mk b2 0 none) (Int.toNat (1 : Int) * 2)) v_30) ∧ b4d22 v_30 b2 v_33 v_28 b6_8 b7_8 c_1 v_25 R F ∧ holdF [(7, S7), (4, S4)] F) 6 #[true, true, true, true, true, false, true, true, false, true, true, false, false, false, false] (fun a => match a with | (b6_8, b7_8, v_28, v_30, v_33, S7, S4) => [(7, S7), (4, S4)]) ?_ (fun hD22 => ?_)
  · clear h hp; rintro ⟨b6_8, b7_8, v_28, v_30, v_33, S7, S4⟩ E F ⟨h1, h5, h6, h7, h28, h30, h33, q7, kc7, q4, kc4, h, hp⟩
    unfold b4d22 at h
    refine RG_eff (rs := [5, 11]) (by kernel_rfl) rfl ?_
    obtain ⟨ha0, ha1⟩ := h
    simp only [List.mem_cons, List.not_mem_nil, or_false, forall_eq_or_imp, forall_eq]
    refine ⟨?_, ?_⟩
    · have h := ha0; clear ha0 ha1
      refine g_op (Sp' := [(7, S7)]) rfl rfl (k_call (vs := [(Value.agg v_30)]) cb16 (evC h30 evN) (h.mono ?_))
      clear h; rintro v F ⟨v_31_2, rfl, h⟩
      obtain ⟨hk_94, h⟩ := h
      refine holdI (holdC (i := 7) (q7 _ (hk_94)) hold0) (fun hp => ?_)
      refine RG_list (l' := #[true, true, true, true, true, true, true, true, false, true, true, false, false, false, false]) (by kernel_rfl) ?_
      exact hD15 (b6_8, b7_8, v_28, v_31_2, v_33, _) _ _ ⟨h1, h5, h6, h7, h28, rfl, h33, (fun F hc => q7 F (hc)), hk_94, h, hp⟩
    · have h := ha1; clear ha0 ha1
      refine g_op (Sp' := [(7, S7), (4, S4)]) rfl rfl (k_alloc zr28 ?_)
      intro b8_8 hf_b8_8
      replace h := atE (h b8_8 hf_b8_8)
      refine holdI (holdC (i := 7) (q7 _ ((row_set_fresh hf_b8_8 kc7))) (holdC (i := 4) (q4 _ ((row_set_fresh hf_b8_8 kc4))) hold0)) (fun hp => ?_)
      refine RG_list (l' := #[true, true, true, true, true, false, true, true, false, true, true, true, false, false, false]) (by kernel_rfl) ?_
      exact hD23 (b6_8, b7_8, b8_8, v_28, v_30, v_33, _, _) _ _ ⟨h1, h5, h6, h7, rfl, h28, h30, h33, (fun F hc => q7 F (hc)), (row_set_fresh hf_b8_8 kc7), (fun F hc => q4 F (hc)), (row_set_fresh hf_b8_8 kc4), h, hp⟩
  refine RG_share (A := (Nat) × (Nat) × (Array Value) × (Array Value) × (Array Value) × (World → Prop) × (World → Prop)) (fun a E F => match a with | (b6_8, b8_9, v_28, v_30, v_33, S7, S4) => E 1 = (Value.int .u64 c_1) ∧ E 5 = (Value.bool v_25) ∧ E 6 = (Value.pointer (some (Addr.mk b6_8 0 none))) ∧ E 8 = (Value.pointer (some (Addr.mk b8_9 0 none))) ∧ E 28 = (Value.agg v_28) ∧ E 30 = (Value.agg v_30) ∧ E 33 = (Value.agg v_33) ∧ (∀ F : PH, F.row (Addr.add (Addr.mk b2 0 none) (Int.toNat (2 : Int) * 2)) v_33 → allW F S7) ∧ (F.row (Addr.add (Addr.mk b2 0 none) (Int.toNat (2 : Int) * 2)) v_33) ∧ (∀ F : PH, F.row (Addr.add (Addr.mk b2 0 none) (Int.toNat (1 : Int) * 2)) v_30 → allW F S4) ∧ (F.row (Addr.add (Addr.mk b2 0 none) (Int.toNat (1 : Int) * 2)) v_30) ∧ b4d24 v_30 b2 v_33 v_28 b6_8 b8_9 c_1 v_25 R F ∧ holdF [(7, S7), (4, S4)] F) 6 #[true, true, true, true, true, false, true, true, false, true, false, true, false, false, false] (fun a => match a with | (b6_8, b8_9, v_28, v_30, v_33, S7, S4) => [(7, S7), (4, S4)]) ?_ (fun hD24 => ?_)
  · clear h hp; rintro ⟨b6_8, b8_9, v_28, v_30, v_33, S7, S4⟩ E F ⟨h1, h5, h6, h8, h28, h30, h33, q7, kc7, q4, kc4, h, hp⟩
    unfold b4d24 at h
    refine RG_eff (rs := [5, 10]) (by kernel_rfl) rfl ?_
    obtain ⟨ha0, ha1⟩ := h
    simp only [List.mem_cons, List.not_mem_nil, or_false, forall_eq_or_imp, forall_eq]
    refine ⟨?_, ?_⟩
    · have h := ha0; clear ha0 ha1
      refine g_op (Sp' := [(7, S7)]) rfl rfl (k_call (vs := [(Value.agg v_30)]) cb16 (evC h30 evN) (h.mono ?_))
      clear h; rintro v F ⟨v_31_4, rfl, h⟩
      obtain ⟨hk_100, h⟩ := h
      refine holdI (holdC (i := 7) (q7 _ (hk_100)) hold0) (fun hp => ?_)
      refine RG_list (l' := #[true, true, true, true, true, true, true, true, false, true, false, true, false, false, false]) (by kernel_rfl) ?_
      exact hD17 (b6_8, b8_9, v_28, v_31_4, v_33, _) _ _ ⟨h1, h5, h6, h8, h28, rfl, h33, (fun F hc => q7 F (hc)), hk_100, h, hp⟩
    · have h := ha1; clear ha0 ha1
      refine g_op (Sp' := [(7, S7), (4, S4)]) rfl rfl (k_alloc zr28 ?_)
      intro b7_9 hf_b7_9
      replace h := atE (h b7_9 hf_b7_9)
      refine holdI (holdC (i := 7) (q7 _ ((row_set_fresh hf_b7_9 kc7))) (holdC (i := 4) (q4 _ ((row_set_fresh hf_b7_9 kc4))) hold0)) (fun hp => ?_)
      refine RG_list (l' := #[true, true, true, true, true, false, true, true, false, true, true, true, false, false, false]) (by kernel_rfl) ?_
      exact hD23 (b6_8, b7_9, b8_9, v_28, v_30, v_33, _, _) _ _ ⟨h1, h5, h6, rfl, h8, h28, h30, h33, (fun F hc => q7 F (hc)), (row_set_fresh hf_b7_9 kc7), (fun F hc => q4 F (hc)), (row_set_fresh hf_b7_9 kc4), h, hp⟩
  refine RG_share (A := (Nat) × (Array Value) × (Array Value) × (Array Value) × (World → Prop) × (World → Prop)) (fun a E F => match a with | (b6_8, v_28, v_30, v_33, S7, S4) => E 1 = (Value.int .u64 c_1) ∧ E 5 = (Value.bool v_25) ∧ E 6 = (Value.pointer (some (Addr.mk b6_8 0 none))) ∧ E 28 = (Value.agg v_28) ∧ E 30 = (Value.agg v_30) ∧ E 33 = (Value.agg v_33) ∧ (∀ F : PH, F.row (Addr.add (Addr.mk b2 0 none) (Int.toNat (2 : Int) * 2)) v_33 → allW F S7) ∧ (F.row (Addr.add (Addr.mk b2 0 none) (Int.toNat (2 : Int) * 2)) v_33) ∧ (∀ F : PH, F.row (Addr.add (Addr.mk b2 0 none) (Int.toNat (1 : Int) * 2)) v_30 → allW F S4) ∧ (F.row (Addr.add (Addr.mk b2 0 none) (Int.toNat (1 : Int) * 2)) v_30) ∧ b4d21 v_30 b2 v_33 v_28 b6_8 c_1 v_25 R F ∧ holdF [(7, S7), (4, S4)] F) 7 #[true, true, true, true, true, false, true, true, false, true, false, false, false, false, false] (fun a => match a with | (b6_8, v_28, v_30, v_33, S7, S4) => [(7, S7), (4, S4)]) ?_ (fun hD21 => ?_)
  · clear h hp; rintro ⟨b6_8, v_28, v_30, v_33, S7, S4⟩ E F ⟨h1, h5, h6, h28, h30, h33, q7, kc7, q4, kc4, h, hp⟩
    unfold b4d21 at h
    refine RG_eff (rs := [5, 10, 11]) (by kernel_rfl) rfl ?_
    obtain ⟨ha0, ha1, ha2⟩ := h
    simp only [List.mem_cons, List.not_mem_nil, or_false, forall_eq_or_imp, forall_eq]
    refine ⟨?_, ?_, ?_⟩
    · have h := ha0; clear ha0 ha1 ha2
      refine g_op (Sp' := [(7, S7)]) rfl rfl (k_call (vs := [(Value.agg v_30)]) cb16 (evC h30 evN) (h.mono ?_))
      clear h; rintro v F ⟨v_31_1, rfl, h⟩
      obtain ⟨hk_91, h⟩ := h
      refine holdI (holdC (i := 7) (q7 _ (hk_91)) hold0) (fun hp => ?_)
      refine RG_list (l' := #[true, true, true, true, true, true, true, true, false, true, false, false, false, false, false]) (by kernel_rfl) ?_
      exact hD14 (b6_8, v_28, v_31_1, v_33, _) _ _ ⟨h1, h5, h6, h28, rfl, h33, (fun F hc => q7 F (hc)), hk_91, h, hp⟩
    · have h := ha1; clear ha0 ha1 ha2
      refine g_op (Sp' := [(7, S7), (4, S4)]) rfl rfl (k_alloc zr28 ?_)
      intro b7_8 hf_b7_8
      replace h := atE (h b7_8 hf_b7_8)
      refine holdI (holdC (i := 7) (q7 _ ((row_set_fresh hf_b7_8 kc7))) (holdC (i := 4) (q4 _ ((row_set_fresh hf_b7_8 kc4))) hold0)) (fun hp => ?_)
      refine RG_list (l' := #[true, true, true, true, true, false, true, true, false, true, true, false, false, false, false]) (by kernel_rfl) ?_
      exact hD22 (b6_8, b7_8, v_28, v_30, v_33, _, _) _ _ ⟨h1, h5, h6, rfl, h28, h30, h33, (fun F hc => q7 F (hc)), (row_set_fresh hf_b7_8 kc7), (fun F hc => q4 F (hc)), (row_set_fresh hf_b7_8 kc4), h, hp⟩
    · have h := ha2; clear ha0 ha1 ha2
      refine g_op (Sp' := [(7, S7), (4, S4)]) rfl rfl (k_alloc zr28 ?_)
      intro b8_9 hf_b8_9
      replace h := atE (h b8_9 hf_b8_9)
      refine holdI (holdC (i := 7) (q7 _ ((row_set_fresh hf_b8_9 kc7))) (holdC (i := 4) (q4 _ ((row_set_fresh hf_b8_9 kc4))) hold0)) (fun hp => ?_)
      refine RG_list (l' := #[true, true, true, true, true, false, true, true, false, true, false, true, false, false, false]) (by kernel_rfl) ?_
      exact hD24 (b6_8, b8_9, v_28, v_30, v_33, _, _) _ _ ⟨h1, h5, h6, rfl, h28, h30, h33, (fun F hc => q7 F (hc)), (row_set_fresh hf_b8_9 kc7), (fun F hc => q4 F (hc)), (row_set_fresh hf_b8_9 kc4), h, hp⟩
  refine RG_share (A := (Nat) × (Nat) × (Array Value) × (Array Value) × (Array Value) × (World → Prop) × (World → Prop)) (fun a E F => match a with | (b7_10, b8_10, v_28, v_30, v_33, S7, S4) => E 1 = (Value.int .u64 c_1) ∧ E 5 = (Value.bool v_25) ∧ E 7 = (Value.pointer (some (Addr.mk b7_10 0 none))) ∧ E 8 = (Value.pointer (some (Addr.mk b8_10 0 none))) ∧ E 28 = (Value.agg v_28) ∧ E 30 = (Value.agg v_30) ∧ E 33 = (Value.agg v_33) ∧ (∀ F : PH, F.row (Addr.add (Addr.mk b2 0 none) (Int.toNat (2 : Int) * 2)) v_33 → allW F S7) ∧ (F.row (Addr.add (Addr.mk b2 0 none) (Int.toNat (2 : Int) * 2)) v_33) ∧ (∀ F : PH, F.row (Addr.add (Addr.mk b2 0 none) (Int.toNat (1 : Int) * 2)) v_30 → allW F S4) ∧ (F.row (Addr.add (Addr.mk b2 0 none) (Int.toNat (1 : Int) * 2)) v_30) ∧ b4d26 v_30 b2 v_33 v_28 b7_10 b8_10 c_1 v_25 R F ∧ holdF [(7, S7), (4, S4)] F) 6 #[true, true, true, true, true, false, true, true, false, false, true, true, false, false, false] (fun a => match a with | (b7_10, b8_10, v_28, v_30, v_33, S7, S4) => [(7, S7), (4, S4)]) ?_ (fun hD26 => ?_)
  · clear h hp; rintro ⟨b7_10, b8_10, v_28, v_30, v_33, S7, S4⟩ E F ⟨h1, h5, h7, h8, h28, h30, h33, q7, kc7, q4, kc4, h, hp⟩
    unfold b4d26 at h
    refine RG_eff (rs := [5, 9]) (by kernel_rfl) rfl ?_
    obtain ⟨ha0, ha1⟩ := h
    simp only [List.mem_cons, List.not_mem_nil, or_false, forall_eq_or_imp, forall_eq]
    refine ⟨?_, ?_⟩
    · have h := ha0; clear ha0 ha1
      refine g_op (Sp' := [(7, S7)]) rfl rfl (k_call (vs := [(Value.agg v_30)]) cb16 (evC h30 evN) (h.mono ?_))
      clear h; rintro v F ⟨v_31_6, rfl, h⟩
      obtain ⟨hk_106, h⟩ := h
      refine holdI (holdC (i := 7) (q7 _ (hk_106)) hold0) (fun hp => ?_)
      refine RG_list (l' := #[true, true, true, true, true, true, true, true, false, false, true, true, false, false, false]) (by kernel_rfl) ?_
      exact hD19 (b7_10, b8_10, v_28, v_31_6, v_33, _) _ _ ⟨h1, h5, h7, h8, h28, rfl, h33, (fun F hc => q7 F (hc)), hk_106, h, hp⟩
    · have h := ha1; clear ha0 ha1
      refine g_op (Sp' := [(7, S7), (4, S4)]) rfl rfl (k_alloc zr28 ?_)
      intro b6_10 hf_b6_10
      replace h := atE (h b6_10 hf_b6_10)
      refine holdI (holdC (i := 7) (q7 _ ((row_set_fresh hf_b6_10 kc7))) (holdC (i := 4) (q4 _ ((row_set_fresh hf_b6_10 kc4))) hold0)) (fun hp => ?_)
      refine RG_list (l' := #[true, true, true, true, true, false, true, true, false, true, true, true, false, false, false]) (by kernel_rfl) ?_
      exact hD23 (b6_10, b7_10, b8_10, v_28, v_30, v_33, _, _) _ _ ⟨h1, h5, rfl, h7, h8, h28, h30, h33, (fun F hc => q7 F (hc)), (row_set_fresh hf_b6_10 kc7), (fun F hc => q4 F (hc)), (row_set_fresh hf_b6_10 kc4), h, hp⟩
  refine RG_share (A := (Nat) × (Array Value) × (Array Value) × (Array Value) × (World → Prop) × (World → Prop)) (fun a E F => match a with | (b7_10, v_28, v_30, v_33, S7, S4) => E 1 = (Value.int .u64 c_1) ∧ E 5 = (Value.bool v_25) ∧ E 7 = (Value.pointer (some (Addr.mk b7_10 0 none))) ∧ E 28 = (Value.agg v_28) ∧ E 30 = (Value.agg v_30) ∧ E 33 = (Value.agg v_33) ∧ (∀ F : PH, F.row (Addr.add (Addr.mk b2 0 none) (Int.toNat (2 : Int) * 2)) v_33 → allW F S7) ∧ (F.row (Addr.add (Addr.mk b2 0 none) (Int.toNat (2 : Int) * 2)) v_33) ∧ (∀ F : PH, F.row (Addr.add (Addr.mk b2 0 none) (Int.toNat (1 : Int) * 2)) v_30 → allW F S4) ∧ (F.row (Addr.add (Addr.mk b2 0 none) (Int.toNat (1 : Int) * 2)) v_30) ∧ b4d25 v_30 b2 v_33 v_28 b7_10 c_1 v_25 R F ∧ holdF [(7, S7), (4, S4)] F) 7 #[true, true, true, true, true, false, true, true, false, false, true, false, false, false, false] (fun a => match a with | (b7_10, v_28, v_30, v_33, S7, S4) => [(7, S7), (4, S4)]) ?_ (fun hD25 => ?_)
  · clear h hp; rintro ⟨b7_10, v_28, v_30, v_33, S7, S4⟩ E F ⟨h1, h5, h7, h28, h30, h33, q7, kc7, q4, kc4, h, hp⟩
    unfold b4d25 at h
    refine RG_eff (rs := [5, 9, 11]) (by kernel_rfl) rfl ?_
    obtain ⟨ha0, ha1, ha2⟩ := h
    simp only [List.mem_cons, List.not_mem_nil, or_false, forall_eq_or_imp, forall_eq]
    refine ⟨?_, ?_, ?_⟩
    · have h := ha0; clear ha0 ha1 ha2
      refine g_op (Sp' := [(7, S7)]) rfl rfl (k_call (vs := [(Value.agg v_30)]) cb16 (evC h30 evN) (h.mono ?_))
      clear h; rintro v F ⟨v_31_5, rfl, h⟩
      obtain ⟨hk_103, h⟩ := h
      refine holdI (holdC (i := 7) (q7 _ (hk_103)) hold0) (fun hp => ?_)
      refine RG_list (l' := #[true, true, true, true, true, true, true, true, false, false, true, false, false, false, false]) (by kernel_rfl) ?_
      exact hD18 (b7_10, v_28, v_31_5, v_33, _) _ _ ⟨h1, h5, h7, h28, rfl, h33, (fun F hc => q7 F (hc)), hk_103, h, hp⟩
    · have h := ha1; clear ha0 ha1 ha2
      refine g_op (Sp' := [(7, S7), (4, S4)]) rfl rfl (k_alloc zr28 ?_)
      intro b6_9 hf_b6_9
      replace h := atE (h b6_9 hf_b6_9)
      refine holdI (holdC (i := 7) (q7 _ ((row_set_fresh hf_b6_9 kc7))) (holdC (i := 4) (q4 _ ((row_set_fresh hf_b6_9 kc4))) hold0)) (fun hp => ?_)
      refine RG_list (l' := #[true, true, true, true, true, false, true, true, false, true, true, false, false, false, false]) (by kernel_rfl) ?_
      exact hD22 (b6_9, b7_10, v_28, v_30, v_33, _, _) _ _ ⟨h1, h5, rfl, h7, h28, h30, h33, (fun F hc => q7 F (hc)), (row_set_fresh hf_b6_9 kc7), (fun F hc => q4 F (hc)), (row_set_fresh hf_b6_9 kc4), h, hp⟩
    · have h := ha2; clear ha0 ha1 ha2
      refine g_op (Sp' := [(7, S7), (4, S4)]) rfl rfl (k_alloc zr28 ?_)
      intro b8_10 hf_b8_10
      replace h := atE (h b8_10 hf_b8_10)
      refine holdI (holdC (i := 7) (q7 _ ((row_set_fresh hf_b8_10 kc7))) (holdC (i := 4) (q4 _ ((row_set_fresh hf_b8_10 kc4))) hold0)) (fun hp => ?_)
      refine RG_list (l' := #[true, true, true, true, true, false, true, true, false, false, true, true, false, false, false]) (by kernel_rfl) ?_
      exact hD26 (b7_10, b8_10, v_28, v_30, v_33, _, _) _ _ ⟨h1, h5, h7, rfl, h28, h30, h33, (fun F hc => q7 F (hc)), (row_set_fresh hf_b8_10 kc7), (fun F hc => q4 F (hc)), (row_set_fresh hf_b8_10 kc4), h, hp⟩
  refine RG_share (A := (Nat) × (Array Value) × (Array Value) × (Array Value) × (World → Prop) × (World → Prop)) (fun a E F => match a with | (b8_11, v_28, v_30, v_33, S7, S4) => E 1 = (Value.int .u64 c_1) ∧ E 5 = (Value.bool v_25) ∧ E 8 = (Value.pointer (some (Addr.mk b8_11 0 none))) ∧ E 28 = (Value.agg v_28) ∧ E 30 = (Value.agg v_30) ∧ E 33 = (Value.agg v_33) ∧ (∀ F : PH, F.row (Addr.add (Addr.mk b2 0 none) (Int.toNat (2 : Int) * 2)) v_33 → allW F S7) ∧ (F.row (Addr.add (Addr.mk b2 0 none) (Int.toNat (2 : Int) * 2)) v_33) ∧ (∀ F : PH, F.row (Addr.add (Addr.mk b2 0 none) (Int.toNat (1 : Int) * 2)) v_30 → allW F S4) ∧ (F.row (Addr.add (Addr.mk b2 0 none) (Int.toNat (1 : Int) * 2)) v_30) ∧ b4d27 v_30 b2 v_33 v_28 b8_11 c_1 v_25 R F ∧ holdF [(7, S7), (4, S4)] F) 7 #[true, true, true, true, true, false, true, true, false, false, false, true, false, false, false] (fun a => match a with | (b8_11, v_28, v_30, v_33, S7, S4) => [(7, S7), (4, S4)]) ?_ (fun hD27 => ?_)
  · clear h hp; rintro ⟨b8_11, v_28, v_30, v_33, S7, S4⟩ E F ⟨h1, h5, h8, h28, h30, h33, q7, kc7, q4, kc4, h, hp⟩
    unfold b4d27 at h
    refine RG_eff (rs := [5, 9, 10]) (by kernel_rfl) rfl ?_
    obtain ⟨ha0, ha1, ha2⟩ := h
    simp only [List.mem_cons, List.not_mem_nil, or_false, forall_eq_or_imp, forall_eq]
    refine ⟨?_, ?_, ?_⟩
    · have h := ha0; clear ha0 ha1 ha2
      refine g_op (Sp' := [(7, S7)]) rfl rfl (k_call (vs := [(Value.agg v_30)]) cb16 (evC h30 evN) (h.mono ?_))
      clear h; rintro v F ⟨v_31_7, rfl, h⟩
      obtain ⟨hk_109, h⟩ := h
      refine holdI (holdC (i := 7) (q7 _ (hk_109)) hold0) (fun hp => ?_)
      refine RG_list (l' := #[true, true, true, true, true, true, true, true, false, false, false, true, false, false, false]) (by kernel_rfl) ?_
      exact hD20 (b8_11, v_28, v_31_7, v_33, _) _ _ ⟨h1, h5, h8, h28, rfl, h33, (fun F hc => q7 F (hc)), hk_109, h, hp⟩
    · have h := ha1; clear ha0 ha1 ha2
      refine g_op (Sp' := [(7, S7), (4, S4)]) rfl rfl (k_alloc zr28 ?_)
      intro b6_11 hf_b6_11
      replace h := atE (h b6_11 hf_b6_11)
      refine holdI (holdC (i := 7) (q7 _ ((row_set_fresh hf_b6_11 kc7))) (holdC (i := 4) (q4 _ ((row_set_fresh hf_b6_11 kc4))) hold0)) (fun hp => ?_)
      refine RG_list (l' := #[true, true, true, true, true, false, true, true, false, true, false, true, false, false, false]) (by kernel_rfl) ?_
      exact hD24 (b6_11, b8_11, v_28, v_30, v_33, _, _) _ _ ⟨h1, h5, rfl, h8, h28, h30, h33, (fun F hc => q7 F (hc)), (row_set_fresh hf_b6_11 kc7), (fun F hc => q4 F (hc)), (row_set_fresh hf_b6_11 kc4), h, hp⟩
    · have h := ha2; clear ha0 ha1 ha2
      refine g_op (Sp' := [(7, S7), (4, S4)]) rfl rfl (k_alloc zr28 ?_)
      intro b7_11 hf_b7_11
      replace h := atE (h b7_11 hf_b7_11)
      refine holdI (holdC (i := 7) (q7 _ ((row_set_fresh hf_b7_11 kc7))) (holdC (i := 4) (q4 _ ((row_set_fresh hf_b7_11 kc4))) hold0)) (fun hp => ?_)
      refine RG_list (l' := #[true, true, true, true, true, false, true, true, false, false, true, true, false, false, false]) (by kernel_rfl) ?_
      exact hD26 (b7_11, b8_11, v_28, v_30, v_33, _, _) _ _ ⟨h1, h5, rfl, h8, h28, h30, h33, (fun F hc => q7 F (hc)), (row_set_fresh hf_b7_11 kc7), (fun F hc => q4 F (hc)), (row_set_fresh hf_b7_11 kc4), h, hp⟩
  refine RG_share (A := (Array Value) × (Array Value) × (Array Value) × (World → Prop) × (World → Prop)) (fun a E F => match a with | (v_28, v_30, v_33, S7, S4) => E 1 = (Value.int .u64 c_1) ∧ E 5 = (Value.bool v_25) ∧ E 28 = (Value.agg v_28) ∧ E 30 = (Value.agg v_30) ∧ E 33 = (Value.agg v_33) ∧ (∀ F : PH, F.row (Addr.add (Addr.mk b2 0 none) (Int.toNat (2 : Int) * 2)) v_33 → allW F S7) ∧ (F.row (Addr.add (Addr.mk b2 0 none) (Int.toNat (2 : Int) * 2)) v_33) ∧ (∀ F : PH, F.row (Addr.add (Addr.mk b2 0 none) (Int.toNat (1 : Int) * 2)) v_30 → allW F S4) ∧ (F.row (Addr.add (Addr.mk b2 0 none) (Int.toNat (1 : Int) * 2)) v_30) ∧ b4d1 v_30 b2 v_33 v_28 c_1 v_25 R F ∧ holdF [(7, S7), (4, S4)] F) 8 #[true, true, true, true, true, false, true, true, false, false, false, false, false, false, false] (fun a => match a with | (v_28, v_30, v_33, S7, S4) => [(7, S7), (4, S4)]) ?_ (fun hD1 => ?_)
  · clear h hp; rintro ⟨v_28, v_30, v_33, S7, S4⟩ E F ⟨h1, h5, h28, h30, h33, q7, kc7, q4, kc4, h, hp⟩
    unfold b4d1 at h
    refine RG_eff (rs := [5, 9, 10, 11]) (by kernel_rfl) rfl ?_
    obtain ⟨ha0, ha1, ha2, ha3⟩ := h
    simp only [List.mem_cons, List.not_mem_nil, or_false, forall_eq_or_imp, forall_eq]
    refine ⟨?_, ?_, ?_, ?_⟩
    · have h := ha0; clear ha0 ha1 ha2 ha3
      refine g_op (Sp' := [(7, S7)]) rfl rfl (k_call (vs := [(Value.agg v_30)]) cb16 (evC h30 evN) (h.mono ?_))
      clear h; rintro v F ⟨v_31, rfl, h⟩
      obtain ⟨hk_74, h⟩ := h
      refine holdI (holdC (i := 7) (q7 _ (hk_74)) hold0) (fun hp => ?_)
      refine RG_list (l' := #[true, true, true, true, true, true, true, true, false, false, false, false, false, false, false]) (by kernel_rfl) ?_
      exact hD2 (v_28, v_31, v_33, _) _ _ ⟨h1, h5, h28, rfl, h33, (fun F hc => q7 F (hc)), hk_74, h, hp⟩
    · have h := ha1; clear ha0 ha1 ha2 ha3
      refine g_op (Sp' := [(7, S7), (4, S4)]) rfl rfl (k_alloc zr28 ?_)
      intro b6_8 hf_b6_8
      replace h := atE (h b6_8 hf_b6_8)
      refine holdI (holdC (i := 7) (q7 _ ((row_set_fresh hf_b6_8 kc7))) (holdC (i := 4) (q4 _ ((row_set_fresh hf_b6_8 kc4))) hold0)) (fun hp => ?_)
      refine RG_list (l' := #[true, true, true, true, true, false, true, true, false, true, false, false, false, false, false]) (by kernel_rfl) ?_
      exact hD21 (b6_8, v_28, v_30, v_33, _, _) _ _ ⟨h1, h5, rfl, h28, h30, h33, (fun F hc => q7 F (hc)), (row_set_fresh hf_b6_8 kc7), (fun F hc => q4 F (hc)), (row_set_fresh hf_b6_8 kc4), h, hp⟩
    · have h := ha2; clear ha0 ha1 ha2 ha3
      refine g_op (Sp' := [(7, S7), (4, S4)]) rfl rfl (k_alloc zr28 ?_)
      intro b7_10 hf_b7_10
      replace h := atE (h b7_10 hf_b7_10)
      refine holdI (holdC (i := 7) (q7 _ ((row_set_fresh hf_b7_10 kc7))) (holdC (i := 4) (q4 _ ((row_set_fresh hf_b7_10 kc4))) hold0)) (fun hp => ?_)
      refine RG_list (l' := #[true, true, true, true, true, false, true, true, false, false, true, false, false, false, false]) (by kernel_rfl) ?_
      exact hD25 (b7_10, v_28, v_30, v_33, _, _) _ _ ⟨h1, h5, rfl, h28, h30, h33, (fun F hc => q7 F (hc)), (row_set_fresh hf_b7_10 kc7), (fun F hc => q4 F (hc)), (row_set_fresh hf_b7_10 kc4), h, hp⟩
    · have h := ha3; clear ha0 ha1 ha2 ha3
      refine g_op (Sp' := [(7, S7), (4, S4)]) rfl rfl (k_alloc zr28 ?_)
      intro b8_11 hf_b8_11
      replace h := atE (h b8_11 hf_b8_11)
      refine holdI (holdC (i := 7) (q7 _ ((row_set_fresh hf_b8_11 kc7))) (holdC (i := 4) (q4 _ ((row_set_fresh hf_b8_11 kc4))) hold0)) (fun hp => ?_)
      refine RG_list (l' := #[true, true, true, true, true, false, true, true, false, false, false, true, false, false, false]) (by kernel_rfl) ?_
      exact hD27 (b8_11, v_28, v_30, v_33, _, _) _ _ ⟨h1, h5, rfl, h28, h30, h33, (fun F hc => q7 F (hc)), (row_set_fresh hf_b8_11 kc7), (fun F hc => q4 F (hc)), (row_set_fresh hf_b8_11 kc4), h, hp⟩
  refine RG_share (A := (Nat) × (Nat) × (Nat) × (Array Value) × (Array Value) × (Array Value) × (World → Prop) × (World → Prop) × (World → Prop)) (fun a E F => match a with | (b6_12, b7_12, b8_12, v_27, v_30, v_33, S7, S4, S1) => E 1 = (Value.int .u64 c_1) ∧ E 5 = (Value.bool v_25) ∧ E 6 = (Value.pointer (some (Addr.mk b6_12 0 none))) ∧ E 7 = (Value.pointer (some (Addr.mk b7_12 0 none))) ∧ E 8 = (Value.pointer (some (Addr.mk b8_12 0 none))) ∧ E 27 = (Value.agg v_27) ∧ E 30 = (Value.agg v_30) ∧ E 33 = (Value.agg v_33) ∧ (∀ F : PH, F.row (Addr.add (Addr.mk b2 0 none) (Int.toNat (2 : Int) * 2)) v_33 → allW F S7) ∧ (F.row (Addr.add (Addr.mk b2 0 none) (Int.toNat (2 : Int) * 2)) v_33) ∧ (∀ F : PH, F.row (Addr.add (Addr.mk b2 0 none) (Int.toNat (1 : Int) * 2)) v_30 → allW F S4) ∧ (F.row (Addr.add (Addr.mk b2 0 none) (Int.toNat (1 : Int) * 2)) v_30) ∧ (∀ F : PH, F.row (Addr.add (Addr.mk b2 0 none) (Int.toNat (0 : Int) * 2)) v_27 → allW F S1) ∧ (F.row (Addr.add (Addr.mk b2 0 none) (Int.toNat (0 : Int) * 2)) v_27) ∧ b4d30 v_27 b2 v_33 v_30 b6_12 b7_12 b8_12 c_1 v_25 R F ∧ holdF [(7, S7), (4, S4), (1, S1)] F) 6 #[true, true, false, true, true, false, true, true, false, true, true, true, false, false, false] (fun a => match a with | (b6_12, b7_12, b8_12, v_27, v_30, v_33, S7, S4, S1) => [(7, S7), (4, S4), (1, S1)]) ?_ (fun hD30 => ?_)
  · clear h hp; rintro ⟨b6_12, b7_12, b8_12, v_27, v_30, v_33, S7, S4, S1⟩ E F ⟨h1, h5, h6, h7, h8, h27, h30, h33, q7, kc7, q4, kc4, q1, kc1, h, hp⟩
    unfold b4d30 at h
    refine RG_eff1 (i := 2) (by kernel_rfl) (g_op (Sp' := [(7, S7), (4, S4)]) rfl rfl (k_call (vs := [(Value.agg v_27)]) cb16 (evC h27 evN) (h.mono ?_)))
    clear h; rintro v F ⟨v_28_3, rfl, h⟩
    obtain ⟨hk_123, hk_124, h⟩ := h
    refine holdI (holdC (i := 7) (q7 _ (hk_123)) (holdC (i := 4) (q4 _ (hk_124)) hold0)) (fun hp => ?_)
    refine RG_list (l' := #[true, true, true, true, true, false, true, true, false, true, true, true, false, false, false]) (by kernel_rfl) ?_
    exact hD23 (b6_12, b7_12, b8_12, v_28_3, v_30, v_33, _, _) _ _ ⟨h1, h5, h6, h7, h8, rfl, h30, h33, (fun F hc => q7 F (hc)), hk_123, (fun F hc => q4 F (hc)), hk_124, h, hp⟩
  refine RG_share (A := (Nat) × (Nat) × (Array Value) × (Array Value) × (Array Value) × (World → Prop) × (World → Prop) × (World → Prop)) (fun a E F => match a with | (b6_12, b7_12, v_27, v_30, v_33, S7, S4, S1) => E 1 = (Value.int .u64 c_1) ∧ E 5 = (Value.bool v_25) ∧ E 6 = (Value.pointer (some (Addr.mk b6_12 0 none))) ∧ E 7 = (Value.pointer (some (Addr.mk b7_12 0 none))) ∧ E 27 = (Value.agg v_27) ∧ E 30 = (Value.agg v_30) ∧ E 33 = (Value.agg v_33) ∧ (∀ F : PH, F.row (Addr.add (Addr.mk b2 0 none) (Int.toNat (2 : Int) * 2)) v_33 → allW F S7) ∧ (F.row (Addr.add (Addr.mk b2 0 none) (Int.toNat (2 : Int) * 2)) v_33) ∧ (∀ F : PH, F.row (Addr.add (Addr.mk b2 0 none) (Int.toNat (1 : Int) * 2)) v_30 → allW F S4) ∧ (F.row (Addr.add (Addr.mk b2 0 none) (Int.toNat (1 : Int) * 2)) v_30) ∧ (∀ F : PH, F.row (Addr.add (Addr.mk b2 0 none) (Int.toNat (0 : Int) * 2)) v_27 → allW F S1) ∧ (F.row (Addr.add (Addr.mk b2 0 none) (Int.toNat (0 : Int) * 2)) v_27) ∧ b4d29 v_27 b2 v_33 v_30 b6_12 b7_12 c_1 v_25 R F ∧ holdF [(7, S7), (4, S4), (1, S1)] F) 7 #[true, true, false, true, true, false, true, true, false, true, true, false, false, false, false] (fun a => match a with | (b6_12, b7_12, v_27, v_30, v_33, S7, S4, S1) => [(7, S7), (4, S4), (1, S1)]) ?_ (fun hD29 => ?_)
  · clear h hp; rintro ⟨b6_12, b7_12, v_27, v_30, v_33, S7, S4, S1⟩ E F ⟨h1, h5, h6, h7, h27, h30, h33, q7, kc7, q4, kc4, q1, kc1, h, hp⟩
    unfold b4d29 at h
    refine RG_eff (rs := [2, 11]) (by kernel_rfl) rfl ?_
    obtain ⟨ha0, ha1⟩ := h
    simp only [List.mem_cons, List.not_mem_nil, or_false, forall_eq_or_imp, forall_eq]
    refine ⟨?_, ?_⟩
    · have h := ha0; clear ha0 ha1
      refine g_op (Sp' := [(7, S7), (4, S4)]) rfl rfl (k_call (vs := [(Value.agg v_27)]) cb16 (evC h27 evN) (h.mono ?_))
      clear h; rintro v F ⟨v_28_2, rfl, h⟩
      obtain ⟨hk_118, hk_119, h⟩ := h
      refine holdI (holdC (i := 7) (q7 _ (hk_118)) (holdC (i := 4) (q4 _ (hk_119)) hold0)) (fun hp => ?_)
      refine RG_list (l' := #[true, true, true, true, true, false, true, true, false, true, true, false, false, false, false]) (by kernel_rfl) ?_
      exact hD22 (b6_12, b7_12, v_28_2, v_30, v_33, _, _) _ _ ⟨h1, h5, h6, h7, rfl, h30, h33, (fun F hc => q7 F (hc)), hk_118, (fun F hc => q4 F (hc)), hk_119, h, hp⟩
    · have h := ha1; clear ha0 ha1
      refine g_op (Sp' := [(7, S7), (4, S4), (1, S1)]) rfl rfl (k_alloc zr28 ?_)
      intro b8_12 hf_b8_12
      replace h := atE (h b8_12 hf_b8_12)
      refine holdI (holdC (i := 7) (q7 _ ((row_set_fresh hf_b8_12 kc7))) (holdC (i := 4) (q4 _ ((row_set_fresh hf_b8_12 kc4))) (holdC (i := 1) (q1 _ ((row_set_fresh hf_b8_12 kc1))) hold0))) (fun hp => ?_)
      refine RG_list (l' := #[true, true, false, true, true, false, true, true, false, true, true, true, false, false, false]) (by kernel_rfl) ?_
      exact hD30 (b6_12, b7_12, b8_12, v_27, v_30, v_33, _, _, _) _ _ ⟨h1, h5, h6, h7, rfl, h27, h30, h33, (fun F hc => q7 F (hc)), (row_set_fresh hf_b8_12 kc7), (fun F hc => q4 F (hc)), (row_set_fresh hf_b8_12 kc4), (fun F hc => q1 F (hc)), (row_set_fresh hf_b8_12 kc1), h, hp⟩
  refine RG_share (A := (Nat) × (Nat) × (Array Value) × (Array Value) × (Array Value) × (World → Prop) × (World → Prop) × (World → Prop)) (fun a E F => match a with | (b6_12, b8_13, v_27, v_30, v_33, S7, S4, S1) => E 1 = (Value.int .u64 c_1) ∧ E 5 = (Value.bool v_25) ∧ E 6 = (Value.pointer (some (Addr.mk b6_12 0 none))) ∧ E 8 = (Value.pointer (some (Addr.mk b8_13 0 none))) ∧ E 27 = (Value.agg v_27) ∧ E 30 = (Value.agg v_30) ∧ E 33 = (Value.agg v_33) ∧ (∀ F : PH, F.row (Addr.add (Addr.mk b2 0 none) (Int.toNat (2 : Int) * 2)) v_33 → allW F S7) ∧ (F.row (Addr.add (Addr.mk b2 0 none) (Int.toNat (2 : Int) * 2)) v_33) ∧ (∀ F : PH, F.row (Addr.add (Addr.mk b2 0 none) (Int.toNat (1 : Int) * 2)) v_30 → allW F S4) ∧ (F.row (Addr.add (Addr.mk b2 0 none) (Int.toNat (1 : Int) * 2)) v_30) ∧ (∀ F : PH, F.row (Addr.add (Addr.mk b2 0 none) (Int.toNat (0 : Int) * 2)) v_27 → allW F S1) ∧ (F.row (Addr.add (Addr.mk b2 0 none) (Int.toNat (0 : Int) * 2)) v_27) ∧ b4d31 v_27 b2 v_33 v_30 b6_12 b8_13 c_1 v_25 R F ∧ holdF [(7, S7), (4, S4), (1, S1)] F) 7 #[true, true, false, true, true, false, true, true, false, true, false, true, false, false, false] (fun a => match a with | (b6_12, b8_13, v_27, v_30, v_33, S7, S4, S1) => [(7, S7), (4, S4), (1, S1)]) ?_ (fun hD31 => ?_)
  · clear h hp; rintro ⟨b6_12, b8_13, v_27, v_30, v_33, S7, S4, S1⟩ E F ⟨h1, h5, h6, h8, h27, h30, h33, q7, kc7, q4, kc4, q1, kc1, h, hp⟩
    unfold b4d31 at h
    refine RG_eff (rs := [2, 10]) (by kernel_rfl) rfl ?_
    obtain ⟨ha0, ha1⟩ := h
    simp only [List.mem_cons, List.not_mem_nil, or_false, forall_eq_or_imp, forall_eq]
    refine ⟨?_, ?_⟩
    · have h := ha0; clear ha0 ha1
      refine g_op (Sp' := [(7, S7), (4, S4)]) rfl rfl (k_call (vs := [(Value.agg v_27)]) cb16 (evC h27 evN) (h.mono ?_))
      clear h; rintro v F ⟨v_28_4, rfl, h⟩
      obtain ⟨hk_128, hk_129, h⟩ := h
      refine holdI (holdC (i := 7) (q7 _ (hk_128)) (holdC (i := 4) (q4 _ (hk_129)) hold0)) (fun hp => ?_)
      refine RG_list (l' := #[true, true, true, true, true, false, true, true, false, true, false, true, false, false, false]) (by kernel_rfl) ?_
      exact hD24 (b6_12, b8_13, v_28_4, v_30, v_33, _, _) _ _ ⟨h1, h5, h6, h8, rfl, h30, h33, (fun F hc => q7 F (hc)), hk_128, (fun F hc => q4 F (hc)), hk_129, h, hp⟩
    · have h := ha1; clear ha0 ha1
      refine g_op (Sp' := [(7, S7), (4, S4), (1, S1)]) rfl rfl (k_alloc zr28 ?_)
      intro b7_13 hf_b7_13
      replace h := atE (h b7_13 hf_b7_13)
      refine holdI (holdC (i := 7) (q7 _ ((row_set_fresh hf_b7_13 kc7))) (holdC (i := 4) (q4 _ ((row_set_fresh hf_b7_13 kc4))) (holdC (i := 1) (q1 _ ((row_set_fresh hf_b7_13 kc1))) hold0))) (fun hp => ?_)
      refine RG_list (l' := #[true, true, false, true, true, false, true, true, false, true, true, true, false, false, false]) (by kernel_rfl) ?_
      exact hD30 (b6_12, b7_13, b8_13, v_27, v_30, v_33, _, _, _) _ _ ⟨h1, h5, h6, rfl, h8, h27, h30, h33, (fun F hc => q7 F (hc)), (row_set_fresh hf_b7_13 kc7), (fun F hc => q4 F (hc)), (row_set_fresh hf_b7_13 kc4), (fun F hc => q1 F (hc)), (row_set_fresh hf_b7_13 kc1), h, hp⟩
  refine RG_share (A := (Nat) × (Array Value) × (Array Value) × (Array Value) × (World → Prop) × (World → Prop) × (World → Prop)) (fun a E F => match a with | (b6_12, v_27, v_30, v_33, S7, S4, S1) => E 1 = (Value.int .u64 c_1) ∧ E 5 = (Value.bool v_25) ∧ E 6 = (Value.pointer (some (Addr.mk b6_12 0 none))) ∧ E 27 = (Value.agg v_27) ∧ E 30 = (Value.agg v_30) ∧ E 33 = (Value.agg v_33) ∧ (∀ F : PH, F.row (Addr.add (Addr.mk b2 0 none) (Int.toNat (2 : Int) * 2)) v_33 → allW F S7) ∧ (F.row (Addr.add (Addr.mk b2 0 none) (Int.toNat (2 : Int) * 2)) v_33) ∧ (∀ F : PH, F.row (Addr.add (Addr.mk b2 0 none) (Int.toNat (1 : Int) * 2)) v_30 → allW F S4) ∧ (F.row (Addr.add (Addr.mk b2 0 none) (Int.toNat (1 : Int) * 2)) v_30) ∧ (∀ F : PH, F.row (Addr.add (Addr.mk b2 0 none) (Int.toNat (0 : Int) * 2)) v_27 → allW F S1) ∧ (F.row (Addr.add (Addr.mk b2 0 none) (Int.toNat (0 : Int) * 2)) v_27) ∧ b4d28 v_27 b2 v_33 v_30 b6_12 c_1 v_25 R F ∧ holdF [(7, S7), (4, S4), (1, S1)] F) 8 #[true, true, false, true, true, false, true, true, false, true, false, false, false, false, false] (fun a => match a with | (b6_12, v_27, v_30, v_33, S7, S4, S1) => [(7, S7), (4, S4), (1, S1)]) ?_ (fun hD28 => ?_)
  · clear h hp; rintro ⟨b6_12, v_27, v_30, v_33, S7, S4, S1⟩ E F ⟨h1, h5, h6, h27, h30, h33, q7, kc7, q4, kc4, q1, kc1, h, hp⟩
    unfold b4d28 at h
    refine RG_eff (rs := [2, 10, 11]) (by kernel_rfl) rfl ?_
    obtain ⟨ha0, ha1, ha2⟩ := h
    simp only [List.mem_cons, List.not_mem_nil, or_false, forall_eq_or_imp, forall_eq]
    refine ⟨?_, ?_, ?_⟩
    · have h := ha0; clear ha0 ha1 ha2
      refine g_op (Sp' := [(7, S7), (4, S4)]) rfl rfl (k_call (vs := [(Value.agg v_27)]) cb16 (evC h27 evN) (h.mono ?_))
      clear h; rintro v F ⟨v_28_1, rfl, h⟩
      obtain ⟨hk_113, hk_114, h⟩ := h
      refine holdI (holdC (i := 7) (q7 _ (hk_113)) (holdC (i := 4) (q4 _ (hk_114)) hold0)) (fun hp => ?_)
      refine RG_list (l' := #[true, true, true, true, true, false, true, true, false, true, false, false, false, false, false]) (by kernel_rfl) ?_
      exact hD21 (b6_12, v_28_1, v_30, v_33, _, _) _ _ ⟨h1, h5, h6, rfl, h30, h33, (fun F hc => q7 F (hc)), hk_113, (fun F hc => q4 F (hc)), hk_114, h, hp⟩
    · have h := ha1; clear ha0 ha1 ha2
      refine g_op (Sp' := [(7, S7), (4, S4), (1, S1)]) rfl rfl (k_alloc zr28 ?_)
      intro b7_12 hf_b7_12
      replace h := atE (h b7_12 hf_b7_12)
      refine holdI (holdC (i := 7) (q7 _ ((row_set_fresh hf_b7_12 kc7))) (holdC (i := 4) (q4 _ ((row_set_fresh hf_b7_12 kc4))) (holdC (i := 1) (q1 _ ((row_set_fresh hf_b7_12 kc1))) hold0))) (fun hp => ?_)
      refine RG_list (l' := #[true, true, false, true, true, false, true, true, false, true, true, false, false, false, false]) (by kernel_rfl) ?_
      exact hD29 (b6_12, b7_12, v_27, v_30, v_33, _, _, _) _ _ ⟨h1, h5, h6, rfl, h27, h30, h33, (fun F hc => q7 F (hc)), (row_set_fresh hf_b7_12 kc7), (fun F hc => q4 F (hc)), (row_set_fresh hf_b7_12 kc4), (fun F hc => q1 F (hc)), (row_set_fresh hf_b7_12 kc1), h, hp⟩
    · have h := ha2; clear ha0 ha1 ha2
      refine g_op (Sp' := [(7, S7), (4, S4), (1, S1)]) rfl rfl (k_alloc zr28 ?_)
      intro b8_13 hf_b8_13
      replace h := atE (h b8_13 hf_b8_13)
      refine holdI (holdC (i := 7) (q7 _ ((row_set_fresh hf_b8_13 kc7))) (holdC (i := 4) (q4 _ ((row_set_fresh hf_b8_13 kc4))) (holdC (i := 1) (q1 _ ((row_set_fresh hf_b8_13 kc1))) hold0))) (fun hp => ?_)
      refine RG_list (l' := #[true, true, false, true, true, false, true, true, false, true, false, true, false, false, false]) (by kernel_rfl) ?_
      exact hD31 (b6_12, b8_13, v_27, v_30, v_33, _, _, _) _ _ ⟨h1, h5, h6, rfl, h27, h30, h33, (fun F hc => q7 F (hc)), (row_set_fresh hf_b8_13 kc7), (fun F hc => q4 F (hc)), (row_set_fresh hf_b8_13 kc4), (fun F hc => q1 F (hc)), (row_set_fresh hf_b8_13 kc1), h, hp⟩
  refine RG_share (A := (Nat) × (Nat) × (Array Value) × (Array Value) × (Array Value) × (World → Prop) × (World → Prop) × (World → Prop)) (fun a E F => match a with | (b7_14, b8_14, v_27, v_30, v_33, S7, S4, S1) => E 1 = (Value.int .u64 c_1) ∧ E 5 = (Value.bool v_25) ∧ E 7 = (Value.pointer (some (Addr.mk b7_14 0 none))) ∧ E 8 = (Value.pointer (some (Addr.mk b8_14 0 none))) ∧ E 27 = (Value.agg v_27) ∧ E 30 = (Value.agg v_30) ∧ E 33 = (Value.agg v_33) ∧ (∀ F : PH, F.row (Addr.add (Addr.mk b2 0 none) (Int.toNat (2 : Int) * 2)) v_33 → allW F S7) ∧ (F.row (Addr.add (Addr.mk b2 0 none) (Int.toNat (2 : Int) * 2)) v_33) ∧ (∀ F : PH, F.row (Addr.add (Addr.mk b2 0 none) (Int.toNat (1 : Int) * 2)) v_30 → allW F S4) ∧ (F.row (Addr.add (Addr.mk b2 0 none) (Int.toNat (1 : Int) * 2)) v_30) ∧ (∀ F : PH, F.row (Addr.add (Addr.mk b2 0 none) (Int.toNat (0 : Int) * 2)) v_27 → allW F S1) ∧ (F.row (Addr.add (Addr.mk b2 0 none) (Int.toNat (0 : Int) * 2)) v_27) ∧ b4d33 v_27 b2 v_33 v_30 b7_14 b8_14 c_1 v_25 R F ∧ holdF [(7, S7), (4, S4), (1, S1)] F) 7 #[true, true, false, true, true, false, true, true, false, false, true, true, false, false, false] (fun a => match a with | (b7_14, b8_14, v_27, v_30, v_33, S7, S4, S1) => [(7, S7), (4, S4), (1, S1)]) ?_ (fun hD33 => ?_)
  · clear h hp; rintro ⟨b7_14, b8_14, v_27, v_30, v_33, S7, S4, S1⟩ E F ⟨h1, h5, h7, h8, h27, h30, h33, q7, kc7, q4, kc4, q1, kc1, h, hp⟩
    unfold b4d33 at h
    refine RG_eff (rs := [2, 9]) (by kernel_rfl) rfl ?_
    obtain ⟨ha0, ha1⟩ := h
    simp only [List.mem_cons, List.not_mem_nil, or_false, forall_eq_or_imp, forall_eq]
    refine ⟨?_, ?_⟩
    · have h := ha0; clear ha0 ha1
      refine g_op (Sp' := [(7, S7), (4, S4)]) rfl rfl (k_call (vs := [(Value.agg v_27)]) cb16 (evC h27 evN) (h.mono ?_))
      clear h; rintro v F ⟨v_28_6, rfl, h⟩
      obtain ⟨hk_138, hk_139, h⟩ := h
      refine holdI (holdC (i := 7) (q7 _ (hk_138)) (holdC (i := 4) (q4 _ (hk_139)) hold0)) (fun hp => ?_)
      refine RG_list (l' := #[true, true, true, true, true, false, true, true, false, false, true, true, false, false, false]) (by kernel_rfl) ?_
      exact hD26 (b7_14, b8_14, v_28_6, v_30, v_33, _, _) _ _ ⟨h1, h5, h7, h8, rfl, h30, h33, (fun F hc => q7 F (hc)), hk_138, (fun F hc => q4 F (hc)), hk_139, h, hp⟩
    · have h := ha1; clear ha0 ha1
      refine g_op (Sp' := [(7, S7), (4, S4), (1, S1)]) rfl rfl (k_alloc zr28 ?_)
      intro b6_14 hf_b6_14
      replace h := atE (h b6_14 hf_b6_14)
      refine holdI (holdC (i := 7) (q7 _ ((row_set_fresh hf_b6_14 kc7))) (holdC (i := 4) (q4 _ ((row_set_fresh hf_b6_14 kc4))) (holdC (i := 1) (q1 _ ((row_set_fresh hf_b6_14 kc1))) hold0))) (fun hp => ?_)
      refine RG_list (l' := #[true, true, false, true, true, false, true, true, false, true, true, true, false, false, false]) (by kernel_rfl) ?_
      exact hD30 (b6_14, b7_14, b8_14, v_27, v_30, v_33, _, _, _) _ _ ⟨h1, h5, rfl, h7, h8, h27, h30, h33, (fun F hc => q7 F (hc)), (row_set_fresh hf_b6_14 kc7), (fun F hc => q4 F (hc)), (row_set_fresh hf_b6_14 kc4), (fun F hc => q1 F (hc)), (row_set_fresh hf_b6_14 kc1), h, hp⟩
  refine RG_share (A := (Nat) × (Array Value) × (Array Value) × (Array Value) × (World → Prop) × (World → Prop) × (World → Prop)) (fun a E F => match a with | (b7_14, v_27, v_30, v_33, S7, S4, S1) => E 1 = (Value.int .u64 c_1) ∧ E 5 = (Value.bool v_25) ∧ E 7 = (Value.pointer (some (Addr.mk b7_14 0 none))) ∧ E 27 = (Value.agg v_27) ∧ E 30 = (Value.agg v_30) ∧ E 33 = (Value.agg v_33) ∧ (∀ F : PH, F.row (Addr.add (Addr.mk b2 0 none) (Int.toNat (2 : Int) * 2)) v_33 → allW F S7) ∧ (F.row (Addr.add (Addr.mk b2 0 none) (Int.toNat (2 : Int) * 2)) v_33) ∧ (∀ F : PH, F.row (Addr.add (Addr.mk b2 0 none) (Int.toNat (1 : Int) * 2)) v_30 → allW F S4) ∧ (F.row (Addr.add (Addr.mk b2 0 none) (Int.toNat (1 : Int) * 2)) v_30) ∧ (∀ F : PH, F.row (Addr.add (Addr.mk b2 0 none) (Int.toNat (0 : Int) * 2)) v_27 → allW F S1) ∧ (F.row (Addr.add (Addr.mk b2 0 none) (Int.toNat (0 : Int) * 2)) v_27) ∧ b4d32 v_27 b2 v_33 v_30 b7_14 c_1 v_25 R F ∧ holdF [(7, S7), (4, S4), (1, S1)] F) 8 #[true, true, false, true, true, false, true, true, false, false, true, false, false, false, false] (fun a => match a with | (b7_14, v_27, v_30, v_33, S7, S4, S1) => [(7, S7), (4, S4), (1, S1)]) ?_ (fun hD32 => ?_)
  · clear h hp; rintro ⟨b7_14, v_27, v_30, v_33, S7, S4, S1⟩ E F ⟨h1, h5, h7, h27, h30, h33, q7, kc7, q4, kc4, q1, kc1, h, hp⟩
    unfold b4d32 at h
    refine RG_eff (rs := [2, 9, 11]) (by kernel_rfl) rfl ?_
    obtain ⟨ha0, ha1, ha2⟩ := h
    simp only [List.mem_cons, List.not_mem_nil, or_false, forall_eq_or_imp, forall_eq]
    refine ⟨?_, ?_, ?_⟩
    · have h := ha0; clear ha0 ha1 ha2
      refine g_op (Sp' := [(7, S7), (4, S4)]) rfl rfl (k_call (vs := [(Value.agg v_27)]) cb16 (evC h27 evN) (h.mono ?_))
      clear h; rintro v F ⟨v_28_5, rfl, h⟩
      obtain ⟨hk_133, hk_134, h⟩ := h
      refine holdI (holdC (i := 7) (q7 _ (hk_133)) (holdC (i := 4) (q4 _ (hk_134)) hold0)) (fun hp => ?_)
      refine RG_list (l' := #[true, true, true, true, true, false, true, true, false, false, true, false, false, false, false]) (by kernel_rfl) ?_
      exact hD25 (b7_14, v_28_5, v_30, v_33, _, _) _ _ ⟨h1, h5, h7, rfl, h30, h33, (fun F hc => q7 F (hc)), hk_133, (fun F hc => q4 F (hc)), hk_134, h, hp⟩
    · have h := ha1; clear ha0 ha1 ha2
      refine g_op (Sp' := [(7, S7), (4, S4), (1, S1)]) rfl rfl (k_alloc zr28 ?_)
      intro b6_13 hf_b6_13
      replace h := atE (h b6_13 hf_b6_13)
      refine holdI (holdC (i := 7) (q7 _ ((row_set_fresh hf_b6_13 kc7))) (holdC (i := 4) (q4 _ ((row_set_fresh hf_b6_13 kc4))) (holdC (i := 1) (q1 _ ((row_set_fresh hf_b6_13 kc1))) hold0))) (fun hp => ?_)
      refine RG_list (l' := #[true, true, false, true, true, false, true, true, false, true, true, false, false, false, false]) (by kernel_rfl) ?_
      exact hD29 (b6_13, b7_14, v_27, v_30, v_33, _, _, _) _ _ ⟨h1, h5, rfl, h7, h27, h30, h33, (fun F hc => q7 F (hc)), (row_set_fresh hf_b6_13 kc7), (fun F hc => q4 F (hc)), (row_set_fresh hf_b6_13 kc4), (fun F hc => q1 F (hc)), (row_set_fresh hf_b6_13 kc1), h, hp⟩
    · have h := ha2; clear ha0 ha1 ha2
      refine g_op (Sp' := [(7, S7), (4, S4), (1, S1)]) rfl rfl (k_alloc zr28 ?_)
      intro b8_14 hf_b8_14
      replace h := atE (h b8_14 hf_b8_14)
      refine holdI (holdC (i := 7) (q7 _ ((row_set_fresh hf_b8_14 kc7))) (holdC (i := 4) (q4 _ ((row_set_fresh hf_b8_14 kc4))) (holdC (i := 1) (q1 _ ((row_set_fresh hf_b8_14 kc1))) hold0))) (fun hp => ?_)
      refine RG_list (l' := #[true, true, false, true, true, false, true, true, false, false, true, true, false, false, false]) (by kernel_rfl) ?_
      exact hD33 (b7_14, b8_14, v_27, v_30, v_33, _, _, _) _ _ ⟨h1, h5, h7, rfl, h27, h30, h33, (fun F hc => q7 F (hc)), (row_set_fresh hf_b8_14 kc7), (fun F hc => q4 F (hc)), (row_set_fresh hf_b8_14 kc4), (fun F hc => q1 F (hc)), (row_set_fresh hf_b8_14 kc1), h, hp⟩
  refine RG_share (A := (Nat) × (Array Value) × (Array Value) × (Array Value) × (World → Prop) × (World → Prop) × (World → Prop)) (fun a E F => match a with | (b8_15, v_27, v_30, v_33, S7, S4, S1) => E 1 = (Value.int .u64 c_1) ∧ E 5 = (Value.bool v_25) ∧ E 8 = (Value.pointer (some (Addr.mk b8_15 0 none))) ∧ E 27 = (Value.agg v_27) ∧ E 30 = (Value.agg v_30) ∧ E 33 = (Value.agg v_33) ∧ (∀ F : PH, F.row (Addr.add (Addr.mk b2 0 none) (Int.toNat (2 : Int) * 2)) v_33 → allW F S7) ∧ (F.row (Addr.add (Addr.mk b2 0 none) (Int.toNat (2 : Int) * 2)) v_33) ∧ (∀ F : PH, F.row (Addr.add (Addr.mk b2 0 none) (Int.toNat (1 : Int) * 2)) v_30 → allW F S4) ∧ (F.row (Addr.add (Addr.mk b2 0 none) (Int.toNat (1 : Int) * 2)) v_30) ∧ (∀ F : PH, F.row (Addr.add (Addr.mk b2 0 none) (Int.toNat (0 : Int) * 2)) v_27 → allW F S1) ∧ (F.row (Addr.add (Addr.mk b2 0 none) (Int.toNat (0 : Int) * 2)) v_27) ∧ b4d34 v_27 b2 v_33 v_30 b8_15 c_1 v_25 R F ∧ holdF [(7, S7), (4, S4), (1, S1)] F) 8 #[true, true, false, true, true, false, true, true, false, false, false, true, false, false, false] (fun a => match a with | (b8_15, v_27, v_30, v_33, S7, S4, S1) => [(7, S7), (4, S4), (1, S1)]) ?_ (fun hD34 => ?_)
  · clear h hp; rintro ⟨b8_15, v_27, v_30, v_33, S7, S4, S1⟩ E F ⟨h1, h5, h8, h27, h30, h33, q7, kc7, q4, kc4, q1, kc1, h, hp⟩
    unfold b4d34 at h
    refine RG_eff (rs := [2, 9, 10]) (by kernel_rfl) rfl ?_
    obtain ⟨ha0, ha1, ha2⟩ := h
    simp only [List.mem_cons, List.not_mem_nil, or_false, forall_eq_or_imp, forall_eq]
    refine ⟨?_, ?_, ?_⟩
    · have h := ha0; clear ha0 ha1 ha2
      refine g_op (Sp' := [(7, S7), (4, S4)]) rfl rfl (k_call (vs := [(Value.agg v_27)]) cb16 (evC h27 evN) (h.mono ?_))
      clear h; rintro v F ⟨v_28_7, rfl, h⟩
      obtain ⟨hk_143, hk_144, h⟩ := h
      refine holdI (holdC (i := 7) (q7 _ (hk_143)) (holdC (i := 4) (q4 _ (hk_144)) hold0)) (fun hp => ?_)
      refine RG_list (l' := #[true, true, true, true, true, false, true, true, false, false, false, true, false, false, false]) (by kernel_rfl) ?_
      exact hD27 (b8_15, v_28_7, v_30, v_33, _, _) _ _ ⟨h1, h5, h8, rfl, h30, h33, (fun F hc => q7 F (hc)), hk_143, (fun F hc => q4 F (hc)), hk_144, h, hp⟩
    · have h := ha1; clear ha0 ha1 ha2
      refine g_op (Sp' := [(7, S7), (4, S4), (1, S1)]) rfl rfl (k_alloc zr28 ?_)
      intro b6_15 hf_b6_15
      replace h := atE (h b6_15 hf_b6_15)
      refine holdI (holdC (i := 7) (q7 _ ((row_set_fresh hf_b6_15 kc7))) (holdC (i := 4) (q4 _ ((row_set_fresh hf_b6_15 kc4))) (holdC (i := 1) (q1 _ ((row_set_fresh hf_b6_15 kc1))) hold0))) (fun hp => ?_)
      refine RG_list (l' := #[true, true, false, true, true, false, true, true, false, true, false, true, false, false, false]) (by kernel_rfl) ?_
      exact hD31 (b6_15, b8_15, v_27, v_30, v_33, _, _, _) _ _ ⟨h1, h5, rfl, h8, h27, h30, h33, (fun F hc => q7 F (hc)), (row_set_fresh hf_b6_15 kc7), (fun F hc => q4 F (hc)), (row_set_fresh hf_b6_15 kc4), (fun F hc => q1 F (hc)), (row_set_fresh hf_b6_15 kc1), h, hp⟩
    · have h := ha2; clear ha0 ha1 ha2
      refine g_op (Sp' := [(7, S7), (4, S4), (1, S1)]) rfl rfl (k_alloc zr28 ?_)
      intro b7_15 hf_b7_15
      replace h := atE (h b7_15 hf_b7_15)
      refine holdI (holdC (i := 7) (q7 _ ((row_set_fresh hf_b7_15 kc7))) (holdC (i := 4) (q4 _ ((row_set_fresh hf_b7_15 kc4))) (holdC (i := 1) (q1 _ ((row_set_fresh hf_b7_15 kc1))) hold0))) (fun hp => ?_)
      refine RG_list (l' := #[true, true, false, true, true, false, true, true, false, false, true, true, false, false, false]) (by kernel_rfl) ?_
      exact hD33 (b7_15, b8_15, v_27, v_30, v_33, _, _, _) _ _ ⟨h1, h5, rfl, h8, h27, h30, h33, (fun F hc => q7 F (hc)), (row_set_fresh hf_b7_15 kc7), (fun F hc => q4 F (hc)), (row_set_fresh hf_b7_15 kc4), (fun F hc => q1 F (hc)), (row_set_fresh hf_b7_15 kc1), h, hp⟩
  obtain ⟨hl26, hu26, h⟩ := h
  refine g_pu (i := 0) (v := (Value.pointer (some (Addr.add (Addr.mk b2 0 none) (Int.toNat (0 : Int) * 2))))) rfl (by kernel_rfl) (by kernel_rfl) (by kernel_rfl) (fun _ _ _ h => h) (fun _ => r_indexAddrAr rfl rfl rfl underlying43 sz24 hl26 (by exact hu26)) hp ?_
  obtain ⟨v_27, hs27, hc27, h⟩ := h
  refine g_rd (i := 1) (v := (Value.agg v_27)) rfl (by kernel_rfl) (by kernel_rfl) (by kernel_rfl) (fun _ _ _ h => h) (w_loadN rfl underlying24 rfl sz24 hs27 hc27) hp (fun S1 q1 => ?_)
  replace hp := holdC (i := 1) (q1 _ (w_loadN rfl underlying24 rfl sz24 hs27 hc27)) hp
  obtain ⟨hl29, hu29, h⟩ := h
  refine g_pu (i := 3) (v := (Value.pointer (some (Addr.add (Addr.mk b2 0 none) (Int.toNat (1 : Int) * 2))))) rfl (by kernel_rfl) (by kernel_rfl) (by kernel_rfl) (fun _ _ _ h => h) (fun _ => r_indexAddrAr rfl rfl rfl underlying43 sz24 hl29 (by exact hu29)) hp ?_
  obtain ⟨v_30, hs30, hc30, h⟩ := h
  refine g_rd (i := 4) (v := (Value.agg v_30)) rfl (by kernel_rfl) (by kernel_rfl) (by kernel_rfl) (fun _ _ _ h => h) (w_loadN rfl underlying24 rfl sz24 hs30 hc30) hp (fun S4 q4 => ?_)
  replace hp := holdC (i := 4) (q4 _ (w_loadN rfl underlying24 rfl sz24 hs30 hc30)) hp
  obtain ⟨hl32, hu32, h⟩ := h
  refine g_pu (i := 6) (v := (Value.pointer (some (Addr.add (Addr.mk b2 0 none) (Int.toNat (2 : Int) * 2))))) rfl (by kernel_rfl) (by kernel_rfl) (by kernel_rfl) (fun _ _ _ h => h) (fun _ => r_indexAddrAr rfl rfl rfl underlying43 sz24 hl32 (by exact hu32)) hp ?_
  obtain ⟨v_33, hs33, hc33, h⟩ := h
  refine g_rd (i := 7) (v := (Value.agg v_33)) rfl (by kernel_rfl) (by kernel_rfl) (by kernel_rfl) (fun _ _ _ h => h) (w_loadN rfl underlying24 rfl sz24 hs33 hc33) hp (fun S7 q7 => ?_)
  replace hp := holdC (i := 7) (q7 _ (w_loadN rfl underlying24 rfl sz24 hs33 hc33)) hp
  refine RG_eff (rs := [2, 9, 10, 11]) (by kernel_rfl) rfl ?_
  obtain ⟨ha0, ha1, ha2, ha3⟩ := h
  simp only [List.mem_cons, List.not_mem_nil, or_false, forall_eq_or_imp, forall_eq]
  refine ⟨?_, ?_, ?_, ?_⟩
  · have h := ha0; clear ha0 ha1 ha2 ha3
    refine g_op (Sp' := [(7, S7), (4, S4)]) rfl rfl (k_call (vs := [(Value.agg v_27)]) cb16 (evC rfl evN) (h.mono ?_))
    clear h; rintro v F ⟨v_28, rfl, h⟩
    obtain ⟨hk_70, hk_71, h⟩ := h
    refine holdI (holdC (i := 7) (q7 _ (w_loadN rfl underlying24 rfl sz24 hs33 hk_70)) (holdC (i := 4) (q4 _ (w_loadN rfl underlying24 rfl sz24 hs30 hk_71)) hold0)) (fun hp => ?_)
    refine RG_list (l' := #[true, true, true, true, true, false, true, true, false, false, false, false, false, false, false]) (by kernel_rfl) ?_
    exact hD1 (v_28, v_30, v_33, _, _) _ _ ⟨rfl, rfl, rfl, rfl, rfl, (fun F hc => q7 F (w_loadN rfl underlying24 rfl sz24 hs33 hc)), hk_70, (fun F hc => q4 F (w_loadN rfl underlying24 rfl sz24 hs30 hc)), hk_71, h, hp⟩
  · have h := ha1; clear ha0 ha1 ha2 ha3
    refine g_op (Sp' := [(7, S7), (4, S4), (1, S1)]) rfl rfl (k_alloc zr28 ?_)
    intro b6_12 hf_b6_12
    replace h := atE (h b6_12 hf_b6_12)
    refine holdI (holdC (i := 7) (q7 _ (w_loadN rfl underlying24 rfl sz24 hs33 (row_set_fresh hf_b6_12 hc33))) (holdC (i := 4) (q4 _ (w_loadN rfl underlying24 rfl sz24 hs30 (row_set_fresh hf_b6_12 hc30))) (holdC (i := 1) (q1 _ (w_loadN rfl underlying24 rfl sz24 hs27 (row_set_fresh hf_b6_12 hc27))) hold0))) (fun hp => ?_)
    refine RG_list (l' := #[true, true, false, true, true, false, true, true, false, true, false, false, false, false, false]) (by kernel_rfl) ?_
    exact hD28 (b6_12, v_27, v_30, v_33, _, _, _) _ _ ⟨rfl, rfl, rfl, rfl, rfl, rfl, (fun F hc => q7 F (w_loadN rfl underlying24 rfl sz24 hs33 hc)), (row_set_fresh hf_b6_12 hc33), (fun F hc => q4 F (w_loadN rfl underlying24 rfl sz24 hs30 hc)), (row_set_fresh hf_b6_12 hc30), (fun F hc => q1 F (w_loadN rfl underlying24 rfl sz24 hs27 hc)), (row_set_fresh hf_b6_12 hc27), h, hp⟩
  · have h := ha2; clear ha0 ha1 ha2 ha3
    refine g_op (Sp' := [(7, S7), (4, S4), (1, S1)]) rfl rfl (k_alloc zr28 ?_)
    intro b7_14 hf_b7_14
    replace h := atE (h b7_14 hf_b7_14)
    refine holdI (holdC (i := 7) (q7 _ (w_loadN rfl underlying24 rfl sz24 hs33 (row_set_fresh hf_b7_14 hc33))) (holdC (i := 4) (q4 _ (w_loadN rfl underlying24 rfl sz24 hs30 (row_set_fresh hf_b7_14 hc30))) (holdC (i := 1) (q1 _ (w_loadN rfl underlying24 rfl sz24 hs27 (row_set_fresh hf_b7_14 hc27))) hold0))) (fun hp => ?_)
    refine RG_list (l' := #[true, true, false, true, true, false, true, true, false, false, true, false, false, false, false]) (by kernel_rfl) ?_
    exact hD32 (b7_14, v_27, v_30, v_33, _, _, _) _ _ ⟨rfl, rfl, rfl, rfl, rfl, rfl, (fun F hc => q7 F (w_loadN rfl underlying24 rfl sz24 hs33 hc)), (row_set_fresh hf_b7_14 hc33), (fun F hc => q4 F (w_loadN rfl underlying24 rfl sz24 hs30 hc)), (row_set_fresh hf_b7_14 hc30), (fun F hc => q1 F (w_loadN rfl underlying24 rfl sz24 hs27 hc)), (row_set_fresh hf_b7_14 hc27), h, hp⟩
  · have h := ha3; clear ha0 ha1 ha2 ha3
    refine g_op (Sp' := [(7, S7), (4, S4), (1, S1)]) rfl rfl (k_alloc zr28 ?_)
    intro b8_15 hf_b8_15
    replace h := atE (h b8_15 hf_b8_15)
    refine holdI (holdC (i := 7) (q7 _ (w_loadN rfl underlying24 rfl sz24 hs33 (row_set_fresh hf_b8_15 hc33))) (holdC (i := 4) (q4 _ (w_loadN rfl underlying24 rfl sz24 hs30 (row_set_fresh hf_b8_15 hc30))) (holdC (i := 1) (q1 _ (w_loadN rfl underlying24 rfl sz24 hs27 (row_set_fresh hf_b8_15 hc27))) hold0))) (fun hp => ?_)
    refine RG_list (l' := #[true, true, false, true, true, false, true, true, false, false, false, true, false, false, false]) (by kernel_rfl) ?_
    exact hD34 (b8_15, v_27, v_30, v_33, _, _, _) _ _ ⟨rfl, rfl, rfl, rfl, rfl, rfl, (fun F hc => q7 F (w_loadN rfl underlying24 rfl sz24 hs33 hc)), (row_set_fresh hf_b8_15 hc33), (fun F hc => q4 F (w_loadN rfl underlying24 rfl sz24 hs30 hc)), (row_set_fresh hf_b8_15 hc30), (fun F hc => q1 F (w_loadN rfl underlying24 rfl sz24 hs27 hc)), (row_set_fresh hf_b8_15 hc27), h, hp⟩

end Go.Proofs.Ytafojmoeaneedaa
