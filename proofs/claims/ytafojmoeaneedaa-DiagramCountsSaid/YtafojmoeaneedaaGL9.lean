/-
  What functions of the program do, in a clean form, each with the proof that its code does so. Printed by a program.
-/
import Derived.Test.YtafojmoeaneedaaGf
namespace Go.Proofs.Ytafojmoeaneedaa
open Go Go.Proofs.Try
set_option maxRecDepth 10000
set_option maxHeartbeats 4000000
/- 9 koine.koinelaw02.DiagramCounts -/
def b9j1 (n_2 : Int) (v_37 : Bool) (a_8 : Option Addr) (b_9 : Option Addr) (R : Value → PH → Prop) (F : PH) : Prop :=
  ∃ a8a_ : Addr, a_8 = some a8a_ ∧ ∃ v_47 : Array Value, v_47.size = 2 ∧ F.row a8a_ v_47 ∧
  Spec prog 25 #[(Value.agg v_47)] F fun v F => ∃ v_48 : Array Value, ∃ v_48_1 : Int, v = (Value.tuple #[(Value.agg v_48), (Value.int .i64 v_48_1)]) ∧
  ∀ b11, F b11 = none → atF (F.set b11 (.cells (#[Value.slice none 0 0, Value.int .i64 0]) 28)) fun F =>
  v_48.size = 2 ∧ (∀ v ∈ v_48.toList, storable v) ∧ ∃ c e, F (Addr.mk b11 0 none).block = some (.cells c e (0, 0)) ∧ (Addr.mk b11 0 none).spot = none ∧ (Addr.mk b11 0 none).off + 2 ≤ c.size ∧
  atF (F.set (Addr.mk b11 0 none).block (.cells (wr c (Addr.mk b11 0 none).off v_48.toList) e)) fun F =>
  ∃ v_52 : Array Value, v_52.size = 2 ∧ F.row a8a_ v_52 ∧
  ∃ b9a_ : Addr, b_9 = some b9a_ ∧ ∃ v_53 : Array Value, v_53.size = 2 ∧ F.row b9a_ v_53 ∧
  Spec prog 19 #[(Value.agg v_52), (Value.agg v_53)] F fun v F => ∃ v_54 : Array Value, ∃ v_54_1 : Int, v = (Value.tuple #[(Value.agg v_54), (Value.int .i64 v_54_1)]) ∧
  ∀ b13, F b13 = none → atF (F.set b13 (.cells (#[Value.slice none 0 0, Value.int .i64 0]) 28)) fun F =>
  v_54.size = 2 ∧ (∀ v ∈ v_54.toList, storable v) ∧ ∃ c e, F (Addr.mk b13 0 none).block = some (.cells c e (0, 0)) ∧ (Addr.mk b13 0 none).spot = none ∧ (Addr.mk b13 0 none).off + 2 ≤ c.size ∧
  atF (F.set (Addr.mk b13 0 none).block (.cells (wr c (Addr.mk b13 0 none).off v_54.toList) e)) fun F =>
  ∃ v_58 : Array Value, v_58.size = 2 ∧ F.row a8a_ v_58 ∧
  ∃ v_59 : Array Value, v_59.size = 2 ∧ F.row b9a_ v_59 ∧
  Spec prog 22 #[(Value.agg v_58), (Value.agg v_59)] F fun v F => ∃ v_60 : Array Value, ∃ v_60_1 : Int, v = (Value.tuple #[(Value.agg v_60), (Value.int .i64 v_60_1)]) ∧
  ∀ b15, F b15 = none → atF (F.set b15 (.cells (#[Value.slice none 0 0, Value.int .i64 0]) 28)) fun F =>
  v_60.size = 2 ∧ (∀ v ∈ v_60.toList, storable v) ∧ ∃ c e, F (Addr.mk b15 0 none).block = some (.cells c e (0, 0)) ∧ (Addr.mk b15 0 none).spot = none ∧ (Addr.mk b15 0 none).off + 2 ≤ c.size ∧
  atF (F.set (Addr.mk b15 0 none).block (.cells (wr c (Addr.mk b15 0 none).off v_60.toList) e)) fun F =>
  ∃ v_64 : Array Value, v_64.size = 2 ∧ F.row a8a_ v_64 ∧
  Spec prog 32 #[(Value.agg v_64), (Value.int .i64 (IntKind.i64.wrap ((6 : Int) + (IntKind.i64.wrap (Int.tmod n_2 (58 : Int))))))] F fun v F => ∃ v_66 : Sl, ∃ v_66_1 : Int, v = (Value.tuple #[(Sl.v v_66), (Value.int .i64 v_66_1)]) ∧
  ∃ v_70 : Array Value, v_70.size = 2 ∧ F.row b9a_ v_70 ∧
  Spec prog 32 #[(Value.agg v_70), (Value.int .i64 (IntKind.i64.wrap ((6 : Int) + (IntKind.i64.wrap (Int.tmod n_2 (58 : Int))))))] F fun v F => ∃ v_72 : Sl, ∃ v_72_1 : Int, v = (Value.tuple #[(Sl.v v_72), (Value.int .i64 v_72_1)]) ∧
  ∃ v_76 : Array Value, v_76.size = 2 ∧ F.row (Addr.mk b11 0 none) v_76 ∧
  Spec prog 32 #[(Value.agg v_76), (Value.int .i64 (IntKind.i64.wrap ((6 : Int) + (IntKind.i64.wrap (Int.tmod n_2 (58 : Int))))))] F fun v F => ∃ v_78 : Sl, ∃ v_78_1 : Int, v = (Value.tuple #[(Sl.v v_78), (Value.int .i64 v_78_1)]) ∧
  ∃ v_82 : Array Value, v_82.size = 2 ∧ F.row (Addr.mk b13 0 none) v_82 ∧
  Spec prog 32 #[(Value.agg v_82), (Value.int .i64 (IntKind.i64.wrap ((6 : Int) + (IntKind.i64.wrap (Int.tmod n_2 (58 : Int))))))] F fun v F => ∃ v_84 : Sl, ∃ v_84_1 : Int, v = (Value.tuple #[(Sl.v v_84), (Value.int .i64 v_84_1)]) ∧
  ∃ v_88 : Array Value, v_88.size = 2 ∧ F.row (Addr.mk b15 0 none) v_88 ∧
  Spec prog 32 #[(Value.agg v_88), (Value.int .i64 (IntKind.i64.wrap ((6 : Int) + (IntKind.i64.wrap (Int.tmod n_2 (58 : Int))))))] F fun v F => ∃ v_90 : Sl, ∃ v_90_1 : Int, v = (Value.tuple #[(Sl.v v_90), (Value.int .i64 v_90_1)]) ∧
  ∃ v_94 : Array Value, v_94.size = 2 ∧ F.row a8a_ v_94 ∧
  Spec prog 32 #[(Value.agg v_94), (Value.int .i64 (IntKind.i64.wrap ((IntKind.i64.wrap ((6 : Int) + (IntKind.i64.wrap (Int.tmod n_2 (58 : Int))))) + (1 : Int))))] F fun v F => ∃ v_97 : Sl, ∃ v_97_1 : Int, v = (Value.tuple #[(Sl.v v_97), (Value.int .i64 v_97_1)]) ∧
  ((v_66_1 ≠ (0 : Int) →
    R (Value.bool false) F) ∧
  (¬ (v_66_1 ≠ (0 : Int)) →
    ((v_72_1 ≠ (0 : Int) →
      R (Value.bool false) F) ∧
    (¬ (v_72_1 ≠ (0 : Int)) →
      ((v_78_1 ≠ (0 : Int) →
        R (Value.bool false) F) ∧
      (¬ (v_78_1 ≠ (0 : Int)) →
        ((v_84_1 ≠ (0 : Int) →
          R (Value.bool false) F) ∧
        (¬ (v_84_1 ≠ (0 : Int)) →
          ((v_90_1 ≠ (0 : Int) →
            R (Value.bool false) F) ∧
          (¬ (v_90_1 ≠ (0 : Int)) →
            ((v_97_1 ≠ (0 : Int) →
              R (Value.bool false) F) ∧
            (¬ (v_97_1 ≠ (0 : Int)) →
              Spec prog 33 #[(Sl.v v_66), (Sl.v v_78)] F fun v F => ∃ v_125 : Sl, ∃ v_125_1 : Int, v = (Value.tuple #[(Sl.v v_125), (Value.int .i64 v_125_1)]) ∧
              Spec prog 33 #[(Sl.v v_66), (Sl.v v_72)] F fun v F => ∃ v_131 : Sl, ∃ v_131_1 : Int, v = (Value.tuple #[(Sl.v v_131), (Value.int .i64 v_131_1)]) ∧
              Spec prog 33 #[(Sl.v v_84), (Sl.v v_90)] F fun v F => ∃ v_137 : Sl, ∃ v_137_1 : Int, v = (Value.tuple #[(Sl.v v_137), (Value.int .i64 v_137_1)]) ∧
              Spec prog 33 #[(Sl.v v_66), (Sl.v v_66)] F fun v F => ∃ v_143 : Sl, ∃ v_143_1 : Int, v = (Value.tuple #[(Sl.v v_143), (Value.int .i64 v_143_1)]) ∧
              0 ≤ (IntKind.u64.wrap (IntKind.i64.wrap ((6 : Int) + (IntKind.i64.wrap (Int.tmod n_2 (58 : Int)))))) ∧ Spec prog 35 #[(Value.int .u64 (IntKind.u64.wrap ((1 : Int) * 2 ^ (min (Int.toNat (IntKind.u64.wrap (IntKind.i64.wrap ((6 : Int) + (IntKind.i64.wrap (Int.tmod n_2 (58 : Int))))))) (IntKind.u64).bits))))] F fun v F => ∃ v_150 : Sl, v = (Sl.v v_150) ∧
              Spec prog 34 #[(Sl.v v_125), (Sl.v v_150)] F fun v F => ∃ v_151 : Int, v = (Value.int .i64 v_151) ∧
              ((v_151 = (0 : Int) →
                Spec prog 34 #[(Sl.v v_131), (Sl.v v_137)] F fun v F => ∃ v_156 : Int, v = (Value.int .i64 v_156) ∧
                ((v_156 = (0 : Int) →
                  Spec prog 34 #[(Sl.v v_143), (Sl.v v_97)] F fun v F => ∃ v_162 : Int, v = (Value.int .i64 v_162) ∧
                  ((v_162 = (0 : Int) →
                    R (Value.bool v_37) F) ∧
                  (¬ (v_162 = (0 : Int)) →
                    R (Value.bool false) F))) ∧
                (¬ (v_156 = (0 : Int)) →
                  R (Value.bool false) F))) ∧
              (¬ (v_151 = (0 : Int)) →
                R (Value.bool false) F))))))))))))))
abbrev b9J1 (n_2 : Int) (v_37 : Bool) (R : Value → PH → Prop) (E : En) (F : PH) : Prop := ∃ a_8 : Option Addr, ∃ b_9 : Option Addr, E 2 = (Value.int .u8 n_2) ∧ E 7 = (Value.bool v_37) ∧ E 8 = (Value.pointer a_8) ∧ E 9 = (Value.pointer b_9) ∧ b9j1 n_2 v_37 a_8 b_9 R F
def b9 (s_0 : Array Value) (t_1 : Array Value) (n_2 : Int) (R : Value → PH → Prop) (F : PH) : Prop :=
  ∀ b3, F b3 = none → atF (F.set b3 (.cells s_0 24)) fun F =>
  ∀ b4, F b4 = none → atF (F.set b4 (.cells t_1 24)) fun F =>
  Spec prog 15 #[] F fun v F => ∃ v_37 : Bool, v = (Value.bool v_37) ∧
  ∃ v_38 : Array Value, v_38.size = 2 ∧ F.row (Addr.mk b3 0 none) v_38 ∧
  ∃ v_40 : Array Value, v_40.size = 2 ∧ F.row (Addr.mk b4 0 none) v_40 ∧
  ((Spec prog 16 #[(Value.agg v_38)] F fun v F => ∃ v_39 : Array Value, v = (Value.agg v_39) ∧
  F.row (Addr.mk b4 0 none) v_40 ∧ ((Spec prog 16 #[(Value.agg v_40)] F fun v F => ∃ v_41 : Array Value, v = (Value.agg v_41) ∧
  ((∀ b8, F b8 = none → atF (F.set b8 (.cells (#[Value.slice none 0 0, Value.int .i64 0]) 28)) fun F =>
  ∀ b9, F b9 = none → atF (F.set b9 (.cells (#[Value.slice none 0 0, Value.int .i64 0]) 28)) fun F =>
  v_39.size = 2 ∧ (∀ v ∈ v_39.toList, storable v) ∧ ∃ c e, F (Addr.mk b8 0 none).block = some (.cells c e (0, 0)) ∧ (Addr.mk b8 0 none).spot = none ∧ (Addr.mk b8 0 none).off + 2 ≤ c.size ∧
  atF (F.set (Addr.mk b8 0 none).block (.cells (wr c (Addr.mk b8 0 none).off v_39.toList) e)) fun F =>
  v_41.size = 2 ∧ (∀ v ∈ v_41.toList, storable v) ∧ ∃ c e, F (Addr.mk b9 0 none).block = some (.cells c e (0, 0)) ∧ (Addr.mk b9 0 none).spot = none ∧ (Addr.mk b9 0 none).off + 2 ≤ c.size ∧
  atF (F.set (Addr.mk b9 0 none).block (.cells (wr c (Addr.mk b9 0 none).off v_41.toList) e)) fun F =>
  b9j1 n_2 v_37 (some (Addr.mk b8 0 none)) (some (Addr.mk b9 0 none)) R F) ∧
  (∀ b9_1, F b9_1 = none → atF (F.set b9_1 (.cells (#[Value.slice none 0 0, Value.int .i64 0]) 28)) fun F =>
  ∀ b8_1, F b8_1 = none → atF (F.set b8_1 (.cells (#[Value.slice none 0 0, Value.int .i64 0]) 28)) fun F =>
  v_39.size = 2 ∧ (∀ v ∈ v_39.toList, storable v) ∧ ∃ c e, F (Addr.mk b8_1 0 none).block = some (.cells c e (0, 0)) ∧ (Addr.mk b8_1 0 none).spot = none ∧ (Addr.mk b8_1 0 none).off + 2 ≤ c.size ∧
  atF (F.set (Addr.mk b8_1 0 none).block (.cells (wr c (Addr.mk b8_1 0 none).off v_39.toList) e)) fun F =>
  v_41.size = 2 ∧ (∀ v ∈ v_41.toList, storable v) ∧ ∃ c e, F (Addr.mk b9_1 0 none).block = some (.cells c e (0, 0)) ∧ (Addr.mk b9_1 0 none).spot = none ∧ (Addr.mk b9_1 0 none).off + 2 ≤ c.size ∧
  atF (F.set (Addr.mk b9_1 0 none).block (.cells (wr c (Addr.mk b9_1 0 none).off v_41.toList) e)) fun F =>
  b9j1 n_2 v_37 (some (Addr.mk b8_1 0 none)) (some (Addr.mk b9_1 0 none)) R F))) ∧
  (∀ b8_2, F b8_2 = none → atF (F.set b8_2 (.cells (#[Value.slice none 0 0, Value.int .i64 0]) 28)) fun F =>
  ((Spec prog 16 #[(Value.agg v_40)] F fun v F => ∃ v_41_1 : Array Value, v = (Value.agg v_41_1) ∧
  ∀ b9_2, F b9_2 = none → atF (F.set b9_2 (.cells (#[Value.slice none 0 0, Value.int .i64 0]) 28)) fun F =>
  v_39.size = 2 ∧ (∀ v ∈ v_39.toList, storable v) ∧ ∃ c e, F (Addr.mk b8_2 0 none).block = some (.cells c e (0, 0)) ∧ (Addr.mk b8_2 0 none).spot = none ∧ (Addr.mk b8_2 0 none).off + 2 ≤ c.size ∧
  atF (F.set (Addr.mk b8_2 0 none).block (.cells (wr c (Addr.mk b8_2 0 none).off v_39.toList) e)) fun F =>
  v_41_1.size = 2 ∧ (∀ v ∈ v_41_1.toList, storable v) ∧ ∃ c e, F (Addr.mk b9_2 0 none).block = some (.cells c e (0, 0)) ∧ (Addr.mk b9_2 0 none).spot = none ∧ (Addr.mk b9_2 0 none).off + 2 ≤ c.size ∧
  atF (F.set (Addr.mk b9_2 0 none).block (.cells (wr c (Addr.mk b9_2 0 none).off v_41_1.toList) e)) fun F =>
  b9j1 n_2 v_37 (some (Addr.mk b8_2 0 none)) (some (Addr.mk b9_2 0 none)) R F) ∧
  (∀ b9_3, F b9_3 = none → atF (F.set b9_3 (.cells (#[Value.slice none 0 0, Value.int .i64 0]) 28)) fun F =>
  Spec prog 16 #[(Value.agg v_40)] F fun v F => ∃ v_41_2 : Array Value, v = (Value.agg v_41_2) ∧
  v_39.size = 2 ∧ (∀ v ∈ v_39.toList, storable v) ∧ ∃ c e, F (Addr.mk b8_2 0 none).block = some (.cells c e (0, 0)) ∧ (Addr.mk b8_2 0 none).spot = none ∧ (Addr.mk b8_2 0 none).off + 2 ≤ c.size ∧
  atF (F.set (Addr.mk b8_2 0 none).block (.cells (wr c (Addr.mk b8_2 0 none).off v_39.toList) e)) fun F =>
  v_41_2.size = 2 ∧ (∀ v ∈ v_41_2.toList, storable v) ∧ ∃ c e, F (Addr.mk b9_3 0 none).block = some (.cells c e (0, 0)) ∧ (Addr.mk b9_3 0 none).spot = none ∧ (Addr.mk b9_3 0 none).off + 2 ≤ c.size ∧
  atF (F.set (Addr.mk b9_3 0 none).block (.cells (wr c (Addr.mk b9_3 0 none).off v_41_2.toList) e)) fun F =>
  b9j1 n_2 v_37 (some (Addr.mk b8_2 0 none)) (some (Addr.mk b9_3 0 none)) R F))) ∧
  (∀ b9_4, F b9_4 = none → atF (F.set b9_4 (.cells (#[Value.slice none 0 0, Value.int .i64 0]) 28)) fun F =>
  ((Spec prog 16 #[(Value.agg v_40)] F fun v F => ∃ v_41_3 : Array Value, v = (Value.agg v_41_3) ∧
  ∀ b8_3, F b8_3 = none → atF (F.set b8_3 (.cells (#[Value.slice none 0 0, Value.int .i64 0]) 28)) fun F =>
  v_39.size = 2 ∧ (∀ v ∈ v_39.toList, storable v) ∧ ∃ c e, F (Addr.mk b8_3 0 none).block = some (.cells c e (0, 0)) ∧ (Addr.mk b8_3 0 none).spot = none ∧ (Addr.mk b8_3 0 none).off + 2 ≤ c.size ∧
  atF (F.set (Addr.mk b8_3 0 none).block (.cells (wr c (Addr.mk b8_3 0 none).off v_39.toList) e)) fun F =>
  v_41_3.size = 2 ∧ (∀ v ∈ v_41_3.toList, storable v) ∧ ∃ c e, F (Addr.mk b9_4 0 none).block = some (.cells c e (0, 0)) ∧ (Addr.mk b9_4 0 none).spot = none ∧ (Addr.mk b9_4 0 none).off + 2 ≤ c.size ∧
  atF (F.set (Addr.mk b9_4 0 none).block (.cells (wr c (Addr.mk b9_4 0 none).off v_41_3.toList) e)) fun F =>
  b9j1 n_2 v_37 (some (Addr.mk b8_3 0 none)) (some (Addr.mk b9_4 0 none)) R F) ∧
  (∀ b8_4, F b8_4 = none → atF (F.set b8_4 (.cells (#[Value.slice none 0 0, Value.int .i64 0]) 28)) fun F =>
  Spec prog 16 #[(Value.agg v_40)] F fun v F => ∃ v_41_4 : Array Value, v = (Value.agg v_41_4) ∧
  v_39.size = 2 ∧ (∀ v ∈ v_39.toList, storable v) ∧ ∃ c e, F (Addr.mk b8_4 0 none).block = some (.cells c e (0, 0)) ∧ (Addr.mk b8_4 0 none).spot = none ∧ (Addr.mk b8_4 0 none).off + 2 ≤ c.size ∧
  atF (F.set (Addr.mk b8_4 0 none).block (.cells (wr c (Addr.mk b8_4 0 none).off v_39.toList) e)) fun F =>
  v_41_4.size = 2 ∧ (∀ v ∈ v_41_4.toList, storable v) ∧ ∃ c e, F (Addr.mk b9_4 0 none).block = some (.cells c e (0, 0)) ∧ (Addr.mk b9_4 0 none).spot = none ∧ (Addr.mk b9_4 0 none).off + 2 ≤ c.size ∧
  atF (F.set (Addr.mk b9_4 0 none).block (.cells (wr c (Addr.mk b9_4 0 none).off v_41_4.toList) e)) fun F =>
  b9j1 n_2 v_37 (some (Addr.mk b8_4 0 none)) (some (Addr.mk b9_4 0 none)) R F))))) ∧
  (∀ b8_5, F b8_5 = none → atF (F.set b8_5 (.cells (#[Value.slice none 0 0, Value.int .i64 0]) 28)) fun F =>
  ((Spec prog 16 #[(Value.agg v_38)] F fun v F => ∃ v_39_1 : Array Value, v = (Value.agg v_39_1) ∧
  F.row (Addr.mk b4 0 none) v_40 ∧ ((Spec prog 16 #[(Value.agg v_40)] F fun v F => ∃ v_41_5 : Array Value, v = (Value.agg v_41_5) ∧
  ∀ b9_5, F b9_5 = none → atF (F.set b9_5 (.cells (#[Value.slice none 0 0, Value.int .i64 0]) 28)) fun F =>
  v_39_1.size = 2 ∧ (∀ v ∈ v_39_1.toList, storable v) ∧ ∃ c e, F (Addr.mk b8_5 0 none).block = some (.cells c e (0, 0)) ∧ (Addr.mk b8_5 0 none).spot = none ∧ (Addr.mk b8_5 0 none).off + 2 ≤ c.size ∧
  atF (F.set (Addr.mk b8_5 0 none).block (.cells (wr c (Addr.mk b8_5 0 none).off v_39_1.toList) e)) fun F =>
  v_41_5.size = 2 ∧ (∀ v ∈ v_41_5.toList, storable v) ∧ ∃ c e, F (Addr.mk b9_5 0 none).block = some (.cells c e (0, 0)) ∧ (Addr.mk b9_5 0 none).spot = none ∧ (Addr.mk b9_5 0 none).off + 2 ≤ c.size ∧
  atF (F.set (Addr.mk b9_5 0 none).block (.cells (wr c (Addr.mk b9_5 0 none).off v_41_5.toList) e)) fun F =>
  b9j1 n_2 v_37 (some (Addr.mk b8_5 0 none)) (some (Addr.mk b9_5 0 none)) R F) ∧
  (∀ b9_6, F b9_6 = none → atF (F.set b9_6 (.cells (#[Value.slice none 0 0, Value.int .i64 0]) 28)) fun F =>
  Spec prog 16 #[(Value.agg v_40)] F fun v F => ∃ v_41_6 : Array Value, v = (Value.agg v_41_6) ∧
  v_39_1.size = 2 ∧ (∀ v ∈ v_39_1.toList, storable v) ∧ ∃ c e, F (Addr.mk b8_5 0 none).block = some (.cells c e (0, 0)) ∧ (Addr.mk b8_5 0 none).spot = none ∧ (Addr.mk b8_5 0 none).off + 2 ≤ c.size ∧
  atF (F.set (Addr.mk b8_5 0 none).block (.cells (wr c (Addr.mk b8_5 0 none).off v_39_1.toList) e)) fun F =>
  v_41_6.size = 2 ∧ (∀ v ∈ v_41_6.toList, storable v) ∧ ∃ c e, F (Addr.mk b9_6 0 none).block = some (.cells c e (0, 0)) ∧ (Addr.mk b9_6 0 none).spot = none ∧ (Addr.mk b9_6 0 none).off + 2 ≤ c.size ∧
  atF (F.set (Addr.mk b9_6 0 none).block (.cells (wr c (Addr.mk b9_6 0 none).off v_41_6.toList) e)) fun F =>
  b9j1 n_2 v_37 (some (Addr.mk b8_5 0 none)) (some (Addr.mk b9_6 0 none)) R F))) ∧
  (∀ b9_7, F b9_7 = none → atF (F.set b9_7 (.cells (#[Value.slice none 0 0, Value.int .i64 0]) 28)) fun F =>
  Spec prog 16 #[(Value.agg v_38)] F fun v F => ∃ v_39_2 : Array Value, v = (Value.agg v_39_2) ∧
  F.row (Addr.mk b4 0 none) v_40 ∧ Spec prog 16 #[(Value.agg v_40)] F fun v F => ∃ v_41_7 : Array Value, v = (Value.agg v_41_7) ∧
  v_39_2.size = 2 ∧ (∀ v ∈ v_39_2.toList, storable v) ∧ ∃ c e, F (Addr.mk b8_5 0 none).block = some (.cells c e (0, 0)) ∧ (Addr.mk b8_5 0 none).spot = none ∧ (Addr.mk b8_5 0 none).off + 2 ≤ c.size ∧
  atF (F.set (Addr.mk b8_5 0 none).block (.cells (wr c (Addr.mk b8_5 0 none).off v_39_2.toList) e)) fun F =>
  v_41_7.size = 2 ∧ (∀ v ∈ v_41_7.toList, storable v) ∧ ∃ c e, F (Addr.mk b9_7 0 none).block = some (.cells c e (0, 0)) ∧ (Addr.mk b9_7 0 none).spot = none ∧ (Addr.mk b9_7 0 none).off + 2 ≤ c.size ∧
  atF (F.set (Addr.mk b9_7 0 none).block (.cells (wr c (Addr.mk b9_7 0 none).off v_41_7.toList) e)) fun F =>
  b9j1 n_2 v_37 (some (Addr.mk b8_5 0 none)) (some (Addr.mk b9_7 0 none)) R F))) ∧
  (∀ b9_8, F b9_8 = none → atF (F.set b9_8 (.cells (#[Value.slice none 0 0, Value.int .i64 0]) 28)) fun F =>
  ((Spec prog 16 #[(Value.agg v_38)] F fun v F => ∃ v_39_3 : Array Value, v = (Value.agg v_39_3) ∧
  F.row (Addr.mk b4 0 none) v_40 ∧ ((Spec prog 16 #[(Value.agg v_40)] F fun v F => ∃ v_41_8 : Array Value, v = (Value.agg v_41_8) ∧
  ∀ b8_6, F b8_6 = none → atF (F.set b8_6 (.cells (#[Value.slice none 0 0, Value.int .i64 0]) 28)) fun F =>
  v_39_3.size = 2 ∧ (∀ v ∈ v_39_3.toList, storable v) ∧ ∃ c e, F (Addr.mk b8_6 0 none).block = some (.cells c e (0, 0)) ∧ (Addr.mk b8_6 0 none).spot = none ∧ (Addr.mk b8_6 0 none).off + 2 ≤ c.size ∧
  atF (F.set (Addr.mk b8_6 0 none).block (.cells (wr c (Addr.mk b8_6 0 none).off v_39_3.toList) e)) fun F =>
  v_41_8.size = 2 ∧ (∀ v ∈ v_41_8.toList, storable v) ∧ ∃ c e, F (Addr.mk b9_8 0 none).block = some (.cells c e (0, 0)) ∧ (Addr.mk b9_8 0 none).spot = none ∧ (Addr.mk b9_8 0 none).off + 2 ≤ c.size ∧
  atF (F.set (Addr.mk b9_8 0 none).block (.cells (wr c (Addr.mk b9_8 0 none).off v_41_8.toList) e)) fun F =>
  b9j1 n_2 v_37 (some (Addr.mk b8_6 0 none)) (some (Addr.mk b9_8 0 none)) R F) ∧
  (∀ b8_7, F b8_7 = none → atF (F.set b8_7 (.cells (#[Value.slice none 0 0, Value.int .i64 0]) 28)) fun F =>
  Spec prog 16 #[(Value.agg v_40)] F fun v F => ∃ v_41_9 : Array Value, v = (Value.agg v_41_9) ∧
  v_39_3.size = 2 ∧ (∀ v ∈ v_39_3.toList, storable v) ∧ ∃ c e, F (Addr.mk b8_7 0 none).block = some (.cells c e (0, 0)) ∧ (Addr.mk b8_7 0 none).spot = none ∧ (Addr.mk b8_7 0 none).off + 2 ≤ c.size ∧
  atF (F.set (Addr.mk b8_7 0 none).block (.cells (wr c (Addr.mk b8_7 0 none).off v_39_3.toList) e)) fun F =>
  v_41_9.size = 2 ∧ (∀ v ∈ v_41_9.toList, storable v) ∧ ∃ c e, F (Addr.mk b9_8 0 none).block = some (.cells c e (0, 0)) ∧ (Addr.mk b9_8 0 none).spot = none ∧ (Addr.mk b9_8 0 none).off + 2 ≤ c.size ∧
  atF (F.set (Addr.mk b9_8 0 none).block (.cells (wr c (Addr.mk b9_8 0 none).off v_41_9.toList) e)) fun F =>
  b9j1 n_2 v_37 (some (Addr.mk b8_7 0 none)) (some (Addr.mk b9_8 0 none)) R F))) ∧
  (∀ b8_8, F b8_8 = none → atF (F.set b8_8 (.cells (#[Value.slice none 0 0, Value.int .i64 0]) 28)) fun F =>
  Spec prog 16 #[(Value.agg v_38)] F fun v F => ∃ v_39_4 : Array Value, v = (Value.agg v_39_4) ∧
  F.row (Addr.mk b4 0 none) v_40 ∧ Spec prog 16 #[(Value.agg v_40)] F fun v F => ∃ v_41_10 : Array Value, v = (Value.agg v_41_10) ∧
  v_39_4.size = 2 ∧ (∀ v ∈ v_39_4.toList, storable v) ∧ ∃ c e, F (Addr.mk b8_8 0 none).block = some (.cells c e (0, 0)) ∧ (Addr.mk b8_8 0 none).spot = none ∧ (Addr.mk b8_8 0 none).off + 2 ≤ c.size ∧
  atF (F.set (Addr.mk b8_8 0 none).block (.cells (wr c (Addr.mk b8_8 0 none).off v_39_4.toList) e)) fun F =>
  v_41_10.size = 2 ∧ (∀ v ∈ v_41_10.toList, storable v) ∧ ∃ c e, F (Addr.mk b9_8 0 none).block = some (.cells c e (0, 0)) ∧ (Addr.mk b9_8 0 none).spot = none ∧ (Addr.mk b9_8 0 none).off + 2 ≤ c.size ∧
  atF (F.set (Addr.mk b9_8 0 none).block (.cells (wr c (Addr.mk b9_8 0 none).off v_41_10.toList) e)) fun F =>
  b9j1 n_2 v_37 (some (Addr.mk b8_8 0 none)) (some (Addr.mk b9_8 0 none)) R F))))
theorem c9 {s_0 : Array Value} {t_1 : Array Value} {n_2 : Int} {R : Value → PH → Prop} {F : PH} (h : b9 s_0 t_1 n_2 R F) : Spec prog 9 #[(Value.agg s_0), (Value.agg t_1), (Value.int .u8 n_2)] F R := by
  refine spec_of (args := [(Value.agg s_0), (Value.agg t_1), (Value.int .u8 n_2)]) func9 rfl ntmps9 rfl ?_
  unfold b9 at h
  refine HC_seq ?_
  refine HC_region ?_
  refine s_ef (k_box (cs := s_0) rfl rfl ?_)
  intro b3 hf_b3
  replace h := atE (h b3 hf_b3)
  refine s_ef (k_box (cs := t_1) rfl rfl ?_)
  intro b4 hf_b4
  replace h := atE (h b4 hf_b4)
  refine s_rd (v := (Value.bool false)) (r_assign rfl rfl) ?_
  refine HL_nil ?_
  refine HC_seq ?_
  refine HC_region ?_
  refine s_ef (k_call (vs := []) cb15 evN (h.mono ?_))
  clear h; rintro v F ⟨v_37, rfl, h⟩
  refine s_rd (v := (Value.bool v_37)) (r_assign rfl rfl) ?_
  refine HL_nil ?_
  refine HC_seqJ (b9J1 n_2 v_37 R) ?_ ?_
  · clear h; rintro E F ⟨a_8, b_9, h2, h7, h8, h9, h⟩
    unfold b9j1 at h
    refine HC_seq ?_
    refine HC_region ?_
    refine s_rd (v := (Value.int .u8 n_2)) (r_move rfl h2) ?_
    refine s_rd (v := (Value.int .u8 (Int.tmod n_2 (58 : Int)))) (r_rem rfl rfl rfl (by decide)) ?_
    refine s_rd (v := (Value.int .i64 (IntKind.i64.wrap (Int.tmod n_2 (58 : Int))))) (r_convInt rfl rfl underlying5 underlying3) ?_
    refine s_rd (v := (Value.int .i64 (IntKind.i64.wrap ((6 : Int) + (IntKind.i64.wrap (Int.tmod n_2 (58 : Int))))))) (r_add rfl rfl rfl) ?_
    refine s_rd (v := (Value.int .i64 (IntKind.i64.wrap ((6 : Int) + (IntKind.i64.wrap (Int.tmod n_2 (58 : Int))))))) (r_assign rfl rfl) ?_
    refine HL_nil ?_
    refine HC_seq ?_
    refine HC_region ?_
    obtain ⟨a8a_, rfl, h⟩ := h
    obtain ⟨v_47, hs47, hc47, h⟩ := h
    refine s_rd (v := (Value.agg v_47)) (w_loadN h8 underlying28 rfl sz28 hs47 hc47) ?_
    refine s_ef (k_call (vs := [(Value.agg v_47)]) cb25 (evC rfl evN) (h.mono ?_))
    clear h; rintro v F ⟨v_48, v_48_1, rfl, h⟩
    refine s_rd (v := (Value.tuple #[(Value.agg v_48), (Value.int .i64 v_48_1)])) (r_move rfl rfl) ?_
    refine s_rd (v := (Value.agg v_48)) (r_extract rfl rfl rfl) ?_
    refine s_rd (v := (Value.int .i64 v_48_1)) (r_extract rfl rfl rfl) ?_
    refine s_ef (k_alloc zr28 ?_)
    intro b11 hf_b11
    replace h := atE (h b11 hf_b11)
    refine s_ef0 (k_storeN (vs := v_48) rfl rfl sz28 (by decide) ?_)
    obtain ⟨hz1, hz2, c, e, hz3, hz4, hz5, h⟩ := h
    refine ⟨hz1, hz2, c, e, hz3, hz4, hz5, ?_⟩
    replace h := atE h
    refine s_rd (v := (Value.int .i64 v_48_1)) (r_assign rfl rfl) ?_
    refine HL_nil ?_
    refine HC_seq ?_
    refine HC_region ?_
    obtain ⟨v_52, hs52, hc52, h⟩ := h
    refine s_rd (v := (Value.agg v_52)) (w_loadN h8 underlying28 rfl sz28 hs52 hc52) ?_
    obtain ⟨b9a_, rfl, h⟩ := h
    obtain ⟨v_53, hs53, hc53, h⟩ := h
    refine s_rd (v := (Value.agg v_53)) (w_loadN h9 underlying28 rfl sz28 hs53 hc53) ?_
    refine s_ef (k_call (vs := [(Value.agg v_52), (Value.agg v_53)]) cb19 (evC rfl (evC rfl evN)) (h.mono ?_))
    clear h; rintro v F ⟨v_54, v_54_1, rfl, h⟩
    refine s_rd (v := (Value.tuple #[(Value.agg v_54), (Value.int .i64 v_54_1)])) (r_move rfl rfl) ?_
    refine s_rd (v := (Value.agg v_54)) (r_extract rfl rfl rfl) ?_
    refine s_rd (v := (Value.int .i64 v_54_1)) (r_extract rfl rfl rfl) ?_
    refine s_ef (k_alloc zr28 ?_)
    intro b13 hf_b13
    replace h := atE (h b13 hf_b13)
    refine s_ef0 (k_storeN (vs := v_54) rfl rfl sz28 (by decide) ?_)
    obtain ⟨hz1, hz2, c, e, hz3, hz4, hz5, h⟩ := h
    refine ⟨hz1, hz2, c, e, hz3, hz4, hz5, ?_⟩
    replace h := atE h
    refine s_rd (v := (Value.int .i64 v_54_1)) (r_assign rfl rfl) ?_
    refine HL_nil ?_
    refine HC_seq ?_
    refine HC_region ?_
    obtain ⟨v_58, hs58, hc58, h⟩ := h
    refine s_rd (v := (Value.agg v_58)) (w_loadN h8 underlying28 rfl sz28 hs58 hc58) ?_
    obtain ⟨v_59, hs59, hc59, h⟩ := h
    refine s_rd (v := (Value.agg v_59)) (w_loadN h9 underlying28 rfl sz28 hs59 hc59) ?_
    refine s_ef (k_call (vs := [(Value.agg v_58), (Value.agg v_59)]) cb22 (evC rfl (evC rfl evN)) (h.mono ?_))
    clear h; rintro v F ⟨v_60, v_60_1, rfl, h⟩
    refine s_rd (v := (Value.tuple #[(Value.agg v_60), (Value.int .i64 v_60_1)])) (r_move rfl rfl) ?_
    refine s_rd (v := (Value.agg v_60)) (r_extract rfl rfl rfl) ?_
    refine s_rd (v := (Value.int .i64 v_60_1)) (r_extract rfl rfl rfl) ?_
    refine s_ef (k_alloc zr28 ?_)
    intro b15 hf_b15
    replace h := atE (h b15 hf_b15)
    refine s_ef0 (k_storeN (vs := v_60) rfl rfl sz28 (by decide) ?_)
    obtain ⟨hz1, hz2, c, e, hz3, hz4, hz5, h⟩ := h
    refine ⟨hz1, hz2, c, e, hz3, hz4, hz5, ?_⟩
    replace h := atE h
    refine s_rd (v := (Value.int .i64 v_60_1)) (r_assign rfl rfl) ?_
    refine HL_nil ?_
    refine HC_seq ?_
    refine HC_region ?_
    obtain ⟨v_64, hs64, hc64, h⟩ := h
    refine s_rd (v := (Value.agg v_64)) (w_loadN h8 underlying28 rfl sz28 hs64 hc64) ?_
    refine s_rd (v := (Value.int .i64 (IntKind.i64.wrap ((6 : Int) + (IntKind.i64.wrap (Int.tmod n_2 (58 : Int))))))) (r_move rfl rfl) ?_
    refine s_ef (k_call (vs := [(Value.agg v_64), (Value.int .i64 (IntKind.i64.wrap ((6 : Int) + (IntKind.i64.wrap (Int.tmod n_2 (58 : Int))))))]) cb32 (evC rfl (evC rfl evN)) (h.mono ?_))
    clear h; rintro v F ⟨v_66, v_66_1, rfl, h⟩
    refine s_rd (v := (Value.tuple #[(Sl.v v_66), (Value.int .i64 v_66_1)])) (r_move rfl rfl) ?_
    refine s_rd (v := (Sl.v v_66)) (r_extract rfl rfl rfl) ?_
    refine s_rd (v := (Value.int .i64 v_66_1)) (r_extract rfl rfl rfl) ?_
    refine s_rd (v := (Sl.v v_66)) (r_assign rfl rfl) ?_
    refine s_rd (v := (Value.int .i64 v_66_1)) (r_assign rfl rfl) ?_
    refine HL_nil ?_
    refine HC_seq ?_
    refine HC_region ?_
    obtain ⟨v_70, hs70, hc70, h⟩ := h
    refine s_rd (v := (Value.agg v_70)) (w_loadN h9 underlying28 rfl sz28 hs70 hc70) ?_
    refine s_rd (v := (Value.int .i64 (IntKind.i64.wrap ((6 : Int) + (IntKind.i64.wrap (Int.tmod n_2 (58 : Int))))))) (r_move rfl rfl) ?_
    refine s_ef (k_call (vs := [(Value.agg v_70), (Value.int .i64 (IntKind.i64.wrap ((6 : Int) + (IntKind.i64.wrap (Int.tmod n_2 (58 : Int))))))]) cb32 (evC rfl (evC rfl evN)) (h.mono ?_))
    clear h; rintro v F ⟨v_72, v_72_1, rfl, h⟩
    refine s_rd (v := (Value.tuple #[(Sl.v v_72), (Value.int .i64 v_72_1)])) (r_move rfl rfl) ?_
    refine s_rd (v := (Sl.v v_72)) (r_extract rfl rfl rfl) ?_
    refine s_rd (v := (Value.int .i64 v_72_1)) (r_extract rfl rfl rfl) ?_
    refine s_rd (v := (Sl.v v_72)) (r_assign rfl rfl) ?_
    refine s_rd (v := (Value.int .i64 v_72_1)) (r_assign rfl rfl) ?_
    refine HL_nil ?_
    refine HC_seq ?_
    refine HC_region ?_
    obtain ⟨v_76, hs76, hc76, h⟩ := h
    refine s_rd (v := (Value.agg v_76)) (w_loadN rfl underlying28 rfl sz28 hs76 hc76) ?_
    refine s_rd (v := (Value.int .i64 (IntKind.i64.wrap ((6 : Int) + (IntKind.i64.wrap (Int.tmod n_2 (58 : Int))))))) (r_move rfl rfl) ?_
    refine s_ef (k_call (vs := [(Value.agg v_76), (Value.int .i64 (IntKind.i64.wrap ((6 : Int) + (IntKind.i64.wrap (Int.tmod n_2 (58 : Int))))))]) cb32 (evC rfl (evC rfl evN)) (h.mono ?_))
    clear h; rintro v F ⟨v_78, v_78_1, rfl, h⟩
    refine s_rd (v := (Value.tuple #[(Sl.v v_78), (Value.int .i64 v_78_1)])) (r_move rfl rfl) ?_
    refine s_rd (v := (Sl.v v_78)) (r_extract rfl rfl rfl) ?_
    refine s_rd (v := (Value.int .i64 v_78_1)) (r_extract rfl rfl rfl) ?_
    refine s_rd (v := (Sl.v v_78)) (r_assign rfl rfl) ?_
    refine s_rd (v := (Value.int .i64 v_78_1)) (r_assign rfl rfl) ?_
    refine HL_nil ?_
    refine HC_seq ?_
    refine HC_region ?_
    obtain ⟨v_82, hs82, hc82, h⟩ := h
    refine s_rd (v := (Value.agg v_82)) (w_loadN rfl underlying28 rfl sz28 hs82 hc82) ?_
    refine s_rd (v := (Value.int .i64 (IntKind.i64.wrap ((6 : Int) + (IntKind.i64.wrap (Int.tmod n_2 (58 : Int))))))) (r_move rfl rfl) ?_
    refine s_ef (k_call (vs := [(Value.agg v_82), (Value.int .i64 (IntKind.i64.wrap ((6 : Int) + (IntKind.i64.wrap (Int.tmod n_2 (58 : Int))))))]) cb32 (evC rfl (evC rfl evN)) (h.mono ?_))
    clear h; rintro v F ⟨v_84, v_84_1, rfl, h⟩
    refine s_rd (v := (Value.tuple #[(Sl.v v_84), (Value.int .i64 v_84_1)])) (r_move rfl rfl) ?_
    refine s_rd (v := (Sl.v v_84)) (r_extract rfl rfl rfl) ?_
    refine s_rd (v := (Value.int .i64 v_84_1)) (r_extract rfl rfl rfl) ?_
    refine s_rd (v := (Sl.v v_84)) (r_assign rfl rfl) ?_
    refine s_rd (v := (Value.int .i64 v_84_1)) (r_assign rfl rfl) ?_
    refine HL_nil ?_
    refine HC_seq ?_
    refine HC_region ?_
    obtain ⟨v_88, hs88, hc88, h⟩ := h
    refine s_rd (v := (Value.agg v_88)) (w_loadN rfl underlying28 rfl sz28 hs88 hc88) ?_
    refine s_rd (v := (Value.int .i64 (IntKind.i64.wrap ((6 : Int) + (IntKind.i64.wrap (Int.tmod n_2 (58 : Int))))))) (r_move rfl rfl) ?_
    refine s_ef (k_call (vs := [(Value.agg v_88), (Value.int .i64 (IntKind.i64.wrap ((6 : Int) + (IntKind.i64.wrap (Int.tmod n_2 (58 : Int))))))]) cb32 (evC rfl (evC rfl evN)) (h.mono ?_))
    clear h; rintro v F ⟨v_90, v_90_1, rfl, h⟩
    refine s_rd (v := (Value.tuple #[(Sl.v v_90), (Value.int .i64 v_90_1)])) (r_move rfl rfl) ?_
    refine s_rd (v := (Sl.v v_90)) (r_extract rfl rfl rfl) ?_
    refine s_rd (v := (Value.int .i64 v_90_1)) (r_extract rfl rfl rfl) ?_
    refine s_rd (v := (Sl.v v_90)) (r_assign rfl rfl) ?_
    refine s_rd (v := (Value.int .i64 v_90_1)) (r_assign rfl rfl) ?_
    refine HL_nil ?_
    refine HC_seq ?_
    refine HC_region ?_
    obtain ⟨v_94, hs94, hc94, h⟩ := h
    refine s_rd (v := (Value.agg v_94)) (w_loadN h8 underlying28 rfl sz28 hs94 hc94) ?_
    refine s_rd (v := (Value.int .i64 (IntKind.i64.wrap ((6 : Int) + (IntKind.i64.wrap (Int.tmod n_2 (58 : Int))))))) (r_move rfl rfl) ?_
    refine s_rd (v := (Value.int .i64 (IntKind.i64.wrap ((IntKind.i64.wrap ((6 : Int) + (IntKind.i64.wrap (Int.tmod n_2 (58 : Int))))) + (1 : Int))))) (r_add rfl rfl rfl) ?_
    refine s_ef (k_call (vs := [(Value.agg v_94), (Value.int .i64 (IntKind.i64.wrap ((IntKind.i64.wrap ((6 : Int) + (IntKind.i64.wrap (Int.tmod n_2 (58 : Int))))) + (1 : Int))))]) cb32 (evC rfl (evC rfl evN)) (h.mono ?_))
    clear h; rintro v F ⟨v_97, v_97_1, rfl, h⟩
    refine s_rd (v := (Value.tuple #[(Sl.v v_97), (Value.int .i64 v_97_1)])) (r_move rfl rfl) ?_
    refine s_rd (v := (Sl.v v_97)) (r_extract rfl rfl rfl) ?_
    refine s_rd (v := (Value.int .i64 v_97_1)) (r_extract rfl rfl rfl) ?_
    refine s_rd (v := (Sl.v v_97)) (r_assign rfl rfl) ?_
    refine s_rd (v := (Value.int .i64 v_97_1)) (r_assign rfl rfl) ?_
    refine HL_nil ?_
    refine HC_seq ?_
    refine HC_seq ?_
    refine HC_region ?_
    refine s_rd (v := (Value.int .i64 v_66_1)) (r_move rfl rfl) ?_
    refine s_rd (v := (Value.bool (decide (v_66_1 ≠ (0 : Int))))) (w_neq rfl rfl) ?_
    refine s_rd (v := (Value.bool (decide (v_66_1 ≠ (0 : Int))))) (r_move rfl rfl) ?_
    by_cases hc : v_66_1 ≠ (0 : Int)
    · replace h := h.1 hc
      refine HL_known (t := 101) (v := .bool true) (congrArg Value.bool (decide_eq_true hc)) ?_
      refine HL_known (t := 102) (v := .bool true) (congrArg Value.bool (decide_eq_true hc)) ?_
      refine s_skip ?_
      refine s_skip ?_
      refine s_rd (v := (Value.bool true)) (r_pick rfl rfl (fun _ => rfl) (fun h => by cases h)) ?_
      refine s_rd (v := (Value.bool true)) (r_move rfl rfl) ?_
      refine s_skip ?_
      refine s_skip ?_
      refine s_rd (v := (Value.bool true)) (r_pick rfl rfl (fun _ => rfl) (fun h => by cases h)) ?_
      refine s_rd (v := (Value.bool true)) (r_move rfl rfl) ?_
      refine s_skip ?_
      refine s_skip ?_
      refine s_rd (v := (Value.bool true)) (r_pick rfl rfl (fun _ => rfl) (fun h => by cases h)) ?_
      refine s_rd (v := (Value.bool true)) (r_move rfl rfl) ?_
      refine s_skip ?_
      refine s_skip ?_
      refine s_rd (v := (Value.bool true)) (r_pick rfl rfl (fun _ => rfl) (fun h => by cases h)) ?_
      refine s_rd (v := (Value.bool true)) (r_move rfl rfl) ?_
      refine s_skip ?_
      refine s_skip ?_
      refine s_rd (v := (Value.bool true)) (r_pick rfl rfl (fun _ => rfl) (fun h => by cases h)) ?_
      refine HL_nil ?_
      refine HC_condT rfl ?_
      refine HC_seq ?_
      refine HC_region ?_
      refine s_rd (v := (Value.bool false)) (r_assign rfl rfl) ?_
      refine HL_nil ?_
      exact HC_ret (show endQ prog f9 R .ret _ _ from ⟨_, res1 rfl (rv_tmp rfl), h⟩)
    · replace h := h.2 hc
      refine HL_known (t := 101) (v := .bool false) (congrArg Value.bool (decide_eq_false hc)) ?_
      refine HL_known (t := 102) (v := .bool false) (congrArg Value.bool (decide_eq_false hc)) ?_
      refine s_rd (v := (Value.int .i64 v_72_1)) (r_move rfl rfl) ?_
      refine s_rd (v := (Value.bool (decide (v_72_1 ≠ (0 : Int))))) (w_neq rfl rfl) ?_
      refine s_rd (v := (Value.bool (decide (v_72_1 ≠ (0 : Int))))) (r_pick rfl rfl (fun h => by cases h) (fun _ => rfl)) ?_
      refine s_rd (v := (Value.bool (decide (v_72_1 ≠ (0 : Int))))) (r_move rfl rfl) ?_
      by_cases hc : v_72_1 ≠ (0 : Int)
      · replace h := h.1 hc
        refine HL_known (t := 104) (v := .bool true) (congrArg Value.bool (decide_eq_true hc)) ?_
        refine HL_known (t := 105) (v := .bool true) (congrArg Value.bool (decide_eq_true hc)) ?_
        refine HL_known (t := 106) (v := .bool true) (congrArg Value.bool (decide_eq_true hc)) ?_
        refine s_skip ?_
        refine s_skip ?_
        refine s_rd (v := (Value.bool true)) (r_pick rfl rfl (fun _ => rfl) (fun h => by cases h)) ?_
        refine s_rd (v := (Value.bool true)) (r_move rfl rfl) ?_
        refine s_skip ?_
        refine s_skip ?_
        refine s_rd (v := (Value.bool true)) (r_pick rfl rfl (fun _ => rfl) (fun h => by cases h)) ?_
        refine s_rd (v := (Value.bool true)) (r_move rfl rfl) ?_
        refine s_skip ?_
        refine s_skip ?_
        refine s_rd (v := (Value.bool true)) (r_pick rfl rfl (fun _ => rfl) (fun h => by cases h)) ?_
        refine s_rd (v := (Value.bool true)) (r_move rfl rfl) ?_
        refine s_skip ?_
        refine s_skip ?_
        refine s_rd (v := (Value.bool true)) (r_pick rfl rfl (fun _ => rfl) (fun h => by cases h)) ?_
        refine HL_nil ?_
        refine HC_condT rfl ?_
        refine HC_seq ?_
        refine HC_region ?_
        refine s_rd (v := (Value.bool false)) (r_assign rfl rfl) ?_
        refine HL_nil ?_
        exact HC_ret (show endQ prog f9 R .ret _ _ from ⟨_, res1 rfl (rv_tmp rfl), h⟩)
      · replace h := h.2 hc
        refine HL_known (t := 104) (v := .bool false) (congrArg Value.bool (decide_eq_false hc)) ?_
        refine HL_known (t := 105) (v := .bool false) (congrArg Value.bool (decide_eq_false hc)) ?_
        refine HL_known (t := 106) (v := .bool false) (congrArg Value.bool (decide_eq_false hc)) ?_
        refine s_rd (v := (Value.int .i64 v_78_1)) (r_move rfl rfl) ?_
        refine s_rd (v := (Value.bool (decide (v_78_1 ≠ (0 : Int))))) (w_neq rfl rfl) ?_
        refine s_rd (v := (Value.bool (decide (v_78_1 ≠ (0 : Int))))) (r_pick rfl rfl (fun h => by cases h) (fun _ => rfl)) ?_
        refine s_rd (v := (Value.bool (decide (v_78_1 ≠ (0 : Int))))) (r_move rfl rfl) ?_
        by_cases hc : v_78_1 ≠ (0 : Int)
        · replace h := h.1 hc
          refine HL_known (t := 108) (v := .bool true) (congrArg Value.bool (decide_eq_true hc)) ?_
          refine HL_known (t := 109) (v := .bool true) (congrArg Value.bool (decide_eq_true hc)) ?_
          refine HL_known (t := 110) (v := .bool true) (congrArg Value.bool (decide_eq_true hc)) ?_
          refine s_skip ?_
          refine s_skip ?_
          refine s_rd (v := (Value.bool true)) (r_pick rfl rfl (fun _ => rfl) (fun h => by cases h)) ?_
          refine s_rd (v := (Value.bool true)) (r_move rfl rfl) ?_
          refine s_skip ?_
          refine s_skip ?_
          refine s_rd (v := (Value.bool true)) (r_pick rfl rfl (fun _ => rfl) (fun h => by cases h)) ?_
          refine s_rd (v := (Value.bool true)) (r_move rfl rfl) ?_
          refine s_skip ?_
          refine s_skip ?_
          refine s_rd (v := (Value.bool true)) (r_pick rfl rfl (fun _ => rfl) (fun h => by cases h)) ?_
          refine HL_nil ?_
          refine HC_condT rfl ?_
          refine HC_seq ?_
          refine HC_region ?_
          refine s_rd (v := (Value.bool false)) (r_assign rfl rfl) ?_
          refine HL_nil ?_
          exact HC_ret (show endQ prog f9 R .ret _ _ from ⟨_, res1 rfl (rv_tmp rfl), h⟩)
        · replace h := h.2 hc
          refine HL_known (t := 108) (v := .bool false) (congrArg Value.bool (decide_eq_false hc)) ?_
          refine HL_known (t := 109) (v := .bool false) (congrArg Value.bool (decide_eq_false hc)) ?_
          refine HL_known (t := 110) (v := .bool false) (congrArg Value.bool (decide_eq_false hc)) ?_
          refine s_rd (v := (Value.int .i64 v_84_1)) (r_move rfl rfl) ?_
          refine s_rd (v := (Value.bool (decide (v_84_1 ≠ (0 : Int))))) (w_neq rfl rfl) ?_
          refine s_rd (v := (Value.bool (decide (v_84_1 ≠ (0 : Int))))) (r_pick rfl rfl (fun h => by cases h) (fun _ => rfl)) ?_
          refine s_rd (v := (Value.bool (decide (v_84_1 ≠ (0 : Int))))) (r_move rfl rfl) ?_
          by_cases hc : v_84_1 ≠ (0 : Int)
          · replace h := h.1 hc
            refine HL_known (t := 112) (v := .bool true) (congrArg Value.bool (decide_eq_true hc)) ?_
            refine HL_known (t := 113) (v := .bool true) (congrArg Value.bool (decide_eq_true hc)) ?_
            refine HL_known (t := 114) (v := .bool true) (congrArg Value.bool (decide_eq_true hc)) ?_
            refine s_skip ?_
            refine s_skip ?_
            refine s_rd (v := (Value.bool true)) (r_pick rfl rfl (fun _ => rfl) (fun h => by cases h)) ?_
            refine s_rd (v := (Value.bool true)) (r_move rfl rfl) ?_
            refine s_skip ?_
            refine s_skip ?_
            refine s_rd (v := (Value.bool true)) (r_pick rfl rfl (fun _ => rfl) (fun h => by cases h)) ?_
            refine HL_nil ?_
            refine HC_condT rfl ?_
            refine HC_seq ?_
            refine HC_region ?_
            refine s_rd (v := (Value.bool false)) (r_assign rfl rfl) ?_
            refine HL_nil ?_
            exact HC_ret (show endQ prog f9 R .ret _ _ from ⟨_, res1 rfl (rv_tmp rfl), h⟩)
          · replace h := h.2 hc
            refine HL_known (t := 112) (v := .bool false) (congrArg Value.bool (decide_eq_false hc)) ?_
            refine HL_known (t := 113) (v := .bool false) (congrArg Value.bool (decide_eq_false hc)) ?_
            refine HL_known (t := 114) (v := .bool false) (congrArg Value.bool (decide_eq_false hc)) ?_
            refine s_rd (v := (Value.int .i64 v_90_1)) (r_move rfl rfl) ?_
            refine s_rd (v := (Value.bool (decide (v_90_1 ≠ (0 : Int))))) (w_neq rfl rfl) ?_
            refine s_rd (v := (Value.bool (decide (v_90_1 ≠ (0 : Int))))) (r_pick rfl rfl (fun h => by cases h) (fun _ => rfl)) ?_
            refine s_rd (v := (Value.bool (decide (v_90_1 ≠ (0 : Int))))) (r_move rfl rfl) ?_
            by_cases hc : v_90_1 ≠ (0 : Int)
            · replace h := h.1 hc
              refine HL_known (t := 116) (v := .bool true) (congrArg Value.bool (decide_eq_true hc)) ?_
              refine HL_known (t := 117) (v := .bool true) (congrArg Value.bool (decide_eq_true hc)) ?_
              refine HL_known (t := 118) (v := .bool true) (congrArg Value.bool (decide_eq_true hc)) ?_
              refine s_skip ?_
              refine s_skip ?_
              refine s_rd (v := (Value.bool true)) (r_pick rfl rfl (fun _ => rfl) (fun h => by cases h)) ?_
              refine HL_nil ?_
              refine HC_condT rfl ?_
              refine HC_seq ?_
              refine HC_region ?_
              refine s_rd (v := (Value.bool false)) (r_assign rfl rfl) ?_
              refine HL_nil ?_
              exact HC_ret (show endQ prog f9 R .ret _ _ from ⟨_, res1 rfl (rv_tmp rfl), h⟩)
            · replace h := h.2 hc
              refine HL_known (t := 116) (v := .bool false) (congrArg Value.bool (decide_eq_false hc)) ?_
              refine HL_known (t := 117) (v := .bool false) (congrArg Value.bool (decide_eq_false hc)) ?_
              refine HL_known (t := 118) (v := .bool false) (congrArg Value.bool (decide_eq_false hc)) ?_
              refine s_rd (v := (Value.int .i64 v_97_1)) (r_move rfl rfl) ?_
              refine s_rd (v := (Value.bool (decide (v_97_1 ≠ (0 : Int))))) (w_neq rfl rfl) ?_
              refine s_rd (v := (Value.bool (decide (v_97_1 ≠ (0 : Int))))) (r_pick rfl rfl (fun h => by cases h) (fun _ => rfl)) ?_
              refine HL_nil ?_
              refine HC_cond (t := (decide (v_97_1 ≠ (0 : Int)))) rfl (fun hc => ?_) (fun hc => ?_)
              · replace h := h.1 (of_decide_eq_true hc)
                clear hc
                refine HC_seq ?_
                refine HC_region ?_
                refine s_rd (v := (Value.bool false)) (r_assign rfl rfl) ?_
                refine HL_nil ?_
                exact HC_ret (show endQ prog f9 R .ret _ _ from ⟨_, res1 rfl (rv_tmp rfl), h⟩)
              · replace h := h.2 (of_decide_eq_false hc)
                clear hc
                refine HC_skip ?_
                refine HC_seq ?_
                refine HC_region ?_
                refine s_rd (v := (Sl.v v_66)) (r_move rfl rfl) ?_
                refine s_rd (v := (Sl.v v_78)) (r_move rfl rfl) ?_
                refine s_ef (k_call (vs := [(Sl.v v_66), (Sl.v v_78)]) cb33 (evC rfl (evC rfl evN)) (h.mono ?_))
                clear h; rintro v F ⟨v_125, v_125_1, rfl, h⟩
                refine s_rd (v := (Value.tuple #[(Sl.v v_125), (Value.int .i64 v_125_1)])) (r_move rfl rfl) ?_
                refine s_rd (v := (Sl.v v_125)) (r_extract rfl rfl rfl) ?_
                refine s_rd (v := (Value.int .i64 v_125_1)) (r_extract rfl rfl rfl) ?_
                refine s_rd (v := (Sl.v v_125)) (r_assign rfl rfl) ?_
                refine s_rd (v := (Value.int .i64 v_125_1)) (r_assign rfl rfl) ?_
                refine HL_nil ?_
                refine HC_seq ?_
                refine HC_region ?_
                refine s_rd (v := (Sl.v v_66)) (r_move rfl rfl) ?_
                refine s_rd (v := (Sl.v v_72)) (r_move rfl rfl) ?_
                refine s_ef (k_call (vs := [(Sl.v v_66), (Sl.v v_72)]) cb33 (evC rfl (evC rfl evN)) (h.mono ?_))
                clear h; rintro v F ⟨v_131, v_131_1, rfl, h⟩
                refine s_rd (v := (Value.tuple #[(Sl.v v_131), (Value.int .i64 v_131_1)])) (r_move rfl rfl) ?_
                refine s_rd (v := (Sl.v v_131)) (r_extract rfl rfl rfl) ?_
                refine s_rd (v := (Value.int .i64 v_131_1)) (r_extract rfl rfl rfl) ?_
                refine s_rd (v := (Sl.v v_131)) (r_assign rfl rfl) ?_
                refine s_rd (v := (Value.int .i64 v_131_1)) (r_assign rfl rfl) ?_
                refine HL_nil ?_
                refine HC_seq ?_
                refine HC_region ?_
                refine s_rd (v := (Sl.v v_84)) (r_move rfl rfl) ?_
                refine s_rd (v := (Sl.v v_90)) (r_move rfl rfl) ?_
                refine s_ef (k_call (vs := [(Sl.v v_84), (Sl.v v_90)]) cb33 (evC rfl (evC rfl evN)) (h.mono ?_))
                clear h; rintro v F ⟨v_137, v_137_1, rfl, h⟩
                refine s_rd (v := (Value.tuple #[(Sl.v v_137), (Value.int .i64 v_137_1)])) (r_move rfl rfl) ?_
                refine s_rd (v := (Sl.v v_137)) (r_extract rfl rfl rfl) ?_
                refine s_rd (v := (Value.int .i64 v_137_1)) (r_extract rfl rfl rfl) ?_
                refine s_rd (v := (Sl.v v_137)) (r_assign rfl rfl) ?_
                refine s_rd (v := (Value.int .i64 v_137_1)) (r_assign rfl rfl) ?_
                refine HL_nil ?_
                refine HC_seq ?_
                refine HC_region ?_
                refine s_rd (v := (Sl.v v_66)) (r_move rfl rfl) ?_
                refine s_rd (v := (Sl.v v_66)) (r_move rfl rfl) ?_
                refine s_ef (k_call (vs := [(Sl.v v_66), (Sl.v v_66)]) cb33 (evC rfl (evC rfl evN)) (h.mono ?_))
                clear h; rintro v F ⟨v_143, v_143_1, rfl, h⟩
                refine s_rd (v := (Value.tuple #[(Sl.v v_143), (Value.int .i64 v_143_1)])) (r_move rfl rfl) ?_
                refine s_rd (v := (Sl.v v_143)) (r_extract rfl rfl rfl) ?_
                refine s_rd (v := (Value.int .i64 v_143_1)) (r_extract rfl rfl rfl) ?_
                refine s_rd (v := (Sl.v v_143)) (r_assign rfl rfl) ?_
                refine s_rd (v := (Value.int .i64 v_143_1)) (r_assign rfl rfl) ?_
                refine HL_nil ?_
                refine HC_seq ?_
                refine HC_region ?_
                refine s_rd (v := (Sl.v v_125)) (r_move rfl rfl) ?_
                refine s_rd (v := (Value.int .i64 (IntKind.i64.wrap ((6 : Int) + (IntKind.i64.wrap (Int.tmod n_2 (58 : Int))))))) (r_move rfl rfl) ?_
                refine s_rd (v := (Value.int .u64 (IntKind.u64.wrap (IntKind.i64.wrap ((6 : Int) + (IntKind.i64.wrap (Int.tmod n_2 (58 : Int)))))))) (r_convInt rfl rfl underlying3 underlying31) ?_
                obtain ⟨hd149, h⟩ := h
                refine s_rd (v := (Value.int .u64 (IntKind.u64.wrap ((1 : Int) * 2 ^ (min (Int.toNat (IntKind.u64.wrap (IntKind.i64.wrap ((6 : Int) + (IntKind.i64.wrap (Int.tmod n_2 (58 : Int))))))) (IntKind.u64).bits))))) (r_shl rfl rfl rfl hd149) ?_
                refine s_ef (k_call (vs := [(Value.int .u64 (IntKind.u64.wrap ((1 : Int) * 2 ^ (min (Int.toNat (IntKind.u64.wrap (IntKind.i64.wrap ((6 : Int) + (IntKind.i64.wrap (Int.tmod n_2 (58 : Int))))))) (IntKind.u64).bits))))]) cb35 (evC rfl evN) (h.mono ?_))
                clear h; rintro v F ⟨v_150, rfl, h⟩
                refine s_ef (k_call (vs := [(Sl.v v_125), (Sl.v v_150)]) cb34 (evC rfl (evC rfl evN)) (h.mono ?_))
                clear h; rintro v F ⟨v_151, rfl, h⟩
                refine s_rd (v := (Value.bool (decide (v_151 = (0 : Int))))) (w_eql rfl rfl) ?_
                refine s_rd (v := (Value.bool (decide (v_151 = (0 : Int))))) (r_move rfl rfl) ?_
                by_cases hc : v_151 = (0 : Int)
                · replace h := h.1 hc
                  refine HL_known (t := 152) (v := .bool true) (congrArg Value.bool (decide_eq_true hc)) ?_
                  refine HL_known (t := 153) (v := .bool true) (congrArg Value.bool (decide_eq_true hc)) ?_
                  refine s_rd (v := (Sl.v v_131)) (r_move rfl rfl) ?_
                  refine s_rd (v := (Sl.v v_137)) (r_move rfl rfl) ?_
                  refine s_ef (k_call (vs := [(Sl.v v_131), (Sl.v v_137)]) cb34 (evC rfl (evC rfl evN)) (h.mono ?_))
                  clear h; rintro v F ⟨v_156, rfl, h⟩
                  refine s_rd (v := (Value.bool (decide (v_156 = (0 : Int))))) (w_eql rfl rfl) ?_
                  refine s_rd (v := (Value.bool (decide (v_156 = (0 : Int))))) (r_pick rfl rfl (fun _ => rfl) (fun h => by cases h)) ?_
                  refine s_rd (v := (Value.bool (decide (v_156 = (0 : Int))))) (r_move rfl rfl) ?_
                  by_cases hc : v_156 = (0 : Int)
                  · replace h := h.1 hc
                    refine HL_known (t := 157) (v := .bool true) (congrArg Value.bool (decide_eq_true hc)) ?_
                    refine HL_known (t := 158) (v := .bool true) (congrArg Value.bool (decide_eq_true hc)) ?_
                    refine HL_known (t := 159) (v := .bool true) (congrArg Value.bool (decide_eq_true hc)) ?_
                    refine s_rd (v := (Sl.v v_143)) (r_move rfl rfl) ?_
                    refine s_rd (v := (Sl.v v_97)) (r_move rfl rfl) ?_
                    refine s_ef (k_call (vs := [(Sl.v v_143), (Sl.v v_97)]) cb34 (evC rfl (evC rfl evN)) (h.mono ?_))
                    clear h; rintro v F ⟨v_162, rfl, h⟩
                    refine s_rd (v := (Value.bool (decide (v_162 = (0 : Int))))) (w_eql rfl rfl) ?_
                    refine s_rd (v := (Value.bool (decide (v_162 = (0 : Int))))) (r_pick rfl rfl (fun _ => rfl) (fun h => by cases h)) ?_
                    refine s_rd (v := (Value.bool (decide (v_162 = (0 : Int))))) (r_move rfl rfl) ?_
                    by_cases hc : v_162 = (0 : Int)
                    · replace h := h.1 hc
                      refine HL_known (t := 163) (v := .bool true) (congrArg Value.bool (decide_eq_true hc)) ?_
                      refine HL_known (t := 164) (v := .bool true) (congrArg Value.bool (decide_eq_true hc)) ?_
                      refine HL_known (t := 165) (v := .bool true) (congrArg Value.bool (decide_eq_true hc)) ?_
                      refine s_rd (v := (Value.bool v_37)) (r_move rfl h7) ?_
                      refine s_rd (v := (Value.bool v_37)) (r_pick rfl rfl (fun _ => rfl) (fun h => by cases h)) ?_
                      refine s_rd (v := (Value.bool v_37)) (r_assign rfl rfl) ?_
                      refine HL_nil ?_
                      exact HC_ret (show endQ prog f9 R .ret _ _ from ⟨_, res1 rfl (rv_tmp rfl), h⟩)
                    · replace h := h.2 hc
                      refine HL_known (t := 163) (v := .bool false) (congrArg Value.bool (decide_eq_false hc)) ?_
                      refine HL_known (t := 164) (v := .bool false) (congrArg Value.bool (decide_eq_false hc)) ?_
                      refine HL_known (t := 165) (v := .bool false) (congrArg Value.bool (decide_eq_false hc)) ?_
                      refine s_skip ?_
                      refine s_rd (v := (Value.bool false)) (r_pick rfl rfl (fun h => by cases h) (fun _ => rfl)) ?_
                      refine s_rd (v := (Value.bool false)) (r_assign rfl rfl) ?_
                      refine HL_nil ?_
                      exact HC_ret (show endQ prog f9 R .ret _ _ from ⟨_, res1 rfl (rv_tmp rfl), h⟩)
                  · replace h := h.2 hc
                    refine HL_known (t := 157) (v := .bool false) (congrArg Value.bool (decide_eq_false hc)) ?_
                    refine HL_known (t := 158) (v := .bool false) (congrArg Value.bool (decide_eq_false hc)) ?_
                    refine HL_known (t := 159) (v := .bool false) (congrArg Value.bool (decide_eq_false hc)) ?_
                    refine s_skip ?_
                    refine s_skip ?_
                    refine s_skip ?_
                    refine s_skip ?_
                    refine s_rd (v := (Value.bool false)) (r_pick rfl rfl (fun h => by cases h) (fun _ => rfl)) ?_
                    refine s_rd (v := (Value.bool false)) (r_move rfl rfl) ?_
                    refine s_skip ?_
                    refine s_rd (v := (Value.bool false)) (r_pick rfl rfl (fun h => by cases h) (fun _ => rfl)) ?_
                    refine s_rd (v := (Value.bool false)) (r_assign rfl rfl) ?_
                    refine HL_nil ?_
                    exact HC_ret (show endQ prog f9 R .ret _ _ from ⟨_, res1 rfl (rv_tmp rfl), h⟩)
                · replace h := h.2 hc
                  refine HL_known (t := 152) (v := .bool false) (congrArg Value.bool (decide_eq_false hc)) ?_
                  refine HL_known (t := 153) (v := .bool false) (congrArg Value.bool (decide_eq_false hc)) ?_
                  refine s_skip ?_
                  refine s_skip ?_
                  refine s_skip ?_
                  refine s_skip ?_
                  refine s_rd (v := (Value.bool false)) (r_pick rfl rfl (fun h => by cases h) (fun _ => rfl)) ?_
                  refine s_rd (v := (Value.bool false)) (r_move rfl rfl) ?_
                  refine s_skip ?_
                  refine s_skip ?_
                  refine s_skip ?_
                  refine s_skip ?_
                  refine s_rd (v := (Value.bool false)) (r_pick rfl rfl (fun h => by cases h) (fun _ => rfl)) ?_
                  refine s_rd (v := (Value.bool false)) (r_move rfl rfl) ?_
                  refine s_skip ?_
                  refine s_rd (v := (Value.bool false)) (r_pick rfl rfl (fun h => by cases h) (fun _ => rfl)) ?_
                  refine s_rd (v := (Value.bool false)) (r_assign rfl rfl) ?_
                  refine HL_nil ?_
                  exact HC_ret (show endQ prog f9 R .ret _ _ from ⟨_, res1 rfl (rv_tmp rfl), h⟩)
  · skip
    refine HC_draw0 (by kernel_rfl) (fun hp => ?_)
    obtain ⟨v_38, hs38, hc38, h⟩ := h
    refine g_rd (i := 0) (v := (Value.agg v_38)) rfl (by kernel_rfl) (by kernel_rfl) (by kernel_rfl) (fun _ _ _ h => h) (w_loadN rfl underlying24 rfl sz24 hs38 hc38) hp (fun S0 q0 => ?_)
    replace hp := holdC (i := 0) (q0 _ (w_loadN rfl underlying24 rfl sz24 hs38 hc38)) hp
    obtain ⟨v_40, hs40, hc40, h⟩ := h
    refine g_rd (i := 2) (v := (Value.agg v_40)) rfl (by kernel_rfl) (by kernel_rfl) (by kernel_rfl) (fun _ _ _ h => h) (w_loadN rfl underlying24 rfl sz24 hs40 hc40) hp (fun S2 q2 => ?_)
    replace hp := holdC (i := 2) (q2 _ (w_loadN rfl underlying24 rfl sz24 hs40 hc40)) hp
    refine RG_eff (rs := [1, 4, 5]) (by kernel_rfl) rfl ?_
    obtain ⟨ha0, ha1, ha2⟩ := h
    simp only [List.mem_cons, List.not_mem_nil, or_false, forall_eq_or_imp, forall_eq]
    refine ⟨?_, ?_, ?_⟩
    · have h := ha0; clear ha0 ha1 ha2
      refine g_op (Sp' := [(2, S2)]) rfl rfl (k_call (vs := [(Value.agg v_38)]) cb16 (evC rfl evN) (h.mono ?_))
      clear h; rintro v F ⟨v_39, rfl, h⟩
      obtain ⟨hk_6, h⟩ := h
      refine holdI (holdC (i := 2) (q2 _ (w_loadN rfl underlying24 rfl sz24 hs40 hk_6)) hold0) (fun hp => ?_)
      refine RG_eff (rs := [3, 4, 5]) (by kernel_rfl) rfl ?_
      obtain ⟨ha0, ha1, ha2⟩ := h
      simp only [List.mem_cons, List.not_mem_nil, or_false, forall_eq_or_imp, forall_eq]
      refine ⟨?_, ?_, ?_⟩
      · have h := ha0; clear ha0 ha1 ha2
        refine g_op (Sp' := []) rfl rfl (k_call (vs := [(Value.agg v_40)]) cb16 (evC rfl evN) (h.mono ?_))
        clear h; rintro v F ⟨v_41, rfl, h⟩
        refine holdI hold0 (fun hp => ?_)
        refine RG_eff (rs := [4, 5]) (by kernel_rfl) rfl ?_
        obtain ⟨ha0, ha1⟩ := h
        simp only [List.mem_cons, List.not_mem_nil, or_false, forall_eq_or_imp, forall_eq]
        refine ⟨?_, ?_⟩
        · have h := ha0; clear ha0 ha1
          refine g_op (Sp' := []) rfl rfl (k_alloc zr28 ?_)
          intro b8 hf_b8
          replace h := atE (h b8 hf_b8)
          refine holdI hold0 (fun hp => ?_)
          refine RG_eff1 (i := 5) (by kernel_rfl) (g_op (Sp' := []) rfl rfl (k_alloc zr28 ?_))
          intro b9 hf_b9
          replace h := atE (h b9 hf_b9)
          refine holdI hold0 (fun hp => ?_)
          refine RG_eff1 (i := 6) (by kernel_rfl) (g_op0 (Sp' := []) rfl rfl (k_storeN (vs := v_39) rfl rfl sz28 (by decide) ?_))
          obtain ⟨hz1, hz2, c, e, hz3, hz4, hz5, h⟩ := h
          refine ⟨hz1, hz2, c, e, hz3, hz4, hz5, ?_⟩
          replace h := atE h
          refine holdI hold0 (fun hp => ?_)
          refine RG_eff1 (i := 7) (by kernel_rfl) (g_op0 (Sp' := []) rfl rfl (k_storeN (vs := v_41) rfl rfl sz28 (by decide) ?_))
          obtain ⟨hz1, hz2, c, e, hz3, hz4, hz5, h⟩ := h
          refine ⟨hz1, hz2, c, e, hz3, hz4, hz5, ?_⟩
          replace h := atE h
          refine holdI hold0 (fun hp => ?_)
          refine RG_done (by kernel_rfl) ?_
          show b9J1 n_2 v_37 R _ _
          exact ⟨_, _, rfl, rfl, rfl, rfl, h⟩
        · have h := ha1; clear ha0 ha1
          refine g_op (Sp' := []) rfl rfl (k_alloc zr28 ?_)
          intro b9_1 hf_b9_1
          replace h := atE (h b9_1 hf_b9_1)
          refine holdI hold0 (fun hp => ?_)
          refine RG_eff1 (i := 4) (by kernel_rfl) (g_op (Sp' := []) rfl rfl (k_alloc zr28 ?_))
          intro b8_1 hf_b8_1
          replace h := atE (h b8_1 hf_b8_1)
          refine holdI hold0 (fun hp => ?_)
          refine RG_eff1 (i := 6) (by kernel_rfl) (g_op0 (Sp' := []) rfl rfl (k_storeN (vs := v_39) rfl rfl sz28 (by decide) ?_))
          obtain ⟨hz1, hz2, c, e, hz3, hz4, hz5, h⟩ := h
          refine ⟨hz1, hz2, c, e, hz3, hz4, hz5, ?_⟩
          replace h := atE h
          refine holdI hold0 (fun hp => ?_)
          refine RG_eff1 (i := 7) (by kernel_rfl) (g_op0 (Sp' := []) rfl rfl (k_storeN (vs := v_41) rfl rfl sz28 (by decide) ?_))
          obtain ⟨hz1, hz2, c, e, hz3, hz4, hz5, h⟩ := h
          refine ⟨hz1, hz2, c, e, hz3, hz4, hz5, ?_⟩
          replace h := atE h
          refine holdI hold0 (fun hp => ?_)
          refine RG_done (by kernel_rfl) ?_
          show b9J1 n_2 v_37 R _ _
          exact ⟨_, _, rfl, rfl, rfl, rfl, h⟩
      · have h := ha1; clear ha0 ha1 ha2
        refine g_op (Sp' := [(2, S2)]) rfl rfl (k_alloc zr28 ?_)
        intro b8_2 hf_b8_2
        replace h := atE (h b8_2 hf_b8_2)
        refine holdI (holdC (i := 2) (q2 _ (w_loadN rfl underlying24 rfl sz24 hs40 (row_set_fresh hf_b8_2 hk_6))) hold0) (fun hp => ?_)
        refine RG_eff (rs := [3, 5]) (by kernel_rfl) rfl ?_
        obtain ⟨ha0, ha1⟩ := h
        simp only [List.mem_cons, List.not_mem_nil, or_false, forall_eq_or_imp, forall_eq]
        refine ⟨?_, ?_⟩
        · have h := ha0; clear ha0 ha1
          refine g_op (Sp' := []) rfl rfl (k_call (vs := [(Value.agg v_40)]) cb16 (evC rfl evN) (h.mono ?_))
          clear h; rintro v F ⟨v_41_1, rfl, h⟩
          refine holdI hold0 (fun hp => ?_)
          refine RG_eff1 (i := 5) (by kernel_rfl) (g_op (Sp' := []) rfl rfl (k_alloc zr28 ?_))
          intro b9_2 hf_b9_2
          replace h := atE (h b9_2 hf_b9_2)
          refine holdI hold0 (fun hp => ?_)
          refine RG_eff1 (i := 6) (by kernel_rfl) (g_op0 (Sp' := []) rfl rfl (k_storeN (vs := v_39) rfl rfl sz28 (by decide) ?_))
          obtain ⟨hz1, hz2, c, e, hz3, hz4, hz5, h⟩ := h
          refine ⟨hz1, hz2, c, e, hz3, hz4, hz5, ?_⟩
          replace h := atE h
          refine holdI hold0 (fun hp => ?_)
          refine RG_eff1 (i := 7) (by kernel_rfl) (g_op0 (Sp' := []) rfl rfl (k_storeN (vs := v_41_1) rfl rfl sz28 (by decide) ?_))
          obtain ⟨hz1, hz2, c, e, hz3, hz4, hz5, h⟩ := h
          refine ⟨hz1, hz2, c, e, hz3, hz4, hz5, ?_⟩
          replace h := atE h
          refine holdI hold0 (fun hp => ?_)
          refine RG_done (by kernel_rfl) ?_
          show b9J1 n_2 v_37 R _ _
          exact ⟨_, _, rfl, rfl, rfl, rfl, h⟩
        · have h := ha1; clear ha0 ha1
          refine g_op (Sp' := [(2, S2)]) rfl rfl (k_alloc zr28 ?_)
          intro b9_3 hf_b9_3
          replace h := atE (h b9_3 hf_b9_3)
          refine holdI (holdC (i := 2) (q2 _ (w_loadN rfl underlying24 rfl sz24 hs40 (row_set_fresh hf_b9_3 (row_set_fresh hf_b8_2 hk_6)))) hold0) (fun hp => ?_)
          refine RG_eff1 (i := 3) (by kernel_rfl) (g_op (Sp' := []) rfl rfl (k_call (vs := [(Value.agg v_40)]) cb16 (evC rfl evN) (h.mono ?_)))
          clear h; rintro v F ⟨v_41_2, rfl, h⟩
          refine holdI hold0 (fun hp => ?_)
          refine RG_eff1 (i := 6) (by kernel_rfl) (g_op0 (Sp' := []) rfl rfl (k_storeN (vs := v_39) rfl rfl sz28 (by decide) ?_))
          obtain ⟨hz1, hz2, c, e, hz3, hz4, hz5, h⟩ := h
          refine ⟨hz1, hz2, c, e, hz3, hz4, hz5, ?_⟩
          replace h := atE h
          refine holdI hold0 (fun hp => ?_)
          refine RG_eff1 (i := 7) (by kernel_rfl) (g_op0 (Sp' := []) rfl rfl (k_storeN (vs := v_41_2) rfl rfl sz28 (by decide) ?_))
          obtain ⟨hz1, hz2, c, e, hz3, hz4, hz5, h⟩ := h
          refine ⟨hz1, hz2, c, e, hz3, hz4, hz5, ?_⟩
          replace h := atE h
          refine holdI hold0 (fun hp => ?_)
          refine RG_done (by kernel_rfl) ?_
          show b9J1 n_2 v_37 R _ _
          exact ⟨_, _, rfl, rfl, rfl, rfl, h⟩
      · have h := ha2; clear ha0 ha1 ha2
        refine g_op (Sp' := [(2, S2)]) rfl rfl (k_alloc zr28 ?_)
        intro b9_4 hf_b9_4
        replace h := atE (h b9_4 hf_b9_4)
        refine holdI (holdC (i := 2) (q2 _ (w_loadN rfl underlying24 rfl sz24 hs40 (row_set_fresh hf_b9_4 hk_6))) hold0) (fun hp => ?_)
        refine RG_eff (rs := [3, 4]) (by kernel_rfl) rfl ?_
        obtain ⟨ha0, ha1⟩ := h
        simp only [List.mem_cons, List.not_mem_nil, or_false, forall_eq_or_imp, forall_eq]
        refine ⟨?_, ?_⟩
        · have h := ha0; clear ha0 ha1
          refine g_op (Sp' := []) rfl rfl (k_call (vs := [(Value.agg v_40)]) cb16 (evC rfl evN) (h.mono ?_))
          clear h; rintro v F ⟨v_41_3, rfl, h⟩
          refine holdI hold0 (fun hp => ?_)
          refine RG_eff1 (i := 4) (by kernel_rfl) (g_op (Sp' := []) rfl rfl (k_alloc zr28 ?_))
          intro b8_3 hf_b8_3
          replace h := atE (h b8_3 hf_b8_3)
          refine holdI hold0 (fun hp => ?_)
          refine RG_eff1 (i := 6) (by kernel_rfl) (g_op0 (Sp' := []) rfl rfl (k_storeN (vs := v_39) rfl rfl sz28 (by decide) ?_))
          obtain ⟨hz1, hz2, c, e, hz3, hz4, hz5, h⟩ := h
          refine ⟨hz1, hz2, c, e, hz3, hz4, hz5, ?_⟩
          replace h := atE h
          refine holdI hold0 (fun hp => ?_)
          refine RG_eff1 (i := 7) (by kernel_rfl) (g_op0 (Sp' := []) rfl rfl (k_storeN (vs := v_41_3) rfl rfl sz28 (by decide) ?_))
          obtain ⟨hz1, hz2, c, e, hz3, hz4, hz5, h⟩ := h
          refine ⟨hz1, hz2, c, e, hz3, hz4, hz5, ?_⟩
          replace h := atE h
          refine holdI hold0 (fun hp => ?_)
          refine RG_done (by kernel_rfl) ?_
          show b9J1 n_2 v_37 R _ _
          exact ⟨_, _, rfl, rfl, rfl, rfl, h⟩
        · have h := ha1; clear ha0 ha1
          refine g_op (Sp' := [(2, S2)]) rfl rfl (k_alloc zr28 ?_)
          intro b8_4 hf_b8_4
          replace h := atE (h b8_4 hf_b8_4)
          refine holdI (holdC (i := 2) (q2 _ (w_loadN rfl underlying24 rfl sz24 hs40 (row_set_fresh hf_b8_4 (row_set_fresh hf_b9_4 hk_6)))) hold0) (fun hp => ?_)
          refine RG_eff1 (i := 3) (by kernel_rfl) (g_op (Sp' := []) rfl rfl (k_call (vs := [(Value.agg v_40)]) cb16 (evC rfl evN) (h.mono ?_)))
          clear h; rintro v F ⟨v_41_4, rfl, h⟩
          refine holdI hold0 (fun hp => ?_)
          refine RG_eff1 (i := 6) (by kernel_rfl) (g_op0 (Sp' := []) rfl rfl (k_storeN (vs := v_39) rfl rfl sz28 (by decide) ?_))
          obtain ⟨hz1, hz2, c, e, hz3, hz4, hz5, h⟩ := h
          refine ⟨hz1, hz2, c, e, hz3, hz4, hz5, ?_⟩
          replace h := atE h
          refine holdI hold0 (fun hp => ?_)
          refine RG_eff1 (i := 7) (by kernel_rfl) (g_op0 (Sp' := []) rfl rfl (k_storeN (vs := v_41_4) rfl rfl sz28 (by decide) ?_))
          obtain ⟨hz1, hz2, c, e, hz3, hz4, hz5, h⟩ := h
          refine ⟨hz1, hz2, c, e, hz3, hz4, hz5, ?_⟩
          replace h := atE h
          refine holdI hold0 (fun hp => ?_)
          refine RG_done (by kernel_rfl) ?_
          show b9J1 n_2 v_37 R _ _
          exact ⟨_, _, rfl, rfl, rfl, rfl, h⟩
    · have h := ha1; clear ha0 ha1 ha2
      refine g_op (Sp' := [(2, S2), (0, S0)]) rfl rfl (k_alloc zr28 ?_)
      intro b8_5 hf_b8_5
      replace h := atE (h b8_5 hf_b8_5)
      refine holdI (holdC (i := 2) (q2 _ (w_loadN rfl underlying24 rfl sz24 hs40 (row_set_fresh hf_b8_5 hc40))) (holdC (i := 0) (q0 _ (w_loadN rfl underlying24 rfl sz24 hs38 (row_set_fresh hf_b8_5 hc38))) hold0)) (fun hp => ?_)
      refine RG_eff (rs := [1, 5]) (by kernel_rfl) rfl ?_
      obtain ⟨ha0, ha1⟩ := h
      simp only [List.mem_cons, List.not_mem_nil, or_false, forall_eq_or_imp, forall_eq]
      refine ⟨?_, ?_⟩
      · have h := ha0; clear ha0 ha1
        refine g_op (Sp' := [(2, S2)]) rfl rfl (k_call (vs := [(Value.agg v_38)]) cb16 (evC rfl evN) (h.mono ?_))
        clear h; rintro v F ⟨v_39_1, rfl, h⟩
        obtain ⟨hk_7, h⟩ := h
        refine holdI (holdC (i := 2) (q2 _ (w_loadN rfl underlying24 rfl sz24 hs40 hk_7)) hold0) (fun hp => ?_)
        refine RG_eff (rs := [3, 5]) (by kernel_rfl) rfl ?_
        obtain ⟨ha0, ha1⟩ := h
        simp only [List.mem_cons, List.not_mem_nil, or_false, forall_eq_or_imp, forall_eq]
        refine ⟨?_, ?_⟩
        · have h := ha0; clear ha0 ha1
          refine g_op (Sp' := []) rfl rfl (k_call (vs := [(Value.agg v_40)]) cb16 (evC rfl evN) (h.mono ?_))
          clear h; rintro v F ⟨v_41_5, rfl, h⟩
          refine holdI hold0 (fun hp => ?_)
          refine RG_eff1 (i := 5) (by kernel_rfl) (g_op (Sp' := []) rfl rfl (k_alloc zr28 ?_))
          intro b9_5 hf_b9_5
          replace h := atE (h b9_5 hf_b9_5)
          refine holdI hold0 (fun hp => ?_)
          refine RG_eff1 (i := 6) (by kernel_rfl) (g_op0 (Sp' := []) rfl rfl (k_storeN (vs := v_39_1) rfl rfl sz28 (by decide) ?_))
          obtain ⟨hz1, hz2, c, e, hz3, hz4, hz5, h⟩ := h
          refine ⟨hz1, hz2, c, e, hz3, hz4, hz5, ?_⟩
          replace h := atE h
          refine holdI hold0 (fun hp => ?_)
          refine RG_eff1 (i := 7) (by kernel_rfl) (g_op0 (Sp' := []) rfl rfl (k_storeN (vs := v_41_5) rfl rfl sz28 (by decide) ?_))
          obtain ⟨hz1, hz2, c, e, hz3, hz4, hz5, h⟩ := h
          refine ⟨hz1, hz2, c, e, hz3, hz4, hz5, ?_⟩
          replace h := atE h
          refine holdI hold0 (fun hp => ?_)
          refine RG_done (by kernel_rfl) ?_
          show b9J1 n_2 v_37 R _ _
          exact ⟨_, _, rfl, rfl, rfl, rfl, h⟩
        · have h := ha1; clear ha0 ha1
          refine g_op (Sp' := [(2, S2)]) rfl rfl (k_alloc zr28 ?_)
          intro b9_6 hf_b9_6
          replace h := atE (h b9_6 hf_b9_6)
          refine holdI (holdC (i := 2) (q2 _ (w_loadN rfl underlying24 rfl sz24 hs40 (row_set_fresh hf_b9_6 hk_7))) hold0) (fun hp => ?_)
          refine RG_eff1 (i := 3) (by kernel_rfl) (g_op (Sp' := []) rfl rfl (k_call (vs := [(Value.agg v_40)]) cb16 (evC rfl evN) (h.mono ?_)))
          clear h; rintro v F ⟨v_41_6, rfl, h⟩
          refine holdI hold0 (fun hp => ?_)
          refine RG_eff1 (i := 6) (by kernel_rfl) (g_op0 (Sp' := []) rfl rfl (k_storeN (vs := v_39_1) rfl rfl sz28 (by decide) ?_))
          obtain ⟨hz1, hz2, c, e, hz3, hz4, hz5, h⟩ := h
          refine ⟨hz1, hz2, c, e, hz3, hz4, hz5, ?_⟩
          replace h := atE h
          refine holdI hold0 (fun hp => ?_)
          refine RG_eff1 (i := 7) (by kernel_rfl) (g_op0 (Sp' := []) rfl rfl (k_storeN (vs := v_41_6) rfl rfl sz28 (by decide) ?_))
          obtain ⟨hz1, hz2, c, e, hz3, hz4, hz5, h⟩ := h
          refine ⟨hz1, hz2, c, e, hz3, hz4, hz5, ?_⟩
          replace h := atE h
          refine holdI hold0 (fun hp => ?_)
          refine RG_done (by kernel_rfl) ?_
          show b9J1 n_2 v_37 R _ _
          exact ⟨_, _, rfl, rfl, rfl, rfl, h⟩
      · have h := ha1; clear ha0 ha1
        refine g_op (Sp' := [(2, S2), (0, S0)]) rfl rfl (k_alloc zr28 ?_)
        intro b9_7 hf_b9_7
        replace h := atE (h b9_7 hf_b9_7)
        refine holdI (holdC (i := 2) (q2 _ (w_loadN rfl underlying24 rfl sz24 hs40 (row_set_fresh hf_b9_7 (row_set_fresh hf_b8_5 hc40)))) (holdC (i := 0) (q0 _ (w_loadN rfl underlying24 rfl sz24 hs38 (row_set_fresh hf_b9_7 (row_set_fresh hf_b8_5 hc38)))) hold0)) (fun hp => ?_)
        refine RG_eff1 (i := 1) (by kernel_rfl) (g_op (Sp' := [(2, S2)]) rfl rfl (k_call (vs := [(Value.agg v_38)]) cb16 (evC rfl evN) (h.mono ?_)))
        clear h; rintro v F ⟨v_39_2, rfl, h⟩
        obtain ⟨hk_8, h⟩ := h
        refine holdI (holdC (i := 2) (q2 _ (w_loadN rfl underlying24 rfl sz24 hs40 hk_8)) hold0) (fun hp => ?_)
        refine RG_eff1 (i := 3) (by kernel_rfl) (g_op (Sp' := []) rfl rfl (k_call (vs := [(Value.agg v_40)]) cb16 (evC rfl evN) (h.mono ?_)))
        clear h; rintro v F ⟨v_41_7, rfl, h⟩
        refine holdI hold0 (fun hp => ?_)
        refine RG_eff1 (i := 6) (by kernel_rfl) (g_op0 (Sp' := []) rfl rfl (k_storeN (vs := v_39_2) rfl rfl sz28 (by decide) ?_))
        obtain ⟨hz1, hz2, c, e, hz3, hz4, hz5, h⟩ := h
        refine ⟨hz1, hz2, c, e, hz3, hz4, hz5, ?_⟩
        replace h := atE h
        refine holdI hold0 (fun hp => ?_)
        refine RG_eff1 (i := 7) (by kernel_rfl) (g_op0 (Sp' := []) rfl rfl (k_storeN (vs := v_41_7) rfl rfl sz28 (by decide) ?_))
        obtain ⟨hz1, hz2, c, e, hz3, hz4, hz5, h⟩ := h
        refine ⟨hz1, hz2, c, e, hz3, hz4, hz5, ?_⟩
        replace h := atE h
        refine holdI hold0 (fun hp => ?_)
        refine RG_done (by kernel_rfl) ?_
        show b9J1 n_2 v_37 R _ _
        exact ⟨_, _, rfl, rfl, rfl, rfl, h⟩
    · have h := ha2; clear ha0 ha1 ha2
      refine g_op (Sp' := [(2, S2), (0, S0)]) rfl rfl (k_alloc zr28 ?_)
      intro b9_8 hf_b9_8
      replace h := atE (h b9_8 hf_b9_8)
      refine holdI (holdC (i := 2) (q2 _ (w_loadN rfl underlying24 rfl sz24 hs40 (row_set_fresh hf_b9_8 hc40))) (holdC (i := 0) (q0 _ (w_loadN rfl underlying24 rfl sz24 hs38 (row_set_fresh hf_b9_8 hc38))) hold0)) (fun hp => ?_)
      refine RG_eff (rs := [1, 4]) (by kernel_rfl) rfl ?_
      obtain ⟨ha0, ha1⟩ := h
      simp only [List.mem_cons, List.not_mem_nil, or_false, forall_eq_or_imp, forall_eq]
      refine ⟨?_, ?_⟩
      · have h := ha0; clear ha0 ha1
        refine g_op (Sp' := [(2, S2)]) rfl rfl (k_call (vs := [(Value.agg v_38)]) cb16 (evC rfl evN) (h.mono ?_))
        clear h; rintro v F ⟨v_39_3, rfl, h⟩
        obtain ⟨hk_9, h⟩ := h
        refine holdI (holdC (i := 2) (q2 _ (w_loadN rfl underlying24 rfl sz24 hs40 hk_9)) hold0) (fun hp => ?_)
        refine RG_eff (rs := [3, 4]) (by kernel_rfl) rfl ?_
        obtain ⟨ha0, ha1⟩ := h
        simp only [List.mem_cons, List.not_mem_nil, or_false, forall_eq_or_imp, forall_eq]
        refine ⟨?_, ?_⟩
        · have h := ha0; clear ha0 ha1
          refine g_op (Sp' := []) rfl rfl (k_call (vs := [(Value.agg v_40)]) cb16 (evC rfl evN) (h.mono ?_))
          clear h; rintro v F ⟨v_41_8, rfl, h⟩
          refine holdI hold0 (fun hp => ?_)
          refine RG_eff1 (i := 4) (by kernel_rfl) (g_op (Sp' := []) rfl rfl (k_alloc zr28 ?_))
          intro b8_6 hf_b8_6
          replace h := atE (h b8_6 hf_b8_6)
          refine holdI hold0 (fun hp => ?_)
          refine RG_eff1 (i := 6) (by kernel_rfl) (g_op0 (Sp' := []) rfl rfl (k_storeN (vs := v_39_3) rfl rfl sz28 (by decide) ?_))
          obtain ⟨hz1, hz2, c, e, hz3, hz4, hz5, h⟩ := h
          refine ⟨hz1, hz2, c, e, hz3, hz4, hz5, ?_⟩
          replace h := atE h
          refine holdI hold0 (fun hp => ?_)
          refine RG_eff1 (i := 7) (by kernel_rfl) (g_op0 (Sp' := []) rfl rfl (k_storeN (vs := v_41_8) rfl rfl sz28 (by decide) ?_))
          obtain ⟨hz1, hz2, c, e, hz3, hz4, hz5, h⟩ := h
          refine ⟨hz1, hz2, c, e, hz3, hz4, hz5, ?_⟩
          replace h := atE h
          refine holdI hold0 (fun hp => ?_)
          refine RG_done (by kernel_rfl) ?_
          show b9J1 n_2 v_37 R _ _
          exact ⟨_, _, rfl, rfl, rfl, rfl, h⟩
        · have h := ha1; clear ha0 ha1
          refine g_op (Sp' := [(2, S2)]) rfl rfl (k_alloc zr28 ?_)
          intro b8_7 hf_b8_7
          replace h := atE (h b8_7 hf_b8_7)
          refine holdI (holdC (i := 2) (q2 _ (w_loadN rfl underlying24 rfl sz24 hs40 (row_set_fresh hf_b8_7 hk_9))) hold0) (fun hp => ?_)
          refine RG_eff1 (i := 3) (by kernel_rfl) (g_op (Sp' := []) rfl rfl (k_call (vs := [(Value.agg v_40)]) cb16 (evC rfl evN) (h.mono ?_)))
          clear h; rintro v F ⟨v_41_9, rfl, h⟩
          refine holdI hold0 (fun hp => ?_)
          refine RG_eff1 (i := 6) (by kernel_rfl) (g_op0 (Sp' := []) rfl rfl (k_storeN (vs := v_39_3) rfl rfl sz28 (by decide) ?_))
          obtain ⟨hz1, hz2, c, e, hz3, hz4, hz5, h⟩ := h
          refine ⟨hz1, hz2, c, e, hz3, hz4, hz5, ?_⟩
          replace h := atE h
          refine holdI hold0 (fun hp => ?_)
          refine RG_eff1 (i := 7) (by kernel_rfl) (g_op0 (Sp' := []) rfl rfl (k_storeN (vs := v_41_9) rfl rfl sz28 (by decide) ?_))
          obtain ⟨hz1, hz2, c, e, hz3, hz4, hz5, h⟩ := h
          refine ⟨hz1, hz2, c, e, hz3, hz4, hz5, ?_⟩
          replace h := atE h
          refine holdI hold0 (fun hp => ?_)
          refine RG_done (by kernel_rfl) ?_
          show b9J1 n_2 v_37 R _ _
          exact ⟨_, _, rfl, rfl, rfl, rfl, h⟩
      · have h := ha1; clear ha0 ha1
        refine g_op (Sp' := [(2, S2), (0, S0)]) rfl rfl (k_alloc zr28 ?_)
        intro b8_8 hf_b8_8
        replace h := atE (h b8_8 hf_b8_8)
        refine holdI (holdC (i := 2) (q2 _ (w_loadN rfl underlying24 rfl sz24 hs40 (row_set_fresh hf_b8_8 (row_set_fresh hf_b9_8 hc40)))) (holdC (i := 0) (q0 _ (w_loadN rfl underlying24 rfl sz24 hs38 (row_set_fresh hf_b8_8 (row_set_fresh hf_b9_8 hc38)))) hold0)) (fun hp => ?_)
        refine RG_eff1 (i := 1) (by kernel_rfl) (g_op (Sp' := [(2, S2)]) rfl rfl (k_call (vs := [(Value.agg v_38)]) cb16 (evC rfl evN) (h.mono ?_)))
        clear h; rintro v F ⟨v_39_4, rfl, h⟩
        obtain ⟨hk_10, h⟩ := h
        refine holdI (holdC (i := 2) (q2 _ (w_loadN rfl underlying24 rfl sz24 hs40 hk_10)) hold0) (fun hp => ?_)
        refine RG_eff1 (i := 3) (by kernel_rfl) (g_op (Sp' := []) rfl rfl (k_call (vs := [(Value.agg v_40)]) cb16 (evC rfl evN) (h.mono ?_)))
        clear h; rintro v F ⟨v_41_10, rfl, h⟩
        refine holdI hold0 (fun hp => ?_)
        refine RG_eff1 (i := 6) (by kernel_rfl) (g_op0 (Sp' := []) rfl rfl (k_storeN (vs := v_39_4) rfl rfl sz28 (by decide) ?_))
        obtain ⟨hz1, hz2, c, e, hz3, hz4, hz5, h⟩ := h
        refine ⟨hz1, hz2, c, e, hz3, hz4, hz5, ?_⟩
        replace h := atE h
        refine holdI hold0 (fun hp => ?_)
        refine RG_eff1 (i := 7) (by kernel_rfl) (g_op0 (Sp' := []) rfl rfl (k_storeN (vs := v_41_10) rfl rfl sz28 (by decide) ?_))
        obtain ⟨hz1, hz2, c, e, hz3, hz4, hz5, h⟩ := h
        refine ⟨hz1, hz2, c, e, hz3, hz4, hz5, ?_⟩
        replace h := atE h
        refine holdI hold0 (fun hp => ?_)
        refine RG_done (by kernel_rfl) ?_
        show b9J1 n_2 v_37 R _ _
        exact ⟨_, _, rfl, rfl, rfl, rfl, h⟩

end Go.Proofs.Ytafojmoeaneedaa
