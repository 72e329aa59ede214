/-
  What functions of the program do, in a clean form, each with the proof that its code does so. Printed by a program.
-/
import Derived.Test.YtafojmoeaneedaaGf
namespace Go.Proofs.Ytafojmoeaneedaa
open Go Go.Proofs.Try
set_option maxRecDepth 10000
set_option maxHeartbeats 4000000
/- 11 koine.koinelaw02.DiagramInclusion -/
def b11j2 (v_12 : Bool) (a6a_ : Addr) (b7a_ : Addr) (b8 : Nat) (v_20_1 : Int) (v_25 : Bool) (both_11 : Bool) (R : Value → PH → Prop) (F : PH) : Prop :=
  ((v_20_1 = (0 : Int) →
    ∃ v_36 : Array Value, v_36.size = 2 ∧ F.row (Addr.mk b8 0 none) v_36 ∧
    ∃ v_37 : Array Value, v_37.size = 2 ∧ F.row a6a_ v_37 ∧
    Spec prog 24 #[(Value.agg v_36), (Value.agg v_37)] F fun v F => ∃ v_38 : Bool, v = (Value.bool v_38) ∧
    (((v_25 == v_38) = true →
      ∃ v_42 : Array Value, v_42.size = 2 ∧ F.row a6a_ v_42 ∧
      ∃ v_43 : Array Value, v_43.size = 2 ∧ F.row b7a_ v_43 ∧
      ∃ v_45 : Array Value, v_45.size = 2 ∧ F.row (Addr.mk b8 0 none) v_45 ∧
      Spec prog 46 #[(Value.agg v_42), (Value.agg v_43)] F fun v F => ∃ v_44 : Bool, v = (Value.bool v_44) ∧
      F.row (Addr.mk b8 0 none) v_45 ∧ Spec prog 17 #[(Value.bool false)] F fun v F => ∃ v_46 : Array Value, v = (Value.agg v_46) ∧
      F.row (Addr.mk b8 0 none) v_45 ∧ Spec prog 24 #[(Value.agg v_45), (Value.agg v_46)] F fun v F => ∃ v_47 : Bool, v = (Value.bool v_47) ∧
      (((v_44 == v_47) = true →
        ∃ v_52 : Array Value, v_52.size = 2 ∧ F.row a6a_ v_52 ∧
        ∃ v_53 : Array Value, v_53.size = 2 ∧ F.row b7a_ v_53 ∧
        Spec prog 24 #[(Value.agg v_52), (Value.agg v_53)] F fun v F => ∃ v_54 : Bool, v = (Value.bool v_54) ∧
        (((both_11 == v_54) = true →
          ∃ v_58 : Array Value, v_58.size = 2 ∧ F.row (Addr.mk b8 0 none) v_58 ∧
          ∃ v_59 : Array Value, v_59.size = 2 ∧ F.row b7a_ v_59 ∧
          Spec prog 44 #[(Value.agg v_58), (Value.agg v_59)] F fun v F => ∃ v_60 : Bool, v = (Value.bool v_60) ∧
          ((v_60 = true →
            R (Value.bool v_12) F) ∧
          (v_60 = false →
            R (Value.bool false) F))) ∧
        ((both_11 == v_54) = false →
          R (Value.bool false) F))) ∧
      ((v_44 == v_47) = false →
        R (Value.bool false) F))) ∧
    ((v_25 == v_38) = false →
      R (Value.bool false) F))) ∧
  (¬ (v_20_1 = (0 : Int)) →
    R (Value.bool false) F))
abbrev b11J2 (v_12 : Bool) (a6a_ : Addr) (b7a_ : Addr) (b8 : Nat) (v_20_1 : Int) (v_25 : Bool) (R : Value → PH → Prop) (E : En) (F : PH) : Prop := ∃ both_11 : Bool, E 5 = (Value.bool v_12) ∧ E 6 = (Value.pointer (some a6a_)) ∧ E 7 = (Value.pointer (some b7a_)) ∧ E 8 = (Value.pointer (some (Addr.mk b8 0 none))) ∧ E 9 = (Value.int .i64 v_20_1) ∧ E 10 = (Value.bool v_25) ∧ E 11 = (Value.bool both_11) ∧ b11j2 v_12 a6a_ b7a_ b8 v_20_1 v_25 both_11 R F
def b11j1 (v_12 : Bool) (a_6 : Option Addr) (b_7 : Option Addr) (R : Value → PH → Prop) (F : PH) : Prop :=
  ∃ a6a_ : Addr, a_6 = some a6a_ ∧ ∃ v_18 : Array Value, v_18.size = 2 ∧ F.row a6a_ v_18 ∧
  ∃ b7a_ : Addr, b_7 = some b7a_ ∧ ∃ v_19 : Array Value, v_19.size = 2 ∧ F.row b7a_ v_19 ∧
  Spec prog 19 #[(Value.agg v_18), (Value.agg v_19)] F fun v F => ∃ v_20 : Array Value, ∃ v_20_1 : Int, v = (Value.tuple #[(Value.agg v_20), (Value.int .i64 v_20_1)]) ∧
  ∀ b8, F b8 = none → atF (F.set b8 (.cells (#[Value.slice none 0 0, Value.int .i64 0]) 28)) fun F =>
  v_20.size = 2 ∧ (∀ v ∈ v_20.toList, storable v) ∧ ∃ c e, F (Addr.mk b8 0 none).block = some (.cells c e (0, 0)) ∧ (Addr.mk b8 0 none).spot = none ∧ (Addr.mk b8 0 none).off + 2 ≤ c.size ∧
  atF (F.set (Addr.mk b8 0 none).block (.cells (wr c (Addr.mk b8 0 none).off v_20.toList) e)) fun F =>
  ∃ v_23 : Array Value, v_23.size = 2 ∧ F.row a6a_ v_23 ∧
  ∃ v_24 : Array Value, v_24.size = 2 ∧ F.row b7a_ v_24 ∧
  Spec prog 44 #[(Value.agg v_23), (Value.agg v_24)] F fun v F => ∃ v_25 : Bool, v = (Value.bool v_25) ∧
  ((v_25 = true →
    ∃ v_28 : Array Value, v_28.size = 2 ∧ F.row b7a_ v_28 ∧
    ∃ v_29 : Array Value, v_29.size = 2 ∧ F.row a6a_ v_29 ∧
    Spec prog 44 #[(Value.agg v_28), (Value.agg v_29)] F fun v F => ∃ v_30 : Bool, v = (Value.bool v_30) ∧
    b11j2 v_12 a6a_ b7a_ b8 v_20_1 v_25 v_30 R F) ∧
  (v_25 = false →
    b11j2 v_12 a6a_ b7a_ b8 v_20_1 v_25 false R F))
abbrev b11J1 (v_12 : Bool) (R : Value → PH → Prop) (E : En) (F : PH) : Prop := ∃ a_6 : Option Addr, ∃ b_7 : Option Addr, E 5 = (Value.bool v_12) ∧ E 6 = (Value.pointer a_6) ∧ E 7 = (Value.pointer b_7) ∧ b11j1 v_12 a_6 b_7 R F
def b11 (s_0 : Array Value) (t_1 : Array Value) (R : Value → PH → Prop) (F : PH) : Prop :=
  ∀ b2, F b2 = none → atF (F.set b2 (.cells s_0 24)) fun F =>
  ∀ b3, F b3 = none → atF (F.set b3 (.cells t_1 24)) fun F =>
  Spec prog 15 #[] F fun v F => ∃ v_12 : Bool, v = (Value.bool v_12) ∧
  ∃ v_13 : Array Value, v_13.size = 2 ∧ F.row (Addr.mk b2 0 none) v_13 ∧
  ∃ v_15 : Array Value, v_15.size = 2 ∧ F.row (Addr.mk b3 0 none) v_15 ∧
  ((Spec prog 16 #[(Value.agg v_13)] F fun v F => ∃ v_14 : Array Value, v = (Value.agg v_14) ∧
  F.row (Addr.mk b3 0 none) v_15 ∧ ((Spec prog 16 #[(Value.agg v_15)] F fun v F => ∃ v_16 : Array Value, v = (Value.agg v_16) ∧
  ((∀ b6, F b6 = none → atF (F.set b6 (.cells (#[Value.slice none 0 0, Value.int .i64 0]) 28)) fun F =>
  ∀ b7, F b7 = none → atF (F.set b7 (.cells (#[Value.slice none 0 0, Value.int .i64 0]) 28)) fun F =>
  v_14.size = 2 ∧ (∀ v ∈ v_14.toList, storable v) ∧ ∃ c e, F (Addr.mk b6 0 none).block = some (.cells c e (0, 0)) ∧ (Addr.mk b6 0 none).spot = none ∧ (Addr.mk b6 0 none).off + 2 ≤ c.size ∧
  atF (F.set (Addr.mk b6 0 none).block (.cells (wr c (Addr.mk b6 0 none).off v_14.toList) e)) fun F =>
  v_16.size = 2 ∧ (∀ v ∈ v_16.toList, storable v) ∧ ∃ c e, F (Addr.mk b7 0 none).block = some (.cells c e (0, 0)) ∧ (Addr.mk b7 0 none).spot = none ∧ (Addr.mk b7 0 none).off + 2 ≤ c.size ∧
  atF (F.set (Addr.mk b7 0 none).block (.cells (wr c (Addr.mk b7 0 none).off v_16.toList) e)) fun F =>
  b11j1 v_12 (some (Addr.mk b6 0 none)) (some (Addr.mk b7 0 none)) R F) ∧
  (∀ b7_1, F b7_1 = none → atF (F.set b7_1 (.cells (#[Value.slice none 0 0, Value.int .i64 0]) 28)) fun F =>
  ∀ b6_1, F b6_1 = none → atF (F.set b6_1 (.cells (#[Value.slice none 0 0, Value.int .i64 0]) 28)) fun F =>
  v_14.size = 2 ∧ (∀ v ∈ v_14.toList, storable v) ∧ ∃ c e, F (Addr.mk b6_1 0 none).block = some (.cells c e (0, 0)) ∧ (Addr.mk b6_1 0 none).spot = none ∧ (Addr.mk b6_1 0 none).off + 2 ≤ c.size ∧
  atF (F.set (Addr.mk b6_1 0 none).block (.cells (wr c (Addr.mk b6_1 0 none).off v_14.toList) e)) fun F =>
  v_16.size = 2 ∧ (∀ v ∈ v_16.toList, storable v) ∧ ∃ c e, F (Addr.mk b7_1 0 none).block = some (.cells c e (0, 0)) ∧ (Addr.mk b7_1 0 none).spot = none ∧ (Addr.mk b7_1 0 none).off + 2 ≤ c.size ∧
  atF (F.set (Addr.mk b7_1 0 none).block (.cells (wr c (Addr.mk b7_1 0 none).off v_16.toList) e)) fun F =>
  b11j1 v_12 (some (Addr.mk b6_1 0 none)) (some (Addr.mk b7_1 0 none)) R F))) ∧
  (∀ b6_2, F b6_2 = none → atF (F.set b6_2 (.cells (#[Value.slice none 0 0, Value.int .i64 0]) 28)) fun F =>
  ((Spec prog 16 #[(Value.agg v_15)] F fun v F => ∃ v_16_1 : Array Value, v = (Value.agg v_16_1) ∧
  ∀ b7_2, F b7_2 = none → atF (F.set b7_2 (.cells (#[Value.slice none 0 0, Value.int .i64 0]) 28)) fun F =>
  v_14.size = 2 ∧ (∀ v ∈ v_14.toList, storable v) ∧ ∃ c e, F (Addr.mk b6_2 0 none).block = some (.cells c e (0, 0)) ∧ (Addr.mk b6_2 0 none).spot = none ∧ (Addr.mk b6_2 0 none).off + 2 ≤ c.size ∧
  atF (F.set (Addr.mk b6_2 0 none).block (.cells (wr c (Addr.mk b6_2 0 none).off v_14.toList) e)) fun F =>
  v_16_1.size = 2 ∧ (∀ v ∈ v_16_1.toList, storable v) ∧ ∃ c e, F (Addr.mk b7_2 0 none).block = some (.cells c e (0, 0)) ∧ (Addr.mk b7_2 0 none).spot = none ∧ (Addr.mk b7_2 0 none).off + 2 ≤ c.size ∧
  atF (F.set (Addr.mk b7_2 0 none).block (.cells (wr c (Addr.mk b7_2 0 none).off v_16_1.toList) e)) fun F =>
  b11j1 v_12 (some (Addr.mk b6_2 0 none)) (some (Addr.mk b7_2 0 none)) R F) ∧
  (∀ b7_3, F b7_3 = none → atF (F.set b7_3 (.cells (#[Value.slice none 0 0, Value.int .i64 0]) 28)) fun F =>
  Spec prog 16 #[(Value.agg v_15)] F fun v F => ∃ v_16_2 : Array Value, v = (Value.agg v_16_2) ∧
  v_14.size = 2 ∧ (∀ v ∈ v_14.toList, storable v) ∧ ∃ c e, F (Addr.mk b6_2 0 none).block = some (.cells c e (0, 0)) ∧ (Addr.mk b6_2 0 none).spot = none ∧ (Addr.mk b6_2 0 none).off + 2 ≤ c.size ∧
  atF (F.set (Addr.mk b6_2 0 none).block (.cells (wr c (Addr.mk b6_2 0 none).off v_14.toList) e)) fun F =>
  v_16_2.size = 2 ∧ (∀ v ∈ v_16_2.toList, storable v) ∧ ∃ c e, F (Addr.mk b7_3 0 none).block = some (.cells c e (0, 0)) ∧ (Addr.mk b7_3 0 none).spot = none ∧ (Addr.mk b7_3 0 none).off + 2 ≤ c.size ∧
  atF (F.set (Addr.mk b7_3 0 none).block (.cells (wr c (Addr.mk b7_3 0 none).off v_16_2.toList) e)) fun F =>
  b11j1 v_12 (some (Addr.mk b6_2 0 none)) (some (Addr.mk b7_3 0 none)) R F))) ∧
  (∀ b7_4, F b7_4 = none → atF (F.set b7_4 (.cells (#[Value.slice none 0 0, Value.int .i64 0]) 28)) fun F =>
  ((Spec prog 16 #[(Value.agg v_15)] F fun v F => ∃ v_16_3 : Array Value, v = (Value.agg v_16_3) ∧
  ∀ b6_3, F b6_3 = none → atF (F.set b6_3 (.cells (#[Value.slice none 0 0, Value.int .i64 0]) 28)) fun F =>
  v_14.size = 2 ∧ (∀ v ∈ v_14.toList, storable v) ∧ ∃ c e, F (Addr.mk b6_3 0 none).block = some (.cells c e (0, 0)) ∧ (Addr.mk b6_3 0 none).spot = none ∧ (Addr.mk b6_3 0 none).off + 2 ≤ c.size ∧
  atF (F.set (Addr.mk b6_3 0 none).block (.cells (wr c (Addr.mk b6_3 0 none).off v_14.toList) e)) fun F =>
  v_16_3.size = 2 ∧ (∀ v ∈ v_16_3.toList, storable v) ∧ ∃ c e, F (Addr.mk b7_4 0 none).block = some (.cells c e (0, 0)) ∧ (Addr.mk b7_4 0 none).spot = none ∧ (Addr.mk b7_4 0 none).off + 2 ≤ c.size ∧
  atF (F.set (Addr.mk b7_4 0 none).block (.cells (wr c (Addr.mk b7_4 0 none).off v_16_3.toList) e)) fun F =>
  b11j1 v_12 (some (Addr.mk b6_3 0 none)) (some (Addr.mk b7_4 0 none)) R F) ∧
  (∀ b6_4, F b6_4 = none → atF (F.set b6_4 (.cells (#[Value.slice none 0 0, Value.int .i64 0]) 28)) fun F =>
  Spec prog 16 #[(Value.agg v_15)] F fun v F => ∃ v_16_4 : Array Value, v = (Value.agg v_16_4) ∧
  v_14.size = 2 ∧ (∀ v ∈ v_14.toList, storable v) ∧ ∃ c e, F (Addr.mk b6_4 0 none).block = some (.cells c e (0, 0)) ∧ (Addr.mk b6_4 0 none).spot = none ∧ (Addr.mk b6_4 0 none).off + 2 ≤ c.size ∧
  atF (F.set (Addr.mk b6_4 0 none).block (.cells (wr c (Addr.mk b6_4 0 none).off v_14.toList) e)) fun F =>
  v_16_4.size = 2 ∧ (∀ v ∈ v_16_4.toList, storable v) ∧ ∃ c e, F (Addr.mk b7_4 0 none).block = some (.cells c e (0, 0)) ∧ (Addr.mk b7_4 0 none).spot = none ∧ (Addr.mk b7_4 0 none).off + 2 ≤ c.size ∧
  atF (F.set (Addr.mk b7_4 0 none).block (.cells (wr c (Addr.mk b7_4 0 none).off v_16_4.toList) e)) fun F =>
  b11j1 v_12 (some (Addr.mk b6_4 0 none)) (some (Addr.mk b7_4 0 none)) R F))))) ∧
  (∀ b6_5, F b6_5 = none → atF (F.set b6_5 (.cells (#[Value.slice none 0 0, Value.int .i64 0]) 28)) fun F =>
  ((Spec prog 16 #[(Value.agg v_13)] F fun v F => ∃ v_14_1 : Array Value, v = (Value.agg v_14_1) ∧
  F.row (Addr.mk b3 0 none) v_15 ∧ ((Spec prog 16 #[(Value.agg v_15)] F fun v F => ∃ v_16_5 : Array Value, v = (Value.agg v_16_5) ∧
  ∀ b7_5, F b7_5 = none → atF (F.set b7_5 (.cells (#[Value.slice none 0 0, Value.int .i64 0]) 28)) fun F =>
  v_14_1.size = 2 ∧ (∀ v ∈ v_14_1.toList, storable v) ∧ ∃ c e, F (Addr.mk b6_5 0 none).block = some (.cells c e (0, 0)) ∧ (Addr.mk b6_5 0 none).spot = none ∧ (Addr.mk b6_5 0 none).off + 2 ≤ c.size ∧
  atF (F.set (Addr.mk b6_5 0 none).block (.cells (wr c (Addr.mk b6_5 0 none).off v_14_1.toList) e)) fun F =>
  v_16_5.size = 2 ∧ (∀ v ∈ v_16_5.toList, storable v) ∧ ∃ c e, F (Addr.mk b7_5 0 none).block = some (.cells c e (0, 0)) ∧ (Addr.mk b7_5 0 none).spot = none ∧ (Addr.mk b7_5 0 none).off + 2 ≤ c.size ∧
  atF (F.set (Addr.mk b7_5 0 none).block (.cells (wr c (Addr.mk b7_5 0 none).off v_16_5.toList) e)) fun F =>
  b11j1 v_12 (some (Addr.mk b6_5 0 none)) (some (Addr.mk b7_5 0 none)) R F) ∧
  (∀ b7_6, F b7_6 = none → atF (F.set b7_6 (.cells (#[Value.slice none 0 0, Value.int .i64 0]) 28)) fun F =>
  Spec prog 16 #[(Value.agg v_15)] F fun v F => ∃ v_16_6 : Array Value, v = (Value.agg v_16_6) ∧
  v_14_1.size = 2 ∧ (∀ v ∈ v_14_1.toList, storable v) ∧ ∃ c e, F (Addr.mk b6_5 0 none).block = some (.cells c e (0, 0)) ∧ (Addr.mk b6_5 0 none).spot = none ∧ (Addr.mk b6_5 0 none).off + 2 ≤ c.size ∧
  atF (F.set (Addr.mk b6_5 0 none).block (.cells (wr c (Addr.mk b6_5 0 none).off v_14_1.toList) e)) fun F =>
  v_16_6.size = 2 ∧ (∀ v ∈ v_16_6.toList, storable v) ∧ ∃ c e, F (Addr.mk b7_6 0 none).block = some (.cells c e (0, 0)) ∧ (Addr.mk b7_6 0 none).spot = none ∧ (Addr.mk b7_6 0 none).off + 2 ≤ c.size ∧
  atF (F.set (Addr.mk b7_6 0 none).block (.cells (wr c (Addr.mk b7_6 0 none).off v_16_6.toList) e)) fun F =>
  b11j1 v_12 (some (Addr.mk b6_5 0 none)) (some (Addr.mk b7_6 0 none)) R F))) ∧
  (∀ b7_7, F b7_7 = none → atF (F.set b7_7 (.cells (#[Value.slice none 0 0, Value.int .i64 0]) 28)) fun F =>
  Spec prog 16 #[(Value.agg v_13)] F fun v F => ∃ v_14_2 : Array Value, v = (Value.agg v_14_2) ∧
  F.row (Addr.mk b3 0 none) v_15 ∧ Spec prog 16 #[(Value.agg v_15)] F fun v F => ∃ v_16_7 : Array Value, v = (Value.agg v_16_7) ∧
  v_14_2.size = 2 ∧ (∀ v ∈ v_14_2.toList, storable v) ∧ ∃ c e, F (Addr.mk b6_5 0 none).block = some (.cells c e (0, 0)) ∧ (Addr.mk b6_5 0 none).spot = none ∧ (Addr.mk b6_5 0 none).off + 2 ≤ c.size ∧
  atF (F.set (Addr.mk b6_5 0 none).block (.cells (wr c (Addr.mk b6_5 0 none).off v_14_2.toList) e)) fun F =>
  v_16_7.size = 2 ∧ (∀ v ∈ v_16_7.toList, storable v) ∧ ∃ c e, F (Addr.mk b7_7 0 none).block = some (.cells c e (0, 0)) ∧ (Addr.mk b7_7 0 none).spot = none ∧ (Addr.mk b7_7 0 none).off + 2 ≤ c.size ∧
  atF (F.set (Addr.mk b7_7 0 none).block (.cells (wr c (Addr.mk b7_7 0 none).off v_16_7.toList) e)) fun F =>
  b11j1 v_12 (some (Addr.mk b6_5 0 none)) (some (Addr.mk b7_7 0 none)) R F))) ∧
  (∀ b7_8, F b7_8 = none → atF (F.set b7_8 (.cells (#[Value.slice none 0 0, Value.int .i64 0]) 28)) fun F =>
  ((Spec prog 16 #[(Value.agg v_13)] F fun v F => ∃ v_14_3 : Array Value, v = (Value.agg v_14_3) ∧
  F.row (Addr.mk b3 0 none) v_15 ∧ ((Spec prog 16 #[(Value.agg v_15)] F fun v F => ∃ v_16_8 : Array Value, v = (Value.agg v_16_8) ∧
  ∀ b6_6, F b6_6 = none → atF (F.set b6_6 (.cells (#[Value.slice none 0 0, Value.int .i64 0]) 28)) fun F =>
  v_14_3.size = 2 ∧ (∀ v ∈ v_14_3.toList, storable v) ∧ ∃ c e, F (Addr.mk b6_6 0 none).block = some (.cells c e (0, 0)) ∧ (Addr.mk b6_6 0 none).spot = none ∧ (Addr.mk b6_6 0 none).off + 2 ≤ c.size ∧
  atF (F.set (Addr.mk b6_6 0 none).block (.cells (wr c (Addr.mk b6_6 0 none).off v_14_3.toList) e)) fun F =>
  v_16_8.size = 2 ∧ (∀ v ∈ v_16_8.toList, storable v) ∧ ∃ c e, F (Addr.mk b7_8 0 none).block = some (.cells c e (0, 0)) ∧ (Addr.mk b7_8 0 none).spot = none ∧ (Addr.mk b7_8 0 none).off + 2 ≤ c.size ∧
  atF (F.set (Addr.mk b7_8 0 none).block (.cells (wr c (Addr.mk b7_8 0 none).off v_16_8.toList) e)) fun F =>
  b11j1 v_12 (some (Addr.mk b6_6 0 none)) (some (Addr.mk b7_8 0 none)) R F) ∧
  (∀ b6_7, F b6_7 = none → atF (F.set b6_7 (.cells (#[Value.slice none 0 0, Value.int .i64 0]) 28)) fun F =>
  Spec prog 16 #[(Value.agg v_15)] F fun v F => ∃ v_16_9 : Array Value, v = (Value.agg v_16_9) ∧
  v_14_3.size = 2 ∧ (∀ v ∈ v_14_3.toList, storable v) ∧ ∃ c e, F (Addr.mk b6_7 0 none).block = some (.cells c e (0, 0)) ∧ (Addr.mk b6_7 0 none).spot = none ∧ (Addr.mk b6_7 0 none).off + 2 ≤ c.size ∧
  atF (F.set (Addr.mk b6_7 0 none).block (.cells (wr c (Addr.mk b6_7 0 none).off v_14_3.toList) e)) fun F =>
  v_16_9.size = 2 ∧ (∀ v ∈ v_16_9.toList, storable v) ∧ ∃ c e, F (Addr.mk b7_8 0 none).block = some (.cells c e (0, 0)) ∧ (Addr.mk b7_8 0 none).spot = none ∧ (Addr.mk b7_8 0 none).off + 2 ≤ c.size ∧
  atF (F.set (Addr.mk b7_8 0 none).block (.cells (wr c (Addr.mk b7_8 0 none).off v_16_9.toList) e)) fun F =>
  b11j1 v_12 (some (Addr.mk b6_7 0 none)) (some (Addr.mk b7_8 0 none)) R F))) ∧
  (∀ b6_8, F b6_8 = none → atF (F.set b6_8 (.cells (#[Value.slice none 0 0, Value.int .i64 0]) 28)) fun F =>
  Spec prog 16 #[(Value.agg v_13)] F fun v F => ∃ v_14_4 : Array Value, v = (Value.agg v_14_4) ∧
  F.row (Addr.mk b3 0 none) v_15 ∧ Spec prog 16 #[(Value.agg v_15)] F fun v F => ∃ v_16_10 : Array Value, v = (Value.agg v_16_10) ∧
  v_14_4.size = 2 ∧ (∀ v ∈ v_14_4.toList, storable v) ∧ ∃ c e, F (Addr.mk b6_8 0 none).block = some (.cells c e (0, 0)) ∧ (Addr.mk b6_8 0 none).spot = none ∧ (Addr.mk b6_8 0 none).off + 2 ≤ c.size ∧
  atF (F.set (Addr.mk b6_8 0 none).block (.cells (wr c (Addr.mk b6_8 0 none).off v_14_4.toList) e)) fun F =>
  v_16_10.size = 2 ∧ (∀ v ∈ v_16_10.toList, storable v) ∧ ∃ c e, F (Addr.mk b7_8 0 none).block = some (.cells c e (0, 0)) ∧ (Addr.mk b7_8 0 none).spot = none ∧ (Addr.mk b7_8 0 none).off + 2 ≤ c.size ∧
  atF (F.set (Addr.mk b7_8 0 none).block (.cells (wr c (Addr.mk b7_8 0 none).off v_16_10.toList) e)) fun F =>
  b11j1 v_12 (some (Addr.mk b6_8 0 none)) (some (Addr.mk b7_8 0 none)) R F))))
theorem c11 {s_0 : Array Value} {t_1 : Array Value} {R : Value → PH → Prop} {F : PH} (h : b11 s_0 t_1 R F) : Spec prog 11 #[(Value.agg s_0), (Value.agg t_1)] F R := by
  refine spec_of (args := [(Value.agg s_0), (Value.agg t_1)]) func11 rfl ntmps11 rfl ?_
  unfold b11 at h
  refine HC_seq ?_
  refine HC_region ?_
  refine s_ef (k_box (cs := s_0) rfl rfl ?_)
  intro b2 hf_b2
  replace h := atE (h b2 hf_b2)
  refine s_ef (k_box (cs := t_1) rfl rfl ?_)
  intro b3 hf_b3
  replace h := atE (h b3 hf_b3)
  refine s_rd (v := (Value.bool false)) (r_assign rfl rfl) ?_
  refine HL_nil ?_
  refine HC_seq ?_
  refine HC_region ?_
  refine s_ef (k_call (vs := []) cb15 evN (h.mono ?_))
  clear h; rintro v F ⟨v_12, rfl, h⟩
  refine s_rd (v := (Value.bool v_12)) (r_assign rfl rfl) ?_
  refine HL_nil ?_
  refine HC_seqJ (b11J1 v_12 R) ?_ ?_
  · clear h; rintro E F ⟨a_6, b_7, h5, h6, h7, h⟩
    unfold b11j1 at h
    refine HC_seq ?_
    refine HC_region ?_
    obtain ⟨a6a_, rfl, h⟩ := h
    obtain ⟨v_18, hs18, hc18, h⟩ := h
    refine s_rd (v := (Value.agg v_18)) (w_loadN h6 underlying28 rfl sz28 hs18 hc18) ?_
    obtain ⟨b7a_, rfl, h⟩ := h
    obtain ⟨v_19, hs19, hc19, h⟩ := h
    refine s_rd (v := (Value.agg v_19)) (w_loadN h7 underlying28 rfl sz28 hs19 hc19) ?_
    refine s_ef (k_call (vs := [(Value.agg v_18), (Value.agg v_19)]) cb19 (evC rfl (evC rfl evN)) (h.mono ?_))
    clear h; rintro v F ⟨v_20, v_20_1, rfl, h⟩
    refine s_rd (v := (Value.tuple #[(Value.agg v_20), (Value.int .i64 v_20_1)])) (r_move rfl rfl) ?_
    refine s_rd (v := (Value.agg v_20)) (r_extract rfl rfl rfl) ?_
    refine s_rd (v := (Value.int .i64 v_20_1)) (r_extract rfl rfl rfl) ?_
    refine s_ef (k_alloc zr28 ?_)
    intro b8 hf_b8
    replace h := atE (h b8 hf_b8)
    refine s_ef0 (k_storeN (vs := v_20) rfl rfl sz28 (by decide) ?_)
    obtain ⟨hz1, hz2, c, e, hz3, hz4, hz5, h⟩ := h
    refine ⟨hz1, hz2, c, e, hz3, hz4, hz5, ?_⟩
    replace h := atE h
    refine s_rd (v := (Value.int .i64 v_20_1)) (r_assign rfl rfl) ?_
    refine HL_nil ?_
    refine HC_seq ?_
    refine HC_region ?_
    obtain ⟨v_23, hs23, hc23, h⟩ := h
    refine s_rd (v := (Value.agg v_23)) (w_loadN h6 underlying28 rfl sz28 hs23 hc23) ?_
    obtain ⟨v_24, hs24, hc24, h⟩ := h
    refine s_rd (v := (Value.agg v_24)) (w_loadN h7 underlying28 rfl sz28 hs24 hc24) ?_
    refine s_ef (k_call (vs := [(Value.agg v_23), (Value.agg v_24)]) cb44 (evC rfl (evC rfl evN)) (h.mono ?_))
    clear h; rintro v F ⟨v_25, rfl, h⟩
    refine s_rd (v := (Value.bool v_25)) (r_assign rfl rfl) ?_
    refine HL_nil ?_
    refine HC_seqJ (b11J2 v_12 a6a_ b7a_ b8 v_20_1 v_25 R) ?_ ?_
    · clear h; rintro E F ⟨both_11, h5, h6, h7, h8, h9, h10, h11, h⟩
      unfold b11j2 at h
      refine HC_seq ?_
      refine HC_draw0 (by kernel_rfl) (fun hp => ?_)
      refine g_pu (i := 0) (v := (Value.int .i64 v_20_1)) rfl (by kernel_rfl) (by kernel_rfl) (by kernel_rfl) (fun _ _ _ h => h) (fun _ => r_move rfl h9) hp ?_
      refine g_pu (i := 1) (v := (Value.bool (decide (v_20_1 = (0 : Int))))) rfl (by kernel_rfl) (by kernel_rfl) (by kernel_rfl) (fun _ _ _ h => h) (fun _ => w_eql rfl rfl) hp ?_
      refine g_pu (i := 2) (v := (Value.bool (decide (v_20_1 = (0 : Int))))) rfl (by kernel_rfl) (by kernel_rfl) (by kernel_rfl) (fun _ _ _ h => h) (fun _ => r_move rfl rfl) hp ?_
      by_cases hc : v_20_1 = (0 : Int)
      · replace h := h.1 hc
        refine RG_known (t := 33) (v := .bool true) (congrArg Value.bool (decide_eq_true hc)) ?_
        refine RG_known (t := 34) (v := .bool true) (congrArg Value.bool (decide_eq_true hc)) ?_
        refine g_pu (i := 3) (v := (Value.bool v_25)) rfl (by kernel_rfl) (by kernel_rfl) (by kernel_rfl) (fun _ _ _ h => h) (fun _ => r_move rfl h10) hp ?_
        obtain ⟨v_36, hs36, hc36, h⟩ := h
        refine g_rd (i := 4) (v := (Value.agg v_36)) rfl (by kernel_rfl) (by kernel_rfl) (by kernel_rfl) (fun _ _ _ h => h) (w_loadN h8 underlying28 rfl sz28 hs36 hc36) hp (fun S4 q4 => ?_)
        replace hp := holdC (i := 4) (q4 _ (w_loadN h8 underlying28 rfl sz28 hs36 hc36)) hp
        obtain ⟨v_37, hs37, hc37, h⟩ := h
        refine g_rd (i := 5) (v := (Value.agg v_37)) rfl (by kernel_rfl) (by kernel_rfl) (by kernel_rfl) (fun _ _ _ h => h) (w_loadN h6 underlying28 rfl sz28 hs37 hc37) hp (fun S5 q5 => ?_)
        replace hp := holdC (i := 5) (q5 _ (w_loadN h6 underlying28 rfl sz28 hs37 hc37)) hp
        refine RG_eff1 (i := 6) (by kernel_rfl) (g_op (Sp' := []) rfl rfl (k_call (vs := [(Value.agg v_36), (Value.agg v_37)]) cb24 (evC rfl (evC rfl evN)) (h.mono ?_)))
        clear h; rintro v F ⟨v_38, rfl, h⟩
        refine holdI hold0 (fun hp => ?_)
        refine g_pu (i := 7) (v := (Value.bool (v_25 == v_38))) rfl (by kernel_rfl) (by kernel_rfl) (by kernel_rfl) (fun _ _ _ h => h) (fun _ => r_eqlB rfl rfl rfl underlying4) hp ?_
        refine g_pu (i := 8) (v := (Value.bool (v_25 == v_38))) rfl (by kernel_rfl) (by kernel_rfl) (by kernel_rfl) (fun _ _ _ h => h) (fun _ => r_pick rfl rfl (fun _ => rfl) (fun h => by cases h)) hp ?_
        refine g_pu (i := 9) (v := (Value.bool (v_25 == v_38))) rfl (by kernel_rfl) (by kernel_rfl) (by kernel_rfl) (fun _ _ _ h => h) (fun _ => r_move rfl rfl) hp ?_
        by_cases hc : (v_25 == v_38) = true
        · replace h := h.1 hc
          refine RG_known (t := 39) (v := .bool true) (congrArg Value.bool hc) ?_
          refine RG_known (t := 40) (v := .bool true) (congrArg Value.bool hc) ?_
          refine RG_known (t := 41) (v := .bool true) (congrArg Value.bool hc) ?_
          obtain ⟨v_42, hs42, hc42, h⟩ := h
          refine g_rd (i := 10) (v := (Value.agg v_42)) rfl (by kernel_rfl) (by kernel_rfl) (by kernel_rfl) (fun _ _ _ h => h) (w_loadN h6 underlying28 rfl sz28 hs42 hc42) hp (fun S10 q10 => ?_)
          replace hp := holdC (i := 10) (q10 _ (w_loadN h6 underlying28 rfl sz28 hs42 hc42)) hp
          obtain ⟨v_43, hs43, hc43, h⟩ := h
          refine g_rd (i := 11) (v := (Value.agg v_43)) rfl (by kernel_rfl) (by kernel_rfl) (by kernel_rfl) (fun _ _ _ h => h) (w_loadN h7 underlying28 rfl sz28 hs43 hc43) hp (fun S11 q11 => ?_)
          replace hp := holdC (i := 11) (q11 _ (w_loadN h7 underlying28 rfl sz28 hs43 hc43)) hp
          obtain ⟨v_45, hs45, hc45, h⟩ := h
          refine g_rd (i := 13) (v := (Value.agg v_45)) rfl (by kernel_rfl) (by kernel_rfl) (by kernel_rfl) (fun _ _ _ h => h) (w_loadN h8 underlying28 rfl sz28 hs45 hc45) hp (fun S13 q13 => ?_)
          replace hp := holdC (i := 13) (q13 _ (w_loadN h8 underlying28 rfl sz28 hs45 hc45)) hp
          refine RG_eff1 (i := 12) (by kernel_rfl) (g_op (Sp' := [(13, S13)]) rfl rfl (k_call (vs := [(Value.agg v_42), (Value.agg v_43)]) cb46 (evC rfl (evC rfl evN)) (h.mono ?_)))
          clear h; rintro v F ⟨v_44, rfl, h⟩
          obtain ⟨hk_8, h⟩ := h
          refine holdI (holdC (i := 13) (q13 _ (w_loadN h8 underlying28 rfl sz28 hs45 hk_8)) hold0) (fun hp => ?_)
          refine RG_eff1 (i := 14) (by kernel_rfl) (g_op (Sp' := [(13, S13)]) rfl rfl (k_call (vs := [(Value.bool false)]) cb17 (evC rfl evN) (h.mono ?_)))
          clear h; rintro v F ⟨v_46, rfl, h⟩
          obtain ⟨hk_9, h⟩ := h
          refine holdI (holdC (i := 13) (q13 _ (w_loadN h8 underlying28 rfl sz28 hs45 hk_9)) hold0) (fun hp => ?_)
          refine RG_eff1 (i := 15) (by kernel_rfl) (g_op (Sp' := []) rfl rfl (k_call (vs := [(Value.agg v_45), (Value.agg v_46)]) cb24 (evC rfl (evC rfl evN)) (h.mono ?_)))
          clear h; rintro v F ⟨v_47, rfl, h⟩
          refine holdI hold0 (fun hp => ?_)
          refine g_pu (i := 16) (v := (Value.bool (v_44 == v_47))) rfl (by kernel_rfl) (by kernel_rfl) (by kernel_rfl) (fun _ _ _ h => h) (fun _ => r_eqlB rfl rfl rfl underlying4) hp ?_
          refine g_pu (i := 17) (v := (Value.bool (v_44 == v_47))) rfl (by kernel_rfl) (by kernel_rfl) (by kernel_rfl) (fun _ _ _ h => h) (fun _ => r_pick rfl rfl (fun _ => rfl) (fun h => by cases h)) hp ?_
          refine g_pu (i := 18) (v := (Value.bool (v_44 == v_47))) rfl (by kernel_rfl) (by kernel_rfl) (by kernel_rfl) (fun _ _ _ h => h) (fun _ => r_move rfl rfl) hp ?_
          by_cases hc : (v_44 == v_47) = true
          · replace h := h.1 hc
            refine RG_known (t := 48) (v := .bool true) (congrArg Value.bool hc) ?_
            refine RG_known (t := 49) (v := .bool true) (congrArg Value.bool hc) ?_
            refine RG_known (t := 50) (v := .bool true) (congrArg Value.bool hc) ?_
            refine g_pu (i := 19) (v := (Value.bool both_11)) rfl (by kernel_rfl) (by kernel_rfl) (by kernel_rfl) (fun _ _ _ h => h) (fun _ => r_move rfl h11) hp ?_
            obtain ⟨v_52, hs52, hc52, h⟩ := h
            refine g_rd (i := 20) (v := (Value.agg v_52)) rfl (by kernel_rfl) (by kernel_rfl) (by kernel_rfl) (fun _ _ _ h => h) (w_loadN h6 underlying28 rfl sz28 hs52 hc52) hp (fun S20 q20 => ?_)
            replace hp := holdC (i := 20) (q20 _ (w_loadN h6 underlying28 rfl sz28 hs52 hc52)) hp
            obtain ⟨v_53, hs53, hc53, h⟩ := h
            refine g_rd (i := 21) (v := (Value.agg v_53)) rfl (by kernel_rfl) (by kernel_rfl) (by kernel_rfl) (fun _ _ _ h => h) (w_loadN h7 underlying28 rfl sz28 hs53 hc53) hp (fun S21 q21 => ?_)
            replace hp := holdC (i := 21) (q21 _ (w_loadN h7 underlying28 rfl sz28 hs53 hc53)) hp
            refine RG_eff1 (i := 22) (by kernel_rfl) (g_op (Sp' := []) rfl rfl (k_call (vs := [(Value.agg v_52), (Value.agg v_53)]) cb24 (evC rfl (evC rfl evN)) (h.mono ?_)))
            clear h; rintro v F ⟨v_54, rfl, h⟩
            refine holdI hold0 (fun hp => ?_)
            refine g_pu (i := 23) (v := (Value.bool (both_11 == v_54))) rfl (by kernel_rfl) (by kernel_rfl) (by kernel_rfl) (fun _ _ _ h => h) (fun _ => r_eqlB rfl rfl rfl underlying4) hp ?_
            refine g_pu (i := 24) (v := (Value.bool (both_11 == v_54))) rfl (by kernel_rfl) (by kernel_rfl) (by kernel_rfl) (fun _ _ _ h => h) (fun _ => r_pick rfl rfl (fun _ => rfl) (fun h => by cases h)) hp ?_
            refine g_pu (i := 25) (v := (Value.bool (both_11 == v_54))) rfl (by kernel_rfl) (by kernel_rfl) (by kernel_rfl) (fun _ _ _ h => h) (fun _ => r_move rfl rfl) hp ?_
            by_cases hc : (both_11 == v_54) = true
            · replace h := h.1 hc
              refine RG_known (t := 55) (v := .bool true) (congrArg Value.bool hc) ?_
              refine RG_known (t := 56) (v := .bool true) (congrArg Value.bool hc) ?_
              refine RG_known (t := 57) (v := .bool true) (congrArg Value.bool hc) ?_
              obtain ⟨v_58, hs58, hc58, h⟩ := h
              refine g_rd (i := 26) (v := (Value.agg v_58)) rfl (by kernel_rfl) (by kernel_rfl) (by kernel_rfl) (fun _ _ _ h => h) (w_loadN h8 underlying28 rfl sz28 hs58 hc58) hp (fun S26 q26 => ?_)
              replace hp := holdC (i := 26) (q26 _ (w_loadN h8 underlying28 rfl sz28 hs58 hc58)) hp
              obtain ⟨v_59, hs59, hc59, h⟩ := h
              refine g_rd (i := 27) (v := (Value.agg v_59)) rfl (by kernel_rfl) (by kernel_rfl) (by kernel_rfl) (fun _ _ _ h => h) (w_loadN h7 underlying28 rfl sz28 hs59 hc59) hp (fun S27 q27 => ?_)
              replace hp := holdC (i := 27) (q27 _ (w_loadN h7 underlying28 rfl sz28 hs59 hc59)) hp
              refine RG_eff1 (i := 28) (by kernel_rfl) (g_op (Sp' := []) rfl rfl (k_call (vs := [(Value.agg v_58), (Value.agg v_59)]) cb44 (evC rfl (evC rfl evN)) (h.mono ?_)))
              clear h; rintro v F ⟨v_60, rfl, h⟩
              refine holdI hold0 (fun hp => ?_)
              refine g_pu (i := 29) (v := (Value.bool v_60)) rfl (by kernel_rfl) (by kernel_rfl) (by kernel_rfl) (fun _ _ _ h => h) (fun _ => r_pick rfl rfl (fun _ => rfl) (fun h => by cases h)) hp ?_
              refine g_pu (i := 30) (v := (Value.bool v_60)) rfl (by kernel_rfl) (by kernel_rfl) (by kernel_rfl) (fun _ _ _ h => h) (fun _ => r_move rfl rfl) hp ?_
              by_cases hc : v_60 = true
              · replace h := h.1 hc
                refine RG_known (t := 60) (v := .bool true) (congrArg Value.bool hc) ?_
                refine RG_known (t := 61) (v := .bool true) (congrArg Value.bool hc) ?_
                refine RG_known (t := 62) (v := .bool true) (congrArg Value.bool hc) ?_
                refine g_pu (i := 31) (v := (Value.bool v_12)) rfl (by kernel_rfl) (by kernel_rfl) (by kernel_rfl) (fun _ _ _ h => h) (fun _ => r_move rfl h5) hp ?_
                refine g_pu (i := 32) (v := (Value.bool v_12)) rfl (by kernel_rfl) (by kernel_rfl) (by kernel_rfl) (fun _ _ _ h => h) (fun _ => r_pick rfl rfl (fun _ => rfl) (fun h => by cases h)) hp ?_
                refine g_pu (i := 33) (v := (Value.bool v_12)) rfl (by kernel_rfl) (by kernel_rfl) (by kernel_rfl) (fun _ _ _ h => h) (fun _ => r_assign rfl rfl) hp ?_
                refine RG_done (by kernel_rfl) ?_
                exact HC_ret (show endQ prog f11 R .ret _ _ from ⟨_, res1 rfl (rv_tmp rfl), h⟩)
              · replace hc := eq_false_of_ne_true hc; replace h := h.2 hc
                refine RG_known (t := 60) (v := .bool false) (congrArg Value.bool hc) ?_
                refine RG_known (t := 61) (v := .bool false) (congrArg Value.bool hc) ?_
                refine RG_known (t := 62) (v := .bool false) (congrArg Value.bool hc) ?_
                refine g_skip (i := 31) rfl (by kernel_rfl) (by kernel_rfl) (by kernel_rfl) (fun _ _ _ h => h) hp ?_
                refine g_pu (i := 32) (v := (Value.bool false)) rfl (by kernel_rfl) (by kernel_rfl) (by kernel_rfl) (fun _ _ _ h => h) (fun _ => r_pick rfl rfl (fun h => by cases h) (fun _ => rfl)) hp ?_
                refine g_pu (i := 33) (v := (Value.bool false)) rfl (by kernel_rfl) (by kernel_rfl) (by kernel_rfl) (fun _ _ _ h => h) (fun _ => r_assign rfl rfl) hp ?_
                refine RG_done (by kernel_rfl) ?_
                exact HC_ret (show endQ prog f11 R .ret _ _ from ⟨_, res1 rfl (rv_tmp rfl), h⟩)
            · replace hc := eq_false_of_ne_true hc; replace h := h.2 hc
              refine RG_known (t := 55) (v := .bool false) (congrArg Value.bool hc) ?_
              refine RG_known (t := 56) (v := .bool false) (congrArg Value.bool hc) ?_
              refine RG_known (t := 57) (v := .bool false) (congrArg Value.bool hc) ?_
              refine g_skip (i := 26) rfl (by kernel_rfl) (by kernel_rfl) (by kernel_rfl) (fun _ _ _ h => h) hp ?_
              refine g_skip (i := 27) rfl (by kernel_rfl) (by kernel_rfl) (by kernel_rfl) (fun _ _ _ h => h) hp ?_
              refine g_skip (i := 28) rfl (by kernel_rfl) (by kernel_rfl) (by kernel_rfl) (fun _ _ _ h => h) hp ?_
              refine g_pu (i := 29) (v := (Value.bool false)) rfl (by kernel_rfl) (by kernel_rfl) (by kernel_rfl) (fun _ _ _ h => h) (fun _ => r_pick rfl rfl (fun h => by cases h) (fun _ => rfl)) hp ?_
              refine g_pu (i := 30) (v := (Value.bool false)) rfl (by kernel_rfl) (by kernel_rfl) (by kernel_rfl) (fun _ _ _ h => h) (fun _ => r_move rfl rfl) hp ?_
              refine g_skip (i := 31) rfl (by kernel_rfl) (by kernel_rfl) (by kernel_rfl) (fun _ _ _ h => h) hp ?_
              refine g_pu (i := 32) (v := (Value.bool false)) rfl (by kernel_rfl) (by kernel_rfl) (by kernel_rfl) (fun _ _ _ h => h) (fun _ => r_pick rfl rfl (fun h => by cases h) (fun _ => rfl)) hp ?_
              refine g_pu (i := 33) (v := (Value.bool false)) rfl (by kernel_rfl) (by kernel_rfl) (by kernel_rfl) (fun _ _ _ h => h) (fun _ => r_assign rfl rfl) hp ?_
              refine RG_done (by kernel_rfl) ?_
              exact HC_ret (show endQ prog f11 R .ret _ _ from ⟨_, res1 rfl (rv_tmp rfl), h⟩)
          · replace hc := eq_false_of_ne_true hc; replace h := h.2 hc
            refine RG_known (t := 48) (v := .bool false) (congrArg Value.bool hc) ?_
            refine RG_known (t := 49) (v := .bool false) (congrArg Value.bool hc) ?_
            refine RG_known (t := 50) (v := .bool false) (congrArg Value.bool hc) ?_
            refine g_skip (i := 19) rfl (by kernel_rfl) (by kernel_rfl) (by kernel_rfl) (fun _ _ _ h => h) hp ?_
            refine g_skip (i := 20) rfl (by kernel_rfl) (by kernel_rfl) (by kernel_rfl) (fun _ _ _ h => h) hp ?_
            refine g_skip (i := 21) rfl (by kernel_rfl) (by kernel_rfl) (by kernel_rfl) (fun _ _ _ h => h) hp ?_
            refine g_skip (i := 22) rfl (by kernel_rfl) (by kernel_rfl) (by kernel_rfl) (fun _ _ _ h => h) hp ?_
            refine g_skip (i := 23) rfl (by kernel_rfl) (by kernel_rfl) (by kernel_rfl) (fun _ _ _ h => h) hp ?_
            refine g_pu (i := 24) (v := (Value.bool false)) rfl (by kernel_rfl) (by kernel_rfl) (by kernel_rfl) (fun _ _ _ h => h) (fun _ => r_pick rfl rfl (fun h => by cases h) (fun _ => rfl)) hp ?_
            refine g_pu (i := 25) (v := (Value.bool false)) rfl (by kernel_rfl) (by kernel_rfl) (by kernel_rfl) (fun _ _ _ h => h) (fun _ => r_move rfl rfl) hp ?_
            refine g_skip (i := 26) rfl (by kernel_rfl) (by kernel_rfl) (by kernel_rfl) (fun _ _ _ h => h) hp ?_
            refine g_skip (i := 27) rfl (by kernel_rfl) (by kernel_rfl) (by kernel_rfl) (fun _ _ _ h => h) hp ?_
            refine g_skip (i := 28) rfl (by kernel_rfl) (by kernel_rfl) (by kernel_rfl) (fun _ _ _ h => h) hp ?_
            refine g_pu (i := 29) (v := (Value.bool false)) rfl (by kernel_rfl) (by kernel_rfl) (by kernel_rfl) (fun _ _ _ h => h) (fun _ => r_pick rfl rfl (fun h => by cases h) (fun _ => rfl)) hp ?_
            refine g_pu (i := 30) (v := (Value.bool false)) rfl (by kernel_rfl) (by kernel_rfl) (by kernel_rfl) (fun _ _ _ h => h) (fun _ => r_move rfl rfl) hp ?_
            refine g_skip (i := 31) rfl (by kernel_rfl) (by kernel_rfl) (by kernel_rfl) (fun _ _ _ h => h) hp ?_
            refine g_pu (i := 32) (v := (Value.bool false)) rfl (by kernel_rfl) (by kernel_rfl) (by kernel_rfl) (fun _ _ _ h => h) (fun _ => r_pick rfl rfl (fun h => by cases h) (fun _ => rfl)) hp ?_
            refine g_pu (i := 33) (v := (Value.bool false)) rfl (by kernel_rfl) (by kernel_rfl) (by kernel_rfl) (fun _ _ _ h => h) (fun _ => r_assign rfl rfl) hp ?_
            refine RG_done (by kernel_rfl) ?_
            exact HC_ret (show endQ prog f11 R .ret _ _ from ⟨_, res1 rfl (rv_tmp rfl), h⟩)
        · replace hc := eq_false_of_ne_true hc; replace h := h.2 hc
          refine RG_known (t := 39) (v := .bool false) (congrArg Value.bool hc) ?_
          refine RG_known (t := 40) (v := .bool false) (congrArg Value.bool hc) ?_
          refine RG_known (t := 41) (v := .bool false) (congrArg Value.bool hc) ?_
          refine g_skip (i := 10) rfl (by kernel_rfl) (by kernel_rfl) (by kernel_rfl) (fun _ _ _ h => h) hp ?_
          refine g_skip (i := 11) rfl (by kernel_rfl) (by kernel_rfl) (by kernel_rfl) (fun _ _ _ h => h) hp ?_
          refine g_skip (i := 12) rfl (by kernel_rfl) (by kernel_rfl) (by kernel_rfl) (fun _ _ _ h => h) hp ?_
          refine g_skip (i := 13) rfl (by kernel_rfl) (by kernel_rfl) (by kernel_rfl) (fun _ _ _ h => h) hp ?_
          refine g_skip (i := 14) rfl (by kernel_rfl) (by kernel_rfl) (by kernel_rfl) (fun _ _ _ h => h) hp ?_
          refine g_skip (i := 15) rfl (by kernel_rfl) (by kernel_rfl) (by kernel_rfl) (fun _ _ _ h => h) hp ?_
          refine g_skip (i := 16) rfl (by kernel_rfl) (by kernel_rfl) (by kernel_rfl) (fun _ _ _ h => h) hp ?_
          refine g_pu (i := 17) (v := (Value.bool false)) rfl (by kernel_rfl) (by kernel_rfl) (by kernel_rfl) (fun _ _ _ h => h) (fun _ => r_pick rfl rfl (fun h => by cases h) (fun _ => rfl)) hp ?_
          refine g_pu (i := 18) (v := (Value.bool false)) rfl (by kernel_rfl) (by kernel_rfl) (by kernel_rfl) (fun _ _ _ h => h) (fun _ => r_move rfl rfl) hp ?_
          refine g_skip (i := 19) rfl (by kernel_rfl) (by kernel_rfl) (by kernel_rfl) (fun _ _ _ h => h) hp ?_
          refine g_skip (i := 20) rfl (by kernel_rfl) (by kernel_rfl) (by kernel_rfl) (fun _ _ _ h => h) hp ?_
          refine g_skip (i := 21) rfl (by kernel_rfl) (by kernel_rfl) (by kernel_rfl) (fun _ _ _ h => h) hp ?_
          refine g_skip (i := 22) rfl (by kernel_rfl) (by kernel_rfl) (by kernel_rfl) (fun _ _ _ h => h) hp ?_
          refine g_skip (i := 23) rfl (by kernel_rfl) (by kernel_rfl) (by kernel_rfl) (fun _ _ _ h => h) hp ?_
          refine g_pu (i := 24) (v := (Value.bool false)) rfl (by kernel_rfl) (by kernel_rfl) (by kernel_rfl) (fun _ _ _ h => h) (fun _ => r_pick rfl rfl (fun h => by cases h) (fun _ => rfl)) hp ?_
          refine g_pu (i := 25) (v := (Value.bool false)) rfl (by kernel_rfl) (by kernel_rfl) (by kernel_rfl) (fun _ _ _ h => h) (fun _ => r_move rfl rfl) hp ?_
          refine g_skip (i := 26) rfl (by kernel_rfl) (by kernel_rfl) (by kernel_rfl) (fun _ _ _ h => h) hp ?_
          refine g_skip (i := 27) rfl (by kernel_rfl) (by kernel_rfl) (by kernel_rfl) (fun _ _ _ h => h) hp ?_
          refine g_skip (i := 28) rfl (by kernel_rfl) (by kernel_rfl) (by kernel_rfl) (fun _ _ _ h => h) hp ?_
          refine g_pu (i := 29) (v := (Value.bool false)) rfl (by kernel_rfl) (by kernel_rfl) (by kernel_rfl) (fun _ _ _ h => h) (fun _ => r_pick rfl rfl (fun h => by cases h) (fun _ => rfl)) hp ?_
          refine g_pu (i := 30) (v := (Value.bool false)) rfl (by kernel_rfl) (by kernel_rfl) (by kernel_rfl) (fun _ _ _ h => h) (fun _ => r_move rfl rfl) hp ?_
          refine g_skip (i := 31) rfl (by kernel_rfl) (by kernel_rfl) (by kernel_rfl) (fun _ _ _ h => h) hp ?_
          refine g_pu (i := 32) (v := (Value.bool false)) rfl (by kernel_rfl) (by kernel_rfl) (by kernel_rfl) (fun _ _ _ h => h) (fun _ => r_pick rfl rfl (fun h => by cases h) (fun _ => rfl)) hp ?_
          refine g_pu (i := 33) (v := (Value.bool false)) rfl (by kernel_rfl) (by kernel_rfl) (by kernel_rfl) (fun _ _ _ h => h) (fun _ => r_assign rfl rfl) hp ?_
          refine RG_done (by kernel_rfl) ?_
          exact HC_ret (show endQ prog f11 R .ret _ _ from ⟨_, res1 rfl (rv_tmp rfl), h⟩)
      · replace h := h.2 hc
        refine RG_known (t := 33) (v := .bool false) (congrArg Value.bool (decide_eq_false hc)) ?_
        refine RG_known (t := 34) (v := .bool false) (congrArg Value.bool (decide_eq_false hc)) ?_
        refine g_skip (i := 3) rfl (by kernel_rfl) (by kernel_rfl) (by kernel_rfl) (fun _ _ _ h => h) hp ?_
        refine g_skip (i := 4) rfl (by kernel_rfl) (by kernel_rfl) (by kernel_rfl) (fun _ _ _ h => h) hp ?_
        refine g_skip (i := 5) rfl (by kernel_rfl) (by kernel_rfl) (by kernel_rfl) (fun _ _ _ h => h) hp ?_
        refine g_skip (i := 6) rfl (by kernel_rfl) (by kernel_rfl) (by kernel_rfl) (fun _ _ _ h => h) hp ?_
        refine g_skip (i := 7) rfl (by kernel_rfl) (by kernel_rfl) (by kernel_rfl) (fun _ _ _ h => h) hp ?_
        refine g_pu (i := 8) (v := (Value.bool false)) rfl (by kernel_rfl) (by kernel_rfl) (by kernel_rfl) (fun _ _ _ h => h) (fun _ => r_pick rfl rfl (fun h => by cases h) (fun _ => rfl)) hp ?_
        refine g_pu (i := 9) (v := (Value.bool false)) rfl (by kernel_rfl) (by kernel_rfl) (by kernel_rfl) (fun _ _ _ h => h) (fun _ => r_move rfl rfl) hp ?_
        refine g_skip (i := 10) rfl (by kernel_rfl) (by kernel_rfl) (by kernel_rfl) (fun _ _ _ h => h) hp ?_
        refine g_skip (i := 11) rfl (by kernel_rfl) (by kernel_rfl) (by kernel_rfl) (fun _ _ _ h => h) hp ?_
        refine g_skip (i := 12) rfl (by kernel_rfl) (by kernel_rfl) (by kernel_rfl) (fun _ _ _ h => h) hp ?_
        refine g_skip (i := 13) rfl (by kernel_rfl) (by kernel_rfl) (by kernel_rfl) (fun _ _ _ h => h) hp ?_
        refine g_skip (i := 14) rfl (by kernel_rfl) (by kernel_rfl) (by kernel_rfl) (fun _ _ _ h => h) hp ?_
        refine g_skip (i := 15) rfl (by kernel_rfl) (by kernel_rfl) (by kernel_rfl) (fun _ _ _ h => h) hp ?_
        refine g_skip (i := 16) rfl (by kernel_rfl) (by kernel_rfl) (by kernel_rfl) (fun _ _ _ h => h) hp ?_
        refine g_pu (i := 17) (v := (Value.bool false)) rfl (by kernel_rfl) (by kernel_rfl) (by kernel_rfl) (fun _ _ _ h => h) (fun _ => r_pick rfl rfl (fun h => by cases h) (fun _ => rfl)) hp ?_
        refine g_pu (i := 18) (v := (Value.bool false)) rfl (by kernel_rfl) (by kernel_rfl) (by kernel_rfl) (fun _ _ _ h => h) (fun _ => r_move rfl rfl) hp ?_
        refine g_skip (i := 19) rfl (by kernel_rfl) (by kernel_rfl) (by kernel_rfl) (fun _ _ _ h => h) hp ?_
        refine g_skip (i := 20) rfl (by kernel_rfl) (by kernel_rfl) (by kernel_rfl) (fun _ _ _ h => h) hp ?_
        refine g_skip (i := 21) rfl (by kernel_rfl) (by kernel_rfl) (by kernel_rfl) (fun _ _ _ h => h) hp ?_
        refine g_skip (i := 22) rfl (by kernel_rfl) (by kernel_rfl) (by kernel_rfl) (fun _ _ _ h => h) hp ?_
        refine g_skip (i := 23) rfl (by kernel_rfl) (by kernel_rfl) (by kernel_rfl) (fun _ _ _ h => h) hp ?_
        refine g_pu (i := 24) (v := (Value.bool false)) rfl (by kernel_rfl) (by kernel_rfl) (by kernel_rfl) (fun _ _ _ h => h) (fun _ => r_pick rfl rfl (fun h => by cases h) (fun _ => rfl)) hp ?_
        refine g_pu (i := 25) (v := (Value.bool false)) rfl (by kernel_rfl) (by kernel_rfl) (by kernel_rfl) (fun _ _ _ h => h) (fun _ => r_move rfl rfl) hp ?_
        refine g_skip (i := 26) rfl (by kernel_rfl) (by kernel_rfl) (by kernel_rfl) (fun _ _ _ h => h) hp ?_
        refine g_skip (i := 27) rfl (by kernel_rfl) (by kernel_rfl) (by kernel_rfl) (fun _ _ _ h => h) hp ?_
        refine g_skip (i := 28) rfl (by kernel_rfl) (by kernel_rfl) (by kernel_rfl) (fun _ _ _ h => h) hp ?_
        refine g_pu (i := 29) (v := (Value.bool false)) rfl (by kernel_rfl) (by kernel_rfl) (by kernel_rfl) (fun _ _ _ h => h) (fun _ => r_pick rfl rfl (fun h => by cases h) (fun _ => rfl)) hp ?_
        refine g_pu (i := 30) (v := (Value.bool false)) rfl (by kernel_rfl) (by kernel_rfl) (by kernel_rfl) (fun _ _ _ h => h) (fun _ => r_move rfl rfl) hp ?_
        refine g_skip (i := 31) rfl (by kernel_rfl) (by kernel_rfl) (by kernel_rfl) (fun _ _ _ h => h) hp ?_
        refine g_pu (i := 32) (v := (Value.bool false)) rfl (by kernel_rfl) (by kernel_rfl) (by kernel_rfl) (fun _ _ _ h => h) (fun _ => r_pick rfl rfl (fun h => by cases h) (fun _ => rfl)) hp ?_
        refine g_pu (i := 33) (v := (Value.bool false)) rfl (by kernel_rfl) (by kernel_rfl) (by kernel_rfl) (fun _ _ _ h => h) (fun _ => r_assign rfl rfl) hp ?_
        refine RG_done (by kernel_rfl) ?_
        exact HC_ret (show endQ prog f11 R .ret _ _ from ⟨_, res1 rfl (rv_tmp rfl), h⟩)
    · skip
      refine HC_region ?_
      refine s_rd (v := (Value.bool v_25)) (r_move rfl rfl) ?_
      refine s_rd (v := (Value.bool v_25)) (r_move rfl rfl) ?_
      by_cases hc : v_25 = true
      · replace h := h.1 hc
        refine HL_known (t := 25) (v := .bool true) (congrArg Value.bool hc) ?_
        refine HL_known (t := 10) (v := .bool true) (congrArg Value.bool hc) ?_
        refine HL_known (t := 26) (v := .bool true) (congrArg Value.bool hc) ?_
        refine HL_known (t := 27) (v := .bool true) (congrArg Value.bool hc) ?_
        obtain ⟨v_28, hs28, hc28, h⟩ := h
        refine s_rd (v := (Value.agg v_28)) (w_loadN h7 underlying28 rfl sz28 hs28 hc28) ?_
        obtain ⟨v_29, hs29, hc29, h⟩ := h
        refine s_rd (v := (Value.agg v_29)) (w_loadN h6 underlying28 rfl sz28 hs29 hc29) ?_
        refine s_ef (k_call (vs := [(Value.agg v_28), (Value.agg v_29)]) cb44 (evC rfl (evC rfl evN)) (h.mono ?_))
        clear h; rintro v F ⟨v_30, rfl, h⟩
        refine s_rd (v := (Value.bool v_30)) (r_pick rfl rfl (fun _ => rfl) (fun h => by cases h)) ?_
        refine s_rd (v := (Value.bool v_30)) (r_assign rfl rfl) ?_
        refine HL_nil ?_
        show b11J2 v_12 a6a_ b7a_ b8 v_20_1 v_25 R _ _
        exact ⟨_, h5, h6, h7, rfl, rfl, (by exact (congrArg Value.bool (by assumption)).symm), rfl, h⟩
      · replace hc := eq_false_of_ne_true hc; replace h := h.2 hc
        refine HL_known (t := 25) (v := .bool false) (congrArg Value.bool hc) ?_
        refine HL_known (t := 10) (v := .bool false) (congrArg Value.bool hc) ?_
        refine HL_known (t := 26) (v := .bool false) (congrArg Value.bool hc) ?_
        refine HL_known (t := 27) (v := .bool false) (congrArg Value.bool hc) ?_
        refine s_skip ?_
        refine s_skip ?_
        refine s_skip ?_
        refine s_rd (v := (Value.bool false)) (r_pick rfl rfl (fun h => by cases h) (fun _ => rfl)) ?_
        refine s_rd (v := (Value.bool false)) (r_assign rfl rfl) ?_
        refine HL_nil ?_
        show b11J2 v_12 a6a_ b7a_ b8 v_20_1 v_25 R _ _
        exact ⟨_, h5, h6, h7, rfl, rfl, (by exact (congrArg Value.bool (by assumption)).symm), rfl, h⟩
  · skip
    refine HC_draw0 (by kernel_rfl) (fun hp => ?_)
    obtain ⟨v_13, hs13, hc13, h⟩ := h
    refine g_rd (i := 0) (v := (Value.agg v_13)) rfl (by kernel_rfl) (by kernel_rfl) (by kernel_rfl) (fun _ _ _ h => h) (w_loadN rfl underlying24 rfl sz24 hs13 hc13) hp (fun S0 q0 => ?_)
    replace hp := holdC (i := 0) (q0 _ (w_loadN rfl underlying24 rfl sz24 hs13 hc13)) hp
    obtain ⟨v_15, hs15, hc15, h⟩ := h
    refine g_rd (i := 2) (v := (Value.agg v_15)) rfl (by kernel_rfl) (by kernel_rfl) (by kernel_rfl) (fun _ _ _ h => h) (w_loadN rfl underlying24 rfl sz24 hs15 hc15) hp (fun S2 q2 => ?_)
    replace hp := holdC (i := 2) (q2 _ (w_loadN rfl underlying24 rfl sz24 hs15 hc15)) hp
    refine RG_eff (rs := [1, 4, 5]) (by kernel_rfl) rfl ?_
    obtain ⟨ha0, ha1, ha2⟩ := h
    simp only [List.mem_cons, List.not_mem_nil, or_false, forall_eq_or_imp, forall_eq]
    refine ⟨?_, ?_, ?_⟩
    · have h := ha0; clear ha0 ha1 ha2
      refine g_op (Sp' := [(2, S2)]) rfl rfl (k_call (vs := [(Value.agg v_13)]) cb16 (evC rfl evN) (h.mono ?_))
      clear h; rintro v F ⟨v_14, rfl, h⟩
      obtain ⟨hk_10, h⟩ := h
      refine holdI (holdC (i := 2) (q2 _ (w_loadN rfl underlying24 rfl sz24 hs15 hk_10)) hold0) (fun hp => ?_)
      refine RG_eff (rs := [3, 4, 5]) (by kernel_rfl) rfl ?_
      obtain ⟨ha0, ha1, ha2⟩ := h
      simp only [List.mem_cons, List.not_mem_nil, or_false, forall_eq_or_imp, forall_eq]
      refine ⟨?_, ?_, ?_⟩
      · have h := ha0; clear ha0 ha1 ha2
        refine g_op (Sp' := []) rfl rfl (k_call (vs := [(Value.agg v_15)]) cb16 (evC rfl evN) (h.mono ?_))
        clear h; rintro v F ⟨v_16, rfl, h⟩
        refine holdI hold0 (fun hp => ?_)
        refine RG_eff (rs := [4, 5]) (by kernel_rfl) rfl ?_
        obtain ⟨ha0, ha1⟩ := h
        simp only [List.mem_cons, List.not_mem_nil, or_false, forall_eq_or_imp, forall_eq]
        refine ⟨?_, ?_⟩
        · have h := ha0; clear ha0 ha1
          refine g_op (Sp' := []) rfl rfl (k_alloc zr28 ?_)
          intro b6 hf_b6
          replace h := atE (h b6 hf_b6)
          refine holdI hold0 (fun hp => ?_)
          refine RG_eff1 (i := 5) (by kernel_rfl) (g_op (Sp' := []) rfl rfl (k_alloc zr28 ?_))
          intro b7 hf_b7
          replace h := atE (h b7 hf_b7)
          refine holdI hold0 (fun hp => ?_)
          refine RG_eff1 (i := 6) (by kernel_rfl) (g_op0 (Sp' := []) rfl rfl (k_storeN (vs := v_14) rfl rfl sz28 (by decide) ?_))
          obtain ⟨hz1, hz2, c, e, hz3, hz4, hz5, h⟩ := h
          refine ⟨hz1, hz2, c, e, hz3, hz4, hz5, ?_⟩
          replace h := atE h
          refine holdI hold0 (fun hp => ?_)
          refine RG_eff1 (i := 7) (by kernel_rfl) (g_op0 (Sp' := []) rfl rfl (k_storeN (vs := v_16) rfl rfl sz28 (by decide) ?_))
          obtain ⟨hz1, hz2, c, e, hz3, hz4, hz5, h⟩ := h
          refine ⟨hz1, hz2, c, e, hz3, hz4, hz5, ?_⟩
          replace h := atE h
          refine holdI hold0 (fun hp => ?_)
          refine RG_done (by kernel_rfl) ?_
          show b11J1 v_12 R _ _
          exact ⟨_, _, rfl, rfl, rfl, h⟩
        · have h := ha1; clear ha0 ha1
          refine g_op (Sp' := []) rfl rfl (k_alloc zr28 ?_)
          intro b7_1 hf_b7_1
          replace h := atE (h b7_1 hf_b7_1)
          refine holdI hold0 (fun hp => ?_)
          refine RG_eff1 (i := 4) (by kernel_rfl) (g_op (Sp' := []) rfl rfl (k_alloc zr28 ?_))
          intro b6_1 hf_b6_1
          replace h := atE (h b6_1 hf_b6_1)
          refine holdI hold0 (fun hp => ?_)
          refine RG_eff1 (i := 6) (by kernel_rfl) (g_op0 (Sp' := []) rfl rfl (k_storeN (vs := v_14) rfl rfl sz28 (by decide) ?_))
          obtain ⟨hz1, hz2, c, e, hz3, hz4, hz5, h⟩ := h
          refine ⟨hz1, hz2, c, e, hz3, hz4, hz5, ?_⟩
          replace h := atE h
          refine holdI hold0 (fun hp => ?_)
          refine RG_eff1 (i := 7) (by kernel_rfl) (g_op0 (Sp' := []) rfl rfl (k_storeN (vs := v_16) rfl rfl sz28 (by decide) ?_))
          obtain ⟨hz1, hz2, c, e, hz3, hz4, hz5, h⟩ := h
          refine ⟨hz1, hz2, c, e, hz3, hz4, hz5, ?_⟩
          replace h := atE h
          refine holdI hold0 (fun hp => ?_)
          refine RG_done (by kernel_rfl) ?_
          show b11J1 v_12 R _ _
          exact ⟨_, _, rfl, rfl, rfl, h⟩
      · have h := ha1; clear ha0 ha1 ha2
        refine g_op (Sp' := [(2, S2)]) rfl rfl (k_alloc zr28 ?_)
        intro b6_2 hf_b6_2
        replace h := atE (h b6_2 hf_b6_2)
        refine holdI (holdC (i := 2) (q2 _ (w_loadN rfl underlying24 rfl sz24 hs15 (row_set_fresh hf_b6_2 hk_10))) hold0) (fun hp => ?_)
        refine RG_eff (rs := [3, 5]) (by kernel_rfl) rfl ?_
        obtain ⟨ha0, ha1⟩ := h
        simp only [List.mem_cons, List.not_mem_nil, or_false, forall_eq_or_imp, forall_eq]
        refine ⟨?_, ?_⟩
        · have h := ha0; clear ha0 ha1
          refine g_op (Sp' := []) rfl rfl (k_call (vs := [(Value.agg v_15)]) cb16 (evC rfl evN) (h.mono ?_))
          clear h; rintro v F ⟨v_16_1, rfl, h⟩
          refine holdI hold0 (fun hp => ?_)
          refine RG_eff1 (i := 5) (by kernel_rfl) (g_op (Sp' := []) rfl rfl (k_alloc zr28 ?_))
          intro b7_2 hf_b7_2
          replace h := atE (h b7_2 hf_b7_2)
          refine holdI hold0 (fun hp => ?_)
          refine RG_eff1 (i := 6) (by kernel_rfl) (g_op0 (Sp' := []) rfl rfl (k_storeN (vs := v_14) rfl rfl sz28 (by decide) ?_))
          obtain ⟨hz1, hz2, c, e, hz3, hz4, hz5, h⟩ := h
          refine ⟨hz1, hz2, c, e, hz3, hz4, hz5, ?_⟩
          replace h := atE h
          refine holdI hold0 (fun hp => ?_)
          refine RG_eff1 (i := 7) (by kernel_rfl) (g_op0 (Sp' := []) rfl rfl (k_storeN (vs := v_16_1) rfl rfl sz28 (by decide) ?_))
          obtain ⟨hz1, hz2, c, e, hz3, hz4, hz5, h⟩ := h
          refine ⟨hz1, hz2, c, e, hz3, hz4, hz5, ?_⟩
          replace h := atE h
          refine holdI hold0 (fun hp => ?_)
          refine RG_done (by kernel_rfl) ?_
          show b11J1 v_12 R _ _
          exact ⟨_, _, rfl, rfl, rfl, h⟩
        · have h := ha1; clear ha0 ha1
          refine g_op (Sp' := [(2, S2)]) rfl rfl (k_alloc zr28 ?_)
          intro b7_3 hf_b7_3
          replace h := atE (h b7_3 hf_b7_3)
          refine holdI (holdC (i := 2) (q2 _ (w_loadN rfl underlying24 rfl sz24 hs15 (row_set_fresh hf_b7_3 (row_set_fresh hf_b6_2 hk_10)))) hold0) (fun hp => ?_)
          refine RG_eff1 (i := 3) (by kernel_rfl) (g_op (Sp' := []) rfl rfl (k_call (vs := [(Value.agg v_15)]) cb16 (evC rfl evN) (h.mono ?_)))
          clear h; rintro v F ⟨v_16_2, rfl, h⟩
          refine holdI hold0 (fun hp => ?_)
          refine RG_eff1 (i := 6) (by kernel_rfl) (g_op0 (Sp' := []) rfl rfl (k_storeN (vs := v_14) rfl rfl sz28 (by decide) ?_))
          obtain ⟨hz1, hz2, c, e, hz3, hz4, hz5, h⟩ := h
          refine ⟨hz1, hz2, c, e, hz3, hz4, hz5, ?_⟩
          replace h := atE h
          refine holdI hold0 (fun hp => ?_)
          refine RG_eff1 (i := 7) (by kernel_rfl) (g_op0 (Sp' := []) rfl rfl (k_storeN (vs := v_16_2) rfl rfl sz28 (by decide) ?_))
          obtain ⟨hz1, hz2, c, e, hz3, hz4, hz5, h⟩ := h
          refine ⟨hz1, hz2, c, e, hz3, hz4, hz5, ?_⟩
          replace h := atE h
          refine holdI hold0 (fun hp => ?_)
          refine RG_done (by kernel_rfl) ?_
          show b11J1 v_12 R _ _
          exact ⟨_, _, rfl, rfl, rfl, h⟩
      · have h := ha2; clear ha0 ha1 ha2
        refine g_op (Sp' := [(2, S2)]) rfl rfl (k_alloc zr28 ?_)
        intro b7_4 hf_b7_4
        replace h := atE (h b7_4 hf_b7_4)
        refine holdI (holdC (i := 2) (q2 _ (w_loadN rfl underlying24 rfl sz24 hs15 (row_set_fresh hf_b7_4 hk_10))) hold0) (fun hp => ?_)
        refine RG_eff (rs := [3, 4]) (by kernel_rfl) rfl ?_
        obtain ⟨ha0, ha1⟩ := h
        simp only [List.mem_cons, List.not_mem_nil, or_false, forall_eq_or_imp, forall_eq]
        refine ⟨?_, ?_⟩
        · have h := ha0; clear ha0 ha1
          refine g_op (Sp' := []) rfl rfl (k_call (vs := [(Value.agg v_15)]) cb16 (evC rfl evN) (h.mono ?_))
          clear h; rintro v F ⟨v_16_3, rfl, h⟩
          refine holdI hold0 (fun hp => ?_)
          refine RG_eff1 (i := 4) (by kernel_rfl) (g_op (Sp' := []) rfl rfl (k_alloc zr28 ?_))
          intro b6_3 hf_b6_3
          replace h := atE (h b6_3 hf_b6_3)
          refine holdI hold0 (fun hp => ?_)
          refine RG_eff1 (i := 6) (by kernel_rfl) (g_op0 (Sp' := []) rfl rfl (k_storeN (vs := v_14) rfl rfl sz28 (by decide) ?_))
          obtain ⟨hz1, hz2, c, e, hz3, hz4, hz5, h⟩ := h
          refine ⟨hz1, hz2, c, e, hz3, hz4, hz5, ?_⟩
          replace h := atE h
          refine holdI hold0 (fun hp => ?_)
          refine RG_eff1 (i := 7) (by kernel_rfl) (g_op0 (Sp' := []) rfl rfl (k_storeN (vs := v_16_3) rfl rfl sz28 (by decide) ?_))
          obtain ⟨hz1, hz2, c, e, hz3, hz4, hz5, h⟩ := h
          refine ⟨hz1, hz2, c, e, hz3, hz4, hz5, ?_⟩
          replace h := atE h
          refine holdI hold0 (fun hp => ?_)
          refine RG_done (by kernel_rfl) ?_
          show b11J1 v_12 R _ _
          exact ⟨_, _, rfl, rfl, rfl, h⟩
        · have h := ha1; clear ha0 ha1
          refine g_op (Sp' := [(2, S2)]) rfl rfl (k_alloc zr28 ?_)
          intro b6_4 hf_b6_4
          replace h := atE (h b6_4 hf_b6_4)
          refine holdI (holdC (i := 2) (q2 _ (w_loadN rfl underlying24 rfl sz24 hs15 (row_set_fresh hf_b6_4 (row_set_fresh hf_b7_4 hk_10)))) hold0) (fun hp => ?_)
          refine RG_eff1 (i := 3) (by kernel_rfl) (g_op (Sp' := []) rfl rfl (k_call (vs := [(Value.agg v_15)]) cb16 (evC rfl evN) (h.mono ?_)))
          clear h; rintro v F ⟨v_16_4, rfl, h⟩
          refine holdI hold0 (fun hp => ?_)
          refine RG_eff1 (i := 6) (by kernel_rfl) (g_op0 (Sp' := []) rfl rfl (k_storeN (vs := v_14) rfl rfl sz28 (by decide) ?_))
          obtain ⟨hz1, hz2, c, e, hz3, hz4, hz5, h⟩ := h
          refine ⟨hz1, hz2, c, e, hz3, hz4, hz5, ?_⟩
          replace h := atE h
          refine holdI hold0 (fun hp => ?_)
          refine RG_eff1 (i := 7) (by kernel_rfl) (g_op0 (Sp' := []) rfl rfl (k_storeN (vs := v_16_4) rfl rfl sz28 (by decide) ?_))
          obtain ⟨hz1, hz2, c, e, hz3, hz4, hz5, h⟩ := h
          refine ⟨hz1, hz2, c, e, hz3, hz4, hz5, ?_⟩
          replace h := atE h
          refine holdI hold0 (fun hp => ?_)
          refine RG_done (by kernel_rfl) ?_
          show b11J1 v_12 R _ _
          exact ⟨_, _, rfl, rfl, rfl, h⟩
    · have h := ha1; clear ha0 ha1 ha2
      refine g_op (Sp' := [(2, S2), (0, S0)]) rfl rfl (k_alloc zr28 ?_)
      intro b6_5 hf_b6_5
      replace h := atE (h b6_5 hf_b6_5)
      refine holdI (holdC (i := 2) (q2 _ (w_loadN rfl underlying24 rfl sz24 hs15 (row_set_fresh hf_b6_5 hc15))) (holdC (i := 0) (q0 _ (w_loadN rfl underlying24 rfl sz24 hs13 (row_set_fresh hf_b6_5 hc13))) hold0)) (fun hp => ?_)
      refine RG_eff (rs := [1, 5]) (by kernel_rfl) rfl ?_
      obtain ⟨ha0, ha1⟩ := h
      simp only [List.mem_cons, List.not_mem_nil, or_false, forall_eq_or_imp, forall_eq]
      refine ⟨?_, ?_⟩
      · have h := ha0; clear ha0 ha1
        refine g_op (Sp' := [(2, S2)]) rfl rfl (k_call (vs := [(Value.agg v_13)]) cb16 (evC rfl evN) (h.mono ?_))
        clear h; rintro v F ⟨v_14_1, rfl, h⟩
        obtain ⟨hk_11, h⟩ := h
        refine holdI (holdC (i := 2) (q2 _ (w_loadN rfl underlying24 rfl sz24 hs15 hk_11)) hold0) (fun hp => ?_)
        refine RG_eff (rs := [3, 5]) (by kernel_rfl) rfl ?_
        obtain ⟨ha0, ha1⟩ := h
        simp only [List.mem_cons, List.not_mem_nil, or_false, forall_eq_or_imp, forall_eq]
        refine ⟨?_, ?_⟩
        · have h := ha0; clear ha0 ha1
          refine g_op (Sp' := []) rfl rfl (k_call (vs := [(Value.agg v_15)]) cb16 (evC rfl evN) (h.mono ?_))
          clear h; rintro v F ⟨v_16_5, rfl, h⟩
          refine holdI hold0 (fun hp => ?_)
          refine RG_eff1 (i := 5) (by kernel_rfl) (g_op (Sp' := []) rfl rfl (k_alloc zr28 ?_))
          intro b7_5 hf_b7_5
          replace h := atE (h b7_5 hf_b7_5)
          refine holdI hold0 (fun hp => ?_)
          refine RG_eff1 (i := 6) (by kernel_rfl) (g_op0 (Sp' := []) rfl rfl (k_storeN (vs := v_14_1) rfl rfl sz28 (by decide) ?_))
          obtain ⟨hz1, hz2, c, e, hz3, hz4, hz5, h⟩ := h
          refine ⟨hz1, hz2, c, e, hz3, hz4, hz5, ?_⟩
          replace h := atE h
          refine holdI hold0 (fun hp => ?_)
          refine RG_eff1 (i := 7) (by kernel_rfl) (g_op0 (Sp' := []) rfl rfl (k_storeN (vs := v_16_5) rfl rfl sz28 (by decide) ?_))
          obtain ⟨hz1, hz2, c, e, hz3, hz4, hz5, h⟩ := h
          refine ⟨hz1, hz2, c, e, hz3, hz4, hz5, ?_⟩
          replace h := atE h
          refine holdI hold0 (fun hp => ?_)
          refine RG_done (by kernel_rfl) ?_
          show b11J1 v_12 R _ _
          exact ⟨_, _, rfl, rfl, rfl, h⟩
        · have h := ha1; clear ha0 ha1
          refine g_op (Sp' := [(2, S2)]) rfl rfl (k_alloc zr28 ?_)
          intro b7_6 hf_b7_6
          replace h := atE (h b7_6 hf_b7_6)
          refine holdI (holdC (i := 2) (q2 _ (w_loadN rfl underlying24 rfl sz24 hs15 (row_set_fresh hf_b7_6 hk_11))) hold0) (fun hp => ?_)
          refine RG_eff1 (i := 3) (by kernel_rfl) (g_op (Sp' := []) rfl rfl (k_call (vs := [(Value.agg v_15)]) cb16 (evC rfl evN) (h.mono ?_)))
          clear h; rintro v F ⟨v_16_6, rfl, h⟩
          refine holdI hold0 (fun hp => ?_)
          refine RG_eff1 (i := 6) (by kernel_rfl) (g_op0 (Sp' := []) rfl rfl (k_storeN (vs := v_14_1) rfl rfl sz28 (by decide) ?_))
          obtain ⟨hz1, hz2, c, e, hz3, hz4, hz5, h⟩ := h
          refine ⟨hz1, hz2, c, e, hz3, hz4, hz5, ?_⟩
          replace h := atE h
          refine holdI hold0 (fun hp => ?_)
          refine RG_eff1 (i := 7) (by kernel_rfl) (g_op0 (Sp' := []) rfl rfl (k_storeN (vs := v_16_6) rfl rfl sz28 (by decide) ?_))
          obtain ⟨hz1, hz2, c, e, hz3, hz4, hz5, h⟩ := h
          refine ⟨hz1, hz2, c, e, hz3, hz4, hz5, ?_⟩
          replace h := atE h
          refine holdI hold0 (fun hp => ?_)
          refine RG_done (by kernel_rfl) ?_
          show b11J1 v_12 R _ _
          exact ⟨_, _, rfl, rfl, rfl, h⟩
      · have h := ha1; clear ha0 ha1
        refine g_op (Sp' := [(2, S2), (0, S0)]) rfl rfl (k_alloc zr28 ?_)
        intro b7_7 hf_b7_7
        replace h := atE (h b7_7 hf_b7_7)
        refine holdI (holdC (i := 2) (q2 _ (w_loadN rfl underlying24 rfl sz24 hs15 (row_set_fresh hf_b7_7 (row_set_fresh hf_b6_5 hc15)))) (holdC (i := 0) (q0 _ (w_loadN rfl underlying24 rfl sz24 hs13 (row_set_fresh hf_b7_7 (row_set_fresh hf_b6_5 hc13)))) hold0)) (fun hp => ?_)
        refine RG_eff1 (i := 1) (by kernel_rfl) (g_op (Sp' := [(2, S2)]) rfl rfl (k_call (vs := [(Value.agg v_13)]) cb16 (evC rfl evN) (h.mono ?_)))
        clear h; rintro v F ⟨v_14_2, rfl, h⟩
        obtain ⟨hk_12, h⟩ := h
        refine holdI (holdC (i := 2) (q2 _ (w_loadN rfl underlying24 rfl sz24 hs15 hk_12)) hold0) (fun hp => ?_)
        refine RG_eff1 (i := 3) (by kernel_rfl) (g_op (Sp' := []) rfl rfl (k_call (vs := [(Value.agg v_15)]) cb16 (evC rfl evN) (h.mono ?_)))
        clear h; rintro v F ⟨v_16_7, rfl, h⟩
        refine holdI hold0 (fun hp => ?_)
        refine RG_eff1 (i := 6) (by kernel_rfl) (g_op0 (Sp' := []) rfl rfl (k_storeN (vs := v_14_2) rfl rfl sz28 (by decide) ?_))
        obtain ⟨hz1, hz2, c, e, hz3, hz4, hz5, h⟩ := h
        refine ⟨hz1, hz2, c, e, hz3, hz4, hz5, ?_⟩
        replace h := atE h
        refine holdI hold0 (fun hp => ?_)
        refine RG_eff1 (i := 7) (by kernel_rfl) (g_op0 (Sp' := []) rfl rfl (k_storeN (vs := v_16_7) rfl rfl sz28 (by decide) ?_))
        obtain ⟨hz1, hz2, c, e, hz3, hz4, hz5, h⟩ := h
        refine ⟨hz1, hz2, c, e, hz3, hz4, hz5, ?_⟩
        replace h := atE h
        refine holdI hold0 (fun hp => ?_)
        refine RG_done (by kernel_rfl) ?_
        show b11J1 v_12 R _ _
        exact ⟨_, _, rfl, rfl, rfl, h⟩
    · have h := ha2; clear ha0 ha1 ha2
      refine g_op (Sp' := [(2, S2), (0, S0)]) rfl rfl (k_alloc zr28 ?_)
      intro b7_8 hf_b7_8
      replace h := atE (h b7_8 hf_b7_8)
      refine holdI (holdC (i := 2) (q2 _ (w_loadN rfl underlying24 rfl sz24 hs15 (row_set_fresh hf_b7_8 hc15))) (holdC (i := 0) (q0 _ (w_loadN rfl underlying24 rfl sz24 hs13 (row_set_fresh hf_b7_8 hc13))) hold0)) (fun hp => ?_)
      refine RG_eff (rs := [1, 4]) (by kernel_rfl) rfl ?_
      obtain ⟨ha0, ha1⟩ := h
      simp only [List.mem_cons, List.not_mem_nil, or_false, forall_eq_or_imp, forall_eq]
      refine ⟨?_, ?_⟩
      · have h := ha0; clear ha0 ha1
        refine g_op (Sp' := [(2, S2)]) rfl rfl (k_call (vs := [(Value.agg v_13)]) cb16 (evC rfl evN) (h.mono ?_))
        clear h; rintro v F ⟨v_14_3, rfl, h⟩
        obtain ⟨hk_13, h⟩ := h
        refine holdI (holdC (i := 2) (q2 _ (w_loadN rfl underlying24 rfl sz24 hs15 hk_13)) hold0) (fun hp => ?_)
        refine RG_eff (rs := [3, 4]) (by kernel_rfl) rfl ?_
        obtain ⟨ha0, ha1⟩ := h
        simp only [List.mem_cons, List.not_mem_nil, or_false, forall_eq_or_imp, forall_eq]
        refine ⟨?_, ?_⟩
        · have h := ha0; clear ha0 ha1
          refine g_op (Sp' := []) rfl rfl (k_call (vs := [(Value.agg v_15)]) cb16 (evC rfl evN) (h.mono ?_))
          clear h; rintro v F ⟨v_16_8, rfl, h⟩
          refine holdI hold0 (fun hp => ?_)
          refine RG_eff1 (i := 4) (by kernel_rfl) (g_op (Sp' := []) rfl rfl (k_alloc zr28 ?_))
          intro b6_6 hf_b6_6
          replace h := atE (h b6_6 hf_b6_6)
          refine holdI hold0 (fun hp => ?_)
          refine RG_eff1 (i := 6) (by kernel_rfl) (g_op0 (Sp' := []) rfl rfl (k_storeN (vs := v_14_3) rfl rfl sz28 (by decide) ?_))
          obtain ⟨hz1, hz2, c, e, hz3, hz4, hz5, h⟩ := h
          refine ⟨hz1, hz2, c, e, hz3, hz4, hz5, ?_⟩
          replace h := atE h
          refine holdI hold0 (fun hp => ?_)
          refine RG_eff1 (i := 7) (by kernel_rfl) (g_op0 (Sp' := []) rfl rfl (k_storeN (vs := v_16_8) rfl rfl sz28 (by decide) ?_))
          obtain ⟨hz1, hz2, c, e, hz3, hz4, hz5, h⟩ := h
          refine ⟨hz1, hz2, c, e, hz3, hz4, hz5, ?_⟩
          replace h := atE h
          refine holdI hold0 (fun hp => ?_)
          refine RG_done (by kernel_rfl) ?_
          show b11J1 v_12 R _ _
          exact ⟨_, _, rfl, rfl, rfl, h⟩
        · have h := ha1; clear ha0 ha1
          refine g_op (Sp' := [(2, S2)]) rfl rfl (k_alloc zr28 ?_)
          intro b6_7 hf_b6_7
          replace h := atE (h b6_7 hf_b6_7)
          refine holdI (holdC (i := 2) (q2 _ (w_loadN rfl underlying24 rfl sz24 hs15 (row_set_fresh hf_b6_7 hk_13))) hold0) (fun hp => ?_)
          refine RG_eff1 (i := 3) (by kernel_rfl) (g_op (Sp' := []) rfl rfl (k_call (vs := [(Value.agg v_15)]) cb16 (evC rfl evN) (h.mono ?_)))
          clear h; rintro v F ⟨v_16_9, rfl, h⟩
          refine holdI hold0 (fun hp => ?_)
          refine RG_eff1 (i := 6) (by kernel_rfl) (g_op0 (Sp' := []) rfl rfl (k_storeN (vs := v_14_3) rfl rfl sz28 (by decide) ?_))
          obtain ⟨hz1, hz2, c, e, hz3, hz4, hz5, h⟩ := h
          refine ⟨hz1, hz2, c, e, hz3, hz4, hz5, ?_⟩
          replace h := atE h
          refine holdI hold0 (fun hp => ?_)
          refine RG_eff1 (i := 7) (by kernel_rfl) (g_op0 (Sp' := []) rfl rfl (k_storeN (vs := v_16_9) rfl rfl sz28 (by decide) ?_))
          obtain ⟨hz1, hz2, c, e, hz3, hz4, hz5, h⟩ := h
          refine ⟨hz1, hz2, c, e, hz3, hz4, hz5, ?_⟩
          replace h := atE h
          refine holdI hold0 (fun hp => ?_)
          refine RG_done (by kernel_rfl) ?_
          show b11J1 v_12 R _ _
          exact ⟨_, _, rfl, rfl, rfl, h⟩
      · have h := ha1; clear ha0 ha1
        refine g_op (Sp' := [(2, S2), (0, S0)]) rfl rfl (k_alloc zr28 ?_)
        intro b6_8 hf_b6_8
        replace h := atE (h b6_8 hf_b6_8)
        refine holdI (holdC (i := 2) (q2 _ (w_loadN rfl underlying24 rfl sz24 hs15 (row_set_fresh hf_b6_8 (row_set_fresh hf_b7_8 hc15)))) (holdC (i := 0) (q0 _ (w_loadN rfl underlying24 rfl sz24 hs13 (row_set_fresh hf_b6_8 (row_set_fresh hf_b7_8 hc13)))) hold0)) (fun hp => ?_)
        refine RG_eff1 (i := 1) (by kernel_rfl) (g_op (Sp' := [(2, S2)]) rfl rfl (k_call (vs := [(Value.agg v_13)]) cb16 (evC rfl evN) (h.mono ?_)))
        clear h; rintro v F ⟨v_14_4, rfl, h⟩
        obtain ⟨hk_14, h⟩ := h
        refine holdI (holdC (i := 2) (q2 _ (w_loadN rfl underlying24 rfl sz24 hs15 hk_14)) hold0) (fun hp => ?_)
        refine RG_eff1 (i := 3) (by kernel_rfl) (g_op (Sp' := []) rfl rfl (k_call (vs := [(Value.agg v_15)]) cb16 (evC rfl evN) (h.mono ?_)))
        clear h; rintro v F ⟨v_16_10, rfl, h⟩
        refine holdI hold0 (fun hp => ?_)
        refine RG_eff1 (i := 6) (by kernel_rfl) (g_op0 (Sp' := []) rfl rfl (k_storeN (vs := v_14_4) rfl rfl sz28 (by decide) ?_))
        obtain ⟨hz1, hz2, c, e, hz3, hz4, hz5, h⟩ := h
        refine ⟨hz1, hz2, c, e, hz3, hz4, hz5, ?_⟩
        replace h := atE h
        refine holdI hold0 (fun hp => ?_)
        refine RG_eff1 (i := 7) (by kernel_rfl) (g_op0 (Sp' := []) rfl rfl (k_storeN (vs := v_16_10) rfl rfl sz28 (by decide) ?_))
        obtain ⟨hz1, hz2, c, e, hz3, hz4, hz5, h⟩ := h
        refine ⟨hz1, hz2, c, e, hz3, hz4, hz5, ?_⟩
        replace h := atE h
        refine holdI hold0 (fun hp => ?_)
        refine RG_done (by kernel_rfl) ?_
        show b11J1 v_12 R _ _
        exact ⟨_, _, rfl, rfl, rfl, h⟩

end Go.Proofs.Ytafojmoeaneedaa
