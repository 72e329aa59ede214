/-
  What functions of the program do, in a clean form, each with the proof that its code does so. Printed by a program.
-/
import Derived.Test.YtafojmoeaneedaaGf
import Derived.Test.YtafojmoeaneedaaPho
namespace Go.Proofs.Ytafojmoeaneedaa
open Go Go.Proofs.Try
set_option maxRecDepth 10000
set_option maxHeartbeats 4000000
/- 15 koine.koinelaw02.sanity -/
def b15j4 (b7 : Nat) (b9 : Nat) (codes_33 : Bool) (sets_34 : Bool) (rest_35 : Bool) (bad_36 : Bool) (R : Value → PH → Prop) (F : PH) : Prop :=
 ((codes_33 = true →
  ((sets_34 = true →
   ((rest_35 = true →
    ((bad_36 = true →
     ∃ v_251 : Array Value, v_251.size = 2 ∧ F.row (Addr.mk b9 0 none) v_251 ∧
     Spec prog 21 #[(.agg v_251), (.int .u64 (2 : Int))] F fun v F => ∃ v_252 : Bool, v = (.bool v_252) ∧
     ((v_252 = true →
      ∃ v_255 : Array Value, v_255.size = 2 ∧ F.row (Addr.mk b7 0 none) v_255 ∧
      Spec prog 21 #[(.agg v_255), (.int .u64 (2 : Int))] F fun v F => ∃ v_256 : Bool, v = (.bool v_256) ∧
      R (.bool (!v_256)) F) ∧
     (v_252 = false →
      R (.bool false) F))) ∧
    (bad_36 = false →
     R (.bool false) F))) ∧
   (rest_35 = false →
    R (.bool false) F))) ∧
  (sets_34 = false →
   R (.bool false) F))) ∧
 (codes_33 = false →
  R (.bool false) F))
abbrev b15J4 (b7 : Nat) (b9 : Nat) (codes_33 : Bool) (sets_34 : Bool) (rest_35 : Bool) (R : Value → PH → Prop) (E : En) (F : PH) : Prop := ∃ bad_36 : Bool, E 7 = (.pointer (some (Addr.mk b7 0 none))) ∧ E 9 = (.pointer (some (Addr.mk b9 0 none))) ∧ E 33 = (.bool codes_33) ∧ E 34 = (.bool sets_34) ∧ E 35 = (.bool rest_35) ∧ E 36 = (.bool bad_36) ∧ b15j4 b7 b9 codes_33 sets_34 rest_35 bad_36 R F
def b15j3 (b7 : Nat) (b9 : Nat) (codes_33 : Bool) (sets_34 : Bool) (rest_35 : Bool) (R : Value → PH → Prop) (F : PH) : Prop :=
 (#[.int .i64 0, .int .i64 0, .int .i64 0] : Array Value).size = 3 ∧ ∀ b229, F b229 = none → atF (F.set b229 (.cells (#[.int .i64 0, .int .i64 0, .int .i64 0] : Array Value) 72)) fun F =>
 Spec prog 23 #[(.agg (#[(Sl.v (Sl.mk (some (Addr.mk b229 0 none)) 1 1)), (.int .i64 (2 : Int))] : Array Value))] F fun v F => ∃ v_231 : Int, v = (.int .i64 v_231) ∧
 ((v_231 = (20 : Int) →
  (#[.int .i64 0, .int .i64 0, (.int .i64 (1 : Int))] : Array Value).size = 3 ∧ ∀ b235, F b235 = none → atF (F.set b235 (.cells (#[.int .i64 0, .int .i64 0, (.int .i64 (1 : Int))] : Array Value) 72)) fun F =>
  Spec prog 23 #[(.agg (#[(Sl.v (Sl.mk (some (Addr.mk b235 0 none)) 1 1)), (.int .i64 (1 : Int))] : Array Value))] F fun v F => ∃ v_237 : Int, v = (.int .i64 v_237) ∧
  b15j4 b7 b9 codes_33 sets_34 rest_35 (decide (v_237 = (20 : Int))) R F) ∧
 (¬ (v_231 = (20 : Int)) →
  b15j4 b7 b9 codes_33 sets_34 rest_35 false R F))
abbrev b15J3 (b7 : Nat) (b9 : Nat) (codes_33 : Bool) (sets_34 : Bool) (R : Value → PH → Prop) (E : En) (F : PH) : Prop := ∃ rest_35 : Bool, E 7 = (.pointer (some (Addr.mk b7 0 none))) ∧ E 9 = (.pointer (some (Addr.mk b9 0 none))) ∧ E 33 = (.bool codes_33) ∧ E 34 = (.bool sets_34) ∧ E 35 = (.bool rest_35) ∧ b15j3 b7 b9 codes_33 sets_34 rest_35 R F
def b15j2 (b1 : Nat) (b3 : Nat) (b7 : Nat) (b9 : Nat) (b15 : Nat) (b17 : Nat) (b19 : Nat) (v_89 : Sl) (v_94 : Sl) (v_104 : Int) (v_109 : Int) (v_114 : Int) (v_114_1 : Bool) (codes_33 : Bool) (sets_34 : Bool) (R : Value → PH → Prop) (F : PH) : Prop :=
 ∃ v_179 : Array Value, v_179.size = 2 ∧ F.row (Addr.mk b15 0 none) v_179 ∧
 Spec prog 58 #[(.agg v_179), (.int .i64 (1 : Int)), (Sl.v Sl.nil)] F fun v F => ∃ v_180 : Bool, v = (.bool v_180) ∧
 ((v_180 = true →
  ∃ v_182 : Array Value, v_182.size = 2 ∧ F.row (Addr.mk b17 0 none) v_182 ∧
  ∃ v_183 : Array Value, v_183.size = 2 ∧ F.row (Addr.mk b3 0 none) v_183 ∧
  Spec prog 39 #[(.agg v_182), (.agg v_183)] F fun v F => ∃ v_184 : Bool, v = (.bool v_184) ∧
  ((v_184 = true →
   ∃ v_187 : Array Value, v_187.size = 2 ∧ F.row (Addr.mk b19 0 none) v_187 ∧
   ∃ v_188 : Array Value, v_188.size = 2 ∧ F.row (Addr.mk b1 0 none) v_188 ∧
   Spec prog 39 #[(.agg v_187), (.agg v_188)] F fun v F => ∃ v_189 : Bool, v = (.bool v_189) ∧
   ((v_189 = true →
    (((v_89.len : Int) = (1 : Int) →
     ∃ a198_ : Addr, v_89.base = some a198_ ∧ 0 ≤ (0 : Int) ∧ (0 : Int) < (v_89.len : Int) ∧
     ∃ v_199 : Int, F.cell (Addr.add a198_ (Int.toNat (0 : Int) * 1)) = some (.int .u32 v_199) ∧
     ((v_199 = (3 : Int) →
      (((v_94.len : Int) = (1 : Int) →
       ∃ a209_ : Addr, v_94.base = some a209_ ∧ 0 ≤ (0 : Int) ∧ (0 : Int) < (v_94.len : Int) ∧
       ∃ v_210 : Int, F.cell (Addr.add a209_ (Int.toNat (0 : Int) * 1)) = some (.int .u32 v_210) ∧
       ((v_210 = (6 : Int) →
        ((v_104 = (1 : Int) →
         ((v_109 = (3 : Int) →
          ((v_114 = (0 : Int) →
           b15j3 b7 b9 codes_33 sets_34 v_114_1 R F) ∧
          (¬ (v_114 = (0 : Int)) →
           b15j3 b7 b9 codes_33 sets_34 false R F))) ∧
         (¬ (v_109 = (3 : Int)) →
          b15j3 b7 b9 codes_33 sets_34 false R F))) ∧
        (¬ (v_104 = (1 : Int)) →
         b15j3 b7 b9 codes_33 sets_34 false R F))) ∧
       (¬ (v_210 = (6 : Int)) →
        b15j3 b7 b9 codes_33 sets_34 false R F))) ∧
      (¬ ((v_94.len : Int) = (1 : Int)) →
       b15j3 b7 b9 codes_33 sets_34 false R F))) ∧
     (¬ (v_199 = (3 : Int)) →
      b15j3 b7 b9 codes_33 sets_34 false R F))) ∧
    (¬ ((v_89.len : Int) = (1 : Int)) →
     b15j3 b7 b9 codes_33 sets_34 false R F))) ∧
   (v_189 = false →
    b15j3 b7 b9 codes_33 sets_34 false R F))) ∧
  (v_184 = false →
   b15j3 b7 b9 codes_33 sets_34 false R F))) ∧
 (v_180 = false →
  b15j3 b7 b9 codes_33 sets_34 false R F))
abbrev b15J2 (b1 : Nat) (b3 : Nat) (b7 : Nat) (b9 : Nat) (b15 : Nat) (b17 : Nat) (b19 : Nat) (v_89 : Sl) (v_94 : Sl) (v_104 : Int) (v_109 : Int) (v_114 : Int) (v_114_1 : Bool) (codes_33 : Bool) (R : Value → PH → Prop) (E : En) (F : PH) : Prop := ∃ sets_34 : Bool, E 1 = (.pointer (some (Addr.mk b1 0 none))) ∧ E 3 = (.pointer (some (Addr.mk b3 0 none))) ∧ E 7 = (.pointer (some (Addr.mk b7 0 none))) ∧ E 9 = (.pointer (some (Addr.mk b9 0 none))) ∧ E 15 = (.pointer (some (Addr.mk b15 0 none))) ∧ E 17 = (.pointer (some (Addr.mk b17 0 none))) ∧ E 19 = (.pointer (some (Addr.mk b19 0 none))) ∧ E 21 = (Sl.v v_89) ∧ E 23 = (Sl.v v_94) ∧ E 27 = (.int .u64 v_104) ∧ E 29 = (.int .u64 v_109) ∧ E 31 = (.int .u64 v_114) ∧ E 32 = (.bool v_114_1) ∧ E 33 = (.bool codes_33) ∧ E 34 = (.bool sets_34) ∧ b15j2 b1 b3 b7 b9 b15 b17 b19 v_89 v_94 v_104 v_109 v_114 v_114_1 codes_33 sets_34 R F
def b15j1 (b1 : Nat) (b3 : Nat) (b7 : Nat) (b9 : Nat) (b11 : Nat) (b13 : Nat) (b15 : Nat) (b17 : Nat) (b19 : Nat) (v_89 : Sl) (v_94 : Sl) (v_104 : Int) (v_109 : Int) (v_114 : Int) (v_114_1 : Bool) (codes_33 : Bool) (R : Value → PH → Prop) (F : PH) : Prop :=
 ∃ v_147 : Array Value, v_147.size = 2 ∧ F.row (Addr.mk b1 0 none) v_147 ∧
 (#[.int .i64 0, .int .i64 0, (.int .i64 (1 : Int))] : Array Value).size = 3 ∧ ∀ b149, F b149 = none → atF (F.set b149 (.cells (#[.int .i64 0, .int .i64 0, (.int .i64 (1 : Int))] : Array Value) 72)) fun F =>
 Spec prog 58 #[(.agg v_147), (.int .i64 (2 : Int)), (Sl.v (Sl.mk (some (Addr.mk b149 0 none)) 1 1))] F fun v F => ∃ v_150 : Bool, v = (.bool v_150) ∧
 ((v_150 = true →
  ∃ v_152 : Array Value, v_152.size = 2 ∧ F.row (Addr.mk b13 0 none) v_152 ∧
  (#[.int .i64 0, (.int .i64 (1 : Int)), .int .i64 0] : Array Value).size = 3 ∧ ∀ b154, F b154 = none → atF (F.set b154 (.cells (#[.int .i64 0, (.int .i64 (1 : Int)), .int .i64 0] : Array Value) 72)) fun F =>
  Spec prog 58 #[(.agg v_152), (.int .i64 (2 : Int)), (Sl.v (Sl.mk (some (Addr.mk b154 0 none)) 1 1))] F fun v F => ∃ v_155 : Bool, v = (.bool v_155) ∧
  ((v_155 = true →
   ∃ v_158 : Array Value, v_158.size = 2 ∧ F.row (Addr.mk b7 0 none) v_158 ∧
   (#[(.int .i64 (1 : Int)), .int .i64 0, (.int .i64 (1 : Int))] : Array Value).size = 3 ∧ (#[.int .i64 0, .int .i64 0, (.int .i64 (2 : Int))] : Array Value).size = 3 ∧ ∀ b161, F b161 = none → atF (F.set b161 (.cells (wr (wr (#[.int .i64 0, .int .i64 0, .int .i64 0, .int .i64 0, .int .i64 0, .int .i64 0] : Array Value) 0 (#[(.int .i64 (1 : Int)), .int .i64 0, (.int .i64 (1 : Int))] : Array Value).toList) 3 (#[.int .i64 0, .int .i64 0, (.int .i64 (2 : Int))] : Array Value).toList) 72)) fun F =>
   Spec prog 58 #[(.agg v_158), (.int .i64 (3 : Int)), (Sl.v (Sl.mk (some (Addr.mk b161 0 none)) 2 2))] F fun v F => ∃ v_162 : Bool, v = (.bool v_162) ∧
   ((v_162 = true →
    ∃ v_165 : Array Value, v_165.size = 2 ∧ F.row (Addr.mk b9 0 none) v_165 ∧
    (#[(.int .i64 (1 : Int)), .int .i64 0, (.int .i64 (1 : Int))] : Array Value).size = 3 ∧ (#[.int .i64 0, (.int .i64 (2 : Int)), (.int .i64 (1 : Int))] : Array Value).size = 3 ∧ ∀ b168, F b168 = none → atF (F.set b168 (.cells (wr (wr (#[.int .i64 0, .int .i64 0, .int .i64 0, .int .i64 0, .int .i64 0, .int .i64 0] : Array Value) 0 (#[(.int .i64 (1 : Int)), .int .i64 0, (.int .i64 (1 : Int))] : Array Value).toList) 3 (#[.int .i64 0, (.int .i64 (2 : Int)), (.int .i64 (1 : Int))] : Array Value).toList) 72)) fun F =>
    Spec prog 58 #[(.agg v_165), (.int .i64 (3 : Int)), (Sl.v (Sl.mk (some (Addr.mk b168 0 none)) 2 2))] F fun v F => ∃ v_169 : Bool, v = (.bool v_169) ∧
    ((v_169 = true →
     ∃ v_172 : Array Value, v_172.size = 2 ∧ F.row (Addr.mk b11 0 none) v_172 ∧
     (#[(.int .i64 (1 : Int)), .int .i64 0, (.int .i64 (1 : Int))] : Array Value).size = 3 ∧ (#[(.int .i64 (1 : Int)), (.int .i64 (1 : Int)), .int .i64 0] : Array Value).size = 3 ∧ (#[.int .i64 0, (.int .i64 (2 : Int)), (.int .i64 (3 : Int))] : Array Value).size = 3 ∧ ∀ b176, F b176 = none → atF (F.set b176 (.cells (wr (wr (wr (#[.int .i64 0, .int .i64 0, .int .i64 0, .int .i64 0, .int .i64 0, .int .i64 0, .int .i64 0, .int .i64 0, .int .i64 0] : Array Value) 0 (#[(.int .i64 (1 : Int)), .int .i64 0, (.int .i64 (1 : Int))] : Array Value).toList) 3 (#[(.int .i64 (1 : Int)), (.int .i64 (1 : Int)), .int .i64 0] : Array Value).toList) 6 (#[.int .i64 0, (.int .i64 (2 : Int)), (.int .i64 (3 : Int))] : Array Value).toList) 72)) fun F =>
     Spec prog 58 #[(.agg v_172), (.int .i64 (4 : Int)), (Sl.v (Sl.mk (some (Addr.mk b176 0 none)) 3 3))] F fun v F => ∃ v_177 : Bool, v = (.bool v_177) ∧
     b15j2 b1 b3 b7 b9 b15 b17 b19 v_89 v_94 v_104 v_109 v_114 v_114_1 codes_33 v_177 R F) ∧
    (v_169 = false →
     b15j2 b1 b3 b7 b9 b15 b17 b19 v_89 v_94 v_104 v_109 v_114 v_114_1 codes_33 false R F))) ∧
   (v_162 = false →
    b15j2 b1 b3 b7 b9 b15 b17 b19 v_89 v_94 v_104 v_109 v_114 v_114_1 codes_33 false R F))) ∧
  (v_155 = false →
   b15j2 b1 b3 b7 b9 b15 b17 b19 v_89 v_94 v_104 v_109 v_114 v_114_1 codes_33 false R F))) ∧
 (v_150 = false →
  b15j2 b1 b3 b7 b9 b15 b17 b19 v_89 v_94 v_104 v_109 v_114 v_114_1 codes_33 false R F))
abbrev b15J1 (b1 : Nat) (b3 : Nat) (b7 : Nat) (b9 : Nat) (b11 : Nat) (b13 : Nat) (b15 : Nat) (b17 : Nat) (b19 : Nat) (v_89 : Sl) (v_94 : Sl) (v_104 : Int) (v_109 : Int) (v_114 : Int) (v_114_1 : Bool) (R : Value → PH → Prop) (E : En) (F : PH) : Prop := ∃ codes_33 : Bool, E 1 = (.pointer (some (Addr.mk b1 0 none))) ∧ E 3 = (.pointer (some (Addr.mk b3 0 none))) ∧ E 7 = (.pointer (some (Addr.mk b7 0 none))) ∧ E 9 = (.pointer (some (Addr.mk b9 0 none))) ∧ E 11 = (.pointer (some (Addr.mk b11 0 none))) ∧ E 13 = (.pointer (some (Addr.mk b13 0 none))) ∧ E 15 = (.pointer (some (Addr.mk b15 0 none))) ∧ E 17 = (.pointer (some (Addr.mk b17 0 none))) ∧ E 19 = (.pointer (some (Addr.mk b19 0 none))) ∧ E 21 = (Sl.v v_89) ∧ E 23 = (Sl.v v_94) ∧ E 27 = (.int .u64 v_104) ∧ E 29 = (.int .u64 v_109) ∧ E 31 = (.int .u64 v_114) ∧ E 32 = (.bool v_114_1) ∧ E 33 = (.bool codes_33) ∧ b15j1 b1 b3 b7 b9 b11 b13 b15 b17 b19 v_89 v_94 v_104 v_109 v_114 v_114_1 codes_33 R F
def b15 (R : Value → PH → Prop) (F : PH) : Prop :=
 Spec prog 30 #[(.int .i64 (0 : Int))] F fun v F => ∃ v_38 : Array Value, ∃ v_38_1 : Int, v = (.tuple #[(.agg v_38), (.int .i64 v_38_1)]) ∧
 ∀ b1, F b1 = none → atF (F.set b1 (.cells (#[.slice none 0 0, .int .i64 0]) 28)) fun F =>
 v_38.size = 2 ∧ (∀ v ∈ v_38.toList, storable v) ∧ ∃ c e, F (Addr.mk b1 0 none).block = some (.cells c e (0, 0)) ∧ (Addr.mk b1 0 none).spot = none ∧ (Addr.mk b1 0 none).off + 2 ≤ c.size ∧
 atF (F.set (Addr.mk b1 0 none).block (.cells (wr c (Addr.mk b1 0 none).off v_38.toList) e)) fun F =>
 Spec prog 30 #[(.int .i64 (1 : Int))] F fun v F => ∃ v_42 : Array Value, ∃ v_42_1 : Int, v = (.tuple #[(.agg v_42), (.int .i64 v_42_1)]) ∧
 ∀ b3, F b3 = none → atF (F.set b3 (.cells (#[.slice none 0 0, .int .i64 0]) 28)) fun F =>
 v_42.size = 2 ∧ (∀ v ∈ v_42.toList, storable v) ∧ ∃ c e, F (Addr.mk b3 0 none).block = some (.cells c e (0, 0)) ∧ (Addr.mk b3 0 none).spot = none ∧ (Addr.mk b3 0 none).off + 2 ≤ c.size ∧
 atF (F.set (Addr.mk b3 0 none).block (.cells (wr c (Addr.mk b3 0 none).off v_42.toList) e)) fun F =>
 Spec prog 30 #[(.int .i64 (64 : Int))] F fun v F => ∃ v_46 : Array Value, ∃ v_46_1 : Int, v = (.tuple #[(.agg v_46), (.int .i64 v_46_1)]) ∧
 ∀ b5, F b5 = none → atF (F.set b5 (.cells (#[.slice none 0 0, .int .i64 0]) 28)) fun F =>
 v_46.size = 2 ∧ (∀ v ∈ v_46.toList, storable v) ∧ ∃ c e, F (Addr.mk b5 0 none).block = some (.cells c e (0, 0)) ∧ (Addr.mk b5 0 none).spot = none ∧ (Addr.mk b5 0 none).off + 2 ≤ c.size ∧
 atF (F.set (Addr.mk b5 0 none).block (.cells (wr c (Addr.mk b5 0 none).off v_46.toList) e)) fun F =>
 ∃ v_50 : Array Value, v_50.size = 2 ∧ F.row (Addr.mk b1 0 none) v_50 ∧
 ∃ v_51 : Array Value, v_51.size = 2 ∧ F.row (Addr.mk b3 0 none) v_51 ∧
 Spec prog 19 #[(.agg v_50), (.agg v_51)] F fun v F => ∃ v_52 : Array Value, ∃ v_52_1 : Int, v = (.tuple #[(.agg v_52), (.int .i64 v_52_1)]) ∧
 ∀ b7, F b7 = none → atF (F.set b7 (.cells (#[.slice none 0 0, .int .i64 0]) 28)) fun F =>
 v_52.size = 2 ∧ (∀ v ∈ v_52.toList, storable v) ∧ ∃ c e, F (Addr.mk b7 0 none).block = some (.cells c e (0, 0)) ∧ (Addr.mk b7 0 none).spot = none ∧ (Addr.mk b7 0 none).off + 2 ≤ c.size ∧
 atF (F.set (Addr.mk b7 0 none).block (.cells (wr c (Addr.mk b7 0 none).off v_52.toList) e)) fun F =>
 ∃ v_56 : Array Value, v_56.size = 2 ∧ F.row (Addr.mk b1 0 none) v_56 ∧
 ∃ v_57 : Array Value, v_57.size = 2 ∧ F.row (Addr.mk b3 0 none) v_57 ∧
 Spec prog 22 #[(.agg v_56), (.agg v_57)] F fun v F => ∃ v_58 : Array Value, ∃ v_58_1 : Int, v = (.tuple #[(.agg v_58), (.int .i64 v_58_1)]) ∧
 ∀ b9, F b9 = none → atF (F.set b9 (.cells (#[.slice none 0 0, .int .i64 0]) 28)) fun F =>
 v_58.size = 2 ∧ (∀ v ∈ v_58.toList, storable v) ∧ ∃ c e, F (Addr.mk b9 0 none).block = some (.cells c e (0, 0)) ∧ (Addr.mk b9 0 none).spot = none ∧ (Addr.mk b9 0 none).off + 2 ≤ c.size ∧
 atF (F.set (Addr.mk b9 0 none).block (.cells (wr c (Addr.mk b9 0 none).off v_58.toList) e)) fun F =>
 ∃ v_62 : Array Value, v_62.size = 2 ∧ F.row (Addr.mk b1 0 none) v_62 ∧
 ∃ v_63 : Array Value, v_63.size = 2 ∧ F.row (Addr.mk b3 0 none) v_63 ∧
 Spec prog 26 #[(.agg v_62), (.agg v_63)] F fun v F => ∃ v_64 : Array Value, ∃ v_64_1 : Int, v = (.tuple #[(.agg v_64), (.int .i64 v_64_1)]) ∧
 ∀ b11, F b11 = none → atF (F.set b11 (.cells (#[.slice none 0 0, .int .i64 0]) 28)) fun F =>
 v_64.size = 2 ∧ (∀ v ∈ v_64.toList, storable v) ∧ ∃ c e, F (Addr.mk b11 0 none).block = some (.cells c e (0, 0)) ∧ (Addr.mk b11 0 none).spot = none ∧ (Addr.mk b11 0 none).off + 2 ≤ c.size ∧
 atF (F.set (Addr.mk b11 0 none).block (.cells (wr c (Addr.mk b11 0 none).off v_64.toList) e)) fun F =>
 ∃ v_68 : Array Value, v_68.size = 2 ∧ F.row (Addr.mk b1 0 none) v_68 ∧
 Spec prog 25 #[(.agg v_68)] F fun v F => ∃ v_69 : Array Value, ∃ v_69_1 : Int, v = (.tuple #[(.agg v_69), (.int .i64 v_69_1)]) ∧
 ∀ b13, F b13 = none → atF (F.set b13 (.cells (#[.slice none 0 0, .int .i64 0]) 28)) fun F =>
 v_69.size = 2 ∧ (∀ v ∈ v_69.toList, storable v) ∧ ∃ c e, F (Addr.mk b13 0 none).block = some (.cells c e (0, 0)) ∧ (Addr.mk b13 0 none).spot = none ∧ (Addr.mk b13 0 none).off + 2 ≤ c.size ∧
 atF (F.set (Addr.mk b13 0 none).block (.cells (wr c (Addr.mk b13 0 none).off v_69.toList) e)) fun F =>
 ∃ v_73 : Array Value, v_73.size = 2 ∧ F.row (Addr.mk b9 0 none) v_73 ∧
 Spec prog 28 #[(.agg v_73), (.int .i64 (0 : Int)), (.bool true)] F fun v F => ∃ v_74 : Array Value, ∃ v_74_1 : Int, v = (.tuple #[(.agg v_74), (.int .i64 v_74_1)]) ∧
 ∀ b15, F b15 = none → atF (F.set b15 (.cells (#[.slice none 0 0, .int .i64 0]) 28)) fun F =>
 v_74.size = 2 ∧ (∀ v ∈ v_74.toList, storable v) ∧ ∃ c e, F (Addr.mk b15 0 none).block = some (.cells c e (0, 0)) ∧ (Addr.mk b15 0 none).spot = none ∧ (Addr.mk b15 0 none).off + 2 ≤ c.size ∧
 atF (F.set (Addr.mk b15 0 none).block (.cells (wr c (Addr.mk b15 0 none).off v_74.toList) e)) fun F =>
 ∃ v_78 : Array Value, v_78.size = 2 ∧ F.row (Addr.mk b9 0 none) v_78 ∧
 Spec prog 28 #[(.agg v_78), (.int .i64 (0 : Int)), (.bool false)] F fun v F => ∃ v_79 : Array Value, ∃ v_79_1 : Int, v = (.tuple #[(.agg v_79), (.int .i64 v_79_1)]) ∧
 ∀ b17, F b17 = none → atF (F.set b17 (.cells (#[.slice none 0 0, .int .i64 0]) 28)) fun F =>
 v_79.size = 2 ∧ (∀ v ∈ v_79.toList, storable v) ∧ ∃ c e, F (Addr.mk b17 0 none).block = some (.cells c e (0, 0)) ∧ (Addr.mk b17 0 none).spot = none ∧ (Addr.mk b17 0 none).off + 2 ≤ c.size ∧
 atF (F.set (Addr.mk b17 0 none).block (.cells (wr c (Addr.mk b17 0 none).off v_79.toList) e)) fun F =>
 ∃ v_83 : Array Value, v_83.size = 2 ∧ F.row (Addr.mk b7 0 none) v_83 ∧
 Spec prog 29 #[(.agg v_83), (.int .i64 (1 : Int))] F fun v F => ∃ v_84 : Array Value, ∃ v_84_1 : Int, v = (.tuple #[(.agg v_84), (.int .i64 v_84_1)]) ∧
 ∀ b19, F b19 = none → atF (F.set b19 (.cells (#[.slice none 0 0, .int .i64 0]) 28)) fun F =>
 v_84.size = 2 ∧ (∀ v ∈ v_84.toList, storable v) ∧ ∃ c e, F (Addr.mk b19 0 none).block = some (.cells c e (0, 0)) ∧ (Addr.mk b19 0 none).spot = none ∧ (Addr.mk b19 0 none).off + 2 ≤ c.size ∧
 atF (F.set (Addr.mk b19 0 none).block (.cells (wr c (Addr.mk b19 0 none).off v_84.toList) e)) fun F =>
 ∃ v_88 : Array Value, v_88.size = 2 ∧ F.row (Addr.mk b9 0 none) v_88 ∧
 Spec prog 32 #[(.agg v_88), (.int .i64 (2 : Int))] F fun v F => ∃ v_89 : Sl, ∃ v_89_1 : Int, v = (.tuple #[(Sl.v v_89), (.int .i64 v_89_1)]) ∧
 ∃ v_93 : Array Value, v_93.size = 2 ∧ F.row (Addr.mk b9 0 none) v_93 ∧
 Spec prog 32 #[(.agg v_93), (.int .i64 (3 : Int))] F fun v F => ∃ v_94 : Sl, ∃ v_94_1 : Int, v = (.tuple #[(Sl.v v_94), (.int .i64 v_94_1)]) ∧
 ∃ v_98 : Array Value, v_98.size = 2 ∧ F.row (Addr.mk b9 0 none) v_98 ∧
 Spec prog 32 #[(.agg v_98), (.int .i64 (1 : Int))] F fun v F => ∃ v_99 : Sl, ∃ v_99_1 : Int, v = (.tuple #[(Sl.v v_99), (.int .i64 v_99_1)]) ∧
 ∃ v_103 : Array Value, v_103.size = 2 ∧ F.row (Addr.mk b11 0 none) v_103 ∧
 Spec prog 31 #[(.agg v_103)] F fun v F => ∃ v_104 : Int, ∃ v_104_1 : Bool, v = (.tuple #[(.int .u64 v_104), (.bool v_104_1)]) ∧
 ∃ v_108 : Array Value, v_108.size = 2 ∧ F.row (Addr.mk b7 0 none) v_108 ∧
 Spec prog 31 #[(.agg v_108)] F fun v F => ∃ v_109 : Int, ∃ v_109_1 : Bool, v = (.tuple #[(.int .u64 v_109), (.bool v_109_1)]) ∧
 ∃ v_113 : Array Value, v_113.size = 2 ∧ F.row (Addr.mk b13 0 none) v_113 ∧
 Spec prog 31 #[(.agg v_113)] F fun v F => ∃ v_114 : Int, ∃ v_114_1 : Bool, v = (.tuple #[(.int .u64 v_114), (.bool v_114_1)]) ∧
 ((v_38_1 = (0 : Int) →
  ((v_42_1 = (0 : Int) →
   ((v_46_1 = (1 : Int) →
    ((v_52_1 = (0 : Int) →
     ((v_58_1 = (0 : Int) →
      ((v_64_1 = (0 : Int) →
       ((v_69_1 = (0 : Int) →
        b15j1 b1 b3 b7 b9 b11 b13 b15 b17 b19 v_89 v_94 v_104 v_109 v_114 v_114_1 (decide (v_99_1 = (1 : Int))) R F) ∧
       (¬ (v_69_1 = (0 : Int)) →
        b15j1 b1 b3 b7 b9 b11 b13 b15 b17 b19 v_89 v_94 v_104 v_109 v_114 v_114_1 false R F))) ∧
      (¬ (v_64_1 = (0 : Int)) →
       b15j1 b1 b3 b7 b9 b11 b13 b15 b17 b19 v_89 v_94 v_104 v_109 v_114 v_114_1 false R F))) ∧
     (¬ (v_58_1 = (0 : Int)) →
      b15j1 b1 b3 b7 b9 b11 b13 b15 b17 b19 v_89 v_94 v_104 v_109 v_114 v_114_1 false R F))) ∧
    (¬ (v_52_1 = (0 : Int)) →
     b15j1 b1 b3 b7 b9 b11 b13 b15 b17 b19 v_89 v_94 v_104 v_109 v_114 v_114_1 false R F))) ∧
   (¬ (v_46_1 = (1 : Int)) →
    b15j1 b1 b3 b7 b9 b11 b13 b15 b17 b19 v_89 v_94 v_104 v_109 v_114 v_114_1 false R F))) ∧
  (¬ (v_42_1 = (0 : Int)) →
   b15j1 b1 b3 b7 b9 b11 b13 b15 b17 b19 v_89 v_94 v_104 v_109 v_114 v_114_1 false R F))) ∧
 (¬ (v_38_1 = (0 : Int)) →
  b15j1 b1 b3 b7 b9 b11 b13 b15 b17 b19 v_89 v_94 v_104 v_109 v_114 v_114_1 false R F))
theorem c15 {R : Value → PH → Prop} {F : PH} (h : b15 R F) : Spec prog 15 #[] F R := by
 refine spec_of (args := []) func15 rfl ntmps15 rfl ?_
 unfold b15 at h
 refine cR ?_
 refine sR (.bool false) (r_assign rfl rfl) ?_
 refine HL_nil ?_
 refine cR ?_
 refine s_ef (k_call (vs := [(.int .i64 (0 : Int))]) cb30 (evC rfl evN) (h.mono ?_))
 clear h; rintro v F ⟨v_38, v_38_1, rfl, h⟩
 refine sR (.tuple #[(.agg v_38), (.int .i64 v_38_1)]) (r_move rfl rfl) ?_
 refine sR (.agg v_38) (r_extract rfl rfl rfl) ?_
 refine sR (.int .i64 v_38_1) (r_extract rfl rfl rfl) ?_
 refine s_ef (k_alloc zr28 ?_)
 intro b1 hf_b1
 replace h := atE (h b1 hf_b1)
 refine s_ef0 (k_storeN (vs := v_38) rfl rfl sz28 (by decide) ?_)
 obtain ⟨hz1, hz2, c, e, hz3, hz4, hz5, h⟩ := h
 refine ⟨hz1, hz2, c, e, hz3, hz4, hz5, ?_⟩
 replace h := atE h
 refine sR (.int .i64 v_38_1) (r_assign rfl rfl) ?_
 refine HL_nil ?_
 refine cR ?_
 refine s_ef (k_call (vs := [(.int .i64 (1 : Int))]) cb30 (evC rfl evN) (h.mono ?_))
 clear h; rintro v F ⟨v_42, v_42_1, rfl, h⟩
 refine sR (.tuple #[(.agg v_42), (.int .i64 v_42_1)]) (r_move rfl rfl) ?_
 refine sR (.agg v_42) (r_extract rfl rfl rfl) ?_
 refine sR (.int .i64 v_42_1) (r_extract rfl rfl rfl) ?_
 refine s_ef (k_alloc zr28 ?_)
 intro b3 hf_b3
 replace h := atE (h b3 hf_b3)
 refine s_ef0 (k_storeN (vs := v_42) rfl rfl sz28 (by decide) ?_)
 obtain ⟨hz1, hz2, c, e, hz3, hz4, hz5, h⟩ := h
 refine ⟨hz1, hz2, c, e, hz3, hz4, hz5, ?_⟩
 replace h := atE h
 refine sR (.int .i64 v_42_1) (r_assign rfl rfl) ?_
 refine HL_nil ?_
 refine cR ?_
 refine s_ef (k_call (vs := [(.int .i64 (64 : Int))]) cb30 (evC rfl evN) (h.mono ?_))
 clear h; rintro v F ⟨v_46, v_46_1, rfl, h⟩
 refine sR (.tuple #[(.agg v_46), (.int .i64 v_46_1)]) (r_move rfl rfl) ?_
 refine sR (.agg v_46) (r_extract rfl rfl rfl) ?_
 refine sR (.int .i64 v_46_1) (r_extract rfl rfl rfl) ?_
 refine s_ef (k_alloc zr28 ?_)
 intro b5 hf_b5
 replace h := atE (h b5 hf_b5)
 refine s_ef0 (k_storeN (vs := v_46) rfl rfl sz28 (by decide) ?_)
 obtain ⟨hz1, hz2, c, e, hz3, hz4, hz5, h⟩ := h
 refine ⟨hz1, hz2, c, e, hz3, hz4, hz5, ?_⟩
 replace h := atE h
 refine sR (.int .i64 v_46_1) (r_assign rfl rfl) ?_
 refine HL_nil ?_
 refine cR ?_
 obtain ⟨v_50, hs50, hc50, h⟩ := h
 refine sR (.agg v_50) (w_loadN rfl underlying28 rfl sz28 hs50 hc50) ?_
 obtain ⟨v_51, hs51, hc51, h⟩ := h
 refine sR (.agg v_51) (w_loadN rfl underlying28 rfl sz28 hs51 hc51) ?_
 refine s_ef (k_call (vs := [(.agg v_50), (.agg v_51)]) cb19 (evC rfl (evC rfl evN)) (h.mono ?_))
 clear h; rintro v F ⟨v_52, v_52_1, rfl, h⟩
 refine sR (.tuple #[(.agg v_52), (.int .i64 v_52_1)]) (r_move rfl rfl) ?_
 refine sR (.agg v_52) (r_extract rfl rfl rfl) ?_
 refine sR (.int .i64 v_52_1) (r_extract rfl rfl rfl) ?_
 refine s_ef (k_alloc zr28 ?_)
 intro b7 hf_b7
 replace h := atE (h b7 hf_b7)
 refine s_ef0 (k_storeN (vs := v_52) rfl rfl sz28 (by decide) ?_)
 obtain ⟨hz1, hz2, c, e, hz3, hz4, hz5, h⟩ := h
 refine ⟨hz1, hz2, c, e, hz3, hz4, hz5, ?_⟩
 replace h := atE h
 refine sR (.int .i64 v_52_1) (r_assign rfl rfl) ?_
 refine HL_nil ?_
 refine cR ?_
 obtain ⟨v_56, hs56, hc56, h⟩ := h
 refine sR (.agg v_56) (w_loadN rfl underlying28 rfl sz28 hs56 hc56) ?_
 obtain ⟨v_57, hs57, hc57, h⟩ := h
 refine sR (.agg v_57) (w_loadN rfl underlying28 rfl sz28 hs57 hc57) ?_
 refine s_ef (k_call (vs := [(.agg v_56), (.agg v_57)]) cb22 (evC rfl (evC rfl evN)) (h.mono ?_))
 clear h; rintro v F ⟨v_58, v_58_1, rfl, h⟩
 refine sR (.tuple #[(.agg v_58), (.int .i64 v_58_1)]) (r_move rfl rfl) ?_
 refine sR (.agg v_58) (r_extract rfl rfl rfl) ?_
 refine sR (.int .i64 v_58_1) (r_extract rfl rfl rfl) ?_
 refine s_ef (k_alloc zr28 ?_)
 intro b9 hf_b9
 replace h := atE (h b9 hf_b9)
 refine s_ef0 (k_storeN (vs := v_58) rfl rfl sz28 (by decide) ?_)
 obtain ⟨hz1, hz2, c, e, hz3, hz4, hz5, h⟩ := h
 refine ⟨hz1, hz2, c, e, hz3, hz4, hz5, ?_⟩
 replace h := atE h
 refine sR (.int .i64 v_58_1) (r_assign rfl rfl) ?_
 refine HL_nil ?_
 refine cR ?_
 obtain ⟨v_62, hs62, hc62, h⟩ := h
 refine sR (.agg v_62) (w_loadN rfl underlying28 rfl sz28 hs62 hc62) ?_
 obtain ⟨v_63, hs63, hc63, h⟩ := h
 refine sR (.agg v_63) (w_loadN rfl underlying28 rfl sz28 hs63 hc63) ?_
 refine s_ef (k_call (vs := [(.agg v_62), (.agg v_63)]) cb26 (evC rfl (evC rfl evN)) (h.mono ?_))
 clear h; rintro v F ⟨v_64, v_64_1, rfl, h⟩
 refine sR (.tuple #[(.agg v_64), (.int .i64 v_64_1)]) (r_move rfl rfl) ?_
 refine sR (.agg v_64) (r_extract rfl rfl rfl) ?_
 refine sR (.int .i64 v_64_1) (r_extract rfl rfl rfl) ?_
 refine s_ef (k_alloc zr28 ?_)
 intro b11 hf_b11
 replace h := atE (h b11 hf_b11)
 refine s_ef0 (k_storeN (vs := v_64) rfl rfl sz28 (by decide) ?_)
 obtain ⟨hz1, hz2, c, e, hz3, hz4, hz5, h⟩ := h
 refine ⟨hz1, hz2, c, e, hz3, hz4, hz5, ?_⟩
 replace h := atE h
 refine sR (.int .i64 v_64_1) (r_assign rfl rfl) ?_
 refine HL_nil ?_
 refine cR ?_
 obtain ⟨v_68, hs68, hc68, h⟩ := h
 refine sR (.agg v_68) (w_loadN rfl underlying28 rfl sz28 hs68 hc68) ?_
 refine s_ef (k_call (vs := [(.agg v_68)]) cb25 (evC rfl evN) (h.mono ?_))
 clear h; rintro v F ⟨v_69, v_69_1, rfl, h⟩
 refine sR (.tuple #[(.agg v_69), (.int .i64 v_69_1)]) (r_move rfl rfl) ?_
 refine sR (.agg v_69) (r_extract rfl rfl rfl) ?_
 refine sR (.int .i64 v_69_1) (r_extract rfl rfl rfl) ?_
 refine s_ef (k_alloc zr28 ?_)
 intro b13 hf_b13
 replace h := atE (h b13 hf_b13)
 refine s_ef0 (k_storeN (vs := v_69) rfl rfl sz28 (by decide) ?_)
 obtain ⟨hz1, hz2, c, e, hz3, hz4, hz5, h⟩ := h
 refine ⟨hz1, hz2, c, e, hz3, hz4, hz5, ?_⟩
 replace h := atE h
 refine sR (.int .i64 v_69_1) (r_assign rfl rfl) ?_
 refine HL_nil ?_
 refine cR ?_
 obtain ⟨v_73, hs73, hc73, h⟩ := h
 refine sR (.agg v_73) (w_loadN rfl underlying28 rfl sz28 hs73 hc73) ?_
 refine s_ef (k_call (vs := [(.agg v_73), (.int .i64 (0 : Int)), (.bool true)]) cb28 (evC rfl (evC rfl (evC rfl evN))) (h.mono ?_))
 clear h; rintro v F ⟨v_74, v_74_1, rfl, h⟩
 refine sR (.tuple #[(.agg v_74), (.int .i64 v_74_1)]) (r_move rfl rfl) ?_
 refine sR (.agg v_74) (r_extract rfl rfl rfl) ?_
 refine sR (.int .i64 v_74_1) (r_extract rfl rfl rfl) ?_
 refine s_ef (k_alloc zr28 ?_)
 intro b15 hf_b15
 replace h := atE (h b15 hf_b15)
 refine s_ef0 (k_storeN (vs := v_74) rfl rfl sz28 (by decide) ?_)
 obtain ⟨hz1, hz2, c, e, hz3, hz4, hz5, h⟩ := h
 refine ⟨hz1, hz2, c, e, hz3, hz4, hz5, ?_⟩
 replace h := atE h
 refine sR (.int .i64 v_74_1) (r_assign rfl rfl) ?_
 refine HL_nil ?_
 refine cR ?_
 obtain ⟨v_78, hs78, hc78, h⟩ := h
 refine sR (.agg v_78) (w_loadN rfl underlying28 rfl sz28 hs78 hc78) ?_
 refine s_ef (k_call (vs := [(.agg v_78), (.int .i64 (0 : Int)), (.bool false)]) cb28 (evC rfl (evC rfl (evC rfl evN))) (h.mono ?_))
 clear h; rintro v F ⟨v_79, v_79_1, rfl, h⟩
 refine sR (.tuple #[(.agg v_79), (.int .i64 v_79_1)]) (r_move rfl rfl) ?_
 refine sR (.agg v_79) (r_extract rfl rfl rfl) ?_
 refine sR (.int .i64 v_79_1) (r_extract rfl rfl rfl) ?_
 refine s_ef (k_alloc zr28 ?_)
 intro b17 hf_b17
 replace h := atE (h b17 hf_b17)
 refine s_ef0 (k_storeN (vs := v_79) rfl rfl sz28 (by decide) ?_)
 obtain ⟨hz1, hz2, c, e, hz3, hz4, hz5, h⟩ := h
 refine ⟨hz1, hz2, c, e, hz3, hz4, hz5, ?_⟩
 replace h := atE h
 refine sR (.int .i64 v_79_1) (r_assign rfl rfl) ?_
 refine HL_nil ?_
 refine cR ?_
 obtain ⟨v_83, hs83, hc83, h⟩ := h
 refine sR (.agg v_83) (w_loadN rfl underlying28 rfl sz28 hs83 hc83) ?_
 refine s_ef (k_call (vs := [(.agg v_83), (.int .i64 (1 : Int))]) cb29 (evC rfl (evC rfl evN)) (h.mono ?_))
 clear h; rintro v F ⟨v_84, v_84_1, rfl, h⟩
 refine sR (.tuple #[(.agg v_84), (.int .i64 v_84_1)]) (r_move rfl rfl) ?_
 refine sR (.agg v_84) (r_extract rfl rfl rfl) ?_
 refine sR (.int .i64 v_84_1) (r_extract rfl rfl rfl) ?_
 refine s_ef (k_alloc zr28 ?_)
 intro b19 hf_b19
 replace h := atE (h b19 hf_b19)
 refine s_ef0 (k_storeN (vs := v_84) rfl rfl sz28 (by decide) ?_)
 obtain ⟨hz1, hz2, c, e, hz3, hz4, hz5, h⟩ := h
 refine ⟨hz1, hz2, c, e, hz3, hz4, hz5, ?_⟩
 replace h := atE h
 refine sR (.int .i64 v_84_1) (r_assign rfl rfl) ?_
 refine HL_nil ?_
 refine cR ?_
 obtain ⟨v_88, hs88, hc88, h⟩ := h
 refine sR (.agg v_88) (w_loadN rfl underlying28 rfl sz28 hs88 hc88) ?_
 refine s_ef (k_call (vs := [(.agg v_88), (.int .i64 (2 : Int))]) cb32 (evC rfl (evC rfl evN)) (h.mono ?_))
 clear h; rintro v F ⟨v_89, v_89_1, rfl, h⟩
 refine sR (.tuple #[(Sl.v v_89), (.int .i64 v_89_1)]) (r_move rfl rfl) ?_
 refine sR (Sl.v v_89) (r_extract rfl rfl rfl) ?_
 refine sR (.int .i64 v_89_1) (r_extract rfl rfl rfl) ?_
 refine sR (Sl.v v_89) (r_assign rfl rfl) ?_
 refine sR (.int .i64 v_89_1) (r_assign rfl rfl) ?_
 refine HL_nil ?_
 refine cR ?_
 obtain ⟨v_93, hs93, hc93, h⟩ := h
 refine sR (.agg v_93) (w_loadN rfl underlying28 rfl sz28 hs93 hc93) ?_
 refine s_ef (k_call (vs := [(.agg v_93), (.int .i64 (3 : Int))]) cb32 (evC rfl (evC rfl evN)) (h.mono ?_))
 clear h; rintro v F ⟨v_94, v_94_1, rfl, h⟩
 refine sR (.tuple #[(Sl.v v_94), (.int .i64 v_94_1)]) (r_move rfl rfl) ?_
 refine sR (Sl.v v_94) (r_extract rfl rfl rfl) ?_
 refine sR (.int .i64 v_94_1) (r_extract rfl rfl rfl) ?_
 refine sR (Sl.v v_94) (r_assign rfl rfl) ?_
 refine sR (.int .i64 v_94_1) (r_assign rfl rfl) ?_
 refine HL_nil ?_
 refine cR ?_
 obtain ⟨v_98, hs98, hc98, h⟩ := h
 refine sR (.agg v_98) (w_loadN rfl underlying28 rfl sz28 hs98 hc98) ?_
 refine s_ef (k_call (vs := [(.agg v_98), (.int .i64 (1 : Int))]) cb32 (evC rfl (evC rfl evN)) (h.mono ?_))
 clear h; rintro v F ⟨v_99, v_99_1, rfl, h⟩
 refine sR (.tuple #[(Sl.v v_99), (.int .i64 v_99_1)]) (r_move rfl rfl) ?_
 refine sR (Sl.v v_99) (r_extract rfl rfl rfl) ?_
 refine sR (.int .i64 v_99_1) (r_extract rfl rfl rfl) ?_
 refine sR (Sl.v v_99) (r_assign rfl rfl) ?_
 refine sR (.int .i64 v_99_1) (r_assign rfl rfl) ?_
 refine HL_nil ?_
 refine cR ?_
 obtain ⟨v_103, hs103, hc103, h⟩ := h
 refine sR (.agg v_103) (w_loadN rfl underlying28 rfl sz28 hs103 hc103) ?_
 refine s_ef (k_call (vs := [(.agg v_103)]) cb31 (evC rfl evN) (h.mono ?_))
 clear h; rintro v F ⟨v_104, v_104_1, rfl, h⟩
 refine sR (.tuple #[(.int .u64 v_104), (.bool v_104_1)]) (r_move rfl rfl) ?_
 refine sR (.int .u64 v_104) (r_extract rfl rfl rfl) ?_
 refine sR (.bool v_104_1) (r_extract rfl rfl rfl) ?_
 refine sR (.int .u64 v_104) (r_assign rfl rfl) ?_
 refine sR (.bool v_104_1) (r_assign rfl rfl) ?_
 refine HL_nil ?_
 refine cR ?_
 obtain ⟨v_108, hs108, hc108, h⟩ := h
 refine sR (.agg v_108) (w_loadN rfl underlying28 rfl sz28 hs108 hc108) ?_
 refine s_ef (k_call (vs := [(.agg v_108)]) cb31 (evC rfl evN) (h.mono ?_))
 clear h; rintro v F ⟨v_109, v_109_1, rfl, h⟩
 refine sR (.tuple #[(.int .u64 v_109), (.bool v_109_1)]) (r_move rfl rfl) ?_
 refine sR (.int .u64 v_109) (r_extract rfl rfl rfl) ?_
 refine sR (.bool v_109_1) (r_extract rfl rfl rfl) ?_
 refine sR (.int .u64 v_109) (r_assign rfl rfl) ?_
 refine sR (.bool v_109_1) (r_assign rfl rfl) ?_
 refine HL_nil ?_
 refine cR ?_
 obtain ⟨v_113, hs113, hc113, h⟩ := h
 refine sR (.agg v_113) (w_loadN rfl underlying28 rfl sz28 hs113 hc113) ?_
 refine s_ef (k_call (vs := [(.agg v_113)]) cb31 (evC rfl evN) (h.mono ?_))
 clear h; rintro v F ⟨v_114, v_114_1, rfl, h⟩
 refine sR (.tuple #[(.int .u64 v_114), (.bool v_114_1)]) (r_move rfl rfl) ?_
 refine sR (.int .u64 v_114) (r_extract rfl rfl rfl) ?_
 refine sR (.bool v_114_1) (r_extract rfl rfl rfl) ?_
 refine sR (.int .u64 v_114) (r_assign rfl rfl) ?_
 refine sR (.bool v_114_1) (r_assign rfl rfl) ?_
 refine HL_nil ?_
 refine HC_seqJ (b15J1 b1 b3 b7 b9 b11 b13 b15 b17 b19 v_89 v_94 v_104 v_109 v_114 v_114_1 R) ?_ ?_
 ·
  clear h; rintro E F ⟨codes_33, h1, h3, h7, h9, h11, h13, h15, h17, h19, h21, h23, h27, h29, h31, h32, h33, h⟩
  unfold b15j1 at h
  refine HC_seqJ (b15J2 b1 b3 b7 b9 b15 b17 b19 v_89 v_94 v_104 v_109 v_114 v_114_1 codes_33 R) ?_ ?_
  ·
   clear h; rintro E F ⟨sets_34, h1, h3, h7, h9, h15, h17, h19, h21, h23, h27, h29, h31, h32, h33, h34, h⟩
   unfold b15j2 at h
   refine HC_seqJ (b15J3 b7 b9 codes_33 sets_34 R) ?_ ?_
   ·
    clear h; rintro E F ⟨rest_35, h7, h9, h33, h34, h35, h⟩
    unfold b15j3 at h
    refine HC_seqJ (b15J4 b7 b9 codes_33 sets_34 rest_35 R) ?_ ?_
    ·
     clear h; rintro E F ⟨bad_36, h7, h9, h33, h34, h35, h36, h⟩
     unfold b15j4 at h
     refine cR ?_
     refine sR (.bool codes_33) (r_move rfl h33) ?_
     refine sR (.bool codes_33) (r_move rfl rfl) ?_
     by_cases hc : codes_33 = true
     ·
      replace h := h.1 hc
      refine HL_known (t := 33) (v := .bool true) (h33.trans (congrArg Value.bool hc)) ?_
      refine kN 240 hc ?_
      refine kN 241 hc ?_
      refine sR (.bool sets_34) (r_move rfl h34) ?_
      refine sR (.bool sets_34) (r_pick rfl rfl (fun _ => rfl) (fun h => by cases h)) ?_
      refine sR (.bool sets_34) (r_move rfl rfl) ?_
      by_cases hc : sets_34 = true
      ·
       replace h := h.1 hc
       refine HL_known (t := 34) (v := .bool true) (h34.trans (congrArg Value.bool hc)) ?_
       refine kN 242 hc ?_
       refine kN 243 hc ?_
       refine kN 244 hc ?_
       refine sR (.bool rest_35) (r_move rfl h35) ?_
       refine sR (.bool rest_35) (r_pick rfl rfl (fun _ => rfl) (fun h => by cases h)) ?_
       refine sR (.bool rest_35) (r_move rfl rfl) ?_
       by_cases hc : rest_35 = true
       ·
        replace h := h.1 hc
        refine HL_known (t := 35) (v := .bool true) (h35.trans (congrArg Value.bool hc)) ?_
        refine kN 245 hc ?_
        refine kN 246 hc ?_
        refine kN 247 hc ?_
        refine sR (.bool bad_36) (r_move rfl h36) ?_
        refine sR (.bool bad_36) (r_pick rfl rfl (fun _ => rfl) (fun h => by cases h)) ?_
        refine sR (.bool bad_36) (r_move rfl rfl) ?_
        by_cases hc : bad_36 = true
        ·
         replace h := h.1 hc
         refine HL_known (t := 36) (v := .bool true) (h36.trans (congrArg Value.bool hc)) ?_
         refine kN 248 hc ?_
         refine kN 249 hc ?_
         refine kN 250 hc ?_
         obtain ⟨v_251, hs251, hc251, h⟩ := h
         refine sR (.agg v_251) (w_loadN h9 underlying28 rfl sz28 hs251 hc251) ?_
         refine s_ef (k_call (vs := [(.agg v_251), (.int .u64 (2 : Int))]) cb21 (evC rfl (evC rfl evN)) (h.mono ?_))
         clear h; rintro v F ⟨v_252, rfl, h⟩
         refine sR (.bool v_252) (r_pick rfl rfl (fun _ => rfl) (fun h => by cases h)) ?_
         refine sR (.bool v_252) (r_move rfl rfl) ?_
         by_cases hc : v_252 = true
         ·
          replace h := h.1 hc
          refine kN 252 hc ?_
          refine kN 253 hc ?_
          refine kN 254 hc ?_
          obtain ⟨v_255, hs255, hc255, h⟩ := h
          refine sR (.agg v_255) (w_loadN h7 underlying28 rfl sz28 hs255 hc255) ?_
          refine s_ef (k_call (vs := [(.agg v_255), (.int .u64 (2 : Int))]) cb21 (evC rfl (evC rfl evN)) (h.mono ?_))
          clear h; rintro v F ⟨v_256, rfl, h⟩
          refine sR (.bool (!v_256)) (r_not rfl rfl) ?_
          refine sR (.bool (!v_256)) (r_pick rfl rfl (fun _ => rfl) (fun h => by cases h)) ?_
          refine sR (.bool (!v_256)) (r_assign rfl rfl) ?_
          refine HL_nil ?_
          exact HC_ret (show endQ prog f15 R .ret _ _ from ⟨_, res1 rfl (rv_tmp rfl), h⟩)
         ·
          replace hc := eq_false_of_ne_true hc; replace h := h.2 hc
          refine kN 252 hc ?_
          refine kN 253 hc ?_
          refine kN 254 hc ?_
          refine s_skip ?_
          refine s_skip ?_
          refine s_skip ?_
          refine sR (.bool false) (r_pick rfl rfl (fun h => by cases h) (fun _ => rfl)) ?_
          refine sR (.bool false) (r_assign rfl rfl) ?_
          refine HL_nil ?_
          exact HC_ret (show endQ prog f15 R .ret _ _ from ⟨_, res1 rfl (rv_tmp rfl), h⟩)
        ·
         replace hc := eq_false_of_ne_true hc; replace h := h.2 hc
         refine HL_known (t := 36) (v := .bool false) (h36.trans (congrArg Value.bool hc)) ?_
         refine kN 248 hc ?_
         refine kN 249 hc ?_
         refine kN 250 hc ?_
         refine s_skip ?_
         refine s_skip ?_
         refine sR (.bool false) (r_pick rfl rfl (fun h => by cases h) (fun _ => rfl)) ?_
         refine sR (.bool false) (r_move rfl rfl) ?_
         refine s_skip ?_
         refine s_skip ?_
         refine s_skip ?_
         refine sR (.bool false) (r_pick rfl rfl (fun h => by cases h) (fun _ => rfl)) ?_
         refine sR (.bool false) (r_assign rfl rfl) ?_
         refine HL_nil ?_
         exact HC_ret (show endQ prog f15 R .ret _ _ from ⟨_, res1 rfl (rv_tmp rfl), h⟩)
       ·
        replace hc := eq_false_of_ne_true hc; replace h := h.2 hc
        refine HL_known (t := 35) (v := .bool false) (h35.trans (congrArg Value.bool hc)) ?_
        refine kN 245 hc ?_
        refine kN 246 hc ?_
        refine kN 247 hc ?_
        refine s_skip ?_
        refine sR (.bool false) (r_pick rfl rfl (fun h => by cases h) (fun _ => rfl)) ?_
        refine sR (.bool false) (r_move rfl rfl) ?_
        refine s_skip ?_
        refine s_skip ?_
        refine sR (.bool false) (r_pick rfl rfl (fun h => by cases h) (fun _ => rfl)) ?_
        refine sR (.bool false) (r_move rfl rfl) ?_
        refine s_skip ?_
        refine s_skip ?_
        refine s_skip ?_
        refine sR (.bool false) (r_pick rfl rfl (fun h => by cases h) (fun _ => rfl)) ?_
        refine sR (.bool false) (r_assign rfl rfl) ?_
        refine HL_nil ?_
        exact HC_ret (show endQ prog f15 R .ret _ _ from ⟨_, res1 rfl (rv_tmp rfl), h⟩)
      ·
       replace hc := eq_false_of_ne_true hc; replace h := h.2 hc
       refine HL_known (t := 34) (v := .bool false) (h34.trans (congrArg Value.bool hc)) ?_
       refine kN 242 hc ?_
       refine kN 243 hc ?_
       refine kN 244 hc ?_
       refine s_skip ?_
       refine sR (.bool false) (r_pick rfl rfl (fun h => by cases h) (fun _ => rfl)) ?_
       refine sR (.bool false) (r_move rfl rfl) ?_
       refine s_skip ?_
       refine sR (.bool false) (r_pick rfl rfl (fun h => by cases h) (fun _ => rfl)) ?_
       refine sR (.bool false) (r_move rfl rfl) ?_
       refine s_skip ?_
       refine s_skip ?_
       refine sR (.bool false) (r_pick rfl rfl (fun h => by cases h) (fun _ => rfl)) ?_
       refine sR (.bool false) (r_move rfl rfl) ?_
       refine s_skip ?_
       refine s_skip ?_
       refine s_skip ?_
       refine sR (.bool false) (r_pick rfl rfl (fun h => by cases h) (fun _ => rfl)) ?_
       refine sR (.bool false) (r_assign rfl rfl) ?_
       refine HL_nil ?_
       exact HC_ret (show endQ prog f15 R .ret _ _ from ⟨_, res1 rfl (rv_tmp rfl), h⟩)
     ·
      replace hc := eq_false_of_ne_true hc; replace h := h.2 hc
      refine HL_known (t := 33) (v := .bool false) (h33.trans (congrArg Value.bool hc)) ?_
      refine kN 240 hc ?_
      refine kN 241 hc ?_
      refine s_skip ?_
      refine sR (.bool false) (r_pick rfl rfl (fun h => by cases h) (fun _ => rfl)) ?_
      refine sR (.bool false) (r_move rfl rfl) ?_
      refine s_skip ?_
      refine sR (.bool false) (r_pick rfl rfl (fun h => by cases h) (fun _ => rfl)) ?_
      refine sR (.bool false) (r_move rfl rfl) ?_
      refine s_skip ?_
      refine sR (.bool false) (r_pick rfl rfl (fun h => by cases h) (fun _ => rfl)) ?_
      refine sR (.bool false) (r_move rfl rfl) ?_
      refine s_skip ?_
      refine s_skip ?_
      refine sR (.bool false) (r_pick rfl rfl (fun h => by cases h) (fun _ => rfl)) ?_
      refine sR (.bool false) (r_move rfl rfl) ?_
      refine s_skip ?_
      refine s_skip ?_
      refine s_skip ?_
      refine sR (.bool false) (r_pick rfl rfl (fun h => by cases h) (fun _ => rfl)) ?_
      refine sR (.bool false) (r_assign rfl rfl) ?_
      refine HL_nil ?_
      exact HC_ret (show endQ prog f15 R .ret _ _ from ⟨_, res1 rfl (rv_tmp rfl), h⟩)
    ·
     skip
     refine HC_region ?_
     refine sR (.agg (#[.int .i64 0, .int .i64 0, .int .i64 0] : Array Value)) (w_buildStruct (cells := #[.int .i64 0, .int .i64 0, .int .i64 0]) underlying72 zr72 kf72 (evPN) (fillN rfl)) ?_
     obtain ⟨hz229, h⟩ := h
     refine s_ef (k_buildSlice (cells := (#[.int .i64 0, .int .i64 0, .int .i64 0] : Array Value)) underlying26 sz72 (by decide) zr72 rfl (evPC rfl evPN) (fillWhole hz229 rfl rfl) rfl ?_)
     intro b229 hf_b229
     replace h := atE (h b229 hf_b229)
     refine sR (.agg (#[(Sl.v (Sl.mk (some (Addr.mk b229 0 none)) 1 1)), (.int .i64 (2 : Int))] : Array Value)) (w_buildStruct (cells := #[(Sl.v (Sl.mk (some (Addr.mk b229 0 none)) 1 1)), (.int .i64 (2 : Int))]) underlying28 zr28 kf28 (evPC rfl (evPC rfl evPN)) (fill1 (place_of rfl rfl sz26) rfl rfl (fill1 (place_of rfl rfl sz3) rfl rfl (fillN rfl)))) ?_
     refine s_ef (k_call (vs := [(.agg (#[(Sl.v (Sl.mk (some (Addr.mk b229 0 none)) 1 1)), (.int .i64 (2 : Int))] : Array Value))]) cb23 (evC rfl evN) (h.mono ?_))
     clear h; rintro v F ⟨v_231, rfl, h⟩
     refine sR (.bool (decide (v_231 = (20 : Int)))) (w_eql rfl rfl) ?_
     refine sR (.bool (decide (v_231 = (20 : Int)))) (r_move rfl rfl) ?_
     by_cases hc : v_231 = (20 : Int)
     ·
      replace h := h.1 hc
      refine kN 232 (decide_eq_true hc) ?_
      refine kN 233 (decide_eq_true hc) ?_
      refine sR (.agg (#[.int .i64 0, .int .i64 0, (.int .i64 (1 : Int))] : Array Value)) (w_buildStruct (cells := #[.int .i64 0, .int .i64 0, (.int .i64 (1 : Int))]) underlying72 zr72 kf72 (evPC rfl evPN) (fill1 (place_of rfl rfl sz3) rfl rfl (fillN rfl))) ?_
      obtain ⟨hz235, h⟩ := h
      refine s_ef (k_buildSlice (cells := (#[.int .i64 0, .int .i64 0, (.int .i64 (1 : Int))] : Array Value)) underlying26 sz72 (by decide) zr72 rfl (evPC rfl evPN) (fillWhole hz235 rfl rfl) rfl ?_)
      intro b235 hf_b235
      replace h := atE (h b235 hf_b235)
      refine sR (.agg (#[(Sl.v (Sl.mk (some (Addr.mk b235 0 none)) 1 1)), (.int .i64 (1 : Int))] : Array Value)) (w_buildStruct (cells := #[(Sl.v (Sl.mk (some (Addr.mk b235 0 none)) 1 1)), (.int .i64 (1 : Int))]) underlying28 zr28 kf28 (evPC rfl (evPC rfl evPN)) (fill1 (place_of rfl rfl sz26) rfl rfl (fill1 (place_of rfl rfl sz3) rfl rfl (fillN rfl)))) ?_
      refine s_ef (k_call (vs := [(.agg (#[(Sl.v (Sl.mk (some (Addr.mk b235 0 none)) 1 1)), (.int .i64 (1 : Int))] : Array Value))]) cb23 (evC rfl evN) (h.mono ?_))
      clear h; rintro v F ⟨v_237, rfl, h⟩
      refine sR (.bool (decide (v_237 = (20 : Int)))) (w_eql rfl rfl) ?_
      refine sR (.bool (decide (v_237 = (20 : Int)))) (r_pick rfl rfl (fun _ => rfl) (fun h => by cases h)) ?_
      refine sR (.bool (decide (v_237 = (20 : Int)))) (r_assign rfl rfl) ?_
      refine HL_nil ?_
      show b15J4 b7 b9 codes_33 sets_34 rest_35 R _ _
      exact ⟨_, h7, h9, h33, h34, h35, rfl, h⟩
     ·
      replace h := h.2 hc
      refine kN 232 (decide_eq_false hc) ?_
      refine kN 233 (decide_eq_false hc) ?_
      refine s_skip ?_
      refine s_skip ?_
      refine s_skip ?_
      refine s_skip ?_
      refine s_skip ?_
      refine sR (.bool false) (r_pick rfl rfl (fun h => by cases h) (fun _ => rfl)) ?_
      refine sR (.bool false) (r_assign rfl rfl) ?_
      refine HL_nil ?_
      show b15J4 b7 b9 codes_33 sets_34 rest_35 R _ _
      exact ⟨_, h7, h9, h33, h34, h35, rfl, h⟩
   ·
    skip
    refine HC_region ?_
    obtain ⟨v_179, hs179, hc179, h⟩ := h
    refine sR (.agg v_179) (w_loadN h15 underlying28 rfl sz28 hs179 hc179) ?_
    refine s_ef (k_call (vs := [(.agg v_179), (.int .i64 (1 : Int)), (Sl.v Sl.nil)]) cb58 (evC rfl (evC rfl (evC rfl evN))) (h.mono ?_))
    clear h; rintro v F ⟨v_180, rfl, h⟩
    refine sR (.bool v_180) (r_move rfl rfl) ?_
    by_cases hc : v_180 = true
    ·
     replace h := h.1 hc
     refine kN 180 hc ?_
     refine kN 181 hc ?_
     obtain ⟨v_182, hs182, hc182, h⟩ := h
     refine sR (.agg v_182) (w_loadN h17 underlying28 rfl sz28 hs182 hc182) ?_
     obtain ⟨v_183, hs183, hc183, h⟩ := h
     refine sR (.agg v_183) (w_loadN h3 underlying28 rfl sz28 hs183 hc183) ?_
     refine s_ef (k_call (vs := [(.agg v_182), (.agg v_183)]) cb39 (evC rfl (evC rfl evN)) (h.mono ?_))
     clear h; rintro v F ⟨v_184, rfl, h⟩
     refine sR (.bool v_184) (r_pick rfl rfl (fun _ => rfl) (fun h => by cases h)) ?_
     refine sR (.bool v_184) (r_move rfl rfl) ?_
     by_cases hc : v_184 = true
     ·
      replace h := h.1 hc
      refine kN 184 hc ?_
      refine kN 185 hc ?_
      refine kN 186 hc ?_
      obtain ⟨v_187, hs187, hc187, h⟩ := h
      refine sR (.agg v_187) (w_loadN h19 underlying28 rfl sz28 hs187 hc187) ?_
      obtain ⟨v_188, hs188, hc188, h⟩ := h
      refine sR (.agg v_188) (w_loadN h1 underlying28 rfl sz28 hs188 hc188) ?_
      refine s_ef (k_call (vs := [(.agg v_187), (.agg v_188)]) cb39 (evC rfl (evC rfl evN)) (h.mono ?_))
      clear h; rintro v F ⟨v_189, rfl, h⟩
      refine sR (.bool v_189) (r_pick rfl rfl (fun _ => rfl) (fun h => by cases h)) ?_
      refine sR (.bool v_189) (r_move rfl rfl) ?_
      by_cases hc : v_189 = true
      ·
       replace h := h.1 hc
       refine kN 189 hc ?_
       refine kN 190 hc ?_
       refine kN 191 hc ?_
       refine sR (Sl.v v_89) (r_move rfl h21) ?_
       refine sR (.int .i64 (v_89.len : Int)) (r_lenSl rfl rfl underlying57) ?_
       refine sR (.bool (decide ((v_89.len : Int) = (1 : Int)))) (w_eql rfl rfl) ?_
       refine sR (.bool (decide ((v_89.len : Int) = (1 : Int)))) (r_pick rfl rfl (fun _ => rfl) (fun h => by cases h)) ?_
       refine sR (.bool (decide ((v_89.len : Int) = (1 : Int)))) (r_move rfl rfl) ?_
       by_cases hc : (v_89.len : Int) = (1 : Int)
       ·
        replace h := h.1 hc
        refine kN 194 (decide_eq_true hc) ?_
        refine kN 195 (decide_eq_true hc) ?_
        refine kN 196 (decide_eq_true hc) ?_
        refine sR (Sl.v v_89) (r_move rfl h21) ?_
        obtain ⟨a198_, hb198, hl198, hu198, h⟩ := h
        refine sR (.pointer (some (Addr.add a198_ (Int.toNat (0 : Int) * 1)))) (w_indexAddr rfl rfl underlying57 sz75 hb198 hl198 hu198) ?_
        obtain ⟨v_199, hc199, h⟩ := h
        refine sR (.int .u32 v_199) (r_load1 rfl rfl underlying75 rfl hc199) ?_
        refine sR (.bool (decide (v_199 = (3 : Int)))) (w_eql rfl rfl) ?_
        refine sR (.bool (decide (v_199 = (3 : Int)))) (r_pick rfl rfl (fun _ => rfl) (fun h => by cases h)) ?_
        refine sR (.bool (decide (v_199 = (3 : Int)))) (r_move rfl rfl) ?_
        by_cases hc : v_199 = (3 : Int)
        ·
         replace h := h.1 hc
         refine kN 200 (decide_eq_true hc) ?_
         refine kN 201 (decide_eq_true hc) ?_
         refine kN 202 (decide_eq_true hc) ?_
         refine sR (Sl.v v_94) (r_move rfl h23) ?_
         refine sR (.int .i64 (v_94.len : Int)) (r_lenSl rfl rfl underlying57) ?_
         refine sR (.bool (decide ((v_94.len : Int) = (1 : Int)))) (w_eql rfl rfl) ?_
         refine sR (.bool (decide ((v_94.len : Int) = (1 : Int)))) (r_pick rfl rfl (fun _ => rfl) (fun h => by cases h)) ?_
         refine sR (.bool (decide ((v_94.len : Int) = (1 : Int)))) (r_move rfl rfl) ?_
         by_cases hc : (v_94.len : Int) = (1 : Int)
         ·
          replace h := h.1 hc
          refine kN 205 (decide_eq_true hc) ?_
          refine kN 206 (decide_eq_true hc) ?_
          refine kN 207 (decide_eq_true hc) ?_
          refine sR (Sl.v v_94) (r_move rfl h23) ?_
          obtain ⟨a209_, hb209, hl209, hu209, h⟩ := h
          refine sR (.pointer (some (Addr.add a209_ (Int.toNat (0 : Int) * 1)))) (w_indexAddr rfl rfl underlying57 sz75 hb209 hl209 hu209) ?_
          obtain ⟨v_210, hc210, h⟩ := h
          refine sR (.int .u32 v_210) (r_load1 rfl rfl underlying75 rfl hc210) ?_
          refine sR (.bool (decide (v_210 = (6 : Int)))) (w_eql rfl rfl) ?_
          refine sR (.bool (decide (v_210 = (6 : Int)))) (r_pick rfl rfl (fun _ => rfl) (fun h => by cases h)) ?_
          refine sR (.bool (decide (v_210 = (6 : Int)))) (r_move rfl rfl) ?_
          by_cases hc : v_210 = (6 : Int)
          ·
           replace h := h.1 hc
           refine kN 211 (decide_eq_true hc) ?_
           refine kN 212 (decide_eq_true hc) ?_
           refine kN 213 (decide_eq_true hc) ?_
           refine sR (.int .u64 v_104) (r_move rfl h27) ?_
           refine sR (.bool (decide (v_104 = (1 : Int)))) (w_eql rfl rfl) ?_
           refine sR (.bool (decide (v_104 = (1 : Int)))) (r_pick rfl rfl (fun _ => rfl) (fun h => by cases h)) ?_
           refine sR (.bool (decide (v_104 = (1 : Int)))) (r_move rfl rfl) ?_
           by_cases hc : v_104 = (1 : Int)
           ·
            replace h := h.1 hc
            refine kN 215 (decide_eq_true hc) ?_
            refine kN 216 (decide_eq_true hc) ?_
            refine kN 217 (decide_eq_true hc) ?_
            refine sR (.int .u64 v_109) (r_move rfl h29) ?_
            refine sR (.bool (decide (v_109 = (3 : Int)))) (w_eql rfl rfl) ?_
            refine sR (.bool (decide (v_109 = (3 : Int)))) (r_pick rfl rfl (fun _ => rfl) (fun h => by cases h)) ?_
            refine sR (.bool (decide (v_109 = (3 : Int)))) (r_move rfl rfl) ?_
            by_cases hc : v_109 = (3 : Int)
            ·
             replace h := h.1 hc
             refine kN 219 (decide_eq_true hc) ?_
             refine kN 220 (decide_eq_true hc) ?_
             refine kN 221 (decide_eq_true hc) ?_
             refine sR (.int .u64 v_114) (r_move rfl h31) ?_
             refine sR (.bool (decide (v_114 = (0 : Int)))) (w_eql rfl rfl) ?_
             refine sR (.bool (decide (v_114 = (0 : Int)))) (r_pick rfl rfl (fun _ => rfl) (fun h => by cases h)) ?_
             refine sR (.bool (decide (v_114 = (0 : Int)))) (r_move rfl rfl) ?_
             by_cases hc : v_114 = (0 : Int)
             ·
              replace h := h.1 hc
              refine kN 223 (decide_eq_true hc) ?_
              refine kN 224 (decide_eq_true hc) ?_
              refine kN 225 (decide_eq_true hc) ?_
              refine sR (.bool v_114_1) (r_move rfl h32) ?_
              refine sR (.bool v_114_1) (r_pick rfl rfl (fun _ => rfl) (fun h => by cases h)) ?_
              refine sR (.bool v_114_1) (r_assign rfl rfl) ?_
              refine HL_nil ?_
              show b15J3 b7 b9 codes_33 sets_34 R _ _
              exact ⟨_, h7, h9, h33, h34, rfl, h⟩
             ·
              replace h := h.2 hc
              refine kN 223 (decide_eq_false hc) ?_
              refine kN 224 (decide_eq_false hc) ?_
              refine kN 225 (decide_eq_false hc) ?_
              refine s_skip ?_
              refine sR (.bool false) (r_pick rfl rfl (fun h => by cases h) (fun _ => rfl)) ?_
              refine sR (.bool false) (r_assign rfl rfl) ?_
              refine HL_nil ?_
              show b15J3 b7 b9 codes_33 sets_34 R _ _
              exact ⟨_, h7, h9, h33, h34, rfl, h⟩
            ·
             replace h := h.2 hc
             refine kN 219 (decide_eq_false hc) ?_
             refine kN 220 (decide_eq_false hc) ?_
             refine kN 221 (decide_eq_false hc) ?_
             refine s_skip ?_
             refine s_skip ?_
             refine sR (.bool false) (r_pick rfl rfl (fun h => by cases h) (fun _ => rfl)) ?_
             refine sR (.bool false) (r_move rfl rfl) ?_
             refine s_skip ?_
             refine sR (.bool false) (r_pick rfl rfl (fun h => by cases h) (fun _ => rfl)) ?_
             refine sR (.bool false) (r_assign rfl rfl) ?_
             refine HL_nil ?_
             show b15J3 b7 b9 codes_33 sets_34 R _ _
             exact ⟨_, h7, h9, h33, h34, rfl, h⟩
           ·
            replace h := h.2 hc
            refine kN 215 (decide_eq_false hc) ?_
            refine kN 216 (decide_eq_false hc) ?_
            refine kN 217 (decide_eq_false hc) ?_
            refine s_skip ?_
            refine s_skip ?_
            refine sR (.bool false) (r_pick rfl rfl (fun h => by cases h) (fun _ => rfl)) ?_
            refine sR (.bool false) (r_move rfl rfl) ?_
            refine s_skip ?_
            refine s_skip ?_
            refine sR (.bool false) (r_pick rfl rfl (fun h => by cases h) (fun _ => rfl)) ?_
            refine sR (.bool false) (r_move rfl rfl) ?_
            refine s_skip ?_
            refine sR (.bool false) (r_pick rfl rfl (fun h => by cases h) (fun _ => rfl)) ?_
            refine sR (.bool false) (r_assign rfl rfl) ?_
            refine HL_nil ?_
            show b15J3 b7 b9 codes_33 sets_34 R _ _
            exact ⟨_, h7, h9, h33, h34, rfl, h⟩
          ·
           replace h := h.2 hc
           refine kN 211 (decide_eq_false hc) ?_
           refine kN 212 (decide_eq_false hc) ?_
           refine kN 213 (decide_eq_false hc) ?_
           refine s_skip ?_
           refine s_skip ?_
           refine sR (.bool false) (r_pick rfl rfl (fun h => by cases h) (fun _ => rfl)) ?_
           refine sR (.bool false) (r_move rfl rfl) ?_
           refine s_skip ?_
           refine s_skip ?_
           refine sR (.bool false) (r_pick rfl rfl (fun h => by cases h) (fun _ => rfl)) ?_
           refine sR (.bool false) (r_move rfl rfl) ?_
           refine s_skip ?_
           refine s_skip ?_
           refine sR (.bool false) (r_pick rfl rfl (fun h => by cases h) (fun _ => rfl)) ?_
           refine sR (.bool false) (r_move rfl rfl) ?_
           refine s_skip ?_
           refine sR (.bool false) (r_pick rfl rfl (fun h => by cases h) (fun _ => rfl)) ?_
           refine sR (.bool false) (r_assign rfl rfl) ?_
           refine HL_nil ?_
           show b15J3 b7 b9 codes_33 sets_34 R _ _
           exact ⟨_, h7, h9, h33, h34, rfl, h⟩
         ·
          replace h := h.2 hc
          refine kN 205 (decide_eq_false hc) ?_
          refine kN 206 (decide_eq_false hc) ?_
          refine kN 207 (decide_eq_false hc) ?_
          refine s_skip ?_
          refine s_skip ?_
          refine s_skip ?_
          refine s_skip ?_
          refine sR (.bool false) (r_pick rfl rfl (fun h => by cases h) (fun _ => rfl)) ?_
          refine sR (.bool false) (r_move rfl rfl) ?_
          refine s_skip ?_
          refine s_skip ?_
          refine sR (.bool false) (r_pick rfl rfl (fun h => by cases h) (fun _ => rfl)) ?_
          refine sR (.bool false) (r_move rfl rfl) ?_
          refine s_skip ?_
          refine s_skip ?_
          refine sR (.bool false) (r_pick rfl rfl (fun h => by cases h) (fun _ => rfl)) ?_
          refine sR (.bool false) (r_move rfl rfl) ?_
          refine s_skip ?_
          refine s_skip ?_
          refine sR (.bool false) (r_pick rfl rfl (fun h => by cases h) (fun _ => rfl)) ?_
          refine sR (.bool false) (r_move rfl rfl) ?_
          refine s_skip ?_
          refine sR (.bool false) (r_pick rfl rfl (fun h => by cases h) (fun _ => rfl)) ?_
          refine sR (.bool false) (r_assign rfl rfl) ?_
          refine HL_nil ?_
          show b15J3 b7 b9 codes_33 sets_34 R _ _
          exact ⟨_, h7, h9, h33, h34, rfl, h⟩
        ·
         replace h := h.2 hc
         refine kN 200 (decide_eq_false hc) ?_
         refine kN 201 (decide_eq_false hc) ?_
         refine kN 202 (decide_eq_false hc) ?_
         refine s_skip ?_
         refine s_skip ?_
         refine s_skip ?_
         refine sR (.bool false) (r_pick rfl rfl (fun h => by cases h) (fun _ => rfl)) ?_
         refine sR (.bool false) (r_move rfl rfl) ?_
         refine s_skip ?_
         refine s_skip ?_
         refine s_skip ?_
         refine s_skip ?_
         refine sR (.bool false) (r_pick rfl rfl (fun h => by cases h) (fun _ => rfl)) ?_
         refine sR (.bool false) (r_move rfl rfl) ?_
         refine s_skip ?_
         refine s_skip ?_
         refine sR (.bool false) (r_pick rfl rfl (fun h => by cases h) (fun _ => rfl)) ?_
         refine sR (.bool false) (r_move rfl rfl) ?_
         refine s_skip ?_
         refine s_skip ?_
         refine sR (.bool false) (r_pick rfl rfl (fun h => by cases h) (fun _ => rfl)) ?_
         refine sR (.bool false) (r_move rfl rfl) ?_
         refine s_skip ?_
         refine s_skip ?_
         refine sR (.bool false) (r_pick rfl rfl (fun h => by cases h) (fun _ => rfl)) ?_
         refine sR (.bool false) (r_move rfl rfl) ?_
         refine s_skip ?_
         refine sR (.bool false) (r_pick rfl rfl (fun h => by cases h) (fun _ => rfl)) ?_
         refine sR (.bool false) (r_assign rfl rfl) ?_
         refine HL_nil ?_
         show b15J3 b7 b9 codes_33 sets_34 R _ _
         exact ⟨_, h7, h9, h33, h34, rfl, h⟩
       ·
        replace h := h.2 hc
        refine kN 194 (decide_eq_false hc) ?_
        refine kN 195 (decide_eq_false hc) ?_
        refine kN 196 (decide_eq_false hc) ?_
        refine s_skip ?_
        refine s_skip ?_
        refine s_skip ?_
        refine s_skip ?_
        refine sR (.bool false) (r_pick rfl rfl (fun h => by cases h) (fun _ => rfl)) ?_
        refine sR (.bool false) (r_move rfl rfl) ?_
        refine s_skip ?_
        refine s_skip ?_
        refine s_skip ?_
        refine sR (.bool false) (r_pick rfl rfl (fun h => by cases h) (fun _ => rfl)) ?_
        refine sR (.bool false) (r_move rfl rfl) ?_
        refine s_skip ?_
        refine s_skip ?_
        refine s_skip ?_
        refine s_skip ?_
        refine sR (.bool false) (r_pick rfl rfl (fun h => by cases h) (fun _ => rfl)) ?_
        refine sR (.bool false) (r_move rfl rfl) ?_
        refine s_skip ?_
        refine s_skip ?_
        refine sR (.bool false) (r_pick rfl rfl (fun h => by cases h) (fun _ => rfl)) ?_
        refine sR (.bool false) (r_move rfl rfl) ?_
        refine s_skip ?_
        refine s_skip ?_
        refine sR (.bool false) (r_pick rfl rfl (fun h => by cases h) (fun _ => rfl)) ?_
        refine sR (.bool false) (r_move rfl rfl) ?_
        refine s_skip ?_
        refine s_skip ?_
        refine sR (.bool false) (r_pick rfl rfl (fun h => by cases h) (fun _ => rfl)) ?_
        refine sR (.bool false) (r_move rfl rfl) ?_
        refine s_skip ?_
        refine sR (.bool false) (r_pick rfl rfl (fun h => by cases h) (fun _ => rfl)) ?_
        refine sR (.bool false) (r_assign rfl rfl) ?_
        refine HL_nil ?_
        show b15J3 b7 b9 codes_33 sets_34 R _ _
        exact ⟨_, h7, h9, h33, h34, rfl, h⟩
      ·
       replace hc := eq_false_of_ne_true hc; replace h := h.2 hc
       refine kN 189 hc ?_
       refine kN 190 hc ?_
       refine kN 191 hc ?_
       refine s_skip ?_
       refine s_skip ?_
       refine s_skip ?_
       refine sR (.bool false) (r_pick rfl rfl (fun h => by cases h) (fun _ => rfl)) ?_
       refine sR (.bool false) (r_move rfl rfl) ?_
       refine s_skip ?_
       refine s_skip ?_
       refine s_skip ?_
       refine s_skip ?_
       refine sR (.bool false) (r_pick rfl rfl (fun h => by cases h) (fun _ => rfl)) ?_
       refine sR (.bool false) (r_move rfl rfl) ?_
       refine s_skip ?_
       refine s_skip ?_
       refine s_skip ?_
       refine sR (.bool false) (r_pick rfl rfl (fun h => by cases h) (fun _ => rfl)) ?_
       refine sR (.bool false) (r_move rfl rfl) ?_
       refine s_skip ?_
       refine s_skip ?_
       refine s_skip ?_
       refine s_skip ?_
       refine sR (.bool false) (r_pick rfl rfl (fun h => by cases h) (fun _ => rfl)) ?_
       refine sR (.bool false) (r_move rfl rfl) ?_
       refine s_skip ?_
       refine s_skip ?_
       refine sR (.bool false) (r_pick rfl rfl (fun h => by cases h) (fun _ => rfl)) ?_
       refine sR (.bool false) (r_move rfl rfl) ?_
       refine s_skip ?_
       refine s_skip ?_
       refine sR (.bool false) (r_pick rfl rfl (fun h => by cases h) (fun _ => rfl)) ?_
       refine sR (.bool false) (r_move rfl rfl) ?_
       refine s_skip ?_
       refine s_skip ?_
       refine sR (.bool false) (r_pick rfl rfl (fun h => by cases h) (fun _ => rfl)) ?_
       refine sR (.bool false) (r_move rfl rfl) ?_
       refine s_skip ?_
       refine sR (.bool false) (r_pick rfl rfl (fun h => by cases h) (fun _ => rfl)) ?_
       refine sR (.bool false) (r_assign rfl rfl) ?_
       refine HL_nil ?_
       show b15J3 b7 b9 codes_33 sets_34 R _ _
       exact ⟨_, h7, h9, h33, h34, rfl, h⟩
     ·
      replace hc := eq_false_of_ne_true hc; replace h := h.2 hc
      refine kN 184 hc ?_
      refine kN 185 hc ?_
      refine kN 186 hc ?_
      refine s_skip ?_
      refine s_skip ?_
      refine s_skip ?_
      refine sR (.bool false) (r_pick rfl rfl (fun h => by cases h) (fun _ => rfl)) ?_
      refine sR (.bool false) (r_move rfl rfl) ?_
      refine s_skip ?_
      refine s_skip ?_
      refine s_skip ?_
      refine sR (.bool false) (r_pick rfl rfl (fun h => by cases h) (fun _ => rfl)) ?_
      refine sR (.bool false) (r_move rfl rfl) ?_
      refine s_skip ?_
      refine s_skip ?_
      refine s_skip ?_
      refine s_skip ?_
      refine sR (.bool false) (r_pick rfl rfl (fun h => by cases h) (fun _ => rfl)) ?_
      refine sR (.bool false) (r_move rfl rfl) ?_
      refine s_skip ?_
      refine s_skip ?_
      refine s_skip ?_
      refine sR (.bool false) (r_pick rfl rfl (fun h => by cases h) (fun _ => rfl)) ?_
      refine sR (.bool false) (r_move rfl rfl) ?_
      refine s_skip ?_
      refine s_skip ?_
      refine s_skip ?_
      refine s_skip ?_
      refine sR (.bool false) (r_pick rfl rfl (fun h => by cases h) (fun _ => rfl)) ?_
      refine sR (.bool false) (r_move rfl rfl) ?_
      refine s_skip ?_
      refine s_skip ?_
      refine sR (.bool false) (r_pick rfl rfl (fun h => by cases h) (fun _ => rfl)) ?_
      refine sR (.bool false) (r_move rfl rfl) ?_
      refine s_skip ?_
      refine s_skip ?_
      refine sR (.bool false) (r_pick rfl rfl (fun h => by cases h) (fun _ => rfl)) ?_
      refine sR (.bool false) (r_move rfl rfl) ?_
      refine s_skip ?_
      refine s_skip ?_
      refine sR (.bool false) (r_pick rfl rfl (fun h => by cases h) (fun _ => rfl)) ?_
      refine sR (.bool false) (r_move rfl rfl) ?_
      refine s_skip ?_
      refine sR (.bool false) (r_pick rfl rfl (fun h => by cases h) (fun _ => rfl)) ?_
      refine sR (.bool false) (r_assign rfl rfl) ?_
      refine HL_nil ?_
      show b15J3 b7 b9 codes_33 sets_34 R _ _
      exact ⟨_, h7, h9, h33, h34, rfl, h⟩
    ·
     replace hc := eq_false_of_ne_true hc; replace h := h.2 hc
     refine kN 180 hc ?_
     refine kN 181 hc ?_
     refine s_skip ?_
     refine s_skip ?_
     refine s_skip ?_
     refine sR (.bool false) (r_pick rfl rfl (fun h => by cases h) (fun _ => rfl)) ?_
     refine sR (.bool false) (r_move rfl rfl) ?_
     refine s_skip ?_
     refine s_skip ?_
     refine s_skip ?_
     refine sR (.bool false) (r_pick rfl rfl (fun h => by cases h) (fun _ => rfl)) ?_
     refine sR (.bool false) (r_move rfl rfl) ?_
     refine s_skip ?_
     refine s_skip ?_
     refine s_skip ?_
     refine sR (.bool false) (r_pick rfl rfl (fun h => by cases h) (fun _ => rfl)) ?_
     refine sR (.bool false) (r_move rfl rfl) ?_
     refine s_skip ?_
     refine s_skip ?_
     refine s_skip ?_
     refine s_skip ?_
     refine sR (.bool false) (r_pick rfl rfl (fun h => by cases h) (fun _ => rfl)) ?_
     refine sR (.bool false) (r_move rfl rfl) ?_
     refine s_skip ?_
     refine s_skip ?_
     refine s_skip ?_
     refine sR (.bool false) (r_pick rfl rfl (fun h => by cases h) (fun _ => rfl)) ?_
     refine sR (.bool false) (r_move rfl rfl) ?_
     refine s_skip ?_
     refine s_skip ?_
     refine s_skip ?_
     refine s_skip ?_
     refine sR (.bool false) (r_pick rfl rfl (fun h => by cases h) (fun _ => rfl)) ?_
     refine sR (.bool false) (r_move rfl rfl) ?_
     refine s_skip ?_
     refine s_skip ?_
     refine sR (.bool false) (r_pick rfl rfl (fun h => by cases h) (fun _ => rfl)) ?_
     refine sR (.bool false) (r_move rfl rfl) ?_
     refine s_skip ?_
     refine s_skip ?_
     refine sR (.bool false) (r_pick rfl rfl (fun h => by cases h) (fun _ => rfl)) ?_
     refine sR (.bool false) (r_move rfl rfl) ?_
     refine s_skip ?_
     refine s_skip ?_
     refine sR (.bool false) (r_pick rfl rfl (fun h => by cases h) (fun _ => rfl)) ?_
     refine sR (.bool false) (r_move rfl rfl) ?_
     refine s_skip ?_
     refine sR (.bool false) (r_pick rfl rfl (fun h => by cases h) (fun _ => rfl)) ?_
     refine sR (.bool false) (r_assign rfl rfl) ?_
     refine HL_nil ?_
     show b15J3 b7 b9 codes_33 sets_34 R _ _
     exact ⟨_, h7, h9, h33, h34, rfl, h⟩
  ·
   skip
   refine HC_region ?_
   obtain ⟨v_147, hs147, hc147, h⟩ := h
   refine sR (.agg v_147) (w_loadN h1 underlying28 rfl sz28 hs147 hc147) ?_
   refine sR (.agg (#[.int .i64 0, .int .i64 0, (.int .i64 (1 : Int))] : Array Value)) (w_buildStruct (cells := #[.int .i64 0, .int .i64 0, (.int .i64 (1 : Int))]) underlying72 zr72 kf72 (evPC rfl evPN) (fill1 (place_of rfl rfl sz3) rfl rfl (fillN rfl))) ?_
   obtain ⟨hz149, h⟩ := h
   refine s_ef (k_buildSlice (cells := (#[.int .i64 0, .int .i64 0, (.int .i64 (1 : Int))] : Array Value)) underlying26 sz72 (by decide) zr72 rfl (evPC rfl evPN) (fillWhole hz149 rfl rfl) rfl ?_)
   intro b149 hf_b149
   replace h := atE (h b149 hf_b149)
   refine s_ef (k_call (vs := [(.agg v_147), (.int .i64 (2 : Int)), (Sl.v (Sl.mk (some (Addr.mk b149 0 none)) 1 1))]) cb58 (evC rfl (evC rfl (evC rfl evN))) (h.mono ?_))
   clear h; rintro v F ⟨v_150, rfl, h⟩
   refine sR (.bool v_150) (r_move rfl rfl) ?_
   by_cases hc : v_150 = true
   ·
    replace h := h.1 hc
    refine kN 150 hc ?_
    refine kN 151 hc ?_
    obtain ⟨v_152, hs152, hc152, h⟩ := h
    refine sR (.agg v_152) (w_loadN h13 underlying28 rfl sz28 hs152 hc152) ?_
    refine sR (.agg (#[.int .i64 0, (.int .i64 (1 : Int)), .int .i64 0] : Array Value)) (w_buildStruct (cells := #[.int .i64 0, (.int .i64 (1 : Int)), .int .i64 0]) underlying72 zr72 kf72 (evPC rfl evPN) (fill1 (place_of rfl rfl sz3) rfl rfl (fillN rfl))) ?_
    obtain ⟨hz154, h⟩ := h
    refine s_ef (k_buildSlice (cells := (#[.int .i64 0, (.int .i64 (1 : Int)), .int .i64 0] : Array Value)) underlying26 sz72 (by decide) zr72 rfl (evPC rfl evPN) (fillWhole hz154 rfl rfl) rfl ?_)
    intro b154 hf_b154
    replace h := atE (h b154 hf_b154)
    refine s_ef (k_call (vs := [(.agg v_152), (.int .i64 (2 : Int)), (Sl.v (Sl.mk (some (Addr.mk b154 0 none)) 1 1))]) cb58 (evC rfl (evC rfl (evC rfl evN))) (h.mono ?_))
    clear h; rintro v F ⟨v_155, rfl, h⟩
    refine sR (.bool v_155) (r_pick rfl rfl (fun _ => rfl) (fun h => by cases h)) ?_
    refine sR (.bool v_155) (r_move rfl rfl) ?_
    by_cases hc : v_155 = true
    ·
     replace h := h.1 hc
     refine kN 155 hc ?_
     refine kN 156 hc ?_
     refine kN 157 hc ?_
     obtain ⟨v_158, hs158, hc158, h⟩ := h
     refine sR (.agg v_158) (w_loadN h7 underlying28 rfl sz28 hs158 hc158) ?_
     refine sR (.agg (#[(.int .i64 (1 : Int)), .int .i64 0, (.int .i64 (1 : Int))] : Array Value)) (w_buildStruct (cells := #[(.int .i64 (1 : Int)), .int .i64 0, (.int .i64 (1 : Int))]) underlying72 zr72 kf72 (evPC rfl (evPC rfl evPN)) (fill1 (place_of rfl rfl sz3) rfl rfl (fill1 (place_of rfl rfl sz3) rfl rfl (fillN rfl)))) ?_
     refine sR (.agg (#[.int .i64 0, .int .i64 0, (.int .i64 (2 : Int))] : Array Value)) (w_buildStruct (cells := #[.int .i64 0, .int .i64 0, (.int .i64 (2 : Int))]) underlying72 zr72 kf72 (evPC rfl evPN) (fill1 (place_of rfl rfl sz3) rfl rfl (fillN rfl))) ?_
     obtain ⟨hz161_0, hz161_1, h⟩ := h
     refine s_ef (k_buildSlice (cells := (wr (wr (#[.int .i64 0, .int .i64 0, .int .i64 0, .int .i64 0, .int .i64 0, .int .i64 0] : Array Value) 0 (#[(.int .i64 (1 : Int)), .int .i64 0, (.int .i64 (1 : Int))] : Array Value).toList) 3 (#[.int .i64 0, .int .i64 0, (.int .i64 (2 : Int))] : Array Value).toList)) underlying26 sz72 (by decide) zr72 ((zc_flat _ rfl _).trans (rfl : _ = (#[.int .i64 0, .int .i64 0, .int .i64 0, .int .i64 0, .int .i64 0, .int .i64 0] : Array Value))) (evPC rfl (evPC rfl evPN)) (fillA rfl hz161_0 (by first | rfl | (simp only [wr_size, Array.size_setIfInBounds]; rfl)) (fillA rfl hz161_1 (by first | rfl | (simp only [wr_size, Array.size_setIfInBounds]; rfl)) (fillN rfl))) rfl ?_)
     intro b161 hf_b161
     replace h := atE (h b161 hf_b161)
     refine s_ef (k_call (vs := [(.agg v_158), (.int .i64 (3 : Int)), (Sl.v (Sl.mk (some (Addr.mk b161 0 none)) 2 2))]) cb58 (evC rfl (evC rfl (evC rfl evN))) (h.mono ?_))
     clear h; rintro v F ⟨v_162, rfl, h⟩
     refine sR (.bool v_162) (r_pick rfl rfl (fun _ => rfl) (fun h => by cases h)) ?_
     refine sR (.bool v_162) (r_move rfl rfl) ?_
     by_cases hc : v_162 = true
     ·
      replace h := h.1 hc
      refine kN 162 hc ?_
      refine kN 163 hc ?_
      refine kN 164 hc ?_
      obtain ⟨v_165, hs165, hc165, h⟩ := h
      refine sR (.agg v_165) (w_loadN h9 underlying28 rfl sz28 hs165 hc165) ?_
      refine sR (.agg (#[(.int .i64 (1 : Int)), .int .i64 0, (.int .i64 (1 : Int))] : Array Value)) (w_buildStruct (cells := #[(.int .i64 (1 : Int)), .int .i64 0, (.int .i64 (1 : Int))]) underlying72 zr72 kf72 (evPC rfl (evPC rfl evPN)) (fill1 (place_of rfl rfl sz3) rfl rfl (fill1 (place_of rfl rfl sz3) rfl rfl (fillN rfl)))) ?_
      refine sR (.agg (#[.int .i64 0, (.int .i64 (2 : Int)), (.int .i64 (1 : Int))] : Array Value)) (w_buildStruct (cells := #[.int .i64 0, (.int .i64 (2 : Int)), (.int .i64 (1 : Int))]) underlying72 zr72 kf72 (evPC rfl (evPC rfl evPN)) (fill1 (place_of rfl rfl sz3) rfl rfl (fill1 (place_of rfl rfl sz3) rfl rfl (fillN rfl)))) ?_
      obtain ⟨hz168_0, hz168_1, h⟩ := h
      refine s_ef (k_buildSlice (cells := (wr (wr (#[.int .i64 0, .int .i64 0, .int .i64 0, .int .i64 0, .int .i64 0, .int .i64 0] : Array Value) 0 (#[(.int .i64 (1 : Int)), .int .i64 0, (.int .i64 (1 : Int))] : Array Value).toList) 3 (#[.int .i64 0, (.int .i64 (2 : Int)), (.int .i64 (1 : Int))] : Array Value).toList)) underlying26 sz72 (by decide) zr72 ((zc_flat _ rfl _).trans (rfl : _ = (#[.int .i64 0, .int .i64 0, .int .i64 0, .int .i64 0, .int .i64 0, .int .i64 0] : Array Value))) (evPC rfl (evPC rfl evPN)) (fillA rfl hz168_0 (by first | rfl | (simp only [wr_size, Array.size_setIfInBounds]; rfl)) (fillA rfl hz168_1 (by first | rfl | (simp only [wr_size, Array.size_setIfInBounds]; rfl)) (fillN rfl))) rfl ?_)
      intro b168 hf_b168
      replace h := atE (h b168 hf_b168)
      refine s_ef (k_call (vs := [(.agg v_165), (.int .i64 (3 : Int)), (Sl.v (Sl.mk (some (Addr.mk b168 0 none)) 2 2))]) cb58 (evC rfl (evC rfl (evC rfl evN))) (h.mono ?_))
      clear h; rintro v F ⟨v_169, rfl, h⟩
      refine sR (.bool v_169) (r_pick rfl rfl (fun _ => rfl) (fun h => by cases h)) ?_
      refine sR (.bool v_169) (r_move rfl rfl) ?_
      by_cases hc : v_169 = true
      ·
       replace h := h.1 hc
       refine kN 169 hc ?_
       refine kN 170 hc ?_
       refine kN 171 hc ?_
       obtain ⟨v_172, hs172, hc172, h⟩ := h
       refine sR (.agg v_172) (w_loadN h11 underlying28 rfl sz28 hs172 hc172) ?_
       refine sR (.agg (#[(.int .i64 (1 : Int)), .int .i64 0, (.int .i64 (1 : Int))] : Array Value)) (w_buildStruct (cells := #[(.int .i64 (1 : Int)), .int .i64 0, (.int .i64 (1 : Int))]) underlying72 zr72 kf72 (evPC rfl (evPC rfl evPN)) (fill1 (place_of rfl rfl sz3) rfl rfl (fill1 (place_of rfl rfl sz3) rfl rfl (fillN rfl)))) ?_
       refine sR (.agg (#[(.int .i64 (1 : Int)), (.int .i64 (1 : Int)), .int .i64 0] : Array Value)) (w_buildStruct (cells := #[(.int .i64 (1 : Int)), (.int .i64 (1 : Int)), .int .i64 0]) underlying72 zr72 kf72 (evPC rfl (evPC rfl evPN)) (fill1 (place_of rfl rfl sz3) rfl rfl (fill1 (place_of rfl rfl sz3) rfl rfl (fillN rfl)))) ?_
       refine sR (.agg (#[.int .i64 0, (.int .i64 (2 : Int)), (.int .i64 (3 : Int))] : Array Value)) (w_buildStruct (cells := #[.int .i64 0, (.int .i64 (2 : Int)), (.int .i64 (3 : Int))]) underlying72 zr72 kf72 (evPC rfl (evPC rfl evPN)) (fill1 (place_of rfl rfl sz3) rfl rfl (fill1 (place_of rfl rfl sz3) rfl rfl (fillN rfl)))) ?_
       obtain ⟨hz176_0, hz176_1, hz176_2, h⟩ := h
       refine s_ef (k_buildSlice (cells := (wr (wr (wr (#[.int .i64 0, .int .i64 0, .int .i64 0, .int .i64 0, .int .i64 0, .int .i64 0, .int .i64 0, .int .i64 0, .int .i64 0] : Array Value) 0 (#[(.int .i64 (1 : Int)), .int .i64 0, (.int .i64 (1 : Int))] : Array Value).toList) 3 (#[(.int .i64 (1 : Int)), (.int .i64 (1 : Int)), .int .i64 0] : Array Value).toList) 6 (#[.int .i64 0, (.int .i64 (2 : Int)), (.int .i64 (3 : Int))] : Array Value).toList)) underlying26 sz72 (by decide) zr72 ((zc_flat _ rfl _).trans (rfl : _ = (#[.int .i64 0, .int .i64 0, .int .i64 0, .int .i64 0, .int .i64 0, .int .i64 0, .int .i64 0, .int .i64 0, .int .i64 0] : Array Value))) (evPC rfl (evPC rfl (evPC rfl evPN))) (fillA rfl hz176_0 (by first | rfl | (simp only [wr_size, Array.size_setIfInBounds]; rfl)) (fillA rfl hz176_1 (by first | rfl | (simp only [wr_size, Array.size_setIfInBounds]; rfl)) (fillA rfl hz176_2 (by first | rfl | (simp only [wr_size, Array.size_setIfInBounds]; rfl)) (fillN rfl)))) rfl ?_)
       intro b176 hf_b176
       replace h := atE (h b176 hf_b176)
       refine s_ef (k_call (vs := [(.agg v_172), (.int .i64 (4 : Int)), (Sl.v (Sl.mk (some (Addr.mk b176 0 none)) 3 3))]) cb58 (evC rfl (evC rfl (evC rfl evN))) (h.mono ?_))
       clear h; rintro v F ⟨v_177, rfl, h⟩
       refine sR (.bool v_177) (r_pick rfl rfl (fun _ => rfl) (fun h => by cases h)) ?_
       refine sR (.bool v_177) (r_assign rfl rfl) ?_
       refine HL_nil ?_
       show b15J2 b1 b3 b7 b9 b15 b17 b19 v_89 v_94 v_104 v_109 v_114 v_114_1 codes_33 R _ _
       exact ⟨_, h1, h3, h7, h9, h15, h17, h19, h21, h23, h27, h29, h31, h32, h33, rfl, h⟩
      ·
       replace hc := eq_false_of_ne_true hc; replace h := h.2 hc
       refine kN 169 hc ?_
       refine kN 170 hc ?_
       refine kN 171 hc ?_
       refine s_skip ?_
       refine s_skip ?_
       refine s_skip ?_
       refine s_skip ?_
       refine s_skip ?_
       refine s_skip ?_
       refine sR (.bool false) (r_pick rfl rfl (fun h => by cases h) (fun _ => rfl)) ?_
       refine sR (.bool false) (r_assign rfl rfl) ?_
       refine HL_nil ?_
       show b15J2 b1 b3 b7 b9 b15 b17 b19 v_89 v_94 v_104 v_109 v_114 v_114_1 codes_33 R _ _
       exact ⟨_, h1, h3, h7, h9, h15, h17, h19, h21, h23, h27, h29, h31, h32, h33, rfl, h⟩
     ·
      replace hc := eq_false_of_ne_true hc; replace h := h.2 hc
      refine kN 162 hc ?_
      refine kN 163 hc ?_
      refine kN 164 hc ?_
      refine s_skip ?_
      refine s_skip ?_
      refine s_skip ?_
      refine s_skip ?_
      refine s_skip ?_
      refine sR (.bool false) (r_pick rfl rfl (fun h => by cases h) (fun _ => rfl)) ?_
      refine sR (.bool false) (r_move rfl rfl) ?_
      refine s_skip ?_
      refine s_skip ?_
      refine s_skip ?_
      refine s_skip ?_
      refine s_skip ?_
      refine s_skip ?_
      refine sR (.bool false) (r_pick rfl rfl (fun h => by cases h) (fun _ => rfl)) ?_
      refine sR (.bool false) (r_assign rfl rfl) ?_
      refine HL_nil ?_
      show b15J2 b1 b3 b7 b9 b15 b17 b19 v_89 v_94 v_104 v_109 v_114 v_114_1 codes_33 R _ _
      exact ⟨_, h1, h3, h7, h9, h15, h17, h19, h21, h23, h27, h29, h31, h32, h33, rfl, h⟩
    ·
     replace hc := eq_false_of_ne_true hc; replace h := h.2 hc
     refine kN 155 hc ?_
     refine kN 156 hc ?_
     refine kN 157 hc ?_
     refine s_skip ?_
     refine s_skip ?_
     refine s_skip ?_
     refine s_skip ?_
     refine s_skip ?_
     refine sR (.bool false) (r_pick rfl rfl (fun h => by cases h) (fun _ => rfl)) ?_
     refine sR (.bool false) (r_move rfl rfl) ?_
     refine s_skip ?_
     refine s_skip ?_
     refine s_skip ?_
     refine s_skip ?_
     refine s_skip ?_
     refine sR (.bool false) (r_pick rfl rfl (fun h => by cases h) (fun _ => rfl)) ?_
     refine sR (.bool false) (r_move rfl rfl) ?_
     refine s_skip ?_
     refine s_skip ?_
     refine s_skip ?_
     refine s_skip ?_
     refine s_skip ?_
     refine s_skip ?_
     refine sR (.bool false) (r_pick rfl rfl (fun h => by cases h) (fun _ => rfl)) ?_
     refine sR (.bool false) (r_assign rfl rfl) ?_
     refine HL_nil ?_
     show b15J2 b1 b3 b7 b9 b15 b17 b19 v_89 v_94 v_104 v_109 v_114 v_114_1 codes_33 R _ _
     exact ⟨_, h1, h3, h7, h9, h15, h17, h19, h21, h23, h27, h29, h31, h32, h33, rfl, h⟩
   ·
    replace hc := eq_false_of_ne_true hc; replace h := h.2 hc
    refine kN 150 hc ?_
    refine kN 151 hc ?_
    refine s_skip ?_
    refine s_skip ?_
    refine s_skip ?_
    refine s_skip ?_
    refine sR (.bool false) (r_pick rfl rfl (fun h => by cases h) (fun _ => rfl)) ?_
    refine sR (.bool false) (r_move rfl rfl) ?_
    refine s_skip ?_
    refine s_skip ?_
    refine s_skip ?_
    refine s_skip ?_
    refine s_skip ?_
    refine sR (.bool false) (r_pick rfl rfl (fun h => by cases h) (fun _ => rfl)) ?_
    refine sR (.bool false) (r_move rfl rfl) ?_
    refine s_skip ?_
    refine s_skip ?_
    refine s_skip ?_
    refine s_skip ?_
    refine s_skip ?_
    refine sR (.bool false) (r_pick rfl rfl (fun h => by cases h) (fun _ => rfl)) ?_
    refine sR (.bool false) (r_move rfl rfl) ?_
    refine s_skip ?_
    refine s_skip ?_
    refine s_skip ?_
    refine s_skip ?_
    refine s_skip ?_
    refine s_skip ?_
    refine sR (.bool false) (r_pick rfl rfl (fun h => by cases h) (fun _ => rfl)) ?_
    refine sR (.bool false) (r_assign rfl rfl) ?_
    refine HL_nil ?_
    show b15J2 b1 b3 b7 b9 b15 b17 b19 v_89 v_94 v_104 v_109 v_114 v_114_1 codes_33 R _ _
    exact ⟨_, h1, h3, h7, h9, h15, h17, h19, h21, h23, h27, h29, h31, h32, h33, rfl, h⟩
 ·
  skip
  refine HC_region ?_
  refine sR (.int .i64 v_38_1) (r_move rfl rfl) ?_
  refine sR (.bool (decide (v_38_1 = (0 : Int)))) (w_eql rfl rfl) ?_
  refine sR (.bool (decide (v_38_1 = (0 : Int)))) (r_move rfl rfl) ?_
  by_cases hc : v_38_1 = (0 : Int)
  ·
   replace h := h.1 hc
   refine kN 118 (decide_eq_true hc) ?_
   refine kN 119 (decide_eq_true hc) ?_
   refine sR (.int .i64 v_42_1) (r_move rfl rfl) ?_
   refine sR (.bool (decide (v_42_1 = (0 : Int)))) (w_eql rfl rfl) ?_
   refine sR (.bool (decide (v_42_1 = (0 : Int)))) (r_pick rfl rfl (fun _ => rfl) (fun h => by cases h)) ?_
   refine sR (.bool (decide (v_42_1 = (0 : Int)))) (r_move rfl rfl) ?_
   by_cases hc : v_42_1 = (0 : Int)
   ·
    replace h := h.1 hc
    refine kN 121 (decide_eq_true hc) ?_
    refine kN 122 (decide_eq_true hc) ?_
    refine kN 123 (decide_eq_true hc) ?_
    refine sR (.int .i64 v_46_1) (r_move rfl rfl) ?_
    refine sR (.bool (decide (v_46_1 = (1 : Int)))) (w_eql rfl rfl) ?_
    refine sR (.bool (decide (v_46_1 = (1 : Int)))) (r_pick rfl rfl (fun _ => rfl) (fun h => by cases h)) ?_
    refine sR (.bool (decide (v_46_1 = (1 : Int)))) (r_move rfl rfl) ?_
    by_cases hc : v_46_1 = (1 : Int)
    ·
     replace h := h.1 hc
     refine kN 125 (decide_eq_true hc) ?_
     refine kN 126 (decide_eq_true hc) ?_
     refine kN 127 (decide_eq_true hc) ?_
     refine sR (.int .i64 v_52_1) (r_move rfl rfl) ?_
     refine sR (.bool (decide (v_52_1 = (0 : Int)))) (w_eql rfl rfl) ?_
     refine sR (.bool (decide (v_52_1 = (0 : Int)))) (r_pick rfl rfl (fun _ => rfl) (fun h => by cases h)) ?_
     refine sR (.bool (decide (v_52_1 = (0 : Int)))) (r_move rfl rfl) ?_
     by_cases hc : v_52_1 = (0 : Int)
     ·
      replace h := h.1 hc
      refine kN 129 (decide_eq_true hc) ?_
      refine kN 130 (decide_eq_true hc) ?_
      refine kN 131 (decide_eq_true hc) ?_
      refine sR (.int .i64 v_58_1) (r_move rfl rfl) ?_
      refine sR (.bool (decide (v_58_1 = (0 : Int)))) (w_eql rfl rfl) ?_
      refine sR (.bool (decide (v_58_1 = (0 : Int)))) (r_pick rfl rfl (fun _ => rfl) (fun h => by cases h)) ?_
      refine sR (.bool (decide (v_58_1 = (0 : Int)))) (r_move rfl rfl) ?_
      by_cases hc : v_58_1 = (0 : Int)
      ·
       replace h := h.1 hc
       refine kN 133 (decide_eq_true hc) ?_
       refine kN 134 (decide_eq_true hc) ?_
       refine kN 135 (decide_eq_true hc) ?_
       refine sR (.int .i64 v_64_1) (r_move rfl rfl) ?_
       refine sR (.bool (decide (v_64_1 = (0 : Int)))) (w_eql rfl rfl) ?_
       refine sR (.bool (decide (v_64_1 = (0 : Int)))) (r_pick rfl rfl (fun _ => rfl) (fun h => by cases h)) ?_
       refine sR (.bool (decide (v_64_1 = (0 : Int)))) (r_move rfl rfl) ?_
       by_cases hc : v_64_1 = (0 : Int)
       ·
        replace h := h.1 hc
        refine kN 137 (decide_eq_true hc) ?_
        refine kN 138 (decide_eq_true hc) ?_
        refine kN 139 (decide_eq_true hc) ?_
        refine sR (.int .i64 v_69_1) (r_move rfl rfl) ?_
        refine sR (.bool (decide (v_69_1 = (0 : Int)))) (w_eql rfl rfl) ?_
        refine sR (.bool (decide (v_69_1 = (0 : Int)))) (r_pick rfl rfl (fun _ => rfl) (fun h => by cases h)) ?_
        refine sR (.bool (decide (v_69_1 = (0 : Int)))) (r_move rfl rfl) ?_
        by_cases hc : v_69_1 = (0 : Int)
        ·
         replace h := h.1 hc
         refine kN 141 (decide_eq_true hc) ?_
         refine kN 142 (decide_eq_true hc) ?_
         refine kN 143 (decide_eq_true hc) ?_
         refine sR (.int .i64 v_99_1) (r_move rfl rfl) ?_
         refine sR (.bool (decide (v_99_1 = (1 : Int)))) (w_eql rfl rfl) ?_
         refine sR (.bool (decide (v_99_1 = (1 : Int)))) (r_pick rfl rfl (fun _ => rfl) (fun h => by cases h)) ?_
         refine sR (.bool (decide (v_99_1 = (1 : Int)))) (r_assign rfl rfl) ?_
         refine HL_nil ?_
         show b15J1 b1 b3 b7 b9 b11 b13 b15 b17 b19 v_89 v_94 v_104 v_109 v_114 v_114_1 R _ _
         exact ⟨_, rfl, rfl, rfl, rfl, rfl, rfl, rfl, rfl, rfl, rfl, rfl, rfl, rfl, rfl, rfl, rfl, h⟩
        ·
         replace h := h.2 hc
         refine kN 141 (decide_eq_false hc) ?_
         refine kN 142 (decide_eq_false hc) ?_
         refine kN 143 (decide_eq_false hc) ?_
         refine s_skip ?_
         refine s_skip ?_
         refine sR (.bool false) (r_pick rfl rfl (fun h => by cases h) (fun _ => rfl)) ?_
         refine sR (.bool false) (r_assign rfl rfl) ?_
         refine HL_nil ?_
         show b15J1 b1 b3 b7 b9 b11 b13 b15 b17 b19 v_89 v_94 v_104 v_109 v_114 v_114_1 R _ _
         exact ⟨_, rfl, rfl, rfl, rfl, rfl, rfl, rfl, rfl, rfl, rfl, rfl, rfl, rfl, rfl, rfl, rfl, h⟩
       ·
        replace h := h.2 hc
        refine kN 137 (decide_eq_false hc) ?_
        refine kN 138 (decide_eq_false hc) ?_
        refine kN 139 (decide_eq_false hc) ?_
        refine s_skip ?_
        refine s_skip ?_
        refine sR (.bool false) (r_pick rfl rfl (fun h => by cases h) (fun _ => rfl)) ?_
        refine sR (.bool false) (r_move rfl rfl) ?_
        refine s_skip ?_
        refine s_skip ?_
        refine sR (.bool false) (r_pick rfl rfl (fun h => by cases h) (fun _ => rfl)) ?_
        refine sR (.bool false) (r_assign rfl rfl) ?_
        refine HL_nil ?_
        show b15J1 b1 b3 b7 b9 b11 b13 b15 b17 b19 v_89 v_94 v_104 v_109 v_114 v_114_1 R _ _
        exact ⟨_, rfl, rfl, rfl, rfl, rfl, rfl, rfl, rfl, rfl, rfl, rfl, rfl, rfl, rfl, rfl, rfl, h⟩
      ·
       replace h := h.2 hc
       refine kN 133 (decide_eq_false hc) ?_
       refine kN 134 (decide_eq_false hc) ?_
       refine kN 135 (decide_eq_false hc) ?_
       refine s_skip ?_
       refine s_skip ?_
       refine sR (.bool false) (r_pick rfl rfl (fun h => by cases h) (fun _ => rfl)) ?_
       refine sR (.bool false) (r_move rfl rfl) ?_
       refine s_skip ?_
       refine s_skip ?_
       refine sR (.bool false) (r_pick rfl rfl (fun h => by cases h) (fun _ => rfl)) ?_
       refine sR (.bool false) (r_move rfl rfl) ?_
       refine s_skip ?_
       refine s_skip ?_
       refine sR (.bool false) (r_pick rfl rfl (fun h => by cases h) (fun _ => rfl)) ?_
       refine sR (.bool false) (r_assign rfl rfl) ?_
       refine HL_nil ?_
       show b15J1 b1 b3 b7 b9 b11 b13 b15 b17 b19 v_89 v_94 v_104 v_109 v_114 v_114_1 R _ _
       exact ⟨_, rfl, rfl, rfl, rfl, rfl, rfl, rfl, rfl, rfl, rfl, rfl, rfl, rfl, rfl, rfl, rfl, h⟩
     ·
      replace h := h.2 hc
      refine kN 129 (decide_eq_false hc) ?_
      refine kN 130 (decide_eq_false hc) ?_
      refine kN 131 (decide_eq_false hc) ?_
      refine s_skip ?_
      refine s_skip ?_
      refine sR (.bool false) (r_pick rfl rfl (fun h => by cases h) (fun _ => rfl)) ?_
      refine sR (.bool false) (r_move rfl rfl) ?_
      refine s_skip ?_
      refine s_skip ?_
      refine sR (.bool false) (r_pick rfl rfl (fun h => by cases h) (fun _ => rfl)) ?_
      refine sR (.bool false) (r_move rfl rfl) ?_
      refine s_skip ?_
      refine s_skip ?_
      refine sR (.bool false) (r_pick rfl rfl (fun h => by cases h) (fun _ => rfl)) ?_
      refine sR (.bool false) (r_move rfl rfl) ?_
      refine s_skip ?_
      refine s_skip ?_
      refine sR (.bool false) (r_pick rfl rfl (fun h => by cases h) (fun _ => rfl)) ?_
      refine sR (.bool false) (r_assign rfl rfl) ?_
      refine HL_nil ?_
      show b15J1 b1 b3 b7 b9 b11 b13 b15 b17 b19 v_89 v_94 v_104 v_109 v_114 v_114_1 R _ _
      exact ⟨_, rfl, rfl, rfl, rfl, rfl, rfl, rfl, rfl, rfl, rfl, rfl, rfl, rfl, rfl, rfl, rfl, h⟩
    ·
     replace h := h.2 hc
     refine kN 125 (decide_eq_false hc) ?_
     refine kN 126 (decide_eq_false hc) ?_
     refine kN 127 (decide_eq_false hc) ?_
     refine s_skip ?_
     refine s_skip ?_
     refine sR (.bool false) (r_pick rfl rfl (fun h => by cases h) (fun _ => rfl)) ?_
     refine sR (.bool false) (r_move rfl rfl) ?_
     refine s_skip ?_
     refine s_skip ?_
     refine sR (.bool false) (r_pick rfl rfl (fun h => by cases h) (fun _ => rfl)) ?_
     refine sR (.bool false) (r_move rfl rfl) ?_
     refine s_skip ?_
     refine s_skip ?_
     refine sR (.bool false) (r_pick rfl rfl (fun h => by cases h) (fun _ => rfl)) ?_
     refine sR (.bool false) (r_move rfl rfl) ?_
     refine s_skip ?_
     refine s_skip ?_
     refine sR (.bool false) (r_pick rfl rfl (fun h => by cases h) (fun _ => rfl)) ?_
     refine sR (.bool false) (r_move rfl rfl) ?_
     refine s_skip ?_
     refine s_skip ?_
     refine sR (.bool false) (r_pick rfl rfl (fun h => by cases h) (fun _ => rfl)) ?_
     refine sR (.bool false) (r_assign rfl rfl) ?_
     refine HL_nil ?_
     show b15J1 b1 b3 b7 b9 b11 b13 b15 b17 b19 v_89 v_94 v_104 v_109 v_114 v_114_1 R _ _
     exact ⟨_, rfl, rfl, rfl, rfl, rfl, rfl, rfl, rfl, rfl, rfl, rfl, rfl, rfl, rfl, rfl, rfl, h⟩
   ·
    replace h := h.2 hc
    refine kN 121 (decide_eq_false hc) ?_
    refine kN 122 (decide_eq_false hc) ?_
    refine kN 123 (decide_eq_false hc) ?_
    refine s_skip ?_
    refine s_skip ?_
    refine sR (.bool false) (r_pick rfl rfl (fun h => by cases h) (fun _ => rfl)) ?_
    refine sR (.bool false) (r_move rfl rfl) ?_
    refine s_skip ?_
    refine s_skip ?_
    refine sR (.bool false) (r_pick rfl rfl (fun h => by cases h) (fun _ => rfl)) ?_
    refine sR (.bool false) (r_move rfl rfl) ?_
    refine s_skip ?_
    refine s_skip ?_
    refine sR (.bool false) (r_pick rfl rfl (fun h => by cases h) (fun _ => rfl)) ?_
    refine sR (.bool false) (r_move rfl rfl) ?_
    refine s_skip ?_
    refine s_skip ?_
    refine sR (.bool false) (r_pick rfl rfl (fun h => by cases h) (fun _ => rfl)) ?_
    refine sR (.bool false) (r_move rfl rfl) ?_
    refine s_skip ?_
    refine s_skip ?_
    refine sR (.bool false) (r_pick rfl rfl (fun h => by cases h) (fun _ => rfl)) ?_
    refine sR (.bool false) (r_move rfl rfl) ?_
    refine s_skip ?_
    refine s_skip ?_
    refine sR (.bool false) (r_pick rfl rfl (fun h => by cases h) (fun _ => rfl)) ?_
    refine sR (.bool false) (r_assign rfl rfl) ?_
    refine HL_nil ?_
    show b15J1 b1 b3 b7 b9 b11 b13 b15 b17 b19 v_89 v_94 v_104 v_109 v_114 v_114_1 R _ _
    exact ⟨_, rfl, rfl, rfl, rfl, rfl, rfl, rfl, rfl, rfl, rfl, rfl, rfl, rfl, rfl, rfl, rfl, h⟩
  ·
   replace h := h.2 hc
   refine kN 118 (decide_eq_false hc) ?_
   refine kN 119 (decide_eq_false hc) ?_
   refine s_skip ?_
   refine s_skip ?_
   refine sR (.bool false) (r_pick rfl rfl (fun h => by cases h) (fun _ => rfl)) ?_
   refine sR (.bool false) (r_move rfl rfl) ?_
   refine s_skip ?_
   refine s_skip ?_
   refine sR (.bool false) (r_pick rfl rfl (fun h => by cases h) (fun _ => rfl)) ?_
   refine sR (.bool false) (r_move rfl rfl) ?_
   refine s_skip ?_
   refine s_skip ?_
   refine sR (.bool false) (r_pick rfl rfl (fun h => by cases h) (fun _ => rfl)) ?_
   refine sR (.bool false) (r_move rfl rfl) ?_
   refine s_skip ?_
   refine s_skip ?_
   refine sR (.bool false) (r_pick rfl rfl (fun h => by cases h) (fun _ => rfl)) ?_
   refine sR (.bool false) (r_move rfl rfl) ?_
   refine s_skip ?_
   refine s_skip ?_
   refine sR (.bool false) (r_pick rfl rfl (fun h => by cases h) (fun _ => rfl)) ?_
   refine sR (.bool false) (r_move rfl rfl) ?_
   refine s_skip ?_
   refine s_skip ?_
   refine sR (.bool false) (r_pick rfl rfl (fun h => by cases h) (fun _ => rfl)) ?_
   refine sR (.bool false) (r_move rfl rfl) ?_
   refine s_skip ?_
   refine s_skip ?_
   refine sR (.bool false) (r_pick rfl rfl (fun h => by cases h) (fun _ => rfl)) ?_
   refine sR (.bool false) (r_assign rfl rfl) ?_
   refine HL_nil ?_
   show b15J1 b1 b3 b7 b9 b11 b13 b15 b17 b19 v_89 v_94 v_104 v_109 v_114 v_114_1 R _ _
   exact ⟨_, rfl, rfl, rfl, rfl, rfl, rfl, rfl, rfl, rfl, rfl, rfl, rfl, rfl, rfl, rfl, rfl, h⟩

/- 16 koine.koinelaw02.made -/
def b16 (s_0 : Array Value) (R : Value → PH → Prop) (F : PH) : Prop :=
 ∀ b1, F b1 = none → atF (F.set b1 (.cells s_0 24)) fun F =>
 ∀ b2, F b2 = none → atF (F.set b2 (.cells (#[.slice none 0 0, .int .i64 0]) 28)) fun F =>
 ∃ v_4 : Sl, F.cell (Addr.mk b1 0 none) = some (Sl.v v_4) ∧
 ∃ v_5 : Array Value, v_5.size = 2 ∧ F.row (Addr.mk b1 0 none) v_5 ∧
 Spec prog 18 #[(.agg v_5)] F fun v F => ∃ v_6 : Int, v = (.int .i64 v_6) ∧
 F.cell (Addr.mk b1 0 none) = some (Sl.v v_4) ∧ Spec prog 59 #[(Sl.v v_4), (.int .i64 v_6)] F fun v F => ∃ v_7 : Array Value, v = (.agg v_7) ∧
 v_7.size = 2 ∧ (∀ v ∈ v_7.toList, storable v) ∧ ∃ c e, F (Addr.mk b2 0 none).block = some (.cells c e (0, 0)) ∧ (Addr.mk b2 0 none).spot = none ∧ (Addr.mk b2 0 none).off + 2 ≤ c.size ∧
 atF (F.set (Addr.mk b2 0 none).block (.cells (wr c (Addr.mk b2 0 none).off v_7.toList) e)) fun F =>
 ∃ vres_2 : Array Value, vres_2.size = 2 ∧ F.row (Addr.mk b2 0 none) vres_2 ∧ R (.agg vres_2) F
theorem c16 {s_0 : Array Value} {R : Value → PH → Prop} {F : PH} (h : b16 s_0 R F) : Spec prog 16 #[(.agg s_0)] F R := by
 refine spec_of (args := [(.agg s_0)]) func16 rfl ntmps16 rfl ?_
 unfold b16 at h
 refine cR ?_
 refine s_ef (k_box (cs := s_0) rfl rfl ?_)
 intro b1 hf_b1
 replace h := atE (h b1 hf_b1)
 refine s_ef (k_alloc zr28 ?_)
 intro b2 hf_b2
 replace h := atE (h b2 hf_b2)
 refine HL_nil ?_
 refine HC_seq ?_
 refine HC_draw0 (by kernel_rfl) (fun hp => ?_)
 refine gU 0 (.pointer (some (Addr.mk b1 0 none))) rfl (fun _ => w_fieldAddr (a' := (Addr.mk b1 0 none)) rfl underlying24 rfl rfl sz22 rfl rfl) hp ?_
 obtain ⟨v_4, hc4, h⟩ := h
 refine gR 1 (Sl.v v_4) rfl (r_load1 rfl rfl underlying22 rfl hc4) hp (fun S1 q1 => ?_)
 replace hp := holdC (i := 1) (q1 _ (r_load1 rfl rfl underlying22 rfl hc4)) hp
 obtain ⟨v_5, hs5, hc5, h⟩ := h
 refine gR 2 (.agg v_5) rfl (w_loadN rfl underlying24 rfl sz24 hs5 hc5) hp (fun S2 q2 => ?_)
 replace hp := holdC (i := 2) (q2 _ (w_loadN rfl underlying24 rfl sz24 hs5 hc5)) hp
 refine RG_eff1 (i := 3) (by kernel_rfl) (g_op (Sp' := [(1, S1)]) rfl rfl (k_call (vs := [(.agg v_5)]) cb18 (evC rfl evN) (h.mono ?_)))
 clear h; rintro v F ⟨v_6, rfl, h⟩
 obtain ⟨hk_2, h⟩ := h
 refine holdI (holdC (i := 1) (q1 _ (r_load1 rfl rfl underlying22 rfl hk_2)) hold0) (fun hp => ?_)
 refine RG_eff1 (i := 4) (by kernel_rfl) (g_op (Sp' := []) rfl rfl (k_call (vs := [(Sl.v v_4), (.int .i64 v_6)]) cb59 (evC rfl (evC rfl evN)) (h.mono ?_)))
 clear h; rintro v F ⟨v_7, rfl, h⟩
 refine holdI hold0 (fun hp => ?_)
 refine RG_eff1 (i := 5) (by kernel_rfl) (g_op0 (Sp' := []) rfl rfl (k_storeN (vs := v_7) rfl rfl sz28 (by decide) ?_))
 obtain ⟨hz1, hz2, c, e, hz3, hz4, hz5, h⟩ := h
 refine ⟨hz1, hz2, c, e, hz3, hz4, hz5, ?_⟩
 replace h := atE h
 refine holdI hold0 (fun hp => ?_)
 refine RG_done (by kernel_rfl) ?_
 obtain ⟨vres_2, hs2, hr2, h⟩ := h
 exact HC_ret (show endQ prog f16 R .ret _ _ from ⟨_, res1 rfl (rv_cellN rfl underlying28 rfl sz28 hs2 hr2), h⟩)

/- 18 koine.koinelaw02.size -/
def b18 (s_0 : Array Value) (R : Value → PH → Prop) (F : PH) : Prop :=
 ∀ b1, F b1 = none → atF (F.set b1 (.cells s_0 24)) fun F =>
 ∃ v_4 : Int, F.cell (Addr.mk b1 1 none) = some (.int .u8 v_4) ∧
 R (.int .i64 (IntKind.i64.wrap (Int.tmod v_4 (7 : Int)))) F
theorem c18 {s_0 : Array Value} {R : Value → PH → Prop} {F : PH} (h : b18 s_0 R F) : Spec prog 18 #[(.agg s_0)] F R := by
 refine spec_of (args := [(.agg s_0)]) func18 rfl ntmps18 rfl ?_
 unfold b18 at h
 refine cR ?_
 refine s_ef (k_box (cs := s_0) rfl rfl ?_)
 intro b1 hf_b1
 replace h := atE (h b1 hf_b1)
 refine sR (.int .i64 (0 : Int)) (r_assign rfl rfl) ?_
 refine HL_nil ?_
 refine cR ?_
 refine sR (.pointer (some (Addr.mk b1 1 none))) (w_fieldAddr (a' := (Addr.mk b1 1 none)) rfl underlying24 rfl rfl sz5 rfl rfl) ?_
 obtain ⟨v_4, hc4, h⟩ := h
 refine sR (.int .u8 v_4) (r_load1 rfl rfl underlying5 rfl hc4) ?_
 refine sR (.int .u8 (Int.tmod v_4 (7 : Int))) (r_rem rfl rfl rfl (by decide)) ?_
 refine sR (.int .i64 (IntKind.i64.wrap (Int.tmod v_4 (7 : Int)))) (r_convInt rfl rfl underlying5 underlying3) ?_
 refine sR (.int .i64 (IntKind.i64.wrap (Int.tmod v_4 (7 : Int)))) (r_assign rfl rfl) ?_
 refine HL_nil ?_
 exact HC_ret (show endQ prog f18 R .ret _ _ from ⟨_, res1 rfl (rv_tmp rfl), h⟩)

/- 20 koine.koinelaw02.literal -/
def b20j1 (b4 : Nat) (b5 : Nat) (R : Value → PH → Prop) (F : PH) : Prop :=
 ∃ v_19 : Array Value, v_19.size = 2 ∧ F.row (Addr.mk b5 0 none) v_19 ∧
 v_19.size = 2 ∧ (∀ v ∈ v_19.toList, storable v) ∧ ∃ c e, F (Addr.mk b4 0 none).block = some (.cells c e (0, 0)) ∧ (Addr.mk b4 0 none).spot = none ∧ (Addr.mk b4 0 none).off + 2 ≤ c.size ∧
 atF (F.set (Addr.mk b4 0 none).block (.cells (wr c (Addr.mk b4 0 none).off v_19.toList) e)) fun F =>
 ∃ vres_4 : Array Value, vres_4.size = 2 ∧ F.row (Addr.mk b4 0 none) vres_4 ∧ R (.agg vres_4) F
abbrev b20J1 (b4 : Nat) (b5 : Nat) (R : Value → PH → Prop) (E : En) (F : PH) : Prop := E 4 = (.pointer (some (Addr.mk b4 0 none))) ∧ E 5 = (.pointer (some (Addr.mk b5 0 none))) ∧ b20j1 b4 b5 R F
def b20 (v_0 : Int) (value_1 : Bool) (R : Value → PH → Prop) (F : PH) : Prop :=
 ∀ b4, F b4 = none → atF (F.set b4 (.cells (#[.slice none 0 0, .int .i64 0]) 28)) fun F =>
 Spec prog 30 #[(.int .i64 v_0)] F fun v F => ∃ v_9 : Array Value, ∃ v_9_1 : Int, v = (.tuple #[(.agg v_9), (.int .i64 v_9_1)]) ∧
 ∀ b5, F b5 = none → atF (F.set b5 (.cells (#[.slice none 0 0, .int .i64 0]) 28)) fun F =>
 v_9.size = 2 ∧ (∀ v ∈ v_9.toList, storable v) ∧ ∃ c e, F (Addr.mk b5 0 none).block = some (.cells c e (0, 0)) ∧ (Addr.mk b5 0 none).spot = none ∧ (Addr.mk b5 0 none).off + 2 ≤ c.size ∧
 atF (F.set (Addr.mk b5 0 none).block (.cells (wr c (Addr.mk b5 0 none).off v_9.toList) e)) fun F =>
 (((!value_1) = true →
  ∃ v_15 : Array Value, v_15.size = 2 ∧ F.row (Addr.mk b5 0 none) v_15 ∧
  Spec prog 25 #[(.agg v_15)] F fun v F => ∃ v_16 : Array Value, ∃ v_16_1 : Int, v = (.tuple #[(.agg v_16), (.int .i64 v_16_1)]) ∧
  v_16.size = 2 ∧ (∀ v ∈ v_16.toList, storable v) ∧ ∃ c e, F (Addr.mk b5 0 none).block = some (.cells c e (0, 0)) ∧ (Addr.mk b5 0 none).spot = none ∧ (Addr.mk b5 0 none).off + 2 ≤ c.size ∧
  atF (F.set (Addr.mk b5 0 none).block (.cells (wr c (Addr.mk b5 0 none).off v_16.toList) e)) fun F =>
  b20j1 b4 b5 R F) ∧
 ((!value_1) = false →
  b20j1 b4 b5 R F))
theorem c20 {v_0 : Int} {value_1 : Bool} {R : Value → PH → Prop} {F : PH} (h : b20 v_0 value_1 R F) : Spec prog 20 #[(.int .i64 v_0), (.bool value_1)] F R := by
 refine spec_of (args := [(.int .i64 v_0), (.bool value_1)]) func20 rfl ntmps20 rfl ?_
 unfold b20 at h
 refine cR ?_
 refine s_ef (k_alloc zr28 ?_)
 intro b4 hf_b4
 replace h := atE (h b4 hf_b4)
 refine HL_nil ?_
 refine cR ?_
 refine sR (.int .i64 v_0) (r_move rfl rfl) ?_
 refine s_ef (k_call (vs := [(.int .i64 v_0)]) cb30 (evC rfl evN) (h.mono ?_))
 clear h; rintro v F ⟨v_9, v_9_1, rfl, h⟩
 refine sR (.tuple #[(.agg v_9), (.int .i64 v_9_1)]) (r_move rfl rfl) ?_
 refine sR (.agg v_9) (r_extract rfl rfl rfl) ?_
 refine sR (.int .i64 v_9_1) (r_extract rfl rfl rfl) ?_
 refine s_ef (k_alloc zr28 ?_)
 intro b5 hf_b5
 replace h := atE (h b5 hf_b5)
 refine s_ef0 (k_storeN (vs := v_9) rfl rfl sz28 (by decide) ?_)
 obtain ⟨hz1, hz2, c, e, hz3, hz4, hz5, h⟩ := h
 refine ⟨hz1, hz2, c, e, hz3, hz4, hz5, ?_⟩
 replace h := atE h
 refine sR (.int .i64 v_9_1) (r_assign rfl rfl) ?_
 refine HL_nil ?_
 refine HC_seqJ (b20J1 b4 b5 R) ?_ ?_
 ·
  clear h; rintro E F ⟨h4, h5, h⟩
  unfold b20j1 at h
  refine cR ?_
  obtain ⟨v_19, hs19, hc19, h⟩ := h
  refine sR (.agg v_19) (w_loadN h5 underlying28 rfl sz28 hs19 hc19) ?_
  refine s_ef0 (k_storeN (vs := v_19) h4 rfl sz28 (by decide) ?_)
  obtain ⟨hz1, hz2, c, e, hz3, hz4, hz5, h⟩ := h
  refine ⟨hz1, hz2, c, e, hz3, hz4, hz5, ?_⟩
  replace h := atE h
  refine HL_nil ?_
  obtain ⟨vres_4, hs4, hr4, h⟩ := h
  exact HC_ret (show endQ prog f20 R .ret _ _ from ⟨_, res1 rfl (rv_cellN h4 underlying28 rfl sz28 hs4 hr4), h⟩)
 ·
  skip
  refine cR ?_
  refine sR (.bool value_1) (r_move rfl rfl) ?_
  refine sR (.bool (!value_1)) (r_not rfl rfl) ?_
  refine HL_nil ?_
  refine HC_cond (t := (!value_1)) rfl (fun hc => ?_) (fun hc => ?_)
  ·
   replace h := h.1 hc
   clear hc
   refine HC_region ?_
   obtain ⟨v_15, hs15, hc15, h⟩ := h
   refine sR (.agg v_15) (w_loadN rfl underlying28 rfl sz28 hs15 hc15) ?_
   refine s_ef (k_call (vs := [(.agg v_15)]) cb25 (evC rfl evN) (h.mono ?_))
   clear h; rintro v F ⟨v_16, v_16_1, rfl, h⟩
   refine sR (.tuple #[(.agg v_16), (.int .i64 v_16_1)]) (r_move rfl rfl) ?_
   refine sR (.agg v_16) (r_extract rfl rfl rfl) ?_
   refine sR (.int .i64 v_16_1) (r_extract rfl rfl rfl) ?_
   refine s_ef0 (k_storeN (vs := v_16) rfl rfl sz28 (by decide) ?_)
   obtain ⟨hz1, hz2, c, e, hz3, hz4, hz5, h⟩ := h
   refine ⟨hz1, hz2, c, e, hz3, hz4, hz5, ?_⟩
   replace h := atE h
   refine HL_nil ?_
   show b20J1 b4 b5 R _ _
   exact ⟨rfl, rfl, h⟩
  ·
   replace h := h.2 hc
   clear hc
   refine HC_skip ?_
   show b20J1 b4 b5 R _ _
   exact ⟨rfl, rfl, h⟩

/- 58 koine.koinelaw02.is -/
def b58 (d_0 : Array Value) (root_1 : Int) (l_2 : Sl) (R : Value → PH → Prop) (F : PH) : Prop :=
 ∀ b3, F b3 = none → atF (F.set b3 (.cells d_0 28)) fun F =>
 ∃ v_7 : Array Value, v_7.size = 2 ∧ F.row (Addr.mk b3 0 none) v_7 ∧
 Spec prog 39 #[(.agg v_7), (.agg (#[(Sl.v l_2), (.int .i64 root_1)] : Array Value))] F fun v F => ∃ v_11 : Bool, v = (.bool v_11) ∧
 R (.bool v_11) F
theorem c58 {d_0 : Array Value} {root_1 : Int} {l_2 : Sl} {R : Value → PH → Prop} {F : PH} (h : b58 d_0 root_1 l_2 R F) : Spec prog 58 #[(.agg d_0), (.int .i64 root_1), (Sl.v l_2)] F R := by
 refine spec_of (args := [(.agg d_0), (.int .i64 root_1), (Sl.v l_2)]) func58 rfl ntmps58 rfl ?_
 unfold b58 at h
 refine cR ?_
 refine s_ef (k_box (cs := d_0) rfl rfl ?_)
 intro b3 hf_b3
 replace h := atE (h b3 hf_b3)
 refine sR (.bool false) (r_assign rfl rfl) ?_
 refine HL_nil ?_
 refine cR ?_
 obtain ⟨v_7, hs7, hc7, h⟩ := h
 refine sR (.agg v_7) (w_loadN rfl underlying28 rfl sz28 hs7 hc7) ?_
 refine sR (Sl.v l_2) (r_move rfl rfl) ?_
 refine sR (.int .i64 root_1) (r_move rfl rfl) ?_
 refine sR (.agg (#[(Sl.v l_2), (.int .i64 root_1)] : Array Value)) (w_buildStruct (cells := #[(Sl.v l_2), (.int .i64 root_1)]) underlying28 zr28 kf28 (evPC rfl (evPC rfl evPN)) (fill1 (place_of rfl rfl sz26) rfl rfl (fill1 (place_of rfl rfl sz3) rfl rfl (fillN rfl)))) ?_
 refine s_ef (k_call (vs := [(.agg v_7), (.agg (#[(Sl.v l_2), (.int .i64 root_1)] : Array Value))]) cb39 (evC rfl (evC rfl evN)) (h.mono ?_))
 clear h; rintro v F ⟨v_11, rfl, h⟩
 refine sR (.bool v_11) (r_assign rfl rfl) ?_
 refine HL_nil ?_
 exact HC_ret (show endQ prog f58 R .ret _ _ from ⟨_, res1 rfl (rv_tmp rfl), h⟩)

/- 36 koine.koinelaw02.few -/
def b36 (d_0 : Array Value) (R : Value → PH → Prop) (F : PH) : Prop :=
 ∀ b1, F b1 = none → atF (F.set b1 (.cells d_0 28)) fun F =>
 ∃ v_4 : Sl, F.cell (Addr.mk b1 0 none) = some (Sl.v v_4) ∧
 R (.bool (decide ((v_4.len : Int) ≤ (40 : Int)))) F
theorem c36 {d_0 : Array Value} {R : Value → PH → Prop} {F : PH} (h : b36 d_0 R F) : Spec prog 36 #[(.agg d_0)] F R := by
 refine spec_of (args := [(.agg d_0)]) func36 rfl ntmps36 rfl ?_
 unfold b36 at h
 refine cR ?_
 refine s_ef (k_box (cs := d_0) rfl rfl ?_)
 intro b1 hf_b1
 replace h := atE (h b1 hf_b1)
 refine sR (.bool false) (r_assign rfl rfl) ?_
 refine HL_nil ?_
 refine cR ?_
 refine sR (.pointer (some (Addr.mk b1 0 none))) (w_fieldAddr (a' := (Addr.mk b1 0 none)) rfl underlying28 rfl rfl sz26 rfl rfl) ?_
 obtain ⟨v_4, hc4, h⟩ := h
 refine sR (Sl.v v_4) (r_load1 rfl rfl underlying26 rfl hc4) ?_
 refine sR (.int .i64 (v_4.len : Int)) (r_lenSl rfl rfl underlying26) ?_
 refine sR (.bool (decide ((v_4.len : Int) ≤ (40 : Int)))) (r_leq rfl rfl rfl) ?_
 refine sR (.bool (decide ((v_4.len : Int) ≤ (40 : Int)))) (r_assign rfl rfl) ?_
 refine HL_nil ?_
 exact HC_ret (show endQ prog f36 R .ret _ _ from ⟨_, res1 rfl (rv_tmp rfl), h⟩)

/- 53 koine.koinelaw02.sameNat -/
def b53j1 (R : Value → PH → Prop) (F : PH) : Prop :=
 R (.bool true) F
abbrev b53J1 (R : Value → PH → Prop) (E : En) (F : PH) : Prop := b53j1 R F
def b53L1 (N1 : Int → PH → Prop) (a_0 : Sl) (b_1 : Sl) (R : Value → PH → Prop) (i_5 : Int) (F : PH) : Prop :=
 ((i_5 < (a_0.len : Int) →
  ∃ a19_ : Addr, a_0.base = some a19_ ∧ 0 ≤ i_5 ∧ i_5 < (a_0.len : Int) ∧
  ∃ v_20 : Int, F.cell (Addr.add a19_ (Int.toNat i_5 * 1)) = some (.int .u32 v_20) ∧
  ∃ a23_ : Addr, b_1.base = some a23_ ∧ 0 ≤ i_5 ∧ i_5 < (b_1.len : Int) ∧
  ∃ v_24 : Int, F.cell (Addr.add a23_ (Int.toNat i_5 * 1)) = some (.int .u32 v_24) ∧
  ((v_20 ≠ v_24 →
   R (.bool false) F) ∧
  (¬ (v_20 ≠ v_24) →
   N1 (IntKind.i64.wrap (i_5 + (1 : Int))) F))) ∧
 (¬ (i_5 < (a_0.len : Int)) →
  b53j1 R F))
def b53 (a_0 : Sl) (b_1 : Sl) (R : Value → PH → Prop) (F : PH) : Prop :=
 (((a_0.len : Int) ≠ (b_1.len : Int) →
  R (.bool false) F) ∧
 (¬ ((a_0.len : Int) ≠ (b_1.len : Int)) →
  (∃ (I1 : Nat → Int → PH → Prop) (m1 : Nat), I1 m1 (0 : Int) F ∧ ∀ m1 i_5 F, I1 m1 i_5 F →
   b53L1 (fun i_5 F => ∃ m', m' < m1 ∧ I1 m' i_5 F) a_0 b_1 R i_5 F)))
theorem c53 {a_0 : Sl} {b_1 : Sl} {R : Value → PH → Prop} {F : PH} (h : b53 a_0 b_1 R F) : Spec prog 53 #[(Sl.v a_0), (Sl.v b_1)] F R := by
 refine spec_of (args := [(Sl.v a_0), (Sl.v b_1)]) func53 rfl ntmps53 rfl ?_
 unfold b53 at h
 refine cR ?_
 refine sR (.bool false) (r_assign rfl rfl) ?_
 refine HL_nil ?_
 refine HC_seq ?_
 refine cR ?_
 refine sR (Sl.v a_0) (r_move rfl rfl) ?_
 refine sR (.int .i64 (a_0.len : Int)) (r_lenSl rfl rfl underlying57) ?_
 refine sR (Sl.v b_1) (r_move rfl rfl) ?_
 refine sR (.int .i64 (b_1.len : Int)) (r_lenSl rfl rfl underlying57) ?_
 refine sR (.bool (decide ((a_0.len : Int) ≠ (b_1.len : Int)))) (w_neq rfl rfl) ?_
 refine HL_nil ?_
 refine HC_cond (t := (decide ((a_0.len : Int) ≠ (b_1.len : Int)))) rfl (fun hc => ?_) (fun hc => ?_)
 ·
  replace h := h.1 (of_decide_eq_true hc)
  clear hc
  refine cR ?_
  refine sR (.bool false) (r_assign rfl rfl) ?_
  refine HL_nil ?_
  exact HC_ret (show endQ prog f53 R .ret _ _ from ⟨_, res1 rfl (rv_tmp rfl), h⟩)
 ·
  replace h := h.2 (of_decide_eq_false hc)
  clear hc
  refine HC_skip ?_
  refine HC_seqJ (b53J1 R) ?_ ?_
  ·
   clear h; rintro E F h
   unfold b53J1 at h; unfold b53j1 at h
   refine cR ?_
   refine sR (.bool true) (r_assign rfl rfl) ?_
   refine HL_nil ?_
   exact HC_ret (show endQ prog f53 R .ret _ _ from ⟨_, res1 rfl (rv_tmp rfl), h⟩)
  ·
   skip
   refine cR ?_
   refine sR (.int .i64 (0 : Int)) (r_assign rfl rfl) ?_
   refine HL_nil ?_
   refine HC_block ?_
   obtain ⟨I1, m1, hI0, hr⟩ := h
   refine HC_loop (fun m1 E F => ∃ i_5 : Int, E 0 = (Sl.v a_0) ∧ E 1 = (Sl.v b_1) ∧ E 5 = (.int .i64 i_5) ∧ I1 m1 i_5 F) m1 ⟨_, rfl, rfl, rfl, hI0⟩ ?_
   clear hI0; rintro m1 E F ⟨i_5, h0, h1, h5, hI⟩
   have h := hr m1 i_5 F hI
   clear hr hI
   unfold b53L1 at h
   refine HC_seq ?_
   refine cR ?_
   refine sR (.int .i64 i_5) (r_move rfl h5) ?_
   refine sR (Sl.v a_0) (r_move rfl h0) ?_
   refine sR (.int .i64 (a_0.len : Int)) (r_lenSl rfl rfl underlying57) ?_
   refine sR (.bool (decide (i_5 < (a_0.len : Int)))) (r_lss rfl rfl rfl) ?_
   refine HL_nil ?_
   refine HC_cond (t := (decide (i_5 < (a_0.len : Int)))) rfl (fun hc => ?_) (fun hc => ?_)
   ·
    replace h := h.1 (of_decide_eq_true hc)
    clear hc
    refine HC_skip ?_
    refine HC_seq ?_
    refine HC_block ?_
    refine HC_seq ?_
    refine HC_draw0 (by kernel_rfl) (fun hp => ?_)
    refine gU 0 (Sl.v a_0) rfl (fun _ => r_move rfl h0) hp ?_
    refine gU 1 (.int .i64 i_5) rfl (fun _ => r_move rfl h5) hp ?_
    obtain ⟨a19_, hb19, hl19, hu19, h⟩ := h
    refine gU 2 (.pointer (some (Addr.add a19_ (Int.toNat i_5 * 1)))) rfl (fun _ => w_indexAddr rfl rfl underlying57 sz75 hb19 hl19 hu19) hp ?_
    obtain ⟨v_20, hc20, h⟩ := h
    refine gR 3 (.int .u32 v_20) rfl (r_load1 rfl rfl underlying75 rfl hc20) hp (fun S3 q3 => ?_)
    replace hp := holdC (i := 3) (q3 _ (r_load1 rfl rfl underlying75 rfl hc20)) hp
    refine gU 4 (Sl.v b_1) rfl (fun _ => r_move rfl h1) hp ?_
    refine gU 5 (.int .i64 i_5) rfl (fun _ => r_move rfl h5) hp ?_
    obtain ⟨a23_, hb23, hl23, hu23, h⟩ := h
    refine gU 6 (.pointer (some (Addr.add a23_ (Int.toNat i_5 * 1)))) rfl (fun _ => w_indexAddr rfl rfl underlying57 sz75 hb23 hl23 hu23) hp ?_
    obtain ⟨v_24, hc24, h⟩ := h
    refine gR 7 (.int .u32 v_24) rfl (r_load1 rfl rfl underlying75 rfl hc24) hp (fun S7 q7 => ?_)
    replace hp := holdC (i := 7) (q7 _ (r_load1 rfl rfl underlying75 rfl hc24)) hp
    refine gU 8 (.bool (decide (v_20 ≠ v_24))) rfl (fun _ => w_neq rfl rfl) hp ?_
    refine RG_done (by kernel_rfl) ?_
    refine HC_cond (t := (decide (v_20 ≠ v_24))) rfl (fun hc => ?_) (fun hc => ?_)
    ·
     replace h := h.1 (of_decide_eq_true hc)
     clear hc
     refine cR ?_
     refine sR (.bool false) (r_assign rfl rfl) ?_
     refine HL_nil ?_
     exact HC_ret (show endQ prog f53 R .ret _ _ from ⟨_, res1 rfl (rv_tmp rfl), h⟩)
    ·
     replace h := h.2 (of_decide_eq_false hc)
     clear hc
     refine HC_skip ?_
     refine HC_region ?_
     refine sR (.int .i64 i_5) (r_move rfl h5) ?_
     refine sR (.int .i64 (IntKind.i64.wrap (i_5 + (1 : Int)))) (r_add rfl rfl rfl) ?_
     refine sR (.int .i64 (IntKind.i64.wrap (i_5 + (1 : Int)))) (r_assign rfl rfl) ?_
     refine HL_nil ?_
     obtain ⟨m', hm, h⟩ := h
     exact ⟨m', hm, _, h0, h1, rfl, h⟩
   ·
    replace h := h.2 (of_decide_eq_false hc)
    clear hc
    refine HC_exit ?_
    exact h

/- 55 koine.koinelaw02.sameInts -/
def b55j1 (R : Value → PH → Prop) (F : PH) : Prop :=
 R (.bool true) F
abbrev b55J1 (R : Value → PH → Prop) (E : En) (F : PH) : Prop := b55j1 R F
def b55L1 (N1 : Int → PH → Prop) (a_0 : Sl) (b_1 : Sl) (R : Value → PH → Prop) (i_5 : Int) (F : PH) : Prop :=
 ((i_5 < (a_0.len : Int) →
  ∃ a19_ : Addr, a_0.base = some a19_ ∧ 0 ≤ i_5 ∧ i_5 < (a_0.len : Int) ∧
  ∃ v_20 : Int, F.cell (Addr.add a19_ (Int.toNat i_5 * 1)) = some (.int .i64 v_20) ∧
  ∃ a23_ : Addr, b_1.base = some a23_ ∧ 0 ≤ i_5 ∧ i_5 < (b_1.len : Int) ∧
  ∃ v_24 : Int, F.cell (Addr.add a23_ (Int.toNat i_5 * 1)) = some (.int .i64 v_24) ∧
  ((v_20 ≠ v_24 →
   R (.bool false) F) ∧
  (¬ (v_20 ≠ v_24) →
   N1 (IntKind.i64.wrap (i_5 + (1 : Int))) F))) ∧
 (¬ (i_5 < (a_0.len : Int)) →
  b55j1 R F))
def b55 (a_0 : Sl) (b_1 : Sl) (R : Value → PH → Prop) (F : PH) : Prop :=
 (((a_0.len : Int) ≠ (b_1.len : Int) →
  R (.bool false) F) ∧
 (¬ ((a_0.len : Int) ≠ (b_1.len : Int)) →
  (∃ (I1 : Nat → Int → PH → Prop) (m1 : Nat), I1 m1 (0 : Int) F ∧ ∀ m1 i_5 F, I1 m1 i_5 F →
   b55L1 (fun i_5 F => ∃ m', m' < m1 ∧ I1 m' i_5 F) a_0 b_1 R i_5 F)))
theorem c55 {a_0 : Sl} {b_1 : Sl} {R : Value → PH → Prop} {F : PH} (h : b55 a_0 b_1 R F) : Spec prog 55 #[(Sl.v a_0), (Sl.v b_1)] F R := by
 refine spec_of (args := [(Sl.v a_0), (Sl.v b_1)]) func55 rfl ntmps55 rfl ?_
 unfold b55 at h
 refine cR ?_
 refine sR (.bool false) (r_assign rfl rfl) ?_
 refine HL_nil ?_
 refine HC_seq ?_
 refine cR ?_
 refine sR (Sl.v a_0) (r_move rfl rfl) ?_
 refine sR (.int .i64 (a_0.len : Int)) (r_lenSl rfl rfl underlying68) ?_
 refine sR (Sl.v b_1) (r_move rfl rfl) ?_
 refine sR (.int .i64 (b_1.len : Int)) (r_lenSl rfl rfl underlying68) ?_
 refine sR (.bool (decide ((a_0.len : Int) ≠ (b_1.len : Int)))) (w_neq rfl rfl) ?_
 refine HL_nil ?_
 refine HC_cond (t := (decide ((a_0.len : Int) ≠ (b_1.len : Int)))) rfl (fun hc => ?_) (fun hc => ?_)
 ·
  replace h := h.1 (of_decide_eq_true hc)
  clear hc
  refine cR ?_
  refine sR (.bool false) (r_assign rfl rfl) ?_
  refine HL_nil ?_
  exact HC_ret (show endQ prog f55 R .ret _ _ from ⟨_, res1 rfl (rv_tmp rfl), h⟩)
 ·
  replace h := h.2 (of_decide_eq_false hc)
  clear hc
  refine HC_skip ?_
  refine HC_seqJ (b55J1 R) ?_ ?_
  ·
   clear h; rintro E F h
   unfold b55J1 at h; unfold b55j1 at h
   refine cR ?_
   refine sR (.bool true) (r_assign rfl rfl) ?_
   refine HL_nil ?_
   exact HC_ret (show endQ prog f55 R .ret _ _ from ⟨_, res1 rfl (rv_tmp rfl), h⟩)
  ·
   skip
   refine cR ?_
   refine sR (.int .i64 (0 : Int)) (r_assign rfl rfl) ?_
   refine HL_nil ?_
   refine HC_block ?_
   obtain ⟨I1, m1, hI0, hr⟩ := h
   refine HC_loop (fun m1 E F => ∃ i_5 : Int, E 0 = (Sl.v a_0) ∧ E 1 = (Sl.v b_1) ∧ E 5 = (.int .i64 i_5) ∧ I1 m1 i_5 F) m1 ⟨_, rfl, rfl, rfl, hI0⟩ ?_
   clear hI0; rintro m1 E F ⟨i_5, h0, h1, h5, hI⟩
   have h := hr m1 i_5 F hI
   clear hr hI
   unfold b55L1 at h
   refine HC_seq ?_
   refine cR ?_
   refine sR (.int .i64 i_5) (r_move rfl h5) ?_
   refine sR (Sl.v a_0) (r_move rfl h0) ?_
   refine sR (.int .i64 (a_0.len : Int)) (r_lenSl rfl rfl underlying68) ?_
   refine sR (.bool (decide (i_5 < (a_0.len : Int)))) (r_lss rfl rfl rfl) ?_
   refine HL_nil ?_
   refine HC_cond (t := (decide (i_5 < (a_0.len : Int)))) rfl (fun hc => ?_) (fun hc => ?_)
   ·
    replace h := h.1 (of_decide_eq_true hc)
    clear hc
    refine HC_skip ?_
    refine HC_seq ?_
    refine HC_block ?_
    refine HC_seq ?_
    refine HC_draw0 (by kernel_rfl) (fun hp => ?_)
    refine gU 0 (Sl.v a_0) rfl (fun _ => r_move rfl h0) hp ?_
    refine gU 1 (.int .i64 i_5) rfl (fun _ => r_move rfl h5) hp ?_
    obtain ⟨a19_, hb19, hl19, hu19, h⟩ := h
    refine gU 2 (.pointer (some (Addr.add a19_ (Int.toNat i_5 * 1)))) rfl (fun _ => w_indexAddr rfl rfl underlying68 sz3 hb19 hl19 hu19) hp ?_
    obtain ⟨v_20, hc20, h⟩ := h
    refine gR 3 (.int .i64 v_20) rfl (r_load1 rfl rfl underlying3 rfl hc20) hp (fun S3 q3 => ?_)
    replace hp := holdC (i := 3) (q3 _ (r_load1 rfl rfl underlying3 rfl hc20)) hp
    refine gU 4 (Sl.v b_1) rfl (fun _ => r_move rfl h1) hp ?_
    refine gU 5 (.int .i64 i_5) rfl (fun _ => r_move rfl h5) hp ?_
    obtain ⟨a23_, hb23, hl23, hu23, h⟩ := h
    refine gU 6 (.pointer (some (Addr.add a23_ (Int.toNat i_5 * 1)))) rfl (fun _ => w_indexAddr rfl rfl underlying68 sz3 hb23 hl23 hu23) hp ?_
    obtain ⟨v_24, hc24, h⟩ := h
    refine gR 7 (.int .i64 v_24) rfl (r_load1 rfl rfl underlying3 rfl hc24) hp (fun S7 q7 => ?_)
    replace hp := holdC (i := 7) (q7 _ (r_load1 rfl rfl underlying3 rfl hc24)) hp
    refine gU 8 (.bool (decide (v_20 ≠ v_24))) rfl (fun _ => w_neq rfl rfl) hp ?_
    refine RG_done (by kernel_rfl) ?_
    refine HC_cond (t := (decide (v_20 ≠ v_24))) rfl (fun hc => ?_) (fun hc => ?_)
    ·
     replace h := h.1 (of_decide_eq_true hc)
     clear hc
     refine cR ?_
     refine sR (.bool false) (r_assign rfl rfl) ?_
     refine HL_nil ?_
     exact HC_ret (show endQ prog f55 R .ret _ _ from ⟨_, res1 rfl (rv_tmp rfl), h⟩)
    ·
     replace h := h.2 (of_decide_eq_false hc)
     clear hc
     refine HC_skip ?_
     refine HC_region ?_
     refine sR (.int .i64 i_5) (r_move rfl h5) ?_
     refine sR (.int .i64 (IntKind.i64.wrap (i_5 + (1 : Int)))) (r_add rfl rfl rfl) ?_
     refine sR (.int .i64 (IntKind.i64.wrap (i_5 + (1 : Int)))) (r_assign rfl rfl) ?_
     refine HL_nil ?_
     obtain ⟨m', hm, h⟩ := h
     exact ⟨m', hm, _, h0, h1, rfl, h⟩
   ·
    replace h := h.2 (of_decide_eq_false hc)
    clear hc
    refine HC_exit ?_
    exact h

end Go.Proofs.Ytafojmoeaneedaa
