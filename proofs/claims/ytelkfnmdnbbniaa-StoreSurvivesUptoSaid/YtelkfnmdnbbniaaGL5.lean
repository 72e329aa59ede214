/-
  What functions of the program do, in a clean form, each with the proof that its code does so. Printed by a program.
-/
import Derived.Test.YtelkfnmdnbbniaaGf
import Derived.Test.YtelkfnmdnbbniaaPhp
namespace Go.Proofs.Ytelkfnmdnbbniaa
open Go Go.Proofs.Try
set_option maxRecDepth 10000
set_option maxHeartbeats 4000000
/- 5 koine.koinelaw35.StoreRoom -/
def b5j3 (n_0 : Int) (v_22 : Bool) (s_9 : Option Addr) (v_57 : Sl) (payload_14 : Int) (v_90 : Int) (v_92 : Sl) (snapshot_18 : Int) (R : VP) (F : PH) :=
 Spec prog 25 #[(.pointer s_9), (Sl.v v_57)] F fun v F => ∃ v_100 : Int, v = (.int .i64 v_100) ∧
 Spec prog 12 #[(.int .u8 n_0)] F fun v F => ∃ v_102 : Int, v = (.int .i64 v_102) ∧
 ((payload_14 ≤ v_90 →
  ((v_100 = 0 →
   Spec prog 18 #[(.pointer s_9)] F fun v F => ∃ v_112 : Int, v = (.int .i64 v_112) ∧
   Spec prog 24 #[(Sl.v v_57)] F fun v F => ∃ v_115 : Int, v = (.int .i64 v_115) ∧
   ((v_112 = (max 0 (IntKind.i64.wrap (v_90 - (IntKind.i64.wrap (63 * v_115))))) →
    R (.bool v_22) F) ∧
   (¬ (v_112 = (max 0 (IntKind.i64.wrap (v_90 - (IntKind.i64.wrap (63 * v_115)))))) →
    R (.bool false) F))) ∧
  (¬ (v_100 = 0) →
   R (.bool false) F))) ∧
 (¬ (payload_14 ≤ v_90) →
  Spec prog 24 #[(Sl.v v_57)] F fun v F => ∃ v_126 : Int, v = (.int .i64 v_126) ∧
  ((¬ ((IntKind.i64.wrap (snapshot_18 + v_126)) ≤ (IntKind.i64.wrap ((IntKind.i64.wrap (Int.tdiv v_102 2)) - 1))) →
   ((v_100 = 351 →
    Spec prog 17 #[(.pointer s_9)] F fun v F => ∃ v_136 : Sl, v = (Sl.v v_136) ∧
    Spec prog 21 #[(Sl.v v_136), (Sl.v v_92)] F fun v F => ∃ v_138 : Bool, v = (.bool v_138) ∧
    ((v_138 = true →
     Spec prog 18 #[(.pointer s_9)] F fun v F => ∃ v_142 : Int, v = (.int .i64 v_142) ∧
     ((v_142 = v_90 →
      R (.bool v_22) F) ∧
     (¬ (v_142 = v_90) →
      R (.bool false) F))) ∧
    (v_138 = false →
     R (.bool false) F))) ∧
   (¬ (v_100 = 351) →
    R (.bool false) F))) ∧
  (¬ (¬ ((IntKind.i64.wrap (snapshot_18 + v_126)) ≤ (IntKind.i64.wrap ((IntKind.i64.wrap (Int.tdiv v_102 2)) - 1)))) →
   ((v_100 = 0 →
    Spec prog 18 #[(.pointer s_9)] F fun v F => ∃ v_153 : Int, v = (.int .i64 v_153) ∧
    Spec prog 24 #[(Sl.v v_57)] F fun v F => ∃ v_158 : Int, v = (.int .i64 v_158) ∧
    ((v_153 = (max 0 (IntKind.i64.wrap (63 * (IntKind.i64.wrap ((IntKind.i64.wrap ((IntKind.i64.wrap ((IntKind.i64.wrap ((IntKind.i64.wrap (Int.tdiv v_102 2)) - 1)) - snapshot_18)) - v_158)) - 1))))) →
     R (.bool v_22) F) ∧
    (¬ (v_153 = (max 0 (IntKind.i64.wrap (63 * (IntKind.i64.wrap ((IntKind.i64.wrap ((IntKind.i64.wrap ((IntKind.i64.wrap ((IntKind.i64.wrap (Int.tdiv v_102 2)) - 1)) - snapshot_18)) - v_158)) - 1)))))) →
     R (.bool false) F))) ∧
   (¬ (v_100 = 0) →
    R (.bool false) F))))))
def b5j2 (n_0 : Int) (v_22 : Bool) (s_9 : Option Addr) (v_57 : Sl) (payload_14 : Int) (R : VP) (F : PH) :=
 Spec prog 18 #[(.pointer s_9)] F fun v F => ∃ v_90 : Int, v = (.int .i64 v_90) ∧
 Spec prog 17 #[(.pointer s_9)] F fun v F => ∃ v_92 : Sl, v = (Sl.v v_92) ∧
 (((0 : Int) < (v_92.len : Int) →
  Spec prog 24 #[(Sl.v v_92)] F fun v F => ∃ v_97 : Int, v = (.int .i64 v_97) ∧
  b5j3 n_0 v_22 s_9 v_57 payload_14 v_90 v_92 v_97 R F) ∧
 (¬ ((0 : Int) < (v_92.len : Int)) →
  b5j3 n_0 v_22 s_9 v_57 payload_14 v_90 v_92 0 R F))
def b5L1 (N1 : Int → Int → PH → Prop) (n_0 : Int) (v_22 : Bool) (s_9 : Option Addr) (v_57 : Sl) (R : VP) (payload_14_1 : Int) (i_15 : Int) (F : PH) :=
 ((i_15 < (v_57.len : Int) →
  ∃ a76_ : Addr, v_57.base = some a76_ ∧ 0 ≤ i_15 ∧ i_15 < (v_57.len : Int) ∧
  ∃ v_78 : ByteArray, F.cell (Addr.add a76_ (Int.toNat i_15 * 2)) = some (.string v_78) ∧
  ∃ a82_ : Addr, v_57.base = some a82_ ∧ 0 ≤ i_15 ∧ i_15 < (v_57.len : Int) ∧
  ∃ v_84 : Sl, F.cell (Addr.add (Addr.add a82_ (Int.toNat i_15 * 2)) 1) = some (Sl.v v_84) ∧
  N1 (IntKind.i64.wrap (payload_14_1 + (IntKind.i64.wrap ((IntKind.i64.wrap ((v_78.size : Int) + (v_84.len : Int))) + 5)))) (IntKind.i64.wrap (i_15 + 1)) F) ∧
 (¬ (i_15 < (v_57.len : Int)) →
  b5j2 n_0 v_22 s_9 v_57 payload_14_1 R F))
def b5j1 (n_0 : Int) (b5 : Nat) (v_22 : Bool) (s_9 : Option Addr) (R : VP) (F : PH) :=
 ∃ v_56 : Array Value, v_56.size = 2 ∧ F.row (Addr.mk b5 0 none) v_56 ∧
 Spec prog 22 #[(.agg v_56)] F fun v F => ∃ v_57 : Sl, v = (Sl.v v_57) ∧
 Spec prog 23 #[(Sl.v v_57)] F fun v F => ∃ v_59 : Bool, v = (.bool v_59) ∧
 (((!v_59) = true →
  R (.bool v_22) F) ∧
 ((!v_59) = false →
  (((v_57.len : Int) = 0 →
   R (.bool v_22) F) ∧
  (¬ ((v_57.len : Int) = 0) →
   (∃ (I1 : Nat → Int → Int → PH → Prop) (m1 : Nat), I1 m1 0 0 F ∧ ∀ m1 payload_14_1 i_15 F, I1 m1 payload_14_1 i_15 F →
    b5L1 (nx2 I1 m1) n_0 v_22 s_9 v_57 R payload_14_1 i_15 F)))))
def b5L2 (N2 : Option Addr → Int → PH → Prop) (n_0 : Int) (l_1 : Sl) (b5 : Nat) (v_22 : Bool) (v_26 : Option Addr) (b10 : Nat) (R : VP) (s_9_1 : Option Addr) (i_12 : Int) (F : PH) :=
 ((i_12 < (l_1.len : Int) →
  ((i_12 < 20 →
   ∃ v_46 : Array Value, v_46.size = 3 ∧ F.row (Addr.mk b10 0 none) v_46 ∧
   ∃ a49_ : Addr, l_1.base = some a49_ ∧ 0 ≤ i_12 ∧ i_12 < (l_1.len : Int) ∧
   ∃ v_50 : Array Value, v_50.size = 2 ∧ F.row (Addr.add a49_ (Int.toNat i_12 * 2)) v_50 ∧
   Spec prog 14 #[(.pointer v_26), (.pointer s_9_1), (.agg v_46), (.agg v_50)] F fun v F => ∃ v_51 : Option Addr, ∃ v_51_1 : Array Value, ∃ v_51_2 : Int, ∃ v_51_3 : Bool, v = (.tuple #[(.pointer v_51), (.agg v_51_1), (.int .i64 v_51_2), (.bool v_51_3)]) ∧
   v_51_1.size = 3 ∧ (∀ v ∈ v_51_1.toList, storable v) ∧ ∃ c e, F (Addr.mk b10 0 none).block = some (.cells c e (0, 0)) ∧ (Addr.mk b10 0 none).spot = none ∧ (Addr.mk b10 0 none).off + 3 ≤ c.size ∧
   atF (F.set (Addr.mk b10 0 none).block (.cells (wr c (Addr.mk b10 0 none).off v_51_1.toList) e)) fun F =>
   N2 v_51 (IntKind.i64.wrap (i_12 + 1)) F) ∧
  (¬ (i_12 < 20) →
   b5j1 n_0 b5 v_22 s_9_1 R F))) ∧
 (¬ (i_12 < (l_1.len : Int)) →
  b5j1 n_0 b5 v_22 s_9_1 R F))
def b5 (n_0 : Int) (l_1 : Sl) (x_2 : Array Value) (R : VP) (F : PH) :=
 ∀ b5, F b5 = none → atF (F.set b5 (.cells x_2 38)) fun F =>
 Spec prog 10 #[] F fun v F => ∃ v_22 : Bool, v = (.bool v_22) ∧
 Spec prog 12 #[(.int .u8 n_0)] F fun v F => ∃ v_25 : Int, v = (.int .i64 v_25) ∧
 Spec prog 11 #[(.int .i64 v_25)] F fun v F => ∃ v_26 : Option Addr, ∃ v_26_1 : Option Addr, ∃ v_26_2 : Array Value, ∃ v_26_3 : Bool, v = (.tuple #[(.pointer v_26), (.pointer v_26_1), (.agg v_26_2), (.bool v_26_3)]) ∧
 ∀ b10, F b10 = none → atF (F.set b10 (.cells (#[.int .i64 0, .int .i64 0, .slice none 0 0]) 28)) fun F =>
 v_26_2.size = 3 ∧ (∀ v ∈ v_26_2.toList, storable v) ∧ ∃ c e, F (Addr.mk b10 0 none).block = some (.cells c e (0, 0)) ∧ (Addr.mk b10 0 none).spot = none ∧ (Addr.mk b10 0 none).off + 3 ≤ c.size ∧
 atF (F.set (Addr.mk b10 0 none).block (.cells (wr c (Addr.mk b10 0 none).off v_26_2.toList) e)) fun F =>
 (((!v_26_3) = true →
  R (.bool false) F) ∧
 ((!v_26_3) = false →
  (∃ (I2 : Nat → Option Addr → Int → PH → Prop) (m2 : Nat), I2 m2 v_26_1 0 F ∧ ∀ m2 s_9_1 i_12 F, I2 m2 s_9_1 i_12 F →
   b5L2 (nx2 I2 m2) n_0 l_1 b5 v_22 v_26 b10 R s_9_1 i_12 F)))
end Go.Proofs.Ytelkfnmdnbbniaa
