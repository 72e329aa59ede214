/-
  What functions of the program do, in a clean form, each with the proof that its code does so. Printed by a program.
-/
import Derived.Test.YtelkfnmdnbbniaaGf
import Derived.Test.YtelkfnmdnbbniaaPhp
namespace Go.Proofs.Ytelkfnmdnbbniaa
open Go Go.Proofs.Try
set_option maxRecDepth 10000
set_option maxHeartbeats 4000000
/- 6 koine.koinelaw35.StoreKeys -/
def b6j4 (v_26 : Bool) (R : VP) (F : PH) :=
 R (.bool v_26) F
def b6j5 (N1 : Int → PH → Prop) (v_26 : Bool) (s_9 : Option Addr) (v_82 : Sl) (v_88 : Sl) (i_23 : Int) (R : VP) (F : PH) :=
 N1 (IntKind.i64.wrap (i_23 + 1)) F
def b6L1 (N1 : Int → PH → Prop) (v_26 : Bool) (s_9 : Option Addr) (v_82 : Sl) (v_88 : Sl) (R : VP) (i_23 : Int) (F : PH) :=
 ((i_23 < (v_88.len : Int) →
  ∃ a143_ : Addr, v_88.base = some a143_ ∧ 0 ≤ i_23 ∧ i_23 < (v_88.len : Int) ∧
  ∃ v_145 : ByteArray, F.cell (Addr.add a143_ (Int.toNat i_23 * 2)) = some (.string v_145) ∧
  Spec prog 16 #[(.pointer s_9), (.string v_145)] F fun v F => ∃ v_146 : Sl, ∃ v_146_1 : Bool, v = (.tuple #[(Sl.v v_146), (.bool v_146_1)]) ∧
  ∃ a152_ : Addr, v_88.base = some a152_ ∧ 0 ≤ i_23 ∧ i_23 < (v_88.len : Int) ∧
  ∃ v_154 : ByteArray, F.cell (Addr.add a152_ (Int.toNat i_23 * 2)) = some (.string v_154) ∧
  Spec prog 27 #[(Sl.v v_82), (.string v_154)] F fun v F => ∃ v_155 : Bool, v = (.bool v_155) ∧
  (((!v_155) = true →
   (((!v_146_1) = true →
    R (.bool false) F) ∧
   ((!v_146_1) = false →
    ∃ v_162 : ByteArray, rdo prog (Conv.bytesToString (Sl.v v_146)) F (.string v_162) ∧
    ∃ a165_ : Addr, v_88.base = some a165_ ∧ 0 ≤ i_23 ∧ i_23 < (v_88.len : Int) ∧
    ∃ v_167 : Sl, F.cell (Addr.add (Addr.add a165_ (Int.toNat i_23 * 2)) 1) = some (Sl.v v_167) ∧
    ∃ v_168 : ByteArray, rdo prog (Conv.bytesToString (Sl.v v_167)) F (.string v_168) ∧
    (((!(v_162.toList == v_168.toList)) = true →
     R (.bool false) F) ∧
    ((!(v_162.toList == v_168.toList)) = false →
     b6j5 N1 v_26 s_9 v_82 v_88 i_23 R F))))) ∧
  ((!v_155) = false →
   b6j5 N1 v_26 s_9 v_82 v_88 i_23 R F))) ∧
 (¬ (i_23 < (v_88.len : Int)) →
  b6j4 v_26 R F))
def b6j3 (v_26 : Bool) (s_9 : Option Addr) (v_82 : Sl) (v_88 : Sl) (R : VP) (F : PH) :=
 (∃ (I1 : Nat → Int → PH → Prop) (m1 : Nat), I1 m1 0 F ∧ ∀ m1 i_23 F, I1 m1 i_23 F →
  b6L1 (nx1 I1 m1) v_26 s_9 v_82 v_88 R i_23 F)
def b6j2 (v_26 : Bool) (s_9 : Option Addr) (t_13 : Option Addr) (v_82 : Sl) (v_88 : Sl) (turned_19 : Sl) (R : VP) (F : PH) :=
 Spec prog 25 #[(.pointer s_9), (Sl.v v_82)] F fun v F => ∃ v_111 : Int, v = (.int .i64 v_111) ∧
 Spec prog 25 #[(.pointer t_13), (Sl.v turned_19)] F fun v F => ∃ v_114 : Int, v = (.int .i64 v_114) ∧
 ((v_111 ≠ v_114 →
  R (.bool false) F) ∧
 (¬ (v_111 ≠ v_114) →
  ((v_111 = 0 →
   Spec prog 26 #[(Sl.v v_82)] F fun v F => ∃ v_122 : Bool, v = (.bool v_122) ∧
   (((!v_122) = true →
    Spec prog 17 #[(.pointer s_9)] F fun v F => ∃ v_127 : Sl, v = (Sl.v v_127) ∧
    Spec prog 17 #[(.pointer t_13)] F fun v F => ∃ v_129 : Sl, v = (Sl.v v_129) ∧
    Spec prog 21 #[(Sl.v v_127), (Sl.v v_129)] F fun v F => ∃ v_130 : Bool, v = (.bool v_130) ∧
    (((!v_130) = true →
     R (.bool false) F) ∧
    ((!v_130) = false →
     b6j3 v_26 s_9 v_82 v_88 R F))) ∧
   ((!v_122) = false →
    b6j3 v_26 s_9 v_82 v_88 R F))) ∧
  (¬ (v_111 = 0) →
   b6j3 v_26 s_9 v_82 v_88 R F))))
def b6L2 (N2 : Sl → Int → PH → Prop) (at_2 : Int) (v_26 : Bool) (s_9 : Option Addr) (t_13 : Option Addr) (v_82 : Sl) (v_88 : Sl) (R : VP) (turned_19_1 : Sl) (i_20 : Int) (F : PH) :=
 ((i_20 < (v_82.len : Int) →
  (v_82.len : Int) ≠ 0 ∧ ∃ a105_ : Addr, v_82.base = some a105_ ∧ 0 ≤ (Int.tmod (IntKind.i64.wrap (i_20 + (IntKind.i64.wrap at_2))) (v_82.len : Int)) ∧ (Int.tmod (IntKind.i64.wrap (i_20 + (IntKind.i64.wrap at_2))) (v_82.len : Int)) < (v_82.len : Int) ∧
  ∃ v_106 : Array Value, v_106.size = 2 ∧ F.row (Addr.add a105_ (Int.toNat (Int.tmod (IntKind.i64.wrap (i_20 + (IntKind.i64.wrap at_2))) (v_82.len : Int)) * 2)) v_106 ∧
  v_106.size = 2 ∧ ∀ b107, F b107 = none → atF (F.set b107 (.cells v_106 41)) fun F =>
  runs prog (Builtin.append_ #[26, 26] 26 #[(Sl.v turned_19_1), (Sl.v (Sl.mk (some (Addr.mk b107 0 none)) 1 1))]) F fun v F => ∃ v_108 : Sl, v = (Sl.v v_108) ∧
  N2 v_108 (IntKind.i64.wrap (i_20 + 1)) F) ∧
 (¬ (i_20 < (v_82.len : Int)) →
  b6j2 v_26 s_9 t_13 v_82 v_88 turned_19_1 R F))
def b6j1 (at_2 : Int) (b4 : Nat) (v_26 : Bool) (s_9 : Option Addr) (t_13 : Option Addr) (R : VP) (F : PH) :=
 ∃ v_81 : Array Value, v_81.size = 2 ∧ F.row (Addr.mk b4 0 none) v_81 ∧
 Spec prog 22 #[(.agg v_81)] F fun v F => ∃ v_82 : Sl, v = (Sl.v v_82) ∧
 Spec prog 23 #[(Sl.v v_82)] F fun v F => ∃ v_84 : Bool, v = (.bool v_84) ∧
 (((!v_84) = true →
  R (.bool v_26) F) ∧
 ((!v_84) = false →
  Spec prog 17 #[(.pointer s_9)] F fun v F => ∃ v_88 : Sl, v = (Sl.v v_88) ∧
  ∀ b89, F b89 = none → atF (F.set b89 (.cells #[] 41)) fun F =>
  (∃ (I2 : Nat → Sl → Int → PH → Prop) (m2 : Nat), I2 m2 (Sl.mk (some (Addr.mk b89 0 none)) 0 0) 0 F ∧ ∀ m2 turned_19_1 i_20 F, I2 m2 turned_19_1 i_20 F →
   b6L2 (nx2 I2 m2) at_2 v_26 s_9 t_13 v_82 v_88 R turned_19_1 i_20 F)))
def b6L3 (N3 : Option Addr → Option Addr → Int → PH → Prop) (l_0 : Sl) (at_2 : Int) (b4 : Nat) (v_26 : Bool) (v_28 : Option Addr) (b10 : Nat) (v_34 : Option Addr) (b14 : Nat) (R : VP) (s_9_1 : Option Addr) (t_13_1 : Option Addr) (i_16 : Int) (F : PH) :=
 ((i_16 < (l_0.len : Int) →
  ((i_16 < 8 →
   ∃ v_58 : Array Value, v_58.size = 3 ∧ F.row (Addr.mk b10 0 none) v_58 ∧
   ∃ a61_ : Addr, l_0.base = some a61_ ∧ 0 ≤ i_16 ∧ i_16 < (l_0.len : Int) ∧
   ∃ v_62 : Array Value, v_62.size = 2 ∧ F.row (Addr.add a61_ (Int.toNat i_16 * 2)) v_62 ∧
   Spec prog 14 #[(.pointer v_28), (.pointer s_9_1), (.agg v_58), (.agg v_62)] F fun v F => ∃ v_63 : Option Addr, ∃ v_63_1 : Array Value, ∃ v_63_2 : Int, ∃ v_63_3 : Bool, v = (.tuple #[(.pointer v_63), (.agg v_63_1), (.int .i64 v_63_2), (.bool v_63_3)]) ∧
   v_63_1.size = 3 ∧ (∀ v ∈ v_63_1.toList, storable v) ∧ ∃ c e, F (Addr.mk b10 0 none).block = some (.cells c e (0, 0)) ∧ (Addr.mk b10 0 none).spot = none ∧ (Addr.mk b10 0 none).off + 3 ≤ c.size ∧
   atF (F.set (Addr.mk b10 0 none).block (.cells (wr c (Addr.mk b10 0 none).off v_63_1.toList) e)) fun F =>
   ∃ v_71 : Array Value, v_71.size = 3 ∧ F.row (Addr.mk b14 0 none) v_71 ∧
   ∃ a74_ : Addr, l_0.base = some a74_ ∧ 0 ≤ i_16 ∧ i_16 < (l_0.len : Int) ∧
   ∃ v_75 : Array Value, v_75.size = 2 ∧ F.row (Addr.add a74_ (Int.toNat i_16 * 2)) v_75 ∧
   Spec prog 14 #[(.pointer v_34), (.pointer t_13_1), (.agg v_71), (.agg v_75)] F fun v F => ∃ v_76 : Option Addr, ∃ v_76_1 : Array Value, ∃ v_76_2 : Int, ∃ v_76_3 : Bool, v = (.tuple #[(.pointer v_76), (.agg v_76_1), (.int .i64 v_76_2), (.bool v_76_3)]) ∧
   v_76_1.size = 3 ∧ (∀ v ∈ v_76_1.toList, storable v) ∧ ∃ c e, F (Addr.mk b14 0 none).block = some (.cells c e (0, 0)) ∧ (Addr.mk b14 0 none).spot = none ∧ (Addr.mk b14 0 none).off + 3 ≤ c.size ∧
   atF (F.set (Addr.mk b14 0 none).block (.cells (wr c (Addr.mk b14 0 none).off v_76_1.toList) e)) fun F =>
   N3 v_63 v_76 (IntKind.i64.wrap (i_16 + 1)) F) ∧
  (¬ (i_16 < 8) →
   b6j1 at_2 b4 v_26 s_9_1 t_13_1 R F))) ∧
 (¬ (i_16 < (l_0.len : Int)) →
  b6j1 at_2 b4 v_26 s_9_1 t_13_1 R F))
def b6 (l_0 : Sl) (x_1 : Array Value) (at_2 : Int) (R : VP) (F : PH) :=
 ∀ b4, F b4 = none → atF (F.set b4 (.cells x_1 38)) fun F =>
 Spec prog 10 #[] F fun v F => ∃ v_26 : Bool, v = (.bool v_26) ∧
 Spec prog 11 #[(.int .i64 80)] F fun v F => ∃ v_28 : Option Addr, ∃ v_28_1 : Option Addr, ∃ v_28_2 : Array Value, ∃ v_28_3 : Bool, v = (.tuple #[(.pointer v_28), (.pointer v_28_1), (.agg v_28_2), (.bool v_28_3)]) ∧
 ∀ b10, F b10 = none → atF (F.set b10 (.cells (#[.int .i64 0, .int .i64 0, .slice none 0 0]) 28)) fun F =>
 v_28_2.size = 3 ∧ (∀ v ∈ v_28_2.toList, storable v) ∧ ∃ c e, F (Addr.mk b10 0 none).block = some (.cells c e (0, 0)) ∧ (Addr.mk b10 0 none).spot = none ∧ (Addr.mk b10 0 none).off + 3 ≤ c.size ∧
 atF (F.set (Addr.mk b10 0 none).block (.cells (wr c (Addr.mk b10 0 none).off v_28_2.toList) e)) fun F =>
 Spec prog 11 #[(.int .i64 80)] F fun v F => ∃ v_34 : Option Addr, ∃ v_34_1 : Option Addr, ∃ v_34_2 : Array Value, ∃ v_34_3 : Bool, v = (.tuple #[(.pointer v_34), (.pointer v_34_1), (.agg v_34_2), (.bool v_34_3)]) ∧
 ∀ b14, F b14 = none → atF (F.set b14 (.cells (#[.int .i64 0, .int .i64 0, .slice none 0 0]) 28)) fun F =>
 v_34_2.size = 3 ∧ (∀ v ∈ v_34_2.toList, storable v) ∧ ∃ c e, F (Addr.mk b14 0 none).block = some (.cells c e (0, 0)) ∧ (Addr.mk b14 0 none).spot = none ∧ (Addr.mk b14 0 none).off + 3 ≤ c.size ∧
 atF (F.set (Addr.mk b14 0 none).block (.cells (wr c (Addr.mk b14 0 none).off v_34_2.toList) e)) fun F =>
 (((!v_28_3) = true →
  R (.bool false) F) ∧
 ((!v_28_3) = false →
  (((!v_34_3) = true →
   R (.bool false) F) ∧
  ((!v_34_3) = false →
   (∃ (I3 : Nat → Option Addr → Option Addr → Int → PH → Prop) (m3 : Nat), I3 m3 v_28_1 v_34_1 0 F ∧ ∀ m3 s_9_1 t_13_1 i_16 F, I3 m3 s_9_1 t_13_1 i_16 F →
    b6L3 (nx3 I3 m3) l_0 at_2 b4 v_26 v_28 b10 v_34 b14 R s_9_1 t_13_1 i_16 F)))))
end Go.Proofs.Ytelkfnmdnbbniaa
