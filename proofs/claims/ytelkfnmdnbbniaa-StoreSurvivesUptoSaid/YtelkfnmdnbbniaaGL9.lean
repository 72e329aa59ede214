/-
  What functions of the program do, in a clean form, each with the proof that its code does so. Printed by a program.
-/
import Derived.Test.YtelkfnmdnbbniaaGf
import Derived.Test.YtelkfnmdnbbniaaPhp
namespace Go.Proofs.Ytelkfnmdnbbniaa
open Go Go.Proofs.Try
set_option maxRecDepth 10000
set_option maxHeartbeats 4000000
/- 9 koine.koinelaw35.StoreOpens -/
def b9j2 (v_25 : Bool) (s_7 : Option Addr) (v_65 : Option Addr) (v_70 : Option Addr) (v_75 : Option Addr) (R : VP) (F : PH) :=
 Spec prog 17 #[(.pointer s_7)] F fun v F => ∃ v_126 : Sl, v = (Sl.v v_126) ∧
 Spec prog 17 #[(.pointer v_65)] F fun v F => ∃ v_128 : Sl, v = (Sl.v v_128) ∧
 Spec prog 21 #[(Sl.v v_128), (Sl.v v_126)] F fun v F => ∃ v_130 : Bool, v = (.bool v_130) ∧
 ((v_130 = true →
  Spec prog 17 #[(.pointer v_70)] F fun v F => ∃ v_133 : Sl, v = (Sl.v v_133) ∧
  Spec prog 21 #[(Sl.v v_133), (Sl.v v_126)] F fun v F => ∃ v_135 : Bool, v = (.bool v_135) ∧
  ((v_135 = true →
   Spec prog 17 #[(.pointer v_75)] F fun v F => ∃ v_139 : Sl, v = (Sl.v v_139) ∧
   Spec prog 21 #[(Sl.v v_139), (Sl.v v_126)] F fun v F => ∃ v_141 : Bool, v = (.bool v_141) ∧
   ((v_141 = true →
    Spec prog 18 #[(.pointer v_65)] F fun v F => ∃ v_145 : Int, v = (.int .i64 v_145) ∧
    Spec prog 18 #[(.pointer s_7)] F fun v F => ∃ v_147 : Int, v = (.int .i64 v_147) ∧
    ((v_145 = v_147 →
     Spec prog 18 #[(.pointer v_70)] F fun v F => ∃ v_152 : Int, v = (.int .i64 v_152) ∧
     Spec prog 18 #[(.pointer s_7)] F fun v F => ∃ v_154 : Int, v = (.int .i64 v_154) ∧
     ((v_152 = v_154 →
      Spec prog 18 #[(.pointer v_75)] F fun v F => ∃ v_159 : Int, v = (.int .i64 v_159) ∧
      Spec prog 18 #[(.pointer s_7)] F fun v F => ∃ v_161 : Int, v = (.int .i64 v_161) ∧
      ((v_159 = v_161 →
       R (.bool v_25) F) ∧
      (¬ (v_159 = v_161) →
       R (.bool false) F))) ∧
     (¬ (v_152 = v_154) →
      R (.bool false) F))) ∧
    (¬ (v_145 = v_147) →
     R (.bool false) F))) ∧
   (v_141 = false →
    R (.bool false) F))) ∧
  (v_135 = false →
   R (.bool false) F))) ∧
 (v_130 = false →
  R (.bool false) F))
def b9L1 (N1 : Int → PH → Prop) (v_25 : Bool) (v_29 : Option Addr) (s_7 : Option Addr) (v_60 : Option Addr) (v_65 : Option Addr) (v_70 : Option Addr) (v_75 : Option Addr) (R : VP) (i_19 : Int) (F : PH) :=
 Spec prog 28 #[(.pointer v_29)] F fun v F => ∃ v_96 : Int, v = (.int .i64 v_96) ∧
 ((i_19 < v_96 →
  Spec prog 38 #[(.pointer v_29), (.int .i64 i_19)] F fun v F => ∃ v_103 : Sl, ∃ v_103_1 : Int, v = (.tuple #[(Sl.v v_103), (.int .i64 v_103_1)]) ∧
  Spec prog 38 #[(.pointer v_60), (.int .i64 i_19)] F fun v F => ∃ v_109 : Sl, ∃ v_109_1 : Int, v = (.tuple #[(Sl.v v_109), (.int .i64 v_109_1)]) ∧
  ((v_103_1 ≠ 0 →
   R (.bool false) F) ∧
  (¬ (v_103_1 ≠ 0) →
   ((v_109_1 ≠ 0 →
    R (.bool false) F) ∧
   (¬ (v_109_1 ≠ 0) →
    ∃ v_120 : ByteArray, rdo prog (Conv.bytesToString (Sl.v v_103)) F (.string v_120) ∧
    ∃ v_122 : ByteArray, rdo prog (Conv.bytesToString (Sl.v v_109)) F (.string v_122) ∧
    (((!(v_120.toList == v_122.toList)) = true →
     R (.bool false) F) ∧
    ((!(v_120.toList == v_122.toList)) = false →
     N1 (IntKind.i64.wrap (i_19 + 1)) F))))))) ∧
 (¬ (i_19 < v_96) →
  b9j2 v_25 s_7 v_65 v_70 v_75 R F))
def b9j1 (v_25 : Bool) (v_29 : Option Addr) (s_7 : Option Addr) (R : VP) (F : PH) :=
 Spec prog 36 #[(.pointer v_29)] F fun v F => ∃ v_60 : Option Addr, v = (.pointer v_60) ∧
 Spec prog 37 #[(.pointer v_29)] F fun v F => ∃ v_62 : Int, v = (.int .i64 v_62) ∧
 Spec prog 20 #[(.pointer v_29)] F fun v F => ∃ v_65 : Option Addr, ∃ v_65_1 : Int, v = (.tuple #[(.pointer v_65), (.int .i64 v_65_1)]) ∧
 Spec prog 20 #[(.pointer v_29)] F fun v F => ∃ v_70 : Option Addr, ∃ v_70_1 : Int, v = (.tuple #[(.pointer v_70), (.int .i64 v_70_1)]) ∧
 Spec prog 20 #[(.pointer v_60)] F fun v F => ∃ v_75 : Option Addr, ∃ v_75_1 : Int, v = (.tuple #[(.pointer v_75), (.int .i64 v_75_1)]) ∧
 ((v_65_1 ≠ 0 →
  R (.bool false) F) ∧
 (¬ (v_65_1 ≠ 0) →
  ((v_70_1 ≠ 0 →
   R (.bool false) F) ∧
  (¬ (v_70_1 ≠ 0) →
   ((v_75_1 ≠ 0 →
    R (.bool false) F) ∧
   (¬ (v_75_1 ≠ 0) →
    Spec prog 37 #[(.pointer v_29)] F fun v F => ∃ v_90 : Int, v = (.int .i64 v_90) ∧
    ((v_90 ≠ v_62 →
     R (.bool false) F) ∧
    (¬ (v_90 ≠ v_62) →
     (∃ (I1 : Nat → Int → PH → Prop) (m1 : Nat), I1 m1 0 F ∧ ∀ m1 i_19 F, I1 m1 i_19 F →
      b9L1 (nx1 I1 m1) v_25 v_29 s_7 v_60 v_65 v_70 v_75 R i_19 F)))))))))
def b9L2 (N2 : Option Addr → Int → PH → Prop) (l_1 : Sl) (v_25 : Bool) (v_29 : Option Addr) (b8 : Nat) (R : VP) (s_7_1 : Option Addr) (i_10 : Int) (F : PH) :=
 ((i_10 < (l_1.len : Int) →
  ((i_10 < 30 →
   ∃ v_49 : Array Value, v_49.size = 3 ∧ F.row (Addr.mk b8 0 none) v_49 ∧
   ∃ a52_ : Addr, l_1.base = some a52_ ∧ 0 ≤ i_10 ∧ i_10 < (l_1.len : Int) ∧
   ∃ v_53 : Array Value, v_53.size = 2 ∧ F.row (Addr.add a52_ (Int.toNat i_10 * 2)) v_53 ∧
   Spec prog 14 #[(.pointer v_29), (.pointer s_7_1), (.agg v_49), (.agg v_53)] F fun v F => ∃ v_54 : Option Addr, ∃ v_54_1 : Array Value, ∃ v_54_2 : Int, ∃ v_54_3 : Bool, v = (.tuple #[(.pointer v_54), (.agg v_54_1), (.int .i64 v_54_2), (.bool v_54_3)]) ∧
   v_54_1.size = 3 ∧ (∀ v ∈ v_54_1.toList, storable v) ∧ ∃ c e, F (Addr.mk b8 0 none).block = some (.cells c e (0, 0)) ∧ (Addr.mk b8 0 none).spot = none ∧ (Addr.mk b8 0 none).off + 3 ≤ c.size ∧
   atF (F.set (Addr.mk b8 0 none).block (.cells (wr c (Addr.mk b8 0 none).off v_54_1.toList) e)) fun F =>
   N2 v_54 (IntKind.i64.wrap (i_10 + 1)) F) ∧
  (¬ (i_10 < 30) →
   b9j1 v_25 v_29 s_7_1 R F))) ∧
 (¬ (i_10 < (l_1.len : Int)) →
  b9j1 v_25 v_29 s_7_1 R F))
def b9 (n_0 : Int) (l_1 : Sl) (R : VP) (F : PH) :=
 Spec prog 10 #[] F fun v F => ∃ v_25 : Bool, v = (.bool v_25) ∧
 Spec prog 12 #[(.int .u8 n_0)] F fun v F => ∃ v_28 : Int, v = (.int .i64 v_28) ∧
 Spec prog 11 #[(.int .i64 v_28)] F fun v F => ∃ v_29 : Option Addr, ∃ v_29_1 : Option Addr, ∃ v_29_2 : Array Value, ∃ v_29_3 : Bool, v = (.tuple #[(.pointer v_29), (.pointer v_29_1), (.agg v_29_2), (.bool v_29_3)]) ∧
 ∀ b8, F b8 = none → atF (F.set b8 (.cells (#[.int .i64 0, .int .i64 0, .slice none 0 0]) 28)) fun F =>
 v_29_2.size = 3 ∧ (∀ v ∈ v_29_2.toList, storable v) ∧ ∃ c e, F (Addr.mk b8 0 none).block = some (.cells c e (0, 0)) ∧ (Addr.mk b8 0 none).spot = none ∧ (Addr.mk b8 0 none).off + 3 ≤ c.size ∧
 atF (F.set (Addr.mk b8 0 none).block (.cells (wr c (Addr.mk b8 0 none).off v_29_2.toList) e)) fun F =>
 (((!v_29_3) = true →
  R (.bool false) F) ∧
 ((!v_29_3) = false →
  (∃ (I2 : Nat → Option Addr → Int → PH → Prop) (m2 : Nat), I2 m2 v_29_1 0 F ∧ ∀ m2 s_7_1 i_10 F, I2 m2 s_7_1 i_10 F →
   b9L2 (nx2 I2 m2) l_1 v_25 v_29 b8 R s_7_1 i_10 F)))
end Go.Proofs.Ytelkfnmdnbbniaa
