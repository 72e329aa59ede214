/-
  What functions of the program do, in a clean form, each with the proof that its code does so. Printed by a program.
-/
import Derived.Test.YtelkfnmdnbbniaaGf
import Derived.Test.YtelkfnmdnbbniaaPhp
namespace Go.Proofs.Ytelkfnmdnbbniaa
open Go Go.Proofs.Try
set_option maxRecDepth 10000
set_option maxHeartbeats 4000000
/- 4 koine.koinelaw35.StoreCompacts -/
def b4j1 (v_18 : Bool) (v_22 : Option Addr) (s_7 : Option Addr) (R : VP) (F : PH) :=
 Spec prog 17 #[(.pointer s_7)] F fun v F => ∃ v_53 : Sl, v = (Sl.v v_53) ∧
 Spec prog 18 #[(.pointer s_7)] F fun v F => ∃ v_55 : Int, v = (.int .i64 v_55) ∧
 Spec prog 19 #[(.pointer s_7)] F fun v F => ∃ v_57 : Int, v = (.int .i64 v_57) ∧
 Spec prog 20 #[(.pointer v_22)] F fun v F => ∃ v_60 : Option Addr, ∃ v_60_1 : Int, v = (.tuple #[(.pointer v_60), (.int .i64 v_60_1)]) ∧
 Spec prog 18 #[(.pointer s_7)] F fun v F => ∃ v_64 : Int, v = (.int .i64 v_64) ∧
 Spec prog 19 #[(.pointer s_7)] F fun v F => ∃ v_66 : Int, v = (.int .i64 v_66) ∧
 ((v_57 ≠ 0 →
  R (.bool false) F) ∧
 (¬ (v_57 ≠ 0) →
  ((v_60_1 ≠ 0 →
   R (.bool false) F) ∧
  (¬ (v_60_1 ≠ 0) →
   ((v_66 ≠ 0 →
    R (.bool false) F) ∧
   (¬ (v_66 ≠ 0) →
    Spec prog 17 #[(.pointer s_7)] F fun v F => ∃ v_78 : Sl, v = (Sl.v v_78) ∧
    Spec prog 21 #[(Sl.v v_78), (Sl.v v_53)] F fun v F => ∃ v_80 : Bool, v = (.bool v_80) ∧
    ((v_80 = true →
     Spec prog 17 #[(.pointer v_60)] F fun v F => ∃ v_83 : Sl, v = (Sl.v v_83) ∧
     Spec prog 21 #[(Sl.v v_83), (Sl.v v_53)] F fun v F => ∃ v_85 : Bool, v = (.bool v_85) ∧
     ((v_85 = true →
      ((v_55 ≤ v_64 →
       Spec prog 18 #[(.pointer s_7)] F fun v F => ∃ v_94 : Int, v = (.int .i64 v_94) ∧
       ((v_94 = v_64 →
        R (.bool v_18) F) ∧
       (¬ (v_94 = v_64) →
        R (.bool false) F))) ∧
      (¬ (v_55 ≤ v_64) →
       R (.bool false) F))) ∧
     (v_85 = false →
      R (.bool false) F))) ∧
    (v_80 = false →
     R (.bool false) F))))))))
def b4L1 (N1 : Option Addr → Int → PH → Prop) (l_1 : Sl) (v_18 : Bool) (v_22 : Option Addr) (b8 : Nat) (R : VP) (s_7_1 : Option Addr) (i_10 : Int) (F : PH) :=
 ((i_10 < (l_1.len : Int) →
  ((i_10 < 30 →
   ∃ v_42 : Array Value, v_42.size = 3 ∧ F.row (Addr.mk b8 0 none) v_42 ∧
   ∃ a45_ : Addr, l_1.base = some a45_ ∧ 0 ≤ i_10 ∧ i_10 < (l_1.len : Int) ∧
   ∃ v_46 : Array Value, v_46.size = 2 ∧ F.row (Addr.add a45_ (Int.toNat i_10 * 2)) v_46 ∧
   Spec prog 14 #[(.pointer v_22), (.pointer s_7_1), (.agg v_42), (.agg v_46)] F fun v F => ∃ v_47 : Option Addr, ∃ v_47_1 : Array Value, ∃ v_47_2 : Int, ∃ v_47_3 : Bool, v = (.tuple #[(.pointer v_47), (.agg v_47_1), (.int .i64 v_47_2), (.bool v_47_3)]) ∧
   v_47_1.size = 3 ∧ (∀ v ∈ v_47_1.toList, storable v) ∧ ∃ c e, F (Addr.mk b8 0 none).block = some (.cells c e (0, 0)) ∧ (Addr.mk b8 0 none).spot = none ∧ (Addr.mk b8 0 none).off + 3 ≤ c.size ∧
   atF (F.set (Addr.mk b8 0 none).block (.cells (wr c (Addr.mk b8 0 none).off v_47_1.toList) e)) fun F =>
   N1 v_47 (IntKind.i64.wrap (i_10 + 1)) F) ∧
  (¬ (i_10 < 30) →
   b4j1 v_18 v_22 s_7_1 R F))) ∧
 (¬ (i_10 < (l_1.len : Int)) →
  b4j1 v_18 v_22 s_7_1 R F))
def b4 (n_0 : Int) (l_1 : Sl) (R : VP) (F : PH) :=
 Spec prog 10 #[] F fun v F => ∃ v_18 : Bool, v = (.bool v_18) ∧
 Spec prog 12 #[(.int .u8 n_0)] F fun v F => ∃ v_21 : Int, v = (.int .i64 v_21) ∧
 Spec prog 11 #[(.int .i64 v_21)] F fun v F => ∃ v_22 : Option Addr, ∃ v_22_1 : Option Addr, ∃ v_22_2 : Array Value, ∃ v_22_3 : Bool, v = (.tuple #[(.pointer v_22), (.pointer v_22_1), (.agg v_22_2), (.bool v_22_3)]) ∧
 ∀ b8, F b8 = none → atF (F.set b8 (.cells (#[.int .i64 0, .int .i64 0, .slice none 0 0]) 28)) fun F =>
 v_22_2.size = 3 ∧ (∀ v ∈ v_22_2.toList, storable v) ∧ ∃ c e, F (Addr.mk b8 0 none).block = some (.cells c e (0, 0)) ∧ (Addr.mk b8 0 none).spot = none ∧ (Addr.mk b8 0 none).off + 3 ≤ c.size ∧
 atF (F.set (Addr.mk b8 0 none).block (.cells (wr c (Addr.mk b8 0 none).off v_22_2.toList) e)) fun F =>
 (((!v_22_3) = true →
  R (.bool false) F) ∧
 ((!v_22_3) = false →
  (∃ (I1 : Nat → Option Addr → Int → PH → Prop) (m1 : Nat), I1 m1 v_22_1 0 F ∧ ∀ m1 s_7_1 i_10 F, I1 m1 s_7_1 i_10 F →
   b4L1 (nx2 I1 m1) l_1 v_18 v_22 b8 R s_7_1 i_10 F)))
end Go.Proofs.Ytelkfnmdnbbniaa
