/-
  What functions of the program do, in a clean form, each with the proof that its code does so. Printed by a program.
-/
import Derived.Test.YtnjcgpihfmklfaaDoorGf
import Derived.Test.YtnjcgpihfmklfaaDoorPhp
namespace Go.Proofs.YtnjcgpihfmklfaaDoor
open Go Go.Proofs.Tryd
set_option maxRecDepth 10000
set_option maxHeartbeats 4000000
/- 8 koine.koinelaw04.PatternLongest -/
def b8j2 (v_16 : Bool) (v_18 : Sl) (v_20 : ByteArray) (at_2 : Int) (v_31 : Int) (R : VP) (F : PH) :=
 v_20.size + (ByteArray.mk #[97]).size ≤ 9223372036854775807 ∧
 Spec prog 17 #[(Sl.v v_18), (.string (v_20 ++ (ByteArray.mk #[97]))), (.int .i64 (Int.tmod (IntKind.i64.wrap at_2) (IntKind.i64.wrap ((v_20.size : Int) + 1))))] F fun v F => ∃ v_87 : Int, ∃ v_87_1 : Bool, v = (.tuple #[(.int .i64 v_87), (.bool v_87_1)]) ∧
 ((v_31 ≤ v_87 →
  R (.bool v_16) F) ∧
 (¬ (v_31 ≤ v_87) →
  R (.bool false) F))
def b8L1 (N1 : Int → PH → Prop) (v_16 : Bool) (v_18 : Sl) (v_20 : ByteArray) (at_2 : Int) (v_31 : Int) (R : VP) (vm_13 : Int) (F : PH) :=
 (((IntKind.i64.wrap ((Int.tmod (IntKind.i64.wrap at_2) (IntKind.i64.wrap ((v_20.size : Int) + 1))) + vm_13)) ≤ (v_20.size : Int) →
  0 ≤ (Int.tmod (IntKind.i64.wrap at_2) (IntKind.i64.wrap ((v_20.size : Int) + 1))) ∧ 0 ≤ (IntKind.i64.wrap ((Int.tmod (IntKind.i64.wrap at_2) (IntKind.i64.wrap ((v_20.size : Int) + 1))) + vm_13)) ∧ (Int.toNat (Int.tmod (IntKind.i64.wrap at_2) (IntKind.i64.wrap ((v_20.size : Int) + 1)))) ≤ (Int.toNat (IntKind.i64.wrap ((Int.tmod (IntKind.i64.wrap at_2) (IntKind.i64.wrap ((v_20.size : Int) + 1))) + vm_13))) ∧ (Int.toNat (IntKind.i64.wrap ((Int.tmod (IntKind.i64.wrap at_2) (IntKind.i64.wrap ((v_20.size : Int) + 1))) + vm_13))) ≤ v_20.size ∧ 
  Spec prog 23 #[(Sl.v v_18), (.string (v_20.extract (Int.toNat (Int.tmod (IntKind.i64.wrap at_2) (IntKind.i64.wrap ((v_20.size : Int) + 1)))) (Int.toNat (IntKind.i64.wrap ((Int.tmod (IntKind.i64.wrap at_2) (IntKind.i64.wrap ((v_20.size : Int) + 1))) + vm_13)))))] F fun v F => ∃ v_81 : Bool, v = (.bool v_81) ∧
  ((v_81 = true →
   R (.bool false) F) ∧
  (v_81 = false →
   N1 (IntKind.i64.wrap (vm_13 + 1)) F))) ∧
 (¬ ((IntKind.i64.wrap ((Int.tmod (IntKind.i64.wrap at_2) (IntKind.i64.wrap ((v_20.size : Int) + 1))) + vm_13)) ≤ (v_20.size : Int)) →
  b8j2 v_16 v_18 v_20 at_2 v_31 R F))
def b8j1 (v_16 : Bool) (v_18 : Sl) (v_20 : ByteArray) (at_2 : Int) (v_31 : Int) (R : VP) (F : PH) :=
 (∃ (I1 : Nat → Int → PH → Prop) (m1 : Nat), I1 m1 (IntKind.i64.wrap (v_31 + 1)) F ∧ ∀ m1 vm_13 F, I1 m1 vm_13 F →
  b8L1 (nx1 I1 m1) v_16 v_18 v_20 at_2 v_31 R vm_13 F)
def b8 (l_0 : Sl) (w_1 : Sl) (at_2 : Int) (R : VP) (F : PH) :=
 Spec prog 15 #[] F fun v F => ∃ v_16 : Bool, v = (.bool v_16) ∧
 Spec prog 16 #[(Sl.v l_0), (.int .i64 30)] F fun v F => ∃ v_18 : Sl, v = (Sl.v v_18) ∧
 Spec prog 33 #[(Sl.v w_1), (.int .i64 16)] F fun v F => ∃ v_20 : ByteArray, v = (.string v_20) ∧
 (IntKind.i64.wrap ((v_20.size : Int) + 1)) ≠ 0 ∧ Spec prog 17 #[(Sl.v v_18), (.string v_20), (.int .i64 (Int.tmod (IntKind.i64.wrap at_2) (IntKind.i64.wrap ((v_20.size : Int) + 1))))] F fun v F => ∃ v_31 : Int, ∃ v_31_1 : Bool, v = (.tuple #[(.int .i64 v_31), (.bool v_31_1)]) ∧
 ((v_31 < 0 →
  R (.bool false) F) ∧
 (¬ (v_31 < 0) →
  (((v_20.size : Int) < (IntKind.i64.wrap ((Int.tmod (IntKind.i64.wrap at_2) (IntKind.i64.wrap ((v_20.size : Int) + 1))) + v_31)) →
   R (.bool false) F) ∧
  (¬ ((v_20.size : Int) < (IntKind.i64.wrap ((Int.tmod (IntKind.i64.wrap at_2) (IntKind.i64.wrap ((v_20.size : Int) + 1))) + v_31))) →
   (((!(v_31_1 == (decide (0 < v_31)))) = true →
    R (.bool false) F) ∧
   ((!(v_31_1 == (decide (0 < v_31)))) = false →
    ((v_31_1 = true →
     0 ≤ (Int.tmod (IntKind.i64.wrap at_2) (IntKind.i64.wrap ((v_20.size : Int) + 1))) ∧ 0 ≤ (IntKind.i64.wrap ((Int.tmod (IntKind.i64.wrap at_2) (IntKind.i64.wrap ((v_20.size : Int) + 1))) + v_31)) ∧ (Int.toNat (Int.tmod (IntKind.i64.wrap at_2) (IntKind.i64.wrap ((v_20.size : Int) + 1)))) ≤ (Int.toNat (IntKind.i64.wrap ((Int.tmod (IntKind.i64.wrap at_2) (IntKind.i64.wrap ((v_20.size : Int) + 1))) + v_31))) ∧ (Int.toNat (IntKind.i64.wrap ((Int.tmod (IntKind.i64.wrap at_2) (IntKind.i64.wrap ((v_20.size : Int) + 1))) + v_31))) ≤ v_20.size ∧ 
     Spec prog 23 #[(Sl.v v_18), (.string (v_20.extract (Int.toNat (Int.tmod (IntKind.i64.wrap at_2) (IntKind.i64.wrap ((v_20.size : Int) + 1)))) (Int.toNat (IntKind.i64.wrap ((Int.tmod (IntKind.i64.wrap at_2) (IntKind.i64.wrap ((v_20.size : Int) + 1))) + v_31)))))] F fun v F => ∃ v_60 : Bool, v = (.bool v_60) ∧
     (((!v_60) = true →
      R (.bool false) F) ∧
     ((!v_60) = false →
      b8j1 v_16 v_18 v_20 at_2 v_31 R F))) ∧
    (v_31_1 = false →
     b8j1 v_16 v_18 v_20 at_2 v_31 R F))))))))
end Go.Proofs.YtnjcgpihfmklfaaDoor
