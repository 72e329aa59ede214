/-
  What functions of the program do, in a clean form, each with the proof that its code does so. Printed by a program.
-/
import Derived.Test.YtnjcgpihfmklfaaDoorGf
import Derived.Test.YtnjcgpihfmklfaaDoorPhp
namespace Go.Proofs.YtnjcgpihfmklfaaDoor
open Go Go.Proofs.Tryd
set_option maxRecDepth 10000
set_option maxHeartbeats 4000000
/- 7 koine.koinelaw04.PatternMeaning -/
def b7j2 (v_25 : Bool) (v_31 : ByteArray) (v_49 : Sl) (v_59 : Sl) (v_66 : Sl) (split_21 : Bool) (more_22 : Bool) (either_24 : Bool) (R : VP) (F : PH) :=
 Spec prog 23 #[(Sl.v v_49), (.string v_31)] F fun v F => ∃ v_139 : Bool, v = (.bool v_139) ∧
 (((v_139 == split_21) = true →
  Spec prog 23 #[(Sl.v v_59), (.string v_31)] F fun v F => ∃ v_145 : Bool, v = (.bool v_145) ∧
  (((v_145 == either_24) = true →
   Spec prog 23 #[(Sl.v v_66), (.string v_31)] F fun v F => ∃ v_152 : Bool, v = (.bool v_152) ∧
   (((v_152 == more_22) = true →
    R (.bool v_25) F) ∧
   ((v_152 == more_22) = false →
    R (.bool false) F))) ∧
  ((v_145 == either_24) = false →
   R (.bool false) F))) ∧
 ((v_139 == split_21) = false →
  R (.bool false) F))
def b7j1 (v_25 : Bool) (v_27 : Sl) (v_29 : Sl) (v_31 : ByteArray) (v_49 : Sl) (v_59 : Sl) (v_66 : Sl) (split_21 : Bool) (more_22 : Bool) (R : VP) (F : PH) :=
 Spec prog 23 #[(Sl.v v_27), (.string v_31)] F fun v F => ∃ v_131 : Bool, v = (.bool v_131) ∧
 ((v_131 = true →
  b7j2 v_25 v_31 v_49 v_59 v_66 split_21 more_22 true R F) ∧
 (v_131 = false →
  Spec prog 23 #[(Sl.v v_29), (.string v_31)] F fun v F => ∃ v_135 : Bool, v = (.bool v_135) ∧
  b7j2 v_25 v_31 v_49 v_59 v_66 split_21 more_22 v_135 R F))
def b7j3 (N1 : Bool → Bool → Int → PH → Prop) (v_25 : Bool) (v_27 : Sl) (v_29 : Sl) (v_31 : ByteArray) (v_49 : Sl) (v_59 : Sl) (v_66 : Sl) (k_23 : Int) (split_21_2 : Bool) (more_22_2 : Bool) (R : VP) (F : PH) :=
 N1 split_21_2 more_22_2 (IntKind.i64.wrap (k_23 + 1)) F
def b7j4 (N1 : Bool → Bool → Int → PH → Prop) (v_25 : Bool) (v_27 : Sl) (v_29 : Sl) (v_31 : ByteArray) (v_49 : Sl) (v_59 : Sl) (v_66 : Sl) (more_22_1 : Bool) (k_23 : Int) (split_21_3 : Bool) (R : VP) (F : PH) :=
 ((more_22_1 = true →
  b7j3 N1 v_25 v_27 v_29 v_31 v_49 v_59 v_66 k_23 split_21_3 true R F) ∧
 (more_22_1 = false →
  ((0 < k_23 →
   0 ≤ k_23 ∧ 0 ≤ (Int.toNat k_23) ∧ (Int.toNat k_23) ≤ v_31.size ∧ 
   Spec prog 23 #[(Sl.v v_27), (.string (v_31.extract 0 (Int.toNat k_23)))] F fun v F => ∃ v_119 : Bool, v = (.bool v_119) ∧
   ((v_119 = true →
    0 ≤ k_23 ∧ (Int.toNat k_23) ≤ v_31.size ∧ v_31.size ≤ v_31.size ∧ 
    Spec prog 23 #[(Sl.v v_66), (.string (v_31.extract (Int.toNat k_23) v_31.size))] F fun v F => ∃ v_126 : Bool, v = (.bool v_126) ∧
    b7j3 N1 v_25 v_27 v_29 v_31 v_49 v_59 v_66 k_23 split_21_3 v_126 R F) ∧
   (v_119 = false →
    b7j3 N1 v_25 v_27 v_29 v_31 v_49 v_59 v_66 k_23 split_21_3 false R F))) ∧
  (¬ (0 < k_23) →
   b7j3 N1 v_25 v_27 v_29 v_31 v_49 v_59 v_66 k_23 split_21_3 false R F))))
def b7L1 (N1 : Bool → Bool → Int → PH → Prop) (v_25 : Bool) (v_27 : Sl) (v_29 : Sl) (v_31 : ByteArray) (v_49 : Sl) (v_59 : Sl) (v_66 : Sl) (R : VP) (split_21_1 : Bool) (more_22_1 : Bool) (k_23 : Int) (F : PH) :=
 ((k_23 ≤ (v_31.size : Int) →
  ((split_21_1 = true →
   b7j4 N1 v_25 v_27 v_29 v_31 v_49 v_59 v_66 more_22_1 k_23 true R F) ∧
  (split_21_1 = false →
   0 ≤ k_23 ∧ 0 ≤ (Int.toNat k_23) ∧ (Int.toNat k_23) ≤ v_31.size ∧ 
   Spec prog 23 #[(Sl.v v_27), (.string (v_31.extract 0 (Int.toNat k_23)))] F fun v F => ∃ v_101 : Bool, v = (.bool v_101) ∧
   ((v_101 = true →
    0 ≤ k_23 ∧ (Int.toNat k_23) ≤ v_31.size ∧ v_31.size ≤ v_31.size ∧ 
    Spec prog 23 #[(Sl.v v_29), (.string (v_31.extract (Int.toNat k_23) v_31.size))] F fun v F => ∃ v_107 : Bool, v = (.bool v_107) ∧
    b7j4 N1 v_25 v_27 v_29 v_31 v_49 v_59 v_66 more_22_1 k_23 v_107 R F) ∧
   (v_101 = false →
    b7j4 N1 v_25 v_27 v_29 v_31 v_49 v_59 v_66 more_22_1 k_23 false R F))))) ∧
 (¬ (k_23 ≤ (v_31.size : Int)) →
  b7j1 v_25 v_27 v_29 v_31 v_49 v_59 v_66 split_21_1 more_22_1 R F))
def b7 (l_0 : Sl) (vm_1 : Sl) (w_2 : Sl) (R : VP) (F : PH) :=
 Spec prog 15 #[] F fun v F => ∃ v_25 : Bool, v = (.bool v_25) ∧
 Spec prog 16 #[(Sl.v l_0), (.int .i64 20)] F fun v F => ∃ v_27 : Sl, v = (Sl.v v_27) ∧
 Spec prog 16 #[(Sl.v vm_1), (.int .i64 20)] F fun v F => ∃ v_29 : Sl, v = (Sl.v v_29) ∧
 Spec prog 33 #[(Sl.v w_2), (.int .i64 8)] F fun v F => ∃ v_31 : ByteArray, v = (.string v_31) ∧
 Spec prog 19 #[(Sl.v v_27)] F fun v F => ∃ v_34 : ByteArray, ∃ v_34_1 : Int, v = (.tuple #[(.string v_34), (.int .i64 v_34_1)]) ∧
 Spec prog 19 #[(Sl.v v_29)] F fun v F => ∃ v_39 : ByteArray, ∃ v_39_1 : Int, v = (.tuple #[(.string v_39), (.int .i64 v_39_1)]) ∧
 (ByteArray.mk #[40]).size + v_34.size ≤ 9223372036854775807 ∧
 ((ByteArray.mk #[40]) ++ v_34).size + (ByteArray.mk #[41, 40]).size ≤ 9223372036854775807 ∧
 (((ByteArray.mk #[40]) ++ v_34) ++ (ByteArray.mk #[41, 40])).size + v_39.size ≤ 9223372036854775807 ∧
 ((((ByteArray.mk #[40]) ++ v_34) ++ (ByteArray.mk #[41, 40])) ++ v_39).size + (ByteArray.mk #[41]).size ≤ 9223372036854775807 ∧
 Spec prog 25 #[(.string (((((ByteArray.mk #[40]) ++ v_34) ++ (ByteArray.mk #[41, 40])) ++ v_39) ++ (ByteArray.mk #[41])))] F fun v F => ∃ v_49 : Sl, ∃ v_49_1 : Int, v = (.tuple #[(Sl.v v_49), (.int .i64 v_49_1)]) ∧
 (ByteArray.mk #[40]).size + v_34.size ≤ 9223372036854775807 ∧
 ((ByteArray.mk #[40]) ++ v_34).size + (ByteArray.mk #[41, 124, 40]).size ≤ 9223372036854775807 ∧
 (((ByteArray.mk #[40]) ++ v_34) ++ (ByteArray.mk #[41, 124, 40])).size + v_39.size ≤ 9223372036854775807 ∧
 ((((ByteArray.mk #[40]) ++ v_34) ++ (ByteArray.mk #[41, 124, 40])) ++ v_39).size + (ByteArray.mk #[41]).size ≤ 9223372036854775807 ∧
 Spec prog 25 #[(.string (((((ByteArray.mk #[40]) ++ v_34) ++ (ByteArray.mk #[41, 124, 40])) ++ v_39) ++ (ByteArray.mk #[41])))] F fun v F => ∃ v_59 : Sl, ∃ v_59_1 : Int, v = (.tuple #[(Sl.v v_59), (.int .i64 v_59_1)]) ∧
 (ByteArray.mk #[40]).size + v_34.size ≤ 9223372036854775807 ∧
 ((ByteArray.mk #[40]) ++ v_34).size + (ByteArray.mk #[41, 42]).size ≤ 9223372036854775807 ∧
 Spec prog 25 #[(.string (((ByteArray.mk #[40]) ++ v_34) ++ (ByteArray.mk #[41, 42])))] F fun v F => ∃ v_66 : Sl, ∃ v_66_1 : Int, v = (.tuple #[(Sl.v v_66), (.int .i64 v_66_1)]) ∧
 ((v_34_1 ≠ 0 →
  R (.bool false) F) ∧
 (¬ (v_34_1 ≠ 0) →
  ((v_39_1 ≠ 0 →
   R (.bool false) F) ∧
  (¬ (v_39_1 ≠ 0) →
   ((v_49_1 ≠ 0 →
    R (.bool false) F) ∧
   (¬ (v_49_1 ≠ 0) →
    ((v_59_1 ≠ 0 →
     R (.bool false) F) ∧
    (¬ (v_59_1 ≠ 0) →
     ((v_66_1 ≠ 0 →
      R (.bool false) F) ∧
     (¬ (v_66_1 ≠ 0) →
      (∃ (I1 : Nat → Bool → Bool → Int → PH → Prop) (m1 : Nat), I1 m1 false (v_31.toList == (ByteArray.mk #[]).toList) 0 F ∧ ∀ m1 split_21_1 more_22_1 k_23 F, I1 m1 split_21_1 more_22_1 k_23 F →
       b7L1 (nx3 I1 m1) v_25 v_27 v_29 v_31 v_49 v_59 v_66 R split_21_1 more_22_1 k_23 F)))))))))))
end Go.Proofs.YtnjcgpihfmklfaaDoor
