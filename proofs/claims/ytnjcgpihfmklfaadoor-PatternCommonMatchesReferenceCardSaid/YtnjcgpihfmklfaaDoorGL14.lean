/-
  What functions of the program do, in a clean form, each with the proof that its code does so. Printed by a program.
-/
import Derived.Test.YtnjcgpihfmklfaaDoorGf
import Derived.Test.YtnjcgpihfmklfaaDoorPhp
namespace Go.Proofs.YtnjcgpihfmklfaaDoor
open Go Go.Proofs.Tryd
set_option maxRecDepth 10000
set_option maxHeartbeats 4000000
/- 10 koine.koinelaw04.PatternCommon -/
def b10j1 (v_19 : Bool) (v_21 : Sl) (v_23 : Sl) (v_27 : ByteArray) (v_44_1 : Int) (v_49_1 : Int) (long_18 : Bool) (R : VP) (F : PH) :=
 ((v_44_1 = 0 →
  ((v_49_1 = 0 →
   (((!(v_27.toList == (ByteArray.mk #[]).toList)) = true →
    Spec prog 23 #[(Sl.v v_21), (.string v_27)] F fun v F => ∃ v_130 : Bool, v = (.bool v_130) ∧
    ((v_130 = true →
     Spec prog 23 #[(Sl.v v_23), (.string v_27)] F fun v F => ∃ v_135 : Bool, v = (.bool v_135) ∧
     ((v_135 = true →
      ((long_18 = true →
       R (.bool v_19) F) ∧
      (long_18 = false →
       R (.bool false) F))) ∧
     (v_135 = false →
      R (.bool false) F))) ∧
    (v_130 = false →
     R (.bool false) F))) ∧
   ((!(v_27.toList == (ByteArray.mk #[]).toList)) = false →
    R (.bool false) F))) ∧
  (¬ (v_49_1 = 0) →
   R (.bool false) F))) ∧
 (¬ (v_44_1 = 0) →
  R (.bool false) F))
def b10 (l_0 : Sl) (vm_1 : Sl) (R : VP) (F : PH) :=
 Spec prog 15 #[] F fun v F => ∃ v_19 : Bool, v = (.bool v_19) ∧
 Spec prog 16 #[(Sl.v l_0), (.int .i64 20)] F fun v F => ∃ v_21 : Sl, v = (Sl.v v_21) ∧
 Spec prog 16 #[(Sl.v vm_1), (.int .i64 20)] F fun v F => ∃ v_23 : Sl, v = (Sl.v v_23) ∧
 Spec prog 31 #[(Sl.v v_21), (Sl.v v_23)] F fun v F => ∃ v_27 : ByteArray, ∃ v_27_1 : Int, v = (.tuple #[(.string v_27), (.int .i64 v_27_1)]) ∧
 Spec prog 31 #[(Sl.v v_23), (Sl.v v_21)] F fun v F => ∃ v_33 : ByteArray, ∃ v_33_1 : Int, v = (.tuple #[(.string v_33), (.int .i64 v_33_1)]) ∧
 Spec prog 31 #[(Sl.v v_21), (Sl.v v_21)] F fun v F => ∃ v_39 : ByteArray, ∃ v_39_1 : Int, v = (.tuple #[(.string v_39), (.int .i64 v_39_1)]) ∧
 Spec prog 29 #[(Sl.v v_21)] F fun v F => ∃ v_44 : ByteArray, ∃ v_44_1 : Int, v = (.tuple #[(.string v_44), (.int .i64 v_44_1)]) ∧
 Spec prog 29 #[(Sl.v v_23)] F fun v F => ∃ v_49 : ByteArray, ∃ v_49_1 : Int, v = (.tuple #[(.string v_49), (.int .i64 v_49_1)]) ∧
 (((!(v_27.toList == v_33.toList)) = true →
  R (.bool false) F) ∧
 ((!(v_27.toList == v_33.toList)) = false →
  ((v_27_1 ≠ v_33_1 →
   R (.bool false) F) ∧
  (¬ (v_27_1 ≠ v_33_1) →
   (((!(v_39.toList == v_44.toList)) = true →
    R (.bool false) F) ∧
   ((!(v_39.toList == v_44.toList)) = false →
    ((v_39_1 ≠ v_44_1 →
     R (.bool false) F) ∧
    (¬ (v_39_1 ≠ v_44_1) →
     ((v_27_1 ≠ 0 →
      ((v_27_1 = 3 →
       (((v_27.toList == (ByteArray.mk #[]).toList) = true →
        R (.bool v_19) F) ∧
       ((v_27.toList == (ByteArray.mk #[]).toList) = false →
        R (.bool false) F))) ∧
      (¬ (v_27_1 = 3) →
       R (.bool false) F))) ∧
     (¬ (v_27_1 ≠ 0) →
      (((v_44.size : Int) ≤ (v_27.size : Int) →
       (((v_49.size : Int) ≤ (v_27.size : Int) →
        (((v_44.size : Int) < (v_27.size : Int) →
         (((v_49.size : Int) < (v_27.size : Int) →
          b10j1 v_19 v_21 v_23 v_27 v_44_1 v_49_1 true R F) ∧
         (¬ ((v_49.size : Int) < (v_27.size : Int)) →
          b10j1 v_19 v_21 v_23 v_27 v_44_1 v_49_1 (!(Op.bytesLess v_27.toList v_49.toList)) R F))) ∧
        (¬ ((v_44.size : Int) < (v_27.size : Int)) →
         (((!(Op.bytesLess v_27.toList v_44.toList)) = true →
          (((v_49.size : Int) < (v_27.size : Int) →
           b10j1 v_19 v_21 v_23 v_27 v_44_1 v_49_1 true R F) ∧
          (¬ ((v_49.size : Int) < (v_27.size : Int)) →
           b10j1 v_19 v_21 v_23 v_27 v_44_1 v_49_1 (!(Op.bytesLess v_27.toList v_49.toList)) R F))) ∧
         ((!(Op.bytesLess v_27.toList v_44.toList)) = false →
          b10j1 v_19 v_21 v_23 v_27 v_44_1 v_49_1 false R F))))) ∧
       (¬ ((v_49.size : Int) ≤ (v_27.size : Int)) →
        b10j1 v_19 v_21 v_23 v_27 v_44_1 v_49_1 false R F))) ∧
      (¬ ((v_44.size : Int) ≤ (v_27.size : Int)) →
       b10j1 v_19 v_21 v_23 v_27 v_44_1 v_49_1 false R F))))))))))))
set_option maxHeartbeats 4000000
/- 14 koine.koinelaw04.PatternLiterals -/
def b14 (s_0 : ByteArray) (t_1 : ByteArray) (R : VP) (F : PH) :=
 Spec prog 15 #[] F fun v F => ∃ v_16 : Bool, v = (.bool v_16) ∧
 ((40 < (s_0.size : Int) →
  R (.bool v_16) F) ∧
 (¬ (40 < (s_0.size : Int)) →
  ((40 < (t_1.size : Int) →
   R (.bool v_16) F) ∧
  (¬ (40 < (t_1.size : Int)) →
   Spec prog 36 #[(.string s_0)] F fun v F => ∃ v_28 : Sl, ∃ v_28_1 : Int, v = (.tuple #[(Sl.v v_28), (.int .i64 v_28_1)]) ∧
   Spec prog 19 #[(Sl.v v_28)] F fun v F => ∃ v_33 : ByteArray, ∃ v_33_1 : Int, v = (.tuple #[(.string v_33), (.int .i64 v_33_1)]) ∧
   Spec prog 25 #[(.string v_33)] F fun v F => ∃ v_38 : Sl, ∃ v_38_1 : Int, v = (.tuple #[(Sl.v v_38), (.int .i64 v_38_1)]) ∧
   ((v_28_1 ≠ 0 →
    R (.bool false) F) ∧
   (¬ (v_28_1 ≠ 0) →
    ((v_33_1 ≠ 0 →
     R (.bool false) F) ∧
    (¬ (v_33_1 ≠ 0) →
     ((v_38_1 ≠ 0 →
      R (.bool false) F) ∧
     (¬ (v_38_1 ≠ 0) →
      Spec prog 27 #[(Sl.v v_38), (Sl.v v_28)] F fun v F => ∃ v_54 : Bool, v = (.bool v_54) ∧
      (((!v_54) = true →
       R (.bool false) F) ∧
      ((!v_54) = false →
       Spec prog 21 #[(Sl.v v_28)] F fun v F => ∃ v_59 : Int, v = (.int .i64 v_59) ∧
       ((v_59 ≠ 0 →
        R (.bool false) F) ∧
       (¬ (v_59 ≠ 0) →
        s_0.size + t_1.size ≤ 9223372036854775807 ∧
        Spec prog 17 #[(Sl.v v_28), (.string (s_0 ++ t_1)), (.int .i64 0)] F fun v F => ∃ v_67 : Int, ∃ v_67_1 : Bool, v = (.tuple #[(.int .i64 v_67), (.bool v_67_1)]) ∧
        Spec prog 29 #[(Sl.v v_28)] F fun v F => ∃ v_72 : ByteArray, ∃ v_72_1 : Int, v = (.tuple #[(.string v_72), (.int .i64 v_72_1)]) ∧
        (((s_0.toList == (ByteArray.mk #[]).toList) = true →
         (((!v_67_1) = true →
          ((v_72_1 = 3 →
           Spec prog 23 #[(Sl.v v_28), (.string (ByteArray.mk #[]))] F fun v F => ∃ v_85 : Bool, v = (.bool v_85) ∧
           ((v_85 = true →
            Spec prog 23 #[(Sl.v v_28), (.string t_1)] F fun v F => ∃ v_90 : Bool, v = (.bool v_90) ∧
            (((v_90 == (t_1.toList == (ByteArray.mk #[]).toList)) = true →
             R (.bool v_16) F) ∧
            ((v_90 == (t_1.toList == (ByteArray.mk #[]).toList)) = false →
             R (.bool false) F))) ∧
           (v_85 = false →
            R (.bool false) F))) ∧
          (¬ (v_72_1 = 3) →
           R (.bool false) F))) ∧
         ((!v_67_1) = false →
          R (.bool false) F))) ∧
        ((s_0.toList == (ByteArray.mk #[]).toList) = false →
         ((v_67_1 = true →
          ((v_67 = (s_0.size : Int) →
           ((v_72_1 = 0 →
            (((v_72.toList == s_0.toList) = true →
             Spec prog 23 #[(Sl.v v_28), (.string s_0)] F fun v F => ∃ v_117 : Bool, v = (.bool v_117) ∧
             ((v_117 = true →
              Spec prog 23 #[(Sl.v v_28), (.string t_1)] F fun v F => ∃ v_122 : Bool, v = (.bool v_122) ∧
              (((v_122 == (s_0.toList == t_1.toList)) = true →
               R (.bool v_16) F) ∧
              ((v_122 == (s_0.toList == t_1.toList)) = false →
               R (.bool false) F))) ∧
             (v_117 = false →
              R (.bool false) F))) ∧
            ((v_72.toList == s_0.toList) = false →
             R (.bool false) F))) ∧
           (¬ (v_72_1 = 0) →
            R (.bool false) F))) ∧
          (¬ (v_67 = (s_0.size : Int)) →
           R (.bool false) F))) ∧
         (v_67_1 = false →
          R (.bool false) F))))))))))))))))))
end Go.Proofs.YtnjcgpihfmklfaaDoor
