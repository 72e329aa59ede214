/-
  What functions of the program do, in a clean form, each with the proof that its code does so. Printed by a program.
-/
import Derived.Test.YtnjcgpihfmklfaaDoorGf
import Derived.Test.YtnjcgpihfmklfaaDoorPho
namespace Go.Proofs.YtnjcgpihfmklfaaDoor
open Go Go.Proofs.Tryd
set_option maxRecDepth 10000
set_option maxHeartbeats 4000000
/- 3 koine.koinelaw04.PatternMatchesReference -/
def b3 (l_0 : Sl) (s_1 : ByteArray) (at_2 : Int) (R : VP) (F : PH) :=
 Spec prog 15 #[] F fun v F => ∃ v_17 : Bool, v = (.bool v_17) ∧
 Spec prog 16 #[(Sl.v l_0), (.int .i64 40)] F fun v F => ∃ v_19 : Sl, v = (Sl.v v_19) ∧
 ((24 < (s_1.size : Int) →
  R (.bool v_17) F) ∧
 (¬ (24 < (s_1.size : Int)) →
  Spec prog 17 #[(Sl.v v_19), (.string s_1), (.int .i64 at_2)] F fun v F => ∃ v_28 : Int, ∃ v_28_1 : Bool, v = (.tuple #[(.int .i64 v_28), (.bool v_28_1)]) ∧
  Spec prog 18 #[(Sl.v v_19), (.string s_1), (.int .i64 at_2)] F fun v F => ∃ v_35 : Int, ∃ v_35_1 : Bool, v = (.tuple #[(.int .i64 v_35), (.bool v_35_1)]) ∧
  Spec prog 19 #[(Sl.v v_19)] F fun v F => ∃ v_40 : ByteArray, ∃ v_40_1 : Int, v = (.tuple #[(.string v_40), (.int .i64 v_40_1)]) ∧
  Spec prog 20 #[(Sl.v v_19)] F fun v F => ∃ v_45 : ByteArray, ∃ v_45_1 : Int, v = (.tuple #[(.string v_45), (.int .i64 v_45_1)]) ∧
  Spec prog 21 #[(Sl.v v_19)] F fun v F => ∃ v_49 : Int, v = (.int .i64 v_49) ∧
  Spec prog 22 #[(Sl.v v_19)] F fun v F => ∃ v_51 : Int, v = (.int .i64 v_51) ∧
  ((v_49 = v_51 →
   Spec prog 23 #[(Sl.v v_19), (.string s_1)] F fun v F => ∃ v_56 : Bool, v = (.bool v_56) ∧
   Spec prog 24 #[(Sl.v v_19), (.string s_1)] F fun v F => ∃ v_59 : Bool, v = (.bool v_59) ∧
   (((v_56 == v_59) = true →
    ((v_28 = v_35 →
     (((v_28_1 == v_35_1) = true →
      (((v_40.toList == v_45.toList) = true →
       ((v_40_1 = v_45_1 →
        R (.bool v_17) F) ∧
       (¬ (v_40_1 = v_45_1) →
        R (.bool false) F))) ∧
      ((v_40.toList == v_45.toList) = false →
       R (.bool false) F))) ∧
     ((v_28_1 == v_35_1) = false →
      R (.bool false) F))) ∧
    (¬ (v_28 = v_35) →
     R (.bool false) F))) ∧
   ((v_56 == v_59) = false →
    R (.bool false) F))) ∧
  (¬ (v_49 = v_51) →
   R (.bool false) F))))
set_option maxHeartbeats 4000000
/- 13 koine.koinelaw04.PatternAnyMatchesReference -/
def b13 (p_0 : Sl) (s_1 : ByteArray) (at_2 : Int) (R : VP) (F : PH) :=
 Spec prog 15 #[] F fun v F => ∃ v_20 : Bool, v = (.bool v_20) ∧
 ((20 < (p_0.len : Int) →
  R (.bool v_20) F) ∧
 (¬ (20 < (p_0.len : Int)) →
  ((300 < (s_1.size : Int) →
   R (.bool v_20) F) ∧
  (¬ (300 < (s_1.size : Int)) →
   Spec prog 36 #[(.string s_1)] F fun v F => ∃ v_32 : Sl, ∃ v_32_1 : Int, v = (.tuple #[(Sl.v v_32), (.int .i64 v_32_1)]) ∧
   Spec prog 37 #[(.string s_1)] F fun v F => ∃ v_37 : Sl, ∃ v_37_1 : Int, v = (.tuple #[(Sl.v v_37), (.int .i64 v_37_1)]) ∧
   ((v_32_1 ≠ v_37_1 →
    R (.bool false) F) ∧
   (¬ (v_32_1 ≠ v_37_1) →
    Spec prog 27 #[(Sl.v v_32), (Sl.v v_37)] F fun v F => ∃ v_46 : Bool, v = (.bool v_46) ∧
    (((!v_46) = true →
     R (.bool false) F) ∧
    ((!v_46) = false →
     Spec prog 21 #[(Sl.v p_0)] F fun v F => ∃ v_51 : Int, v = (.int .i64 v_51) ∧
     Spec prog 22 #[(Sl.v p_0)] F fun v F => ∃ v_53 : Int, v = (.int .i64 v_53) ∧
     ((v_51 ≠ v_53 →
      R (.bool false) F) ∧
     (¬ (v_51 ≠ v_53) →
      ((24 < (s_1.size : Int) →
       R (.bool v_20) F) ∧
      (¬ (24 < (s_1.size : Int)) →
       Spec prog 17 #[(Sl.v p_0), (.string s_1), (.int .i64 at_2)] F fun v F => ∃ v_64 : Int, ∃ v_64_1 : Bool, v = (.tuple #[(.int .i64 v_64), (.bool v_64_1)]) ∧
       Spec prog 18 #[(Sl.v p_0), (.string s_1), (.int .i64 at_2)] F fun v F => ∃ v_71 : Int, ∃ v_71_1 : Bool, v = (.tuple #[(.int .i64 v_71), (.bool v_71_1)]) ∧
       Spec prog 19 #[(Sl.v p_0)] F fun v F => ∃ v_76 : ByteArray, ∃ v_76_1 : Int, v = (.tuple #[(.string v_76), (.int .i64 v_76_1)]) ∧
       Spec prog 20 #[(Sl.v p_0)] F fun v F => ∃ v_81 : ByteArray, ∃ v_81_1 : Int, v = (.tuple #[(.string v_81), (.int .i64 v_81_1)]) ∧
       Spec prog 23 #[(Sl.v p_0), (.string s_1)] F fun v F => ∃ v_86 : Bool, v = (.bool v_86) ∧
       Spec prog 24 #[(Sl.v p_0), (.string s_1)] F fun v F => ∃ v_89 : Bool, v = (.bool v_89) ∧
       (((v_86 == v_89) = true →
        ((v_64 = v_71 →
         (((v_64_1 == v_71_1) = true →
          (((v_76.toList == v_81.toList) = true →
           ((v_76_1 = v_81_1 →
            R (.bool v_20) F) ∧
           (¬ (v_76_1 = v_81_1) →
            R (.bool false) F))) ∧
          ((v_76.toList == v_81.toList) = false →
           R (.bool false) F))) ∧
         ((v_64_1 == v_71_1) = false →
          R (.bool false) F))) ∧
        (¬ (v_64 = v_71) →
         R (.bool false) F))) ∧
       ((v_86 == v_89) = false →
        R (.bool false) F))))))))))))))
end Go.Proofs.YtnjcgpihfmklfaaDoor
