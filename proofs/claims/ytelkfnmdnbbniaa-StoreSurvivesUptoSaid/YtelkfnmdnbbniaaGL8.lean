/-
  What functions of the program do, in a clean form, each with the proof that its code does so. Printed by a program.
-/
import Derived.Test.YtelkfnmdnbbniaaGf
import Derived.Test.YtelkfnmdnbbniaaPhp
namespace Go.Proofs.Ytelkfnmdnbbniaa
open Go Go.Proofs.Try
set_option maxRecDepth 10000
set_option maxHeartbeats 4000000
/- 8 koine.koinelaw35.StoreSurvives -/
def b8j2 (v_25 : Bool) (R : VP) (F : PH) :=
 R (.bool v_25) F
abbrev b8J2 (v_25 : Bool) (R : VP) (E : En) (F : PH) : Prop := E 7 = (.bool v_25) ∧ b8j2 v_25 R F
def b8j4 (N1 : Option Addr → Int → PH → Prop) (l_1 : Sl) (v_25 : Bool) (v_29 : Option Addr) (b10 : Nat) (i_12_1 : Int) (failed_13 : Bool) (t_21 : Option Addr) (next_22 : Option Addr) (e_23 : Int) (R : VP) (F : PH) :=
 ((e_23 = 340 →
  (((!failed_13) = true →
   R (.bool v_25) F) ∧
  ((!failed_13) = false →
   R (.bool false) F))) ∧
 (¬ (e_23 = 340) →
  ∃ next22a_ : Addr, next_22 = some next22a_ ∧ ∃ v_181 : Array Value, v_181.size = 3 ∧ F.row next22a_ v_181 ∧
  Spec prog 13 #[(.pointer t_21), (.agg v_181)] F fun v F => ∃ v_182 : Bool, v = (.bool v_182) ∧
  (((!v_182) = true →
   R (.bool false) F) ∧
  ((!v_182) = false →
   ∃ v_185 : Array Value, v_185.size = 3 ∧ F.row next22a_ v_185 ∧
   v_185.size = 3 ∧ (∀ v ∈ v_185.toList, storable v) ∧ ∃ c e, F (Addr.mk b10 0 none).block = some (.cells c e (0, 0)) ∧ (Addr.mk b10 0 none).spot = none ∧ (Addr.mk b10 0 none).off + 3 ≤ c.size ∧
   atF (F.set (Addr.mk b10 0 none).block (.cells (wr c (Addr.mk b10 0 none).off v_185.toList) e)) fun F =>
   N1 t_21 (IntKind.i64.wrap (i_12_1 + 1)) F))))
abbrev b8J4 (N1 : Option Addr → Int → PH → Prop) (l_1 : Sl) (v_25 : Bool) (v_29 : Option Addr) (b10 : Nat) (i_12_1 : Int) (failed_13 : Bool) (t_21 : Option Addr) (next_22 : Option Addr) (e_23 : Int) (R : VP) (E : En) (F : PH) : Prop := E 1 = (Sl.v l_1) ∧ E 7 = (.bool v_25) ∧ E 8 = (.pointer v_29) ∧ E 10 = (.pointer (some (Addr.mk b10 0 none))) ∧ E 12 = (.int .i64 i_12_1) ∧ E 13 = (.bool failed_13) ∧ E 21 = (.pointer t_21) ∧ E 22 = (.pointer next_22) ∧ E 23 = (.int .i64 e_23) ∧ b8j4 N1 l_1 v_25 v_29 b10 i_12_1 failed_13 t_21 next_22 e_23 R F
def b8j3 (N1 : Option Addr → Int → PH → Prop) (l_1 : Sl) (v_25 : Bool) (v_29 : Option Addr) (b10 : Nat) (i_12_1 : Int) (failed_13 : Bool) (t_21 : Option Addr) (next_22 : Option Addr) (e_23 : Int) (fine_24 : Bool) (R : VP) (F : PH) :=
 (((!fine_24) = true →
  R (.bool false) F) ∧
 ((!fine_24) = false →
  (((!failed_13) = true →
   ((e_23 ≠ 0 →
    ((e_23 ≠ 1 →
     ((e_23 ≠ 351 →
      ((e_23 ≠ 340 →
       R (.bool false) F) ∧
      (¬ (e_23 ≠ 340) →
       b8j4 N1 l_1 v_25 v_29 b10 i_12_1 failed_13 t_21 next_22 e_23 R F))) ∧
     (¬ (e_23 ≠ 351) →
      b8j4 N1 l_1 v_25 v_29 b10 i_12_1 failed_13 t_21 next_22 e_23 R F))) ∧
    (¬ (e_23 ≠ 1) →
     b8j4 N1 l_1 v_25 v_29 b10 i_12_1 failed_13 t_21 next_22 e_23 R F))) ∧
   (¬ (e_23 ≠ 0) →
    b8j4 N1 l_1 v_25 v_29 b10 i_12_1 failed_13 t_21 next_22 e_23 R F))) ∧
  ((!failed_13) = false →
   b8j4 N1 l_1 v_25 v_29 b10 i_12_1 failed_13 t_21 next_22 e_23 R F))))
abbrev b8J3 (N1 : Option Addr → Int → PH → Prop) (l_1 : Sl) (v_25 : Bool) (v_29 : Option Addr) (b10 : Nat) (i_12_1 : Int) (failed_13 : Bool) (R : VP) (E : En) (F : PH) : Prop := ∃ t_21 : Option Addr, ∃ next_22 : Option Addr, ∃ e_23 : Int, ∃ fine_24 : Bool, E 1 = (Sl.v l_1) ∧ E 7 = (.bool v_25) ∧ E 8 = (.pointer v_29) ∧ E 10 = (.pointer (some (Addr.mk b10 0 none))) ∧ E 12 = (.int .i64 i_12_1) ∧ E 13 = (.bool failed_13) ∧ E 21 = (.pointer t_21) ∧ E 22 = (.pointer next_22) ∧ E 23 = (.int .i64 e_23) ∧ E 24 = (.bool fine_24) ∧ b8j3 N1 l_1 v_25 v_29 b10 i_12_1 failed_13 t_21 next_22 e_23 fine_24 R F
def b8L1 (N1 : Option Addr → Int → PH → Prop) (l_1 : Sl) (v_25 : Bool) (v_29 : Option Addr) (b10 : Nat) (failed_13 : Bool) (R : VP) (s_9_1 : Option Addr) (i_12_1 : Int) (F : PH) :=
 ((i_12_1 < (l_1.len : Int) →
  ((i_12_1 < 40 →
   ∃ v_141 : Array Value, v_141.size = 3 ∧ F.row (Addr.mk b10 0 none) v_141 ∧
   ∃ a144_ : Addr, l_1.base = some a144_ ∧ 0 ≤ i_12_1 ∧ i_12_1 < (l_1.len : Int) ∧
   ∃ v_145 : Array Value, v_145.size = 2 ∧ F.row (Addr.add a144_ (Int.toNat i_12_1 * 2)) v_145 ∧
   ((Spec prog 14 #[(.pointer v_29), (.pointer s_9_1), (.agg v_141), (.agg v_145)] F fun v F => ∃ v_146 : Option Addr, ∃ v_146_1 : Array Value, ∃ v_146_2 : Int, ∃ v_146_3 : Bool, v = (.tuple #[(.pointer v_146), (.agg v_146_1), (.int .i64 v_146_2), (.bool v_146_3)]) ∧
   ∀ b22, F b22 = none → atF (F.set b22 (.cells (#[.int .i64 0, .int .i64 0, .slice none 0 0]) 28)) fun F =>
   v_146_1.size = 3 ∧ (∀ v ∈ v_146_1.toList, storable v) ∧ ∃ c e, F (Addr.mk b22 0 none).block = some (.cells c e (0, 0)) ∧ (Addr.mk b22 0 none).spot = none ∧ (Addr.mk b22 0 none).off + 3 ≤ c.size ∧
   atF (F.set (Addr.mk b22 0 none).block (.cells (wr c (Addr.mk b22 0 none).off v_146_1.toList) e)) fun F =>
   b8j3 N1 l_1 v_25 v_29 b10 i_12_1 failed_13 v_146 (some (Addr.mk b22 0 none)) v_146_2 v_146_3 R F) ∧
   (∀ b22_1, F b22_1 = none → atF (F.set b22_1 (.cells (#[.int .i64 0, .int .i64 0, .slice none 0 0]) 28)) fun F =>
   Spec prog 14 #[(.pointer v_29), (.pointer s_9_1), (.agg v_141), (.agg v_145)] F fun v F => ∃ v_146_4 : Option Addr, ∃ v_146_5 : Array Value, ∃ v_146_6 : Int, ∃ v_146_7 : Bool, v = (.tuple #[(.pointer v_146_4), (.agg v_146_5), (.int .i64 v_146_6), (.bool v_146_7)]) ∧
   v_146_5.size = 3 ∧ (∀ v ∈ v_146_5.toList, storable v) ∧ ∃ c e, F (Addr.mk b22_1 0 none).block = some (.cells c e (0, 0)) ∧ (Addr.mk b22_1 0 none).spot = none ∧ (Addr.mk b22_1 0 none).off + 3 ≤ c.size ∧
   atF (F.set (Addr.mk b22_1 0 none).block (.cells (wr c (Addr.mk b22_1 0 none).off v_146_5.toList) e)) fun F =>
   b8j3 N1 l_1 v_25 v_29 b10 i_12_1 failed_13 v_146_4 (some (Addr.mk b22_1 0 none)) v_146_6 v_146_7 R F))) ∧
  (¬ (i_12_1 < 40) →
   b8j2 v_25 R F))) ∧
 (¬ (i_12_1 < (l_1.len : Int)) →
  b8j2 v_25 R F))
def b8j1 (l_1 : Sl) (v_25 : Bool) (v_29 : Option Addr) (b10 : Nat) (s_9 : Option Addr) (i_12 : Int) (failed_13 : Bool) (R : VP) (F : PH) :=
 (∃ (I1 : Nat → Option Addr → Int → PH → Prop) (m1 : Nat), I1 m1 s_9 i_12 F ∧ ∀ m1 s_9_1 i_12_1 F, I1 m1 s_9_1 i_12_1 F →
  b8L1 (nx2 I1 m1) l_1 v_25 v_29 b10 failed_13 R s_9_1 i_12_1 F)
abbrev b8J1 (l_1 : Sl) (v_25 : Bool) (v_29 : Option Addr) (b10 : Nat) (R : VP) (E : En) (F : PH) : Prop := ∃ s_9 : Option Addr, ∃ i_12 : Int, ∃ failed_13 : Bool, E 1 = (Sl.v l_1) ∧ E 7 = (.bool v_25) ∧ E 8 = (.pointer v_29) ∧ E 9 = (.pointer s_9) ∧ E 10 = (.pointer (some (Addr.mk b10 0 none))) ∧ E 12 = (.int .i64 i_12) ∧ E 13 = (.bool failed_13) ∧ b8j1 l_1 v_25 v_29 b10 s_9 i_12 failed_13 R F
def b8j6 (N2 : Option Addr → Int → Bool → PH → Prop) (l_1 : Sl) (v_25 : Bool) (v_29 : Option Addr) (b10 : Nat) (i_12_2 : Int) (s_9_3 : Option Addr) (failed_13_2 : Bool) (R : VP) (F : PH) :=
 N2 s_9_3 (IntKind.i64.wrap (i_12_2 + 1)) failed_13_2 F
abbrev b8J6 (N2 : Option Addr → Int → Bool → PH → Prop) (l_1 : Sl) (v_25 : Bool) (v_29 : Option Addr) (b10 : Nat) (i_12_2 : Int) (R : VP) (E : En) (F : PH) : Prop := ∃ s_9_3 : Option Addr, ∃ failed_13_2 : Bool, E 1 = (Sl.v l_1) ∧ E 7 = (.bool v_25) ∧ E 8 = (.pointer v_29) ∧ E 9 = (.pointer s_9_3) ∧ E 10 = (.pointer (some (Addr.mk b10 0 none))) ∧ E 12 = (.int .i64 i_12_2) ∧ E 13 = (.bool failed_13_2) ∧ b8j6 N2 l_1 v_25 v_29 b10 i_12_2 s_9_3 failed_13_2 R F
def b8j7 (N2 : Option Addr → Int → Bool → PH → Prop) (l_1 : Sl) (v_25 : Bool) (v_29 : Option Addr) (b10 : Nat) (i_12_2 : Int) (v_94 : Option Addr) (v_100 : Sl) (R : VP) (F : PH) :=
 ∃ c e, F (Addr.mk b10 2 none).block = some (.cells c e (0, 0)) ∧ (Addr.mk b10 2 none).spot = none ∧ (Addr.mk b10 2 none).off < c.size ∧
 atF (F.set (Addr.mk b10 2 none).block (.cells (c.setIfInBounds (Addr.mk b10 2 none).off (Sl.v v_100)) e)) fun F =>
 ∃ v_117 : Int, F.cell (Addr.mk b10 0 none) = some (.int .i64 v_117) ∧
 ∃ c e, F (Addr.mk b10 1 none).block = some (.cells c e (0, 0)) ∧ (Addr.mk b10 1 none).spot = none ∧ (Addr.mk b10 1 none).off < c.size ∧
 atF (F.set (Addr.mk b10 1 none).block (.cells (c.setIfInBounds (Addr.mk b10 1 none).off (.int .i64 v_117)) e)) fun F =>
 Spec prog 19 #[(.pointer v_94)] F fun v F => ∃ v_120 : Int, v = (.int .i64 v_120) ∧
 ((v_120 ≠ 0 →
  R (.bool false) F) ∧
 (¬ (v_120 ≠ 0) →
  ∃ v_122 : Array Value, v_122.size = 3 ∧ F.row (Addr.mk b10 0 none) v_122 ∧
  Spec prog 35 #[(.agg v_122)] F fun v F => ∃ v_123 : Array Value, v = (.agg v_123) ∧
  v_123.size = 3 ∧ (∀ v ∈ v_123.toList, storable v) ∧ ∃ c e, F (Addr.mk b10 0 none).block = some (.cells c e (0, 0)) ∧ (Addr.mk b10 0 none).spot = none ∧ (Addr.mk b10 0 none).off + 3 ≤ c.size ∧
  atF (F.set (Addr.mk b10 0 none).block (.cells (wr c (Addr.mk b10 0 none).off v_123.toList) e)) fun F =>
  b8j6 N2 l_1 v_25 v_29 b10 i_12_2 v_94 true R F))
abbrev b8J7 (N2 : Option Addr → Int → Bool → PH → Prop) (l_1 : Sl) (v_25 : Bool) (v_29 : Option Addr) (b10 : Nat) (i_12_2 : Int) (v_94 : Option Addr) (v_100 : Sl) (R : VP) (E : En) (F : PH) : Prop := E 1 = (Sl.v l_1) ∧ E 7 = (.bool v_25) ∧ E 8 = (.pointer v_29) ∧ E 10 = (.pointer (some (Addr.mk b10 0 none))) ∧ E 12 = (.int .i64 i_12_2) ∧ E 13 = (.bool true) ∧ E 18 = (.pointer v_94) ∧ E 20 = (Sl.v v_100) ∧ b8j7 N2 l_1 v_25 v_29 b10 i_12_2 v_94 v_100 R F
def b8j5 (N2 : Option Addr → Int → Bool → PH → Prop) (l_1 : Sl) (v_25 : Bool) (v_29 : Option Addr) (s_9_2 : Option Addr) (b10 : Nat) (i_12_2 : Int) (failed_13_1 : Bool) (t_14 : Option Addr) (next_15 : Option Addr) (e_16 : Int) (fine_17 : Bool) (R : VP) (F : PH) :=
 (((!fine_17) = true →
  R (.bool false) F) ∧
 ((!fine_17) = false →
  ((e_16 = 340 →
   ∃ v_77 : Sl, F.cell (Addr.mk b10 2 none) = some (Sl.v v_77) ∧
   Spec prog 17 #[(.pointer s_9_2)] F fun v F => ∃ v_75 : Sl, v = (Sl.v v_75) ∧
   F.cell (Addr.mk b10 2 none) = some (Sl.v v_77) ∧ Spec prog 21 #[(Sl.v v_75), (Sl.v v_77)] F fun v F => ∃ v_78 : Bool, v = (.bool v_78) ∧
   (((!v_78) = true →
    R (.bool false) F) ∧
   ((!v_78) = false →
    Spec prog 19 #[(.pointer s_9_2)] F fun v F => ∃ v_82 : Int, v = (.int .i64 v_82) ∧
    ((v_82 ≠ 340 →
     R (.bool false) F) ∧
    (¬ (v_82 ≠ 340) →
     Spec prog 25 #[(.pointer s_9_2), (Sl.v Sl.nil)] F fun v F => ∃ v_87 : Int, v = (.int .i64 v_87) ∧
     ((v_87 ≠ 340 →
      R (.bool false) F) ∧
     (¬ (v_87 ≠ 340) →
      Spec prog 34 #[(.pointer v_29)] F fun v F => v = Value.tuple #[] ∧
      Spec prog 20 #[(.pointer v_29)] F fun v F => ∃ v_94 : Option Addr, ∃ v_94_1 : Int, v = (.tuple #[(.pointer v_94), (.int .i64 v_94_1)]) ∧
      ((v_94_1 ≠ 0 →
       R (.bool false) F) ∧
      (¬ (v_94_1 ≠ 0) →
       Spec prog 17 #[(.pointer v_94)] F fun v F => ∃ v_100 : Sl, v = (Sl.v v_100) ∧
       ∃ v_103 : Sl, F.cell (Addr.mk b10 2 none) = some (Sl.v v_103) ∧
       Spec prog 21 #[(Sl.v v_100), (Sl.v v_103)] F fun v F => ∃ v_104 : Bool, v = (.bool v_104) ∧
       (((!v_104) = true →
        ∃ next15a_ : Addr, next_15 = some next15a_ ∧ ∃ v_109 : Sl, F.cell (Addr.add next15a_ 2) = some (Sl.v v_109) ∧
        Spec prog 21 #[(Sl.v v_100), (Sl.v v_109)] F fun v F => ∃ v_110 : Bool, v = (.bool v_110) ∧
        (((!v_110) = true →
         R (.bool false) F) ∧
        ((!v_110) = false →
         b8j7 N2 l_1 v_25 v_29 b10 i_12_2 v_94 v_100 R F))) ∧
       ((!v_104) = false →
        b8j7 N2 l_1 v_25 v_29 b10 i_12_2 v_94 v_100 R F))))))))))) ∧
  (¬ (e_16 = 340) →
   ∃ next15a__1 : Addr, next_15 = some next15a__1 ∧ ∃ v_125 : Array Value, v_125.size = 3 ∧ F.row next15a__1 v_125 ∧
   v_125.size = 3 ∧ (∀ v ∈ v_125.toList, storable v) ∧ ∃ c e, F (Addr.mk b10 0 none).block = some (.cells c e (0, 0)) ∧ (Addr.mk b10 0 none).spot = none ∧ (Addr.mk b10 0 none).off + 3 ≤ c.size ∧
   atF (F.set (Addr.mk b10 0 none).block (.cells (wr c (Addr.mk b10 0 none).off v_125.toList) e)) fun F =>
   b8j6 N2 l_1 v_25 v_29 b10 i_12_2 t_14 failed_13_1 R F))))
abbrev b8J5 (N2 : Option Addr → Int → Bool → PH → Prop) (l_1 : Sl) (v_25 : Bool) (v_29 : Option Addr) (s_9_2 : Option Addr) (b10 : Nat) (i_12_2 : Int) (failed_13_1 : Bool) (R : VP) (E : En) (F : PH) : Prop := ∃ t_14 : Option Addr, ∃ next_15 : Option Addr, ∃ e_16 : Int, ∃ fine_17 : Bool, E 1 = (Sl.v l_1) ∧ E 7 = (.bool v_25) ∧ E 8 = (.pointer v_29) ∧ E 9 = (.pointer s_9_2) ∧ E 10 = (.pointer (some (Addr.mk b10 0 none))) ∧ E 12 = (.int .i64 i_12_2) ∧ E 13 = (.bool failed_13_1) ∧ E 14 = (.pointer t_14) ∧ E 15 = (.pointer next_15) ∧ E 16 = (.int .i64 e_16) ∧ E 17 = (.bool fine_17) ∧ b8j5 N2 l_1 v_25 v_29 s_9_2 b10 i_12_2 failed_13_1 t_14 next_15 e_16 fine_17 R F
def b8L2 (N2 : Option Addr → Int → Bool → PH → Prop) (l_1 : Sl) (v_25 : Bool) (v_29 : Option Addr) (b10 : Nat) (R : VP) (s_9_2 : Option Addr) (i_12_2 : Int) (failed_13_1 : Bool) (F : PH) :=
 ((i_12_2 < (l_1.len : Int) →
  ((i_12_2 < 20 →
   (((!failed_13_1) = true →
    ∃ v_60 : Array Value, v_60.size = 3 ∧ F.row (Addr.mk b10 0 none) v_60 ∧
    ∃ a63_ : Addr, l_1.base = some a63_ ∧ 0 ≤ i_12_2 ∧ i_12_2 < (l_1.len : Int) ∧
    ∃ v_64 : Array Value, v_64.size = 2 ∧ F.row (Addr.add a63_ (Int.toNat i_12_2 * 2)) v_64 ∧
    ((Spec prog 14 #[(.pointer v_29), (.pointer s_9_2), (.agg v_60), (.agg v_64)] F fun v F => ∃ v_65 : Option Addr, ∃ v_65_1 : Array Value, ∃ v_65_2 : Int, ∃ v_65_3 : Bool, v = (.tuple #[(.pointer v_65), (.agg v_65_1), (.int .i64 v_65_2), (.bool v_65_3)]) ∧
    ∀ b15, F b15 = none → atF (F.set b15 (.cells (#[.int .i64 0, .int .i64 0, .slice none 0 0]) 28)) fun F =>
    v_65_1.size = 3 ∧ (∀ v ∈ v_65_1.toList, storable v) ∧ ∃ c e, F (Addr.mk b15 0 none).block = some (.cells c e (0, 0)) ∧ (Addr.mk b15 0 none).spot = none ∧ (Addr.mk b15 0 none).off + 3 ≤ c.size ∧
    atF (F.set (Addr.mk b15 0 none).block (.cells (wr c (Addr.mk b15 0 none).off v_65_1.toList) e)) fun F =>
    b8j5 N2 l_1 v_25 v_29 s_9_2 b10 i_12_2 failed_13_1 v_65 (some (Addr.mk b15 0 none)) v_65_2 v_65_3 R F) ∧
    (∀ b15_1, F b15_1 = none → atF (F.set b15_1 (.cells (#[.int .i64 0, .int .i64 0, .slice none 0 0]) 28)) fun F =>
    Spec prog 14 #[(.pointer v_29), (.pointer s_9_2), (.agg v_60), (.agg v_64)] F fun v F => ∃ v_65_4 : Option Addr, ∃ v_65_5 : Array Value, ∃ v_65_6 : Int, ∃ v_65_7 : Bool, v = (.tuple #[(.pointer v_65_4), (.agg v_65_5), (.int .i64 v_65_6), (.bool v_65_7)]) ∧
    v_65_5.size = 3 ∧ (∀ v ∈ v_65_5.toList, storable v) ∧ ∃ c e, F (Addr.mk b15_1 0 none).block = some (.cells c e (0, 0)) ∧ (Addr.mk b15_1 0 none).spot = none ∧ (Addr.mk b15_1 0 none).off + 3 ≤ c.size ∧
    atF (F.set (Addr.mk b15_1 0 none).block (.cells (wr c (Addr.mk b15_1 0 none).off v_65_5.toList) e)) fun F =>
    b8j5 N2 l_1 v_25 v_29 s_9_2 b10 i_12_2 failed_13_1 v_65_4 (some (Addr.mk b15_1 0 none)) v_65_6 v_65_7 R F))) ∧
   ((!failed_13_1) = false →
    b8j1 l_1 v_25 v_29 b10 s_9_2 i_12_2 failed_13_1 R F))) ∧
  (¬ (i_12_2 < 20) →
   b8j1 l_1 v_25 v_29 b10 s_9_2 i_12_2 failed_13_1 R F))) ∧
 (¬ (i_12_2 < (l_1.len : Int)) →
  b8j1 l_1 v_25 v_29 b10 s_9_2 i_12_2 failed_13_1 R F))
def b8 (n_0 : Int) (l_1 : Sl) (x_2 : Array Value) (R : VP) (F : PH) :=
 ∀ b5, F b5 = none → atF (F.set b5 (.cells x_2 66)) fun F =>
 Spec prog 10 #[] F fun v F => ∃ v_25 : Bool, v = (.bool v_25) ∧
 Spec prog 12 #[(.int .u8 n_0)] F fun v F => ∃ v_28 : Int, v = (.int .i64 v_28) ∧
 Spec prog 11 #[(.int .i64 v_28)] F fun v F => ∃ v_29 : Option Addr, ∃ v_29_1 : Option Addr, ∃ v_29_2 : Array Value, ∃ v_29_3 : Bool, v = (.tuple #[(.pointer v_29), (.pointer v_29_1), (.agg v_29_2), (.bool v_29_3)]) ∧
 ∀ b10, F b10 = none → atF (F.set b10 (.cells (#[.int .i64 0, .int .i64 0, .slice none 0 0]) 28)) fun F =>
 v_29_2.size = 3 ∧ (∀ v ∈ v_29_2.toList, storable v) ∧ ∃ c e, F (Addr.mk b10 0 none).block = some (.cells c e (0, 0)) ∧ (Addr.mk b10 0 none).spot = none ∧ (Addr.mk b10 0 none).off + 3 ≤ c.size ∧
 atF (F.set (Addr.mk b10 0 none).block (.cells (wr c (Addr.mk b10 0 none).off v_29_2.toList) e)) fun F =>
 (((!v_29_3) = true →
  R (.bool false) F) ∧
 ((!v_29_3) = false →
  ∃ v_38 : Int, F.cell (Addr.mk b5 0 none) = some (.int .u8 v_38) ∧
  ∃ v_42 : Sl, F.cell (Addr.mk b5 1 none) = some (Sl.v v_42) ∧
  Spec prog 33 #[(Sl.v v_42)] F fun v F => ∃ v_43 : Sl, v = (Sl.v v_43) ∧
  F.cell (Addr.mk b5 0 none) = some (.int .u8 v_38) ∧ Spec prog 32 #[(.pointer v_29), (.int .i64 (IntKind.i64.wrap (1 + (IntKind.i64.wrap v_38)))), (Sl.v v_43)] F fun v F => v = Value.tuple #[] ∧
  F.cell (Addr.mk b5 0 none) = some (.int .u8 v_38) ∧ (∃ (I2 : Nat → Option Addr → Int → Bool → PH → Prop) (m2 : Nat), I2 m2 v_29_1 0 false F ∧ ∀ m2 s_9_2 i_12_2 failed_13_1 F, I2 m2 s_9_2 i_12_2 failed_13_1 F →
   b8L2 (nx3 I2 m2) l_1 v_25 v_29 b10 R s_9_2 i_12_2 failed_13_1 F)))
theorem c8 {n_0 : Int} {l_1 : Sl} {x_2 : Array Value} {R : VP} {F : PH} (h : b8 n_0 l_1 x_2 R F) : Spec prog 8 #[(.int .u8 n_0), (Sl.v l_1), (.agg x_2)] F R := by
 refine spec_of (args := [(.int .u8 n_0), (Sl.v l_1), (.agg x_2)]) func8 rfl ntmps8 rfl ?_
 unfold b8 at h
 refine cR ?_
 refine s_ef (k_box (cs := x_2) rfl rfl ?_)
 intro b5 hf_b5
 replace h := atE (h b5 hf_b5)
 refine sR (.bool false) (r_assign rfl rfl) ?_
 refine HL_nil ?_
 refine cR ?_
 refine s_ef (k_call (vs := []) cb10 evN (h.mono ?_))
 clear h; rintro v F ⟨v_25, rfl, h⟩
 refine sR (.bool v_25) (r_assign rfl rfl) ?_
 refine HL_nil ?_
 refine cR (sR (.int .u8 n_0) (r_move rfl rfl) ?_)
 refine s_ef (k_call (vs := [(.int .u8 n_0)]) cb12 (evC rfl evN) (h.mono ?_))
 clear h; rintro v F ⟨v_28, rfl, h⟩
 refine s_ef (k_call (vs := [(.int .i64 v_28)]) cb11 (evC rfl evN) (h.mono ?_))
 clear h; rintro v F ⟨v_29, v_29_1, v_29_2, v_29_3, rfl, h⟩
 refine sR (.tuple #[(.pointer v_29), (.pointer v_29_1), (.agg v_29_2), (.bool v_29_3)]) (r_move rfl rfl) ?_
 refine sR (.pointer v_29) (r_extract rfl rfl rfl) ?_
 refine sR (.pointer v_29_1) (r_extract rfl rfl rfl) ?_
 refine sR (.agg v_29_2) (r_extract rfl rfl rfl) ?_
 refine sR (.bool v_29_3) (r_extract rfl rfl rfl) ?_
 refine s_ef (k_alloc zr28 ?_)
 intro b10 hf_b10
 replace h := atE (h b10 hf_b10)
 refine sR (.pointer v_29) (r_assign rfl rfl) ?_
 refine sR (.pointer v_29_1) (r_assign rfl rfl) ?_
 refine s_ef0 (k_storeN (vs := v_29_2) rfl rfl sz28 (by decide) ?_)
 obtain ⟨hz1, hz2, c, e, hz3, hz4, hz5, h⟩ := h
 refine ⟨hz1, hz2, c, e, hz3, hz4, hz5, ?_⟩
 replace h := atE h
 refine sR (.bool v_29_3) (r_assign rfl rfl) ?_
 refine HL_nil ?_
 refine HC_seq ?_
 refine cR (sR (.bool v_29_3) (r_move rfl rfl) ?_)
 refine sR (.bool (!v_29_3)) (r_not rfl rfl) ?_
 refine HL_nil ?_
 refine HC_cond (t := (!v_29_3)) rfl (fun hc => ?_) (fun hc => ?_)
 replace h := h.1 hc
 clear hc
 refine cR (sR (.bool false) (r_assign rfl rfl) ?_)
 exact HL_nil (HC_ret (rt1 f8 R rfl rfl h))
 replace h := h.2 hc
 clear hc
 refine HC_skip ?_
 refine HC_seq ?_
 refine HC_draw0 (by kernel_rfl) (fun hp => ?_)
 refine gU 0 (.pointer v_29) rfl (fun _ => r_move rfl rfl) hp ?_
 refine gU 1 (.pointer (some (Addr.mk b5 0 none))) rfl (fun _ => w_fieldAddr rfl underlying66 rfl rfl sz5 rfl rfl) hp ?_
 obtain ⟨v_38, hc38, h⟩ := h
 refine gR 2 (.int .u8 v_38) rfl (r_load1 rfl rfl underlying5 rfl hc38) hp (fun S2 q2 => ?_)
 replace hp := holdC (i := 2) (q2 _ (r_load1 rfl rfl underlying5 rfl hc38)) hp
 refine gU 3 (.int .i64 (IntKind.i64.wrap v_38)) rfl (fun _ => r_convInt rfl rfl underlying5 underlying3) hp ?_
 refine gU 4 (.int .i64 (IntKind.i64.wrap (1 + (IntKind.i64.wrap v_38)))) rfl (fun _ => r_add rfl rfl rfl) hp ?_
 refine gU 5 (.pointer (some (Addr.mk b5 1 none))) rfl (fun _ => w_fieldAddr rfl underlying66 rfl rfl sz39 rfl rfl) hp ?_
 obtain ⟨v_42, hc42, h⟩ := h
 refine gR 6 (Sl.v v_42) rfl (r_load1 rfl rfl underlying39 rfl hc42) hp (fun S6 q6 => ?_)
 replace hp := holdC (i := 6) (q6 _ (r_load1 rfl rfl underlying39 rfl hc42)) hp
 refine RG_eff1 (i := 7) (by kernel_rfl) (g_op (Sp' := [(2, S2)]) rfl rfl (k_call (vs := [(Sl.v v_42)]) cb33 (evC rfl evN) (h.mono ?_)))
 clear h; rintro v F ⟨v_43, rfl, h⟩
 obtain ⟨hk_3, h⟩ := h
 refine holdI (holdC (i := 2) (q2 _ (r_load1 rfl rfl underlying5 rfl hk_3)) hold0) (fun hp => ?_)
 refine RG_eff1 (i := 8) (by kernel_rfl) (g_op (Sp' := [(2, S2)]) rfl rfl (k_call (vs := [(.pointer v_29), (.int .i64 (IntKind.i64.wrap (1 + (IntKind.i64.wrap v_38)))), (Sl.v v_43)]) cb32 (evC rfl (evC rfl (evC rfl evN))) (h.mono ?_)))
 clear h; rintro v F ⟨rfl, h⟩
 obtain ⟨hk_4, h⟩ := h
 refine holdI (holdC (i := 2) (q2 _ (r_load1 rfl rfl underlying5 rfl hk_4)) hold0) (fun hp => ?_)
 refine RG_done (by kernel_rfl) ?_
 refine cR (sR (.int .i64 0) (r_assign rfl rfl) ?_)
 refine HL_nil ?_
 refine cR (sR (.bool false) (r_assign rfl rfl) ?_)
 refine HL_nil ?_
 refine HC_seqJ (b8J1 l_1 v_25 v_29 b10 R) ?_ ?_
 clear h; rintro E F ⟨s_9, i_12, failed_13, h1, h7, h8, h9, h10, h12, h13, h⟩
 unfold b8j1 at h
 refine HC_seqJ (b8J2 v_25 R) ?_ ?_
 clear h; rintro E F ⟨h7, h⟩
 unfold b8j2 at h
 refine cR (sR _ (r_move rfl h7) ?_)
 refine sR (.bool v_25) (r_assign rfl rfl) ?_
 exact HL_nil (HC_ret (rt1 f8 R rfl rfl h))
 refine HC_block ?_
 obtain ⟨I1, m1, hI0, hr⟩ := h
 refine HC_loop (fun m1 E F => ∃ s_9_1 : Option Addr, ∃ i_12_1 : Int, E 1 = (Sl.v l_1) ∧ E 7 = (.bool v_25) ∧ E 8 = (.pointer v_29) ∧ E 9 = (.pointer s_9_1) ∧ E 10 = (.pointer (some (Addr.mk b10 0 none))) ∧ E 12 = (.int .i64 i_12_1) ∧ E 13 = (.bool failed_13) ∧ I1 m1 s_9_1 i_12_1 F) m1 ⟨_, _, h1, h7, h8, h9, h10, h12, h13, hI0⟩ ?_
 clear hI0; rintro m1 E F ⟨s_9_1, i_12_1, h1, h7, h8, h9, h10, h12, h13, hI⟩
 have h := hr m1 s_9_1 i_12_1 F hI
 clear hr hI
 unfold b8L1 at h
 refine HC_seq ?_
 refine cR (sR _ (r_move rfl h12) ?_)
 refine sR _ (r_move rfl h1) ?_
 refine sR (.int .i64 (l_1.len : Int)) (r_lenSl rfl rfl underlying22) ?_
 refine sR (.bool (decide (i_12_1 < (l_1.len : Int)))) (r_lss rfl rfl rfl) ?_
 refine sR (.bool (decide (i_12_1 < (l_1.len : Int)))) (r_move rfl rfl) ?_
 by_cases hc : i_12_1 < (l_1.len : Int)
 replace h := h.1 hc
 refine kN 131 (decide_eq_true hc) ?_
 refine kN 132 (decide_eq_true hc) ?_
 refine sR _ (r_move rfl h12) ?_
 refine sR (.bool (decide (i_12_1 < 40))) (r_lss rfl rfl rfl) ?_
 refine sR (.bool (decide (i_12_1 < 40))) (r_pt rfl rfl) ?_
 refine HL_nil ?_
 refine HC_cond (t := (decide (i_12_1 < 40))) rfl (fun hc => ?_) (fun hc => ?_)
 replace h := h.1 (of_decide_eq_true hc)
 clear hc
 refine HC_skip ?_
 refine HC_seq ?_
 refine HC_block ?_
 refine HC_seqJ (b8J3 (nx2 I1 m1) l_1 v_25 v_29 b10 i_12_1 failed_13 R) ?_ ?_
 clear h; rintro E F ⟨t_21, next_22, e_23, fine_24, h1, h7, h8, h10, h12, h13, h21, h22, h23, h24, h⟩
 unfold b8j3 at h
 refine HC_seqJ (b8J4 (nx2 I1 m1) l_1 v_25 v_29 b10 i_12_1 failed_13 t_21 next_22 e_23 R) ?_ ?_
 clear h; rintro E F ⟨h1, h7, h8, h10, h12, h13, h21, h22, h23, h⟩
 unfold b8j4 at h
 refine HC_seq ?_
 refine cR (sR _ (r_move rfl h23) ?_)
 refine sR (.bool (decide (e_23 = 340))) (w_eql rfl rfl) ?_
 refine HL_nil ?_
 refine HC_cond (t := (decide (e_23 = 340))) rfl (fun hc => ?_) (fun hc => ?_)
 replace h := h.1 (of_decide_eq_true hc)
 clear hc
 refine cR (sR _ (r_move rfl h13) ?_)
 refine sR (.bool (!failed_13)) (r_not rfl rfl) ?_
 refine sR (.bool (!failed_13)) (r_move rfl rfl) ?_
 by_cases hc : (!failed_13) = true
 replace h := h.1 hc
 refine kN 176 hc ?_
 refine kN 177 hc ?_
 refine sR _ (r_move rfl h7) ?_
 refine sR (.bool v_25) (r_pt rfl rfl) ?_
 refine sR (.bool v_25) (r_assign rfl rfl) ?_
 exact HL_nil (HC_ret (rt1 f8 R rfl rfl h))
 replace hc := eq_false_of_ne_true hc; replace h := h.2 hc
 refine kN 176 hc ?_
 refine kN 177 hc ?_
 refine s_skip ?_
 refine sR (.bool false) (r_pf rfl rfl) ?_
 refine sR (.bool false) (r_assign rfl rfl) ?_
 exact HL_nil (HC_ret (rt1 f8 R rfl rfl h))
 replace h := h.2 (of_decide_eq_false hc)
 clear hc
 refine HC_skip ?_
 refine HC_seq ?_
 refine cR (sR _ (r_move rfl h21) ?_)
 obtain ⟨next22a_, rfl, h⟩ := h
 obtain ⟨v_181, hs181, hc181, h⟩ := h
 refine sR (.agg v_181) (w_loadN h22 underlying28 rfl sz28 hs181 hc181) ?_
 refine s_ef (k_call (vs := [(.pointer t_21), (.agg v_181)]) cb13 (evC rfl (evC rfl evN)) (h.mono ?_))
 clear h; rintro v F ⟨v_182, rfl, h⟩
 refine sR (.bool (!v_182)) (r_not rfl rfl) ?_
 refine HL_nil ?_
 refine HC_cond (t := (!v_182)) rfl (fun hc => ?_) (fun hc => ?_)
 replace h := h.1 hc
 clear hc
 refine cR (sR (.bool false) (r_assign rfl rfl) ?_)
 exact HL_nil (HC_ret (rt1 f8 R rfl rfl h))
 replace h := h.2 hc
 clear hc
 refine HC_skip ?_
 refine HC_draw0 (by kernel_rfl) (fun hp => ?_)
 refine gU 0 (.pointer t_21) rfl (fun _ => r_move rfl h21) hp ?_
 obtain ⟨v_185, hs185, hc185, h⟩ := h
 refine gR 1 (.agg v_185) rfl (w_loadN h22 underlying28 rfl sz28 hs185 hc185) hp (fun S1 q1 => ?_)
 replace hp := holdC (i := 1) (q1 _ (w_loadN h22 underlying28 rfl sz28 hs185 hc185)) hp
 refine gU 2 (.pointer t_21) rfl (fun _ => r_assign rfl rfl) hp ?_
 refine RG_eff1 (i := 3) (by kernel_rfl) (g_op0 (Sp' := []) rfl rfl (k_storeN (vs := v_185) h10 rfl sz28 (by decide) ?_))
 obtain ⟨hz1, hz2, c, e, hz3, hz4, hz5, h⟩ := h
 refine ⟨hz1, hz2, c, e, hz3, hz4, hz5, ?_⟩
 replace h := atE h
 refine holdI hold0 (fun hp => ?_)
 refine RG_done (by kernel_rfl) ?_
 refine HC_region ?_
 refine sR _ (r_move rfl h12) ?_
 refine sR (.int .i64 (IntKind.i64.wrap (i_12_1 + 1))) (r_add rfl rfl rfl) ?_
 refine sR (.int .i64 (IntKind.i64.wrap (i_12_1 + 1))) (r_assign rfl rfl) ?_
 refine HL_nil ?_
 obtain ⟨m', hm, h⟩ := h
 exact ⟨m', hm, _, _, h1, h7, h8, rfl, h10, rfl, h13, h⟩
 refine cR (sR _ (r_move rfl h24) ?_)
 refine sR (.bool (!fine_24)) (r_not rfl rfl) ?_
 refine sR (.bool (!fine_24)) (r_move rfl rfl) ?_
 by_cases hc : (!fine_24) = true
 replace h := h.1 hc
 refine kN 152 hc ?_
 refine kN 153 hc ?_
 iterate 18 refine s_skip ?_
 refine sR (.bool true) (r_pt rfl rfl) ?_
 refine HL_nil ?_
 refine HC_condT rfl ?_
 refine cR (sR (.bool false) (r_assign rfl rfl) ?_)
 exact HL_nil (HC_ret (rt1 f8 R rfl rfl h))
 replace hc := eq_false_of_ne_true hc; replace h := h.2 hc
 refine kN 152 hc ?_
 refine kN 153 hc ?_
 refine sR _ (r_move rfl h13) ?_
 refine sR (.bool (!failed_13)) (r_not rfl rfl) ?_
 refine sR (.bool (!failed_13)) (r_move rfl rfl) ?_
 by_cases hc : (!failed_13) = true
 replace h := h.1 hc
 refine kN 155 hc ?_
 refine kN 156 hc ?_
 refine sR _ (r_move rfl h23) ?_
 refine sR (.bool (decide (e_23 ≠ 0))) (w_neq rfl rfl) ?_
 refine sR (.bool (decide (e_23 ≠ 0))) (r_pt rfl rfl) ?_
 refine sR (.bool (decide (e_23 ≠ 0))) (r_move rfl rfl) ?_
 by_cases hc : e_23 ≠ 0
 replace h := h.1 hc
 refine kN 158 (decide_eq_true hc) ?_
 refine kN 159 (decide_eq_true hc) ?_
 refine kN 160 (decide_eq_true hc) ?_
 refine sR _ (r_move rfl h23) ?_
 refine sR (.bool (decide (e_23 ≠ 1))) (w_neq rfl rfl) ?_
 refine sR (.bool (decide (e_23 ≠ 1))) (r_pt rfl rfl) ?_
 refine sR (.bool (decide (e_23 ≠ 1))) (r_move rfl rfl) ?_
 by_cases hc : e_23 ≠ 1
 replace h := h.1 hc
 refine kN 162 (decide_eq_true hc) ?_
 refine kN 163 (decide_eq_true hc) ?_
 refine kN 164 (decide_eq_true hc) ?_
 refine sR _ (r_move rfl h23) ?_
 refine sR (.bool (decide (e_23 ≠ 351))) (w_neq rfl rfl) ?_
 refine sR (.bool (decide (e_23 ≠ 351))) (r_pt rfl rfl) ?_
 refine sR (.bool (decide (e_23 ≠ 351))) (r_move rfl rfl) ?_
 by_cases hc : e_23 ≠ 351
 replace h := h.1 hc
 refine kN 166 (decide_eq_true hc) ?_
 refine kN 167 (decide_eq_true hc) ?_
 refine kN 168 (decide_eq_true hc) ?_
 refine sR _ (r_move rfl h23) ?_
 refine sR (.bool (decide (e_23 ≠ 340))) (w_neq rfl rfl) ?_
 refine sR (.bool (decide (e_23 ≠ 340))) (r_pt rfl rfl) ?_
 refine sR (.bool (decide (e_23 ≠ 340))) (r_pf rfl rfl) ?_
 refine HL_nil ?_
 refine HC_cond (t := (decide (e_23 ≠ 340))) rfl (fun hc => ?_) (fun hc => ?_)
 replace h := h.1 (of_decide_eq_true hc)
 clear hc
 refine cR (sR (.bool false) (r_assign rfl rfl) ?_)
 exact HL_nil (HC_ret (rt1 f8 R rfl rfl h))
 replace h := h.2 (of_decide_eq_false hc)
 clear hc
 refine HC_skip ?_
 show b8J4 (nx2 I1 m1) l_1 v_25 v_29 b10 i_12_1 failed_13 t_21 next_22 e_23 R _ _
 exact ⟨h1, h7, h8, h10, h12, h13, h21, h22, h23, h⟩
 replace h := h.2 hc
 refine kN 166 (decide_eq_false hc) ?_
 refine kN 167 (decide_eq_false hc) ?_
 refine kN 168 (decide_eq_false hc) ?_
 iterate 2 refine s_skip ?_
 refine sR (.bool false) (r_pf rfl rfl) ?_
 refine sR (.bool false) (r_pf rfl rfl) ?_
 refine HL_nil ?_
 refine HC_condF rfl ?_
 refine HC_skip ?_
 show b8J4 (nx2 I1 m1) l_1 v_25 v_29 b10 i_12_1 failed_13 t_21 next_22 e_23 R _ _
 exact ⟨h1, h7, h8, h10, h12, h13, h21, h22, h23, h⟩
 replace h := h.2 hc
 refine kN 162 (decide_eq_false hc) ?_
 refine kN 163 (decide_eq_false hc) ?_
 refine kN 164 (decide_eq_false hc) ?_
 iterate 2 refine s_skip ?_
 refine sR (.bool false) (r_pf rfl rfl) ?_
 refine sR (.bool false) (r_move rfl rfl) ?_
 iterate 2 refine s_skip ?_
 refine sR (.bool false) (r_pf rfl rfl) ?_
 refine sR (.bool false) (r_pf rfl rfl) ?_
 refine HL_nil ?_
 refine HC_condF rfl ?_
 refine HC_skip ?_
 show b8J4 (nx2 I1 m1) l_1 v_25 v_29 b10 i_12_1 failed_13 t_21 next_22 e_23 R _ _
 exact ⟨h1, h7, h8, h10, h12, h13, h21, h22, h23, h⟩
 replace h := h.2 hc
 refine kN 158 (decide_eq_false hc) ?_
 refine kN 159 (decide_eq_false hc) ?_
 refine kN 160 (decide_eq_false hc) ?_
 iterate 2 refine s_skip ?_
 refine sR (.bool false) (r_pf rfl rfl) ?_
 refine sR (.bool false) (r_move rfl rfl) ?_
 iterate 2 refine s_skip ?_
 refine sR (.bool false) (r_pf rfl rfl) ?_
 refine sR (.bool false) (r_move rfl rfl) ?_
 iterate 2 refine s_skip ?_
 refine sR (.bool false) (r_pf rfl rfl) ?_
 refine sR (.bool false) (r_pf rfl rfl) ?_
 refine HL_nil ?_
 refine HC_condF rfl ?_
 refine HC_skip ?_
 show b8J4 (nx2 I1 m1) l_1 v_25 v_29 b10 i_12_1 failed_13 t_21 next_22 e_23 R _ _
 exact ⟨h1, h7, h8, h10, h12, h13, h21, h22, h23, h⟩
 replace hc := eq_false_of_ne_true hc; replace h := h.2 hc
 refine kN 155 hc ?_
 refine kN 156 hc ?_
 iterate 2 refine s_skip ?_
 refine sR (.bool false) (r_pf rfl rfl) ?_
 refine sR (.bool false) (r_move rfl rfl) ?_
 iterate 2 refine s_skip ?_
 refine sR (.bool false) (r_pf rfl rfl) ?_
 refine sR (.bool false) (r_move rfl rfl) ?_
 iterate 2 refine s_skip ?_
 refine sR (.bool false) (r_pf rfl rfl) ?_
 refine sR (.bool false) (r_move rfl rfl) ?_
 iterate 2 refine s_skip ?_
 refine sR (.bool false) (r_pf rfl rfl) ?_
 refine sR (.bool false) (r_pf rfl rfl) ?_
 refine HL_nil ?_
 refine HC_condF rfl ?_
 refine HC_skip ?_
 show b8J4 (nx2 I1 m1) l_1 v_25 v_29 b10 i_12_1 failed_13 t_21 next_22 e_23 R _ _
 exact ⟨h1, h7, h8, h10, h12, h13, h21, h22, h23, h⟩
 refine HC_draw0 (by kernel_rfl) (fun hp => ?_)
 refine gU 0 (.pointer v_29) rfl (fun _ => r_move rfl h8) hp ?_
 refine gU 1 (.pointer s_9_1) rfl (fun _ => r_move rfl h9) hp ?_
 obtain ⟨v_141, hs141, hc141, h⟩ := h
 refine gR 2 (.agg v_141) rfl (w_loadN h10 underlying28 rfl sz28 hs141 hc141) hp (fun S2 q2 => ?_)
 replace hp := holdC (i := 2) (q2 _ (w_loadN h10 underlying28 rfl sz28 hs141 hc141)) hp
 refine gU 3 (Sl.v l_1) rfl (fun _ => r_move rfl h1) hp ?_
 refine gU 4 (.int .i64 i_12_1) rfl (fun _ => r_move rfl h12) hp ?_
 obtain ⟨a144_, hb144, hl144, hu144, h⟩ := h
 refine gU 5 (.pointer (some (Addr.add a144_ (Int.toNat i_12_1 * 2)))) rfl (fun _ => w_indexAddr rfl rfl underlying22 sz38 hb144 hl144 hu144) hp ?_
 obtain ⟨v_145, hs145, hc145, h⟩ := h
 refine gR 6 (.agg v_145) rfl (w_loadN rfl underlying38 rfl sz38 hs145 hc145) hp (fun S6 q6 => ?_)
 replace hp := holdC (i := 6) (q6 _ (w_loadN rfl underlying38 rfl sz38 hs145 hc145)) hp
 refine RG_eff (rs := [7, 13]) (by kernel_rfl) rfl ?_
 obtain ⟨ha0, ha1⟩ := h
 simp only [List.mem_cons, List.not_mem_nil, or_false, forall_eq_or_imp, forall_eq]
 refine ⟨?_, ?_⟩
 have h := ha0; clear ha0 ha1
 refine g_op (Sp' := []) rfl rfl (k_call (vs := [(.pointer v_29), (.pointer s_9_1), (.agg v_141), (.agg v_145)]) cb14 (evC rfl (evC rfl (evC rfl (evC rfl evN)))) (h.mono ?_))
 clear h; rintro v F ⟨v_146, v_146_1, v_146_2, v_146_3, rfl, h⟩
 refine holdI hold0 (fun hp => ?_)
 refine gU 8 (.tuple #[(.pointer v_146), (.agg v_146_1), (.int .i64 v_146_2), (.bool v_146_3)]) rfl (fun _ => r_move rfl rfl) hp ?_
 refine gU 9 (.pointer v_146) rfl (fun _ => r_extract rfl rfl rfl) hp ?_
 refine gU 10 (.agg v_146_1) rfl (fun _ => r_extract rfl rfl rfl) hp ?_
 refine gU 11 (.int .i64 v_146_2) rfl (fun _ => r_extract rfl rfl rfl) hp ?_
 refine gU 12 (.bool v_146_3) rfl (fun _ => r_extract rfl rfl rfl) hp ?_
 refine RG_eff1 (i := 13) (by kernel_rfl) (g_op (Sp' := []) rfl rfl (k_alloc zr28 ?_))
 intro b22 hf_b22
 replace h := atE (h b22 hf_b22)
 refine holdI hold0 (fun hp => ?_)
 refine gU 14 (.pointer v_146) rfl (fun _ => r_assign rfl rfl) hp ?_
 refine RG_eff1 (i := 15) (by kernel_rfl) (g_op0 (Sp' := []) rfl rfl (k_storeN (vs := v_146_1) rfl rfl sz28 (by decide) ?_))
 obtain ⟨hz1, hz2, c, e, hz3, hz4, hz5, h⟩ := h
 refine ⟨hz1, hz2, c, e, hz3, hz4, hz5, ?_⟩
 replace h := atE h
 refine holdI hold0 (fun hp => ?_)
 refine gU 16 (.int .i64 v_146_2) rfl (fun _ => r_assign rfl rfl) hp ?_
 refine gU 17 (.bool v_146_3) rfl (fun _ => r_assign rfl rfl) hp ?_
 refine RG_done (by kernel_rfl) ?_
 show b8J3 (nx2 I1 m1) l_1 v_25 v_29 b10 i_12_1 failed_13 R _ _
 exact ⟨_, _, _, _, h1, h7, h8, h10, h12, h13, rfl, rfl, rfl, rfl, h⟩
 have h := ha1; clear ha0 ha1
 refine g_op (Sp' := [(6, S6), (2, S2)]) rfl rfl (k_alloc zr28 ?_)
 intro b22_1 hf_b22_1
 replace h := atE (h b22_1 hf_b22_1)
 refine holdI (holdC (i := 6) (q6 _ (w_loadN rfl underlying38 rfl sz38 hs145 (row_set_fresh hf_b22_1 hc145))) (holdC (i := 2) (q2 _ (w_loadN h10 underlying28 rfl sz28 hs141 (row_set_fresh hf_b22_1 hc141))) hold0)) (fun hp => ?_)
 refine RG_eff1 (i := 7) (by kernel_rfl) (g_op (Sp' := []) rfl rfl (k_call (vs := [(.pointer v_29), (.pointer s_9_1), (.agg v_141), (.agg v_145)]) cb14 (evC rfl (evC rfl (evC rfl (evC rfl evN)))) (h.mono ?_)))
 clear h; rintro v F ⟨v_146_4, v_146_5, v_146_6, v_146_7, rfl, h⟩
 refine holdI hold0 (fun hp => ?_)
 refine gU 8 (.tuple #[(.pointer v_146_4), (.agg v_146_5), (.int .i64 v_146_6), (.bool v_146_7)]) rfl (fun _ => r_move rfl rfl) hp ?_
 refine gU 9 (.pointer v_146_4) rfl (fun _ => r_extract rfl rfl rfl) hp ?_
 refine gU 10 (.agg v_146_5) rfl (fun _ => r_extract rfl rfl rfl) hp ?_
 refine gU 11 (.int .i64 v_146_6) rfl (fun _ => r_extract rfl rfl rfl) hp ?_
 refine gU 12 (.bool v_146_7) rfl (fun _ => r_extract rfl rfl rfl) hp ?_
 refine gU 14 (.pointer v_146_4) rfl (fun _ => r_assign rfl rfl) hp ?_
 refine RG_eff1 (i := 15) (by kernel_rfl) (g_op0 (Sp' := []) rfl rfl (k_storeN (vs := v_146_5) rfl rfl sz28 (by decide) ?_))
 obtain ⟨hz1, hz2, c, e, hz3, hz4, hz5, h⟩ := h
 refine ⟨hz1, hz2, c, e, hz3, hz4, hz5, ?_⟩
 replace h := atE h
 refine holdI hold0 (fun hp => ?_)
 refine gU 16 (.int .i64 v_146_6) rfl (fun _ => r_assign rfl rfl) hp ?_
 refine gU 17 (.bool v_146_7) rfl (fun _ => r_assign rfl rfl) hp ?_
 refine RG_done (by kernel_rfl) ?_
 show b8J3 (nx2 I1 m1) l_1 v_25 v_29 b10 i_12_1 failed_13 R _ _
 exact ⟨_, _, _, _, h1, h7, h8, h10, h12, h13, rfl, rfl, rfl, rfl, h⟩
 replace h := h.2 (of_decide_eq_false hc)
 clear hc
 refine HC_exit ?_
 show b8J2 v_25 R _ _
 exact ⟨h7, h⟩
 replace h := h.2 hc
 refine kN 131 (decide_eq_false hc) ?_
 refine kN 132 (decide_eq_false hc) ?_
 iterate 2 refine s_skip ?_
 refine sR (.bool false) (r_pf rfl rfl) ?_
 refine HL_nil ?_
 refine HC_condF rfl ?_
 refine HC_exit ?_
 show b8J2 v_25 R _ _
 exact ⟨h7, h⟩
 refine HC_block ?_
 obtain ⟨I2, m2, hI0, hr⟩ := h
 refine HC_loop (fun m2 E F => ∃ s_9_2 : Option Addr, ∃ i_12_2 : Int, ∃ failed_13_1 : Bool, E 1 = (Sl.v l_1) ∧ E 7 = (.bool v_25) ∧ E 8 = (.pointer v_29) ∧ E 9 = (.pointer s_9_2) ∧ E 10 = (.pointer (some (Addr.mk b10 0 none))) ∧ E 12 = (.int .i64 i_12_2) ∧ E 13 = (.bool failed_13_1) ∧ I2 m2 s_9_2 i_12_2 failed_13_1 F) m2 ⟨_, _, _, rfl, rfl, rfl, rfl, rfl, rfl, rfl, hI0⟩ ?_
 clear hI0; rintro m2 E F ⟨s_9_2, i_12_2, failed_13_1, h1, h7, h8, h9, h10, h12, h13, hI⟩
 have h := hr m2 s_9_2 i_12_2 failed_13_1 F hI
 clear hr hI
 unfold b8L2 at h
 refine HC_seq ?_
 refine cR (sR _ (r_move rfl h12) ?_)
 refine sR _ (r_move rfl h1) ?_
 refine sR (.int .i64 (l_1.len : Int)) (r_lenSl rfl rfl underlying22) ?_
 refine sR (.bool (decide (i_12_2 < (l_1.len : Int)))) (r_lss rfl rfl rfl) ?_
 refine sR (.bool (decide (i_12_2 < (l_1.len : Int)))) (r_move rfl rfl) ?_
 by_cases hc : i_12_2 < (l_1.len : Int)
 replace h := h.1 hc
 refine kN 48 (decide_eq_true hc) ?_
 refine kN 49 (decide_eq_true hc) ?_
 refine sR _ (r_move rfl h12) ?_
 refine sR (.bool (decide (i_12_2 < 20))) (r_lss rfl rfl rfl) ?_
 refine sR (.bool (decide (i_12_2 < 20))) (r_pt rfl rfl) ?_
 refine sR (.bool (decide (i_12_2 < 20))) (r_move rfl rfl) ?_
 by_cases hc : i_12_2 < 20
 replace h := h.1 hc
 refine kN 51 (decide_eq_true hc) ?_
 refine kN 52 (decide_eq_true hc) ?_
 refine kN 53 (decide_eq_true hc) ?_
 refine sR _ (r_move rfl h13) ?_
 refine sR (.bool (!failed_13_1)) (r_not rfl rfl) ?_
 refine sR (.bool (!failed_13_1)) (r_pt rfl rfl) ?_
 refine HL_nil ?_
 refine HC_cond (t := (!failed_13_1)) rfl (fun hc => ?_) (fun hc => ?_)
 replace h := h.1 hc
 clear hc
 refine HC_skip ?_
 refine HC_block ?_
 refine HC_seqJ (b8J5 (nx3 I2 m2) l_1 v_25 v_29 s_9_2 b10 i_12_2 failed_13_1 R) ?_ ?_
 clear h; rintro E F ⟨t_14, next_15, e_16, fine_17, h1, h7, h8, h9, h10, h12, h13, h14, h15, h16, h17, h⟩
 unfold b8j5 at h
 refine HC_seq ?_
 refine cR (sR _ (r_move rfl h17) ?_)
 refine sR (.bool (!fine_17)) (r_not rfl rfl) ?_
 refine HL_nil ?_
 refine HC_cond (t := (!fine_17)) rfl (fun hc => ?_) (fun hc => ?_)
 replace h := h.1 hc
 clear hc
 refine cR (sR (.bool false) (r_assign rfl rfl) ?_)
 exact HL_nil (HC_ret (rt1 f8 R rfl rfl h))
 replace h := h.2 hc
 clear hc
 refine HC_skip ?_
 refine HC_seqJ (b8J6 (nx3 I2 m2) l_1 v_25 v_29 b10 i_12_2 R) ?_ ?_
 clear h; rintro E F ⟨s_9_3, failed_13_2, h1, h7, h8, h9, h10, h12, h13, h⟩
 unfold b8j6 at h
 refine HC_region ?_
 refine sR _ (r_move rfl h12) ?_
 refine sR (.int .i64 (IntKind.i64.wrap (i_12_2 + 1))) (r_add rfl rfl rfl) ?_
 refine sR (.int .i64 (IntKind.i64.wrap (i_12_2 + 1))) (r_assign rfl rfl) ?_
 refine HL_nil ?_
 obtain ⟨m', hm, h⟩ := h
 exact ⟨m', hm, _, _, _, h1, h7, h8, h9, h10, rfl, h13, h⟩
 refine cR (sR _ (r_move rfl h16) ?_)
 refine sR (.bool (decide (e_16 = 340))) (w_eql rfl rfl) ?_
 refine HL_nil ?_
 refine HC_cond (t := (decide (e_16 = 340))) rfl (fun hc => ?_) (fun hc => ?_)
 replace h := h.1 (of_decide_eq_true hc)
 clear hc
 refine HC_seq ?_
 refine HC_seq ?_
 refine HC_draw0 (by kernel_rfl) (fun hp => ?_)
 refine gU 0 (.pointer s_9_2) rfl (fun _ => r_move rfl h9) hp ?_
 refine gU 2 (.pointer (some (Addr.mk b10 2 none))) rfl (fun _ => w_fieldAddr h10 underlying28 rfl rfl sz26 rfl rfl) hp ?_
 obtain ⟨v_77, hc77, h⟩ := h
 refine gR 3 (Sl.v v_77) rfl (r_load1 rfl rfl underlying26 rfl hc77) hp (fun S3 q3 => ?_)
 replace hp := holdC (i := 3) (q3 _ (r_load1 rfl rfl underlying26 rfl hc77)) hp
 refine RG_eff1 (i := 1) (by kernel_rfl) (g_op (Sp' := [(3, S3)]) rfl rfl (k_call (vs := [(.pointer s_9_2)]) cb17 (evC rfl evN) (h.mono ?_)))
 clear h; rintro v F ⟨v_75, rfl, h⟩
 obtain ⟨hk_20, h⟩ := h
 refine holdI (holdC (i := 3) (q3 _ (r_load1 rfl rfl underlying26 rfl hk_20)) hold0) (fun hp => ?_)
 refine RG_eff1 (i := 4) (by kernel_rfl) (g_op (Sp' := []) rfl rfl (k_call (vs := [(Sl.v v_75), (Sl.v v_77)]) cb21 (evC rfl (evC rfl evN)) (h.mono ?_)))
 clear h; rintro v F ⟨v_78, rfl, h⟩
 refine holdI hold0 (fun hp => ?_)
 refine gU 5 (.bool (!v_78)) rfl (fun _ => r_not rfl rfl) hp ?_
 refine gU 6 (.bool (!v_78)) rfl (fun _ => r_move rfl rfl) hp ?_
 by_cases hc : (!v_78) = true
 replace h := h.1 hc
 refine RG_known (t := 79) (v := .bool true) (congrArg Value.bool hc) ?_
 refine RG_known (t := 80) (v := .bool true) (congrArg Value.bool hc) ?_
 refine gS 7 rfl hp ?_
 refine gS 8 rfl hp ?_
 refine gS 9 rfl hp ?_
 refine gU 10 (.bool true) rfl (fun _ => r_pick rfl rfl (fun _ => rfl) (fun h => by cases h)) hp ?_
 refine gU 11 (.bool true) rfl (fun _ => r_move rfl rfl) hp ?_
 refine gS 12 rfl hp ?_
 refine gS 13 rfl hp ?_
 refine gS 14 rfl hp ?_
 refine gU 15 (.bool true) rfl (fun _ => r_pick rfl rfl (fun _ => rfl) (fun h => by cases h)) hp ?_
 refine RG_done (by kernel_rfl) ?_
 refine HC_condT rfl ?_
 refine cR (sR (.bool false) (r_assign rfl rfl) ?_)
 exact HL_nil (HC_ret (rt1 f8 R rfl rfl h))
 replace hc := eq_false_of_ne_true hc; replace h := h.2 hc
 refine RG_known (t := 79) (v := .bool false) (congrArg Value.bool hc) ?_
 refine RG_known (t := 80) (v := .bool false) (congrArg Value.bool hc) ?_
 refine gU 7 (.pointer s_9_2) rfl (fun _ => r_move rfl h9) hp ?_
 refine RG_eff1 (i := 8) (by kernel_rfl) (g_op (Sp' := []) rfl rfl (k_call (vs := [(.pointer s_9_2)]) cb19 (evC rfl evN) (h.mono ?_)))
 clear h; rintro v F ⟨v_82, rfl, h⟩
 refine holdI hold0 (fun hp => ?_)
 refine gU 9 (.bool (decide (v_82 ≠ 340))) rfl (fun _ => w_neq rfl rfl) hp ?_
 refine gU 10 (.bool (decide (v_82 ≠ 340))) rfl (fun _ => r_pick rfl rfl (fun h => by cases h) (fun _ => rfl)) hp ?_
 refine gU 11 (.bool (decide (v_82 ≠ 340))) rfl (fun _ => r_move rfl rfl) hp ?_
 by_cases hc : v_82 ≠ 340
 replace h := h.1 hc
 refine RG_known (t := 83) (v := .bool true) (congrArg Value.bool (decide_eq_true hc)) ?_
 refine RG_known (t := 84) (v := .bool true) (congrArg Value.bool (decide_eq_true hc)) ?_
 refine RG_known (t := 85) (v := .bool true) (congrArg Value.bool (decide_eq_true hc)) ?_
 refine gS 12 rfl hp ?_
 refine gS 13 rfl hp ?_
 refine gS 14 rfl hp ?_
 refine gU 15 (.bool true) rfl (fun _ => r_pick rfl rfl (fun _ => rfl) (fun h => by cases h)) hp ?_
 refine RG_done (by kernel_rfl) ?_
 refine HC_condT rfl ?_
 refine cR (sR (.bool false) (r_assign rfl rfl) ?_)
 exact HL_nil (HC_ret (rt1 f8 R rfl rfl h))
 replace h := h.2 hc
 refine RG_known (t := 83) (v := .bool false) (congrArg Value.bool (decide_eq_false hc)) ?_
 refine RG_known (t := 84) (v := .bool false) (congrArg Value.bool (decide_eq_false hc)) ?_
 refine RG_known (t := 85) (v := .bool false) (congrArg Value.bool (decide_eq_false hc)) ?_
 refine gU 12 (.pointer s_9_2) rfl (fun _ => r_move rfl h9) hp ?_
 refine RG_eff1 (i := 13) (by kernel_rfl) (g_op (Sp' := []) rfl rfl (k_call (vs := [(.pointer s_9_2), (Sl.v Sl.nil)]) cb25 (evC rfl (evC rfl evN)) (h.mono ?_)))
 clear h; rintro v F ⟨v_87, rfl, h⟩
 refine holdI hold0 (fun hp => ?_)
 refine gU 14 (.bool (decide (v_87 ≠ 340))) rfl (fun _ => w_neq rfl rfl) hp ?_
 refine gU 15 (.bool (decide (v_87 ≠ 340))) rfl (fun _ => r_pick rfl rfl (fun h => by cases h) (fun _ => rfl)) hp ?_
 refine RG_done (by kernel_rfl) ?_
 refine HC_cond (t := (decide (v_87 ≠ 340))) rfl (fun hc => ?_) (fun hc => ?_)
 replace h := h.1 (of_decide_eq_true hc)
 clear hc
 refine cR (sR (.bool false) (r_assign rfl rfl) ?_)
 exact HL_nil (HC_ret (rt1 f8 R rfl rfl h))
 replace h := h.2 (of_decide_eq_false hc)
 clear hc
 refine HC_skip ?_
 refine cR (sR (.bool true) (r_assign rfl rfl) ?_)
 refine HL_nil ?_
 refine cR (sR _ (r_move rfl h8) ?_)
 refine s_ef (k_call (vs := [(.pointer v_29)]) cb34 (evC rfl evN) (h.mono ?_))
 clear h; rintro v F ⟨rfl, h⟩
 refine HL_nil ?_
 refine cR (sR _ (r_move rfl h8) ?_)
 refine s_ef (k_call (vs := [(.pointer v_29)]) cb20 (evC rfl evN) (h.mono ?_))
 clear h; rintro v F ⟨v_94, v_94_1, rfl, h⟩
 refine sR (.tuple #[(.pointer v_94), (.int .i64 v_94_1)]) (r_move rfl rfl) ?_
 refine sR (.pointer v_94) (r_extract rfl rfl rfl) ?_
 refine sR (.int .i64 v_94_1) (r_extract rfl rfl rfl) ?_
 refine sR (.pointer v_94) (r_assign rfl rfl) ?_
 refine sR (.int .i64 v_94_1) (r_assign rfl rfl) ?_
 refine HL_nil ?_
 refine HC_seq ?_
 refine cR (sR (.int .i64 v_94_1) (r_move rfl rfl) ?_)
 refine sR (.bool (decide (v_94_1 ≠ 0))) (w_neq rfl rfl) ?_
 refine HL_nil ?_
 refine HC_cond (t := (decide (v_94_1 ≠ 0))) rfl (fun hc => ?_) (fun hc => ?_)
 replace h := h.1 (of_decide_eq_true hc)
 clear hc
 refine cR (sR (.bool false) (r_assign rfl rfl) ?_)
 exact HL_nil (HC_ret (rt1 f8 R rfl rfl h))
 replace h := h.2 (of_decide_eq_false hc)
 clear hc
 refine HC_skip ?_
 refine cR (sR (.pointer v_94) (r_move rfl rfl) ?_)
 refine s_ef (k_call (vs := [(.pointer v_94)]) cb17 (evC rfl evN) (h.mono ?_))
 clear h; rintro v F ⟨v_100, rfl, h⟩
 refine sR (Sl.v v_100) (r_assign rfl rfl) ?_
 refine HL_nil ?_
 refine HC_seqJ (b8J7 (nx3 I2 m2) l_1 v_25 v_29 b10 i_12_2 v_94 v_100 R) ?_ ?_
 clear h; rintro E F ⟨h1, h7, h8, h10, h12, h13, h18, h20, h⟩
 unfold b8j7 at h
 refine cR (sR _ (r_move rfl h18) ?_)
 refine sR (.pointer v_94) (r_assign rfl rfl) ?_
 refine HL_nil ?_
 refine cR (sR _ (r_move rfl h20) ?_)
 refine sR (.pointer (some (Addr.mk b10 2 none))) (w_fieldAddr h10 underlying28 rfl rfl sz26 rfl rfl) ?_
 refine s_ef0 (k_store1 (v := (Sl.v v_100)) rfl rfl sz26 rfl st_sl ?_)
 obtain ⟨c, e, hz3, hz4, hz5, h⟩ := h
 refine ⟨c, e, hz3, hz4, hz5, ?_⟩
 replace h := atE h
 refine HL_nil ?_
 refine cR (sR (.pointer (some (Addr.mk b10 0 none))) (w_fieldAddr h10 underlying28 rfl rfl sz3 rfl rfl) ?_)
 obtain ⟨v_117, hc117, h⟩ := h
 refine sR (.int .i64 v_117) (r_load1 rfl rfl underlying3 rfl hc117) ?_
 refine sR (.pointer (some (Addr.mk b10 1 none))) (w_fieldAddr h10 underlying28 rfl rfl sz3 rfl rfl) ?_
 refine s_ef0 (k_store1 (v := (.int .i64 v_117)) rfl rfl sz3 rfl st_int ?_)
 obtain ⟨c, e, hz3, hz4, hz5, h⟩ := h
 refine ⟨c, e, hz3, hz4, hz5, ?_⟩
 replace h := atE h
 refine HL_nil ?_
 refine HC_seq ?_
 refine cR (sR (.pointer v_94) (r_move rfl rfl) ?_)
 refine s_ef (k_call (vs := [(.pointer v_94)]) cb19 (evC rfl evN) (h.mono ?_))
 clear h; rintro v F ⟨v_120, rfl, h⟩
 refine sR (.bool (decide (v_120 ≠ 0))) (w_neq rfl rfl) ?_
 refine HL_nil ?_
 refine HC_cond (t := (decide (v_120 ≠ 0))) rfl (fun hc => ?_) (fun hc => ?_)
 replace h := h.1 (of_decide_eq_true hc)
 clear hc
 refine cR (sR (.bool false) (r_assign rfl rfl) ?_)
 exact HL_nil (HC_ret (rt1 f8 R rfl rfl h))
 replace h := h.2 (of_decide_eq_false hc)
 clear hc
 refine HC_skip ?_
 refine HC_region ?_
 obtain ⟨v_122, hs122, hc122, h⟩ := h
 refine sR (.agg v_122) (w_loadN h10 underlying28 rfl sz28 hs122 hc122) ?_
 refine s_ef (k_call (vs := [(.agg v_122)]) cb35 (evC rfl evN) (h.mono ?_))
 clear h; rintro v F ⟨v_123, rfl, h⟩
 refine s_ef0 (k_storeN (vs := v_123) h10 rfl sz28 (by decide) ?_)
 obtain ⟨hz1, hz2, c, e, hz3, hz4, hz5, h⟩ := h
 refine ⟨hz1, hz2, c, e, hz3, hz4, hz5, ?_⟩
 replace h := atE h
 refine HL_nil ?_
 show b8J6 (nx3 I2 m2) l_1 v_25 v_29 b10 i_12_2 R _ _
 exact ⟨_, _, h1, h7, h8, rfl, h10, h12, h13, h⟩
 refine cR (sR (Sl.v v_100) (r_move rfl rfl) ?_)
 refine sR (.pointer (some (Addr.mk b10 2 none))) (w_fieldAddr h10 underlying28 rfl rfl sz26 rfl rfl) ?_
 obtain ⟨v_103, hc103, h⟩ := h
 refine sR (Sl.v v_103) (r_load1 rfl rfl underlying26 rfl hc103) ?_
 refine s_ef (k_call (vs := [(Sl.v v_100), (Sl.v v_103)]) cb21 (evC rfl (evC rfl evN)) (h.mono ?_))
 clear h; rintro v F ⟨v_104, rfl, h⟩
 refine sR (.bool (!v_104)) (r_not rfl rfl) ?_
 refine sR (.bool (!v_104)) (r_move rfl rfl) ?_
 by_cases hc : (!v_104) = true
 replace h := h.1 hc
 refine kN 105 hc ?_
 refine kN 106 hc ?_
 refine sR (Sl.v v_100) (r_move rfl rfl) ?_
 obtain ⟨next15a_, rfl, h⟩ := h
 refine sR (.pointer (some (Addr.add next15a_ 2))) (w_fieldAddr h15 underlying28 rfl rfl sz26 rfl rfl) ?_
 obtain ⟨v_109, hc109, h⟩ := h
 refine sR (Sl.v v_109) (r_load1 rfl rfl underlying26 rfl hc109) ?_
 refine s_ef (k_call (vs := [(Sl.v v_100), (Sl.v v_109)]) cb21 (evC rfl (evC rfl evN)) (h.mono ?_))
 clear h; rintro v F ⟨v_110, rfl, h⟩
 refine sR (.bool (!v_110)) (r_not rfl rfl) ?_
 refine sR (.bool (!v_110)) (r_pt rfl rfl) ?_
 refine HL_nil ?_
 refine HC_cond (t := (!v_110)) rfl (fun hc => ?_) (fun hc => ?_)
 replace h := h.1 hc
 clear hc
 refine cR (sR (.bool false) (r_assign rfl rfl) ?_)
 exact HL_nil (HC_ret (rt1 f8 R rfl rfl h))
 replace h := h.2 hc
 clear hc
 refine HC_skip ?_
 show b8J7 (nx3 I2 m2) l_1 v_25 v_29 b10 i_12_2 v_94 v_100 R _ _
 exact ⟨h1, h7, h8, h10, h12, rfl, rfl, rfl, h⟩
 replace hc := eq_false_of_ne_true hc; replace h := h.2 hc
 refine kN 105 hc ?_
 refine kN 106 hc ?_
 iterate 5 refine s_skip ?_
 refine sR (.bool false) (r_pf rfl rfl) ?_
 refine HL_nil ?_
 refine HC_condF rfl ?_
 refine HC_skip ?_
 show b8J7 (nx3 I2 m2) l_1 v_25 v_29 b10 i_12_2 v_94 v_100 R _ _
 exact ⟨h1, h7, h8, h10, h12, rfl, rfl, rfl, h⟩
 replace h := h.2 (of_decide_eq_false hc)
 clear hc
 refine HC_draw0 (by kernel_rfl) (fun hp => ?_)
 refine gU 0 (.pointer t_14) rfl (fun _ => r_move rfl h14) hp ?_
 obtain ⟨next15a__1, rfl, h⟩ := h
 obtain ⟨v_125, hs125, hc125, h⟩ := h
 refine gR 1 (.agg v_125) rfl (w_loadN h15 underlying28 rfl sz28 hs125 hc125) hp (fun S1 q1 => ?_)
 replace hp := holdC (i := 1) (q1 _ (w_loadN h15 underlying28 rfl sz28 hs125 hc125)) hp
 refine gU 2 (.pointer t_14) rfl (fun _ => r_assign rfl rfl) hp ?_
 refine RG_eff1 (i := 3) (by kernel_rfl) (g_op0 (Sp' := []) rfl rfl (k_storeN (vs := v_125) h10 rfl sz28 (by decide) ?_))
 obtain ⟨hz1, hz2, c, e, hz3, hz4, hz5, h⟩ := h
 refine ⟨hz1, hz2, c, e, hz3, hz4, hz5, ?_⟩
 replace h := atE h
 refine holdI hold0 (fun hp => ?_)
 refine RG_done (by kernel_rfl) ?_
 show b8J6 (nx3 I2 m2) l_1 v_25 v_29 b10 i_12_2 R _ _
 exact ⟨_, _, h1, h7, h8, rfl, h10, h12, h13, h⟩
 refine HC_draw0 (by kernel_rfl) (fun hp => ?_)
 refine gU 0 (.pointer v_29) rfl (fun _ => r_move rfl h8) hp ?_
 refine gU 1 (.pointer s_9_2) rfl (fun _ => r_move rfl h9) hp ?_
 obtain ⟨v_60, hs60, hc60, h⟩ := h
 refine gR 2 (.agg v_60) rfl (w_loadN h10 underlying28 rfl sz28 hs60 hc60) hp (fun S2 q2 => ?_)
 replace hp := holdC (i := 2) (q2 _ (w_loadN h10 underlying28 rfl sz28 hs60 hc60)) hp
 refine gU 3 (Sl.v l_1) rfl (fun _ => r_move rfl h1) hp ?_
 refine gU 4 (.int .i64 i_12_2) rfl (fun _ => r_move rfl h12) hp ?_
 obtain ⟨a63_, hb63, hl63, hu63, h⟩ := h
 refine gU 5 (.pointer (some (Addr.add a63_ (Int.toNat i_12_2 * 2)))) rfl (fun _ => w_indexAddr rfl rfl underlying22 sz38 hb63 hl63 hu63) hp ?_
 obtain ⟨v_64, hs64, hc64, h⟩ := h
 refine gR 6 (.agg v_64) rfl (w_loadN rfl underlying38 rfl sz38 hs64 hc64) hp (fun S6 q6 => ?_)
 replace hp := holdC (i := 6) (q6 _ (w_loadN rfl underlying38 rfl sz38 hs64 hc64)) hp
 refine RG_eff (rs := [7, 13]) (by kernel_rfl) rfl ?_
 obtain ⟨ha0, ha1⟩ := h
 simp only [List.mem_cons, List.not_mem_nil, or_false, forall_eq_or_imp, forall_eq]
 refine ⟨?_, ?_⟩
 have h := ha0; clear ha0 ha1
 refine g_op (Sp' := []) rfl rfl (k_call (vs := [(.pointer v_29), (.pointer s_9_2), (.agg v_60), (.agg v_64)]) cb14 (evC rfl (evC rfl (evC rfl (evC rfl evN)))) (h.mono ?_))
 clear h; rintro v F ⟨v_65, v_65_1, v_65_2, v_65_3, rfl, h⟩
 refine holdI hold0 (fun hp => ?_)
 refine gU 8 (.tuple #[(.pointer v_65), (.agg v_65_1), (.int .i64 v_65_2), (.bool v_65_3)]) rfl (fun _ => r_move rfl rfl) hp ?_
 refine gU 9 (.pointer v_65) rfl (fun _ => r_extract rfl rfl rfl) hp ?_
 refine gU 10 (.agg v_65_1) rfl (fun _ => r_extract rfl rfl rfl) hp ?_
 refine gU 11 (.int .i64 v_65_2) rfl (fun _ => r_extract rfl rfl rfl) hp ?_
 refine gU 12 (.bool v_65_3) rfl (fun _ => r_extract rfl rfl rfl) hp ?_
 refine RG_eff1 (i := 13) (by kernel_rfl) (g_op (Sp' := []) rfl rfl (k_alloc zr28 ?_))
 intro b15 hf_b15
 replace h := atE (h b15 hf_b15)
 refine holdI hold0 (fun hp => ?_)
 refine gU 14 (.pointer v_65) rfl (fun _ => r_assign rfl rfl) hp ?_
 refine RG_eff1 (i := 15) (by kernel_rfl) (g_op0 (Sp' := []) rfl rfl (k_storeN (vs := v_65_1) rfl rfl sz28 (by decide) ?_))
 obtain ⟨hz1, hz2, c, e, hz3, hz4, hz5, h⟩ := h
 refine ⟨hz1, hz2, c, e, hz3, hz4, hz5, ?_⟩
 replace h := atE h
 refine holdI hold0 (fun hp => ?_)
 refine gU 16 (.int .i64 v_65_2) rfl (fun _ => r_assign rfl rfl) hp ?_
 refine gU 17 (.bool v_65_3) rfl (fun _ => r_assign rfl rfl) hp ?_
 refine RG_done (by kernel_rfl) ?_
 show b8J5 (nx3 I2 m2) l_1 v_25 v_29 s_9_2 b10 i_12_2 failed_13_1 R _ _
 exact ⟨_, _, _, _, h1, h7, h8, h9, h10, h12, h13, rfl, rfl, rfl, rfl, h⟩
 have h := ha1; clear ha0 ha1
 refine g_op (Sp' := [(6, S6), (2, S2)]) rfl rfl (k_alloc zr28 ?_)
 intro b15_1 hf_b15_1
 replace h := atE (h b15_1 hf_b15_1)
 refine holdI (holdC (i := 6) (q6 _ (w_loadN rfl underlying38 rfl sz38 hs64 (row_set_fresh hf_b15_1 hc64))) (holdC (i := 2) (q2 _ (w_loadN h10 underlying28 rfl sz28 hs60 (row_set_fresh hf_b15_1 hc60))) hold0)) (fun hp => ?_)
 refine RG_eff1 (i := 7) (by kernel_rfl) (g_op (Sp' := []) rfl rfl (k_call (vs := [(.pointer v_29), (.pointer s_9_2), (.agg v_60), (.agg v_64)]) cb14 (evC rfl (evC rfl (evC rfl (evC rfl evN)))) (h.mono ?_)))
 clear h; rintro v F ⟨v_65_4, v_65_5, v_65_6, v_65_7, rfl, h⟩
 refine holdI hold0 (fun hp => ?_)
 refine gU 8 (.tuple #[(.pointer v_65_4), (.agg v_65_5), (.int .i64 v_65_6), (.bool v_65_7)]) rfl (fun _ => r_move rfl rfl) hp ?_
 refine gU 9 (.pointer v_65_4) rfl (fun _ => r_extract rfl rfl rfl) hp ?_
 refine gU 10 (.agg v_65_5) rfl (fun _ => r_extract rfl rfl rfl) hp ?_
 refine gU 11 (.int .i64 v_65_6) rfl (fun _ => r_extract rfl rfl rfl) hp ?_
 refine gU 12 (.bool v_65_7) rfl (fun _ => r_extract rfl rfl rfl) hp ?_
 refine gU 14 (.pointer v_65_4) rfl (fun _ => r_assign rfl rfl) hp ?_
 refine RG_eff1 (i := 15) (by kernel_rfl) (g_op0 (Sp' := []) rfl rfl (k_storeN (vs := v_65_5) rfl rfl sz28 (by decide) ?_))
 obtain ⟨hz1, hz2, c, e, hz3, hz4, hz5, h⟩ := h
 refine ⟨hz1, hz2, c, e, hz3, hz4, hz5, ?_⟩
 replace h := atE h
 refine holdI hold0 (fun hp => ?_)
 refine gU 16 (.int .i64 v_65_6) rfl (fun _ => r_assign rfl rfl) hp ?_
 refine gU 17 (.bool v_65_7) rfl (fun _ => r_assign rfl rfl) hp ?_
 refine RG_done (by kernel_rfl) ?_
 show b8J5 (nx3 I2 m2) l_1 v_25 v_29 s_9_2 b10 i_12_2 failed_13_1 R _ _
 exact ⟨_, _, _, _, h1, h7, h8, h9, h10, h12, h13, rfl, rfl, rfl, rfl, h⟩
 replace h := h.2 hc
 clear hc
 refine HC_exit ?_
 show b8J1 l_1 v_25 v_29 b10 R _ _
 exact ⟨_, _, _, h1, h7, h8, h9, h10, h12, h13, h⟩
 replace h := h.2 hc
 refine kN 51 (decide_eq_false hc) ?_
 refine kN 52 (decide_eq_false hc) ?_
 refine kN 53 (decide_eq_false hc) ?_
 iterate 2 refine s_skip ?_
 refine sR (.bool false) (r_pf rfl rfl) ?_
 refine HL_nil ?_
 refine HC_condF rfl ?_
 refine HC_exit ?_
 show b8J1 l_1 v_25 v_29 b10 R _ _
 exact ⟨_, _, _, h1, h7, h8, h9, h10, h12, h13, h⟩
 replace h := h.2 hc
 refine kN 48 (decide_eq_false hc) ?_
 refine kN 49 (decide_eq_false hc) ?_
 iterate 2 refine s_skip ?_
 refine sR (.bool false) (r_pf rfl rfl) ?_
 refine sR (.bool false) (r_move rfl rfl) ?_
 iterate 2 refine s_skip ?_
 refine sR (.bool false) (r_pf rfl rfl) ?_
 refine HL_nil ?_
 refine HC_condF rfl ?_
 refine HC_exit ?_
 show b8J1 l_1 v_25 v_29 b10 R _ _
 exact ⟨_, _, _, h1, h7, h8, h9, h10, h12, h13, h⟩
end Go.Proofs.Ytelkfnmdnbbniaa
