/-
  What functions of the program do, in a clean form, each with the proof that its code does so. Printed by a program.
-/
import Derived.Test.YtelkfnmdnbbniaaGf
import Derived.Test.YtelkfnmdnbbniaaPhp
namespace Go.Proofs.Ytelkfnmdnbbniaa
open Go Go.Proofs.Try
set_option maxRecDepth 10000
set_option maxHeartbeats 4000000
/- 7 koine.koinelaw35.StoreFormats -/
def b7j3 (v_26 : Bool) (v_30 : Option Addr) (b18 : Nat) (R : VP) (F : PH) :=
 Spec prog 20 #[(.pointer v_30)] F fun v F => ∃ v_158 : Option Addr, ∃ v_158_1 : Int, v = (.tuple #[(.pointer v_158), (.int .i64 v_158_1)]) ∧
 ((v_158_1 = 0 →
  ∃ v_165 : Array Value, v_165.size = 3 ∧ F.row (Addr.mk b18 0 none) v_165 ∧
  Spec prog 13 #[(.pointer v_158), (.agg v_165)] F fun v F => ∃ v_166 : Bool, v = (.bool v_166) ∧
  ((v_166 = true →
   R (.bool v_26) F) ∧
  (v_166 = false →
   R (.bool false) F))) ∧
 (¬ (v_158_1 = 0) →
  R (.bool false) F))
def b7j4 (N1 : Option Addr → Int → PH → Prop) (l_1 : Sl) (v_26 : Bool) (v_30 : Option Addr) (b18 : Nat) (i_19 : Int) (u_20 : Option Addr) (next_21 : Option Addr) (f_22 : Int) (fine_23 : Bool) (R : VP) (F : PH) :=
 (((!fine_23) = true →
  R (.bool false) F) ∧
 ((!fine_23) = false →
  ((f_22 = 340 →
   R (.bool false) F) ∧
  (¬ (f_22 = 340) →
   ∃ next21a_ : Addr, next_21 = some next21a_ ∧ ∃ v_150 : Array Value, v_150.size = 3 ∧ F.row next21a_ v_150 ∧
   Spec prog 13 #[(.pointer u_20), (.agg v_150)] F fun v F => ∃ v_151 : Bool, v = (.bool v_151) ∧
   (((!v_151) = true →
    R (.bool false) F) ∧
   ((!v_151) = false →
    ∃ v_155 : Array Value, v_155.size = 3 ∧ F.row next21a_ v_155 ∧
    v_155.size = 3 ∧ (∀ v ∈ v_155.toList, storable v) ∧ ∃ c e, F (Addr.mk b18 0 none).block = some (.cells c e (0, 0)) ∧ (Addr.mk b18 0 none).spot = none ∧ (Addr.mk b18 0 none).off + 3 ≤ c.size ∧
    atF (F.set (Addr.mk b18 0 none).block (.cells (wr c (Addr.mk b18 0 none).off v_155.toList) e)) fun F =>
    N1 u_20 (IntKind.i64.wrap (i_19 - 1)) F))))))
def b7L1 (N1 : Option Addr → Int → PH → Prop) (l_1 : Sl) (v_26 : Bool) (v_30 : Option Addr) (b18 : Nat) (R : VP) (t_16 : Option Addr) (i_19 : Int) (F : PH) :=
 ((0 ≤ i_19 →
  (((IntKind.i64.wrap ((l_1.len : Int) - 15)) ≤ i_19 →
   ∃ v_132 : Array Value, v_132.size = 3 ∧ F.row (Addr.mk b18 0 none) v_132 ∧
   ∃ a135_ : Addr, l_1.base = some a135_ ∧ 0 ≤ i_19 ∧ i_19 < (l_1.len : Int) ∧
   ∃ v_136 : Array Value, v_136.size = 2 ∧ F.row (Addr.add a135_ (Int.toNat i_19 * 2)) v_136 ∧
   ((Spec prog 14 #[(.pointer v_30), (.pointer t_16), (.agg v_132), (.agg v_136)] F fun v F => ∃ v_137 : Option Addr, ∃ v_137_1 : Array Value, ∃ v_137_2 : Int, ∃ v_137_3 : Bool, v = (.tuple #[(.pointer v_137), (.agg v_137_1), (.int .i64 v_137_2), (.bool v_137_3)]) ∧
   ∀ b21, F b21 = none → atF (F.set b21 (.cells (#[.int .i64 0, .int .i64 0, .slice none 0 0]) 28)) fun F =>
   v_137_1.size = 3 ∧ (∀ v ∈ v_137_1.toList, storable v) ∧ ∃ c e, F (Addr.mk b21 0 none).block = some (.cells c e (0, 0)) ∧ (Addr.mk b21 0 none).spot = none ∧ (Addr.mk b21 0 none).off + 3 ≤ c.size ∧
   atF (F.set (Addr.mk b21 0 none).block (.cells (wr c (Addr.mk b21 0 none).off v_137_1.toList) e)) fun F =>
   b7j4 N1 l_1 v_26 v_30 b18 i_19 v_137 (some (Addr.mk b21 0 none)) v_137_2 v_137_3 R F) ∧
   (∀ b21_1, F b21_1 = none → atF (F.set b21_1 (.cells (#[.int .i64 0, .int .i64 0, .slice none 0 0]) 28)) fun F =>
   Spec prog 14 #[(.pointer v_30), (.pointer t_16), (.agg v_132), (.agg v_136)] F fun v F => ∃ v_137_4 : Option Addr, ∃ v_137_5 : Array Value, ∃ v_137_6 : Int, ∃ v_137_7 : Bool, v = (.tuple #[(.pointer v_137_4), (.agg v_137_5), (.int .i64 v_137_6), (.bool v_137_7)]) ∧
   v_137_5.size = 3 ∧ (∀ v ∈ v_137_5.toList, storable v) ∧ ∃ c e, F (Addr.mk b21_1 0 none).block = some (.cells c e (0, 0)) ∧ (Addr.mk b21_1 0 none).spot = none ∧ (Addr.mk b21_1 0 none).off + 3 ≤ c.size ∧
   atF (F.set (Addr.mk b21_1 0 none).block (.cells (wr c (Addr.mk b21_1 0 none).off v_137_5.toList) e)) fun F =>
   b7j4 N1 l_1 v_26 v_30 b18 i_19 v_137_4 (some (Addr.mk b21_1 0 none)) v_137_6 v_137_7 R F))) ∧
  (¬ ((IntKind.i64.wrap ((l_1.len : Int) - 15)) ≤ i_19) →
   b7j3 v_26 v_30 b18 R F))) ∧
 (¬ (0 ≤ i_19) →
  b7j3 v_26 v_30 b18 R F))
def b7j2 (n_0 : Int) (l_1 : Sl) (v_26 : Bool) (v_30 : Option Addr) (R : VP) (F : PH) :=
 Spec prog 30 #[(.pointer v_30)] F fun v F => ∃ v_101 : Option Addr, ∃ v_101_1 : Int, v = (.tuple #[(.pointer v_101), (.int .i64 v_101_1)]) ∧
 ((v_101_1 ≠ 0 →
  R (.bool false) F) ∧
 (¬ (v_101_1 ≠ 0) →
  Spec prog 31 #[(.pointer v_101)] F fun v F => ∃ v_108 : Sl, v = (Sl.v v_108) ∧
  (((0 : Int) < (v_108.len : Int) →
   R (.bool false) F) ∧
  (¬ ((0 : Int) < (v_108.len : Int)) →
   Spec prog 12 #[(.int .u8 n_0)] F fun v F => ∃ v_113 : Int, v = (.int .i64 v_113) ∧
   ∀ b18, F b18 = none → atF (F.set b18 (.cells (#[.int .i64 0, .int .i64 0, .slice none 0 0]) 28)) fun F =>
   (#[(.int .i64 v_113), .int .i64 0, .slice none 0 0] : Array Value).size = 3 ∧ (∀ v ∈ (#[(.int .i64 v_113), .int .i64 0, .slice none 0 0] : Array Value).toList, storable v) ∧ ∃ c e, F (Addr.mk b18 0 none).block = some (.cells c e (0, 0)) ∧ (Addr.mk b18 0 none).spot = none ∧ (Addr.mk b18 0 none).off + 3 ≤ c.size ∧
   atF (F.set (Addr.mk b18 0 none).block (.cells (wr c (Addr.mk b18 0 none).off (#[(.int .i64 v_113), .int .i64 0, .slice none 0 0] : Array Value).toList) e)) fun F =>
   (∃ (I1 : Nat → Option Addr → Int → PH → Prop) (m1 : Nat), I1 m1 v_101 (IntKind.i64.wrap ((l_1.len : Int) - 1)) F ∧ ∀ m1 t_16 i_19 F, I1 m1 t_16 i_19 F →
    b7L1 (nx2 I1 m1) l_1 v_26 v_30 b18 R t_16 i_19 F)))))
def b7j5 (N2 : Int → PH → Prop) (n_0 : Int) (l_1 : Sl) (noise_2 : Sl) (v_26 : Bool) (v_30 : Option Addr) (i_13 : Int) (R : VP) (F : PH) :=
 N2 (IntKind.i64.wrap (i_13 + 2)) F
def b7j6 (N2 : Int → PH → Prop) (n_0 : Int) (l_1 : Sl) (noise_2 : Sl) (v_26 : Bool) (v_30 : Option Addr) (i_13 : Int) (v_74 : Sl) (R : VP) (F : PH) :=
 ∃ a90_ : Addr, noise_2.base = some a90_ ∧ 0 ≤ i_13 ∧ i_13 < (noise_2.len : Int) ∧
 ∃ v_91 : Int, F.cell (Addr.add a90_ (Int.toNat i_13 * 1)) = some (.int .u8 v_91) ∧
 Spec prog 28 #[(.pointer v_30)] F fun v F => ∃ v_94 : Int, v = (.int .i64 v_94) ∧
 F.cell (Addr.add a90_ (Int.toNat i_13 * 1)) = some (.int .u8 v_91) ∧ v_94 ≠ 0 ∧ Spec prog 29 #[(.pointer v_30), (.int .i64 (Int.tmod (IntKind.i64.wrap v_91) v_94)), (Sl.v v_74)] F fun v F => ∃ v_97 : Int, v = (.int .i64 v_97) ∧
 F.cell (Addr.add a90_ (Int.toNat i_13 * 1)) = some (.int .u8 v_91) ∧ ((v_97 ≠ 0 →
  R (.bool false) F) ∧
 (¬ (v_97 ≠ 0) →
  b7j5 N2 n_0 l_1 noise_2 v_26 v_30 i_13 R F))
def b7L3 (N2 : Int → PH → Prop) (N3 : Int → PH → Prop) (n_0 : Int) (l_1 : Sl) (noise_2 : Sl) (v_26 : Bool) (v_30 : Option Addr) (i_13 : Int) (v_74 : Sl) (R : VP) (k_15 : Int) (F : PH) :=
 ((k_15 < 64 →
  ∃ a84_ : Addr, noise_2.base = some a84_ ∧ 0 ≤ (IntKind.i64.wrap (i_13 + 1)) ∧ (IntKind.i64.wrap (i_13 + 1)) < (noise_2.len : Int) ∧
  ∃ v_85 : Int, F.cell (Addr.add a84_ (Int.toNat (IntKind.i64.wrap (i_13 + 1)) * 1)) = some (.int .u8 v_85) ∧
  ∃ a86_ : Addr, v_74.base = some a86_ ∧ 0 ≤ k_15 ∧ k_15 < (v_74.len : Int) ∧
  ∃ c e, F (Addr.add a86_ (Int.toNat k_15 * 1)).block = some (.cells c e (0, 0)) ∧ (Addr.add a86_ (Int.toNat k_15 * 1)).spot = none ∧ (Addr.add a86_ (Int.toNat k_15 * 1)).off < c.size ∧
  atF (F.set (Addr.add a86_ (Int.toNat k_15 * 1)).block (.cells (c.setIfInBounds (Addr.add a86_ (Int.toNat k_15 * 1)).off (.int .u8 v_85)) e)) fun F =>
  N3 (IntKind.i64.wrap (k_15 + 1)) F) ∧
 (¬ (k_15 < 64) →
  b7j6 N2 n_0 l_1 noise_2 v_26 v_30 i_13 v_74 R F))
def b7L2 (N2 : Int → PH → Prop) (n_0 : Int) (l_1 : Sl) (noise_2 : Sl) (v_26 : Bool) (v_30 : Option Addr) (R : VP) (i_13 : Int) (F : PH) :=
 (((IntKind.i64.wrap (i_13 + 1)) < (noise_2.len : Int) →
  ((i_13 < 20 →
   runs prog (Instr.makeSlice 39 (.int .i64 64) (.int .i64 64)) F fun v F => ∃ v_74 : Sl, v = (Sl.v v_74) ∧
   (∃ (I3 : Nat → Int → PH → Prop) (m3 : Nat), I3 m3 0 F ∧ ∀ m3 k_15 F, I3 m3 k_15 F →
    b7L3 N2 (nx1 I3 m3) n_0 l_1 noise_2 v_26 v_30 i_13 v_74 R k_15 F)) ∧
  (¬ (i_13 < 20) →
   b7j2 n_0 l_1 v_26 v_30 R F))) ∧
 (¬ ((IntKind.i64.wrap (i_13 + 1)) < (noise_2.len : Int)) →
  b7j2 n_0 l_1 v_26 v_30 R F))
def b7j1 (n_0 : Int) (l_1 : Sl) (noise_2 : Sl) (v_26 : Bool) (v_30 : Option Addr) (R : VP) (F : PH) :=
 Spec prog 28 #[(.pointer v_30)] F fun v F => ∃ v_61 : Int, v = (.int .i64 v_61) ∧
 ((v_61 < 1 →
  R (.bool false) F) ∧
 (¬ (v_61 < 1) →
  (∃ (I2 : Nat → Int → PH → Prop) (m2 : Nat), I2 m2 0 F ∧ ∀ m2 i_13 F, I2 m2 i_13 F →
   b7L2 (nx1 I2 m2) n_0 l_1 noise_2 v_26 v_30 R i_13 F)))
def b7L4 (N4 : Option Addr → Int → PH → Prop) (n_0 : Int) (l_1 : Sl) (noise_2 : Sl) (v_26 : Bool) (v_30 : Option Addr) (b10 : Nat) (R : VP) (s_9 : Option Addr) (i_12 : Int) (F : PH) :=
 ((i_12 < (l_1.len : Int) →
  ((i_12 < 15 →
   ∃ v_50 : Array Value, v_50.size = 3 ∧ F.row (Addr.mk b10 0 none) v_50 ∧
   ∃ a53_ : Addr, l_1.base = some a53_ ∧ 0 ≤ i_12 ∧ i_12 < (l_1.len : Int) ∧
   ∃ v_54 : Array Value, v_54.size = 2 ∧ F.row (Addr.add a53_ (Int.toNat i_12 * 2)) v_54 ∧
   Spec prog 14 #[(.pointer v_30), (.pointer s_9), (.agg v_50), (.agg v_54)] F fun v F => ∃ v_55 : Option Addr, ∃ v_55_1 : Array Value, ∃ v_55_2 : Int, ∃ v_55_3 : Bool, v = (.tuple #[(.pointer v_55), (.agg v_55_1), (.int .i64 v_55_2), (.bool v_55_3)]) ∧
   v_55_1.size = 3 ∧ (∀ v ∈ v_55_1.toList, storable v) ∧ ∃ c e, F (Addr.mk b10 0 none).block = some (.cells c e (0, 0)) ∧ (Addr.mk b10 0 none).spot = none ∧ (Addr.mk b10 0 none).off + 3 ≤ c.size ∧
   atF (F.set (Addr.mk b10 0 none).block (.cells (wr c (Addr.mk b10 0 none).off v_55_1.toList) e)) fun F =>
   N4 v_55 (IntKind.i64.wrap (i_12 + 1)) F) ∧
  (¬ (i_12 < 15) →
   b7j1 n_0 l_1 noise_2 v_26 v_30 R F))) ∧
 (¬ (i_12 < (l_1.len : Int)) →
  b7j1 n_0 l_1 noise_2 v_26 v_30 R F))
def b7 (n_0 : Int) (l_1 : Sl) (noise_2 : Sl) (R : VP) (F : PH) :=
 Spec prog 10 #[] F fun v F => ∃ v_26 : Bool, v = (.bool v_26) ∧
 Spec prog 12 #[(.int .u8 n_0)] F fun v F => ∃ v_29 : Int, v = (.int .i64 v_29) ∧
 Spec prog 11 #[(.int .i64 v_29)] F fun v F => ∃ v_30 : Option Addr, ∃ v_30_1 : Option Addr, ∃ v_30_2 : Array Value, ∃ v_30_3 : Bool, v = (.tuple #[(.pointer v_30), (.pointer v_30_1), (.agg v_30_2), (.bool v_30_3)]) ∧
 ∀ b10, F b10 = none → atF (F.set b10 (.cells (#[.int .i64 0, .int .i64 0, .slice none 0 0]) 28)) fun F =>
 v_30_2.size = 3 ∧ (∀ v ∈ v_30_2.toList, storable v) ∧ ∃ c e, F (Addr.mk b10 0 none).block = some (.cells c e (0, 0)) ∧ (Addr.mk b10 0 none).spot = none ∧ (Addr.mk b10 0 none).off + 3 ≤ c.size ∧
 atF (F.set (Addr.mk b10 0 none).block (.cells (wr c (Addr.mk b10 0 none).off v_30_2.toList) e)) fun F =>
 (((!v_30_3) = true →
  R (.bool false) F) ∧
 ((!v_30_3) = false →
  (∃ (I4 : Nat → Option Addr → Int → PH → Prop) (m4 : Nat), I4 m4 v_30_1 0 F ∧ ∀ m4 s_9 i_12 F, I4 m4 s_9 i_12 F →
   b7L4 (nx2 I4 m4) n_0 l_1 noise_2 v_26 v_30 b10 R s_9 i_12 F)))
end Go.Proofs.Ytelkfnmdnbbniaa
