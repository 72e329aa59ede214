/-
  What functions of the program do, in a clean form, each with the proof that its code does so. Printed by a program.
-/
import Derived.Test.YtnjcgpihfmklfaaDoorGf
import Derived.Test.YtnjcgpihfmklfaaDoorPho
namespace Go.Proofs.YtnjcgpihfmklfaaDoor
open Go Go.Proofs.Tryd
set_option maxRecDepth 10000
set_option maxHeartbeats 4000000
/- 16 koine.koineref04.Made -/
def b16j2 (out_14 : Sl) (R : VP) (F : PH) :=
 R (Sl.v out_14) F
def b16L1 (N1 : Sl → Int → PH → Prop) (stack_5 : Sl) (R : VP) (out_14_1 : Sl) (i_15 : Int) (F : PH) :=
 ((i_15 < (stack_5.len : Int) →
  ∃ a129_ : Addr, stack_5.base = some a129_ ∧ 0 ≤ i_15 ∧ i_15 < (stack_5.len : Int) ∧
  ∃ v_130 : Sl, F.cell (Addr.add a129_ (Int.toNat i_15 * 1)) = some (Sl.v v_130) ∧
  Spec prog 41 #[(.int .i64 2), (Sl.v out_14_1), (Sl.v v_130)] F fun v F => ∃ v_131 : Sl, v = (Sl.v v_131) ∧
  N1 v_131 (IntKind.i64.wrap (i_15 + 1)) F) ∧
 (¬ (i_15 < (stack_5.len : Int)) →
  b16j2 out_14_1 R F))
def b16j1 (stack_5 : Sl) (R : VP) (F : PH) :=
 (((stack_5.len : Int) = 0 →
  Spec prog 38 #[] F fun v F => ∃ v_116 : Sl, v = (Sl.v v_116) ∧
  R (Sl.v v_116) F) ∧
 (¬ ((stack_5.len : Int) = 0) →
  ∃ a118_ : Addr, stack_5.base = some a118_ ∧ 0 ≤ (0 : Int) ∧ 0 < (stack_5.len : Int) ∧
  ∃ v_119 : Sl, F.cell (Addr.add a118_ (Int.toNat 0 * 1)) = some (Sl.v v_119) ∧
  (∃ (I1 : Nat → Sl → Int → PH → Prop) (m1 : Nat), I1 m1 v_119 1 F ∧ ∀ m1 out_14_1 i_15 F, I1 m1 out_14_1 i_15 F →
   b16L1 (nx2 I1 m1) stack_5 R out_14_1 i_15 F)))
def b16j3 (N2 : Sl → Int → Int → PH → Prop) (l_0 : Sl) (most_1 : Int) (i_7 : Int) (stack_5_2 : Sl) (size_6_1 : Int) (R : VP) (F : PH) :=
 N2 stack_5_2 size_6_1 (IntKind.i64.wrap (i_7 + 1)) F
def b16j5 (N2 : Sl → Int → Int → PH → Prop) (l_0 : Sl) (most_1 : Int) (size_6 : Int) (i_7 : Int) (stack_5_3 : Sl) (R : VP) (F : PH) :=
 b16j3 N2 l_0 most_1 i_7 stack_5_3 (IntKind.i64.wrap (size_6 + 2)) R F
def b16j4 (N2 : Sl → Int → Int → PH → Prop) (l_0 : Sl) (most_1 : Int) (stack_5_1 : Sl) (size_6 : Int) (i_7 : Int) (v_32 : Int) (v_51 : Bool) (R : VP) (F : PH) :=
 ((v_51 = true →
  (((Int.tmod (IntKind.i64.wrap v_32) 9) = 4 →
   Spec prog 38 #[] F fun v F => ∃ v_65 : Sl, v = (Sl.v v_65) ∧
   ∀ b66, F b66 = none → atF (F.set b66 (.cells #[(Sl.v v_65)] 25)) fun F =>
   runs prog (Builtin.append_ #[56, 56] 56 #[(Sl.v stack_5_1), (Sl.v (Sl.mk (some (Addr.mk b66 0 none)) 1 1))]) F fun v F => ∃ v_67 : Sl, v = (Sl.v v_67) ∧
   b16j5 N2 l_0 most_1 size_6 i_7 v_67 R F) ∧
  (¬ ((Int.tmod (IntKind.i64.wrap v_32) 9) = 4) →
   Spec prog 39 #[(.int .i64 (IntKind.i64.wrap (97 + (Int.tmod (IntKind.i64.wrap (Int.tdiv (IntKind.i64.wrap v_32) 9)) 3)))), (.int .i64 (min 99 (IntKind.i64.wrap ((IntKind.i64.wrap (97 + (Int.tmod (IntKind.i64.wrap (Int.tdiv (IntKind.i64.wrap v_32) 9)) 3))) + (Int.tmod (IntKind.i64.wrap (Int.tdiv (IntKind.i64.wrap v_32) 27)) 2)))))] F fun v F => ∃ v_71 : Sl, v = (Sl.v v_71) ∧
   ∀ b72, F b72 = none → atF (F.set b72 (.cells #[(Sl.v v_71)] 25)) fun F =>
   runs prog (Builtin.append_ #[56, 56] 56 #[(Sl.v stack_5_1), (Sl.v (Sl.mk (some (Addr.mk b72 0 none)) 1 1))]) F fun v F => ∃ v_73 : Sl, v = (Sl.v v_73) ∧
   b16j5 N2 l_0 most_1 size_6 i_7 v_73 R F))) ∧
 (v_51 = false →
  (((Int.tmod (IntKind.i64.wrap v_32) 9) = 8 →
   ∃ a86_ : Addr, stack_5_1.base = some a86_ ∧ 0 ≤ (IntKind.i64.wrap ((stack_5_1.len : Int) - 1)) ∧ (IntKind.i64.wrap ((stack_5_1.len : Int) - 1)) < (stack_5_1.len : Int) ∧
   ∃ v_87 : Sl, F.cell (Addr.add a86_ (Int.toNat (IntKind.i64.wrap ((stack_5_1.len : Int) - 1)) * 1)) = some (Sl.v v_87) ∧
   Spec prog 40 #[(Sl.v v_87)] F fun v F => ∃ v_88 : Sl, v = (Sl.v v_88) ∧
   ∃ a89_ : Addr, stack_5_1.base = some a89_ ∧ 0 ≤ (IntKind.i64.wrap ((stack_5_1.len : Int) - 1)) ∧ (IntKind.i64.wrap ((stack_5_1.len : Int) - 1)) < (stack_5_1.len : Int) ∧
   ∃ c e, F (Addr.add a89_ (Int.toNat (IntKind.i64.wrap ((stack_5_1.len : Int) - 1)) * 1)).block = some (.cells c e (0, 0)) ∧ (Addr.add a89_ (Int.toNat (IntKind.i64.wrap ((stack_5_1.len : Int) - 1)) * 1)).spot = none ∧ (Addr.add a89_ (Int.toNat (IntKind.i64.wrap ((stack_5_1.len : Int) - 1)) * 1)).off < c.size ∧
   atF (F.set (Addr.add a89_ (Int.toNat (IntKind.i64.wrap ((stack_5_1.len : Int) - 1)) * 1)).block (.cells (c.setIfInBounds (Addr.add a89_ (Int.toNat (IntKind.i64.wrap ((stack_5_1.len : Int) - 1)) * 1)).off (Sl.v v_88)) e)) fun F =>
   b16j3 N2 l_0 most_1 i_7 stack_5_1 (IntKind.i64.wrap (size_6 + 1)) R F) ∧
  (¬ ((Int.tmod (IntKind.i64.wrap v_32) 9) = 8) →
   ∃ a98_ : Addr, stack_5_1.base = some a98_ ∧ 0 ≤ (IntKind.i64.wrap ((stack_5_1.len : Int) - 2)) ∧ (IntKind.i64.wrap ((stack_5_1.len : Int) - 2)) < (stack_5_1.len : Int) ∧
   ∃ v_99 : Sl, F.cell (Addr.add a98_ (Int.toNat (IntKind.i64.wrap ((stack_5_1.len : Int) - 2)) * 1)) = some (Sl.v v_99) ∧
   ∃ a103_ : Addr, stack_5_1.base = some a103_ ∧ 0 ≤ (IntKind.i64.wrap ((stack_5_1.len : Int) - 1)) ∧ (IntKind.i64.wrap ((stack_5_1.len : Int) - 1)) < (stack_5_1.len : Int) ∧
   ∃ v_104 : Sl, F.cell (Addr.add a103_ (Int.toNat (IntKind.i64.wrap ((stack_5_1.len : Int) - 1)) * 1)) = some (Sl.v v_104) ∧
   Spec prog 41 #[(.int .i64 (IntKind.i64.wrap (2 + (Int.tmod (Int.tmod (IntKind.i64.wrap v_32) 9) 2)))), (Sl.v v_99), (Sl.v v_104)] F fun v F => ∃ v_105 : Sl, v = (Sl.v v_105) ∧
   0 ≤ (IntKind.i64.wrap ((stack_5_1.len : Int) - 2)) ∧ 0 ≤ (Int.toNat (IntKind.i64.wrap ((stack_5_1.len : Int) - 2))) ∧ (Int.toNat (IntKind.i64.wrap ((stack_5_1.len : Int) - 2))) ≤ stack_5_1.cap ∧ 
   ∀ b111, F b111 = none → atF (F.set b111 (.cells #[(Sl.v v_105)] 25)) fun F =>
   runs prog (Builtin.append_ #[56, 56] 56 #[(Sl.v (Sl.cut stack_5_1 1 0 (Int.toNat (IntKind.i64.wrap ((stack_5_1.len : Int) - 2))) stack_5_1.cap)), (Sl.v (Sl.mk (some (Addr.mk b111 0 none)) 1 1))]) F fun v F => ∃ v_112 : Sl, v = (Sl.v v_112) ∧
   b16j3 N2 l_0 most_1 i_7 v_112 (IntKind.i64.wrap ((IntKind.i64.wrap (size_6 + 1)) - 1)) R F))))
def b16L2 (N2 : Sl → Int → Int → PH → Prop) (l_0 : Sl) (most_1 : Int) (R : VP) (stack_5_1 : Sl) (size_6 : Int) (i_7 : Int) (F : PH) :=
 ((i_7 < (l_0.len : Int) →
  (((IntKind.i64.wrap (size_6 + 2)) < most_1 →
   ∃ a31_ : Addr, l_0.base = some a31_ ∧ 0 ≤ i_7 ∧ i_7 < (l_0.len : Int) ∧
   ∃ v_32 : Int, F.cell (Addr.add a31_ (Int.toNat i_7 * 1)) = some (.int .u8 v_32) ∧
   (((Int.tmod (IntKind.i64.wrap v_32) 9) < 5 →
    b16j4 N2 l_0 most_1 stack_5_1 size_6 i_7 v_32 true R F) ∧
   (¬ ((Int.tmod (IntKind.i64.wrap v_32) 9) < 5) →
    (((stack_5_1.len : Int) = 0 →
     b16j4 N2 l_0 most_1 stack_5_1 size_6 i_7 v_32 true R F) ∧
    (¬ ((stack_5_1.len : Int) = 0) →
     (((stack_5_1.len : Int) = 1 →
      b16j4 N2 l_0 most_1 stack_5_1 size_6 i_7 v_32 (decide ((Int.tmod (IntKind.i64.wrap v_32) 9) < 8)) R F) ∧
     (¬ ((stack_5_1.len : Int) = 1) →
      b16j4 N2 l_0 most_1 stack_5_1 size_6 i_7 v_32 false R F))))))) ∧
  (¬ ((IntKind.i64.wrap (size_6 + 2)) < most_1) →
   b16j1 stack_5_1 R F))) ∧
 (¬ (i_7 < (l_0.len : Int)) →
  b16j1 stack_5_1 R F))
def b16 (l_0 : Sl) (most_1 : Int) (R : VP) (F : PH) :=
 ∀ b16, F b16 = none → atF (F.set b16 (.cells #[] 25)) fun F =>
 (∃ (I2 : Nat → Sl → Int → Int → PH → Prop) (m2 : Nat), I2 m2 (Sl.mk (some (Addr.mk b16 0 none)) 0 0) 0 0 F ∧ ∀ m2 stack_5_1 size_6 i_7 F, I2 m2 stack_5_1 size_6 i_7 F →
  b16L2 (nx3 I2 m2) l_0 most_1 R stack_5_1 size_6 i_7 F)
end Go.Proofs.YtnjcgpihfmklfaaDoor
