/-
  What functions of the program do, in a clean form, each with the proof that its code does so. Printed by a program.
-/
import Derived.Test.YtelkfnmdnbbniaaGf
import Derived.Test.YtelkfnmdnbbniaaPhp
namespace Go.Proofs.Ytelkfnmdnbbniaa
open Go Go.Proofs.Try
set_option maxRecDepth 10000
set_option maxHeartbeats 4000000
/- 3 koine.koinelaw35.StoreMatchesReference -/
def b3j2 (v_22 : Bool) (R : VP) (F : PH) :=
 R (.bool v_22) F
def b3j3 (N1 : Int → PH → Prop) (v_22 : Bool) (s_7 : Option Addr) (b8 : Nat) (k_15 : Int) (R : VP) (F : PH) :=
 N1 (IntKind.i64.wrap (k_15 + 1)) F
def b3j4 (N1 : Int → PH → Prop) (v_22 : Bool) (s_7 : Option Addr) (b8 : Nat) (k_15 : Int) (v_88 : Sl) (v_88_1 : Bool) (want_19 : Sl) (known_20 : Bool) (R : VP) (F : PH) :=
 (((!(v_88_1 == known_20)) = true →
  R (.bool false) F) ∧
 ((!(v_88_1 == known_20)) = false →
  ∃ v_117 : ByteArray, rdo prog (Conv.bytesToString (Sl.v v_88)) F (.string v_117) ∧
  ∃ v_119 : ByteArray, rdo prog (Conv.bytesToString (Sl.v want_19)) F (.string v_119) ∧
  (((!(v_117.toList == v_119.toList)) = true →
   R (.bool false) F) ∧
  ((!(v_117.toList == v_119.toList)) = false →
   b3j3 N1 v_22 s_7 b8 k_15 R F))))
def b3j5 (N1 : Int → PH → Prop) (N2 : Sl → Bool → Int → PH → Prop) (v_22 : Bool) (s_7 : Option Addr) (b8 : Nat) (k_15 : Int) (v_84 : ByteArray) (v_88 : Sl) (v_88_1 : Bool) (i_21 : Int) (want_19_2 : Sl) (known_20_2 : Bool) (R : VP) (F : PH) :=
 N2 want_19_2 known_20_2 (IntKind.i64.wrap (i_21 + 1)) F
def b3L2 (N1 : Int → PH → Prop) (N2 : Sl → Bool → Int → PH → Prop) (v_22 : Bool) (s_7 : Option Addr) (b8 : Nat) (k_15 : Int) (v_84 : ByteArray) (v_88 : Sl) (v_88_1 : Bool) (R : VP) (want_19_1 : Sl) (known_20_1 : Bool) (i_21 : Int) (F : PH) :=
 ∃ v_93 : Sl, F.cell (Addr.mk b8 2 none) = some (Sl.v v_93) ∧
 ((i_21 < (v_93.len : Int) →
  ∃ v_99 : Sl, F.cell (Addr.mk b8 2 none) = some (Sl.v v_99) ∧
  ∃ a101_ : Addr, v_99.base = some a101_ ∧ 0 ≤ i_21 ∧ i_21 < (v_99.len : Int) ∧
  ∃ v_103 : ByteArray, F.cell (Addr.add a101_ (Int.toNat i_21 * 2)) = some (.string v_103) ∧
  (((v_103.toList == v_84.toList) = true →
   ∃ v_107 : Sl, F.cell (Addr.mk b8 2 none) = some (Sl.v v_107) ∧
   ∃ a109_ : Addr, v_107.base = some a109_ ∧ 0 ≤ i_21 ∧ i_21 < (v_107.len : Int) ∧
   ∃ v_111 : Sl, F.cell (Addr.add (Addr.add a109_ (Int.toNat i_21 * 2)) 1) = some (Sl.v v_111) ∧
   b3j5 N1 N2 v_22 s_7 b8 k_15 v_84 v_88 v_88_1 i_21 v_111 true R F) ∧
  ((v_103.toList == v_84.toList) = false →
   b3j5 N1 N2 v_22 s_7 b8 k_15 v_84 v_88 v_88_1 i_21 want_19_1 known_20_1 R F))) ∧
 (¬ (i_21 < (v_93.len : Int)) →
  b3j4 N1 v_22 s_7 b8 k_15 v_88 v_88_1 want_19_1 known_20_1 R F))
def b3L1 (N1 : Int → PH → Prop) (v_22 : Bool) (s_7 : Option Addr) (b8 : Nat) (R : VP) (k_15 : Int) (F : PH) :=
 ((k_15 < 6 →
  Spec prog 15 #[(.agg (#[(.int .u8 (IntKind.u8.wrap k_15)), .int .u8 0, .int .u8 0] : Array Value))] F fun v F => ∃ v_83 : Array Value, v = (.agg v_83) ∧
  ∃ v_84 : ByteArray, v_83[0]? = some (.string v_84) ∧
  Spec prog 16 #[(.pointer s_7), (.string v_84)] F fun v F => ∃ v_88 : Sl, ∃ v_88_1 : Bool, v = (.tuple #[(Sl.v v_88), (.bool v_88_1)]) ∧
  (∃ (I2 : Nat → Sl → Bool → Int → PH → Prop) (m2 : Nat), I2 m2 Sl.nil false 0 F ∧ ∀ m2 want_19_1 known_20_1 i_21 F, I2 m2 want_19_1 known_20_1 i_21 F →
   b3L2 N1 (nx3 I2 m2) v_22 s_7 b8 k_15 v_84 v_88 v_88_1 R want_19_1 known_20_1 i_21 F)) ∧
 (¬ (k_15 < 6) →
  b3j2 v_22 R F))
def b3j1 (v_22 : Bool) (b8 : Nat) (s_7 : Option Addr) (R : VP) (F : PH) :=
 (∃ (I1 : Nat → Int → PH → Prop) (m1 : Nat), I1 m1 0 F ∧ ∀ m1 k_15 F, I1 m1 k_15 F →
  b3L1 (nx1 I1 m1) v_22 s_7 b8 R k_15 F)
def b3j6 (N3 : Option Addr → Int → PH → Prop) (l_1 : Sl) (v_22 : Bool) (v_26 : Option Addr) (b8 : Nat) (i_10 : Int) (t_11 : Option Addr) (next_12 : Option Addr) (e_13 : Int) (fine_14 : Bool) (R : VP) (F : PH) :=
 (((!fine_14) = true →
  R (.bool false) F) ∧
 ((!fine_14) = false →
  ((e_13 = 340 →
   R (.bool false) F) ∧
  (¬ (e_13 = 340) →
   ∃ next12a_ : Addr, next_12 = some next12a_ ∧ ∃ v_70 : Array Value, v_70.size = 3 ∧ F.row next12a_ v_70 ∧
   Spec prog 13 #[(.pointer t_11), (.agg v_70)] F fun v F => ∃ v_71 : Bool, v = (.bool v_71) ∧
   (((!v_71) = true →
    R (.bool false) F) ∧
   ((!v_71) = false →
    ∃ v_75 : Array Value, v_75.size = 3 ∧ F.row next12a_ v_75 ∧
    v_75.size = 3 ∧ (∀ v ∈ v_75.toList, storable v) ∧ ∃ c e, F (Addr.mk b8 0 none).block = some (.cells c e (0, 0)) ∧ (Addr.mk b8 0 none).spot = none ∧ (Addr.mk b8 0 none).off + 3 ≤ c.size ∧
    atF (F.set (Addr.mk b8 0 none).block (.cells (wr c (Addr.mk b8 0 none).off v_75.toList) e)) fun F =>
    N3 t_11 (IntKind.i64.wrap (i_10 + 1)) F))))))
def b3L3 (N3 : Option Addr → Int → PH → Prop) (l_1 : Sl) (v_22 : Bool) (v_26 : Option Addr) (b8 : Nat) (R : VP) (s_7_1 : Option Addr) (i_10 : Int) (F : PH) :=
 ((i_10 < (l_1.len : Int) →
  ((i_10 < 30 →
   ∃ v_52 : Array Value, v_52.size = 3 ∧ F.row (Addr.mk b8 0 none) v_52 ∧
   ∃ a55_ : Addr, l_1.base = some a55_ ∧ 0 ≤ i_10 ∧ i_10 < (l_1.len : Int) ∧
   ∃ v_56 : Array Value, v_56.size = 2 ∧ F.row (Addr.add a55_ (Int.toNat i_10 * 2)) v_56 ∧
   ((Spec prog 14 #[(.pointer v_26), (.pointer s_7_1), (.agg v_52), (.agg v_56)] F fun v F => ∃ v_57 : Option Addr, ∃ v_57_1 : Array Value, ∃ v_57_2 : Int, ∃ v_57_3 : Bool, v = (.tuple #[(.pointer v_57), (.agg v_57_1), (.int .i64 v_57_2), (.bool v_57_3)]) ∧
   ∀ b12, F b12 = none → atF (F.set b12 (.cells (#[.int .i64 0, .int .i64 0, .slice none 0 0]) 28)) fun F =>
   v_57_1.size = 3 ∧ (∀ v ∈ v_57_1.toList, storable v) ∧ ∃ c e, F (Addr.mk b12 0 none).block = some (.cells c e (0, 0)) ∧ (Addr.mk b12 0 none).spot = none ∧ (Addr.mk b12 0 none).off + 3 ≤ c.size ∧
   atF (F.set (Addr.mk b12 0 none).block (.cells (wr c (Addr.mk b12 0 none).off v_57_1.toList) e)) fun F =>
   b3j6 N3 l_1 v_22 v_26 b8 i_10 v_57 (some (Addr.mk b12 0 none)) v_57_2 v_57_3 R F) ∧
   (∀ b12_1, F b12_1 = none → atF (F.set b12_1 (.cells (#[.int .i64 0, .int .i64 0, .slice none 0 0]) 28)) fun F =>
   Spec prog 14 #[(.pointer v_26), (.pointer s_7_1), (.agg v_52), (.agg v_56)] F fun v F => ∃ v_57_4 : Option Addr, ∃ v_57_5 : Array Value, ∃ v_57_6 : Int, ∃ v_57_7 : Bool, v = (.tuple #[(.pointer v_57_4), (.agg v_57_5), (.int .i64 v_57_6), (.bool v_57_7)]) ∧
   v_57_5.size = 3 ∧ (∀ v ∈ v_57_5.toList, storable v) ∧ ∃ c e, F (Addr.mk b12_1 0 none).block = some (.cells c e (0, 0)) ∧ (Addr.mk b12_1 0 none).spot = none ∧ (Addr.mk b12_1 0 none).off + 3 ≤ c.size ∧
   atF (F.set (Addr.mk b12_1 0 none).block (.cells (wr c (Addr.mk b12_1 0 none).off v_57_5.toList) e)) fun F =>
   b3j6 N3 l_1 v_22 v_26 b8 i_10 v_57_4 (some (Addr.mk b12_1 0 none)) v_57_6 v_57_7 R F))) ∧
  (¬ (i_10 < 30) →
   b3j1 v_22 b8 s_7_1 R F))) ∧
 (¬ (i_10 < (l_1.len : Int)) →
  b3j1 v_22 b8 s_7_1 R F))
def b3 (n_0 : Int) (l_1 : Sl) (R : VP) (F : PH) :=
 Spec prog 10 #[] F fun v F => ∃ v_22 : Bool, v = (.bool v_22) ∧
 Spec prog 12 #[(.int .u8 n_0)] F fun v F => ∃ v_25 : Int, v = (.int .i64 v_25) ∧
 Spec prog 11 #[(.int .i64 v_25)] F fun v F => ∃ v_26 : Option Addr, ∃ v_26_1 : Option Addr, ∃ v_26_2 : Array Value, ∃ v_26_3 : Bool, v = (.tuple #[(.pointer v_26), (.pointer v_26_1), (.agg v_26_2), (.bool v_26_3)]) ∧
 ∀ b8, F b8 = none → atF (F.set b8 (.cells (#[.int .i64 0, .int .i64 0, .slice none 0 0]) 28)) fun F =>
 v_26_2.size = 3 ∧ (∀ v ∈ v_26_2.toList, storable v) ∧ ∃ c e, F (Addr.mk b8 0 none).block = some (.cells c e (0, 0)) ∧ (Addr.mk b8 0 none).spot = none ∧ (Addr.mk b8 0 none).off + 3 ≤ c.size ∧
 atF (F.set (Addr.mk b8 0 none).block (.cells (wr c (Addr.mk b8 0 none).off v_26_2.toList) e)) fun F =>
 (((!v_26_3) = true →
  R (.bool false) F) ∧
 ((!v_26_3) = false →
  ∃ v_35 : Array Value, v_35.size = 3 ∧ F.row (Addr.mk b8 0 none) v_35 ∧
  Spec prog 13 #[(.pointer v_26_1), (.agg v_35)] F fun v F => ∃ v_36 : Bool, v = (.bool v_36) ∧
  (((!v_36) = true →
   R (.bool false) F) ∧
  ((!v_36) = false →
   (∃ (I3 : Nat → Option Addr → Int → PH → Prop) (m3 : Nat), I3 m3 v_26_1 0 F ∧ ∀ m3 s_7_1 i_10 F, I3 m3 s_7_1 i_10 F →
    b3L3 (nx2 I3 m3) l_1 v_22 v_26 b8 R s_7_1 i_10 F)))))
end Go.Proofs.Ytelkfnmdnbbniaa
