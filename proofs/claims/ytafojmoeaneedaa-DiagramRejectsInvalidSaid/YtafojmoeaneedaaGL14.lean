/-
  What functions of the program do, in a clean form, each with the proof that its code does so. Printed by a program.
-/
import Derived.Test.YtafojmoeaneedaaGf
import Derived.Test.YtafojmoeaneedaaPho
namespace Go.Proofs.Ytafojmoeaneedaa
open Go Go.Proofs.Try
set_option maxRecDepth 10000
set_option maxHeartbeats 4000000
/- 14 koine.koinelaw02.DiagramRejectsInvalid -/
def b14j3 (v_27 : Bool) (bad9a_ : Addr) (same_12 : Option Addr) (f_13 : Int) (R : Value → PH → Prop) (F : PH) : Prop :=
 ((f_13 = (0 : Int) →
  ∃ same12a_ : Addr, same_12 = some same12a_ ∧ ∃ v_92 : Array Value, v_92.size = 2 ∧ F.row same12a_ v_92 ∧
  ∃ v_93 : Array Value, v_93.size = 2 ∧ F.row bad9a_ v_93 ∧
  Spec prog 24 #[(.agg v_92), (.agg v_93)] F fun v F => ∃ v_94 : Bool, v = (.bool v_94) ∧
  ((v_94 = true →
   R (.bool v_27) F) ∧
  (v_94 = false →
   R (.bool false) F))) ∧
 (¬ (f_13 = (0 : Int)) →
  R (.bool false) F))
abbrev b14J3 (v_27 : Bool) (bad9a_ : Addr) (R : Value → PH → Prop) (E : En) (F : PH) : Prop := ∃ same_12 : Option Addr, ∃ f_13 : Int, E 7 = (.bool v_27) ∧ E 9 = (.pointer (some bad9a_)) ∧ E 12 = (.pointer same_12) ∧ E 13 = (.int .i64 f_13) ∧ b14j3 v_27 bad9a_ same_12 f_13 R F
def b14j4 (v_27 : Bool) (v_80 : Int) (v_101_1 : Int) (v_107_1 : Int) (v_114_1 : Int) (v_119_1 : Int) (v_124_1 : Int) (quiet_26 : Bool) (R : Value → PH → Prop) (F : PH) : Prop :=
 ((v_80 = (20 : Int) →
  ((v_101_1 = v_80 →
   ((v_107_1 = v_80 →
    ((v_114_1 = v_80 →
     ((v_119_1 = v_80 →
      ((v_124_1 = v_80 →
       ((quiet_26 = true →
        R (.bool v_27) F) ∧
       (quiet_26 = false →
        R (.bool false) F))) ∧
      (¬ (v_124_1 = v_80) →
       R (.bool false) F))) ∧
     (¬ (v_119_1 = v_80) →
      R (.bool false) F))) ∧
    (¬ (v_114_1 = v_80) →
     R (.bool false) F))) ∧
   (¬ (v_107_1 = v_80) →
    R (.bool false) F))) ∧
  (¬ (v_101_1 = v_80) →
   R (.bool false) F))) ∧
 (¬ (v_80 = (20 : Int)) →
  R (.bool false) F))
abbrev b14J4 (v_27 : Bool) (v_80 : Int) (v_101_1 : Int) (v_107_1 : Int) (v_114_1 : Int) (v_119_1 : Int) (v_124_1 : Int) (R : Value → PH → Prop) (E : En) (F : PH) : Prop := ∃ quiet_26 : Bool, E 7 = (.bool v_27) ∧ E 11 = (.int .i64 v_80) ∧ E 15 = (.int .i64 v_101_1) ∧ E 17 = (.int .i64 v_107_1) ∧ E 19 = (.int .i64 v_114_1) ∧ E 21 = (.int .i64 v_119_1) ∧ E 23 = (.int .i64 v_124_1) ∧ E 26 = (.bool quiet_26) ∧ b14j4 v_27 v_80 v_101_1 v_107_1 v_114_1 v_119_1 v_124_1 quiet_26 R F
def b14j2 (v_27 : Bool) (b8 : Nat) (bad_9 : Option Addr) (R : Value → PH → Prop) (F : PH) : Prop :=
 ∃ bad9a_ : Addr, bad_9 = some bad9a_ ∧ ∃ v_79 : Array Value, v_79.size = 2 ∧ F.row bad9a_ v_79 ∧
 Spec prog 23 #[(.agg v_79)] F fun v F => ∃ v_80 : Int, v = (.int .i64 v_80) ∧
 ((v_80 = (0 : Int) →
  ∃ v_84 : Array Value, v_84.size = 2 ∧ F.row bad9a_ v_84 ∧
  ((Spec prog 17 #[(.bool true)] F fun v F => ∃ v_85 : Array Value, v = (.agg v_85) ∧
  F.row bad9a_ v_84 ∧ ((Spec prog 19 #[(.agg v_84), (.agg v_85)] F fun v F => ∃ v_86 : Array Value, ∃ v_86_1 : Int, v = (.tuple #[(.agg v_86), (.int .i64 v_86_1)]) ∧
  ∀ b12, F b12 = none → atF (F.set b12 (.cells (#[.slice none 0 0, .int .i64 0]) 28)) fun F =>
  v_86.size = 2 ∧ (∀ v ∈ v_86.toList, storable v) ∧ ∃ c e, F (Addr.mk b12 0 none).block = some (.cells c e (0, 0)) ∧ (Addr.mk b12 0 none).spot = none ∧ (Addr.mk b12 0 none).off + 2 ≤ c.size ∧
  atF (F.set (Addr.mk b12 0 none).block (.cells (wr c (Addr.mk b12 0 none).off v_86.toList) e)) fun F =>
  b14j3 v_27 bad9a_ (some (Addr.mk b12 0 none)) v_86_1 R F) ∧
  (∀ b12_1, F b12_1 = none → atF (F.set b12_1 (.cells (#[.slice none 0 0, .int .i64 0]) 28)) fun F =>
  Spec prog 19 #[(.agg v_84), (.agg v_85)] F fun v F => ∃ v_86_2 : Array Value, ∃ v_86_3 : Int, v = (.tuple #[(.agg v_86_2), (.int .i64 v_86_3)]) ∧
  v_86_2.size = 2 ∧ (∀ v ∈ v_86_2.toList, storable v) ∧ ∃ c e, F (Addr.mk b12_1 0 none).block = some (.cells c e (0, 0)) ∧ (Addr.mk b12_1 0 none).spot = none ∧ (Addr.mk b12_1 0 none).off + 2 ≤ c.size ∧
  atF (F.set (Addr.mk b12_1 0 none).block (.cells (wr c (Addr.mk b12_1 0 none).off v_86_2.toList) e)) fun F =>
  b14j3 v_27 bad9a_ (some (Addr.mk b12_1 0 none)) v_86_3 R F))) ∧
  (∀ b12_2, F b12_2 = none → atF (F.set b12_2 (.cells (#[.slice none 0 0, .int .i64 0]) 28)) fun F =>
  Spec prog 17 #[(.bool true)] F fun v F => ∃ v_85_1 : Array Value, v = (.agg v_85_1) ∧
  F.row bad9a_ v_84 ∧ Spec prog 19 #[(.agg v_84), (.agg v_85_1)] F fun v F => ∃ v_86_4 : Array Value, ∃ v_86_5 : Int, v = (.tuple #[(.agg v_86_4), (.int .i64 v_86_5)]) ∧
  v_86_4.size = 2 ∧ (∀ v ∈ v_86_4.toList, storable v) ∧ ∃ c e, F (Addr.mk b12_2 0 none).block = some (.cells c e (0, 0)) ∧ (Addr.mk b12_2 0 none).spot = none ∧ (Addr.mk b12_2 0 none).off + 2 ≤ c.size ∧
  atF (F.set (Addr.mk b12_2 0 none).block (.cells (wr c (Addr.mk b12_2 0 none).off v_86_4.toList) e)) fun F =>
  b14j3 v_27 bad9a_ (some (Addr.mk b12_2 0 none)) v_86_5 R F))) ∧
 (¬ (v_80 = (0 : Int)) →
  ∃ v_100 : Array Value, v_100.size = 2 ∧ F.row bad9a_ v_100 ∧
  Spec prog 25 #[(.agg v_100)] F fun v F => ∃ v_101 : Array Value, ∃ v_101_1 : Int, v = (.tuple #[(.agg v_101), (.int .i64 v_101_1)]) ∧
  ∀ b14, F b14 = none → atF (F.set b14 (.cells (#[.slice none 0 0, .int .i64 0]) 28)) fun F =>
  v_101.size = 2 ∧ (∀ v ∈ v_101.toList, storable v) ∧ ∃ c e, F (Addr.mk b14 0 none).block = some (.cells c e (0, 0)) ∧ (Addr.mk b14 0 none).spot = none ∧ (Addr.mk b14 0 none).off + 2 ≤ c.size ∧
  atF (F.set (Addr.mk b14 0 none).block (.cells (wr c (Addr.mk b14 0 none).off v_101.toList) e)) fun F =>
  ∃ v_105 : Array Value, v_105.size = 2 ∧ F.row (Addr.mk b8 0 none) v_105 ∧
  ∃ v_106 : Array Value, v_106.size = 2 ∧ F.row bad9a_ v_106 ∧
  Spec prog 19 #[(.agg v_105), (.agg v_106)] F fun v F => ∃ v_107 : Array Value, ∃ v_107_1 : Int, v = (.tuple #[(.agg v_107), (.int .i64 v_107_1)]) ∧
  ∀ b16, F b16 = none → atF (F.set b16 (.cells (#[.slice none 0 0, .int .i64 0]) 28)) fun F =>
  v_107.size = 2 ∧ (∀ v ∈ v_107.toList, storable v) ∧ ∃ c e, F (Addr.mk b16 0 none).block = some (.cells c e (0, 0)) ∧ (Addr.mk b16 0 none).spot = none ∧ (Addr.mk b16 0 none).off + 2 ≤ c.size ∧
  atF (F.set (Addr.mk b16 0 none).block (.cells (wr c (Addr.mk b16 0 none).off v_107.toList) e)) fun F =>
  ∃ v_111 : Array Value, v_111.size = 2 ∧ F.row (Addr.mk b8 0 none) v_111 ∧
  ∃ v_112 : Array Value, v_112.size = 2 ∧ F.row (Addr.mk b8 0 none) v_112 ∧
  ∃ v_113 : Array Value, v_113.size = 2 ∧ F.row bad9a_ v_113 ∧
  Spec prog 27 #[(.agg v_111), (.agg v_112), (.agg v_113)] F fun v F => ∃ v_114 : Array Value, ∃ v_114_1 : Int, v = (.tuple #[(.agg v_114), (.int .i64 v_114_1)]) ∧
  ∀ b18, F b18 = none → atF (F.set b18 (.cells (#[.slice none 0 0, .int .i64 0]) 28)) fun F =>
  v_114.size = 2 ∧ (∀ v ∈ v_114.toList, storable v) ∧ ∃ c e, F (Addr.mk b18 0 none).block = some (.cells c e (0, 0)) ∧ (Addr.mk b18 0 none).spot = none ∧ (Addr.mk b18 0 none).off + 2 ≤ c.size ∧
  atF (F.set (Addr.mk b18 0 none).block (.cells (wr c (Addr.mk b18 0 none).off v_114.toList) e)) fun F =>
  ∃ v_118 : Array Value, v_118.size = 2 ∧ F.row bad9a_ v_118 ∧
  Spec prog 28 #[(.agg v_118), (.int .i64 (64 : Int)), (.bool true)] F fun v F => ∃ v_119 : Array Value, ∃ v_119_1 : Int, v = (.tuple #[(.agg v_119), (.int .i64 v_119_1)]) ∧
  ∀ b20, F b20 = none → atF (F.set b20 (.cells (#[.slice none 0 0, .int .i64 0]) 28)) fun F =>
  v_119.size = 2 ∧ (∀ v ∈ v_119.toList, storable v) ∧ ∃ c e, F (Addr.mk b20 0 none).block = some (.cells c e (0, 0)) ∧ (Addr.mk b20 0 none).spot = none ∧ (Addr.mk b20 0 none).off + 2 ≤ c.size ∧
  atF (F.set (Addr.mk b20 0 none).block (.cells (wr c (Addr.mk b20 0 none).off v_119.toList) e)) fun F =>
  ∃ v_123 : Array Value, v_123.size = 2 ∧ F.row bad9a_ v_123 ∧
  Spec prog 32 #[(.agg v_123), (.int .i64 (-1 : Int))] F fun v F => ∃ v_124 : Sl, ∃ v_124_1 : Int, v = (.tuple #[(Sl.v v_124), (.int .i64 v_124_1)]) ∧
  ∃ v_128 : Array Value, v_128.size = 2 ∧ F.row bad9a_ v_128 ∧
  Spec prog 31 #[(.agg v_128)] F fun v F => ∃ v_129 : Int, ∃ v_129_1 : Bool, v = (.tuple #[(.int .u64 v_129), (.bool v_129_1)]) ∧
  (((!v_129_1) = true →
   ∃ v_135 : Array Value, v_135.size = 2 ∧ F.row bad9a_ v_135 ∧
   Spec prog 56 #[(.agg v_135)] F fun v F => ∃ v_136 : Sl, v = (Sl.v v_136) ∧
   (((v_136.len : Int) = (0 : Int) →
    ∃ v_141 : Array Value, v_141.size = 2 ∧ F.row bad9a_ v_141 ∧
    Spec prog 21 #[(.agg v_141), (.int .u64 (0 : Int))] F fun v F => ∃ v_142 : Bool, v = (.bool v_142) ∧
    (((!v_142) = true →
     ∃ v_146 : Array Value, v_146.size = 2 ∧ F.row bad9a_ v_146 ∧
     ∃ v_147 : Array Value, v_147.size = 2 ∧ F.row bad9a_ v_147 ∧
     Spec prog 44 #[(.agg v_146), (.agg v_147)] F fun v F => ∃ v_148 : Bool, v = (.bool v_148) ∧
     (((!v_148) = true →
      ∃ v_152 : Array Value, v_152.size = 2 ∧ F.row bad9a_ v_152 ∧
      Spec prog 17 #[(.bool false)] F fun v F => ∃ v_153 : Array Value, v = (.agg v_153) ∧
      F.row bad9a_ v_152 ∧ Spec prog 46 #[(.agg v_152), (.agg v_153)] F fun v F => ∃ v_154 : Bool, v = (.bool v_154) ∧
      b14j4 v_27 v_80 v_101_1 v_107_1 v_114_1 v_119_1 v_124_1 (!v_154) R F) ∧
     ((!v_148) = false →
      b14j4 v_27 v_80 v_101_1 v_107_1 v_114_1 v_119_1 v_124_1 false R F))) ∧
    ((!v_142) = false →
     b14j4 v_27 v_80 v_101_1 v_107_1 v_114_1 v_119_1 v_124_1 false R F))) ∧
   (¬ ((v_136.len : Int) = (0 : Int)) →
    b14j4 v_27 v_80 v_101_1 v_107_1 v_114_1 v_119_1 v_124_1 false R F))) ∧
  ((!v_129_1) = false →
   b14j4 v_27 v_80 v_101_1 v_107_1 v_114_1 v_119_1 v_124_1 false R F))))
abbrev b14J2 (v_27 : Bool) (b8 : Nat) (bad_9 : Option Addr) (R : Value → PH → Prop) (E : En) (F : PH) : Prop := E 7 = (.bool v_27) ∧ E 8 = (.pointer (some (Addr.mk b8 0 none))) ∧ E 9 = (.pointer bad_9) ∧ b14j2 v_27 b8 bad_9 R F
def b14j5 (at_1 : Int) (value_2 : Int) (v_27 : Bool) (b8 : Nat) (bad_9 : Option Addr) (v_45 : Bool) (R : Value → PH → Prop) (F : PH) : Prop :=
 ((v_45 = true →
  ∃ bad9a__1 : Addr, bad_9 = some bad9a__1 ∧ ∃ c e, F (Addr.add bad9a__1 1).block = some (.cells c e (0, 0)) ∧ (Addr.add bad9a__1 1).spot = none ∧ (Addr.add bad9a__1 1).off < c.size ∧
  atF (F.set (Addr.add bad9a__1 1).block (.cells (c.setIfInBounds (Addr.add bad9a__1 1).off (.int .i64 value_2)) e)) fun F =>
  b14j2 v_27 b8 (some bad9a__1) R F) ∧
 (v_45 = false →
  ∃ bad9a__2 : Addr, bad_9 = some bad9a__2 ∧ ∃ v_52 : Sl, F.cell bad9a__2 = some (Sl.v v_52) ∧
  (v_52.len : Int) ≠ 0 ∧ (((Int.tmod at_1 (4 : Int)) = (0 : Int) →
   ∃ v_66 : Sl, F.cell bad9a__2 = some (Sl.v v_66) ∧
   ∃ a69_ : Addr, v_66.base = some a69_ ∧ 0 ≤ (Int.tmod (IntKind.i64.wrap (IntKind.u8.wrap (Int.tdiv at_1 (4 : Int)))) (v_52.len : Int)) ∧ (Int.tmod (IntKind.i64.wrap (IntKind.u8.wrap (Int.tdiv at_1 (4 : Int)))) (v_52.len : Int)) < (v_66.len : Int) ∧
   ∃ c e, F (Addr.add a69_ (Int.toNat (Int.tmod (IntKind.i64.wrap (IntKind.u8.wrap (Int.tdiv at_1 (4 : Int)))) (v_52.len : Int)) * 3)).block = some (.cells c e (0, 0)) ∧ (Addr.add a69_ (Int.toNat (Int.tmod (IntKind.i64.wrap (IntKind.u8.wrap (Int.tdiv at_1 (4 : Int)))) (v_52.len : Int)) * 3)).spot = none ∧ (Addr.add a69_ (Int.toNat (Int.tmod (IntKind.i64.wrap (IntKind.u8.wrap (Int.tdiv at_1 (4 : Int)))) (v_52.len : Int)) * 3)).off < c.size ∧
   atF (F.set (Addr.add a69_ (Int.toNat (Int.tmod (IntKind.i64.wrap (IntKind.u8.wrap (Int.tdiv at_1 (4 : Int)))) (v_52.len : Int)) * 3)).block (.cells (c.setIfInBounds (Addr.add a69_ (Int.toNat (Int.tmod (IntKind.i64.wrap (IntKind.u8.wrap (Int.tdiv at_1 (4 : Int)))) (v_52.len : Int)) * 3)).off (.int .i64 value_2)) e)) fun F =>
   b14j2 v_27 b8 (some bad9a__2) R F) ∧
  (¬ ((Int.tmod at_1 (4 : Int)) = (0 : Int)) →
   (((Int.tmod at_1 (4 : Int)) = (1 : Int) →
    ∃ v_74 : Sl, F.cell bad9a__2 = some (Sl.v v_74) ∧
    ∃ a77_ : Addr, v_74.base = some a77_ ∧ 0 ≤ (Int.tmod (IntKind.i64.wrap (IntKind.u8.wrap (Int.tdiv at_1 (4 : Int)))) (v_52.len : Int)) ∧ (Int.tmod (IntKind.i64.wrap (IntKind.u8.wrap (Int.tdiv at_1 (4 : Int)))) (v_52.len : Int)) < (v_74.len : Int) ∧
    ∃ c e, F (Addr.add (Addr.add a77_ (Int.toNat (Int.tmod (IntKind.i64.wrap (IntKind.u8.wrap (Int.tdiv at_1 (4 : Int)))) (v_52.len : Int)) * 3)) 1).block = some (.cells c e (0, 0)) ∧ (Addr.add (Addr.add a77_ (Int.toNat (Int.tmod (IntKind.i64.wrap (IntKind.u8.wrap (Int.tdiv at_1 (4 : Int)))) (v_52.len : Int)) * 3)) 1).spot = none ∧ (Addr.add (Addr.add a77_ (Int.toNat (Int.tmod (IntKind.i64.wrap (IntKind.u8.wrap (Int.tdiv at_1 (4 : Int)))) (v_52.len : Int)) * 3)) 1).off < c.size ∧
    atF (F.set (Addr.add (Addr.add a77_ (Int.toNat (Int.tmod (IntKind.i64.wrap (IntKind.u8.wrap (Int.tdiv at_1 (4 : Int)))) (v_52.len : Int)) * 3)) 1).block (.cells (c.setIfInBounds (Addr.add (Addr.add a77_ (Int.toNat (Int.tmod (IntKind.i64.wrap (IntKind.u8.wrap (Int.tdiv at_1 (4 : Int)))) (v_52.len : Int)) * 3)) 1).off (.int .i64 value_2)) e)) fun F =>
    b14j2 v_27 b8 (some bad9a__2) R F) ∧
   (¬ ((Int.tmod at_1 (4 : Int)) = (1 : Int)) →
    ∃ v_58 : Sl, F.cell bad9a__2 = some (Sl.v v_58) ∧
    ∃ a61_ : Addr, v_58.base = some a61_ ∧ 0 ≤ (Int.tmod (IntKind.i64.wrap (IntKind.u8.wrap (Int.tdiv at_1 (4 : Int)))) (v_52.len : Int)) ∧ (Int.tmod (IntKind.i64.wrap (IntKind.u8.wrap (Int.tdiv at_1 (4 : Int)))) (v_52.len : Int)) < (v_58.len : Int) ∧
    ∃ c e, F (Addr.add (Addr.add a61_ (Int.toNat (Int.tmod (IntKind.i64.wrap (IntKind.u8.wrap (Int.tdiv at_1 (4 : Int)))) (v_52.len : Int)) * 3)) 2).block = some (.cells c e (0, 0)) ∧ (Addr.add (Addr.add a61_ (Int.toNat (Int.tmod (IntKind.i64.wrap (IntKind.u8.wrap (Int.tdiv at_1 (4 : Int)))) (v_52.len : Int)) * 3)) 2).spot = none ∧ (Addr.add (Addr.add a61_ (Int.toNat (Int.tmod (IntKind.i64.wrap (IntKind.u8.wrap (Int.tdiv at_1 (4 : Int)))) (v_52.len : Int)) * 3)) 2).off < c.size ∧
    atF (F.set (Addr.add (Addr.add a61_ (Int.toNat (Int.tmod (IntKind.i64.wrap (IntKind.u8.wrap (Int.tdiv at_1 (4 : Int)))) (v_52.len : Int)) * 3)) 2).block (.cells (c.setIfInBounds (Addr.add (Addr.add a61_ (Int.toNat (Int.tmod (IntKind.i64.wrap (IntKind.u8.wrap (Int.tdiv at_1 (4 : Int)))) (v_52.len : Int)) * 3)) 2).off (.int .i64 value_2)) e)) fun F =>
    b14j2 v_27 b8 (some bad9a__2) R F))))))
abbrev b14J5 (at_1 : Int) (value_2 : Int) (v_27 : Bool) (b8 : Nat) (bad_9 : Option Addr) (R : Value → PH → Prop) (E : En) (F : PH) : Prop := ∃ v_45 : Bool, E 1 = (.int .u8 at_1) ∧ E 2 = (.int .i64 value_2) ∧ E 7 = (.bool v_27) ∧ E 8 = (.pointer (some (Addr.mk b8 0 none))) ∧ E 9 = (.pointer bad_9) ∧ E 45 = (.bool v_45) ∧ b14j5 at_1 value_2 v_27 b8 bad_9 v_45 R F
def b14j1 (at_1 : Int) (value_2 : Int) (v_27 : Bool) (b8 : Nat) (bad_9 : Option Addr) (R : Value → PH → Prop) (F : PH) : Prop :=
 ∃ bad9a__3 : Addr, bad_9 = some bad9a__3 ∧ ∃ v_38 : Sl, F.cell bad9a__3 = some (Sl.v v_38) ∧
 (((v_38.len : Int) = (0 : Int) →
  b14j5 at_1 value_2 v_27 b8 (some bad9a__3) true R F) ∧
 (¬ ((v_38.len : Int) = (0 : Int)) →
  b14j5 at_1 value_2 v_27 b8 (some bad9a__3) (decide ((Int.tmod at_1 (4 : Int)) = (3 : Int))) R F))
abbrev b14J1 (at_1 : Int) (value_2 : Int) (v_27 : Bool) (b8 : Nat) (R : Value → PH → Prop) (E : En) (F : PH) : Prop := ∃ bad_9 : Option Addr, E 1 = (.int .u8 at_1) ∧ E 2 = (.int .i64 value_2) ∧ E 7 = (.bool v_27) ∧ E 8 = (.pointer (some (Addr.mk b8 0 none))) ∧ E 9 = (.pointer bad_9) ∧ b14j1 at_1 value_2 v_27 b8 bad_9 R F
def b14 (s_0 : Array Value) (at_1 : Int) (value_2 : Int) (R : Value → PH → Prop) (F : PH) : Prop :=
 ∀ b3, F b3 = none → atF (F.set b3 (.cells s_0 24)) fun F =>
 Spec prog 15 #[] F fun v F => ∃ v_27 : Bool, v = (.bool v_27) ∧
 ∃ v_28 : Array Value, v_28.size = 2 ∧ F.row (Addr.mk b3 0 none) v_28 ∧
 Spec prog 16 #[(.agg v_28)] F fun v F => ∃ v_29 : Array Value, v = (.agg v_29) ∧
 ∀ b8, F b8 = none → atF (F.set b8 (.cells (#[.slice none 0 0, .int .i64 0]) 28)) fun F =>
 v_29.size = 2 ∧ (∀ v ∈ v_29.toList, storable v) ∧ ∃ c e, F (Addr.mk b8 0 none).block = some (.cells c e (0, 0)) ∧ (Addr.mk b8 0 none).spot = none ∧ (Addr.mk b8 0 none).off + 2 ≤ c.size ∧
 atF (F.set (Addr.mk b8 0 none).block (.cells (wr c (Addr.mk b8 0 none).off v_29.toList) e)) fun F =>
 ∃ v_32 : Sl, F.cell (Addr.mk b8 0 none) = some (Sl.v v_32) ∧
 ∃ v_35 : Int, F.cell (Addr.mk b8 1 none) = some (.int .i64 v_35) ∧
 ((∀ b30, F b30 = none → atF (F.set b30 (.cells #[] 72)) fun F =>
 ((runs prog (Builtin.append_ #[26, 26] 26 #[(Sl.v (Sl.mk (some (Addr.mk b30 0 none)) 0 0)), (Sl.v v_32)]) F fun v F => ∃ v_33 : Sl, v = (Sl.v v_33) ∧
 F.cell (Addr.mk b8 1 none) = some (.int .i64 v_35) ∧ ∀ b9, F b9 = none → atF (F.set b9 (.cells (#[.slice none 0 0, .int .i64 0]) 28)) fun F =>
 (#[(Sl.v v_33), (.int .i64 v_35)] : Array Value).size = 2 ∧ (∀ v ∈ (#[(Sl.v v_33), (.int .i64 v_35)] : Array Value).toList, storable v) ∧ ∃ c e, F (Addr.mk b9 0 none).block = some (.cells c e (0, 0)) ∧ (Addr.mk b9 0 none).spot = none ∧ (Addr.mk b9 0 none).off + 2 ≤ c.size ∧
 atF (F.set (Addr.mk b9 0 none).block (.cells (wr c (Addr.mk b9 0 none).off (#[(Sl.v v_33), (.int .i64 v_35)] : Array Value).toList) e)) fun F =>
 b14j1 at_1 value_2 v_27 b8 (some (Addr.mk b9 0 none)) R F) ∧
 (∀ b9_1, F b9_1 = none → atF (F.set b9_1 (.cells (#[.slice none 0 0, .int .i64 0]) 28)) fun F =>
 runs prog (Builtin.append_ #[26, 26] 26 #[(Sl.v (Sl.mk (some (Addr.mk b30 0 none)) 0 0)), (Sl.v v_32)]) F fun v F => ∃ v_33_1 : Sl, v = (Sl.v v_33_1) ∧
 F.cell (Addr.mk b8 1 none) = some (.int .i64 v_35) ∧ (#[(Sl.v v_33_1), (.int .i64 v_35)] : Array Value).size = 2 ∧ (∀ v ∈ (#[(Sl.v v_33_1), (.int .i64 v_35)] : Array Value).toList, storable v) ∧ ∃ c e, F (Addr.mk b9_1 0 none).block = some (.cells c e (0, 0)) ∧ (Addr.mk b9_1 0 none).spot = none ∧ (Addr.mk b9_1 0 none).off + 2 ≤ c.size ∧
 atF (F.set (Addr.mk b9_1 0 none).block (.cells (wr c (Addr.mk b9_1 0 none).off (#[(Sl.v v_33_1), (.int .i64 v_35)] : Array Value).toList) e)) fun F =>
 b14j1 at_1 value_2 v_27 b8 (some (Addr.mk b9_1 0 none)) R F))) ∧
 (∀ b9_2, F b9_2 = none → atF (F.set b9_2 (.cells (#[.slice none 0 0, .int .i64 0]) 28)) fun F =>
 ∀ b30_1, F b30_1 = none → atF (F.set b30_1 (.cells #[] 72)) fun F =>
 runs prog (Builtin.append_ #[26, 26] 26 #[(Sl.v (Sl.mk (some (Addr.mk b30_1 0 none)) 0 0)), (Sl.v v_32)]) F fun v F => ∃ v_33_2 : Sl, v = (Sl.v v_33_2) ∧
 F.cell (Addr.mk b8 1 none) = some (.int .i64 v_35) ∧ (#[(Sl.v v_33_2), (.int .i64 v_35)] : Array Value).size = 2 ∧ (∀ v ∈ (#[(Sl.v v_33_2), (.int .i64 v_35)] : Array Value).toList, storable v) ∧ ∃ c e, F (Addr.mk b9_2 0 none).block = some (.cells c e (0, 0)) ∧ (Addr.mk b9_2 0 none).spot = none ∧ (Addr.mk b9_2 0 none).off + 2 ≤ c.size ∧
 atF (F.set (Addr.mk b9_2 0 none).block (.cells (wr c (Addr.mk b9_2 0 none).off (#[(Sl.v v_33_2), (.int .i64 v_35)] : Array Value).toList) e)) fun F =>
 b14j1 at_1 value_2 v_27 b8 (some (Addr.mk b9_2 0 none)) R F))
theorem c14 {s_0 : Array Value} {at_1 : Int} {value_2 : Int} {R : Value → PH → Prop} {F : PH} (h : b14 s_0 at_1 value_2 R F) : Spec prog 14 #[(.agg s_0), (.int .u8 at_1), (.int .i64 value_2)] F R := by
 refine spec_of (args := [(.agg s_0), (.int .u8 at_1), (.int .i64 value_2)]) func14 rfl ntmps14 rfl ?_
 unfold b14 at h
 refine cR ?_
 refine s_ef (k_box (cs := s_0) rfl rfl ?_)
 intro b3 hf_b3
 replace h := atE (h b3 hf_b3)
 refine sR (.bool false) (r_assign rfl rfl) ?_
 refine HL_nil ?_
 refine cR ?_
 refine s_ef (k_call (vs := []) cb15 evN (h.mono ?_))
 clear h; rintro v F ⟨v_27, rfl, h⟩
 refine sR (.bool v_27) (r_assign rfl rfl) ?_
 refine HL_nil ?_
 refine cR ?_
 obtain ⟨v_28, hs28, hc28, h⟩ := h
 refine sR (.agg v_28) (w_loadN rfl underlying24 rfl sz24 hs28 hc28) ?_
 refine s_ef (k_call (vs := [(.agg v_28)]) cb16 (evC rfl evN) (h.mono ?_))
 clear h; rintro v F ⟨v_29, rfl, h⟩
 refine s_ef (k_alloc zr28 ?_)
 intro b8 hf_b8
 replace h := atE (h b8 hf_b8)
 refine s_ef0 (k_storeN (vs := v_29) rfl rfl sz28 (by decide) ?_)
 obtain ⟨hz1, hz2, c, e, hz3, hz4, hz5, h⟩ := h
 refine ⟨hz1, hz2, c, e, hz3, hz4, hz5, ?_⟩
 replace h := atE h
 refine HL_nil ?_
 refine HC_seqJ (b14J1 at_1 value_2 v_27 b8 R) ?_ ?_
 ·
  clear h; rintro E F ⟨bad_9, h1, h2, h7, h8, h9, h⟩
  unfold b14j1 at h
  refine HC_seqJ (b14J2 v_27 b8 bad_9 R) ?_ ?_
  ·
   clear h; rintro E F ⟨h7, h8, h9, h⟩
   unfold b14j2 at h
   refine cR ?_
   obtain ⟨bad9a_, rfl, h⟩ := h
   obtain ⟨v_79, hs79, hc79, h⟩ := h
   refine sR (.agg v_79) (w_loadN h9 underlying28 rfl sz28 hs79 hc79) ?_
   refine s_ef (k_call (vs := [(.agg v_79)]) cb23 (evC rfl evN) (h.mono ?_))
   clear h; rintro v F ⟨v_80, rfl, h⟩
   refine sR (.int .i64 v_80) (r_assign rfl rfl) ?_
   refine HL_nil ?_
   refine HC_seq ?_
   refine cR ?_
   refine sR (.int .i64 v_80) (r_move rfl rfl) ?_
   refine sR (.bool (decide (v_80 = (0 : Int)))) (w_eql rfl rfl) ?_
   refine HL_nil ?_
   refine HC_cond (t := (decide (v_80 = (0 : Int)))) rfl (fun hc => ?_) (fun hc => ?_)
   ·
    replace h := h.1 (of_decide_eq_true hc)
    clear hc
    refine HC_seqJ (b14J3 v_27 bad9a_ R) ?_ ?_
    ·
     clear h; rintro E F ⟨same_12, f_13, h7, h9, h12, h13, h⟩
     unfold b14j3 at h
     refine cR ?_
     refine sR (.int .i64 f_13) (r_move rfl h13) ?_
     refine sR (.bool (decide (f_13 = (0 : Int)))) (w_eql rfl rfl) ?_
     refine sR (.bool (decide (f_13 = (0 : Int)))) (r_move rfl rfl) ?_
     by_cases hc : f_13 = (0 : Int)
     ·
      replace h := h.1 hc
      refine kN 90 (decide_eq_true hc) ?_
      refine kN 91 (decide_eq_true hc) ?_
      obtain ⟨same12a_, rfl, h⟩ := h
      obtain ⟨v_92, hs92, hc92, h⟩ := h
      refine sR (.agg v_92) (w_loadN h12 underlying28 rfl sz28 hs92 hc92) ?_
      obtain ⟨v_93, hs93, hc93, h⟩ := h
      refine sR (.agg v_93) (w_loadN h9 underlying28 rfl sz28 hs93 hc93) ?_
      refine s_ef (k_call (vs := [(.agg v_92), (.agg v_93)]) cb24 (evC rfl (evC rfl evN)) (h.mono ?_))
      clear h; rintro v F ⟨v_94, rfl, h⟩
      refine sR (.bool v_94) (r_pick rfl rfl (fun _ => rfl) (fun h => by cases h)) ?_
      refine sR (.bool v_94) (r_move rfl rfl) ?_
      by_cases hc : v_94 = true
      ·
       replace h := h.1 hc
       refine kN 94 hc ?_
       refine kN 95 hc ?_
       refine kN 96 hc ?_
       refine sR (.bool v_27) (r_move rfl h7) ?_
       refine sR (.bool v_27) (r_pick rfl rfl (fun _ => rfl) (fun h => by cases h)) ?_
       refine sR (.bool v_27) (r_assign rfl rfl) ?_
       refine HL_nil ?_
       exact HC_ret (show endQ prog f14 R .ret _ _ from ⟨_, res1 rfl (rv_tmp rfl), h⟩)
      ·
       replace hc := eq_false_of_ne_true hc; replace h := h.2 hc
       refine kN 94 hc ?_
       refine kN 95 hc ?_
       refine kN 96 hc ?_
       refine s_skip ?_
       refine sR (.bool false) (r_pick rfl rfl (fun h => by cases h) (fun _ => rfl)) ?_
       refine sR (.bool false) (r_assign rfl rfl) ?_
       refine HL_nil ?_
       exact HC_ret (show endQ prog f14 R .ret _ _ from ⟨_, res1 rfl (rv_tmp rfl), h⟩)
     ·
      replace h := h.2 hc
      refine kN 90 (decide_eq_false hc) ?_
      refine kN 91 (decide_eq_false hc) ?_
      refine s_skip ?_
      refine s_skip ?_
      refine s_skip ?_
      refine sR (.bool false) (r_pick rfl rfl (fun h => by cases h) (fun _ => rfl)) ?_
      refine sR (.bool false) (r_move rfl rfl) ?_
      refine s_skip ?_
      refine sR (.bool false) (r_pick rfl rfl (fun h => by cases h) (fun _ => rfl)) ?_
      refine sR (.bool false) (r_assign rfl rfl) ?_
      refine HL_nil ?_
      exact HC_ret (show endQ prog f14 R .ret _ _ from ⟨_, res1 rfl (rv_tmp rfl), h⟩)
    ·
     skip
     refine HC_draw0 (by kernel_rfl) (fun hp => ?_)
     obtain ⟨v_84, hs84, hc84, h⟩ := h
     refine gR 0 (.agg v_84) rfl (w_loadN h9 underlying28 rfl sz28 hs84 hc84) hp (fun S0 q0 => ?_)
     replace hp := holdC (i := 0) (q0 _ (w_loadN h9 underlying28 rfl sz28 hs84 hc84)) hp
     refine RG_eff (rs := [1, 6]) (by kernel_rfl) rfl ?_
     obtain ⟨ha0, ha1⟩ := h
     simp only [List.mem_cons, List.not_mem_nil, or_false, forall_eq_or_imp, forall_eq]
     refine ⟨?_, ?_⟩
     ·
      have h := ha0; clear ha0 ha1
      refine g_op (Sp' := [(0, S0)]) rfl rfl (k_call (vs := [(.bool true)]) cb17 (evC rfl evN) (h.mono ?_))
      clear h; rintro v F ⟨v_85, rfl, h⟩
      obtain ⟨hk_10, h⟩ := h
      refine holdI (holdC (i := 0) (q0 _ (w_loadN h9 underlying28 rfl sz28 hs84 hk_10)) hold0) (fun hp => ?_)
      refine RG_eff (rs := [2, 6]) (by kernel_rfl) rfl ?_
      obtain ⟨ha0, ha1⟩ := h
      simp only [List.mem_cons, List.not_mem_nil, or_false, forall_eq_or_imp, forall_eq]
      refine ⟨?_, ?_⟩
      ·
       have h := ha0; clear ha0 ha1
       refine g_op (Sp' := []) rfl rfl (k_call (vs := [(.agg v_84), (.agg v_85)]) cb19 (evC rfl (evC rfl evN)) (h.mono ?_))
       clear h; rintro v F ⟨v_86, v_86_1, rfl, h⟩
       refine holdI hold0 (fun hp => ?_)
       refine gU 3 (.tuple #[(.agg v_86), (.int .i64 v_86_1)]) rfl (fun _ => r_move rfl rfl) hp ?_
       refine gU 4 (.agg v_86) rfl (fun _ => r_extract rfl rfl rfl) hp ?_
       refine gU 5 (.int .i64 v_86_1) rfl (fun _ => r_extract rfl rfl rfl) hp ?_
       refine RG_eff1 (i := 6) (by kernel_rfl) (g_op (Sp' := []) rfl rfl (k_alloc zr28 ?_))
       intro b12 hf_b12
       replace h := atE (h b12 hf_b12)
       refine holdI hold0 (fun hp => ?_)
       refine RG_eff1 (i := 7) (by kernel_rfl) (g_op0 (Sp' := []) rfl rfl (k_storeN (vs := v_86) rfl rfl sz28 (by decide) ?_))
       obtain ⟨hz1, hz2, c, e, hz3, hz4, hz5, h⟩ := h
       refine ⟨hz1, hz2, c, e, hz3, hz4, hz5, ?_⟩
       replace h := atE h
       refine holdI hold0 (fun hp => ?_)
       refine gU 8 (.int .i64 v_86_1) rfl (fun _ => r_assign rfl rfl) hp ?_
       refine RG_done (by kernel_rfl) ?_
       show b14J3 v_27 bad9a_ R _ _
       exact ⟨_, _, h7, h9, rfl, rfl, h⟩
      ·
       have h := ha1; clear ha0 ha1
       refine g_op (Sp' := [(0, S0)]) rfl rfl (k_alloc zr28 ?_)
       intro b12_1 hf_b12_1
       replace h := atE (h b12_1 hf_b12_1)
       refine holdI (holdC (i := 0) (q0 _ (w_loadN h9 underlying28 rfl sz28 hs84 (row_set_fresh hf_b12_1 hk_10))) hold0) (fun hp => ?_)
       refine RG_eff1 (i := 2) (by kernel_rfl) (g_op (Sp' := []) rfl rfl (k_call (vs := [(.agg v_84), (.agg v_85)]) cb19 (evC rfl (evC rfl evN)) (h.mono ?_)))
       clear h; rintro v F ⟨v_86_2, v_86_3, rfl, h⟩
       refine holdI hold0 (fun hp => ?_)
       refine gU 3 (.tuple #[(.agg v_86_2), (.int .i64 v_86_3)]) rfl (fun _ => r_move rfl rfl) hp ?_
       refine gU 4 (.agg v_86_2) rfl (fun _ => r_extract rfl rfl rfl) hp ?_
       refine gU 5 (.int .i64 v_86_3) rfl (fun _ => r_extract rfl rfl rfl) hp ?_
       refine RG_eff1 (i := 7) (by kernel_rfl) (g_op0 (Sp' := []) rfl rfl (k_storeN (vs := v_86_2) rfl rfl sz28 (by decide) ?_))
       obtain ⟨hz1, hz2, c, e, hz3, hz4, hz5, h⟩ := h
       refine ⟨hz1, hz2, c, e, hz3, hz4, hz5, ?_⟩
       replace h := atE h
       refine holdI hold0 (fun hp => ?_)
       refine gU 8 (.int .i64 v_86_3) rfl (fun _ => r_assign rfl rfl) hp ?_
       refine RG_done (by kernel_rfl) ?_
       show b14J3 v_27 bad9a_ R _ _
       exact ⟨_, _, h7, h9, rfl, rfl, h⟩
     ·
      have h := ha1; clear ha0 ha1
      refine g_op (Sp' := [(0, S0)]) rfl rfl (k_alloc zr28 ?_)
      intro b12_2 hf_b12_2
      replace h := atE (h b12_2 hf_b12_2)
      refine holdI (holdC (i := 0) (q0 _ (w_loadN h9 underlying28 rfl sz28 hs84 (row_set_fresh hf_b12_2 hc84))) hold0) (fun hp => ?_)
      refine RG_eff1 (i := 1) (by kernel_rfl) (g_op (Sp' := [(0, S0)]) rfl rfl (k_call (vs := [(.bool true)]) cb17 (evC rfl evN) (h.mono ?_)))
      clear h; rintro v F ⟨v_85_1, rfl, h⟩
      obtain ⟨hk_11, h⟩ := h
      refine holdI (holdC (i := 0) (q0 _ (w_loadN h9 underlying28 rfl sz28 hs84 hk_11)) hold0) (fun hp => ?_)
      refine RG_eff1 (i := 2) (by kernel_rfl) (g_op (Sp' := []) rfl rfl (k_call (vs := [(.agg v_84), (.agg v_85_1)]) cb19 (evC rfl (evC rfl evN)) (h.mono ?_)))
      clear h; rintro v F ⟨v_86_4, v_86_5, rfl, h⟩
      refine holdI hold0 (fun hp => ?_)
      refine gU 3 (.tuple #[(.agg v_86_4), (.int .i64 v_86_5)]) rfl (fun _ => r_move rfl rfl) hp ?_
      refine gU 4 (.agg v_86_4) rfl (fun _ => r_extract rfl rfl rfl) hp ?_
      refine gU 5 (.int .i64 v_86_5) rfl (fun _ => r_extract rfl rfl rfl) hp ?_
      refine RG_eff1 (i := 7) (by kernel_rfl) (g_op0 (Sp' := []) rfl rfl (k_storeN (vs := v_86_4) rfl rfl sz28 (by decide) ?_))
      obtain ⟨hz1, hz2, c, e, hz3, hz4, hz5, h⟩ := h
      refine ⟨hz1, hz2, c, e, hz3, hz4, hz5, ?_⟩
      replace h := atE h
      refine holdI hold0 (fun hp => ?_)
      refine gU 8 (.int .i64 v_86_5) rfl (fun _ => r_assign rfl rfl) hp ?_
      refine RG_done (by kernel_rfl) ?_
      show b14J3 v_27 bad9a_ R _ _
      exact ⟨_, _, h7, h9, rfl, rfl, h⟩
   ·
    replace h := h.2 (of_decide_eq_false hc)
    clear hc
    refine HC_skip ?_
    refine cR ?_
    obtain ⟨v_100, hs100, hc100, h⟩ := h
    refine sR (.agg v_100) (w_loadN h9 underlying28 rfl sz28 hs100 hc100) ?_
    refine s_ef (k_call (vs := [(.agg v_100)]) cb25 (evC rfl evN) (h.mono ?_))
    clear h; rintro v F ⟨v_101, v_101_1, rfl, h⟩
    refine sR (.tuple #[(.agg v_101), (.int .i64 v_101_1)]) (r_move rfl rfl) ?_
    refine sR (.agg v_101) (r_extract rfl rfl rfl) ?_
    refine sR (.int .i64 v_101_1) (r_extract rfl rfl rfl) ?_
    refine s_ef (k_alloc zr28 ?_)
    intro b14 hf_b14
    replace h := atE (h b14 hf_b14)
    refine s_ef0 (k_storeN (vs := v_101) rfl rfl sz28 (by decide) ?_)
    obtain ⟨hz1, hz2, c, e, hz3, hz4, hz5, h⟩ := h
    refine ⟨hz1, hz2, c, e, hz3, hz4, hz5, ?_⟩
    replace h := atE h
    refine sR (.int .i64 v_101_1) (r_assign rfl rfl) ?_
    refine HL_nil ?_
    refine cR ?_
    obtain ⟨v_105, hs105, hc105, h⟩ := h
    refine sR (.agg v_105) (w_loadN h8 underlying28 rfl sz28 hs105 hc105) ?_
    obtain ⟨v_106, hs106, hc106, h⟩ := h
    refine sR (.agg v_106) (w_loadN h9 underlying28 rfl sz28 hs106 hc106) ?_
    refine s_ef (k_call (vs := [(.agg v_105), (.agg v_106)]) cb19 (evC rfl (evC rfl evN)) (h.mono ?_))
    clear h; rintro v F ⟨v_107, v_107_1, rfl, h⟩
    refine sR (.tuple #[(.agg v_107), (.int .i64 v_107_1)]) (r_move rfl rfl) ?_
    refine sR (.agg v_107) (r_extract rfl rfl rfl) ?_
    refine sR (.int .i64 v_107_1) (r_extract rfl rfl rfl) ?_
    refine s_ef (k_alloc zr28 ?_)
    intro b16 hf_b16
    replace h := atE (h b16 hf_b16)
    refine s_ef0 (k_storeN (vs := v_107) rfl rfl sz28 (by decide) ?_)
    obtain ⟨hz1, hz2, c, e, hz3, hz4, hz5, h⟩ := h
    refine ⟨hz1, hz2, c, e, hz3, hz4, hz5, ?_⟩
    replace h := atE h
    refine sR (.int .i64 v_107_1) (r_assign rfl rfl) ?_
    refine HL_nil ?_
    refine cR ?_
    obtain ⟨v_111, hs111, hc111, h⟩ := h
    refine sR (.agg v_111) (w_loadN h8 underlying28 rfl sz28 hs111 hc111) ?_
    obtain ⟨v_112, hs112, hc112, h⟩ := h
    refine sR (.agg v_112) (w_loadN h8 underlying28 rfl sz28 hs112 hc112) ?_
    obtain ⟨v_113, hs113, hc113, h⟩ := h
    refine sR (.agg v_113) (w_loadN h9 underlying28 rfl sz28 hs113 hc113) ?_
    refine s_ef (k_call (vs := [(.agg v_111), (.agg v_112), (.agg v_113)]) cb27 (evC rfl (evC rfl (evC rfl evN))) (h.mono ?_))
    clear h; rintro v F ⟨v_114, v_114_1, rfl, h⟩
    refine sR (.tuple #[(.agg v_114), (.int .i64 v_114_1)]) (r_move rfl rfl) ?_
    refine sR (.agg v_114) (r_extract rfl rfl rfl) ?_
    refine sR (.int .i64 v_114_1) (r_extract rfl rfl rfl) ?_
    refine s_ef (k_alloc zr28 ?_)
    intro b18 hf_b18
    replace h := atE (h b18 hf_b18)
    refine s_ef0 (k_storeN (vs := v_114) rfl rfl sz28 (by decide) ?_)
    obtain ⟨hz1, hz2, c, e, hz3, hz4, hz5, h⟩ := h
    refine ⟨hz1, hz2, c, e, hz3, hz4, hz5, ?_⟩
    replace h := atE h
    refine sR (.int .i64 v_114_1) (r_assign rfl rfl) ?_
    refine HL_nil ?_
    refine cR ?_
    obtain ⟨v_118, hs118, hc118, h⟩ := h
    refine sR (.agg v_118) (w_loadN h9 underlying28 rfl sz28 hs118 hc118) ?_
    refine s_ef (k_call (vs := [(.agg v_118), (.int .i64 (64 : Int)), (.bool true)]) cb28 (evC rfl (evC rfl (evC rfl evN))) (h.mono ?_))
    clear h; rintro v F ⟨v_119, v_119_1, rfl, h⟩
    refine sR (.tuple #[(.agg v_119), (.int .i64 v_119_1)]) (r_move rfl rfl) ?_
    refine sR (.agg v_119) (r_extract rfl rfl rfl) ?_
    refine sR (.int .i64 v_119_1) (r_extract rfl rfl rfl) ?_
    refine s_ef (k_alloc zr28 ?_)
    intro b20 hf_b20
    replace h := atE (h b20 hf_b20)
    refine s_ef0 (k_storeN (vs := v_119) rfl rfl sz28 (by decide) ?_)
    obtain ⟨hz1, hz2, c, e, hz3, hz4, hz5, h⟩ := h
    refine ⟨hz1, hz2, c, e, hz3, hz4, hz5, ?_⟩
    replace h := atE h
    refine sR (.int .i64 v_119_1) (r_assign rfl rfl) ?_
    refine HL_nil ?_
    refine cR ?_
    obtain ⟨v_123, hs123, hc123, h⟩ := h
    refine sR (.agg v_123) (w_loadN h9 underlying28 rfl sz28 hs123 hc123) ?_
    refine s_ef (k_call (vs := [(.agg v_123), (.int .i64 (-1 : Int))]) cb32 (evC rfl (evC rfl evN)) (h.mono ?_))
    clear h; rintro v F ⟨v_124, v_124_1, rfl, h⟩
    refine sR (.tuple #[(Sl.v v_124), (.int .i64 v_124_1)]) (r_move rfl rfl) ?_
    refine sR (Sl.v v_124) (r_extract rfl rfl rfl) ?_
    refine sR (.int .i64 v_124_1) (r_extract rfl rfl rfl) ?_
    refine sR (Sl.v v_124) (r_assign rfl rfl) ?_
    refine sR (.int .i64 v_124_1) (r_assign rfl rfl) ?_
    refine HL_nil ?_
    refine cR ?_
    obtain ⟨v_128, hs128, hc128, h⟩ := h
    refine sR (.agg v_128) (w_loadN h9 underlying28 rfl sz28 hs128 hc128) ?_
    refine s_ef (k_call (vs := [(.agg v_128)]) cb31 (evC rfl evN) (h.mono ?_))
    clear h; rintro v F ⟨v_129, v_129_1, rfl, h⟩
    refine sR (.tuple #[(.int .u64 v_129), (.bool v_129_1)]) (r_move rfl rfl) ?_
    refine sR (.int .u64 v_129) (r_extract rfl rfl rfl) ?_
    refine sR (.bool v_129_1) (r_extract rfl rfl rfl) ?_
    refine sR (.int .u64 v_129) (r_assign rfl rfl) ?_
    refine sR (.bool v_129_1) (r_assign rfl rfl) ?_
    refine HL_nil ?_
    refine HC_seqJ (b14J4 v_27 v_80 v_101_1 v_107_1 v_114_1 v_119_1 v_124_1 R) ?_ ?_
    ·
     clear h; rintro E F ⟨quiet_26, h7, h11, h15, h17, h19, h21, h23, h26, h⟩
     unfold b14j4 at h
     refine cR ?_
     refine sR (.int .i64 v_80) (r_move rfl h11) ?_
     refine sR (.bool (decide (v_80 = (20 : Int)))) (w_eql rfl rfl) ?_
     refine sR (.bool (decide (v_80 = (20 : Int)))) (r_move rfl rfl) ?_
     by_cases hc : v_80 = (20 : Int)
     ·
      replace h := h.1 hc
      refine kN 158 (decide_eq_true hc) ?_
      refine kN 159 (decide_eq_true hc) ?_
      refine sR (.int .i64 v_101_1) (r_move rfl h15) ?_
      refine sR (.int .i64 v_80) (r_move rfl h11) ?_
      refine sR (.bool (decide (v_101_1 = v_80))) (w_eql rfl rfl) ?_
      refine sR (.bool (decide (v_101_1 = v_80))) (r_pick rfl rfl (fun _ => rfl) (fun h => by cases h)) ?_
      refine sR (.bool (decide (v_101_1 = v_80))) (r_move rfl rfl) ?_
      by_cases hc : v_101_1 = v_80
      ·
       replace h := h.1 hc
       refine kN 162 (decide_eq_true hc) ?_
       refine kN 163 (decide_eq_true hc) ?_
       refine kN 164 (decide_eq_true hc) ?_
       refine sR (.int .i64 v_107_1) (r_move rfl h17) ?_
       refine sR (.int .i64 v_80) (r_move rfl h11) ?_
       refine sR (.bool (decide (v_107_1 = v_80))) (w_eql rfl rfl) ?_
       refine sR (.bool (decide (v_107_1 = v_80))) (r_pick rfl rfl (fun _ => rfl) (fun h => by cases h)) ?_
       refine sR (.bool (decide (v_107_1 = v_80))) (r_move rfl rfl) ?_
       by_cases hc : v_107_1 = v_80
       ·
        replace h := h.1 hc
        refine kN 167 (decide_eq_true hc) ?_
        refine kN 168 (decide_eq_true hc) ?_
        refine kN 169 (decide_eq_true hc) ?_
        refine sR (.int .i64 v_114_1) (r_move rfl h19) ?_
        refine sR (.int .i64 v_80) (r_move rfl h11) ?_
        refine sR (.bool (decide (v_114_1 = v_80))) (w_eql rfl rfl) ?_
        refine sR (.bool (decide (v_114_1 = v_80))) (r_pick rfl rfl (fun _ => rfl) (fun h => by cases h)) ?_
        refine sR (.bool (decide (v_114_1 = v_80))) (r_move rfl rfl) ?_
        by_cases hc : v_114_1 = v_80
        ·
         replace h := h.1 hc
         refine kN 172 (decide_eq_true hc) ?_
         refine kN 173 (decide_eq_true hc) ?_
         refine kN 174 (decide_eq_true hc) ?_
         refine sR (.int .i64 v_119_1) (r_move rfl h21) ?_
         refine sR (.int .i64 v_80) (r_move rfl h11) ?_
         refine sR (.bool (decide (v_119_1 = v_80))) (w_eql rfl rfl) ?_
         refine sR (.bool (decide (v_119_1 = v_80))) (r_pick rfl rfl (fun _ => rfl) (fun h => by cases h)) ?_
         refine sR (.bool (decide (v_119_1 = v_80))) (r_move rfl rfl) ?_
         by_cases hc : v_119_1 = v_80
         ·
          replace h := h.1 hc
          refine kN 177 (decide_eq_true hc) ?_
          refine kN 178 (decide_eq_true hc) ?_
          refine kN 179 (decide_eq_true hc) ?_
          refine sR (.int .i64 v_124_1) (r_move rfl h23) ?_
          refine sR (.int .i64 v_80) (r_move rfl h11) ?_
          refine sR (.bool (decide (v_124_1 = v_80))) (w_eql rfl rfl) ?_
          refine sR (.bool (decide (v_124_1 = v_80))) (r_pick rfl rfl (fun _ => rfl) (fun h => by cases h)) ?_
          refine sR (.bool (decide (v_124_1 = v_80))) (r_move rfl rfl) ?_
          by_cases hc : v_124_1 = v_80
          ·
           replace h := h.1 hc
           refine kN 182 (decide_eq_true hc) ?_
           refine kN 183 (decide_eq_true hc) ?_
           refine kN 184 (decide_eq_true hc) ?_
           refine sR (.bool quiet_26) (r_move rfl h26) ?_
           refine sR (.bool quiet_26) (r_pick rfl rfl (fun _ => rfl) (fun h => by cases h)) ?_
           refine sR (.bool quiet_26) (r_move rfl rfl) ?_
           by_cases hc : quiet_26 = true
           ·
            replace h := h.1 hc
            refine HL_known (t := 26) (v := .bool true) (h26.trans (congrArg Value.bool hc)) ?_
            refine kN 185 hc ?_
            refine kN 186 hc ?_
            refine kN 187 hc ?_
            refine sR (.bool v_27) (r_move rfl h7) ?_
            refine sR (.bool v_27) (r_pick rfl rfl (fun _ => rfl) (fun h => by cases h)) ?_
            refine sR (.bool v_27) (r_assign rfl rfl) ?_
            refine HL_nil ?_
            exact HC_ret (show endQ prog f14 R .ret _ _ from ⟨_, res1 rfl (rv_tmp rfl), h⟩)
           ·
            replace hc := eq_false_of_ne_true hc; replace h := h.2 hc
            refine HL_known (t := 26) (v := .bool false) (h26.trans (congrArg Value.bool hc)) ?_
            refine kN 185 hc ?_
            refine kN 186 hc ?_
            refine kN 187 hc ?_
            refine s_skip ?_
            refine sR (.bool false) (r_pick rfl rfl (fun h => by cases h) (fun _ => rfl)) ?_
            refine sR (.bool false) (r_assign rfl rfl) ?_
            refine HL_nil ?_
            exact HC_ret (show endQ prog f14 R .ret _ _ from ⟨_, res1 rfl (rv_tmp rfl), h⟩)
          ·
           replace h := h.2 hc
           refine kN 182 (decide_eq_false hc) ?_
           refine kN 183 (decide_eq_false hc) ?_
           refine kN 184 (decide_eq_false hc) ?_
           refine s_skip ?_
           refine sR (.bool false) (r_pick rfl rfl (fun h => by cases h) (fun _ => rfl)) ?_
           refine sR (.bool false) (r_move rfl rfl) ?_
           refine s_skip ?_
           refine sR (.bool false) (r_pick rfl rfl (fun h => by cases h) (fun _ => rfl)) ?_
           refine sR (.bool false) (r_assign rfl rfl) ?_
           refine HL_nil ?_
           exact HC_ret (show endQ prog f14 R .ret _ _ from ⟨_, res1 rfl (rv_tmp rfl), h⟩)
         ·
          replace h := h.2 hc
          refine kN 177 (decide_eq_false hc) ?_
          refine kN 178 (decide_eq_false hc) ?_
          refine kN 179 (decide_eq_false hc) ?_
          refine s_skip ?_
          refine s_skip ?_
          refine s_skip ?_
          refine sR (.bool false) (r_pick rfl rfl (fun h => by cases h) (fun _ => rfl)) ?_
          refine sR (.bool false) (r_move rfl rfl) ?_
          refine s_skip ?_
          refine sR (.bool false) (r_pick rfl rfl (fun h => by cases h) (fun _ => rfl)) ?_
          refine sR (.bool false) (r_move rfl rfl) ?_
          refine s_skip ?_
          refine sR (.bool false) (r_pick rfl rfl (fun h => by cases h) (fun _ => rfl)) ?_
          refine sR (.bool false) (r_assign rfl rfl) ?_
          refine HL_nil ?_
          exact HC_ret (show endQ prog f14 R .ret _ _ from ⟨_, res1 rfl (rv_tmp rfl), h⟩)
        ·
         replace h := h.2 hc
         refine kN 172 (decide_eq_false hc) ?_
         refine kN 173 (decide_eq_false hc) ?_
         refine kN 174 (decide_eq_false hc) ?_
         refine s_skip ?_
         refine s_skip ?_
         refine s_skip ?_
         refine sR (.bool false) (r_pick rfl rfl (fun h => by cases h) (fun _ => rfl)) ?_
         refine sR (.bool false) (r_move rfl rfl) ?_
         refine s_skip ?_
         refine s_skip ?_
         refine s_skip ?_
         refine sR (.bool false) (r_pick rfl rfl (fun h => by cases h) (fun _ => rfl)) ?_
         refine sR (.bool false) (r_move rfl rfl) ?_
         refine s_skip ?_
         refine sR (.bool false) (r_pick rfl rfl (fun h => by cases h) (fun _ => rfl)) ?_
         refine sR (.bool false) (r_move rfl rfl) ?_
         refine s_skip ?_
         refine sR (.bool false) (r_pick rfl rfl (fun h => by cases h) (fun _ => rfl)) ?_
         refine sR (.bool false) (r_assign rfl rfl) ?_
         refine HL_nil ?_
         exact HC_ret (show endQ prog f14 R .ret _ _ from ⟨_, res1 rfl (rv_tmp rfl), h⟩)
       ·
        replace h := h.2 hc
        refine kN 167 (decide_eq_false hc) ?_
        refine kN 168 (decide_eq_false hc) ?_
        refine kN 169 (decide_eq_false hc) ?_
        refine s_skip ?_
        refine s_skip ?_
        refine s_skip ?_
        refine sR (.bool false) (r_pick rfl rfl (fun h => by cases h) (fun _ => rfl)) ?_
        refine sR (.bool false) (r_move rfl rfl) ?_
        refine s_skip ?_
        refine s_skip ?_
        refine s_skip ?_
        refine sR (.bool false) (r_pick rfl rfl (fun h => by cases h) (fun _ => rfl)) ?_
        refine sR (.bool false) (r_move rfl rfl) ?_
        refine s_skip ?_
        refine s_skip ?_
        refine s_skip ?_
        refine sR (.bool false) (r_pick rfl rfl (fun h => by cases h) (fun _ => rfl)) ?_
        refine sR (.bool false) (r_move rfl rfl) ?_
        refine s_skip ?_
        refine sR (.bool false) (r_pick rfl rfl (fun h => by cases h) (fun _ => rfl)) ?_
        refine sR (.bool false) (r_move rfl rfl) ?_
        refine s_skip ?_
        refine sR (.bool false) (r_pick rfl rfl (fun h => by cases h) (fun _ => rfl)) ?_
        refine sR (.bool false) (r_assign rfl rfl) ?_
        refine HL_nil ?_
        exact HC_ret (show endQ prog f14 R .ret _ _ from ⟨_, res1 rfl (rv_tmp rfl), h⟩)
      ·
       replace h := h.2 hc
       refine kN 162 (decide_eq_false hc) ?_
       refine kN 163 (decide_eq_false hc) ?_
       refine kN 164 (decide_eq_false hc) ?_
       refine s_skip ?_
       refine s_skip ?_
       refine s_skip ?_
       refine sR (.bool false) (r_pick rfl rfl (fun h => by cases h) (fun _ => rfl)) ?_
       refine sR (.bool false) (r_move rfl rfl) ?_
       refine s_skip ?_
       refine s_skip ?_
       refine s_skip ?_
       refine sR (.bool false) (r_pick rfl rfl (fun h => by cases h) (fun _ => rfl)) ?_
       refine sR (.bool false) (r_move rfl rfl) ?_
       refine s_skip ?_
       refine s_skip ?_
       refine s_skip ?_
       refine sR (.bool false) (r_pick rfl rfl (fun h => by cases h) (fun _ => rfl)) ?_
       refine sR (.bool false) (r_move rfl rfl) ?_
       refine s_skip ?_
       refine s_skip ?_
       refine s_skip ?_
       refine sR (.bool false) (r_pick rfl rfl (fun h => by cases h) (fun _ => rfl)) ?_
       refine sR (.bool false) (r_move rfl rfl) ?_
       refine s_skip ?_
       refine sR (.bool false) (r_pick rfl rfl (fun h => by cases h) (fun _ => rfl)) ?_
       refine sR (.bool false) (r_move rfl rfl) ?_
       refine s_skip ?_
       refine sR (.bool false) (r_pick rfl rfl (fun h => by cases h) (fun _ => rfl)) ?_
       refine sR (.bool false) (r_assign rfl rfl) ?_
       refine HL_nil ?_
       exact HC_ret (show endQ prog f14 R .ret _ _ from ⟨_, res1 rfl (rv_tmp rfl), h⟩)
     ·
      replace h := h.2 hc
      refine kN 158 (decide_eq_false hc) ?_
      refine kN 159 (decide_eq_false hc) ?_
      refine s_skip ?_
      refine s_skip ?_
      refine s_skip ?_
      refine sR (.bool false) (r_pick rfl rfl (fun h => by cases h) (fun _ => rfl)) ?_
      refine sR (.bool false) (r_move rfl rfl) ?_
      refine s_skip ?_
      refine s_skip ?_
      refine s_skip ?_
      refine sR (.bool false) (r_pick rfl rfl (fun h => by cases h) (fun _ => rfl)) ?_
      refine sR (.bool false) (r_move rfl rfl) ?_
      refine s_skip ?_
      refine s_skip ?_
      refine s_skip ?_
      refine sR (.bool false) (r_pick rfl rfl (fun h => by cases h) (fun _ => rfl)) ?_
      refine sR (.bool false) (r_move rfl rfl) ?_
      refine s_skip ?_
      refine s_skip ?_
      refine s_skip ?_
      refine sR (.bool false) (r_pick rfl rfl (fun h => by cases h) (fun _ => rfl)) ?_
      refine sR (.bool false) (r_move rfl rfl) ?_
      refine s_skip ?_
      refine s_skip ?_
      refine s_skip ?_
      refine sR (.bool false) (r_pick rfl rfl (fun h => by cases h) (fun _ => rfl)) ?_
      refine sR (.bool false) (r_move rfl rfl) ?_
      refine s_skip ?_
      refine sR (.bool false) (r_pick rfl rfl (fun h => by cases h) (fun _ => rfl)) ?_
      refine sR (.bool false) (r_move rfl rfl) ?_
      refine s_skip ?_
      refine sR (.bool false) (r_pick rfl rfl (fun h => by cases h) (fun _ => rfl)) ?_
      refine sR (.bool false) (r_assign rfl rfl) ?_
      refine HL_nil ?_
      exact HC_ret (show endQ prog f14 R .ret _ _ from ⟨_, res1 rfl (rv_tmp rfl), h⟩)
    ·
     skip
     refine HC_draw0 (by kernel_rfl) (fun hp => ?_)
     refine gU 0 (.bool v_129_1) rfl (fun _ => r_move rfl rfl) hp ?_
     refine gU 1 (.bool (!v_129_1)) rfl (fun _ => r_not rfl rfl) hp ?_
     refine gU 2 (.bool (!v_129_1)) rfl (fun _ => r_move rfl rfl) hp ?_
     by_cases hc : (!v_129_1) = true
     ·
      replace h := h.1 hc
      refine RG_known (t := 133) (v := .bool true) (congrArg Value.bool hc) ?_
      refine RG_known (t := 134) (v := .bool true) (congrArg Value.bool hc) ?_
      obtain ⟨v_135, hs135, hc135, h⟩ := h
      refine gR 3 (.agg v_135) rfl (w_loadN h9 underlying28 rfl sz28 hs135 hc135) hp (fun S3 q3 => ?_)
      replace hp := holdC (i := 3) (q3 _ (w_loadN h9 underlying28 rfl sz28 hs135 hc135)) hp
      refine RG_eff1 (i := 4) (by kernel_rfl) (g_op (Sp' := []) rfl rfl (k_call (vs := [(.agg v_135)]) cb56 (evC rfl evN) (h.mono ?_)))
      clear h; rintro v F ⟨v_136, rfl, h⟩
      refine holdI hold0 (fun hp => ?_)
      refine gU 5 (.int .i64 (v_136.len : Int)) rfl (fun _ => r_lenSl rfl rfl underlying68) hp ?_
      refine gU 6 (.bool (decide ((v_136.len : Int) = (0 : Int)))) rfl (fun _ => w_eql rfl rfl) hp ?_
      refine gU 7 (.bool (decide ((v_136.len : Int) = (0 : Int)))) rfl (fun _ => r_pick rfl rfl (fun _ => rfl) (fun h => by cases h)) hp ?_
      refine gU 8 (.bool (decide ((v_136.len : Int) = (0 : Int)))) rfl (fun _ => r_move rfl rfl) hp ?_
      by_cases hc : (v_136.len : Int) = (0 : Int)
      ·
       replace h := h.1 hc
       refine RG_known (t := 138) (v := .bool true) (congrArg Value.bool (decide_eq_true hc)) ?_
       refine RG_known (t := 139) (v := .bool true) (congrArg Value.bool (decide_eq_true hc)) ?_
       refine RG_known (t := 140) (v := .bool true) (congrArg Value.bool (decide_eq_true hc)) ?_
       obtain ⟨v_141, hs141, hc141, h⟩ := h
       refine gR 9 (.agg v_141) rfl (w_loadN h9 underlying28 rfl sz28 hs141 hc141) hp (fun S9 q9 => ?_)
       replace hp := holdC (i := 9) (q9 _ (w_loadN h9 underlying28 rfl sz28 hs141 hc141)) hp
       refine RG_eff1 (i := 10) (by kernel_rfl) (g_op (Sp' := []) rfl rfl (k_call (vs := [(.agg v_141), (.int .u64 (0 : Int))]) cb21 (evC rfl (evC rfl evN)) (h.mono ?_)))
       clear h; rintro v F ⟨v_142, rfl, h⟩
       refine holdI hold0 (fun hp => ?_)
       refine gU 11 (.bool (!v_142)) rfl (fun _ => r_not rfl rfl) hp ?_
       refine gU 12 (.bool (!v_142)) rfl (fun _ => r_pick rfl rfl (fun _ => rfl) (fun h => by cases h)) hp ?_
       refine gU 13 (.bool (!v_142)) rfl (fun _ => r_move rfl rfl) hp ?_
       by_cases hc : (!v_142) = true
       ·
        replace h := h.1 hc
        refine RG_known (t := 143) (v := .bool true) (congrArg Value.bool hc) ?_
        refine RG_known (t := 144) (v := .bool true) (congrArg Value.bool hc) ?_
        refine RG_known (t := 145) (v := .bool true) (congrArg Value.bool hc) ?_
        obtain ⟨v_146, hs146, hc146, h⟩ := h
        refine gR 14 (.agg v_146) rfl (w_loadN h9 underlying28 rfl sz28 hs146 hc146) hp (fun S14 q14 => ?_)
        replace hp := holdC (i := 14) (q14 _ (w_loadN h9 underlying28 rfl sz28 hs146 hc146)) hp
        obtain ⟨v_147, hs147, hc147, h⟩ := h
        refine gR 15 (.agg v_147) rfl (w_loadN h9 underlying28 rfl sz28 hs147 hc147) hp (fun S15 q15 => ?_)
        replace hp := holdC (i := 15) (q15 _ (w_loadN h9 underlying28 rfl sz28 hs147 hc147)) hp
        refine RG_eff1 (i := 16) (by kernel_rfl) (g_op (Sp' := []) rfl rfl (k_call (vs := [(.agg v_146), (.agg v_147)]) cb44 (evC rfl (evC rfl evN)) (h.mono ?_)))
        clear h; rintro v F ⟨v_148, rfl, h⟩
        refine holdI hold0 (fun hp => ?_)
        refine gU 17 (.bool (!v_148)) rfl (fun _ => r_not rfl rfl) hp ?_
        refine gU 18 (.bool (!v_148)) rfl (fun _ => r_pick rfl rfl (fun _ => rfl) (fun h => by cases h)) hp ?_
        refine gU 19 (.bool (!v_148)) rfl (fun _ => r_move rfl rfl) hp ?_
        by_cases hc : (!v_148) = true
        ·
         replace h := h.1 hc
         refine RG_known (t := 149) (v := .bool true) (congrArg Value.bool hc) ?_
         refine RG_known (t := 150) (v := .bool true) (congrArg Value.bool hc) ?_
         refine RG_known (t := 151) (v := .bool true) (congrArg Value.bool hc) ?_
         obtain ⟨v_152, hs152, hc152, h⟩ := h
         refine gR 20 (.agg v_152) rfl (w_loadN h9 underlying28 rfl sz28 hs152 hc152) hp (fun S20 q20 => ?_)
         replace hp := holdC (i := 20) (q20 _ (w_loadN h9 underlying28 rfl sz28 hs152 hc152)) hp
         refine RG_eff1 (i := 21) (by kernel_rfl) (g_op (Sp' := [(20, S20)]) rfl rfl (k_call (vs := [(.bool false)]) cb17 (evC rfl evN) (h.mono ?_)))
         clear h; rintro v F ⟨v_153, rfl, h⟩
         obtain ⟨hk_13, h⟩ := h
         refine holdI (holdC (i := 20) (q20 _ (w_loadN h9 underlying28 rfl sz28 hs152 hk_13)) hold0) (fun hp => ?_)
         refine RG_eff1 (i := 22) (by kernel_rfl) (g_op (Sp' := []) rfl rfl (k_call (vs := [(.agg v_152), (.agg v_153)]) cb46 (evC rfl (evC rfl evN)) (h.mono ?_)))
         clear h; rintro v F ⟨v_154, rfl, h⟩
         refine holdI hold0 (fun hp => ?_)
         refine gU 23 (.bool (!v_154)) rfl (fun _ => r_not rfl rfl) hp ?_
         refine gU 24 (.bool (!v_154)) rfl (fun _ => r_pick rfl rfl (fun _ => rfl) (fun h => by cases h)) hp ?_
         refine gU 25 (.bool (!v_154)) rfl (fun _ => r_assign rfl rfl) hp ?_
         refine RG_done (by kernel_rfl) ?_
         show b14J4 v_27 v_80 v_101_1 v_107_1 v_114_1 v_119_1 v_124_1 R _ _
         exact ⟨_, h7, rfl, rfl, rfl, rfl, rfl, rfl, rfl, h⟩
        ·
         replace hc := eq_false_of_ne_true hc; replace h := h.2 hc
         refine RG_known (t := 149) (v := .bool false) (congrArg Value.bool hc) ?_
         refine RG_known (t := 150) (v := .bool false) (congrArg Value.bool hc) ?_
         refine RG_known (t := 151) (v := .bool false) (congrArg Value.bool hc) ?_
         refine gS 20 rfl hp ?_
         refine gS 21 rfl hp ?_
         refine gS 22 rfl hp ?_
         refine gS 23 rfl hp ?_
         refine gU 24 (.bool false) rfl (fun _ => r_pick rfl rfl (fun h => by cases h) (fun _ => rfl)) hp ?_
         refine gU 25 (.bool false) rfl (fun _ => r_assign rfl rfl) hp ?_
         refine RG_done (by kernel_rfl) ?_
         show b14J4 v_27 v_80 v_101_1 v_107_1 v_114_1 v_119_1 v_124_1 R _ _
         exact ⟨_, h7, rfl, rfl, rfl, rfl, rfl, rfl, rfl, h⟩
       ·
        replace hc := eq_false_of_ne_true hc; replace h := h.2 hc
        refine RG_known (t := 143) (v := .bool false) (congrArg Value.bool hc) ?_
        refine RG_known (t := 144) (v := .bool false) (congrArg Value.bool hc) ?_
        refine RG_known (t := 145) (v := .bool false) (congrArg Value.bool hc) ?_
        refine gS 14 rfl hp ?_
        refine gS 15 rfl hp ?_
        refine gS 16 rfl hp ?_
        refine gS 17 rfl hp ?_
        refine gU 18 (.bool false) rfl (fun _ => r_pick rfl rfl (fun h => by cases h) (fun _ => rfl)) hp ?_
        refine gU 19 (.bool false) rfl (fun _ => r_move rfl rfl) hp ?_
        refine gS 20 rfl hp ?_
        refine gS 21 rfl hp ?_
        refine gS 22 rfl hp ?_
        refine gS 23 rfl hp ?_
        refine gU 24 (.bool false) rfl (fun _ => r_pick rfl rfl (fun h => by cases h) (fun _ => rfl)) hp ?_
        refine gU 25 (.bool false) rfl (fun _ => r_assign rfl rfl) hp ?_
        refine RG_done (by kernel_rfl) ?_
        show b14J4 v_27 v_80 v_101_1 v_107_1 v_114_1 v_119_1 v_124_1 R _ _
        exact ⟨_, h7, rfl, rfl, rfl, rfl, rfl, rfl, rfl, h⟩
      ·
       replace h := h.2 hc
       refine RG_known (t := 138) (v := .bool false) (congrArg Value.bool (decide_eq_false hc)) ?_
       refine RG_known (t := 139) (v := .bool false) (congrArg Value.bool (decide_eq_false hc)) ?_
       refine RG_known (t := 140) (v := .bool false) (congrArg Value.bool (decide_eq_false hc)) ?_
       refine gS 9 rfl hp ?_
       refine gS 10 rfl hp ?_
       refine gS 11 rfl hp ?_
       refine gU 12 (.bool false) rfl (fun _ => r_pick rfl rfl (fun h => by cases h) (fun _ => rfl)) hp ?_
       refine gU 13 (.bool false) rfl (fun _ => r_move rfl rfl) hp ?_
       refine gS 14 rfl hp ?_
       refine gS 15 rfl hp ?_
       refine gS 16 rfl hp ?_
       refine gS 17 rfl hp ?_
       refine gU 18 (.bool false) rfl (fun _ => r_pick rfl rfl (fun h => by cases h) (fun _ => rfl)) hp ?_
       refine gU 19 (.bool false) rfl (fun _ => r_move rfl rfl) hp ?_
       refine gS 20 rfl hp ?_
       refine gS 21 rfl hp ?_
       refine gS 22 rfl hp ?_
       refine gS 23 rfl hp ?_
       refine gU 24 (.bool false) rfl (fun _ => r_pick rfl rfl (fun h => by cases h) (fun _ => rfl)) hp ?_
       refine gU 25 (.bool false) rfl (fun _ => r_assign rfl rfl) hp ?_
       refine RG_done (by kernel_rfl) ?_
       show b14J4 v_27 v_80 v_101_1 v_107_1 v_114_1 v_119_1 v_124_1 R _ _
       exact ⟨_, h7, rfl, rfl, rfl, rfl, rfl, rfl, rfl, h⟩
     ·
      replace hc := eq_false_of_ne_true hc; replace h := h.2 hc
      refine RG_known (t := 133) (v := .bool false) (congrArg Value.bool hc) ?_
      refine RG_known (t := 134) (v := .bool false) (congrArg Value.bool hc) ?_
      refine gS 3 rfl hp ?_
      refine gS 4 rfl hp ?_
      refine gS 5 rfl hp ?_
      refine gS 6 rfl hp ?_
      refine gU 7 (.bool false) rfl (fun _ => r_pick rfl rfl (fun h => by cases h) (fun _ => rfl)) hp ?_
      refine gU 8 (.bool false) rfl (fun _ => r_move rfl rfl) hp ?_
      refine gS 9 rfl hp ?_
      refine gS 10 rfl hp ?_
      refine gS 11 rfl hp ?_
      refine gU 12 (.bool false) rfl (fun _ => r_pick rfl rfl (fun h => by cases h) (fun _ => rfl)) hp ?_
      refine gU 13 (.bool false) rfl (fun _ => r_move rfl rfl) hp ?_
      refine gS 14 rfl hp ?_
      refine gS 15 rfl hp ?_
      refine gS 16 rfl hp ?_
      refine gS 17 rfl hp ?_
      refine gU 18 (.bool false) rfl (fun _ => r_pick rfl rfl (fun h => by cases h) (fun _ => rfl)) hp ?_
      refine gU 19 (.bool false) rfl (fun _ => r_move rfl rfl) hp ?_
      refine gS 20 rfl hp ?_
      refine gS 21 rfl hp ?_
      refine gS 22 rfl hp ?_
      refine gS 23 rfl hp ?_
      refine gU 24 (.bool false) rfl (fun _ => r_pick rfl rfl (fun h => by cases h) (fun _ => rfl)) hp ?_
      refine gU 25 (.bool false) rfl (fun _ => r_assign rfl rfl) hp ?_
      refine RG_done (by kernel_rfl) ?_
      show b14J4 v_27 v_80 v_101_1 v_107_1 v_114_1 v_119_1 v_124_1 R _ _
      exact ⟨_, h7, rfl, rfl, rfl, rfl, rfl, rfl, rfl, h⟩
  ·
   skip
   refine HC_seqJ (b14J5 at_1 value_2 v_27 b8 bad_9 R) ?_ ?_
   ·
    clear h; rintro E F ⟨v_45, h1, h2, h7, h8, h9, h45, h⟩
    unfold b14j5 at h
    refine HC_cond (t := v_45) h45 (fun hc => ?_) (fun hc => ?_)
    ·
     replace h := h.1 hc
     clear hc
     refine HC_region ?_
     refine sR (.int .i64 value_2) (r_move rfl h2) ?_
     obtain ⟨bad9a__1, rfl, h⟩ := h
     refine sR (.pointer (some (Addr.add bad9a__1 1))) (w_fieldAddr (a' := (Addr.add bad9a__1 1)) h9 underlying28 rfl rfl sz3 rfl rfl) ?_
     refine s_ef0 (k_store1 (v := (.int .i64 value_2)) rfl rfl sz3 rfl st_int ?_)
     obtain ⟨c, e, hz3, hz4, hz5, h⟩ := h
     refine ⟨c, e, hz3, hz4, hz5, ?_⟩
     replace h := atE h
     refine HL_nil ?_
     show b14J2 v_27 b8 (some bad9a__1) R _ _
     exact ⟨h7, h8, h9, h⟩
    ·
     replace h := h.2 hc
     clear hc
     refine cR ?_
     refine sR (.int .u8 at_1) (r_move rfl h1) ?_
     refine sR (.int .u8 (IntKind.u8.wrap (Int.tdiv at_1 (4 : Int)))) (r_quo rfl rfl rfl (by decide)) ?_
     refine sR (.int .i64 (IntKind.i64.wrap (IntKind.u8.wrap (Int.tdiv at_1 (4 : Int))))) (r_convInt rfl rfl underlying5 underlying3) ?_
     obtain ⟨bad9a__2, rfl, h⟩ := h
     refine sR (.pointer (some bad9a__2)) (w_fieldAddr (a' := bad9a__2) h9 underlying28 rfl rfl sz26 rfl rfl) ?_
     obtain ⟨v_52, hc52, h⟩ := h
     refine sR (Sl.v v_52) (r_load1 rfl rfl underlying26 rfl hc52) ?_
     refine sR (.int .i64 (v_52.len : Int)) (r_lenSl rfl rfl underlying26) ?_
     obtain ⟨hd54, h⟩ := h
     refine sR (.int .i64 (Int.tmod (IntKind.i64.wrap (IntKind.u8.wrap (Int.tdiv at_1 (4 : Int)))) (v_52.len : Int))) (r_rem rfl rfl rfl hd54) ?_
     refine sR (.int .i64 (Int.tmod (IntKind.i64.wrap (IntKind.u8.wrap (Int.tdiv at_1 (4 : Int)))) (v_52.len : Int))) (r_assign rfl rfl) ?_
     refine HL_nil ?_
     refine cR ?_
     refine sR (.int .u8 at_1) (r_move rfl h1) ?_
     refine sR (.int .u8 (Int.tmod at_1 (4 : Int))) (r_rem rfl rfl rfl (by decide)) ?_
     refine HL_nil ?_
     refine HC_block ?_
     refine cR ?_
     refine sR (.bool (decide ((Int.tmod at_1 (4 : Int)) = (0 : Int)))) (w_eql rfl rfl) ?_
     refine sR (.bool (decide ((Int.tmod at_1 (4 : Int)) = (0 : Int)))) (r_assign rfl rfl) ?_
     refine HL_nil ?_
     refine HC_cond (t := (decide ((Int.tmod at_1 (4 : Int)) = (0 : Int)))) rfl (fun hc => ?_) (fun hc => ?_)
     ·
      replace h := h.1 (of_decide_eq_true hc)
      clear hc
      refine HC_region ?_
      refine sR (.pointer (some bad9a__2)) (w_fieldAddr (a' := bad9a__2) h9 underlying28 rfl rfl sz26 rfl rfl) ?_
      obtain ⟨v_66, hc66, h⟩ := h
      refine sR (Sl.v v_66) (r_load1 rfl rfl underlying26 rfl hc66) ?_
      refine sR (.int .i64 (Int.tmod (IntKind.i64.wrap (IntKind.u8.wrap (Int.tdiv at_1 (4 : Int)))) (v_52.len : Int))) (r_move rfl rfl) ?_
      refine sR (.int .i64 value_2) (r_move rfl h2) ?_
      obtain ⟨a69_, hb69, hl69, hu69, h⟩ := h
      refine sR (.pointer (some (Addr.add a69_ (Int.toNat (Int.tmod (IntKind.i64.wrap (IntKind.u8.wrap (Int.tdiv at_1 (4 : Int)))) (v_52.len : Int)) * 3)))) (w_indexAddr rfl rfl underlying26 sz72 hb69 hl69 hu69) ?_
      refine sR (.pointer (some (Addr.add a69_ (Int.toNat (Int.tmod (IntKind.i64.wrap (IntKind.u8.wrap (Int.tdiv at_1 (4 : Int)))) (v_52.len : Int)) * 3)))) (w_fieldAddr (a' := (Addr.add a69_ (Int.toNat (Int.tmod (IntKind.i64.wrap (IntKind.u8.wrap (Int.tdiv at_1 (4 : Int)))) (v_52.len : Int)) * 3))) rfl underlying72 rfl rfl sz3 rfl rfl) ?_
      refine s_ef0 (k_store1 (v := (.int .i64 value_2)) rfl rfl sz3 rfl st_int ?_)
      obtain ⟨c, e, hz3, hz4, hz5, h⟩ := h
      refine ⟨c, e, hz3, hz4, hz5, ?_⟩
      replace h := atE h
      refine HL_nil ?_
      show b14J2 v_27 b8 (some bad9a__2) R _ _
      exact ⟨h7, h8, h9, h⟩
     ·
      replace h := h.2 (of_decide_eq_false hc)
      clear hc
      refine cR ?_
      refine sR (.bool (decide ((Int.tmod at_1 (4 : Int)) = (1 : Int)))) (w_eql rfl rfl) ?_
      refine sR (.bool (decide ((Int.tmod at_1 (4 : Int)) = (1 : Int)))) (r_assign rfl rfl) ?_
      refine HL_nil ?_
      refine HC_cond (t := (decide ((Int.tmod at_1 (4 : Int)) = (1 : Int)))) rfl (fun hc => ?_) (fun hc => ?_)
      ·
       replace h := h.1 (of_decide_eq_true hc)
       clear hc
       refine HC_region ?_
       refine sR (.pointer (some bad9a__2)) (w_fieldAddr (a' := bad9a__2) h9 underlying28 rfl rfl sz26 rfl rfl) ?_
       obtain ⟨v_74, hc74, h⟩ := h
       refine sR (Sl.v v_74) (r_load1 rfl rfl underlying26 rfl hc74) ?_
       refine sR (.int .i64 (Int.tmod (IntKind.i64.wrap (IntKind.u8.wrap (Int.tdiv at_1 (4 : Int)))) (v_52.len : Int))) (r_move rfl rfl) ?_
       refine sR (.int .i64 value_2) (r_move rfl h2) ?_
       obtain ⟨a77_, hb77, hl77, hu77, h⟩ := h
       refine sR (.pointer (some (Addr.add a77_ (Int.toNat (Int.tmod (IntKind.i64.wrap (IntKind.u8.wrap (Int.tdiv at_1 (4 : Int)))) (v_52.len : Int)) * 3)))) (w_indexAddr rfl rfl underlying26 sz72 hb77 hl77 hu77) ?_
       refine sR (.pointer (some (Addr.add (Addr.add a77_ (Int.toNat (Int.tmod (IntKind.i64.wrap (IntKind.u8.wrap (Int.tdiv at_1 (4 : Int)))) (v_52.len : Int)) * 3)) 1))) (w_fieldAddr (a' := (Addr.add (Addr.add a77_ (Int.toNat (Int.tmod (IntKind.i64.wrap (IntKind.u8.wrap (Int.tdiv at_1 (4 : Int)))) (v_52.len : Int)) * 3)) 1)) rfl underlying72 rfl rfl sz3 rfl rfl) ?_
       refine s_ef0 (k_store1 (v := (.int .i64 value_2)) rfl rfl sz3 rfl st_int ?_)
       obtain ⟨c, e, hz3, hz4, hz5, h⟩ := h
       refine ⟨c, e, hz3, hz4, hz5, ?_⟩
       replace h := atE h
       refine HL_nil ?_
       show b14J2 v_27 b8 (some bad9a__2) R _ _
       exact ⟨h7, h8, h9, h⟩
      ·
       replace h := h.2 (of_decide_eq_false hc)
       clear hc
       refine HC_region ?_
       refine sR (.pointer (some bad9a__2)) (w_fieldAddr (a' := bad9a__2) h9 underlying28 rfl rfl sz26 rfl rfl) ?_
       obtain ⟨v_58, hc58, h⟩ := h
       refine sR (Sl.v v_58) (r_load1 rfl rfl underlying26 rfl hc58) ?_
       refine sR (.int .i64 (Int.tmod (IntKind.i64.wrap (IntKind.u8.wrap (Int.tdiv at_1 (4 : Int)))) (v_52.len : Int))) (r_move rfl rfl) ?_
       refine sR (.int .i64 value_2) (r_move rfl h2) ?_
       obtain ⟨a61_, hb61, hl61, hu61, h⟩ := h
       refine sR (.pointer (some (Addr.add a61_ (Int.toNat (Int.tmod (IntKind.i64.wrap (IntKind.u8.wrap (Int.tdiv at_1 (4 : Int)))) (v_52.len : Int)) * 3)))) (w_indexAddr rfl rfl underlying26 sz72 hb61 hl61 hu61) ?_
       refine sR (.pointer (some (Addr.add (Addr.add a61_ (Int.toNat (Int.tmod (IntKind.i64.wrap (IntKind.u8.wrap (Int.tdiv at_1 (4 : Int)))) (v_52.len : Int)) * 3)) 2))) (w_fieldAddr (a' := (Addr.add (Addr.add a61_ (Int.toNat (Int.tmod (IntKind.i64.wrap (IntKind.u8.wrap (Int.tdiv at_1 (4 : Int)))) (v_52.len : Int)) * 3)) 2)) rfl underlying72 rfl rfl sz3 rfl rfl) ?_
       refine s_ef0 (k_store1 (v := (.int .i64 value_2)) rfl rfl sz3 rfl st_int ?_)
       obtain ⟨c, e, hz3, hz4, hz5, h⟩ := h
       refine ⟨c, e, hz3, hz4, hz5, ?_⟩
       replace h := atE h
       refine HL_nil ?_
       show b14J2 v_27 b8 (some bad9a__2) R _ _
       exact ⟨h7, h8, h9, h⟩
   ·
    skip
    refine HC_region ?_
    obtain ⟨bad9a__3, rfl, h⟩ := h
    refine sR (.pointer (some bad9a__3)) (w_fieldAddr (a' := bad9a__3) h9 underlying28 rfl rfl sz26 rfl rfl) ?_
    obtain ⟨v_38, hc38, h⟩ := h
    refine sR (Sl.v v_38) (r_load1 rfl rfl underlying26 rfl hc38) ?_
    refine sR (.int .i64 (v_38.len : Int)) (r_lenSl rfl rfl underlying26) ?_
    refine sR (.bool (decide ((v_38.len : Int) = (0 : Int)))) (w_eql rfl rfl) ?_
    refine sR (.bool (decide ((v_38.len : Int) = (0 : Int)))) (r_move rfl rfl) ?_
    by_cases hc : (v_38.len : Int) = (0 : Int)
    ·
     replace h := h.1 hc
     refine kN 40 (decide_eq_true hc) ?_
     refine kN 41 (decide_eq_true hc) ?_
     refine s_skip ?_
     refine s_skip ?_
     refine s_skip ?_
     refine sR (.bool true) (r_pick rfl rfl (fun _ => rfl) (fun h => by cases h)) ?_
     refine HL_nil ?_
     show b14J5 at_1 value_2 v_27 b8 (some bad9a__3) R _ _
     exact ⟨_, h1, h2, h7, h8, h9, rfl, h⟩
    ·
     replace h := h.2 hc
     refine kN 40 (decide_eq_false hc) ?_
     refine kN 41 (decide_eq_false hc) ?_
     refine sR (.int .u8 at_1) (r_move rfl h1) ?_
     refine sR (.int .u8 (Int.tmod at_1 (4 : Int))) (r_rem rfl rfl rfl (by decide)) ?_
     refine sR (.bool (decide ((Int.tmod at_1 (4 : Int)) = (3 : Int)))) (w_eql rfl rfl) ?_
     refine sR (.bool (decide ((Int.tmod at_1 (4 : Int)) = (3 : Int)))) (r_pick rfl rfl (fun h => by cases h) (fun _ => rfl)) ?_
     refine HL_nil ?_
     show b14J5 at_1 value_2 v_27 b8 (some bad9a__3) R _ _
     exact ⟨_, h1, h2, h7, h8, h9, rfl, h⟩
 ·
  skip
  refine HC_draw0 (by kernel_rfl) (fun hp => ?_)
  refine gU 1 (.pointer (some (Addr.mk b8 0 none))) rfl (fun _ => w_fieldAddr (a' := (Addr.mk b8 0 none)) rfl underlying28 rfl rfl sz26 rfl rfl) hp ?_
  obtain ⟨v_32, hc32, h⟩ := h
  refine gR 2 (Sl.v v_32) rfl (r_load1 rfl rfl underlying26 rfl hc32) hp (fun S2 q2 => ?_)
  replace hp := holdC (i := 2) (q2 _ (r_load1 rfl rfl underlying26 rfl hc32)) hp
  refine gU 4 (.pointer (some (Addr.mk b8 1 none))) rfl (fun _ => w_fieldAddr (a' := (Addr.mk b8 1 none)) rfl underlying28 rfl rfl sz3 rfl rfl) hp ?_
  obtain ⟨v_35, hc35, h⟩ := h
  refine gR 5 (.int .i64 v_35) rfl (r_load1 rfl rfl underlying3 rfl hc35) hp (fun S5 q5 => ?_)
  replace hp := holdC (i := 5) (q5 _ (r_load1 rfl rfl underlying3 rfl hc35)) hp
  refine RG_eff (rs := [0, 7]) (by kernel_rfl) rfl ?_
  obtain ⟨ha0, ha1⟩ := h
  simp only [List.mem_cons, List.not_mem_nil, or_false, forall_eq_or_imp, forall_eq]
  refine ⟨?_, ?_⟩
  ·
   have h := ha0; clear ha0 ha1
   refine g_op (Sp' := [(5, S5), (2, S2)]) rfl rfl (k_buildSlice (cells := #[]) underlying26 sz72 (by decide) zr72 ((zc_flat _ rfl _).trans (rfl : _ = (#[] : Array Value))) evPN (fillN rfl) rfl ?_)
   intro b30 hf_b30
   replace h := atE (h b30 hf_b30)
   refine holdI (holdC (i := 5) (q5 _ (r_load1 rfl rfl underlying3 rfl (cell_set_fresh hf_b30 hc35))) (holdC (i := 2) (q2 _ (r_load1 rfl rfl underlying26 rfl (cell_set_fresh hf_b30 hc32))) hold0)) (fun hp => ?_)
   refine RG_eff (rs := [3, 7]) (by kernel_rfl) rfl ?_
   obtain ⟨ha0, ha1⟩ := h
   simp only [List.mem_cons, List.not_mem_nil, or_false, forall_eq_or_imp, forall_eq]
   refine ⟨?_, ?_⟩
   ·
    have h := ha0; clear ha0 ha1
    refine g_op (Sp' := [(5, S5)]) rfl rfl (k_append rfl rfl (runs_mono _ _ h ?_))
    clear h; rintro v F ⟨v_33, rfl, h⟩
    obtain ⟨hk_14, h⟩ := h
    refine holdI (holdC (i := 5) (q5 _ (r_load1 rfl rfl underlying3 rfl hk_14)) hold0) (fun hp => ?_)
    refine gU 6 (.agg (#[(Sl.v v_33), (.int .i64 v_35)] : Array Value)) rfl (fun _ => w_buildStruct (cells := #[(Sl.v v_33), (.int .i64 v_35)]) underlying28 zr28 kf28 (evPC rfl (evPC rfl evPN)) (fill1 (place_of rfl rfl sz26) rfl rfl (fill1 (place_of rfl rfl sz3) rfl rfl (fillN rfl)))) hp ?_
    refine RG_eff1 (i := 7) (by kernel_rfl) (g_op (Sp' := [(5, S5)]) rfl rfl (k_alloc zr28 ?_))
    intro b9 hf_b9
    replace h := atE (h b9 hf_b9)
    refine holdI (holdC (i := 5) (q5 _ (r_load1 rfl rfl underlying3 rfl (cell_set_fresh hf_b9 hk_14))) hold0) (fun hp => ?_)
    refine RG_eff1 (i := 8) (by kernel_rfl) (g_op0 (Sp' := []) rfl rfl (k_storeN (vs := (#[(Sl.v v_33), (.int .i64 v_35)] : Array Value)) rfl rfl sz28 (by decide) ?_))
    obtain ⟨hz1, hz2, c, e, hz3, hz4, hz5, h⟩ := h
    refine ⟨hz1, hz2, c, e, hz3, hz4, hz5, ?_⟩
    replace h := atE h
    refine holdI hold0 (fun hp => ?_)
    refine RG_done (by kernel_rfl) ?_
    show b14J1 at_1 value_2 v_27 b8 R _ _
    exact ⟨_, rfl, rfl, rfl, rfl, rfl, h⟩
   ·
    have h := ha1; clear ha0 ha1
    refine g_op (Sp' := [(5, S5), (2, S2)]) rfl rfl (k_alloc zr28 ?_)
    intro b9_1 hf_b9_1
    replace h := atE (h b9_1 hf_b9_1)
    refine holdI (holdC (i := 5) (q5 _ (r_load1 rfl rfl underlying3 rfl (cell_set_fresh hf_b9_1 (cell_set_fresh hf_b30 hc35)))) (holdC (i := 2) (q2 _ (r_load1 rfl rfl underlying26 rfl (cell_set_fresh hf_b9_1 (cell_set_fresh hf_b30 hc32)))) hold0)) (fun hp => ?_)
    refine RG_eff1 (i := 3) (by kernel_rfl) (g_op (Sp' := [(5, S5)]) rfl rfl (k_append rfl rfl (runs_mono _ _ h ?_)))
    clear h; rintro v F ⟨v_33_1, rfl, h⟩
    obtain ⟨hk_15, h⟩ := h
    refine holdI (holdC (i := 5) (q5 _ (r_load1 rfl rfl underlying3 rfl hk_15)) hold0) (fun hp => ?_)
    refine gU 6 (.agg (#[(Sl.v v_33_1), (.int .i64 v_35)] : Array Value)) rfl (fun _ => w_buildStruct (cells := #[(Sl.v v_33_1), (.int .i64 v_35)]) underlying28 zr28 kf28 (evPC rfl (evPC rfl evPN)) (fill1 (place_of rfl rfl sz26) rfl rfl (fill1 (place_of rfl rfl sz3) rfl rfl (fillN rfl)))) hp ?_
    refine RG_eff1 (i := 8) (by kernel_rfl) (g_op0 (Sp' := []) rfl rfl (k_storeN (vs := (#[(Sl.v v_33_1), (.int .i64 v_35)] : Array Value)) rfl rfl sz28 (by decide) ?_))
    obtain ⟨hz1, hz2, c, e, hz3, hz4, hz5, h⟩ := h
    refine ⟨hz1, hz2, c, e, hz3, hz4, hz5, ?_⟩
    replace h := atE h
    refine holdI hold0 (fun hp => ?_)
    refine RG_done (by kernel_rfl) ?_
    show b14J1 at_1 value_2 v_27 b8 R _ _
    exact ⟨_, rfl, rfl, rfl, rfl, rfl, h⟩
  ·
   have h := ha1; clear ha0 ha1
   refine g_op (Sp' := [(5, S5), (2, S2)]) rfl rfl (k_alloc zr28 ?_)
   intro b9_2 hf_b9_2
   replace h := atE (h b9_2 hf_b9_2)
   refine holdI (holdC (i := 5) (q5 _ (r_load1 rfl rfl underlying3 rfl (cell_set_fresh hf_b9_2 hc35))) (holdC (i := 2) (q2 _ (r_load1 rfl rfl underlying26 rfl (cell_set_fresh hf_b9_2 hc32))) hold0)) (fun hp => ?_)
   refine RG_eff1 (i := 0) (by kernel_rfl) (g_op (Sp' := [(5, S5), (2, S2)]) rfl rfl (k_buildSlice (cells := #[]) underlying26 sz72 (by decide) zr72 ((zc_flat _ rfl _).trans (rfl : _ = (#[] : Array Value))) evPN (fillN rfl) rfl ?_))
   intro b30_1 hf_b30_1
   replace h := atE (h b30_1 hf_b30_1)
   refine holdI (holdC (i := 5) (q5 _ (r_load1 rfl rfl underlying3 rfl (cell_set_fresh hf_b30_1 (cell_set_fresh hf_b9_2 hc35)))) (holdC (i := 2) (q2 _ (r_load1 rfl rfl underlying26 rfl (cell_set_fresh hf_b30_1 (cell_set_fresh hf_b9_2 hc32)))) hold0)) (fun hp => ?_)
   refine RG_eff1 (i := 3) (by kernel_rfl) (g_op (Sp' := [(5, S5)]) rfl rfl (k_append rfl rfl (runs_mono _ _ h ?_)))
   clear h; rintro v F ⟨v_33_2, rfl, h⟩
   obtain ⟨hk_16, h⟩ := h
   refine holdI (holdC (i := 5) (q5 _ (r_load1 rfl rfl underlying3 rfl hk_16)) hold0) (fun hp => ?_)
   refine gU 6 (.agg (#[(Sl.v v_33_2), (.int .i64 v_35)] : Array Value)) rfl (fun _ => w_buildStruct (cells := #[(Sl.v v_33_2), (.int .i64 v_35)]) underlying28 zr28 kf28 (evPC rfl (evPC rfl evPN)) (fill1 (place_of rfl rfl sz26) rfl rfl (fill1 (place_of rfl rfl sz3) rfl rfl (fillN rfl)))) hp ?_
   refine RG_eff1 (i := 8) (by kernel_rfl) (g_op0 (Sp' := []) rfl rfl (k_storeN (vs := (#[(Sl.v v_33_2), (.int .i64 v_35)] : Array Value)) rfl rfl sz28 (by decide) ?_))
   obtain ⟨hz1, hz2, c, e, hz3, hz4, hz5, h⟩ := h
   refine ⟨hz1, hz2, c, e, hz3, hz4, hz5, ?_⟩
   replace h := atE h
   refine holdI hold0 (fun hp => ?_)
   refine RG_done (by kernel_rfl) ?_
   show b14J1 at_1 value_2 v_27 b8 R _ _
   exact ⟨_, rfl, rfl, rfl, rfl, rfl, h⟩

end Go.Proofs.Ytafojmoeaneedaa
