/-
  What functions of the program do, in a clean form, each with the proof that its code does so. Printed by a program.
-/
import Derived.Test.YtafojmoeaneedaaGf
import Derived.Test.YtafojmoeaneedaaPho
namespace Go.Proofs.Ytafojmoeaneedaa
open Go Go.Proofs.Try
set_option maxRecDepth 10000
set_option maxHeartbeats 4000000
/- 5 koine.koinelaw02.DiagramAlgebra -/
def b5j1 (v_40 : Bool) (b23 : Nat) (b33 : Nat) (b35 : Nat) (b37 : Nat) (laws_39 : Bool) (R : Value → PH → Prop) (F : PH) : Prop :=
 ((laws_39 = true →
  ∃ v_167 : Array Value, v_167.size = 2 ∧ F.row (Addr.mk b33 0 none) v_167 ∧
  Spec prog 17 #[(.bool false)] F fun v F => ∃ v_168 : Array Value, v = (.agg v_168) ∧
  F.row (Addr.mk b33 0 none) v_167 ∧ Spec prog 24 #[(.agg v_167), (.agg v_168)] F fun v F => ∃ v_169 : Bool, v = (.bool v_169) ∧
  ((v_169 = true →
   ∃ v_172 : Array Value, v_172.size = 2 ∧ F.row (Addr.mk b35 0 none) v_172 ∧
   Spec prog 17 #[(.bool true)] F fun v F => ∃ v_173 : Array Value, v = (.agg v_173) ∧
   F.row (Addr.mk b35 0 none) v_172 ∧ Spec prog 24 #[(.agg v_172), (.agg v_173)] F fun v F => ∃ v_174 : Bool, v = (.bool v_174) ∧
   ((v_174 = true →
    ∃ v_177 : Array Value, v_177.size = 2 ∧ F.row (Addr.mk b37 0 none) v_177 ∧
    ∃ v_178 : Array Value, v_178.size = 2 ∧ F.row (Addr.mk b23 0 none) v_178 ∧
    Spec prog 24 #[(.agg v_177), (.agg v_178)] F fun v F => ∃ v_179 : Bool, v = (.bool v_179) ∧
    ((v_179 = true →
     R (.bool v_40) F) ∧
    (v_179 = false →
     R (.bool false) F))) ∧
   (v_174 = false →
    R (.bool false) F))) ∧
  (v_169 = false →
   R (.bool false) F))) ∧
 (laws_39 = false →
  R (.bool false) F))
abbrev b5J1 (v_40 : Bool) (b23 : Nat) (b33 : Nat) (b35 : Nat) (b37 : Nat) (R : Value → PH → Prop) (E : En) (F : PH) : Prop := ∃ laws_39 : Bool, E 3 = (.bool v_40) ∧ E 23 = (.pointer (some (Addr.mk b23 0 none))) ∧ E 33 = (.pointer (some (Addr.mk b33 0 none))) ∧ E 35 = (.pointer (some (Addr.mk b35 0 none))) ∧ E 37 = (.pointer (some (Addr.mk b37 0 none))) ∧ E 39 = (.bool laws_39) ∧ b5j1 v_40 b23 b33 b35 b37 laws_39 R F
def b5d9 (b4 : Nat) (b5 : Nat) (b6 : Nat) (v_40 : Bool) (R : Value → PH → Prop) (F : PH) : Prop :=
 ∃ v_51 : Array Value, v_51.size = 2 ∧ F.row (Addr.mk b4 0 none) v_51 ∧
 ∃ v_52 : Array Value, v_52.size = 2 ∧ F.row (Addr.mk b5 0 none) v_52 ∧
 Spec prog 19 #[(.agg v_51), (.agg v_52)] F fun v F => ∃ v_53 : Array Value, ∃ v_53_1 : Int, v = (.tuple #[(.agg v_53), (.int .i64 v_53_1)]) ∧
 ∀ b7, F b7 = none → atF (F.set b7 (.cells (#[.slice none 0 0, .int .i64 0]) 28)) fun F =>
 v_53.size = 2 ∧ (∀ v ∈ v_53.toList, storable v) ∧ ∃ c e, F (Addr.mk b7 0 none).block = some (.cells c e (0, 0)) ∧ (Addr.mk b7 0 none).spot = none ∧ (Addr.mk b7 0 none).off + 2 ≤ c.size ∧
 atF (F.set (Addr.mk b7 0 none).block (.cells (wr c (Addr.mk b7 0 none).off v_53.toList) e)) fun F =>
 ∃ v_57 : Array Value, v_57.size = 2 ∧ F.row (Addr.mk b5 0 none) v_57 ∧
 ∃ v_58 : Array Value, v_58.size = 2 ∧ F.row (Addr.mk b4 0 none) v_58 ∧
 Spec prog 19 #[(.agg v_57), (.agg v_58)] F fun v F => ∃ v_59 : Array Value, ∃ v_59_1 : Int, v = (.tuple #[(.agg v_59), (.int .i64 v_59_1)]) ∧
 ∀ b9, F b9 = none → atF (F.set b9 (.cells (#[.slice none 0 0, .int .i64 0]) 28)) fun F =>
 v_59.size = 2 ∧ (∀ v ∈ v_59.toList, storable v) ∧ ∃ c e, F (Addr.mk b9 0 none).block = some (.cells c e (0, 0)) ∧ (Addr.mk b9 0 none).spot = none ∧ (Addr.mk b9 0 none).off + 2 ≤ c.size ∧
 atF (F.set (Addr.mk b9 0 none).block (.cells (wr c (Addr.mk b9 0 none).off v_59.toList) e)) fun F =>
 ∃ v_63 : Array Value, v_63.size = 2 ∧ F.row (Addr.mk b4 0 none) v_63 ∧
 ∃ v_64 : Array Value, v_64.size = 2 ∧ F.row (Addr.mk b5 0 none) v_64 ∧
 Spec prog 22 #[(.agg v_63), (.agg v_64)] F fun v F => ∃ v_65 : Array Value, ∃ v_65_1 : Int, v = (.tuple #[(.agg v_65), (.int .i64 v_65_1)]) ∧
 ∀ b11, F b11 = none → atF (F.set b11 (.cells (#[.slice none 0 0, .int .i64 0]) 28)) fun F =>
 v_65.size = 2 ∧ (∀ v ∈ v_65.toList, storable v) ∧ ∃ c e, F (Addr.mk b11 0 none).block = some (.cells c e (0, 0)) ∧ (Addr.mk b11 0 none).spot = none ∧ (Addr.mk b11 0 none).off + 2 ≤ c.size ∧
 atF (F.set (Addr.mk b11 0 none).block (.cells (wr c (Addr.mk b11 0 none).off v_65.toList) e)) fun F =>
 ∃ v_69 : Array Value, v_69.size = 2 ∧ F.row (Addr.mk b4 0 none) v_69 ∧
 ∃ v_70 : Array Value, v_70.size = 2 ∧ F.row (Addr.mk b6 0 none) v_70 ∧
 Spec prog 19 #[(.agg v_69), (.agg v_70)] F fun v F => ∃ v_71 : Array Value, ∃ v_71_1 : Int, v = (.tuple #[(.agg v_71), (.int .i64 v_71_1)]) ∧
 ∀ b13, F b13 = none → atF (F.set b13 (.cells (#[.slice none 0 0, .int .i64 0]) 28)) fun F =>
 v_71.size = 2 ∧ (∀ v ∈ v_71.toList, storable v) ∧ ∃ c e, F (Addr.mk b13 0 none).block = some (.cells c e (0, 0)) ∧ (Addr.mk b13 0 none).spot = none ∧ (Addr.mk b13 0 none).off + 2 ≤ c.size ∧
 atF (F.set (Addr.mk b13 0 none).block (.cells (wr c (Addr.mk b13 0 none).off v_71.toList) e)) fun F =>
 ∃ v_75 : Array Value, v_75.size = 2 ∧ F.row (Addr.mk b5 0 none) v_75 ∧
 ∃ v_76 : Array Value, v_76.size = 2 ∧ F.row (Addr.mk b6 0 none) v_76 ∧
 Spec prog 22 #[(.agg v_75), (.agg v_76)] F fun v F => ∃ v_77 : Array Value, ∃ v_77_1 : Int, v = (.tuple #[(.agg v_77), (.int .i64 v_77_1)]) ∧
 ∀ b15, F b15 = none → atF (F.set b15 (.cells (#[.slice none 0 0, .int .i64 0]) 28)) fun F =>
 v_77.size = 2 ∧ (∀ v ∈ v_77.toList, storable v) ∧ ∃ c e, F (Addr.mk b15 0 none).block = some (.cells c e (0, 0)) ∧ (Addr.mk b15 0 none).spot = none ∧ (Addr.mk b15 0 none).off + 2 ≤ c.size ∧
 atF (F.set (Addr.mk b15 0 none).block (.cells (wr c (Addr.mk b15 0 none).off v_77.toList) e)) fun F =>
 ∃ v_81 : Array Value, v_81.size = 2 ∧ F.row (Addr.mk b4 0 none) v_81 ∧
 ∃ v_82 : Array Value, v_82.size = 2 ∧ F.row (Addr.mk b15 0 none) v_82 ∧
 Spec prog 19 #[(.agg v_81), (.agg v_82)] F fun v F => ∃ v_83 : Array Value, ∃ v_83_1 : Int, v = (.tuple #[(.agg v_83), (.int .i64 v_83_1)]) ∧
 ∀ b17, F b17 = none → atF (F.set b17 (.cells (#[.slice none 0 0, .int .i64 0]) 28)) fun F =>
 v_83.size = 2 ∧ (∀ v ∈ v_83.toList, storable v) ∧ ∃ c e, F (Addr.mk b17 0 none).block = some (.cells c e (0, 0)) ∧ (Addr.mk b17 0 none).spot = none ∧ (Addr.mk b17 0 none).off + 2 ≤ c.size ∧
 atF (F.set (Addr.mk b17 0 none).block (.cells (wr c (Addr.mk b17 0 none).off v_83.toList) e)) fun F =>
 ∃ v_87 : Array Value, v_87.size = 2 ∧ F.row (Addr.mk b7 0 none) v_87 ∧
 ∃ v_88 : Array Value, v_88.size = 2 ∧ F.row (Addr.mk b13 0 none) v_88 ∧
 Spec prog 22 #[(.agg v_87), (.agg v_88)] F fun v F => ∃ v_89 : Array Value, ∃ v_89_1 : Int, v = (.tuple #[(.agg v_89), (.int .i64 v_89_1)]) ∧
 ∀ b19, F b19 = none → atF (F.set b19 (.cells (#[.slice none 0 0, .int .i64 0]) 28)) fun F =>
 v_89.size = 2 ∧ (∀ v ∈ v_89.toList, storable v) ∧ ∃ c e, F (Addr.mk b19 0 none).block = some (.cells c e (0, 0)) ∧ (Addr.mk b19 0 none).spot = none ∧ (Addr.mk b19 0 none).off + 2 ≤ c.size ∧
 atF (F.set (Addr.mk b19 0 none).block (.cells (wr c (Addr.mk b19 0 none).off v_89.toList) e)) fun F =>
 ∃ v_93 : Array Value, v_93.size = 2 ∧ F.row (Addr.mk b4 0 none) v_93 ∧
 ∃ v_94 : Array Value, v_94.size = 2 ∧ F.row (Addr.mk b7 0 none) v_94 ∧
 Spec prog 22 #[(.agg v_93), (.agg v_94)] F fun v F => ∃ v_95 : Array Value, ∃ v_95_1 : Int, v = (.tuple #[(.agg v_95), (.int .i64 v_95_1)]) ∧
 ∀ b21, F b21 = none → atF (F.set b21 (.cells (#[.slice none 0 0, .int .i64 0]) 28)) fun F =>
 v_95.size = 2 ∧ (∀ v ∈ v_95.toList, storable v) ∧ ∃ c e, F (Addr.mk b21 0 none).block = some (.cells c e (0, 0)) ∧ (Addr.mk b21 0 none).spot = none ∧ (Addr.mk b21 0 none).off + 2 ≤ c.size ∧
 atF (F.set (Addr.mk b21 0 none).block (.cells (wr c (Addr.mk b21 0 none).off v_95.toList) e)) fun F =>
 ∃ v_99 : Array Value, v_99.size = 2 ∧ F.row (Addr.mk b4 0 none) v_99 ∧
 Spec prog 25 #[(.agg v_99)] F fun v F => ∃ v_100 : Array Value, ∃ v_100_1 : Int, v = (.tuple #[(.agg v_100), (.int .i64 v_100_1)]) ∧
 ∀ b23, F b23 = none → atF (F.set b23 (.cells (#[.slice none 0 0, .int .i64 0]) 28)) fun F =>
 v_100.size = 2 ∧ (∀ v ∈ v_100.toList, storable v) ∧ ∃ c e, F (Addr.mk b23 0 none).block = some (.cells c e (0, 0)) ∧ (Addr.mk b23 0 none).spot = none ∧ (Addr.mk b23 0 none).off + 2 ≤ c.size ∧
 atF (F.set (Addr.mk b23 0 none).block (.cells (wr c (Addr.mk b23 0 none).off v_100.toList) e)) fun F =>
 ∃ v_104 : Array Value, v_104.size = 2 ∧ F.row (Addr.mk b5 0 none) v_104 ∧
 Spec prog 25 #[(.agg v_104)] F fun v F => ∃ v_105 : Array Value, ∃ v_105_1 : Int, v = (.tuple #[(.agg v_105), (.int .i64 v_105_1)]) ∧
 ∀ b25, F b25 = none → atF (F.set b25 (.cells (#[.slice none 0 0, .int .i64 0]) 28)) fun F =>
 v_105.size = 2 ∧ (∀ v ∈ v_105.toList, storable v) ∧ ∃ c e, F (Addr.mk b25 0 none).block = some (.cells c e (0, 0)) ∧ (Addr.mk b25 0 none).spot = none ∧ (Addr.mk b25 0 none).off + 2 ≤ c.size ∧
 atF (F.set (Addr.mk b25 0 none).block (.cells (wr c (Addr.mk b25 0 none).off v_105.toList) e)) fun F =>
 ∃ v_109 : Array Value, v_109.size = 2 ∧ F.row (Addr.mk b11 0 none) v_109 ∧
 Spec prog 25 #[(.agg v_109)] F fun v F => ∃ v_110 : Array Value, ∃ v_110_1 : Int, v = (.tuple #[(.agg v_110), (.int .i64 v_110_1)]) ∧
 ∀ b27, F b27 = none → atF (F.set b27 (.cells (#[.slice none 0 0, .int .i64 0]) 28)) fun F =>
 v_110.size = 2 ∧ (∀ v ∈ v_110.toList, storable v) ∧ ∃ c e, F (Addr.mk b27 0 none).block = some (.cells c e (0, 0)) ∧ (Addr.mk b27 0 none).spot = none ∧ (Addr.mk b27 0 none).off + 2 ≤ c.size ∧
 atF (F.set (Addr.mk b27 0 none).block (.cells (wr c (Addr.mk b27 0 none).off v_110.toList) e)) fun F =>
 ∃ v_114 : Array Value, v_114.size = 2 ∧ F.row (Addr.mk b23 0 none) v_114 ∧
 ∃ v_115 : Array Value, v_115.size = 2 ∧ F.row (Addr.mk b25 0 none) v_115 ∧
 Spec prog 19 #[(.agg v_114), (.agg v_115)] F fun v F => ∃ v_116 : Array Value, ∃ v_116_1 : Int, v = (.tuple #[(.agg v_116), (.int .i64 v_116_1)]) ∧
 ∀ b29, F b29 = none → atF (F.set b29 (.cells (#[.slice none 0 0, .int .i64 0]) 28)) fun F =>
 v_116.size = 2 ∧ (∀ v ∈ v_116.toList, storable v) ∧ ∃ c e, F (Addr.mk b29 0 none).block = some (.cells c e (0, 0)) ∧ (Addr.mk b29 0 none).spot = none ∧ (Addr.mk b29 0 none).off + 2 ≤ c.size ∧
 atF (F.set (Addr.mk b29 0 none).block (.cells (wr c (Addr.mk b29 0 none).off v_116.toList) e)) fun F =>
 ∃ v_120 : Array Value, v_120.size = 2 ∧ F.row (Addr.mk b23 0 none) v_120 ∧
 Spec prog 25 #[(.agg v_120)] F fun v F => ∃ v_121 : Array Value, ∃ v_121_1 : Int, v = (.tuple #[(.agg v_121), (.int .i64 v_121_1)]) ∧
 ∀ b31, F b31 = none → atF (F.set b31 (.cells (#[.slice none 0 0, .int .i64 0]) 28)) fun F =>
 v_121.size = 2 ∧ (∀ v ∈ v_121.toList, storable v) ∧ ∃ c e, F (Addr.mk b31 0 none).block = some (.cells c e (0, 0)) ∧ (Addr.mk b31 0 none).spot = none ∧ (Addr.mk b31 0 none).off + 2 ≤ c.size ∧
 atF (F.set (Addr.mk b31 0 none).block (.cells (wr c (Addr.mk b31 0 none).off v_121.toList) e)) fun F =>
 ∃ v_125 : Array Value, v_125.size = 2 ∧ F.row (Addr.mk b4 0 none) v_125 ∧
 ∃ v_126 : Array Value, v_126.size = 2 ∧ F.row (Addr.mk b23 0 none) v_126 ∧
 Spec prog 19 #[(.agg v_125), (.agg v_126)] F fun v F => ∃ v_127 : Array Value, ∃ v_127_1 : Int, v = (.tuple #[(.agg v_127), (.int .i64 v_127_1)]) ∧
 ∀ b33, F b33 = none → atF (F.set b33 (.cells (#[.slice none 0 0, .int .i64 0]) 28)) fun F =>
 v_127.size = 2 ∧ (∀ v ∈ v_127.toList, storable v) ∧ ∃ c e, F (Addr.mk b33 0 none).block = some (.cells c e (0, 0)) ∧ (Addr.mk b33 0 none).spot = none ∧ (Addr.mk b33 0 none).off + 2 ≤ c.size ∧
 atF (F.set (Addr.mk b33 0 none).block (.cells (wr c (Addr.mk b33 0 none).off v_127.toList) e)) fun F =>
 ∃ v_131 : Array Value, v_131.size = 2 ∧ F.row (Addr.mk b4 0 none) v_131 ∧
 ∃ v_132 : Array Value, v_132.size = 2 ∧ F.row (Addr.mk b23 0 none) v_132 ∧
 Spec prog 22 #[(.agg v_131), (.agg v_132)] F fun v F => ∃ v_133 : Array Value, ∃ v_133_1 : Int, v = (.tuple #[(.agg v_133), (.int .i64 v_133_1)]) ∧
 ∀ b35, F b35 = none → atF (F.set b35 (.cells (#[.slice none 0 0, .int .i64 0]) 28)) fun F =>
 v_133.size = 2 ∧ (∀ v ∈ v_133.toList, storable v) ∧ ∃ c e, F (Addr.mk b35 0 none).block = some (.cells c e (0, 0)) ∧ (Addr.mk b35 0 none).spot = none ∧ (Addr.mk b35 0 none).off + 2 ≤ c.size ∧
 atF (F.set (Addr.mk b35 0 none).block (.cells (wr c (Addr.mk b35 0 none).off v_133.toList) e)) fun F =>
 ∃ v_137 : Array Value, v_137.size = 2 ∧ F.row (Addr.mk b4 0 none) v_137 ∧
 ∃ v_138 : Array Value, v_138.size = 2 ∧ F.row (Addr.mk b35 0 none) v_138 ∧
 Spec prog 26 #[(.agg v_137), (.agg v_138)] F fun v F => ∃ v_139 : Array Value, ∃ v_139_1 : Int, v = (.tuple #[(.agg v_139), (.int .i64 v_139_1)]) ∧
 ∀ b37, F b37 = none → atF (F.set b37 (.cells (#[.slice none 0 0, .int .i64 0]) 28)) fun F =>
 v_139.size = 2 ∧ (∀ v ∈ v_139.toList, storable v) ∧ ∃ c e, F (Addr.mk b37 0 none).block = some (.cells c e (0, 0)) ∧ (Addr.mk b37 0 none).spot = none ∧ (Addr.mk b37 0 none).off + 2 ≤ c.size ∧
 atF (F.set (Addr.mk b37 0 none).block (.cells (wr c (Addr.mk b37 0 none).off v_139.toList) e)) fun F =>
 ∃ v_142 : Array Value, v_142.size = 2 ∧ F.row (Addr.mk b7 0 none) v_142 ∧
 ∃ v_143 : Array Value, v_143.size = 2 ∧ F.row (Addr.mk b9 0 none) v_143 ∧
 Spec prog 24 #[(.agg v_142), (.agg v_143)] F fun v F => ∃ v_144 : Bool, v = (.bool v_144) ∧
 ((v_144 = true →
  ∃ v_146 : Array Value, v_146.size = 2 ∧ F.row (Addr.mk b17 0 none) v_146 ∧
  ∃ v_147 : Array Value, v_147.size = 2 ∧ F.row (Addr.mk b19 0 none) v_147 ∧
  Spec prog 24 #[(.agg v_146), (.agg v_147)] F fun v F => ∃ v_148 : Bool, v = (.bool v_148) ∧
  ((v_148 = true →
   ∃ v_151 : Array Value, v_151.size = 2 ∧ F.row (Addr.mk b21 0 none) v_151 ∧
   ∃ v_152 : Array Value, v_152.size = 2 ∧ F.row (Addr.mk b4 0 none) v_152 ∧
   Spec prog 24 #[(.agg v_151), (.agg v_152)] F fun v F => ∃ v_153 : Bool, v = (.bool v_153) ∧
   ((v_153 = true →
    ∃ v_156 : Array Value, v_156.size = 2 ∧ F.row (Addr.mk b27 0 none) v_156 ∧
    ∃ v_157 : Array Value, v_157.size = 2 ∧ F.row (Addr.mk b29 0 none) v_157 ∧
    Spec prog 24 #[(.agg v_156), (.agg v_157)] F fun v F => ∃ v_158 : Bool, v = (.bool v_158) ∧
    ((v_158 = true →
     ∃ v_161 : Array Value, v_161.size = 2 ∧ F.row (Addr.mk b31 0 none) v_161 ∧
     ∃ v_162 : Array Value, v_162.size = 2 ∧ F.row (Addr.mk b4 0 none) v_162 ∧
     Spec prog 24 #[(.agg v_161), (.agg v_162)] F fun v F => ∃ v_163 : Bool, v = (.bool v_163) ∧
     b5j1 v_40 b23 b33 b35 b37 v_163 R F) ∧
    (v_158 = false →
     b5j1 v_40 b23 b33 b35 b37 false R F))) ∧
   (v_153 = false →
    b5j1 v_40 b23 b33 b35 b37 false R F))) ∧
  (v_148 = false →
   b5j1 v_40 b23 b33 b35 b37 false R F))) ∧
 (v_144 = false →
  b5j1 v_40 b23 b33 b35 b37 false R F))
def b5d8 (v_49 : Array Value) (b6 : Nat) (b4 : Nat) (b5 : Nat) (v_40 : Bool) (R : Value → PH → Prop) (F : PH) : Prop :=
 v_49.size = 2 ∧ (∀ v ∈ v_49.toList, storable v) ∧ ∃ c e, F (Addr.mk b6 0 none).block = some (.cells c e (0, 0)) ∧ (Addr.mk b6 0 none).spot = none ∧ (Addr.mk b6 0 none).off + 2 ≤ c.size ∧
 atF (F.set (Addr.mk b6 0 none).block (.cells (wr c (Addr.mk b6 0 none).off v_49.toList) e)) fun F =>
 b5d9 b4 b5 b6 v_40 R F
def b5d7 (v_46 : Array Value) (b5 : Nat) (v_49 : Array Value) (b6 : Nat) (b4 : Nat) (v_40 : Bool) (R : Value → PH → Prop) (F : PH) : Prop :=
 v_46.size = 2 ∧ (∀ v ∈ v_46.toList, storable v) ∧ ∃ c e, F (Addr.mk b5 0 none).block = some (.cells c e (0, 0)) ∧ (Addr.mk b5 0 none).spot = none ∧ (Addr.mk b5 0 none).off + 2 ≤ c.size ∧
 atF (F.set (Addr.mk b5 0 none).block (.cells (wr c (Addr.mk b5 0 none).off v_46.toList) e)) fun F =>
 b5d8 v_49 b6 b4 b5 v_40 R F
def b5d6 (v_43 : Array Value) (b4 : Nat) (v_46 : Array Value) (b5 : Nat) (v_49 : Array Value) (b6 : Nat) (v_40 : Bool) (R : Value → PH → Prop) (F : PH) : Prop :=
 v_43.size = 2 ∧ (∀ v ∈ v_43.toList, storable v) ∧ ∃ c e, F (Addr.mk b4 0 none).block = some (.cells c e (0, 0)) ∧ (Addr.mk b4 0 none).spot = none ∧ (Addr.mk b4 0 none).off + 2 ≤ c.size ∧
 atF (F.set (Addr.mk b4 0 none).block (.cells (wr c (Addr.mk b4 0 none).off v_43.toList) e)) fun F =>
 b5d7 v_46 b5 v_49 b6 b4 v_40 R F
def b5d5 (v_43 : Array Value) (b4 : Nat) (v_46 : Array Value) (b5 : Nat) (v_49 : Array Value) (v_40 : Bool) (R : Value → PH → Prop) (F : PH) : Prop :=
 ∀ b6, F b6 = none → atF (F.set b6 (.cells (#[.slice none 0 0, .int .i64 0]) 28)) fun F =>
 b5d6 v_43 b4 v_46 b5 v_49 b6 v_40 R F
def b5d10 (v_43 : Array Value) (b4 : Nat) (v_46 : Array Value) (v_49 : Array Value) (b6_1 : Nat) (v_40 : Bool) (R : Value → PH → Prop) (F : PH) : Prop :=
 ∀ b5_1, F b5_1 = none → atF (F.set b5_1 (.cells (#[.slice none 0 0, .int .i64 0]) 28)) fun F =>
 b5d6 v_43 b4 v_46 b5_1 v_49 b6_1 v_40 R F
def b5d4 (v_43 : Array Value) (b4 : Nat) (v_46 : Array Value) (v_49 : Array Value) (v_40 : Bool) (R : Value → PH → Prop) (F : PH) : Prop :=
 ((∀ b5, F b5 = none → atF (F.set b5 (.cells (#[.slice none 0 0, .int .i64 0]) 28)) fun F =>
 b5d5 v_43 b4 v_46 b5 v_49 v_40 R F) ∧
 (∀ b6_1, F b6_1 = none → atF (F.set b6_1 (.cells (#[.slice none 0 0, .int .i64 0]) 28)) fun F =>
 b5d10 v_43 b4 v_46 v_49 b6_1 v_40 R F))
def b5d12 (v_43 : Array Value) (v_46 : Array Value) (b5_2 : Nat) (v_49 : Array Value) (b6_2 : Nat) (v_40 : Bool) (R : Value → PH → Prop) (F : PH) : Prop :=
 ∀ b4_2, F b4_2 = none → atF (F.set b4_2 (.cells (#[.slice none 0 0, .int .i64 0]) 28)) fun F =>
 b5d6 v_43 b4_2 v_46 b5_2 v_49 b6_2 v_40 R F
def b5d11 (v_43 : Array Value) (v_46 : Array Value) (b5_2 : Nat) (v_49 : Array Value) (v_40 : Bool) (R : Value → PH → Prop) (F : PH) : Prop :=
 ((∀ b4_1, F b4_1 = none → atF (F.set b4_1 (.cells (#[.slice none 0 0, .int .i64 0]) 28)) fun F =>
 b5d5 v_43 b4_1 v_46 b5_2 v_49 v_40 R F) ∧
 (∀ b6_2, F b6_2 = none → atF (F.set b6_2 (.cells (#[.slice none 0 0, .int .i64 0]) 28)) fun F =>
 b5d12 v_43 v_46 b5_2 v_49 b6_2 v_40 R F))
def b5d13 (v_43 : Array Value) (v_46 : Array Value) (v_49 : Array Value) (b6_3 : Nat) (v_40 : Bool) (R : Value → PH → Prop) (F : PH) : Prop :=
 ((∀ b4_3, F b4_3 = none → atF (F.set b4_3 (.cells (#[.slice none 0 0, .int .i64 0]) 28)) fun F =>
 b5d10 v_43 b4_3 v_46 v_49 b6_3 v_40 R F) ∧
 (∀ b5_3, F b5_3 = none → atF (F.set b5_3 (.cells (#[.slice none 0 0, .int .i64 0]) 28)) fun F =>
 b5d12 v_43 v_46 b5_3 v_49 b6_3 v_40 R F))
def b5d3 (v_43 : Array Value) (v_46 : Array Value) (v_49 : Array Value) (v_40 : Bool) (R : Value → PH → Prop) (F : PH) : Prop :=
 ((∀ b4, F b4 = none → atF (F.set b4 (.cells (#[.slice none 0 0, .int .i64 0]) 28)) fun F =>
 b5d4 v_43 b4 v_46 v_49 v_40 R F) ∧
 (∀ b5_2, F b5_2 = none → atF (F.set b5_2 (.cells (#[.slice none 0 0, .int .i64 0]) 28)) fun F =>
 b5d11 v_43 v_46 b5_2 v_49 v_40 R F) ∧
 (∀ b6_3, F b6_3 = none → atF (F.set b6_3 (.cells (#[.slice none 0 0, .int .i64 0]) 28)) fun F =>
 b5d13 v_43 v_46 v_49 b6_3 v_40 R F))
def b5d16 (v_48 : Array Value) (v_43 : Array Value) (b4_4 : Nat) (v_46 : Array Value) (b5_4 : Nat) (b6_4 : Nat) (v_40 : Bool) (R : Value → PH → Prop) (F : PH) : Prop :=
 Spec prog 16 #[(.agg v_48)] F fun v F => ∃ v_49_3 : Array Value, v = (.agg v_49_3) ∧
 b5d6 v_43 b4_4 v_46 b5_4 v_49_3 b6_4 v_40 R F
def b5d15 (v_48 : Array Value) (v_43 : Array Value) (b4_4 : Nat) (v_46 : Array Value) (b5_4 : Nat) (v_40 : Bool) (R : Value → PH → Prop) (F : PH) : Prop :=
 ((Spec prog 16 #[(.agg v_48)] F fun v F => ∃ v_49_2 : Array Value, v = (.agg v_49_2) ∧
 b5d5 v_43 b4_4 v_46 b5_4 v_49_2 v_40 R F) ∧
 (∀ b6_4, F b6_4 = none → atF (F.set b6_4 (.cells (#[.slice none 0 0, .int .i64 0]) 28)) fun F =>
 b5d16 v_48 v_43 b4_4 v_46 b5_4 b6_4 v_40 R F))
def b5d17 (v_48 : Array Value) (v_43 : Array Value) (b4_4 : Nat) (v_46 : Array Value) (b6_5 : Nat) (v_40 : Bool) (R : Value → PH → Prop) (F : PH) : Prop :=
 ((Spec prog 16 #[(.agg v_48)] F fun v F => ∃ v_49_4 : Array Value, v = (.agg v_49_4) ∧
 b5d10 v_43 b4_4 v_46 v_49_4 b6_5 v_40 R F) ∧
 (∀ b5_5, F b5_5 = none → atF (F.set b5_5 (.cells (#[.slice none 0 0, .int .i64 0]) 28)) fun F =>
 b5d16 v_48 v_43 b4_4 v_46 b5_5 b6_5 v_40 R F))
def b5d14 (v_48 : Array Value) (v_43 : Array Value) (b4_4 : Nat) (v_46 : Array Value) (v_40 : Bool) (R : Value → PH → Prop) (F : PH) : Prop :=
 ((Spec prog 16 #[(.agg v_48)] F fun v F => ∃ v_49_1 : Array Value, v = (.agg v_49_1) ∧
 b5d4 v_43 b4_4 v_46 v_49_1 v_40 R F) ∧
 (∀ b5_4, F b5_4 = none → atF (F.set b5_4 (.cells (#[.slice none 0 0, .int .i64 0]) 28)) fun F =>
 b5d15 v_48 v_43 b4_4 v_46 b5_4 v_40 R F) ∧
 (∀ b6_5, F b6_5 = none → atF (F.set b6_5 (.cells (#[.slice none 0 0, .int .i64 0]) 28)) fun F =>
 b5d17 v_48 v_43 b4_4 v_46 b6_5 v_40 R F))
def b5d19 (v_48 : Array Value) (v_43 : Array Value) (v_46 : Array Value) (b5_6 : Nat) (b6_6 : Nat) (v_40 : Bool) (R : Value → PH → Prop) (F : PH) : Prop :=
 ((Spec prog 16 #[(.agg v_48)] F fun v F => ∃ v_49_6 : Array Value, v = (.agg v_49_6) ∧
 b5d12 v_43 v_46 b5_6 v_49_6 b6_6 v_40 R F) ∧
 (∀ b4_6, F b4_6 = none → atF (F.set b4_6 (.cells (#[.slice none 0 0, .int .i64 0]) 28)) fun F =>
 b5d16 v_48 v_43 b4_6 v_46 b5_6 b6_6 v_40 R F))
def b5d18 (v_48 : Array Value) (v_43 : Array Value) (v_46 : Array Value) (b5_6 : Nat) (v_40 : Bool) (R : Value → PH → Prop) (F : PH) : Prop :=
 ((Spec prog 16 #[(.agg v_48)] F fun v F => ∃ v_49_5 : Array Value, v = (.agg v_49_5) ∧
 b5d11 v_43 v_46 b5_6 v_49_5 v_40 R F) ∧
 (∀ b4_5, F b4_5 = none → atF (F.set b4_5 (.cells (#[.slice none 0 0, .int .i64 0]) 28)) fun F =>
 b5d15 v_48 v_43 b4_5 v_46 b5_6 v_40 R F) ∧
 (∀ b6_6, F b6_6 = none → atF (F.set b6_6 (.cells (#[.slice none 0 0, .int .i64 0]) 28)) fun F =>
 b5d19 v_48 v_43 v_46 b5_6 b6_6 v_40 R F))
def b5d20 (v_48 : Array Value) (v_43 : Array Value) (v_46 : Array Value) (b6_7 : Nat) (v_40 : Bool) (R : Value → PH → Prop) (F : PH) : Prop :=
 ((Spec prog 16 #[(.agg v_48)] F fun v F => ∃ v_49_7 : Array Value, v = (.agg v_49_7) ∧
 b5d13 v_43 v_46 v_49_7 b6_7 v_40 R F) ∧
 (∀ b4_7, F b4_7 = none → atF (F.set b4_7 (.cells (#[.slice none 0 0, .int .i64 0]) 28)) fun F =>
 b5d17 v_48 v_43 b4_7 v_46 b6_7 v_40 R F) ∧
 (∀ b5_7, F b5_7 = none → atF (F.set b5_7 (.cells (#[.slice none 0 0, .int .i64 0]) 28)) fun F =>
 b5d19 v_48 v_43 v_46 b5_7 b6_7 v_40 R F))
def b5d2 (v_48 : Array Value) (v_43 : Array Value) (v_46 : Array Value) (v_40 : Bool) (R : Value → PH → Prop) (F : PH) : Prop :=
 ((Spec prog 16 #[(.agg v_48)] F fun v F => ∃ v_49 : Array Value, v = (.agg v_49) ∧
 b5d3 v_43 v_46 v_49 v_40 R F) ∧
 (∀ b4_4, F b4_4 = none → atF (F.set b4_4 (.cells (#[.slice none 0 0, .int .i64 0]) 28)) fun F =>
 b5d14 v_48 v_43 b4_4 v_46 v_40 R F) ∧
 (∀ b5_6, F b5_6 = none → atF (F.set b5_6 (.cells (#[.slice none 0 0, .int .i64 0]) 28)) fun F =>
 b5d18 v_48 v_43 v_46 b5_6 v_40 R F) ∧
 (∀ b6_7, F b6_7 = none → atF (F.set b6_7 (.cells (#[.slice none 0 0, .int .i64 0]) 28)) fun F =>
 b5d20 v_48 v_43 v_46 b6_7 v_40 R F))
def b5d23 (v_45 : Array Value) (b1 : Nat) (v_48 : Array Value) (v_43 : Array Value) (b4_8 : Nat) (b5_8 : Nat) (b6_8 : Nat) (v_40 : Bool) (R : Value → PH → Prop) (F : PH) : Prop :=
 Spec prog 16 #[(.agg v_45)] F fun v F => ∃ v_46_3 : Array Value, v = (.agg v_46_3) ∧
 F.row (Addr.add (Addr.mk b1 0 none) (Int.toNat (2 : Int) * 2)) v_48 ∧ b5d16 v_48 v_43 b4_8 v_46_3 b5_8 b6_8 v_40 R F
def b5d22 (v_45 : Array Value) (b1 : Nat) (v_48 : Array Value) (v_43 : Array Value) (b4_8 : Nat) (b5_8 : Nat) (v_40 : Bool) (R : Value → PH → Prop) (F : PH) : Prop :=
 ((Spec prog 16 #[(.agg v_45)] F fun v F => ∃ v_46_2 : Array Value, v = (.agg v_46_2) ∧
 F.row (Addr.add (Addr.mk b1 0 none) (Int.toNat (2 : Int) * 2)) v_48 ∧ b5d15 v_48 v_43 b4_8 v_46_2 b5_8 v_40 R F) ∧
 (∀ b6_8, F b6_8 = none → atF (F.set b6_8 (.cells (#[.slice none 0 0, .int .i64 0]) 28)) fun F =>
 b5d23 v_45 b1 v_48 v_43 b4_8 b5_8 b6_8 v_40 R F))
def b5d24 (v_45 : Array Value) (b1 : Nat) (v_48 : Array Value) (v_43 : Array Value) (b4_8 : Nat) (b6_9 : Nat) (v_40 : Bool) (R : Value → PH → Prop) (F : PH) : Prop :=
 ((Spec prog 16 #[(.agg v_45)] F fun v F => ∃ v_46_4 : Array Value, v = (.agg v_46_4) ∧
 F.row (Addr.add (Addr.mk b1 0 none) (Int.toNat (2 : Int) * 2)) v_48 ∧ b5d17 v_48 v_43 b4_8 v_46_4 b6_9 v_40 R F) ∧
 (∀ b5_9, F b5_9 = none → atF (F.set b5_9 (.cells (#[.slice none 0 0, .int .i64 0]) 28)) fun F =>
 b5d23 v_45 b1 v_48 v_43 b4_8 b5_9 b6_9 v_40 R F))
def b5d21 (v_45 : Array Value) (b1 : Nat) (v_48 : Array Value) (v_43 : Array Value) (b4_8 : Nat) (v_40 : Bool) (R : Value → PH → Prop) (F : PH) : Prop :=
 ((Spec prog 16 #[(.agg v_45)] F fun v F => ∃ v_46_1 : Array Value, v = (.agg v_46_1) ∧
 F.row (Addr.add (Addr.mk b1 0 none) (Int.toNat (2 : Int) * 2)) v_48 ∧ b5d14 v_48 v_43 b4_8 v_46_1 v_40 R F) ∧
 (∀ b5_8, F b5_8 = none → atF (F.set b5_8 (.cells (#[.slice none 0 0, .int .i64 0]) 28)) fun F =>
 b5d22 v_45 b1 v_48 v_43 b4_8 b5_8 v_40 R F) ∧
 (∀ b6_9, F b6_9 = none → atF (F.set b6_9 (.cells (#[.slice none 0 0, .int .i64 0]) 28)) fun F =>
 b5d24 v_45 b1 v_48 v_43 b4_8 b6_9 v_40 R F))
def b5d26 (v_45 : Array Value) (b1 : Nat) (v_48 : Array Value) (v_43 : Array Value) (b5_10 : Nat) (b6_10 : Nat) (v_40 : Bool) (R : Value → PH → Prop) (F : PH) : Prop :=
 ((Spec prog 16 #[(.agg v_45)] F fun v F => ∃ v_46_6 : Array Value, v = (.agg v_46_6) ∧
 F.row (Addr.add (Addr.mk b1 0 none) (Int.toNat (2 : Int) * 2)) v_48 ∧ b5d19 v_48 v_43 v_46_6 b5_10 b6_10 v_40 R F) ∧
 (∀ b4_10, F b4_10 = none → atF (F.set b4_10 (.cells (#[.slice none 0 0, .int .i64 0]) 28)) fun F =>
 b5d23 v_45 b1 v_48 v_43 b4_10 b5_10 b6_10 v_40 R F))
def b5d25 (v_45 : Array Value) (b1 : Nat) (v_48 : Array Value) (v_43 : Array Value) (b5_10 : Nat) (v_40 : Bool) (R : Value → PH → Prop) (F : PH) : Prop :=
 ((Spec prog 16 #[(.agg v_45)] F fun v F => ∃ v_46_5 : Array Value, v = (.agg v_46_5) ∧
 F.row (Addr.add (Addr.mk b1 0 none) (Int.toNat (2 : Int) * 2)) v_48 ∧ b5d18 v_48 v_43 v_46_5 b5_10 v_40 R F) ∧
 (∀ b4_9, F b4_9 = none → atF (F.set b4_9 (.cells (#[.slice none 0 0, .int .i64 0]) 28)) fun F =>
 b5d22 v_45 b1 v_48 v_43 b4_9 b5_10 v_40 R F) ∧
 (∀ b6_10, F b6_10 = none → atF (F.set b6_10 (.cells (#[.slice none 0 0, .int .i64 0]) 28)) fun F =>
 b5d26 v_45 b1 v_48 v_43 b5_10 b6_10 v_40 R F))
def b5d27 (v_45 : Array Value) (b1 : Nat) (v_48 : Array Value) (v_43 : Array Value) (b6_11 : Nat) (v_40 : Bool) (R : Value → PH → Prop) (F : PH) : Prop :=
 ((Spec prog 16 #[(.agg v_45)] F fun v F => ∃ v_46_7 : Array Value, v = (.agg v_46_7) ∧
 F.row (Addr.add (Addr.mk b1 0 none) (Int.toNat (2 : Int) * 2)) v_48 ∧ b5d20 v_48 v_43 v_46_7 b6_11 v_40 R F) ∧
 (∀ b4_11, F b4_11 = none → atF (F.set b4_11 (.cells (#[.slice none 0 0, .int .i64 0]) 28)) fun F =>
 b5d24 v_45 b1 v_48 v_43 b4_11 b6_11 v_40 R F) ∧
 (∀ b5_11, F b5_11 = none → atF (F.set b5_11 (.cells (#[.slice none 0 0, .int .i64 0]) 28)) fun F =>
 b5d26 v_45 b1 v_48 v_43 b5_11 b6_11 v_40 R F))
def b5d1 (v_45 : Array Value) (b1 : Nat) (v_48 : Array Value) (v_43 : Array Value) (v_40 : Bool) (R : Value → PH → Prop) (F : PH) : Prop :=
 ((Spec prog 16 #[(.agg v_45)] F fun v F => ∃ v_46 : Array Value, v = (.agg v_46) ∧
 F.row (Addr.add (Addr.mk b1 0 none) (Int.toNat (2 : Int) * 2)) v_48 ∧ b5d2 v_48 v_43 v_46 v_40 R F) ∧
 (∀ b4_8, F b4_8 = none → atF (F.set b4_8 (.cells (#[.slice none 0 0, .int .i64 0]) 28)) fun F =>
 b5d21 v_45 b1 v_48 v_43 b4_8 v_40 R F) ∧
 (∀ b5_10, F b5_10 = none → atF (F.set b5_10 (.cells (#[.slice none 0 0, .int .i64 0]) 28)) fun F =>
 b5d25 v_45 b1 v_48 v_43 b5_10 v_40 R F) ∧
 (∀ b6_11, F b6_11 = none → atF (F.set b6_11 (.cells (#[.slice none 0 0, .int .i64 0]) 28)) fun F =>
 b5d27 v_45 b1 v_48 v_43 b6_11 v_40 R F))
def b5d30 (v_42 : Array Value) (b1 : Nat) (v_48 : Array Value) (v_45 : Array Value) (b4_12 : Nat) (b5_12 : Nat) (b6_12 : Nat) (v_40 : Bool) (R : Value → PH → Prop) (F : PH) : Prop :=
 Spec prog 16 #[(.agg v_42)] F fun v F => ∃ v_43_3 : Array Value, v = (.agg v_43_3) ∧
 F.row (Addr.add (Addr.mk b1 0 none) (Int.toNat (2 : Int) * 2)) v_48 ∧ F.row (Addr.add (Addr.mk b1 0 none) (Int.toNat (1 : Int) * 2)) v_45 ∧ b5d23 v_45 b1 v_48 v_43_3 b4_12 b5_12 b6_12 v_40 R F
def b5d29 (v_42 : Array Value) (b1 : Nat) (v_48 : Array Value) (v_45 : Array Value) (b4_12 : Nat) (b5_12 : Nat) (v_40 : Bool) (R : Value → PH → Prop) (F : PH) : Prop :=
 ((Spec prog 16 #[(.agg v_42)] F fun v F => ∃ v_43_2 : Array Value, v = (.agg v_43_2) ∧
 F.row (Addr.add (Addr.mk b1 0 none) (Int.toNat (2 : Int) * 2)) v_48 ∧ F.row (Addr.add (Addr.mk b1 0 none) (Int.toNat (1 : Int) * 2)) v_45 ∧ b5d22 v_45 b1 v_48 v_43_2 b4_12 b5_12 v_40 R F) ∧
 (∀ b6_12, F b6_12 = none → atF (F.set b6_12 (.cells (#[.slice none 0 0, .int .i64 0]) 28)) fun F =>
 b5d30 v_42 b1 v_48 v_45 b4_12 b5_12 b6_12 v_40 R F))
def b5d31 (v_42 : Array Value) (b1 : Nat) (v_48 : Array Value) (v_45 : Array Value) (b4_12 : Nat) (b6_13 : Nat) (v_40 : Bool) (R : Value → PH → Prop) (F : PH) : Prop :=
 ((Spec prog 16 #[(.agg v_42)] F fun v F => ∃ v_43_4 : Array Value, v = (.agg v_43_4) ∧
 F.row (Addr.add (Addr.mk b1 0 none) (Int.toNat (2 : Int) * 2)) v_48 ∧ F.row (Addr.add (Addr.mk b1 0 none) (Int.toNat (1 : Int) * 2)) v_45 ∧ b5d24 v_45 b1 v_48 v_43_4 b4_12 b6_13 v_40 R F) ∧
 (∀ b5_13, F b5_13 = none → atF (F.set b5_13 (.cells (#[.slice none 0 0, .int .i64 0]) 28)) fun F =>
 b5d30 v_42 b1 v_48 v_45 b4_12 b5_13 b6_13 v_40 R F))
def b5d28 (v_42 : Array Value) (b1 : Nat) (v_48 : Array Value) (v_45 : Array Value) (b4_12 : Nat) (v_40 : Bool) (R : Value → PH → Prop) (F : PH) : Prop :=
 ((Spec prog 16 #[(.agg v_42)] F fun v F => ∃ v_43_1 : Array Value, v = (.agg v_43_1) ∧
 F.row (Addr.add (Addr.mk b1 0 none) (Int.toNat (2 : Int) * 2)) v_48 ∧ F.row (Addr.add (Addr.mk b1 0 none) (Int.toNat (1 : Int) * 2)) v_45 ∧ b5d21 v_45 b1 v_48 v_43_1 b4_12 v_40 R F) ∧
 (∀ b5_12, F b5_12 = none → atF (F.set b5_12 (.cells (#[.slice none 0 0, .int .i64 0]) 28)) fun F =>
 b5d29 v_42 b1 v_48 v_45 b4_12 b5_12 v_40 R F) ∧
 (∀ b6_13, F b6_13 = none → atF (F.set b6_13 (.cells (#[.slice none 0 0, .int .i64 0]) 28)) fun F =>
 b5d31 v_42 b1 v_48 v_45 b4_12 b6_13 v_40 R F))
def b5d33 (v_42 : Array Value) (b1 : Nat) (v_48 : Array Value) (v_45 : Array Value) (b5_14 : Nat) (b6_14 : Nat) (v_40 : Bool) (R : Value → PH → Prop) (F : PH) : Prop :=
 ((Spec prog 16 #[(.agg v_42)] F fun v F => ∃ v_43_6 : Array Value, v = (.agg v_43_6) ∧
 F.row (Addr.add (Addr.mk b1 0 none) (Int.toNat (2 : Int) * 2)) v_48 ∧ F.row (Addr.add (Addr.mk b1 0 none) (Int.toNat (1 : Int) * 2)) v_45 ∧ b5d26 v_45 b1 v_48 v_43_6 b5_14 b6_14 v_40 R F) ∧
 (∀ b4_14, F b4_14 = none → atF (F.set b4_14 (.cells (#[.slice none 0 0, .int .i64 0]) 28)) fun F =>
 b5d30 v_42 b1 v_48 v_45 b4_14 b5_14 b6_14 v_40 R F))
def b5d32 (v_42 : Array Value) (b1 : Nat) (v_48 : Array Value) (v_45 : Array Value) (b5_14 : Nat) (v_40 : Bool) (R : Value → PH → Prop) (F : PH) : Prop :=
 ((Spec prog 16 #[(.agg v_42)] F fun v F => ∃ v_43_5 : Array Value, v = (.agg v_43_5) ∧
 F.row (Addr.add (Addr.mk b1 0 none) (Int.toNat (2 : Int) * 2)) v_48 ∧ F.row (Addr.add (Addr.mk b1 0 none) (Int.toNat (1 : Int) * 2)) v_45 ∧ b5d25 v_45 b1 v_48 v_43_5 b5_14 v_40 R F) ∧
 (∀ b4_13, F b4_13 = none → atF (F.set b4_13 (.cells (#[.slice none 0 0, .int .i64 0]) 28)) fun F =>
 b5d29 v_42 b1 v_48 v_45 b4_13 b5_14 v_40 R F) ∧
 (∀ b6_14, F b6_14 = none → atF (F.set b6_14 (.cells (#[.slice none 0 0, .int .i64 0]) 28)) fun F =>
 b5d33 v_42 b1 v_48 v_45 b5_14 b6_14 v_40 R F))
def b5d34 (v_42 : Array Value) (b1 : Nat) (v_48 : Array Value) (v_45 : Array Value) (b6_15 : Nat) (v_40 : Bool) (R : Value → PH → Prop) (F : PH) : Prop :=
 ((Spec prog 16 #[(.agg v_42)] F fun v F => ∃ v_43_7 : Array Value, v = (.agg v_43_7) ∧
 F.row (Addr.add (Addr.mk b1 0 none) (Int.toNat (2 : Int) * 2)) v_48 ∧ F.row (Addr.add (Addr.mk b1 0 none) (Int.toNat (1 : Int) * 2)) v_45 ∧ b5d27 v_45 b1 v_48 v_43_7 b6_15 v_40 R F) ∧
 (∀ b4_15, F b4_15 = none → atF (F.set b4_15 (.cells (#[.slice none 0 0, .int .i64 0]) 28)) fun F =>
 b5d31 v_42 b1 v_48 v_45 b4_15 b6_15 v_40 R F) ∧
 (∀ b5_15, F b5_15 = none → atF (F.set b5_15 (.cells (#[.slice none 0 0, .int .i64 0]) 28)) fun F =>
 b5d33 v_42 b1 v_48 v_45 b5_15 b6_15 v_40 R F))
def b5 (l_0 : Array Value) (R : Value → PH → Prop) (F : PH) : Prop :=
 ∀ b1, F b1 = none → atF (F.set b1 (.cells l_0 43)) fun F =>
 Spec prog 15 #[] F fun v F => ∃ v_40 : Bool, v = (.bool v_40) ∧
 0 ≤ (0 : Int) ∧ (0 : Int) < (3 : Int) ∧
 ∃ v_42 : Array Value, v_42.size = 2 ∧ F.row (Addr.add (Addr.mk b1 0 none) (Int.toNat (0 : Int) * 2)) v_42 ∧
 0 ≤ (1 : Int) ∧ (1 : Int) < (3 : Int) ∧
 ∃ v_45 : Array Value, v_45.size = 2 ∧ F.row (Addr.add (Addr.mk b1 0 none) (Int.toNat (1 : Int) * 2)) v_45 ∧
 0 ≤ (2 : Int) ∧ (2 : Int) < (3 : Int) ∧
 ∃ v_48 : Array Value, v_48.size = 2 ∧ F.row (Addr.add (Addr.mk b1 0 none) (Int.toNat (2 : Int) * 2)) v_48 ∧
 ((Spec prog 16 #[(.agg v_42)] F fun v F => ∃ v_43 : Array Value, v = (.agg v_43) ∧
 F.row (Addr.add (Addr.mk b1 0 none) (Int.toNat (2 : Int) * 2)) v_48 ∧ F.row (Addr.add (Addr.mk b1 0 none) (Int.toNat (1 : Int) * 2)) v_45 ∧ b5d1 v_45 b1 v_48 v_43 v_40 R F) ∧
 (∀ b4_12, F b4_12 = none → atF (F.set b4_12 (.cells (#[.slice none 0 0, .int .i64 0]) 28)) fun F =>
 b5d28 v_42 b1 v_48 v_45 b4_12 v_40 R F) ∧
 (∀ b5_14, F b5_14 = none → atF (F.set b5_14 (.cells (#[.slice none 0 0, .int .i64 0]) 28)) fun F =>
 b5d32 v_42 b1 v_48 v_45 b5_14 v_40 R F) ∧
 (∀ b6_15, F b6_15 = none → atF (F.set b6_15 (.cells (#[.slice none 0 0, .int .i64 0]) 28)) fun F =>
 b5d34 v_42 b1 v_48 v_45 b6_15 v_40 R F))
theorem c5 {l_0 : Array Value} {R : Value → PH → Prop} {F : PH} (h : b5 l_0 R F) : Spec prog 5 #[(.agg l_0)] F R := by
 refine spec_of (args := [(.agg l_0)]) func5 rfl ntmps5 rfl ?_
 unfold b5 at h
 refine cR ?_
 refine s_ef (k_box (cs := l_0) rfl rfl ?_)
 intro b1 hf_b1
 replace h := atE (h b1 hf_b1)
 refine sR (.bool false) (r_assign rfl rfl) ?_
 refine HL_nil ?_
 refine cR ?_
 refine s_ef (k_call (vs := []) cb15 evN (h.mono ?_))
 clear h; rintro v F ⟨v_40, rfl, h⟩
 refine sR (.bool v_40) (r_assign rfl rfl) ?_
 refine HL_nil ?_
 refine HC_seq ?_
 refine HC_draw0 (by kernel_rfl) (fun hp => ?_)
 refine RG_share (A := (Nat) × (Nat) × (Nat)) (fun a E F => match a with | (b4, b5, b6) => E 3 = (.bool v_40) ∧ E 4 = (.pointer (some (Addr.mk b4 0 none))) ∧ E 5 = (.pointer (some (Addr.mk b5 0 none))) ∧ E 6 = (.pointer (some (Addr.mk b6 0 none))) ∧ b5d9 b4 b5 b6 v_40 R F ∧ holdF [] F) 0 #[true, true, true, true, true, true, true, true, true, true, true, true, true, true, true] (fun a => match a with | (b4, b5, b6) => []) ?_ (fun hD9 => ?_)
 ·
  clear h hp; rintro ⟨b4, b5, b6⟩ E F ⟨h3, h4, h5, h6, h, hp⟩
  unfold b5d9 at h
  refine RG_done (by kernel_rfl) ?_
  refine cR ?_
  obtain ⟨v_51, hs51, hc51, h⟩ := h
  refine sR (.agg v_51) (w_loadN h4 underlying28 rfl sz28 hs51 hc51) ?_
  obtain ⟨v_52, hs52, hc52, h⟩ := h
  refine sR (.agg v_52) (w_loadN h5 underlying28 rfl sz28 hs52 hc52) ?_
  refine s_ef (k_call (vs := [(.agg v_51), (.agg v_52)]) cb19 (evC rfl (evC rfl evN)) (h.mono ?_))
  clear h; rintro v F ⟨v_53, v_53_1, rfl, h⟩
  refine sR (.tuple #[(.agg v_53), (.int .i64 v_53_1)]) (r_move rfl rfl) ?_
  refine sR (.agg v_53) (r_extract rfl rfl rfl) ?_
  refine sR (.int .i64 v_53_1) (r_extract rfl rfl rfl) ?_
  refine s_ef (k_alloc zr28 ?_)
  intro b7 hf_b7
  replace h := atE (h b7 hf_b7)
  refine s_ef0 (k_storeN (vs := v_53) rfl rfl sz28 (by decide) ?_)
  obtain ⟨hz1, hz2, c, e, hz3, hz4, hz5, h⟩ := h
  refine ⟨hz1, hz2, c, e, hz3, hz4, hz5, ?_⟩
  replace h := atE h
  refine sR (.int .i64 v_53_1) (r_assign rfl rfl) ?_
  refine HL_nil ?_
  refine cR ?_
  obtain ⟨v_57, hs57, hc57, h⟩ := h
  refine sR (.agg v_57) (w_loadN h5 underlying28 rfl sz28 hs57 hc57) ?_
  obtain ⟨v_58, hs58, hc58, h⟩ := h
  refine sR (.agg v_58) (w_loadN h4 underlying28 rfl sz28 hs58 hc58) ?_
  refine s_ef (k_call (vs := [(.agg v_57), (.agg v_58)]) cb19 (evC rfl (evC rfl evN)) (h.mono ?_))
  clear h; rintro v F ⟨v_59, v_59_1, rfl, h⟩
  refine sR (.tuple #[(.agg v_59), (.int .i64 v_59_1)]) (r_move rfl rfl) ?_
  refine sR (.agg v_59) (r_extract rfl rfl rfl) ?_
  refine sR (.int .i64 v_59_1) (r_extract rfl rfl rfl) ?_
  refine s_ef (k_alloc zr28 ?_)
  intro b9 hf_b9
  replace h := atE (h b9 hf_b9)
  refine s_ef0 (k_storeN (vs := v_59) rfl rfl sz28 (by decide) ?_)
  obtain ⟨hz1, hz2, c, e, hz3, hz4, hz5, h⟩ := h
  refine ⟨hz1, hz2, c, e, hz3, hz4, hz5, ?_⟩
  replace h := atE h
  refine sR (.int .i64 v_59_1) (r_assign rfl rfl) ?_
  refine HL_nil ?_
  refine cR ?_
  obtain ⟨v_63, hs63, hc63, h⟩ := h
  refine sR (.agg v_63) (w_loadN h4 underlying28 rfl sz28 hs63 hc63) ?_
  obtain ⟨v_64, hs64, hc64, h⟩ := h
  refine sR (.agg v_64) (w_loadN h5 underlying28 rfl sz28 hs64 hc64) ?_
  refine s_ef (k_call (vs := [(.agg v_63), (.agg v_64)]) cb22 (evC rfl (evC rfl evN)) (h.mono ?_))
  clear h; rintro v F ⟨v_65, v_65_1, rfl, h⟩
  refine sR (.tuple #[(.agg v_65), (.int .i64 v_65_1)]) (r_move rfl rfl) ?_
  refine sR (.agg v_65) (r_extract rfl rfl rfl) ?_
  refine sR (.int .i64 v_65_1) (r_extract rfl rfl rfl) ?_
  refine s_ef (k_alloc zr28 ?_)
  intro b11 hf_b11
  replace h := atE (h b11 hf_b11)
  refine s_ef0 (k_storeN (vs := v_65) rfl rfl sz28 (by decide) ?_)
  obtain ⟨hz1, hz2, c, e, hz3, hz4, hz5, h⟩ := h
  refine ⟨hz1, hz2, c, e, hz3, hz4, hz5, ?_⟩
  replace h := atE h
  refine sR (.int .i64 v_65_1) (r_assign rfl rfl) ?_
  refine HL_nil ?_
  refine cR ?_
  obtain ⟨v_69, hs69, hc69, h⟩ := h
  refine sR (.agg v_69) (w_loadN h4 underlying28 rfl sz28 hs69 hc69) ?_
  obtain ⟨v_70, hs70, hc70, h⟩ := h
  refine sR (.agg v_70) (w_loadN h6 underlying28 rfl sz28 hs70 hc70) ?_
  refine s_ef (k_call (vs := [(.agg v_69), (.agg v_70)]) cb19 (evC rfl (evC rfl evN)) (h.mono ?_))
  clear h; rintro v F ⟨v_71, v_71_1, rfl, h⟩
  refine sR (.tuple #[(.agg v_71), (.int .i64 v_71_1)]) (r_move rfl rfl) ?_
  refine sR (.agg v_71) (r_extract rfl rfl rfl) ?_
  refine sR (.int .i64 v_71_1) (r_extract rfl rfl rfl) ?_
  refine s_ef (k_alloc zr28 ?_)
  intro b13 hf_b13
  replace h := atE (h b13 hf_b13)
  refine s_ef0 (k_storeN (vs := v_71) rfl rfl sz28 (by decide) ?_)
  obtain ⟨hz1, hz2, c, e, hz3, hz4, hz5, h⟩ := h
  refine ⟨hz1, hz2, c, e, hz3, hz4, hz5, ?_⟩
  replace h := atE h
  refine sR (.int .i64 v_71_1) (r_assign rfl rfl) ?_
  refine HL_nil ?_
  refine cR ?_
  obtain ⟨v_75, hs75, hc75, h⟩ := h
  refine sR (.agg v_75) (w_loadN h5 underlying28 rfl sz28 hs75 hc75) ?_
  obtain ⟨v_76, hs76, hc76, h⟩ := h
  refine sR (.agg v_76) (w_loadN h6 underlying28 rfl sz28 hs76 hc76) ?_
  refine s_ef (k_call (vs := [(.agg v_75), (.agg v_76)]) cb22 (evC rfl (evC rfl evN)) (h.mono ?_))
  clear h; rintro v F ⟨v_77, v_77_1, rfl, h⟩
  refine sR (.tuple #[(.agg v_77), (.int .i64 v_77_1)]) (r_move rfl rfl) ?_
  refine sR (.agg v_77) (r_extract rfl rfl rfl) ?_
  refine sR (.int .i64 v_77_1) (r_extract rfl rfl rfl) ?_
  refine s_ef (k_alloc zr28 ?_)
  intro b15 hf_b15
  replace h := atE (h b15 hf_b15)
  refine s_ef0 (k_storeN (vs := v_77) rfl rfl sz28 (by decide) ?_)
  obtain ⟨hz1, hz2, c, e, hz3, hz4, hz5, h⟩ := h
  refine ⟨hz1, hz2, c, e, hz3, hz4, hz5, ?_⟩
  replace h := atE h
  refine sR (.int .i64 v_77_1) (r_assign rfl rfl) ?_
  refine HL_nil ?_
  refine cR ?_
  obtain ⟨v_81, hs81, hc81, h⟩ := h
  refine sR (.agg v_81) (w_loadN h4 underlying28 rfl sz28 hs81 hc81) ?_
  obtain ⟨v_82, hs82, hc82, h⟩ := h
  refine sR (.agg v_82) (w_loadN rfl underlying28 rfl sz28 hs82 hc82) ?_
  refine s_ef (k_call (vs := [(.agg v_81), (.agg v_82)]) cb19 (evC rfl (evC rfl evN)) (h.mono ?_))
  clear h; rintro v F ⟨v_83, v_83_1, rfl, h⟩
  refine sR (.tuple #[(.agg v_83), (.int .i64 v_83_1)]) (r_move rfl rfl) ?_
  refine sR (.agg v_83) (r_extract rfl rfl rfl) ?_
  refine sR (.int .i64 v_83_1) (r_extract rfl rfl rfl) ?_
  refine s_ef (k_alloc zr28 ?_)
  intro b17 hf_b17
  replace h := atE (h b17 hf_b17)
  refine s_ef0 (k_storeN (vs := v_83) rfl rfl sz28 (by decide) ?_)
  obtain ⟨hz1, hz2, c, e, hz3, hz4, hz5, h⟩ := h
  refine ⟨hz1, hz2, c, e, hz3, hz4, hz5, ?_⟩
  replace h := atE h
  refine sR (.int .i64 v_83_1) (r_assign rfl rfl) ?_
  refine HL_nil ?_
  refine cR ?_
  obtain ⟨v_87, hs87, hc87, h⟩ := h
  refine sR (.agg v_87) (w_loadN rfl underlying28 rfl sz28 hs87 hc87) ?_
  obtain ⟨v_88, hs88, hc88, h⟩ := h
  refine sR (.agg v_88) (w_loadN rfl underlying28 rfl sz28 hs88 hc88) ?_
  refine s_ef (k_call (vs := [(.agg v_87), (.agg v_88)]) cb22 (evC rfl (evC rfl evN)) (h.mono ?_))
  clear h; rintro v F ⟨v_89, v_89_1, rfl, h⟩
  refine sR (.tuple #[(.agg v_89), (.int .i64 v_89_1)]) (r_move rfl rfl) ?_
  refine sR (.agg v_89) (r_extract rfl rfl rfl) ?_
  refine sR (.int .i64 v_89_1) (r_extract rfl rfl rfl) ?_
  refine s_ef (k_alloc zr28 ?_)
  intro b19 hf_b19
  replace h := atE (h b19 hf_b19)
  refine s_ef0 (k_storeN (vs := v_89) rfl rfl sz28 (by decide) ?_)
  obtain ⟨hz1, hz2, c, e, hz3, hz4, hz5, h⟩ := h
  refine ⟨hz1, hz2, c, e, hz3, hz4, hz5, ?_⟩
  replace h := atE h
  refine sR (.int .i64 v_89_1) (r_assign rfl rfl) ?_
  refine HL_nil ?_
  refine cR ?_
  obtain ⟨v_93, hs93, hc93, h⟩ := h
  refine sR (.agg v_93) (w_loadN h4 underlying28 rfl sz28 hs93 hc93) ?_
  obtain ⟨v_94, hs94, hc94, h⟩ := h
  refine sR (.agg v_94) (w_loadN rfl underlying28 rfl sz28 hs94 hc94) ?_
  refine s_ef (k_call (vs := [(.agg v_93), (.agg v_94)]) cb22 (evC rfl (evC rfl evN)) (h.mono ?_))
  clear h; rintro v F ⟨v_95, v_95_1, rfl, h⟩
  refine sR (.tuple #[(.agg v_95), (.int .i64 v_95_1)]) (r_move rfl rfl) ?_
  refine sR (.agg v_95) (r_extract rfl rfl rfl) ?_
  refine sR (.int .i64 v_95_1) (r_extract rfl rfl rfl) ?_
  refine s_ef (k_alloc zr28 ?_)
  intro b21 hf_b21
  replace h := atE (h b21 hf_b21)
  refine s_ef0 (k_storeN (vs := v_95) rfl rfl sz28 (by decide) ?_)
  obtain ⟨hz1, hz2, c, e, hz3, hz4, hz5, h⟩ := h
  refine ⟨hz1, hz2, c, e, hz3, hz4, hz5, ?_⟩
  replace h := atE h
  refine sR (.int .i64 v_95_1) (r_assign rfl rfl) ?_
  refine HL_nil ?_
  refine cR ?_
  obtain ⟨v_99, hs99, hc99, h⟩ := h
  refine sR (.agg v_99) (w_loadN h4 underlying28 rfl sz28 hs99 hc99) ?_
  refine s_ef (k_call (vs := [(.agg v_99)]) cb25 (evC rfl evN) (h.mono ?_))
  clear h; rintro v F ⟨v_100, v_100_1, rfl, h⟩
  refine sR (.tuple #[(.agg v_100), (.int .i64 v_100_1)]) (r_move rfl rfl) ?_
  refine sR (.agg v_100) (r_extract rfl rfl rfl) ?_
  refine sR (.int .i64 v_100_1) (r_extract rfl rfl rfl) ?_
  refine s_ef (k_alloc zr28 ?_)
  intro b23 hf_b23
  replace h := atE (h b23 hf_b23)
  refine s_ef0 (k_storeN (vs := v_100) rfl rfl sz28 (by decide) ?_)
  obtain ⟨hz1, hz2, c, e, hz3, hz4, hz5, h⟩ := h
  refine ⟨hz1, hz2, c, e, hz3, hz4, hz5, ?_⟩
  replace h := atE h
  refine sR (.int .i64 v_100_1) (r_assign rfl rfl) ?_
  refine HL_nil ?_
  refine cR ?_
  obtain ⟨v_104, hs104, hc104, h⟩ := h
  refine sR (.agg v_104) (w_loadN h5 underlying28 rfl sz28 hs104 hc104) ?_
  refine s_ef (k_call (vs := [(.agg v_104)]) cb25 (evC rfl evN) (h.mono ?_))
  clear h; rintro v F ⟨v_105, v_105_1, rfl, h⟩
  refine sR (.tuple #[(.agg v_105), (.int .i64 v_105_1)]) (r_move rfl rfl) ?_
  refine sR (.agg v_105) (r_extract rfl rfl rfl) ?_
  refine sR (.int .i64 v_105_1) (r_extract rfl rfl rfl) ?_
  refine s_ef (k_alloc zr28 ?_)
  intro b25 hf_b25
  replace h := atE (h b25 hf_b25)
  refine s_ef0 (k_storeN (vs := v_105) rfl rfl sz28 (by decide) ?_)
  obtain ⟨hz1, hz2, c, e, hz3, hz4, hz5, h⟩ := h
  refine ⟨hz1, hz2, c, e, hz3, hz4, hz5, ?_⟩
  replace h := atE h
  refine sR (.int .i64 v_105_1) (r_assign rfl rfl) ?_
  refine HL_nil ?_
  refine cR ?_
  obtain ⟨v_109, hs109, hc109, h⟩ := h
  refine sR (.agg v_109) (w_loadN rfl underlying28 rfl sz28 hs109 hc109) ?_
  refine s_ef (k_call (vs := [(.agg v_109)]) cb25 (evC rfl evN) (h.mono ?_))
  clear h; rintro v F ⟨v_110, v_110_1, rfl, h⟩
  refine sR (.tuple #[(.agg v_110), (.int .i64 v_110_1)]) (r_move rfl rfl) ?_
  refine sR (.agg v_110) (r_extract rfl rfl rfl) ?_
  refine sR (.int .i64 v_110_1) (r_extract rfl rfl rfl) ?_
  refine s_ef (k_alloc zr28 ?_)
  intro b27 hf_b27
  replace h := atE (h b27 hf_b27)
  refine s_ef0 (k_storeN (vs := v_110) rfl rfl sz28 (by decide) ?_)
  obtain ⟨hz1, hz2, c, e, hz3, hz4, hz5, h⟩ := h
  refine ⟨hz1, hz2, c, e, hz3, hz4, hz5, ?_⟩
  replace h := atE h
  refine sR (.int .i64 v_110_1) (r_assign rfl rfl) ?_
  refine HL_nil ?_
  refine cR ?_
  obtain ⟨v_114, hs114, hc114, h⟩ := h
  refine sR (.agg v_114) (w_loadN rfl underlying28 rfl sz28 hs114 hc114) ?_
  obtain ⟨v_115, hs115, hc115, h⟩ := h
  refine sR (.agg v_115) (w_loadN rfl underlying28 rfl sz28 hs115 hc115) ?_
  refine s_ef (k_call (vs := [(.agg v_114), (.agg v_115)]) cb19 (evC rfl (evC rfl evN)) (h.mono ?_))
  clear h; rintro v F ⟨v_116, v_116_1, rfl, h⟩
  refine sR (.tuple #[(.agg v_116), (.int .i64 v_116_1)]) (r_move rfl rfl) ?_
  refine sR (.agg v_116) (r_extract rfl rfl rfl) ?_
  refine sR (.int .i64 v_116_1) (r_extract rfl rfl rfl) ?_
  refine s_ef (k_alloc zr28 ?_)
  intro b29 hf_b29
  replace h := atE (h b29 hf_b29)
  refine s_ef0 (k_storeN (vs := v_116) rfl rfl sz28 (by decide) ?_)
  obtain ⟨hz1, hz2, c, e, hz3, hz4, hz5, h⟩ := h
  refine ⟨hz1, hz2, c, e, hz3, hz4, hz5, ?_⟩
  replace h := atE h
  refine sR (.int .i64 v_116_1) (r_assign rfl rfl) ?_
  refine HL_nil ?_
  refine cR ?_
  obtain ⟨v_120, hs120, hc120, h⟩ := h
  refine sR (.agg v_120) (w_loadN rfl underlying28 rfl sz28 hs120 hc120) ?_
  refine s_ef (k_call (vs := [(.agg v_120)]) cb25 (evC rfl evN) (h.mono ?_))
  clear h; rintro v F ⟨v_121, v_121_1, rfl, h⟩
  refine sR (.tuple #[(.agg v_121), (.int .i64 v_121_1)]) (r_move rfl rfl) ?_
  refine sR (.agg v_121) (r_extract rfl rfl rfl) ?_
  refine sR (.int .i64 v_121_1) (r_extract rfl rfl rfl) ?_
  refine s_ef (k_alloc zr28 ?_)
  intro b31 hf_b31
  replace h := atE (h b31 hf_b31)
  refine s_ef0 (k_storeN (vs := v_121) rfl rfl sz28 (by decide) ?_)
  obtain ⟨hz1, hz2, c, e, hz3, hz4, hz5, h⟩ := h
  refine ⟨hz1, hz2, c, e, hz3, hz4, hz5, ?_⟩
  replace h := atE h
  refine sR (.int .i64 v_121_1) (r_assign rfl rfl) ?_
  refine HL_nil ?_
  refine cR ?_
  obtain ⟨v_125, hs125, hc125, h⟩ := h
  refine sR (.agg v_125) (w_loadN h4 underlying28 rfl sz28 hs125 hc125) ?_
  obtain ⟨v_126, hs126, hc126, h⟩ := h
  refine sR (.agg v_126) (w_loadN rfl underlying28 rfl sz28 hs126 hc126) ?_
  refine s_ef (k_call (vs := [(.agg v_125), (.agg v_126)]) cb19 (evC rfl (evC rfl evN)) (h.mono ?_))
  clear h; rintro v F ⟨v_127, v_127_1, rfl, h⟩
  refine sR (.tuple #[(.agg v_127), (.int .i64 v_127_1)]) (r_move rfl rfl) ?_
  refine sR (.agg v_127) (r_extract rfl rfl rfl) ?_
  refine sR (.int .i64 v_127_1) (r_extract rfl rfl rfl) ?_
  refine s_ef (k_alloc zr28 ?_)
  intro b33 hf_b33
  replace h := atE (h b33 hf_b33)
  refine s_ef0 (k_storeN (vs := v_127) rfl rfl sz28 (by decide) ?_)
  obtain ⟨hz1, hz2, c, e, hz3, hz4, hz5, h⟩ := h
  refine ⟨hz1, hz2, c, e, hz3, hz4, hz5, ?_⟩
  replace h := atE h
  refine sR (.int .i64 v_127_1) (r_assign rfl rfl) ?_
  refine HL_nil ?_
  refine cR ?_
  obtain ⟨v_131, hs131, hc131, h⟩ := h
  refine sR (.agg v_131) (w_loadN h4 underlying28 rfl sz28 hs131 hc131) ?_
  obtain ⟨v_132, hs132, hc132, h⟩ := h
  refine sR (.agg v_132) (w_loadN rfl underlying28 rfl sz28 hs132 hc132) ?_
  refine s_ef (k_call (vs := [(.agg v_131), (.agg v_132)]) cb22 (evC rfl (evC rfl evN)) (h.mono ?_))
  clear h; rintro v F ⟨v_133, v_133_1, rfl, h⟩
  refine sR (.tuple #[(.agg v_133), (.int .i64 v_133_1)]) (r_move rfl rfl) ?_
  refine sR (.agg v_133) (r_extract rfl rfl rfl) ?_
  refine sR (.int .i64 v_133_1) (r_extract rfl rfl rfl) ?_
  refine s_ef (k_alloc zr28 ?_)
  intro b35 hf_b35
  replace h := atE (h b35 hf_b35)
  refine s_ef0 (k_storeN (vs := v_133) rfl rfl sz28 (by decide) ?_)
  obtain ⟨hz1, hz2, c, e, hz3, hz4, hz5, h⟩ := h
  refine ⟨hz1, hz2, c, e, hz3, hz4, hz5, ?_⟩
  replace h := atE h
  refine sR (.int .i64 v_133_1) (r_assign rfl rfl) ?_
  refine HL_nil ?_
  refine cR ?_
  obtain ⟨v_137, hs137, hc137, h⟩ := h
  refine sR (.agg v_137) (w_loadN h4 underlying28 rfl sz28 hs137 hc137) ?_
  obtain ⟨v_138, hs138, hc138, h⟩ := h
  refine sR (.agg v_138) (w_loadN rfl underlying28 rfl sz28 hs138 hc138) ?_
  refine s_ef (k_call (vs := [(.agg v_137), (.agg v_138)]) cb26 (evC rfl (evC rfl evN)) (h.mono ?_))
  clear h; rintro v F ⟨v_139, v_139_1, rfl, h⟩
  refine sR (.tuple #[(.agg v_139), (.int .i64 v_139_1)]) (r_move rfl rfl) ?_
  refine sR (.agg v_139) (r_extract rfl rfl rfl) ?_
  refine sR (.int .i64 v_139_1) (r_extract rfl rfl rfl) ?_
  refine s_ef (k_alloc zr28 ?_)
  intro b37 hf_b37
  replace h := atE (h b37 hf_b37)
  refine s_ef0 (k_storeN (vs := v_139) rfl rfl sz28 (by decide) ?_)
  obtain ⟨hz1, hz2, c, e, hz3, hz4, hz5, h⟩ := h
  refine ⟨hz1, hz2, c, e, hz3, hz4, hz5, ?_⟩
  replace h := atE h
  refine sR (.int .i64 v_139_1) (r_assign rfl rfl) ?_
  refine HL_nil ?_
  refine HC_seqJ (b5J1 v_40 b23 b33 b35 b37 R) ?_ ?_
  ·
   clear h; rintro E F ⟨laws_39, h3, h23, h33, h35, h37, h39, h⟩
   unfold b5j1 at h
   refine HC_seq ?_
   refine HC_draw0 (by kernel_rfl) (fun hp => ?_)
   refine gU 0 (.bool laws_39) rfl (fun _ => r_move rfl h39) hp ?_
   refine gU 1 (.bool laws_39) rfl (fun _ => r_move rfl rfl) hp ?_
   by_cases hc : laws_39 = true
   ·
    replace h := h.1 hc
    refine RG_known (t := 39) (v := .bool true) (h39.trans (congrArg Value.bool hc)) ?_
    refine RG_known (t := 165) (v := .bool true) (congrArg Value.bool hc) ?_
    refine RG_known (t := 166) (v := .bool true) (congrArg Value.bool hc) ?_
    obtain ⟨v_167, hs167, hc167, h⟩ := h
    refine gR 2 (.agg v_167) rfl (w_loadN h33 underlying28 rfl sz28 hs167 hc167) hp (fun S2 q2 => ?_)
    replace hp := holdC (i := 2) (q2 _ (w_loadN h33 underlying28 rfl sz28 hs167 hc167)) hp
    refine RG_eff1 (i := 3) (by kernel_rfl) (g_op (Sp' := [(2, S2)]) rfl rfl (k_call (vs := [(.bool false)]) cb17 (evC rfl evN) (h.mono ?_)))
    clear h; rintro v F ⟨v_168, rfl, h⟩
    obtain ⟨hk_78, h⟩ := h
    refine holdI (holdC (i := 2) (q2 _ (w_loadN h33 underlying28 rfl sz28 hs167 hk_78)) hold0) (fun hp => ?_)
    refine RG_eff1 (i := 4) (by kernel_rfl) (g_op (Sp' := []) rfl rfl (k_call (vs := [(.agg v_167), (.agg v_168)]) cb24 (evC rfl (evC rfl evN)) (h.mono ?_)))
    clear h; rintro v F ⟨v_169, rfl, h⟩
    refine holdI hold0 (fun hp => ?_)
    refine gU 5 (.bool v_169) rfl (fun _ => r_pick rfl rfl (fun _ => rfl) (fun h => by cases h)) hp ?_
    refine gU 6 (.bool v_169) rfl (fun _ => r_move rfl rfl) hp ?_
    by_cases hc : v_169 = true
    ·
     replace h := h.1 hc
     refine RG_known (t := 169) (v := .bool true) (congrArg Value.bool hc) ?_
     refine RG_known (t := 170) (v := .bool true) (congrArg Value.bool hc) ?_
     refine RG_known (t := 171) (v := .bool true) (congrArg Value.bool hc) ?_
     obtain ⟨v_172, hs172, hc172, h⟩ := h
     refine gR 7 (.agg v_172) rfl (w_loadN h35 underlying28 rfl sz28 hs172 hc172) hp (fun S7 q7 => ?_)
     replace hp := holdC (i := 7) (q7 _ (w_loadN h35 underlying28 rfl sz28 hs172 hc172)) hp
     refine RG_eff1 (i := 8) (by kernel_rfl) (g_op (Sp' := [(7, S7)]) rfl rfl (k_call (vs := [(.bool true)]) cb17 (evC rfl evN) (h.mono ?_)))
     clear h; rintro v F ⟨v_173, rfl, h⟩
     obtain ⟨hk_79, h⟩ := h
     refine holdI (holdC (i := 7) (q7 _ (w_loadN h35 underlying28 rfl sz28 hs172 hk_79)) hold0) (fun hp => ?_)
     refine RG_eff1 (i := 9) (by kernel_rfl) (g_op (Sp' := []) rfl rfl (k_call (vs := [(.agg v_172), (.agg v_173)]) cb24 (evC rfl (evC rfl evN)) (h.mono ?_)))
     clear h; rintro v F ⟨v_174, rfl, h⟩
     refine holdI hold0 (fun hp => ?_)
     refine gU 10 (.bool v_174) rfl (fun _ => r_pick rfl rfl (fun _ => rfl) (fun h => by cases h)) hp ?_
     refine gU 11 (.bool v_174) rfl (fun _ => r_move rfl rfl) hp ?_
     by_cases hc : v_174 = true
     ·
      replace h := h.1 hc
      refine RG_known (t := 174) (v := .bool true) (congrArg Value.bool hc) ?_
      refine RG_known (t := 175) (v := .bool true) (congrArg Value.bool hc) ?_
      refine RG_known (t := 176) (v := .bool true) (congrArg Value.bool hc) ?_
      obtain ⟨v_177, hs177, hc177, h⟩ := h
      refine gR 12 (.agg v_177) rfl (w_loadN h37 underlying28 rfl sz28 hs177 hc177) hp (fun S12 q12 => ?_)
      replace hp := holdC (i := 12) (q12 _ (w_loadN h37 underlying28 rfl sz28 hs177 hc177)) hp
      obtain ⟨v_178, hs178, hc178, h⟩ := h
      refine gR 13 (.agg v_178) rfl (w_loadN h23 underlying28 rfl sz28 hs178 hc178) hp (fun S13 q13 => ?_)
      replace hp := holdC (i := 13) (q13 _ (w_loadN h23 underlying28 rfl sz28 hs178 hc178)) hp
      refine RG_eff1 (i := 14) (by kernel_rfl) (g_op (Sp' := []) rfl rfl (k_call (vs := [(.agg v_177), (.agg v_178)]) cb24 (evC rfl (evC rfl evN)) (h.mono ?_)))
      clear h; rintro v F ⟨v_179, rfl, h⟩
      refine holdI hold0 (fun hp => ?_)
      refine gU 15 (.bool v_179) rfl (fun _ => r_pick rfl rfl (fun _ => rfl) (fun h => by cases h)) hp ?_
      refine gU 16 (.bool v_179) rfl (fun _ => r_move rfl rfl) hp ?_
      by_cases hc : v_179 = true
      ·
       replace h := h.1 hc
       refine RG_known (t := 179) (v := .bool true) (congrArg Value.bool hc) ?_
       refine RG_known (t := 180) (v := .bool true) (congrArg Value.bool hc) ?_
       refine RG_known (t := 181) (v := .bool true) (congrArg Value.bool hc) ?_
       refine gU 17 (.bool v_40) rfl (fun _ => r_move rfl h3) hp ?_
       refine gU 18 (.bool v_40) rfl (fun _ => r_pick rfl rfl (fun _ => rfl) (fun h => by cases h)) hp ?_
       refine gU 19 (.bool v_40) rfl (fun _ => r_assign rfl rfl) hp ?_
       refine RG_done (by kernel_rfl) ?_
       exact HC_ret (show endQ prog f5 R .ret _ _ from ⟨_, res1 rfl (rv_tmp rfl), h⟩)
      ·
       replace hc := eq_false_of_ne_true hc; replace h := h.2 hc
       refine RG_known (t := 179) (v := .bool false) (congrArg Value.bool hc) ?_
       refine RG_known (t := 180) (v := .bool false) (congrArg Value.bool hc) ?_
       refine RG_known (t := 181) (v := .bool false) (congrArg Value.bool hc) ?_
       refine gS 17 rfl hp ?_
       refine gU 18 (.bool false) rfl (fun _ => r_pick rfl rfl (fun h => by cases h) (fun _ => rfl)) hp ?_
       refine gU 19 (.bool false) rfl (fun _ => r_assign rfl rfl) hp ?_
       refine RG_done (by kernel_rfl) ?_
       exact HC_ret (show endQ prog f5 R .ret _ _ from ⟨_, res1 rfl (rv_tmp rfl), h⟩)
     ·
      replace hc := eq_false_of_ne_true hc; replace h := h.2 hc
      refine RG_known (t := 174) (v := .bool false) (congrArg Value.bool hc) ?_
      refine RG_known (t := 175) (v := .bool false) (congrArg Value.bool hc) ?_
      refine RG_known (t := 176) (v := .bool false) (congrArg Value.bool hc) ?_
      refine gS 12 rfl hp ?_
      refine gS 13 rfl hp ?_
      refine gS 14 rfl hp ?_
      refine gU 15 (.bool false) rfl (fun _ => r_pick rfl rfl (fun h => by cases h) (fun _ => rfl)) hp ?_
      refine gU 16 (.bool false) rfl (fun _ => r_move rfl rfl) hp ?_
      refine gS 17 rfl hp ?_
      refine gU 18 (.bool false) rfl (fun _ => r_pick rfl rfl (fun h => by cases h) (fun _ => rfl)) hp ?_
      refine gU 19 (.bool false) rfl (fun _ => r_assign rfl rfl) hp ?_
      refine RG_done (by kernel_rfl) ?_
      exact HC_ret (show endQ prog f5 R .ret _ _ from ⟨_, res1 rfl (rv_tmp rfl), h⟩)
    ·
     replace hc := eq_false_of_ne_true hc; replace h := h.2 hc
     refine RG_known (t := 169) (v := .bool false) (congrArg Value.bool hc) ?_
     refine RG_known (t := 170) (v := .bool false) (congrArg Value.bool hc) ?_
     refine RG_known (t := 171) (v := .bool false) (congrArg Value.bool hc) ?_
     refine gS 7 rfl hp ?_
     refine gS 8 rfl hp ?_
     refine gS 9 rfl hp ?_
     refine gU 10 (.bool false) rfl (fun _ => r_pick rfl rfl (fun h => by cases h) (fun _ => rfl)) hp ?_
     refine gU 11 (.bool false) rfl (fun _ => r_move rfl rfl) hp ?_
     refine gS 12 rfl hp ?_
     refine gS 13 rfl hp ?_
     refine gS 14 rfl hp ?_
     refine gU 15 (.bool false) rfl (fun _ => r_pick rfl rfl (fun h => by cases h) (fun _ => rfl)) hp ?_
     refine gU 16 (.bool false) rfl (fun _ => r_move rfl rfl) hp ?_
     refine gS 17 rfl hp ?_
     refine gU 18 (.bool false) rfl (fun _ => r_pick rfl rfl (fun h => by cases h) (fun _ => rfl)) hp ?_
     refine gU 19 (.bool false) rfl (fun _ => r_assign rfl rfl) hp ?_
     refine RG_done (by kernel_rfl) ?_
     exact HC_ret (show endQ prog f5 R .ret _ _ from ⟨_, res1 rfl (rv_tmp rfl), h⟩)
   ·
    replace hc := eq_false_of_ne_true hc; replace h := h.2 hc
    refine RG_known (t := 39) (v := .bool false) (h39.trans (congrArg Value.bool hc)) ?_
    refine RG_known (t := 165) (v := .bool false) (congrArg Value.bool hc) ?_
    refine RG_known (t := 166) (v := .bool false) (congrArg Value.bool hc) ?_
    refine gS 2 rfl hp ?_
    refine gS 3 rfl hp ?_
    refine gS 4 rfl hp ?_
    refine gU 5 (.bool false) rfl (fun _ => r_pick rfl rfl (fun h => by cases h) (fun _ => rfl)) hp ?_
    refine gU 6 (.bool false) rfl (fun _ => r_move rfl rfl) hp ?_
    refine gS 7 rfl hp ?_
    refine gS 8 rfl hp ?_
    refine gS 9 rfl hp ?_
    refine gU 10 (.bool false) rfl (fun _ => r_pick rfl rfl (fun h => by cases h) (fun _ => rfl)) hp ?_
    refine gU 11 (.bool false) rfl (fun _ => r_move rfl rfl) hp ?_
    refine gS 12 rfl hp ?_
    refine gS 13 rfl hp ?_
    refine gS 14 rfl hp ?_
    refine gU 15 (.bool false) rfl (fun _ => r_pick rfl rfl (fun h => by cases h) (fun _ => rfl)) hp ?_
    refine gU 16 (.bool false) rfl (fun _ => r_move rfl rfl) hp ?_
    refine gS 17 rfl hp ?_
    refine gU 18 (.bool false) rfl (fun _ => r_pick rfl rfl (fun h => by cases h) (fun _ => rfl)) hp ?_
    refine gU 19 (.bool false) rfl (fun _ => r_assign rfl rfl) hp ?_
    refine RG_done (by kernel_rfl) ?_
    exact HC_ret (show endQ prog f5 R .ret _ _ from ⟨_, res1 rfl (rv_tmp rfl), h⟩)
  ·
   skip
   refine HC_region ?_
   obtain ⟨v_142, hs142, hc142, h⟩ := h
   refine sR (.agg v_142) (w_loadN rfl underlying28 rfl sz28 hs142 hc142) ?_
   obtain ⟨v_143, hs143, hc143, h⟩ := h
   refine sR (.agg v_143) (w_loadN rfl underlying28 rfl sz28 hs143 hc143) ?_
   refine s_ef (k_call (vs := [(.agg v_142), (.agg v_143)]) cb24 (evC rfl (evC rfl evN)) (h.mono ?_))
   clear h; rintro v F ⟨v_144, rfl, h⟩
   refine sR (.bool v_144) (r_move rfl rfl) ?_
   by_cases hc : v_144 = true
   ·
    replace h := h.1 hc
    refine kN 144 hc ?_
    refine kN 145 hc ?_
    obtain ⟨v_146, hs146, hc146, h⟩ := h
    refine sR (.agg v_146) (w_loadN rfl underlying28 rfl sz28 hs146 hc146) ?_
    obtain ⟨v_147, hs147, hc147, h⟩ := h
    refine sR (.agg v_147) (w_loadN rfl underlying28 rfl sz28 hs147 hc147) ?_
    refine s_ef (k_call (vs := [(.agg v_146), (.agg v_147)]) cb24 (evC rfl (evC rfl evN)) (h.mono ?_))
    clear h; rintro v F ⟨v_148, rfl, h⟩
    refine sR (.bool v_148) (r_pick rfl rfl (fun _ => rfl) (fun h => by cases h)) ?_
    refine sR (.bool v_148) (r_move rfl rfl) ?_
    by_cases hc : v_148 = true
    ·
     replace h := h.1 hc
     refine kN 148 hc ?_
     refine kN 149 hc ?_
     refine kN 150 hc ?_
     obtain ⟨v_151, hs151, hc151, h⟩ := h
     refine sR (.agg v_151) (w_loadN rfl underlying28 rfl sz28 hs151 hc151) ?_
     obtain ⟨v_152, hs152, hc152, h⟩ := h
     refine sR (.agg v_152) (w_loadN h4 underlying28 rfl sz28 hs152 hc152) ?_
     refine s_ef (k_call (vs := [(.agg v_151), (.agg v_152)]) cb24 (evC rfl (evC rfl evN)) (h.mono ?_))
     clear h; rintro v F ⟨v_153, rfl, h⟩
     refine sR (.bool v_153) (r_pick rfl rfl (fun _ => rfl) (fun h => by cases h)) ?_
     refine sR (.bool v_153) (r_move rfl rfl) ?_
     by_cases hc : v_153 = true
     ·
      replace h := h.1 hc
      refine kN 153 hc ?_
      refine kN 154 hc ?_
      refine kN 155 hc ?_
      obtain ⟨v_156, hs156, hc156, h⟩ := h
      refine sR (.agg v_156) (w_loadN rfl underlying28 rfl sz28 hs156 hc156) ?_
      obtain ⟨v_157, hs157, hc157, h⟩ := h
      refine sR (.agg v_157) (w_loadN rfl underlying28 rfl sz28 hs157 hc157) ?_
      refine s_ef (k_call (vs := [(.agg v_156), (.agg v_157)]) cb24 (evC rfl (evC rfl evN)) (h.mono ?_))
      clear h; rintro v F ⟨v_158, rfl, h⟩
      refine sR (.bool v_158) (r_pick rfl rfl (fun _ => rfl) (fun h => by cases h)) ?_
      refine sR (.bool v_158) (r_move rfl rfl) ?_
      by_cases hc : v_158 = true
      ·
       replace h := h.1 hc
       refine kN 158 hc ?_
       refine kN 159 hc ?_
       refine kN 160 hc ?_
       obtain ⟨v_161, hs161, hc161, h⟩ := h
       refine sR (.agg v_161) (w_loadN rfl underlying28 rfl sz28 hs161 hc161) ?_
       obtain ⟨v_162, hs162, hc162, h⟩ := h
       refine sR (.agg v_162) (w_loadN h4 underlying28 rfl sz28 hs162 hc162) ?_
       refine s_ef (k_call (vs := [(.agg v_161), (.agg v_162)]) cb24 (evC rfl (evC rfl evN)) (h.mono ?_))
       clear h; rintro v F ⟨v_163, rfl, h⟩
       refine sR (.bool v_163) (r_pick rfl rfl (fun _ => rfl) (fun h => by cases h)) ?_
       refine sR (.bool v_163) (r_assign rfl rfl) ?_
       refine HL_nil ?_
       show b5J1 v_40 b23 b33 b35 b37 R _ _
       exact ⟨_, h3, rfl, rfl, rfl, rfl, rfl, h⟩
      ·
       replace hc := eq_false_of_ne_true hc; replace h := h.2 hc
       refine kN 158 hc ?_
       refine kN 159 hc ?_
       refine kN 160 hc ?_
       refine s_skip ?_
       refine s_skip ?_
       refine s_skip ?_
       refine sR (.bool false) (r_pick rfl rfl (fun h => by cases h) (fun _ => rfl)) ?_
       refine sR (.bool false) (r_assign rfl rfl) ?_
       refine HL_nil ?_
       show b5J1 v_40 b23 b33 b35 b37 R _ _
       exact ⟨_, h3, rfl, rfl, rfl, rfl, rfl, h⟩
     ·
      replace hc := eq_false_of_ne_true hc; replace h := h.2 hc
      refine kN 153 hc ?_
      refine kN 154 hc ?_
      refine kN 155 hc ?_
      refine s_skip ?_
      refine s_skip ?_
      refine s_skip ?_
      refine sR (.bool false) (r_pick rfl rfl (fun h => by cases h) (fun _ => rfl)) ?_
      refine sR (.bool false) (r_move rfl rfl) ?_
      refine s_skip ?_
      refine s_skip ?_
      refine s_skip ?_
      refine sR (.bool false) (r_pick rfl rfl (fun h => by cases h) (fun _ => rfl)) ?_
      refine sR (.bool false) (r_assign rfl rfl) ?_
      refine HL_nil ?_
      show b5J1 v_40 b23 b33 b35 b37 R _ _
      exact ⟨_, h3, rfl, rfl, rfl, rfl, rfl, h⟩
    ·
     replace hc := eq_false_of_ne_true hc; replace h := h.2 hc
     refine kN 148 hc ?_
     refine kN 149 hc ?_
     refine kN 150 hc ?_
     refine s_skip ?_
     refine s_skip ?_
     refine s_skip ?_
     refine sR (.bool false) (r_pick rfl rfl (fun h => by cases h) (fun _ => rfl)) ?_
     refine sR (.bool false) (r_move rfl rfl) ?_
     refine s_skip ?_
     refine s_skip ?_
     refine s_skip ?_
     refine sR (.bool false) (r_pick rfl rfl (fun h => by cases h) (fun _ => rfl)) ?_
     refine sR (.bool false) (r_move rfl rfl) ?_
     refine s_skip ?_
     refine s_skip ?_
     refine s_skip ?_
     refine sR (.bool false) (r_pick rfl rfl (fun h => by cases h) (fun _ => rfl)) ?_
     refine sR (.bool false) (r_assign rfl rfl) ?_
     refine HL_nil ?_
     show b5J1 v_40 b23 b33 b35 b37 R _ _
     exact ⟨_, h3, rfl, rfl, rfl, rfl, rfl, h⟩
   ·
    replace hc := eq_false_of_ne_true hc; replace h := h.2 hc
    refine kN 144 hc ?_
    refine kN 145 hc ?_
    refine s_skip ?_
    refine s_skip ?_
    refine s_skip ?_
    refine sR (.bool false) (r_pick rfl rfl (fun h => by cases h) (fun _ => rfl)) ?_
    refine sR (.bool false) (r_move rfl rfl) ?_
    refine s_skip ?_
    refine s_skip ?_
    refine s_skip ?_
    refine sR (.bool false) (r_pick rfl rfl (fun h => by cases h) (fun _ => rfl)) ?_
    refine sR (.bool false) (r_move rfl rfl) ?_
    refine s_skip ?_
    refine s_skip ?_
    refine s_skip ?_
    refine sR (.bool false) (r_pick rfl rfl (fun h => by cases h) (fun _ => rfl)) ?_
    refine sR (.bool false) (r_move rfl rfl) ?_
    refine s_skip ?_
    refine s_skip ?_
    refine s_skip ?_
    refine sR (.bool false) (r_pick rfl rfl (fun h => by cases h) (fun _ => rfl)) ?_
    refine sR (.bool false) (r_assign rfl rfl) ?_
    refine HL_nil ?_
    show b5J1 v_40 b23 b33 b35 b37 R _ _
    exact ⟨_, h3, rfl, rfl, rfl, rfl, rfl, h⟩
 refine RG_share (A := (Nat) × (Nat) × (Nat) × (Array Value)) (fun a E F => match a with | (b4, b5, b6, v_49) => E 3 = (.bool v_40) ∧ E 4 = (.pointer (some (Addr.mk b4 0 none))) ∧ E 5 = (.pointer (some (Addr.mk b5 0 none))) ∧ E 6 = (.pointer (some (Addr.mk b6 0 none))) ∧ E 49 = (.agg v_49) ∧ b5d8 v_49 b6 b4 b5 v_40 R F ∧ holdF [] F) 1 #[true, true, true, true, true, true, true, true, true, true, true, true, true, true, false] (fun a => match a with | (b4, b5, b6, v_49) => []) ?_ (fun hD8 => ?_)
 ·
  clear h hp; rintro ⟨b4, b5, b6, v_49⟩ E F ⟨h3, h4, h5, h6, h49, h, hp⟩
  unfold b5d8 at h
  refine RG_eff1 (i := 14) (by kernel_rfl) (g_op0 (Sp' := []) rfl rfl (k_storeN (vs := v_49) h6 h49 sz28 (by decide) ?_))
  obtain ⟨hz1, hz2, c, e, hz3, hz4, hz5, h⟩ := h
  refine ⟨hz1, hz2, c, e, hz3, hz4, hz5, ?_⟩
  replace h := atE h
  refine holdI hold0 (fun hp => ?_)
  refine RG_list (l' := #[true, true, true, true, true, true, true, true, true, true, true, true, true, true, true]) (by kernel_rfl) ?_
  exact hD9 (b4, b5, b6) _ _ ⟨h3, h4, h5, h6, h, hp⟩
 refine RG_share (A := (Nat) × (Nat) × (Nat) × (Array Value) × (Array Value)) (fun a E F => match a with | (b4, b5, b6, v_46, v_49) => E 3 = (.bool v_40) ∧ E 4 = (.pointer (some (Addr.mk b4 0 none))) ∧ E 5 = (.pointer (some (Addr.mk b5 0 none))) ∧ E 6 = (.pointer (some (Addr.mk b6 0 none))) ∧ E 46 = (.agg v_46) ∧ E 49 = (.agg v_49) ∧ b5d7 v_46 b5 v_49 b6 b4 v_40 R F ∧ holdF [] F) 2 #[true, true, true, true, true, true, true, true, true, true, true, true, true, false, false] (fun a => match a with | (b4, b5, b6, v_46, v_49) => []) ?_ (fun hD7 => ?_)
 ·
  clear h hp; rintro ⟨b4, b5, b6, v_46, v_49⟩ E F ⟨h3, h4, h5, h6, h46, h49, h, hp⟩
  unfold b5d7 at h
  refine RG_eff1 (i := 13) (by kernel_rfl) (g_op0 (Sp' := []) rfl rfl (k_storeN (vs := v_46) h5 h46 sz28 (by decide) ?_))
  obtain ⟨hz1, hz2, c, e, hz3, hz4, hz5, h⟩ := h
  refine ⟨hz1, hz2, c, e, hz3, hz4, hz5, ?_⟩
  replace h := atE h
  refine holdI hold0 (fun hp => ?_)
  refine RG_list (l' := #[true, true, true, true, true, true, true, true, true, true, true, true, true, true, false]) (by kernel_rfl) ?_
  exact hD8 (b4, b5, b6, v_49) _ _ ⟨h3, h4, h5, h6, h49, h, hp⟩
 refine RG_share (A := (Nat) × (Nat) × (Nat) × (Array Value) × (Array Value) × (Array Value)) (fun a E F => match a with | (b4, b5, b6, v_43, v_46, v_49) => E 3 = (.bool v_40) ∧ E 4 = (.pointer (some (Addr.mk b4 0 none))) ∧ E 5 = (.pointer (some (Addr.mk b5 0 none))) ∧ E 6 = (.pointer (some (Addr.mk b6 0 none))) ∧ E 43 = (.agg v_43) ∧ E 46 = (.agg v_46) ∧ E 49 = (.agg v_49) ∧ b5d6 v_43 b4 v_46 b5 v_49 b6 v_40 R F ∧ holdF [] F) 3 #[true, true, true, true, true, true, true, true, true, true, true, true, false, false, false] (fun a => match a with | (b4, b5, b6, v_43, v_46, v_49) => []) ?_ (fun hD6 => ?_)
 ·
  clear h hp; rintro ⟨b4, b5, b6, v_43, v_46, v_49⟩ E F ⟨h3, h4, h5, h6, h43, h46, h49, h, hp⟩
  unfold b5d6 at h
  refine RG_eff1 (i := 12) (by kernel_rfl) (g_op0 (Sp' := []) rfl rfl (k_storeN (vs := v_43) h4 h43 sz28 (by decide) ?_))
  obtain ⟨hz1, hz2, c, e, hz3, hz4, hz5, h⟩ := h
  refine ⟨hz1, hz2, c, e, hz3, hz4, hz5, ?_⟩
  replace h := atE h
  refine holdI hold0 (fun hp => ?_)
  refine RG_list (l' := #[true, true, true, true, true, true, true, true, true, true, true, true, true, false, false]) (by kernel_rfl) ?_
  exact hD7 (b4, b5, b6, v_46, v_49) _ _ ⟨h3, h4, h5, h6, h46, h49, h, hp⟩
 refine RG_share (A := (Nat) × (Nat) × (Array Value) × (Array Value) × (Array Value)) (fun a E F => match a with | (b4, b5, v_43, v_46, v_49) => E 3 = (.bool v_40) ∧ E 4 = (.pointer (some (Addr.mk b4 0 none))) ∧ E 5 = (.pointer (some (Addr.mk b5 0 none))) ∧ E 43 = (.agg v_43) ∧ E 46 = (.agg v_46) ∧ E 49 = (.agg v_49) ∧ b5d5 v_43 b4 v_46 b5 v_49 v_40 R F ∧ holdF [] F) 4 #[true, true, true, true, true, true, true, true, true, true, true, false, false, false, false] (fun a => match a with | (b4, b5, v_43, v_46, v_49) => []) ?_ (fun hD5 => ?_)
 ·
  clear h hp; rintro ⟨b4, b5, v_43, v_46, v_49⟩ E F ⟨h3, h4, h5, h43, h46, h49, h, hp⟩
  unfold b5d5 at h
  refine RG_eff1 (i := 11) (by kernel_rfl) (g_op (Sp' := []) rfl rfl (k_alloc zr28 ?_))
  intro b6 hf_b6
  replace h := atE (h b6 hf_b6)
  refine holdI hold0 (fun hp => ?_)
  refine RG_list (l' := #[true, true, true, true, true, true, true, true, true, true, true, true, false, false, false]) (by kernel_rfl) ?_
  exact hD6 (b4, b5, b6, v_43, v_46, v_49) _ _ ⟨h3, h4, h5, rfl, h43, h46, h49, h, hp⟩
 refine RG_share (A := (Nat) × (Nat) × (Array Value) × (Array Value) × (Array Value)) (fun a E F => match a with | (b4, b6_1, v_43, v_46, v_49) => E 3 = (.bool v_40) ∧ E 4 = (.pointer (some (Addr.mk b4 0 none))) ∧ E 6 = (.pointer (some (Addr.mk b6_1 0 none))) ∧ E 43 = (.agg v_43) ∧ E 46 = (.agg v_46) ∧ E 49 = (.agg v_49) ∧ b5d10 v_43 b4 v_46 v_49 b6_1 v_40 R F ∧ holdF [] F) 4 #[true, true, true, true, true, true, true, true, true, true, false, true, false, false, false] (fun a => match a with | (b4, b6_1, v_43, v_46, v_49) => []) ?_ (fun hD10 => ?_)
 ·
  clear h hp; rintro ⟨b4, b6_1, v_43, v_46, v_49⟩ E F ⟨h3, h4, h6, h43, h46, h49, h, hp⟩
  unfold b5d10 at h
  refine RG_eff1 (i := 10) (by kernel_rfl) (g_op (Sp' := []) rfl rfl (k_alloc zr28 ?_))
  intro b5_1 hf_b5_1
  replace h := atE (h b5_1 hf_b5_1)
  refine holdI hold0 (fun hp => ?_)
  refine RG_list (l' := #[true, true, true, true, true, true, true, true, true, true, true, true, false, false, false]) (by kernel_rfl) ?_
  exact hD6 (b4, b5_1, b6_1, v_43, v_46, v_49) _ _ ⟨h3, h4, rfl, h6, h43, h46, h49, h, hp⟩
 refine RG_share (A := (Nat) × (Array Value) × (Array Value) × (Array Value)) (fun a E F => match a with | (b4, v_43, v_46, v_49) => E 3 = (.bool v_40) ∧ E 4 = (.pointer (some (Addr.mk b4 0 none))) ∧ E 43 = (.agg v_43) ∧ E 46 = (.agg v_46) ∧ E 49 = (.agg v_49) ∧ b5d4 v_43 b4 v_46 v_49 v_40 R F ∧ holdF [] F) 5 #[true, true, true, true, true, true, true, true, true, true, false, false, false, false, false] (fun a => match a with | (b4, v_43, v_46, v_49) => []) ?_ (fun hD4 => ?_)
 ·
  clear h hp; rintro ⟨b4, v_43, v_46, v_49⟩ E F ⟨h3, h4, h43, h46, h49, h, hp⟩
  unfold b5d4 at h
  refine RG_eff (rs := [10, 11]) (by kernel_rfl) rfl ?_
  obtain ⟨ha0, ha1⟩ := h
  simp only [List.mem_cons, List.not_mem_nil, or_false, forall_eq_or_imp, forall_eq]
  refine ⟨?_, ?_⟩
  ·
   have h := ha0; clear ha0 ha1
   refine g_op (Sp' := []) rfl rfl (k_alloc zr28 ?_)
   intro b5 hf_b5
   replace h := atE (h b5 hf_b5)
   refine holdI hold0 (fun hp => ?_)
   refine RG_list (l' := #[true, true, true, true, true, true, true, true, true, true, true, false, false, false, false]) (by kernel_rfl) ?_
   exact hD5 (b4, b5, v_43, v_46, v_49) _ _ ⟨h3, h4, rfl, h43, h46, h49, h, hp⟩
  ·
   have h := ha1; clear ha0 ha1
   refine g_op (Sp' := []) rfl rfl (k_alloc zr28 ?_)
   intro b6_1 hf_b6_1
   replace h := atE (h b6_1 hf_b6_1)
   refine holdI hold0 (fun hp => ?_)
   refine RG_list (l' := #[true, true, true, true, true, true, true, true, true, true, false, true, false, false, false]) (by kernel_rfl) ?_
   exact hD10 (b4, b6_1, v_43, v_46, v_49) _ _ ⟨h3, h4, rfl, h43, h46, h49, h, hp⟩
 refine RG_share (A := (Nat) × (Nat) × (Array Value) × (Array Value) × (Array Value)) (fun a E F => match a with | (b5_2, b6_2, v_43, v_46, v_49) => E 3 = (.bool v_40) ∧ E 5 = (.pointer (some (Addr.mk b5_2 0 none))) ∧ E 6 = (.pointer (some (Addr.mk b6_2 0 none))) ∧ E 43 = (.agg v_43) ∧ E 46 = (.agg v_46) ∧ E 49 = (.agg v_49) ∧ b5d12 v_43 v_46 b5_2 v_49 b6_2 v_40 R F ∧ holdF [] F) 4 #[true, true, true, true, true, true, true, true, true, false, true, true, false, false, false] (fun a => match a with | (b5_2, b6_2, v_43, v_46, v_49) => []) ?_ (fun hD12 => ?_)
 ·
  clear h hp; rintro ⟨b5_2, b6_2, v_43, v_46, v_49⟩ E F ⟨h3, h5, h6, h43, h46, h49, h, hp⟩
  unfold b5d12 at h
  refine RG_eff1 (i := 9) (by kernel_rfl) (g_op (Sp' := []) rfl rfl (k_alloc zr28 ?_))
  intro b4_2 hf_b4_2
  replace h := atE (h b4_2 hf_b4_2)
  refine holdI hold0 (fun hp => ?_)
  refine RG_list (l' := #[true, true, true, true, true, true, true, true, true, true, true, true, false, false, false]) (by kernel_rfl) ?_
  exact hD6 (b4_2, b5_2, b6_2, v_43, v_46, v_49) _ _ ⟨h3, rfl, h5, h6, h43, h46, h49, h, hp⟩
 refine RG_share (A := (Nat) × (Array Value) × (Array Value) × (Array Value)) (fun a E F => match a with | (b5_2, v_43, v_46, v_49) => E 3 = (.bool v_40) ∧ E 5 = (.pointer (some (Addr.mk b5_2 0 none))) ∧ E 43 = (.agg v_43) ∧ E 46 = (.agg v_46) ∧ E 49 = (.agg v_49) ∧ b5d11 v_43 v_46 b5_2 v_49 v_40 R F ∧ holdF [] F) 5 #[true, true, true, true, true, true, true, true, true, false, true, false, false, false, false] (fun a => match a with | (b5_2, v_43, v_46, v_49) => []) ?_ (fun hD11 => ?_)
 ·
  clear h hp; rintro ⟨b5_2, v_43, v_46, v_49⟩ E F ⟨h3, h5, h43, h46, h49, h, hp⟩
  unfold b5d11 at h
  refine RG_eff (rs := [9, 11]) (by kernel_rfl) rfl ?_
  obtain ⟨ha0, ha1⟩ := h
  simp only [List.mem_cons, List.not_mem_nil, or_false, forall_eq_or_imp, forall_eq]
  refine ⟨?_, ?_⟩
  ·
   have h := ha0; clear ha0 ha1
   refine g_op (Sp' := []) rfl rfl (k_alloc zr28 ?_)
   intro b4_1 hf_b4_1
   replace h := atE (h b4_1 hf_b4_1)
   refine holdI hold0 (fun hp => ?_)
   refine RG_list (l' := #[true, true, true, true, true, true, true, true, true, true, true, false, false, false, false]) (by kernel_rfl) ?_
   exact hD5 (b4_1, b5_2, v_43, v_46, v_49) _ _ ⟨h3, rfl, h5, h43, h46, h49, h, hp⟩
  ·
   have h := ha1; clear ha0 ha1
   refine g_op (Sp' := []) rfl rfl (k_alloc zr28 ?_)
   intro b6_2 hf_b6_2
   replace h := atE (h b6_2 hf_b6_2)
   refine holdI hold0 (fun hp => ?_)
   refine RG_list (l' := #[true, true, true, true, true, true, true, true, true, false, true, true, false, false, false]) (by kernel_rfl) ?_
   exact hD12 (b5_2, b6_2, v_43, v_46, v_49) _ _ ⟨h3, h5, rfl, h43, h46, h49, h, hp⟩
 refine RG_share (A := (Nat) × (Array Value) × (Array Value) × (Array Value)) (fun a E F => match a with | (b6_3, v_43, v_46, v_49) => E 3 = (.bool v_40) ∧ E 6 = (.pointer (some (Addr.mk b6_3 0 none))) ∧ E 43 = (.agg v_43) ∧ E 46 = (.agg v_46) ∧ E 49 = (.agg v_49) ∧ b5d13 v_43 v_46 v_49 b6_3 v_40 R F ∧ holdF [] F) 5 #[true, true, true, true, true, true, true, true, true, false, false, true, false, false, false] (fun a => match a with | (b6_3, v_43, v_46, v_49) => []) ?_ (fun hD13 => ?_)
 ·
  clear h hp; rintro ⟨b6_3, v_43, v_46, v_49⟩ E F ⟨h3, h6, h43, h46, h49, h, hp⟩
  unfold b5d13 at h
  refine RG_eff (rs := [9, 10]) (by kernel_rfl) rfl ?_
  obtain ⟨ha0, ha1⟩ := h
  simp only [List.mem_cons, List.not_mem_nil, or_false, forall_eq_or_imp, forall_eq]
  refine ⟨?_, ?_⟩
  ·
   have h := ha0; clear ha0 ha1
   refine g_op (Sp' := []) rfl rfl (k_alloc zr28 ?_)
   intro b4_3 hf_b4_3
   replace h := atE (h b4_3 hf_b4_3)
   refine holdI hold0 (fun hp => ?_)
   refine RG_list (l' := #[true, true, true, true, true, true, true, true, true, true, false, true, false, false, false]) (by kernel_rfl) ?_
   exact hD10 (b4_3, b6_3, v_43, v_46, v_49) _ _ ⟨h3, rfl, h6, h43, h46, h49, h, hp⟩
  ·
   have h := ha1; clear ha0 ha1
   refine g_op (Sp' := []) rfl rfl (k_alloc zr28 ?_)
   intro b5_3 hf_b5_3
   replace h := atE (h b5_3 hf_b5_3)
   refine holdI hold0 (fun hp => ?_)
   refine RG_list (l' := #[true, true, true, true, true, true, true, true, true, false, true, true, false, false, false]) (by kernel_rfl) ?_
   exact hD12 (b5_3, b6_3, v_43, v_46, v_49) _ _ ⟨h3, rfl, h6, h43, h46, h49, h, hp⟩
 refine RG_share (A := (Array Value) × (Array Value) × (Array Value)) (fun a E F => match a with | (v_43, v_46, v_49) => E 3 = (.bool v_40) ∧ E 43 = (.agg v_43) ∧ E 46 = (.agg v_46) ∧ E 49 = (.agg v_49) ∧ b5d3 v_43 v_46 v_49 v_40 R F ∧ holdF [] F) 6 #[true, true, true, true, true, true, true, true, true, false, false, false, false, false, false] (fun a => match a with | (v_43, v_46, v_49) => []) ?_ (fun hD3 => ?_)
 ·
  clear h hp; rintro ⟨v_43, v_46, v_49⟩ E F ⟨h3, h43, h46, h49, h, hp⟩
  unfold b5d3 at h
  refine RG_eff (rs := [9, 10, 11]) (by kernel_rfl) rfl ?_
  obtain ⟨ha0, ha1, ha2⟩ := h
  simp only [List.mem_cons, List.not_mem_nil, or_false, forall_eq_or_imp, forall_eq]
  refine ⟨?_, ?_, ?_⟩
  ·
   have h := ha0; clear ha0 ha1 ha2
   refine g_op (Sp' := []) rfl rfl (k_alloc zr28 ?_)
   intro b4 hf_b4
   replace h := atE (h b4 hf_b4)
   refine holdI hold0 (fun hp => ?_)
   refine RG_list (l' := #[true, true, true, true, true, true, true, true, true, true, false, false, false, false, false]) (by kernel_rfl) ?_
   exact hD4 (b4, v_43, v_46, v_49) _ _ ⟨h3, rfl, h43, h46, h49, h, hp⟩
  ·
   have h := ha1; clear ha0 ha1 ha2
   refine g_op (Sp' := []) rfl rfl (k_alloc zr28 ?_)
   intro b5_2 hf_b5_2
   replace h := atE (h b5_2 hf_b5_2)
   refine holdI hold0 (fun hp => ?_)
   refine RG_list (l' := #[true, true, true, true, true, true, true, true, true, false, true, false, false, false, false]) (by kernel_rfl) ?_
   exact hD11 (b5_2, v_43, v_46, v_49) _ _ ⟨h3, rfl, h43, h46, h49, h, hp⟩
  ·
   have h := ha2; clear ha0 ha1 ha2
   refine g_op (Sp' := []) rfl rfl (k_alloc zr28 ?_)
   intro b6_3 hf_b6_3
   replace h := atE (h b6_3 hf_b6_3)
   refine holdI hold0 (fun hp => ?_)
   refine RG_list (l' := #[true, true, true, true, true, true, true, true, true, false, false, true, false, false, false]) (by kernel_rfl) ?_
   exact hD13 (b6_3, v_43, v_46, v_49) _ _ ⟨h3, rfl, h43, h46, h49, h, hp⟩
 refine RG_share (A := (Nat) × (Nat) × (Nat) × (Array Value) × (Array Value) × (Array Value) × (World → Prop)) (fun a E F => match a with | (b4_4, b5_4, b6_4, v_43, v_46, v_48, S7) => E 3 = (.bool v_40) ∧ E 4 = (.pointer (some (Addr.mk b4_4 0 none))) ∧ E 5 = (.pointer (some (Addr.mk b5_4 0 none))) ∧ E 6 = (.pointer (some (Addr.mk b6_4 0 none))) ∧ E 43 = (.agg v_43) ∧ E 46 = (.agg v_46) ∧ E 48 = (.agg v_48) ∧ (∀ F : PH, F.row (Addr.add (Addr.mk b1 0 none) (Int.toNat (2 : Int) * 2)) v_48 → allW F S7) ∧ (F.row (Addr.add (Addr.mk b1 0 none) (Int.toNat (2 : Int) * 2)) v_48) ∧ b5d16 v_48 v_43 b4_4 v_46 b5_4 b6_4 v_40 R F ∧ holdF [(7, S7)] F) 4 #[true, true, true, true, true, true, true, true, false, true, true, true, false, false, false] (fun a => match a with | (b4_4, b5_4, b6_4, v_43, v_46, v_48, S7) => [(7, S7)]) ?_ (fun hD16 => ?_)
 ·
  clear h hp; rintro ⟨b4_4, b5_4, b6_4, v_43, v_46, v_48, S7⟩ E F ⟨h3, h4, h5, h6, h43, h46, h48, q7, kc7, h, hp⟩
  unfold b5d16 at h
  refine RG_eff1 (i := 8) (by kernel_rfl) (g_op (Sp' := []) rfl rfl (k_call (vs := [(.agg v_48)]) cb16 (evC h48 evN) (h.mono ?_)))
  clear h; rintro v F ⟨v_49_3, rfl, h⟩
  refine holdI hold0 (fun hp => ?_)
  refine RG_list (l' := #[true, true, true, true, true, true, true, true, true, true, true, true, false, false, false]) (by kernel_rfl) ?_
  exact hD6 (b4_4, b5_4, b6_4, v_43, v_46, v_49_3) _ _ ⟨h3, h4, h5, h6, h43, h46, rfl, h, hp⟩
 refine RG_share (A := (Nat) × (Nat) × (Array Value) × (Array Value) × (Array Value) × (World → Prop)) (fun a E F => match a with | (b4_4, b5_4, v_43, v_46, v_48, S7) => E 3 = (.bool v_40) ∧ E 4 = (.pointer (some (Addr.mk b4_4 0 none))) ∧ E 5 = (.pointer (some (Addr.mk b5_4 0 none))) ∧ E 43 = (.agg v_43) ∧ E 46 = (.agg v_46) ∧ E 48 = (.agg v_48) ∧ (∀ F : PH, F.row (Addr.add (Addr.mk b1 0 none) (Int.toNat (2 : Int) * 2)) v_48 → allW F S7) ∧ (F.row (Addr.add (Addr.mk b1 0 none) (Int.toNat (2 : Int) * 2)) v_48) ∧ b5d15 v_48 v_43 b4_4 v_46 b5_4 v_40 R F ∧ holdF [(7, S7)] F) 5 #[true, true, true, true, true, true, true, true, false, true, true, false, false, false, false] (fun a => match a with | (b4_4, b5_4, v_43, v_46, v_48, S7) => [(7, S7)]) ?_ (fun hD15 => ?_)
 ·
  clear h hp; rintro ⟨b4_4, b5_4, v_43, v_46, v_48, S7⟩ E F ⟨h3, h4, h5, h43, h46, h48, q7, kc7, h, hp⟩
  unfold b5d15 at h
  refine RG_eff (rs := [8, 11]) (by kernel_rfl) rfl ?_
  obtain ⟨ha0, ha1⟩ := h
  simp only [List.mem_cons, List.not_mem_nil, or_false, forall_eq_or_imp, forall_eq]
  refine ⟨?_, ?_⟩
  ·
   have h := ha0; clear ha0 ha1
   refine g_op (Sp' := []) rfl rfl (k_call (vs := [(.agg v_48)]) cb16 (evC h48 evN) (h.mono ?_))
   clear h; rintro v F ⟨v_49_2, rfl, h⟩
   refine holdI hold0 (fun hp => ?_)
   refine RG_list (l' := #[true, true, true, true, true, true, true, true, true, true, true, false, false, false, false]) (by kernel_rfl) ?_
   exact hD5 (b4_4, b5_4, v_43, v_46, v_49_2) _ _ ⟨h3, h4, h5, h43, h46, rfl, h, hp⟩
  ·
   have h := ha1; clear ha0 ha1
   refine g_op (Sp' := [(7, S7)]) rfl rfl (k_alloc zr28 ?_)
   intro b6_4 hf_b6_4
   replace h := atE (h b6_4 hf_b6_4)
   refine holdI (holdC (i := 7) (q7 _ ((row_set_fresh hf_b6_4 kc7))) hold0) (fun hp => ?_)
   refine RG_list (l' := #[true, true, true, true, true, true, true, true, false, true, true, true, false, false, false]) (by kernel_rfl) ?_
   exact hD16 (b4_4, b5_4, b6_4, v_43, v_46, v_48, _) _ _ ⟨h3, h4, h5, rfl, h43, h46, h48, (fun F hc => q7 F (hc)), (row_set_fresh hf_b6_4 kc7), h, hp⟩
 refine RG_share (A := (Nat) × (Nat) × (Array Value) × (Array Value) × (Array Value) × (World → Prop)) (fun a E F => match a with | (b4_4, b6_5, v_43, v_46, v_48, S7) => E 3 = (.bool v_40) ∧ E 4 = (.pointer (some (Addr.mk b4_4 0 none))) ∧ E 6 = (.pointer (some (Addr.mk b6_5 0 none))) ∧ E 43 = (.agg v_43) ∧ E 46 = (.agg v_46) ∧ E 48 = (.agg v_48) ∧ (∀ F : PH, F.row (Addr.add (Addr.mk b1 0 none) (Int.toNat (2 : Int) * 2)) v_48 → allW F S7) ∧ (F.row (Addr.add (Addr.mk b1 0 none) (Int.toNat (2 : Int) * 2)) v_48) ∧ b5d17 v_48 v_43 b4_4 v_46 b6_5 v_40 R F ∧ holdF [(7, S7)] F) 5 #[true, true, true, true, true, true, true, true, false, true, false, true, false, false, false] (fun a => match a with | (b4_4, b6_5, v_43, v_46, v_48, S7) => [(7, S7)]) ?_ (fun hD17 => ?_)
 ·
  clear h hp; rintro ⟨b4_4, b6_5, v_43, v_46, v_48, S7⟩ E F ⟨h3, h4, h6, h43, h46, h48, q7, kc7, h, hp⟩
  unfold b5d17 at h
  refine RG_eff (rs := [8, 10]) (by kernel_rfl) rfl ?_
  obtain ⟨ha0, ha1⟩ := h
  simp only [List.mem_cons, List.not_mem_nil, or_false, forall_eq_or_imp, forall_eq]
  refine ⟨?_, ?_⟩
  ·
   have h := ha0; clear ha0 ha1
   refine g_op (Sp' := []) rfl rfl (k_call (vs := [(.agg v_48)]) cb16 (evC h48 evN) (h.mono ?_))
   clear h; rintro v F ⟨v_49_4, rfl, h⟩
   refine holdI hold0 (fun hp => ?_)
   refine RG_list (l' := #[true, true, true, true, true, true, true, true, true, true, false, true, false, false, false]) (by kernel_rfl) ?_
   exact hD10 (b4_4, b6_5, v_43, v_46, v_49_4) _ _ ⟨h3, h4, h6, h43, h46, rfl, h, hp⟩
  ·
   have h := ha1; clear ha0 ha1
   refine g_op (Sp' := [(7, S7)]) rfl rfl (k_alloc zr28 ?_)
   intro b5_5 hf_b5_5
   replace h := atE (h b5_5 hf_b5_5)
   refine holdI (holdC (i := 7) (q7 _ ((row_set_fresh hf_b5_5 kc7))) hold0) (fun hp => ?_)
   refine RG_list (l' := #[true, true, true, true, true, true, true, true, false, true, true, true, false, false, false]) (by kernel_rfl) ?_
   exact hD16 (b4_4, b5_5, b6_5, v_43, v_46, v_48, _) _ _ ⟨h3, h4, rfl, h6, h43, h46, h48, (fun F hc => q7 F (hc)), (row_set_fresh hf_b5_5 kc7), h, hp⟩
 refine RG_share (A := (Nat) × (Array Value) × (Array Value) × (Array Value) × (World → Prop)) (fun a E F => match a with | (b4_4, v_43, v_46, v_48, S7) => E 3 = (.bool v_40) ∧ E 4 = (.pointer (some (Addr.mk b4_4 0 none))) ∧ E 43 = (.agg v_43) ∧ E 46 = (.agg v_46) ∧ E 48 = (.agg v_48) ∧ (∀ F : PH, F.row (Addr.add (Addr.mk b1 0 none) (Int.toNat (2 : Int) * 2)) v_48 → allW F S7) ∧ (F.row (Addr.add (Addr.mk b1 0 none) (Int.toNat (2 : Int) * 2)) v_48) ∧ b5d14 v_48 v_43 b4_4 v_46 v_40 R F ∧ holdF [(7, S7)] F) 6 #[true, true, true, true, true, true, true, true, false, true, false, false, false, false, false] (fun a => match a with | (b4_4, v_43, v_46, v_48, S7) => [(7, S7)]) ?_ (fun hD14 => ?_)
 ·
  clear h hp; rintro ⟨b4_4, v_43, v_46, v_48, S7⟩ E F ⟨h3, h4, h43, h46, h48, q7, kc7, h, hp⟩
  unfold b5d14 at h
  refine RG_eff (rs := [8, 10, 11]) (by kernel_rfl) rfl ?_
  obtain ⟨ha0, ha1, ha2⟩ := h
  simp only [List.mem_cons, List.not_mem_nil, or_false, forall_eq_or_imp, forall_eq]
  refine ⟨?_, ?_, ?_⟩
  ·
   have h := ha0; clear ha0 ha1 ha2
   refine g_op (Sp' := []) rfl rfl (k_call (vs := [(.agg v_48)]) cb16 (evC h48 evN) (h.mono ?_))
   clear h; rintro v F ⟨v_49_1, rfl, h⟩
   refine holdI hold0 (fun hp => ?_)
   refine RG_list (l' := #[true, true, true, true, true, true, true, true, true, true, false, false, false, false, false]) (by kernel_rfl) ?_
   exact hD4 (b4_4, v_43, v_46, v_49_1) _ _ ⟨h3, h4, h43, h46, rfl, h, hp⟩
  ·
   have h := ha1; clear ha0 ha1 ha2
   refine g_op (Sp' := [(7, S7)]) rfl rfl (k_alloc zr28 ?_)
   intro b5_4 hf_b5_4
   replace h := atE (h b5_4 hf_b5_4)
   refine holdI (holdC (i := 7) (q7 _ ((row_set_fresh hf_b5_4 kc7))) hold0) (fun hp => ?_)
   refine RG_list (l' := #[true, true, true, true, true, true, true, true, false, true, true, false, false, false, false]) (by kernel_rfl) ?_
   exact hD15 (b4_4, b5_4, v_43, v_46, v_48, _) _ _ ⟨h3, h4, rfl, h43, h46, h48, (fun F hc => q7 F (hc)), (row_set_fresh hf_b5_4 kc7), h, hp⟩
  ·
   have h := ha2; clear ha0 ha1 ha2
   refine g_op (Sp' := [(7, S7)]) rfl rfl (k_alloc zr28 ?_)
   intro b6_5 hf_b6_5
   replace h := atE (h b6_5 hf_b6_5)
   refine holdI (holdC (i := 7) (q7 _ ((row_set_fresh hf_b6_5 kc7))) hold0) (fun hp => ?_)
   refine RG_list (l' := #[true, true, true, true, true, true, true, true, false, true, false, true, false, false, false]) (by kernel_rfl) ?_
   exact hD17 (b4_4, b6_5, v_43, v_46, v_48, _) _ _ ⟨h3, h4, rfl, h43, h46, h48, (fun F hc => q7 F (hc)), (row_set_fresh hf_b6_5 kc7), h, hp⟩
 refine RG_share (A := (Nat) × (Nat) × (Array Value) × (Array Value) × (Array Value) × (World → Prop)) (fun a E F => match a with | (b5_6, b6_6, v_43, v_46, v_48, S7) => E 3 = (.bool v_40) ∧ E 5 = (.pointer (some (Addr.mk b5_6 0 none))) ∧ E 6 = (.pointer (some (Addr.mk b6_6 0 none))) ∧ E 43 = (.agg v_43) ∧ E 46 = (.agg v_46) ∧ E 48 = (.agg v_48) ∧ (∀ F : PH, F.row (Addr.add (Addr.mk b1 0 none) (Int.toNat (2 : Int) * 2)) v_48 → allW F S7) ∧ (F.row (Addr.add (Addr.mk b1 0 none) (Int.toNat (2 : Int) * 2)) v_48) ∧ b5d19 v_48 v_43 v_46 b5_6 b6_6 v_40 R F ∧ holdF [(7, S7)] F) 5 #[true, true, true, true, true, true, true, true, false, false, true, true, false, false, false] (fun a => match a with | (b5_6, b6_6, v_43, v_46, v_48, S7) => [(7, S7)]) ?_ (fun hD19 => ?_)
 ·
  clear h hp; rintro ⟨b5_6, b6_6, v_43, v_46, v_48, S7⟩ E F ⟨h3, h5, h6, h43, h46, h48, q7, kc7, h, hp⟩
  unfold b5d19 at h
  refine RG_eff (rs := [8, 9]) (by kernel_rfl) rfl ?_
  obtain ⟨ha0, ha1⟩ := h
  simp only [List.mem_cons, List.not_mem_nil, or_false, forall_eq_or_imp, forall_eq]
  refine ⟨?_, ?_⟩
  ·
   have h := ha0; clear ha0 ha1
   refine g_op (Sp' := []) rfl rfl (k_call (vs := [(.agg v_48)]) cb16 (evC h48 evN) (h.mono ?_))
   clear h; rintro v F ⟨v_49_6, rfl, h⟩
   refine holdI hold0 (fun hp => ?_)
   refine RG_list (l' := #[true, true, true, true, true, true, true, true, true, false, true, true, false, false, false]) (by kernel_rfl) ?_
   exact hD12 (b5_6, b6_6, v_43, v_46, v_49_6) _ _ ⟨h3, h5, h6, h43, h46, rfl, h, hp⟩
  ·
   have h := ha1; clear ha0 ha1
   refine g_op (Sp' := [(7, S7)]) rfl rfl (k_alloc zr28 ?_)
   intro b4_6 hf_b4_6
   replace h := atE (h b4_6 hf_b4_6)
   refine holdI (holdC (i := 7) (q7 _ ((row_set_fresh hf_b4_6 kc7))) hold0) (fun hp => ?_)
   refine RG_list (l' := #[true, true, true, true, true, true, true, true, false, true, true, true, false, false, false]) (by kernel_rfl) ?_
   exact hD16 (b4_6, b5_6, b6_6, v_43, v_46, v_48, _) _ _ ⟨h3, rfl, h5, h6, h43, h46, h48, (fun F hc => q7 F (hc)), (row_set_fresh hf_b4_6 kc7), h, hp⟩
 refine RG_share (A := (Nat) × (Array Value) × (Array Value) × (Array Value) × (World → Prop)) (fun a E F => match a with | (b5_6, v_43, v_46, v_48, S7) => E 3 = (.bool v_40) ∧ E 5 = (.pointer (some (Addr.mk b5_6 0 none))) ∧ E 43 = (.agg v_43) ∧ E 46 = (.agg v_46) ∧ E 48 = (.agg v_48) ∧ (∀ F : PH, F.row (Addr.add (Addr.mk b1 0 none) (Int.toNat (2 : Int) * 2)) v_48 → allW F S7) ∧ (F.row (Addr.add (Addr.mk b1 0 none) (Int.toNat (2 : Int) * 2)) v_48) ∧ b5d18 v_48 v_43 v_46 b5_6 v_40 R F ∧ holdF [(7, S7)] F) 6 #[true, true, true, true, true, true, true, true, false, false, true, false, false, false, false] (fun a => match a with | (b5_6, v_43, v_46, v_48, S7) => [(7, S7)]) ?_ (fun hD18 => ?_)
 ·
  clear h hp; rintro ⟨b5_6, v_43, v_46, v_48, S7⟩ E F ⟨h3, h5, h43, h46, h48, q7, kc7, h, hp⟩
  unfold b5d18 at h
  refine RG_eff (rs := [8, 9, 11]) (by kernel_rfl) rfl ?_
  obtain ⟨ha0, ha1, ha2⟩ := h
  simp only [List.mem_cons, List.not_mem_nil, or_false, forall_eq_or_imp, forall_eq]
  refine ⟨?_, ?_, ?_⟩
  ·
   have h := ha0; clear ha0 ha1 ha2
   refine g_op (Sp' := []) rfl rfl (k_call (vs := [(.agg v_48)]) cb16 (evC h48 evN) (h.mono ?_))
   clear h; rintro v F ⟨v_49_5, rfl, h⟩
   refine holdI hold0 (fun hp => ?_)
   refine RG_list (l' := #[true, true, true, true, true, true, true, true, true, false, true, false, false, false, false]) (by kernel_rfl) ?_
   exact hD11 (b5_6, v_43, v_46, v_49_5) _ _ ⟨h3, h5, h43, h46, rfl, h, hp⟩
  ·
   have h := ha1; clear ha0 ha1 ha2
   refine g_op (Sp' := [(7, S7)]) rfl rfl (k_alloc zr28 ?_)
   intro b4_5 hf_b4_5
   replace h := atE (h b4_5 hf_b4_5)
   refine holdI (holdC (i := 7) (q7 _ ((row_set_fresh hf_b4_5 kc7))) hold0) (fun hp => ?_)
   refine RG_list (l' := #[true, true, true, true, true, true, true, true, false, true, true, false, false, false, false]) (by kernel_rfl) ?_
   exact hD15 (b4_5, b5_6, v_43, v_46, v_48, _) _ _ ⟨h3, rfl, h5, h43, h46, h48, (fun F hc => q7 F (hc)), (row_set_fresh hf_b4_5 kc7), h, hp⟩
  ·
   have h := ha2; clear ha0 ha1 ha2
   refine g_op (Sp' := [(7, S7)]) rfl rfl (k_alloc zr28 ?_)
   intro b6_6 hf_b6_6
   replace h := atE (h b6_6 hf_b6_6)
   refine holdI (holdC (i := 7) (q7 _ ((row_set_fresh hf_b6_6 kc7))) hold0) (fun hp => ?_)
   refine RG_list (l' := #[true, true, true, true, true, true, true, true, false, false, true, true, false, false, false]) (by kernel_rfl) ?_
   exact hD19 (b5_6, b6_6, v_43, v_46, v_48, _) _ _ ⟨h3, h5, rfl, h43, h46, h48, (fun F hc => q7 F (hc)), (row_set_fresh hf_b6_6 kc7), h, hp⟩
 refine RG_share (A := (Nat) × (Array Value) × (Array Value) × (Array Value) × (World → Prop)) (fun a E F => match a with | (b6_7, v_43, v_46, v_48, S7) => E 3 = (.bool v_40) ∧ E 6 = (.pointer (some (Addr.mk b6_7 0 none))) ∧ E 43 = (.agg v_43) ∧ E 46 = (.agg v_46) ∧ E 48 = (.agg v_48) ∧ (∀ F : PH, F.row (Addr.add (Addr.mk b1 0 none) (Int.toNat (2 : Int) * 2)) v_48 → allW F S7) ∧ (F.row (Addr.add (Addr.mk b1 0 none) (Int.toNat (2 : Int) * 2)) v_48) ∧ b5d20 v_48 v_43 v_46 b6_7 v_40 R F ∧ holdF [(7, S7)] F) 6 #[true, true, true, true, true, true, true, true, false, false, false, true, false, false, false] (fun a => match a with | (b6_7, v_43, v_46, v_48, S7) => [(7, S7)]) ?_ (fun hD20 => ?_)
 ·
  clear h hp; rintro ⟨b6_7, v_43, v_46, v_48, S7⟩ E F ⟨h3, h6, h43, h46, h48, q7, kc7, h, hp⟩
  unfold b5d20 at h
  refine RG_eff (rs := [8, 9, 10]) (by kernel_rfl) rfl ?_
  obtain ⟨ha0, ha1, ha2⟩ := h
  simp only [List.mem_cons, List.not_mem_nil, or_false, forall_eq_or_imp, forall_eq]
  refine ⟨?_, ?_, ?_⟩
  ·
   have h := ha0; clear ha0 ha1 ha2
   refine g_op (Sp' := []) rfl rfl (k_call (vs := [(.agg v_48)]) cb16 (evC h48 evN) (h.mono ?_))
   clear h; rintro v F ⟨v_49_7, rfl, h⟩
   refine holdI hold0 (fun hp => ?_)
   refine RG_list (l' := #[true, true, true, true, true, true, true, true, true, false, false, true, false, false, false]) (by kernel_rfl) ?_
   exact hD13 (b6_7, v_43, v_46, v_49_7) _ _ ⟨h3, h6, h43, h46, rfl, h, hp⟩
  ·
   have h := ha1; clear ha0 ha1 ha2
   refine g_op (Sp' := [(7, S7)]) rfl rfl (k_alloc zr28 ?_)
   intro b4_7 hf_b4_7
   replace h := atE (h b4_7 hf_b4_7)
   refine holdI (holdC (i := 7) (q7 _ ((row_set_fresh hf_b4_7 kc7))) hold0) (fun hp => ?_)
   refine RG_list (l' := #[true, true, true, true, true, true, true, true, false, true, false, true, false, false, false]) (by kernel_rfl) ?_
   exact hD17 (b4_7, b6_7, v_43, v_46, v_48, _) _ _ ⟨h3, rfl, h6, h43, h46, h48, (fun F hc => q7 F (hc)), (row_set_fresh hf_b4_7 kc7), h, hp⟩
  ·
   have h := ha2; clear ha0 ha1 ha2
   refine g_op (Sp' := [(7, S7)]) rfl rfl (k_alloc zr28 ?_)
   intro b5_7 hf_b5_7
   replace h := atE (h b5_7 hf_b5_7)
   refine holdI (holdC (i := 7) (q7 _ ((row_set_fresh hf_b5_7 kc7))) hold0) (fun hp => ?_)
   refine RG_list (l' := #[true, true, true, true, true, true, true, true, false, false, true, true, false, false, false]) (by kernel_rfl) ?_
   exact hD19 (b5_7, b6_7, v_43, v_46, v_48, _) _ _ ⟨h3, rfl, h6, h43, h46, h48, (fun F hc => q7 F (hc)), (row_set_fresh hf_b5_7 kc7), h, hp⟩
 refine RG_share (A := (Array Value) × (Array Value) × (Array Value) × (World → Prop)) (fun a E F => match a with | (v_43, v_46, v_48, S7) => E 3 = (.bool v_40) ∧ E 43 = (.agg v_43) ∧ E 46 = (.agg v_46) ∧ E 48 = (.agg v_48) ∧ (∀ F : PH, F.row (Addr.add (Addr.mk b1 0 none) (Int.toNat (2 : Int) * 2)) v_48 → allW F S7) ∧ (F.row (Addr.add (Addr.mk b1 0 none) (Int.toNat (2 : Int) * 2)) v_48) ∧ b5d2 v_48 v_43 v_46 v_40 R F ∧ holdF [(7, S7)] F) 7 #[true, true, true, true, true, true, true, true, false, false, false, false, false, false, false] (fun a => match a with | (v_43, v_46, v_48, S7) => [(7, S7)]) ?_ (fun hD2 => ?_)
 ·
  clear h hp; rintro ⟨v_43, v_46, v_48, S7⟩ E F ⟨h3, h43, h46, h48, q7, kc7, h, hp⟩
  unfold b5d2 at h
  refine RG_eff (rs := [8, 9, 10, 11]) (by kernel_rfl) rfl ?_
  obtain ⟨ha0, ha1, ha2, ha3⟩ := h
  simp only [List.mem_cons, List.not_mem_nil, or_false, forall_eq_or_imp, forall_eq]
  refine ⟨?_, ?_, ?_, ?_⟩
  ·
   have h := ha0; clear ha0 ha1 ha2 ha3
   refine g_op (Sp' := []) rfl rfl (k_call (vs := [(.agg v_48)]) cb16 (evC h48 evN) (h.mono ?_))
   clear h; rintro v F ⟨v_49, rfl, h⟩
   refine holdI hold0 (fun hp => ?_)
   refine RG_list (l' := #[true, true, true, true, true, true, true, true, true, false, false, false, false, false, false]) (by kernel_rfl) ?_
   exact hD3 (v_43, v_46, v_49) _ _ ⟨h3, h43, h46, rfl, h, hp⟩
  ·
   have h := ha1; clear ha0 ha1 ha2 ha3
   refine g_op (Sp' := [(7, S7)]) rfl rfl (k_alloc zr28 ?_)
   intro b4_4 hf_b4_4
   replace h := atE (h b4_4 hf_b4_4)
   refine holdI (holdC (i := 7) (q7 _ ((row_set_fresh hf_b4_4 kc7))) hold0) (fun hp => ?_)
   refine RG_list (l' := #[true, true, true, true, true, true, true, true, false, true, false, false, false, false, false]) (by kernel_rfl) ?_
   exact hD14 (b4_4, v_43, v_46, v_48, _) _ _ ⟨h3, rfl, h43, h46, h48, (fun F hc => q7 F (hc)), (row_set_fresh hf_b4_4 kc7), h, hp⟩
  ·
   have h := ha2; clear ha0 ha1 ha2 ha3
   refine g_op (Sp' := [(7, S7)]) rfl rfl (k_alloc zr28 ?_)
   intro b5_6 hf_b5_6
   replace h := atE (h b5_6 hf_b5_6)
   refine holdI (holdC (i := 7) (q7 _ ((row_set_fresh hf_b5_6 kc7))) hold0) (fun hp => ?_)
   refine RG_list (l' := #[true, true, true, true, true, true, true, true, false, false, true, false, false, false, false]) (by kernel_rfl) ?_
   exact hD18 (b5_6, v_43, v_46, v_48, _) _ _ ⟨h3, rfl, h43, h46, h48, (fun F hc => q7 F (hc)), (row_set_fresh hf_b5_6 kc7), h, hp⟩
  ·
   have h := ha3; clear ha0 ha1 ha2 ha3
   refine g_op (Sp' := [(7, S7)]) rfl rfl (k_alloc zr28 ?_)
   intro b6_7 hf_b6_7
   replace h := atE (h b6_7 hf_b6_7)
   refine holdI (holdC (i := 7) (q7 _ ((row_set_fresh hf_b6_7 kc7))) hold0) (fun hp => ?_)
   refine RG_list (l' := #[true, true, true, true, true, true, true, true, false, false, false, true, false, false, false]) (by kernel_rfl) ?_
   exact hD20 (b6_7, v_43, v_46, v_48, _) _ _ ⟨h3, rfl, h43, h46, h48, (fun F hc => q7 F (hc)), (row_set_fresh hf_b6_7 kc7), h, hp⟩
 refine RG_share (A := (Nat) × (Nat) × (Nat) × (Array Value) × (Array Value) × (Array Value) × (World → Prop) × (World → Prop)) (fun a E F => match a with | (b4_8, b5_8, b6_8, v_43, v_45, v_48, S7, S4) => E 3 = (.bool v_40) ∧ E 4 = (.pointer (some (Addr.mk b4_8 0 none))) ∧ E 5 = (.pointer (some (Addr.mk b5_8 0 none))) ∧ E 6 = (.pointer (some (Addr.mk b6_8 0 none))) ∧ E 43 = (.agg v_43) ∧ E 45 = (.agg v_45) ∧ E 48 = (.agg v_48) ∧ (∀ F : PH, F.row (Addr.add (Addr.mk b1 0 none) (Int.toNat (2 : Int) * 2)) v_48 → allW F S7) ∧ (F.row (Addr.add (Addr.mk b1 0 none) (Int.toNat (2 : Int) * 2)) v_48) ∧ (∀ F : PH, F.row (Addr.add (Addr.mk b1 0 none) (Int.toNat (1 : Int) * 2)) v_45 → allW F S4) ∧ (F.row (Addr.add (Addr.mk b1 0 none) (Int.toNat (1 : Int) * 2)) v_45) ∧ b5d23 v_45 b1 v_48 v_43 b4_8 b5_8 b6_8 v_40 R F ∧ holdF [(7, S7), (4, S4)] F) 5 #[true, true, true, true, true, false, true, true, false, true, true, true, false, false, false] (fun a => match a with | (b4_8, b5_8, b6_8, v_43, v_45, v_48, S7, S4) => [(7, S7), (4, S4)]) ?_ (fun hD23 => ?_)
 ·
  clear h hp; rintro ⟨b4_8, b5_8, b6_8, v_43, v_45, v_48, S7, S4⟩ E F ⟨h3, h4, h5, h6, h43, h45, h48, q7, kc7, q4, kc4, h, hp⟩
  unfold b5d23 at h
  refine RG_eff1 (i := 5) (by kernel_rfl) (g_op (Sp' := [(7, S7)]) rfl rfl (k_call (vs := [(.agg v_45)]) cb16 (evC h45 evN) (h.mono ?_)))
  clear h; rintro v F ⟨v_46_3, rfl, h⟩
  obtain ⟨hk_95, h⟩ := h
  refine holdI (holdC (i := 7) (q7 _ (hk_95)) hold0) (fun hp => ?_)
  refine RG_list (l' := #[true, true, true, true, true, true, true, true, false, true, true, true, false, false, false]) (by kernel_rfl) ?_
  exact hD16 (b4_8, b5_8, b6_8, v_43, v_46_3, v_48, _) _ _ ⟨h3, h4, h5, h6, h43, rfl, h48, (fun F hc => q7 F (hc)), hk_95, h, hp⟩
 refine RG_share (A := (Nat) × (Nat) × (Array Value) × (Array Value) × (Array Value) × (World → Prop) × (World → Prop)) (fun a E F => match a with | (b4_8, b5_8, v_43, v_45, v_48, S7, S4) => E 3 = (.bool v_40) ∧ E 4 = (.pointer (some (Addr.mk b4_8 0 none))) ∧ E 5 = (.pointer (some (Addr.mk b5_8 0 none))) ∧ E 43 = (.agg v_43) ∧ E 45 = (.agg v_45) ∧ E 48 = (.agg v_48) ∧ (∀ F : PH, F.row (Addr.add (Addr.mk b1 0 none) (Int.toNat (2 : Int) * 2)) v_48 → allW F S7) ∧ (F.row (Addr.add (Addr.mk b1 0 none) (Int.toNat (2 : Int) * 2)) v_48) ∧ (∀ F : PH, F.row (Addr.add (Addr.mk b1 0 none) (Int.toNat (1 : Int) * 2)) v_45 → allW F S4) ∧ (F.row (Addr.add (Addr.mk b1 0 none) (Int.toNat (1 : Int) * 2)) v_45) ∧ b5d22 v_45 b1 v_48 v_43 b4_8 b5_8 v_40 R F ∧ holdF [(7, S7), (4, S4)] F) 6 #[true, true, true, true, true, false, true, true, false, true, true, false, false, false, false] (fun a => match a with | (b4_8, b5_8, v_43, v_45, v_48, S7, S4) => [(7, S7), (4, S4)]) ?_ (fun hD22 => ?_)
 ·
  clear h hp; rintro ⟨b4_8, b5_8, v_43, v_45, v_48, S7, S4⟩ E F ⟨h3, h4, h5, h43, h45, h48, q7, kc7, q4, kc4, h, hp⟩
  unfold b5d22 at h
  refine RG_eff (rs := [5, 11]) (by kernel_rfl) rfl ?_
  obtain ⟨ha0, ha1⟩ := h
  simp only [List.mem_cons, List.not_mem_nil, or_false, forall_eq_or_imp, forall_eq]
  refine ⟨?_, ?_⟩
  ·
   have h := ha0; clear ha0 ha1
   refine g_op (Sp' := [(7, S7)]) rfl rfl (k_call (vs := [(.agg v_45)]) cb16 (evC h45 evN) (h.mono ?_))
   clear h; rintro v F ⟨v_46_2, rfl, h⟩
   obtain ⟨hk_92, h⟩ := h
   refine holdI (holdC (i := 7) (q7 _ (hk_92)) hold0) (fun hp => ?_)
   refine RG_list (l' := #[true, true, true, true, true, true, true, true, false, true, true, false, false, false, false]) (by kernel_rfl) ?_
   exact hD15 (b4_8, b5_8, v_43, v_46_2, v_48, _) _ _ ⟨h3, h4, h5, h43, rfl, h48, (fun F hc => q7 F (hc)), hk_92, h, hp⟩
  ·
   have h := ha1; clear ha0 ha1
   refine g_op (Sp' := [(7, S7), (4, S4)]) rfl rfl (k_alloc zr28 ?_)
   intro b6_8 hf_b6_8
   replace h := atE (h b6_8 hf_b6_8)
   refine holdI (holdC (i := 7) (q7 _ ((row_set_fresh hf_b6_8 kc7))) (holdC (i := 4) (q4 _ ((row_set_fresh hf_b6_8 kc4))) hold0)) (fun hp => ?_)
   refine RG_list (l' := #[true, true, true, true, true, false, true, true, false, true, true, true, false, false, false]) (by kernel_rfl) ?_
   exact hD23 (b4_8, b5_8, b6_8, v_43, v_45, v_48, _, _) _ _ ⟨h3, h4, h5, rfl, h43, h45, h48, (fun F hc => q7 F (hc)), (row_set_fresh hf_b6_8 kc7), (fun F hc => q4 F (hc)), (row_set_fresh hf_b6_8 kc4), h, hp⟩
 refine RG_share (A := (Nat) × (Nat) × (Array Value) × (Array Value) × (Array Value) × (World → Prop) × (World → Prop)) (fun a E F => match a with | (b4_8, b6_9, v_43, v_45, v_48, S7, S4) => E 3 = (.bool v_40) ∧ E 4 = (.pointer (some (Addr.mk b4_8 0 none))) ∧ E 6 = (.pointer (some (Addr.mk b6_9 0 none))) ∧ E 43 = (.agg v_43) ∧ E 45 = (.agg v_45) ∧ E 48 = (.agg v_48) ∧ (∀ F : PH, F.row (Addr.add (Addr.mk b1 0 none) (Int.toNat (2 : Int) * 2)) v_48 → allW F S7) ∧ (F.row (Addr.add (Addr.mk b1 0 none) (Int.toNat (2 : Int) * 2)) v_48) ∧ (∀ F : PH, F.row (Addr.add (Addr.mk b1 0 none) (Int.toNat (1 : Int) * 2)) v_45 → allW F S4) ∧ (F.row (Addr.add (Addr.mk b1 0 none) (Int.toNat (1 : Int) * 2)) v_45) ∧ b5d24 v_45 b1 v_48 v_43 b4_8 b6_9 v_40 R F ∧ holdF [(7, S7), (4, S4)] F) 6 #[true, true, true, true, true, false, true, true, false, true, false, true, false, false, false] (fun a => match a with | (b4_8, b6_9, v_43, v_45, v_48, S7, S4) => [(7, S7), (4, S4)]) ?_ (fun hD24 => ?_)
 ·
  clear h hp; rintro ⟨b4_8, b6_9, v_43, v_45, v_48, S7, S4⟩ E F ⟨h3, h4, h6, h43, h45, h48, q7, kc7, q4, kc4, h, hp⟩
  unfold b5d24 at h
  refine RG_eff (rs := [5, 10]) (by kernel_rfl) rfl ?_
  obtain ⟨ha0, ha1⟩ := h
  simp only [List.mem_cons, List.not_mem_nil, or_false, forall_eq_or_imp, forall_eq]
  refine ⟨?_, ?_⟩
  ·
   have h := ha0; clear ha0 ha1
   refine g_op (Sp' := [(7, S7)]) rfl rfl (k_call (vs := [(.agg v_45)]) cb16 (evC h45 evN) (h.mono ?_))
   clear h; rintro v F ⟨v_46_4, rfl, h⟩
   obtain ⟨hk_98, h⟩ := h
   refine holdI (holdC (i := 7) (q7 _ (hk_98)) hold0) (fun hp => ?_)
   refine RG_list (l' := #[true, true, true, true, true, true, true, true, false, true, false, true, false, false, false]) (by kernel_rfl) ?_
   exact hD17 (b4_8, b6_9, v_43, v_46_4, v_48, _) _ _ ⟨h3, h4, h6, h43, rfl, h48, (fun F hc => q7 F (hc)), hk_98, h, hp⟩
  ·
   have h := ha1; clear ha0 ha1
   refine g_op (Sp' := [(7, S7), (4, S4)]) rfl rfl (k_alloc zr28 ?_)
   intro b5_9 hf_b5_9
   replace h := atE (h b5_9 hf_b5_9)
   refine holdI (holdC (i := 7) (q7 _ ((row_set_fresh hf_b5_9 kc7))) (holdC (i := 4) (q4 _ ((row_set_fresh hf_b5_9 kc4))) hold0)) (fun hp => ?_)
   refine RG_list (l' := #[true, true, true, true, true, false, true, true, false, true, true, true, false, false, false]) (by kernel_rfl) ?_
   exact hD23 (b4_8, b5_9, b6_9, v_43, v_45, v_48, _, _) _ _ ⟨h3, h4, rfl, h6, h43, h45, h48, (fun F hc => q7 F (hc)), (row_set_fresh hf_b5_9 kc7), (fun F hc => q4 F (hc)), (row_set_fresh hf_b5_9 kc4), h, hp⟩
 refine RG_share (A := (Nat) × (Array Value) × (Array Value) × (Array Value) × (World → Prop) × (World → Prop)) (fun a E F => match a with | (b4_8, v_43, v_45, v_48, S7, S4) => E 3 = (.bool v_40) ∧ E 4 = (.pointer (some (Addr.mk b4_8 0 none))) ∧ E 43 = (.agg v_43) ∧ E 45 = (.agg v_45) ∧ E 48 = (.agg v_48) ∧ (∀ F : PH, F.row (Addr.add (Addr.mk b1 0 none) (Int.toNat (2 : Int) * 2)) v_48 → allW F S7) ∧ (F.row (Addr.add (Addr.mk b1 0 none) (Int.toNat (2 : Int) * 2)) v_48) ∧ (∀ F : PH, F.row (Addr.add (Addr.mk b1 0 none) (Int.toNat (1 : Int) * 2)) v_45 → allW F S4) ∧ (F.row (Addr.add (Addr.mk b1 0 none) (Int.toNat (1 : Int) * 2)) v_45) ∧ b5d21 v_45 b1 v_48 v_43 b4_8 v_40 R F ∧ holdF [(7, S7), (4, S4)] F) 7 #[true, true, true, true, true, false, true, true, false, true, false, false, false, false, false] (fun a => match a with | (b4_8, v_43, v_45, v_48, S7, S4) => [(7, S7), (4, S4)]) ?_ (fun hD21 => ?_)
 ·
  clear h hp; rintro ⟨b4_8, v_43, v_45, v_48, S7, S4⟩ E F ⟨h3, h4, h43, h45, h48, q7, kc7, q4, kc4, h, hp⟩
  unfold b5d21 at h
  refine RG_eff (rs := [5, 10, 11]) (by kernel_rfl) rfl ?_
  obtain ⟨ha0, ha1, ha2⟩ := h
  simp only [List.mem_cons, List.not_mem_nil, or_false, forall_eq_or_imp, forall_eq]
  refine ⟨?_, ?_, ?_⟩
  ·
   have h := ha0; clear ha0 ha1 ha2
   refine g_op (Sp' := [(7, S7)]) rfl rfl (k_call (vs := [(.agg v_45)]) cb16 (evC h45 evN) (h.mono ?_))
   clear h; rintro v F ⟨v_46_1, rfl, h⟩
   obtain ⟨hk_89, h⟩ := h
   refine holdI (holdC (i := 7) (q7 _ (hk_89)) hold0) (fun hp => ?_)
   refine RG_list (l' := #[true, true, true, true, true, true, true, true, false, true, false, false, false, false, false]) (by kernel_rfl) ?_
   exact hD14 (b4_8, v_43, v_46_1, v_48, _) _ _ ⟨h3, h4, h43, rfl, h48, (fun F hc => q7 F (hc)), hk_89, h, hp⟩
  ·
   have h := ha1; clear ha0 ha1 ha2
   refine g_op (Sp' := [(7, S7), (4, S4)]) rfl rfl (k_alloc zr28 ?_)
   intro b5_8 hf_b5_8
   replace h := atE (h b5_8 hf_b5_8)
   refine holdI (holdC (i := 7) (q7 _ ((row_set_fresh hf_b5_8 kc7))) (holdC (i := 4) (q4 _ ((row_set_fresh hf_b5_8 kc4))) hold0)) (fun hp => ?_)
   refine RG_list (l' := #[true, true, true, true, true, false, true, true, false, true, true, false, false, false, false]) (by kernel_rfl) ?_
   exact hD22 (b4_8, b5_8, v_43, v_45, v_48, _, _) _ _ ⟨h3, h4, rfl, h43, h45, h48, (fun F hc => q7 F (hc)), (row_set_fresh hf_b5_8 kc7), (fun F hc => q4 F (hc)), (row_set_fresh hf_b5_8 kc4), h, hp⟩
  ·
   have h := ha2; clear ha0 ha1 ha2
   refine g_op (Sp' := [(7, S7), (4, S4)]) rfl rfl (k_alloc zr28 ?_)
   intro b6_9 hf_b6_9
   replace h := atE (h b6_9 hf_b6_9)
   refine holdI (holdC (i := 7) (q7 _ ((row_set_fresh hf_b6_9 kc7))) (holdC (i := 4) (q4 _ ((row_set_fresh hf_b6_9 kc4))) hold0)) (fun hp => ?_)
   refine RG_list (l' := #[true, true, true, true, true, false, true, true, false, true, false, true, false, false, false]) (by kernel_rfl) ?_
   exact hD24 (b4_8, b6_9, v_43, v_45, v_48, _, _) _ _ ⟨h3, h4, rfl, h43, h45, h48, (fun F hc => q7 F (hc)), (row_set_fresh hf_b6_9 kc7), (fun F hc => q4 F (hc)), (row_set_fresh hf_b6_9 kc4), h, hp⟩
 refine RG_share (A := (Nat) × (Nat) × (Array Value) × (Array Value) × (Array Value) × (World → Prop) × (World → Prop)) (fun a E F => match a with | (b5_10, b6_10, v_43, v_45, v_48, S7, S4) => E 3 = (.bool v_40) ∧ E 5 = (.pointer (some (Addr.mk b5_10 0 none))) ∧ E 6 = (.pointer (some (Addr.mk b6_10 0 none))) ∧ E 43 = (.agg v_43) ∧ E 45 = (.agg v_45) ∧ E 48 = (.agg v_48) ∧ (∀ F : PH, F.row (Addr.add (Addr.mk b1 0 none) (Int.toNat (2 : Int) * 2)) v_48 → allW F S7) ∧ (F.row (Addr.add (Addr.mk b1 0 none) (Int.toNat (2 : Int) * 2)) v_48) ∧ (∀ F : PH, F.row (Addr.add (Addr.mk b1 0 none) (Int.toNat (1 : Int) * 2)) v_45 → allW F S4) ∧ (F.row (Addr.add (Addr.mk b1 0 none) (Int.toNat (1 : Int) * 2)) v_45) ∧ b5d26 v_45 b1 v_48 v_43 b5_10 b6_10 v_40 R F ∧ holdF [(7, S7), (4, S4)] F) 6 #[true, true, true, true, true, false, true, true, false, false, true, true, false, false, false] (fun a => match a with | (b5_10, b6_10, v_43, v_45, v_48, S7, S4) => [(7, S7), (4, S4)]) ?_ (fun hD26 => ?_)
 ·
  clear h hp; rintro ⟨b5_10, b6_10, v_43, v_45, v_48, S7, S4⟩ E F ⟨h3, h5, h6, h43, h45, h48, q7, kc7, q4, kc4, h, hp⟩
  unfold b5d26 at h
  refine RG_eff (rs := [5, 9]) (by kernel_rfl) rfl ?_
  obtain ⟨ha0, ha1⟩ := h
  simp only [List.mem_cons, List.not_mem_nil, or_false, forall_eq_or_imp, forall_eq]
  refine ⟨?_, ?_⟩
  ·
   have h := ha0; clear ha0 ha1
   refine g_op (Sp' := [(7, S7)]) rfl rfl (k_call (vs := [(.agg v_45)]) cb16 (evC h45 evN) (h.mono ?_))
   clear h; rintro v F ⟨v_46_6, rfl, h⟩
   obtain ⟨hk_104, h⟩ := h
   refine holdI (holdC (i := 7) (q7 _ (hk_104)) hold0) (fun hp => ?_)
   refine RG_list (l' := #[true, true, true, true, true, true, true, true, false, false, true, true, false, false, false]) (by kernel_rfl) ?_
   exact hD19 (b5_10, b6_10, v_43, v_46_6, v_48, _) _ _ ⟨h3, h5, h6, h43, rfl, h48, (fun F hc => q7 F (hc)), hk_104, h, hp⟩
  ·
   have h := ha1; clear ha0 ha1
   refine g_op (Sp' := [(7, S7), (4, S4)]) rfl rfl (k_alloc zr28 ?_)
   intro b4_10 hf_b4_10
   replace h := atE (h b4_10 hf_b4_10)
   refine holdI (holdC (i := 7) (q7 _ ((row_set_fresh hf_b4_10 kc7))) (holdC (i := 4) (q4 _ ((row_set_fresh hf_b4_10 kc4))) hold0)) (fun hp => ?_)
   refine RG_list (l' := #[true, true, true, true, true, false, true, true, false, true, true, true, false, false, false]) (by kernel_rfl) ?_
   exact hD23 (b4_10, b5_10, b6_10, v_43, v_45, v_48, _, _) _ _ ⟨h3, rfl, h5, h6, h43, h45, h48, (fun F hc => q7 F (hc)), (row_set_fresh hf_b4_10 kc7), (fun F hc => q4 F (hc)), (row_set_fresh hf_b4_10 kc4), h, hp⟩
 refine RG_share (A := (Nat) × (Array Value) × (Array Value) × (Array Value) × (World → Prop) × (World → Prop)) (fun a E F => match a with | (b5_10, v_43, v_45, v_48, S7, S4) => E 3 = (.bool v_40) ∧ E 5 = (.pointer (some (Addr.mk b5_10 0 none))) ∧ E 43 = (.agg v_43) ∧ E 45 = (.agg v_45) ∧ E 48 = (.agg v_48) ∧ (∀ F : PH, F.row (Addr.add (Addr.mk b1 0 none) (Int.toNat (2 : Int) * 2)) v_48 → allW F S7) ∧ (F.row (Addr.add (Addr.mk b1 0 none) (Int.toNat (2 : Int) * 2)) v_48) ∧ (∀ F : PH, F.row (Addr.add (Addr.mk b1 0 none) (Int.toNat (1 : Int) * 2)) v_45 → allW F S4) ∧ (F.row (Addr.add (Addr.mk b1 0 none) (Int.toNat (1 : Int) * 2)) v_45) ∧ b5d25 v_45 b1 v_48 v_43 b5_10 v_40 R F ∧ holdF [(7, S7), (4, S4)] F) 7 #[true, true, true, true, true, false, true, true, false, false, true, false, false, false, false] (fun a => match a with | (b5_10, v_43, v_45, v_48, S7, S4) => [(7, S7), (4, S4)]) ?_ (fun hD25 => ?_)
 ·
  clear h hp; rintro ⟨b5_10, v_43, v_45, v_48, S7, S4⟩ E F ⟨h3, h5, h43, h45, h48, q7, kc7, q4, kc4, h, hp⟩
  unfold b5d25 at h
  refine RG_eff (rs := [5, 9, 11]) (by kernel_rfl) rfl ?_
  obtain ⟨ha0, ha1, ha2⟩ := h
  simp only [List.mem_cons, List.not_mem_nil, or_false, forall_eq_or_imp, forall_eq]
  refine ⟨?_, ?_, ?_⟩
  ·
   have h := ha0; clear ha0 ha1 ha2
   refine g_op (Sp' := [(7, S7)]) rfl rfl (k_call (vs := [(.agg v_45)]) cb16 (evC h45 evN) (h.mono ?_))
   clear h; rintro v F ⟨v_46_5, rfl, h⟩
   obtain ⟨hk_101, h⟩ := h
   refine holdI (holdC (i := 7) (q7 _ (hk_101)) hold0) (fun hp => ?_)
   refine RG_list (l' := #[true, true, true, true, true, true, true, true, false, false, true, false, false, false, false]) (by kernel_rfl) ?_
   exact hD18 (b5_10, v_43, v_46_5, v_48, _) _ _ ⟨h3, h5, h43, rfl, h48, (fun F hc => q7 F (hc)), hk_101, h, hp⟩
  ·
   have h := ha1; clear ha0 ha1 ha2
   refine g_op (Sp' := [(7, S7), (4, S4)]) rfl rfl (k_alloc zr28 ?_)
   intro b4_9 hf_b4_9
   replace h := atE (h b4_9 hf_b4_9)
   refine holdI (holdC (i := 7) (q7 _ ((row_set_fresh hf_b4_9 kc7))) (holdC (i := 4) (q4 _ ((row_set_fresh hf_b4_9 kc4))) hold0)) (fun hp => ?_)
   refine RG_list (l' := #[true, true, true, true, true, false, true, true, false, true, true, false, false, false, false]) (by kernel_rfl) ?_
   exact hD22 (b4_9, b5_10, v_43, v_45, v_48, _, _) _ _ ⟨h3, rfl, h5, h43, h45, h48, (fun F hc => q7 F (hc)), (row_set_fresh hf_b4_9 kc7), (fun F hc => q4 F (hc)), (row_set_fresh hf_b4_9 kc4), h, hp⟩
  ·
   have h := ha2; clear ha0 ha1 ha2
   refine g_op (Sp' := [(7, S7), (4, S4)]) rfl rfl (k_alloc zr28 ?_)
   intro b6_10 hf_b6_10
   replace h := atE (h b6_10 hf_b6_10)
   refine holdI (holdC (i := 7) (q7 _ ((row_set_fresh hf_b6_10 kc7))) (holdC (i := 4) (q4 _ ((row_set_fresh hf_b6_10 kc4))) hold0)) (fun hp => ?_)
   refine RG_list (l' := #[true, true, true, true, true, false, true, true, false, false, true, true, false, false, false]) (by kernel_rfl) ?_
   exact hD26 (b5_10, b6_10, v_43, v_45, v_48, _, _) _ _ ⟨h3, h5, rfl, h43, h45, h48, (fun F hc => q7 F (hc)), (row_set_fresh hf_b6_10 kc7), (fun F hc => q4 F (hc)), (row_set_fresh hf_b6_10 kc4), h, hp⟩
 refine RG_share (A := (Nat) × (Array Value) × (Array Value) × (Array Value) × (World → Prop) × (World → Prop)) (fun a E F => match a with | (b6_11, v_43, v_45, v_48, S7, S4) => E 3 = (.bool v_40) ∧ E 6 = (.pointer (some (Addr.mk b6_11 0 none))) ∧ E 43 = (.agg v_43) ∧ E 45 = (.agg v_45) ∧ E 48 = (.agg v_48) ∧ (∀ F : PH, F.row (Addr.add (Addr.mk b1 0 none) (Int.toNat (2 : Int) * 2)) v_48 → allW F S7) ∧ (F.row (Addr.add (Addr.mk b1 0 none) (Int.toNat (2 : Int) * 2)) v_48) ∧ (∀ F : PH, F.row (Addr.add (Addr.mk b1 0 none) (Int.toNat (1 : Int) * 2)) v_45 → allW F S4) ∧ (F.row (Addr.add (Addr.mk b1 0 none) (Int.toNat (1 : Int) * 2)) v_45) ∧ b5d27 v_45 b1 v_48 v_43 b6_11 v_40 R F ∧ holdF [(7, S7), (4, S4)] F) 7 #[true, true, true, true, true, false, true, true, false, false, false, true, false, false, false] (fun a => match a with | (b6_11, v_43, v_45, v_48, S7, S4) => [(7, S7), (4, S4)]) ?_ (fun hD27 => ?_)
 ·
  clear h hp; rintro ⟨b6_11, v_43, v_45, v_48, S7, S4⟩ E F ⟨h3, h6, h43, h45, h48, q7, kc7, q4, kc4, h, hp⟩
  unfold b5d27 at h
  refine RG_eff (rs := [5, 9, 10]) (by kernel_rfl) rfl ?_
  obtain ⟨ha0, ha1, ha2⟩ := h
  simp only [List.mem_cons, List.not_mem_nil, or_false, forall_eq_or_imp, forall_eq]
  refine ⟨?_, ?_, ?_⟩
  ·
   have h := ha0; clear ha0 ha1 ha2
   refine g_op (Sp' := [(7, S7)]) rfl rfl (k_call (vs := [(.agg v_45)]) cb16 (evC h45 evN) (h.mono ?_))
   clear h; rintro v F ⟨v_46_7, rfl, h⟩
   obtain ⟨hk_107, h⟩ := h
   refine holdI (holdC (i := 7) (q7 _ (hk_107)) hold0) (fun hp => ?_)
   refine RG_list (l' := #[true, true, true, true, true, true, true, true, false, false, false, true, false, false, false]) (by kernel_rfl) ?_
   exact hD20 (b6_11, v_43, v_46_7, v_48, _) _ _ ⟨h3, h6, h43, rfl, h48, (fun F hc => q7 F (hc)), hk_107, h, hp⟩
  ·
   have h := ha1; clear ha0 ha1 ha2
   refine g_op (Sp' := [(7, S7), (4, S4)]) rfl rfl (k_alloc zr28 ?_)
   intro b4_11 hf_b4_11
   replace h := atE (h b4_11 hf_b4_11)
   refine holdI (holdC (i := 7) (q7 _ ((row_set_fresh hf_b4_11 kc7))) (holdC (i := 4) (q4 _ ((row_set_fresh hf_b4_11 kc4))) hold0)) (fun hp => ?_)
   refine RG_list (l' := #[true, true, true, true, true, false, true, true, false, true, false, true, false, false, false]) (by kernel_rfl) ?_
   exact hD24 (b4_11, b6_11, v_43, v_45, v_48, _, _) _ _ ⟨h3, rfl, h6, h43, h45, h48, (fun F hc => q7 F (hc)), (row_set_fresh hf_b4_11 kc7), (fun F hc => q4 F (hc)), (row_set_fresh hf_b4_11 kc4), h, hp⟩
  ·
   have h := ha2; clear ha0 ha1 ha2
   refine g_op (Sp' := [(7, S7), (4, S4)]) rfl rfl (k_alloc zr28 ?_)
   intro b5_11 hf_b5_11
   replace h := atE (h b5_11 hf_b5_11)
   refine holdI (holdC (i := 7) (q7 _ ((row_set_fresh hf_b5_11 kc7))) (holdC (i := 4) (q4 _ ((row_set_fresh hf_b5_11 kc4))) hold0)) (fun hp => ?_)
   refine RG_list (l' := #[true, true, true, true, true, false, true, true, false, false, true, true, false, false, false]) (by kernel_rfl) ?_
   exact hD26 (b5_11, b6_11, v_43, v_45, v_48, _, _) _ _ ⟨h3, rfl, h6, h43, h45, h48, (fun F hc => q7 F (hc)), (row_set_fresh hf_b5_11 kc7), (fun F hc => q4 F (hc)), (row_set_fresh hf_b5_11 kc4), h, hp⟩
 refine RG_share (A := (Array Value) × (Array Value) × (Array Value) × (World → Prop) × (World → Prop)) (fun a E F => match a with | (v_43, v_45, v_48, S7, S4) => E 3 = (.bool v_40) ∧ E 43 = (.agg v_43) ∧ E 45 = (.agg v_45) ∧ E 48 = (.agg v_48) ∧ (∀ F : PH, F.row (Addr.add (Addr.mk b1 0 none) (Int.toNat (2 : Int) * 2)) v_48 → allW F S7) ∧ (F.row (Addr.add (Addr.mk b1 0 none) (Int.toNat (2 : Int) * 2)) v_48) ∧ (∀ F : PH, F.row (Addr.add (Addr.mk b1 0 none) (Int.toNat (1 : Int) * 2)) v_45 → allW F S4) ∧ (F.row (Addr.add (Addr.mk b1 0 none) (Int.toNat (1 : Int) * 2)) v_45) ∧ b5d1 v_45 b1 v_48 v_43 v_40 R F ∧ holdF [(7, S7), (4, S4)] F) 8 #[true, true, true, true, true, false, true, true, false, false, false, false, false, false, false] (fun a => match a with | (v_43, v_45, v_48, S7, S4) => [(7, S7), (4, S4)]) ?_ (fun hD1 => ?_)
 ·
  clear h hp; rintro ⟨v_43, v_45, v_48, S7, S4⟩ E F ⟨h3, h43, h45, h48, q7, kc7, q4, kc4, h, hp⟩
  unfold b5d1 at h
  refine RG_eff (rs := [5, 9, 10, 11]) (by kernel_rfl) rfl ?_
  obtain ⟨ha0, ha1, ha2, ha3⟩ := h
  simp only [List.mem_cons, List.not_mem_nil, or_false, forall_eq_or_imp, forall_eq]
  refine ⟨?_, ?_, ?_, ?_⟩
  ·
   have h := ha0; clear ha0 ha1 ha2 ha3
   refine g_op (Sp' := [(7, S7)]) rfl rfl (k_call (vs := [(.agg v_45)]) cb16 (evC h45 evN) (h.mono ?_))
   clear h; rintro v F ⟨v_46, rfl, h⟩
   obtain ⟨hk_74, h⟩ := h
   refine holdI (holdC (i := 7) (q7 _ (hk_74)) hold0) (fun hp => ?_)
   refine RG_list (l' := #[true, true, true, true, true, true, true, true, false, false, false, false, false, false, false]) (by kernel_rfl) ?_
   exact hD2 (v_43, v_46, v_48, _) _ _ ⟨h3, h43, rfl, h48, (fun F hc => q7 F (hc)), hk_74, h, hp⟩
  ·
   have h := ha1; clear ha0 ha1 ha2 ha3
   refine g_op (Sp' := [(7, S7), (4, S4)]) rfl rfl (k_alloc zr28 ?_)
   intro b4_8 hf_b4_8
   replace h := atE (h b4_8 hf_b4_8)
   refine holdI (holdC (i := 7) (q7 _ ((row_set_fresh hf_b4_8 kc7))) (holdC (i := 4) (q4 _ ((row_set_fresh hf_b4_8 kc4))) hold0)) (fun hp => ?_)
   refine RG_list (l' := #[true, true, true, true, true, false, true, true, false, true, false, false, false, false, false]) (by kernel_rfl) ?_
   exact hD21 (b4_8, v_43, v_45, v_48, _, _) _ _ ⟨h3, rfl, h43, h45, h48, (fun F hc => q7 F (hc)), (row_set_fresh hf_b4_8 kc7), (fun F hc => q4 F (hc)), (row_set_fresh hf_b4_8 kc4), h, hp⟩
  ·
   have h := ha2; clear ha0 ha1 ha2 ha3
   refine g_op (Sp' := [(7, S7), (4, S4)]) rfl rfl (k_alloc zr28 ?_)
   intro b5_10 hf_b5_10
   replace h := atE (h b5_10 hf_b5_10)
   refine holdI (holdC (i := 7) (q7 _ ((row_set_fresh hf_b5_10 kc7))) (holdC (i := 4) (q4 _ ((row_set_fresh hf_b5_10 kc4))) hold0)) (fun hp => ?_)
   refine RG_list (l' := #[true, true, true, true, true, false, true, true, false, false, true, false, false, false, false]) (by kernel_rfl) ?_
   exact hD25 (b5_10, v_43, v_45, v_48, _, _) _ _ ⟨h3, rfl, h43, h45, h48, (fun F hc => q7 F (hc)), (row_set_fresh hf_b5_10 kc7), (fun F hc => q4 F (hc)), (row_set_fresh hf_b5_10 kc4), h, hp⟩
  ·
   have h := ha3; clear ha0 ha1 ha2 ha3
   refine g_op (Sp' := [(7, S7), (4, S4)]) rfl rfl (k_alloc zr28 ?_)
   intro b6_11 hf_b6_11
   replace h := atE (h b6_11 hf_b6_11)
   refine holdI (holdC (i := 7) (q7 _ ((row_set_fresh hf_b6_11 kc7))) (holdC (i := 4) (q4 _ ((row_set_fresh hf_b6_11 kc4))) hold0)) (fun hp => ?_)
   refine RG_list (l' := #[true, true, true, true, true, false, true, true, false, false, false, true, false, false, false]) (by kernel_rfl) ?_
   exact hD27 (b6_11, v_43, v_45, v_48, _, _) _ _ ⟨h3, rfl, h43, h45, h48, (fun F hc => q7 F (hc)), (row_set_fresh hf_b6_11 kc7), (fun F hc => q4 F (hc)), (row_set_fresh hf_b6_11 kc4), h, hp⟩
 refine RG_share (A := (Nat) × (Nat) × (Nat) × (Array Value) × (Array Value) × (Array Value) × (World → Prop) × (World → Prop) × (World → Prop)) (fun a E F => match a with | (b4_12, b5_12, b6_12, v_42, v_45, v_48, S7, S4, S1) => E 3 = (.bool v_40) ∧ E 4 = (.pointer (some (Addr.mk b4_12 0 none))) ∧ E 5 = (.pointer (some (Addr.mk b5_12 0 none))) ∧ E 6 = (.pointer (some (Addr.mk b6_12 0 none))) ∧ E 42 = (.agg v_42) ∧ E 45 = (.agg v_45) ∧ E 48 = (.agg v_48) ∧ (∀ F : PH, F.row (Addr.add (Addr.mk b1 0 none) (Int.toNat (2 : Int) * 2)) v_48 → allW F S7) ∧ (F.row (Addr.add (Addr.mk b1 0 none) (Int.toNat (2 : Int) * 2)) v_48) ∧ (∀ F : PH, F.row (Addr.add (Addr.mk b1 0 none) (Int.toNat (1 : Int) * 2)) v_45 → allW F S4) ∧ (F.row (Addr.add (Addr.mk b1 0 none) (Int.toNat (1 : Int) * 2)) v_45) ∧ (∀ F : PH, F.row (Addr.add (Addr.mk b1 0 none) (Int.toNat (0 : Int) * 2)) v_42 → allW F S1) ∧ (F.row (Addr.add (Addr.mk b1 0 none) (Int.toNat (0 : Int) * 2)) v_42) ∧ b5d30 v_42 b1 v_48 v_45 b4_12 b5_12 b6_12 v_40 R F ∧ holdF [(7, S7), (4, S4), (1, S1)] F) 6 #[true, true, false, true, true, false, true, true, false, true, true, true, false, false, false] (fun a => match a with | (b4_12, b5_12, b6_12, v_42, v_45, v_48, S7, S4, S1) => [(7, S7), (4, S4), (1, S1)]) ?_ (fun hD30 => ?_)
 ·
  clear h hp; rintro ⟨b4_12, b5_12, b6_12, v_42, v_45, v_48, S7, S4, S1⟩ E F ⟨h3, h4, h5, h6, h42, h45, h48, q7, kc7, q4, kc4, q1, kc1, h, hp⟩
  unfold b5d30 at h
  refine RG_eff1 (i := 2) (by kernel_rfl) (g_op (Sp' := [(7, S7), (4, S4)]) rfl rfl (k_call (vs := [(.agg v_42)]) cb16 (evC h42 evN) (h.mono ?_)))
  clear h; rintro v F ⟨v_43_3, rfl, h⟩
  obtain ⟨hk_121, hk_122, h⟩ := h
  refine holdI (holdC (i := 7) (q7 _ (hk_121)) (holdC (i := 4) (q4 _ (hk_122)) hold0)) (fun hp => ?_)
  refine RG_list (l' := #[true, true, true, true, true, false, true, true, false, true, true, true, false, false, false]) (by kernel_rfl) ?_
  exact hD23 (b4_12, b5_12, b6_12, v_43_3, v_45, v_48, _, _) _ _ ⟨h3, h4, h5, h6, rfl, h45, h48, (fun F hc => q7 F (hc)), hk_121, (fun F hc => q4 F (hc)), hk_122, h, hp⟩
 refine RG_share (A := (Nat) × (Nat) × (Array Value) × (Array Value) × (Array Value) × (World → Prop) × (World → Prop) × (World → Prop)) (fun a E F => match a with | (b4_12, b5_12, v_42, v_45, v_48, S7, S4, S1) => E 3 = (.bool v_40) ∧ E 4 = (.pointer (some (Addr.mk b4_12 0 none))) ∧ E 5 = (.pointer (some (Addr.mk b5_12 0 none))) ∧ E 42 = (.agg v_42) ∧ E 45 = (.agg v_45) ∧ E 48 = (.agg v_48) ∧ (∀ F : PH, F.row (Addr.add (Addr.mk b1 0 none) (Int.toNat (2 : Int) * 2)) v_48 → allW F S7) ∧ (F.row (Addr.add (Addr.mk b1 0 none) (Int.toNat (2 : Int) * 2)) v_48) ∧ (∀ F : PH, F.row (Addr.add (Addr.mk b1 0 none) (Int.toNat (1 : Int) * 2)) v_45 → allW F S4) ∧ (F.row (Addr.add (Addr.mk b1 0 none) (Int.toNat (1 : Int) * 2)) v_45) ∧ (∀ F : PH, F.row (Addr.add (Addr.mk b1 0 none) (Int.toNat (0 : Int) * 2)) v_42 → allW F S1) ∧ (F.row (Addr.add (Addr.mk b1 0 none) (Int.toNat (0 : Int) * 2)) v_42) ∧ b5d29 v_42 b1 v_48 v_45 b4_12 b5_12 v_40 R F ∧ holdF [(7, S7), (4, S4), (1, S1)] F) 7 #[true, true, false, true, true, false, true, true, false, true, true, false, false, false, false] (fun a => match a with | (b4_12, b5_12, v_42, v_45, v_48, S7, S4, S1) => [(7, S7), (4, S4), (1, S1)]) ?_ (fun hD29 => ?_)
 ·
  clear h hp; rintro ⟨b4_12, b5_12, v_42, v_45, v_48, S7, S4, S1⟩ E F ⟨h3, h4, h5, h42, h45, h48, q7, kc7, q4, kc4, q1, kc1, h, hp⟩
  unfold b5d29 at h
  refine RG_eff (rs := [2, 11]) (by kernel_rfl) rfl ?_
  obtain ⟨ha0, ha1⟩ := h
  simp only [List.mem_cons, List.not_mem_nil, or_false, forall_eq_or_imp, forall_eq]
  refine ⟨?_, ?_⟩
  ·
   have h := ha0; clear ha0 ha1
   refine g_op (Sp' := [(7, S7), (4, S4)]) rfl rfl (k_call (vs := [(.agg v_42)]) cb16 (evC h42 evN) (h.mono ?_))
   clear h; rintro v F ⟨v_43_2, rfl, h⟩
   obtain ⟨hk_116, hk_117, h⟩ := h
   refine holdI (holdC (i := 7) (q7 _ (hk_116)) (holdC (i := 4) (q4 _ (hk_117)) hold0)) (fun hp => ?_)
   refine RG_list (l' := #[true, true, true, true, true, false, true, true, false, true, true, false, false, false, false]) (by kernel_rfl) ?_
   exact hD22 (b4_12, b5_12, v_43_2, v_45, v_48, _, _) _ _ ⟨h3, h4, h5, rfl, h45, h48, (fun F hc => q7 F (hc)), hk_116, (fun F hc => q4 F (hc)), hk_117, h, hp⟩
  ·
   have h := ha1; clear ha0 ha1
   refine g_op (Sp' := [(7, S7), (4, S4), (1, S1)]) rfl rfl (k_alloc zr28 ?_)
   intro b6_12 hf_b6_12
   replace h := atE (h b6_12 hf_b6_12)
   refine holdI (holdC (i := 7) (q7 _ ((row_set_fresh hf_b6_12 kc7))) (holdC (i := 4) (q4 _ ((row_set_fresh hf_b6_12 kc4))) (holdC (i := 1) (q1 _ ((row_set_fresh hf_b6_12 kc1))) hold0))) (fun hp => ?_)
   refine RG_list (l' := #[true, true, false, true, true, false, true, true, false, true, true, true, false, false, false]) (by kernel_rfl) ?_
   exact hD30 (b4_12, b5_12, b6_12, v_42, v_45, v_48, _, _, _) _ _ ⟨h3, h4, h5, rfl, h42, h45, h48, (fun F hc => q7 F (hc)), (row_set_fresh hf_b6_12 kc7), (fun F hc => q4 F (hc)), (row_set_fresh hf_b6_12 kc4), (fun F hc => q1 F (hc)), (row_set_fresh hf_b6_12 kc1), h, hp⟩
 refine RG_share (A := (Nat) × (Nat) × (Array Value) × (Array Value) × (Array Value) × (World → Prop) × (World → Prop) × (World → Prop)) (fun a E F => match a with | (b4_12, b6_13, v_42, v_45, v_48, S7, S4, S1) => E 3 = (.bool v_40) ∧ E 4 = (.pointer (some (Addr.mk b4_12 0 none))) ∧ E 6 = (.pointer (some (Addr.mk b6_13 0 none))) ∧ E 42 = (.agg v_42) ∧ E 45 = (.agg v_45) ∧ E 48 = (.agg v_48) ∧ (∀ F : PH, F.row (Addr.add (Addr.mk b1 0 none) (Int.toNat (2 : Int) * 2)) v_48 → allW F S7) ∧ (F.row (Addr.add (Addr.mk b1 0 none) (Int.toNat (2 : Int) * 2)) v_48) ∧ (∀ F : PH, F.row (Addr.add (Addr.mk b1 0 none) (Int.toNat (1 : Int) * 2)) v_45 → allW F S4) ∧ (F.row (Addr.add (Addr.mk b1 0 none) (Int.toNat (1 : Int) * 2)) v_45) ∧ (∀ F : PH, F.row (Addr.add (Addr.mk b1 0 none) (Int.toNat (0 : Int) * 2)) v_42 → allW F S1) ∧ (F.row (Addr.add (Addr.mk b1 0 none) (Int.toNat (0 : Int) * 2)) v_42) ∧ b5d31 v_42 b1 v_48 v_45 b4_12 b6_13 v_40 R F ∧ holdF [(7, S7), (4, S4), (1, S1)] F) 7 #[true, true, false, true, true, false, true, true, false, true, false, true, false, false, false] (fun a => match a with | (b4_12, b6_13, v_42, v_45, v_48, S7, S4, S1) => [(7, S7), (4, S4), (1, S1)]) ?_ (fun hD31 => ?_)
 ·
  clear h hp; rintro ⟨b4_12, b6_13, v_42, v_45, v_48, S7, S4, S1⟩ E F ⟨h3, h4, h6, h42, h45, h48, q7, kc7, q4, kc4, q1, kc1, h, hp⟩
  unfold b5d31 at h
  refine RG_eff (rs := [2, 10]) (by kernel_rfl) rfl ?_
  obtain ⟨ha0, ha1⟩ := h
  simp only [List.mem_cons, List.not_mem_nil, or_false, forall_eq_or_imp, forall_eq]
  refine ⟨?_, ?_⟩
  ·
   have h := ha0; clear ha0 ha1
   refine g_op (Sp' := [(7, S7), (4, S4)]) rfl rfl (k_call (vs := [(.agg v_42)]) cb16 (evC h42 evN) (h.mono ?_))
   clear h; rintro v F ⟨v_43_4, rfl, h⟩
   obtain ⟨hk_126, hk_127, h⟩ := h
   refine holdI (holdC (i := 7) (q7 _ (hk_126)) (holdC (i := 4) (q4 _ (hk_127)) hold0)) (fun hp => ?_)
   refine RG_list (l' := #[true, true, true, true, true, false, true, true, false, true, false, true, false, false, false]) (by kernel_rfl) ?_
   exact hD24 (b4_12, b6_13, v_43_4, v_45, v_48, _, _) _ _ ⟨h3, h4, h6, rfl, h45, h48, (fun F hc => q7 F (hc)), hk_126, (fun F hc => q4 F (hc)), hk_127, h, hp⟩
  ·
   have h := ha1; clear ha0 ha1
   refine g_op (Sp' := [(7, S7), (4, S4), (1, S1)]) rfl rfl (k_alloc zr28 ?_)
   intro b5_13 hf_b5_13
   replace h := atE (h b5_13 hf_b5_13)
   refine holdI (holdC (i := 7) (q7 _ ((row_set_fresh hf_b5_13 kc7))) (holdC (i := 4) (q4 _ ((row_set_fresh hf_b5_13 kc4))) (holdC (i := 1) (q1 _ ((row_set_fresh hf_b5_13 kc1))) hold0))) (fun hp => ?_)
   refine RG_list (l' := #[true, true, false, true, true, false, true, true, false, true, true, true, false, false, false]) (by kernel_rfl) ?_
   exact hD30 (b4_12, b5_13, b6_13, v_42, v_45, v_48, _, _, _) _ _ ⟨h3, h4, rfl, h6, h42, h45, h48, (fun F hc => q7 F (hc)), (row_set_fresh hf_b5_13 kc7), (fun F hc => q4 F (hc)), (row_set_fresh hf_b5_13 kc4), (fun F hc => q1 F (hc)), (row_set_fresh hf_b5_13 kc1), h, hp⟩
 refine RG_share (A := (Nat) × (Array Value) × (Array Value) × (Array Value) × (World → Prop) × (World → Prop) × (World → Prop)) (fun a E F => match a with | (b4_12, v_42, v_45, v_48, S7, S4, S1) => E 3 = (.bool v_40) ∧ E 4 = (.pointer (some (Addr.mk b4_12 0 none))) ∧ E 42 = (.agg v_42) ∧ E 45 = (.agg v_45) ∧ E 48 = (.agg v_48) ∧ (∀ F : PH, F.row (Addr.add (Addr.mk b1 0 none) (Int.toNat (2 : Int) * 2)) v_48 → allW F S7) ∧ (F.row (Addr.add (Addr.mk b1 0 none) (Int.toNat (2 : Int) * 2)) v_48) ∧ (∀ F : PH, F.row (Addr.add (Addr.mk b1 0 none) (Int.toNat (1 : Int) * 2)) v_45 → allW F S4) ∧ (F.row (Addr.add (Addr.mk b1 0 none) (Int.toNat (1 : Int) * 2)) v_45) ∧ (∀ F : PH, F.row (Addr.add (Addr.mk b1 0 none) (Int.toNat (0 : Int) * 2)) v_42 → allW F S1) ∧ (F.row (Addr.add (Addr.mk b1 0 none) (Int.toNat (0 : Int) * 2)) v_42) ∧ b5d28 v_42 b1 v_48 v_45 b4_12 v_40 R F ∧ holdF [(7, S7), (4, S4), (1, S1)] F) 8 #[true, true, false, true, true, false, true, true, false, true, false, false, false, false, false] (fun a => match a with | (b4_12, v_42, v_45, v_48, S7, S4, S1) => [(7, S7), (4, S4), (1, S1)]) ?_ (fun hD28 => ?_)
 ·
  clear h hp; rintro ⟨b4_12, v_42, v_45, v_48, S7, S4, S1⟩ E F ⟨h3, h4, h42, h45, h48, q7, kc7, q4, kc4, q1, kc1, h, hp⟩
  unfold b5d28 at h
  refine RG_eff (rs := [2, 10, 11]) (by kernel_rfl) rfl ?_
  obtain ⟨ha0, ha1, ha2⟩ := h
  simp only [List.mem_cons, List.not_mem_nil, or_false, forall_eq_or_imp, forall_eq]
  refine ⟨?_, ?_, ?_⟩
  ·
   have h := ha0; clear ha0 ha1 ha2
   refine g_op (Sp' := [(7, S7), (4, S4)]) rfl rfl (k_call (vs := [(.agg v_42)]) cb16 (evC h42 evN) (h.mono ?_))
   clear h; rintro v F ⟨v_43_1, rfl, h⟩
   obtain ⟨hk_111, hk_112, h⟩ := h
   refine holdI (holdC (i := 7) (q7 _ (hk_111)) (holdC (i := 4) (q4 _ (hk_112)) hold0)) (fun hp => ?_)
   refine RG_list (l' := #[true, true, true, true, true, false, true, true, false, true, false, false, false, false, false]) (by kernel_rfl) ?_
   exact hD21 (b4_12, v_43_1, v_45, v_48, _, _) _ _ ⟨h3, h4, rfl, h45, h48, (fun F hc => q7 F (hc)), hk_111, (fun F hc => q4 F (hc)), hk_112, h, hp⟩
  ·
   have h := ha1; clear ha0 ha1 ha2
   refine g_op (Sp' := [(7, S7), (4, S4), (1, S1)]) rfl rfl (k_alloc zr28 ?_)
   intro b5_12 hf_b5_12
   replace h := atE (h b5_12 hf_b5_12)
   refine holdI (holdC (i := 7) (q7 _ ((row_set_fresh hf_b5_12 kc7))) (holdC (i := 4) (q4 _ ((row_set_fresh hf_b5_12 kc4))) (holdC (i := 1) (q1 _ ((row_set_fresh hf_b5_12 kc1))) hold0))) (fun hp => ?_)
   refine RG_list (l' := #[true, true, false, true, true, false, true, true, false, true, true, false, false, false, false]) (by kernel_rfl) ?_
   exact hD29 (b4_12, b5_12, v_42, v_45, v_48, _, _, _) _ _ ⟨h3, h4, rfl, h42, h45, h48, (fun F hc => q7 F (hc)), (row_set_fresh hf_b5_12 kc7), (fun F hc => q4 F (hc)), (row_set_fresh hf_b5_12 kc4), (fun F hc => q1 F (hc)), (row_set_fresh hf_b5_12 kc1), h, hp⟩
  ·
   have h := ha2; clear ha0 ha1 ha2
   refine g_op (Sp' := [(7, S7), (4, S4), (1, S1)]) rfl rfl (k_alloc zr28 ?_)
   intro b6_13 hf_b6_13
   replace h := atE (h b6_13 hf_b6_13)
   refine holdI (holdC (i := 7) (q7 _ ((row_set_fresh hf_b6_13 kc7))) (holdC (i := 4) (q4 _ ((row_set_fresh hf_b6_13 kc4))) (holdC (i := 1) (q1 _ ((row_set_fresh hf_b6_13 kc1))) hold0))) (fun hp => ?_)
   refine RG_list (l' := #[true, true, false, true, true, false, true, true, false, true, false, true, false, false, false]) (by kernel_rfl) ?_
   exact hD31 (b4_12, b6_13, v_42, v_45, v_48, _, _, _) _ _ ⟨h3, h4, rfl, h42, h45, h48, (fun F hc => q7 F (hc)), (row_set_fresh hf_b6_13 kc7), (fun F hc => q4 F (hc)), (row_set_fresh hf_b6_13 kc4), (fun F hc => q1 F (hc)), (row_set_fresh hf_b6_13 kc1), h, hp⟩
 refine RG_share (A := (Nat) × (Nat) × (Array Value) × (Array Value) × (Array Value) × (World → Prop) × (World → Prop) × (World → Prop)) (fun a E F => match a with | (b5_14, b6_14, v_42, v_45, v_48, S7, S4, S1) => E 3 = (.bool v_40) ∧ E 5 = (.pointer (some (Addr.mk b5_14 0 none))) ∧ E 6 = (.pointer (some (Addr.mk b6_14 0 none))) ∧ E 42 = (.agg v_42) ∧ E 45 = (.agg v_45) ∧ E 48 = (.agg v_48) ∧ (∀ F : PH, F.row (Addr.add (Addr.mk b1 0 none) (Int.toNat (2 : Int) * 2)) v_48 → allW F S7) ∧ (F.row (Addr.add (Addr.mk b1 0 none) (Int.toNat (2 : Int) * 2)) v_48) ∧ (∀ F : PH, F.row (Addr.add (Addr.mk b1 0 none) (Int.toNat (1 : Int) * 2)) v_45 → allW F S4) ∧ (F.row (Addr.add (Addr.mk b1 0 none) (Int.toNat (1 : Int) * 2)) v_45) ∧ (∀ F : PH, F.row (Addr.add (Addr.mk b1 0 none) (Int.toNat (0 : Int) * 2)) v_42 → allW F S1) ∧ (F.row (Addr.add (Addr.mk b1 0 none) (Int.toNat (0 : Int) * 2)) v_42) ∧ b5d33 v_42 b1 v_48 v_45 b5_14 b6_14 v_40 R F ∧ holdF [(7, S7), (4, S4), (1, S1)] F) 7 #[true, true, false, true, true, false, true, true, false, false, true, true, false, false, false] (fun a => match a with | (b5_14, b6_14, v_42, v_45, v_48, S7, S4, S1) => [(7, S7), (4, S4), (1, S1)]) ?_ (fun hD33 => ?_)
 ·
  clear h hp; rintro ⟨b5_14, b6_14, v_42, v_45, v_48, S7, S4, S1⟩ E F ⟨h3, h5, h6, h42, h45, h48, q7, kc7, q4, kc4, q1, kc1, h, hp⟩
  unfold b5d33 at h
  refine RG_eff (rs := [2, 9]) (by kernel_rfl) rfl ?_
  obtain ⟨ha0, ha1⟩ := h
  simp only [List.mem_cons, List.not_mem_nil, or_false, forall_eq_or_imp, forall_eq]
  refine ⟨?_, ?_⟩
  ·
   have h := ha0; clear ha0 ha1
   refine g_op (Sp' := [(7, S7), (4, S4)]) rfl rfl (k_call (vs := [(.agg v_42)]) cb16 (evC h42 evN) (h.mono ?_))
   clear h; rintro v F ⟨v_43_6, rfl, h⟩
   obtain ⟨hk_136, hk_137, h⟩ := h
   refine holdI (holdC (i := 7) (q7 _ (hk_136)) (holdC (i := 4) (q4 _ (hk_137)) hold0)) (fun hp => ?_)
   refine RG_list (l' := #[true, true, true, true, true, false, true, true, false, false, true, true, false, false, false]) (by kernel_rfl) ?_
   exact hD26 (b5_14, b6_14, v_43_6, v_45, v_48, _, _) _ _ ⟨h3, h5, h6, rfl, h45, h48, (fun F hc => q7 F (hc)), hk_136, (fun F hc => q4 F (hc)), hk_137, h, hp⟩
  ·
   have h := ha1; clear ha0 ha1
   refine g_op (Sp' := [(7, S7), (4, S4), (1, S1)]) rfl rfl (k_alloc zr28 ?_)
   intro b4_14 hf_b4_14
   replace h := atE (h b4_14 hf_b4_14)
   refine holdI (holdC (i := 7) (q7 _ ((row_set_fresh hf_b4_14 kc7))) (holdC (i := 4) (q4 _ ((row_set_fresh hf_b4_14 kc4))) (holdC (i := 1) (q1 _ ((row_set_fresh hf_b4_14 kc1))) hold0))) (fun hp => ?_)
   refine RG_list (l' := #[true, true, false, true, true, false, true, true, false, true, true, true, false, false, false]) (by kernel_rfl) ?_
   exact hD30 (b4_14, b5_14, b6_14, v_42, v_45, v_48, _, _, _) _ _ ⟨h3, rfl, h5, h6, h42, h45, h48, (fun F hc => q7 F (hc)), (row_set_fresh hf_b4_14 kc7), (fun F hc => q4 F (hc)), (row_set_fresh hf_b4_14 kc4), (fun F hc => q1 F (hc)), (row_set_fresh hf_b4_14 kc1), h, hp⟩
 refine RG_share (A := (Nat) × (Array Value) × (Array Value) × (Array Value) × (World → Prop) × (World → Prop) × (World → Prop)) (fun a E F => match a with | (b5_14, v_42, v_45, v_48, S7, S4, S1) => E 3 = (.bool v_40) ∧ E 5 = (.pointer (some (Addr.mk b5_14 0 none))) ∧ E 42 = (.agg v_42) ∧ E 45 = (.agg v_45) ∧ E 48 = (.agg v_48) ∧ (∀ F : PH, F.row (Addr.add (Addr.mk b1 0 none) (Int.toNat (2 : Int) * 2)) v_48 → allW F S7) ∧ (F.row (Addr.add (Addr.mk b1 0 none) (Int.toNat (2 : Int) * 2)) v_48) ∧ (∀ F : PH, F.row (Addr.add (Addr.mk b1 0 none) (Int.toNat (1 : Int) * 2)) v_45 → allW F S4) ∧ (F.row (Addr.add (Addr.mk b1 0 none) (Int.toNat (1 : Int) * 2)) v_45) ∧ (∀ F : PH, F.row (Addr.add (Addr.mk b1 0 none) (Int.toNat (0 : Int) * 2)) v_42 → allW F S1) ∧ (F.row (Addr.add (Addr.mk b1 0 none) (Int.toNat (0 : Int) * 2)) v_42) ∧ b5d32 v_42 b1 v_48 v_45 b5_14 v_40 R F ∧ holdF [(7, S7), (4, S4), (1, S1)] F) 8 #[true, true, false, true, true, false, true, true, false, false, true, false, false, false, false] (fun a => match a with | (b5_14, v_42, v_45, v_48, S7, S4, S1) => [(7, S7), (4, S4), (1, S1)]) ?_ (fun hD32 => ?_)
 ·
  clear h hp; rintro ⟨b5_14, v_42, v_45, v_48, S7, S4, S1⟩ E F ⟨h3, h5, h42, h45, h48, q7, kc7, q4, kc4, q1, kc1, h, hp⟩
  unfold b5d32 at h
  refine RG_eff (rs := [2, 9, 11]) (by kernel_rfl) rfl ?_
  obtain ⟨ha0, ha1, ha2⟩ := h
  simp only [List.mem_cons, List.not_mem_nil, or_false, forall_eq_or_imp, forall_eq]
  refine ⟨?_, ?_, ?_⟩
  ·
   have h := ha0; clear ha0 ha1 ha2
   refine g_op (Sp' := [(7, S7), (4, S4)]) rfl rfl (k_call (vs := [(.agg v_42)]) cb16 (evC h42 evN) (h.mono ?_))
   clear h; rintro v F ⟨v_43_5, rfl, h⟩
   obtain ⟨hk_131, hk_132, h⟩ := h
   refine holdI (holdC (i := 7) (q7 _ (hk_131)) (holdC (i := 4) (q4 _ (hk_132)) hold0)) (fun hp => ?_)
   refine RG_list (l' := #[true, true, true, true, true, false, true, true, false, false, true, false, false, false, false]) (by kernel_rfl) ?_
   exact hD25 (b5_14, v_43_5, v_45, v_48, _, _) _ _ ⟨h3, h5, rfl, h45, h48, (fun F hc => q7 F (hc)), hk_131, (fun F hc => q4 F (hc)), hk_132, h, hp⟩
  ·
   have h := ha1; clear ha0 ha1 ha2
   refine g_op (Sp' := [(7, S7), (4, S4), (1, S1)]) rfl rfl (k_alloc zr28 ?_)
   intro b4_13 hf_b4_13
   replace h := atE (h b4_13 hf_b4_13)
   refine holdI (holdC (i := 7) (q7 _ ((row_set_fresh hf_b4_13 kc7))) (holdC (i := 4) (q4 _ ((row_set_fresh hf_b4_13 kc4))) (holdC (i := 1) (q1 _ ((row_set_fresh hf_b4_13 kc1))) hold0))) (fun hp => ?_)
   refine RG_list (l' := #[true, true, false, true, true, false, true, true, false, true, true, false, false, false, false]) (by kernel_rfl) ?_
   exact hD29 (b4_13, b5_14, v_42, v_45, v_48, _, _, _) _ _ ⟨h3, rfl, h5, h42, h45, h48, (fun F hc => q7 F (hc)), (row_set_fresh hf_b4_13 kc7), (fun F hc => q4 F (hc)), (row_set_fresh hf_b4_13 kc4), (fun F hc => q1 F (hc)), (row_set_fresh hf_b4_13 kc1), h, hp⟩
  ·
   have h := ha2; clear ha0 ha1 ha2
   refine g_op (Sp' := [(7, S7), (4, S4), (1, S1)]) rfl rfl (k_alloc zr28 ?_)
   intro b6_14 hf_b6_14
   replace h := atE (h b6_14 hf_b6_14)
   refine holdI (holdC (i := 7) (q7 _ ((row_set_fresh hf_b6_14 kc7))) (holdC (i := 4) (q4 _ ((row_set_fresh hf_b6_14 kc4))) (holdC (i := 1) (q1 _ ((row_set_fresh hf_b6_14 kc1))) hold0))) (fun hp => ?_)
   refine RG_list (l' := #[true, true, false, true, true, false, true, true, false, false, true, true, false, false, false]) (by kernel_rfl) ?_
   exact hD33 (b5_14, b6_14, v_42, v_45, v_48, _, _, _) _ _ ⟨h3, h5, rfl, h42, h45, h48, (fun F hc => q7 F (hc)), (row_set_fresh hf_b6_14 kc7), (fun F hc => q4 F (hc)), (row_set_fresh hf_b6_14 kc4), (fun F hc => q1 F (hc)), (row_set_fresh hf_b6_14 kc1), h, hp⟩
 refine RG_share (A := (Nat) × (Array Value) × (Array Value) × (Array Value) × (World → Prop) × (World → Prop) × (World → Prop)) (fun a E F => match a with | (b6_15, v_42, v_45, v_48, S7, S4, S1) => E 3 = (.bool v_40) ∧ E 6 = (.pointer (some (Addr.mk b6_15 0 none))) ∧ E 42 = (.agg v_42) ∧ E 45 = (.agg v_45) ∧ E 48 = (.agg v_48) ∧ (∀ F : PH, F.row (Addr.add (Addr.mk b1 0 none) (Int.toNat (2 : Int) * 2)) v_48 → allW F S7) ∧ (F.row (Addr.add (Addr.mk b1 0 none) (Int.toNat (2 : Int) * 2)) v_48) ∧ (∀ F : PH, F.row (Addr.add (Addr.mk b1 0 none) (Int.toNat (1 : Int) * 2)) v_45 → allW F S4) ∧ (F.row (Addr.add (Addr.mk b1 0 none) (Int.toNat (1 : Int) * 2)) v_45) ∧ (∀ F : PH, F.row (Addr.add (Addr.mk b1 0 none) (Int.toNat (0 : Int) * 2)) v_42 → allW F S1) ∧ (F.row (Addr.add (Addr.mk b1 0 none) (Int.toNat (0 : Int) * 2)) v_42) ∧ b5d34 v_42 b1 v_48 v_45 b6_15 v_40 R F ∧ holdF [(7, S7), (4, S4), (1, S1)] F) 8 #[true, true, false, true, true, false, true, true, false, false, false, true, false, false, false] (fun a => match a with | (b6_15, v_42, v_45, v_48, S7, S4, S1) => [(7, S7), (4, S4), (1, S1)]) ?_ (fun hD34 => ?_)
 ·
  clear h hp; rintro ⟨b6_15, v_42, v_45, v_48, S7, S4, S1⟩ E F ⟨h3, h6, h42, h45, h48, q7, kc7, q4, kc4, q1, kc1, h, hp⟩
  unfold b5d34 at h
  refine RG_eff (rs := [2, 9, 10]) (by kernel_rfl) rfl ?_
  obtain ⟨ha0, ha1, ha2⟩ := h
  simp only [List.mem_cons, List.not_mem_nil, or_false, forall_eq_or_imp, forall_eq]
  refine ⟨?_, ?_, ?_⟩
  ·
   have h := ha0; clear ha0 ha1 ha2
   refine g_op (Sp' := [(7, S7), (4, S4)]) rfl rfl (k_call (vs := [(.agg v_42)]) cb16 (evC h42 evN) (h.mono ?_))
   clear h; rintro v F ⟨v_43_7, rfl, h⟩
   obtain ⟨hk_141, hk_142, h⟩ := h
   refine holdI (holdC (i := 7) (q7 _ (hk_141)) (holdC (i := 4) (q4 _ (hk_142)) hold0)) (fun hp => ?_)
   refine RG_list (l' := #[true, true, true, true, true, false, true, true, false, false, false, true, false, false, false]) (by kernel_rfl) ?_
   exact hD27 (b6_15, v_43_7, v_45, v_48, _, _) _ _ ⟨h3, h6, rfl, h45, h48, (fun F hc => q7 F (hc)), hk_141, (fun F hc => q4 F (hc)), hk_142, h, hp⟩
  ·
   have h := ha1; clear ha0 ha1 ha2
   refine g_op (Sp' := [(7, S7), (4, S4), (1, S1)]) rfl rfl (k_alloc zr28 ?_)
   intro b4_15 hf_b4_15
   replace h := atE (h b4_15 hf_b4_15)
   refine holdI (holdC (i := 7) (q7 _ ((row_set_fresh hf_b4_15 kc7))) (holdC (i := 4) (q4 _ ((row_set_fresh hf_b4_15 kc4))) (holdC (i := 1) (q1 _ ((row_set_fresh hf_b4_15 kc1))) hold0))) (fun hp => ?_)
   refine RG_list (l' := #[true, true, false, true, true, false, true, true, false, true, false, true, false, false, false]) (by kernel_rfl) ?_
   exact hD31 (b4_15, b6_15, v_42, v_45, v_48, _, _, _) _ _ ⟨h3, rfl, h6, h42, h45, h48, (fun F hc => q7 F (hc)), (row_set_fresh hf_b4_15 kc7), (fun F hc => q4 F (hc)), (row_set_fresh hf_b4_15 kc4), (fun F hc => q1 F (hc)), (row_set_fresh hf_b4_15 kc1), h, hp⟩
  ·
   have h := ha2; clear ha0 ha1 ha2
   refine g_op (Sp' := [(7, S7), (4, S4), (1, S1)]) rfl rfl (k_alloc zr28 ?_)
   intro b5_15 hf_b5_15
   replace h := atE (h b5_15 hf_b5_15)
   refine holdI (holdC (i := 7) (q7 _ ((row_set_fresh hf_b5_15 kc7))) (holdC (i := 4) (q4 _ ((row_set_fresh hf_b5_15 kc4))) (holdC (i := 1) (q1 _ ((row_set_fresh hf_b5_15 kc1))) hold0))) (fun hp => ?_)
   refine RG_list (l' := #[true, true, false, true, true, false, true, true, false, false, true, true, false, false, false]) (by kernel_rfl) ?_
   exact hD33 (b5_15, b6_15, v_42, v_45, v_48, _, _, _) _ _ ⟨h3, rfl, h6, h42, h45, h48, (fun F hc => q7 F (hc)), (row_set_fresh hf_b5_15 kc7), (fun F hc => q4 F (hc)), (row_set_fresh hf_b5_15 kc4), (fun F hc => q1 F (hc)), (row_set_fresh hf_b5_15 kc1), h, hp⟩
 obtain ⟨hl41, hu41, h⟩ := h
 refine gU 0 (.pointer (some (Addr.add (Addr.mk b1 0 none) (Int.toNat (0 : Int) * 2)))) rfl (fun _ => r_indexAddrAr rfl rfl rfl underlying43 sz24 hl41 (by exact hu41)) hp ?_
 obtain ⟨v_42, hs42, hc42, h⟩ := h
 refine gR 1 (.agg v_42) rfl (w_loadN rfl underlying24 rfl sz24 hs42 hc42) hp (fun S1 q1 => ?_)
 replace hp := holdC (i := 1) (q1 _ (w_loadN rfl underlying24 rfl sz24 hs42 hc42)) hp
 obtain ⟨hl44, hu44, h⟩ := h
 refine gU 3 (.pointer (some (Addr.add (Addr.mk b1 0 none) (Int.toNat (1 : Int) * 2)))) rfl (fun _ => r_indexAddrAr rfl rfl rfl underlying43 sz24 hl44 (by exact hu44)) hp ?_
 obtain ⟨v_45, hs45, hc45, h⟩ := h
 refine gR 4 (.agg v_45) rfl (w_loadN rfl underlying24 rfl sz24 hs45 hc45) hp (fun S4 q4 => ?_)
 replace hp := holdC (i := 4) (q4 _ (w_loadN rfl underlying24 rfl sz24 hs45 hc45)) hp
 obtain ⟨hl47, hu47, h⟩ := h
 refine gU 6 (.pointer (some (Addr.add (Addr.mk b1 0 none) (Int.toNat (2 : Int) * 2)))) rfl (fun _ => r_indexAddrAr rfl rfl rfl underlying43 sz24 hl47 (by exact hu47)) hp ?_
 obtain ⟨v_48, hs48, hc48, h⟩ := h
 refine gR 7 (.agg v_48) rfl (w_loadN rfl underlying24 rfl sz24 hs48 hc48) hp (fun S7 q7 => ?_)
 replace hp := holdC (i := 7) (q7 _ (w_loadN rfl underlying24 rfl sz24 hs48 hc48)) hp
 refine RG_eff (rs := [2, 9, 10, 11]) (by kernel_rfl) rfl ?_
 obtain ⟨ha0, ha1, ha2, ha3⟩ := h
 simp only [List.mem_cons, List.not_mem_nil, or_false, forall_eq_or_imp, forall_eq]
 refine ⟨?_, ?_, ?_, ?_⟩
 ·
  have h := ha0; clear ha0 ha1 ha2 ha3
  refine g_op (Sp' := [(7, S7), (4, S4)]) rfl rfl (k_call (vs := [(.agg v_42)]) cb16 (evC rfl evN) (h.mono ?_))
  clear h; rintro v F ⟨v_43, rfl, h⟩
  obtain ⟨hk_70, hk_71, h⟩ := h
  refine holdI (holdC (i := 7) (q7 _ (w_loadN rfl underlying24 rfl sz24 hs48 hk_70)) (holdC (i := 4) (q4 _ (w_loadN rfl underlying24 rfl sz24 hs45 hk_71)) hold0)) (fun hp => ?_)
  refine RG_list (l' := #[true, true, true, true, true, false, true, true, false, false, false, false, false, false, false]) (by kernel_rfl) ?_
  exact hD1 (v_43, v_45, v_48, _, _) _ _ ⟨rfl, rfl, rfl, rfl, (fun F hc => q7 F (w_loadN rfl underlying24 rfl sz24 hs48 hc)), hk_70, (fun F hc => q4 F (w_loadN rfl underlying24 rfl sz24 hs45 hc)), hk_71, h, hp⟩
 ·
  have h := ha1; clear ha0 ha1 ha2 ha3
  refine g_op (Sp' := [(7, S7), (4, S4), (1, S1)]) rfl rfl (k_alloc zr28 ?_)
  intro b4_12 hf_b4_12
  replace h := atE (h b4_12 hf_b4_12)
  refine holdI (holdC (i := 7) (q7 _ (w_loadN rfl underlying24 rfl sz24 hs48 (row_set_fresh hf_b4_12 hc48))) (holdC (i := 4) (q4 _ (w_loadN rfl underlying24 rfl sz24 hs45 (row_set_fresh hf_b4_12 hc45))) (holdC (i := 1) (q1 _ (w_loadN rfl underlying24 rfl sz24 hs42 (row_set_fresh hf_b4_12 hc42))) hold0))) (fun hp => ?_)
  refine RG_list (l' := #[true, true, false, true, true, false, true, true, false, true, false, false, false, false, false]) (by kernel_rfl) ?_
  exact hD28 (b4_12, v_42, v_45, v_48, _, _, _) _ _ ⟨rfl, rfl, rfl, rfl, rfl, (fun F hc => q7 F (w_loadN rfl underlying24 rfl sz24 hs48 hc)), (row_set_fresh hf_b4_12 hc48), (fun F hc => q4 F (w_loadN rfl underlying24 rfl sz24 hs45 hc)), (row_set_fresh hf_b4_12 hc45), (fun F hc => q1 F (w_loadN rfl underlying24 rfl sz24 hs42 hc)), (row_set_fresh hf_b4_12 hc42), h, hp⟩
 ·
  have h := ha2; clear ha0 ha1 ha2 ha3
  refine g_op (Sp' := [(7, S7), (4, S4), (1, S1)]) rfl rfl (k_alloc zr28 ?_)
  intro b5_14 hf_b5_14
  replace h := atE (h b5_14 hf_b5_14)
  refine holdI (holdC (i := 7) (q7 _ (w_loadN rfl underlying24 rfl sz24 hs48 (row_set_fresh hf_b5_14 hc48))) (holdC (i := 4) (q4 _ (w_loadN rfl underlying24 rfl sz24 hs45 (row_set_fresh hf_b5_14 hc45))) (holdC (i := 1) (q1 _ (w_loadN rfl underlying24 rfl sz24 hs42 (row_set_fresh hf_b5_14 hc42))) hold0))) (fun hp => ?_)
  refine RG_list (l' := #[true, true, false, true, true, false, true, true, false, false, true, false, false, false, false]) (by kernel_rfl) ?_
  exact hD32 (b5_14, v_42, v_45, v_48, _, _, _) _ _ ⟨rfl, rfl, rfl, rfl, rfl, (fun F hc => q7 F (w_loadN rfl underlying24 rfl sz24 hs48 hc)), (row_set_fresh hf_b5_14 hc48), (fun F hc => q4 F (w_loadN rfl underlying24 rfl sz24 hs45 hc)), (row_set_fresh hf_b5_14 hc45), (fun F hc => q1 F (w_loadN rfl underlying24 rfl sz24 hs42 hc)), (row_set_fresh hf_b5_14 hc42), h, hp⟩
 ·
  have h := ha3; clear ha0 ha1 ha2 ha3
  refine g_op (Sp' := [(7, S7), (4, S4), (1, S1)]) rfl rfl (k_alloc zr28 ?_)
  intro b6_15 hf_b6_15
  replace h := atE (h b6_15 hf_b6_15)
  refine holdI (holdC (i := 7) (q7 _ (w_loadN rfl underlying24 rfl sz24 hs48 (row_set_fresh hf_b6_15 hc48))) (holdC (i := 4) (q4 _ (w_loadN rfl underlying24 rfl sz24 hs45 (row_set_fresh hf_b6_15 hc45))) (holdC (i := 1) (q1 _ (w_loadN rfl underlying24 rfl sz24 hs42 (row_set_fresh hf_b6_15 hc42))) hold0))) (fun hp => ?_)
  refine RG_list (l' := #[true, true, false, true, true, false, true, true, false, false, false, true, false, false, false]) (by kernel_rfl) ?_
  exact hD34 (b6_15, v_42, v_45, v_48, _, _, _) _ _ ⟨rfl, rfl, rfl, rfl, rfl, (fun F hc => q7 F (w_loadN rfl underlying24 rfl sz24 hs48 hc)), (row_set_fresh hf_b6_15 hc48), (fun F hc => q4 F (w_loadN rfl underlying24 rfl sz24 hs45 hc)), (row_set_fresh hf_b6_15 hc45), (fun F hc => q1 F (w_loadN rfl underlying24 rfl sz24 hs42 hc)), (row_set_fresh hf_b6_15 hc42), h, hp⟩

end Go.Proofs.Ytafojmoeaneedaa
