/-
  What functions of the program do, in a clean form, each with the proof that its code does so. Printed by a program.
-/
import Derived.Test.YtelkfnmdnbbniaaGf
import Derived.Test.YtelkfnmdnbbniaaPhp
namespace Go.Proofs.Ytelkfnmdnbbniaa
open Go Go.Proofs.Try
set_option maxRecDepth 10000
set_option maxHeartbeats 4000000
/- 7 koine.koinelaw35.StoreFormats -/
def b7j3 (v_26 : Bool) (v_30 : Option Addr) (b18 : Nat) (R : VP) (F : PH) :=
 Spec prog 20 #[(.pointer v_30)] F fun v F => ∃ v_158 : Option Addr, ∃ v_158_1 : Int, v = (.tuple #[(.pointer v_158), (.int .i64 v_158_1)]) ∧
 ((v_158_1 = 0 →
  ∃ v_165 : Array Value, v_165.size = 3 ∧ F.row (Addr.mk b18 0 none) v_165 ∧
  Spec prog 13 #[(.pointer v_158), (.agg v_165)] F fun v F => ∃ v_166 : Bool, v = (.bool v_166) ∧
  ((v_166 = true →
   R (.bool v_26) F) ∧
  (v_166 = false →
   R (.bool false) F))) ∧
 (¬ (v_158_1 = 0) →
  R (.bool false) F))
abbrev b7J3 (v_26 : Bool) (v_30 : Option Addr) (b18 : Nat) (R : VP) (E : En) (F : PH) : Prop := E 7 = (.bool v_26) ∧ E 8 = (.pointer v_30) ∧ E 18 = (.pointer (some (Addr.mk b18 0 none))) ∧ b7j3 v_26 v_30 b18 R F
def b7j4 (N1 : Option Addr → Int → PH → Prop) (l_1 : Sl) (v_26 : Bool) (v_30 : Option Addr) (b18 : Nat) (i_19 : Int) (u_20 : Option Addr) (next_21 : Option Addr) (f_22 : Int) (fine_23 : Bool) (R : VP) (F : PH) :=
 (((!fine_23) = true →
  R (.bool false) F) ∧
 ((!fine_23) = false →
  ((f_22 = 340 →
   R (.bool false) F) ∧
  (¬ (f_22 = 340) →
   ∃ next21a_ : Addr, next_21 = some next21a_ ∧ ∃ v_150 : Array Value, v_150.size = 3 ∧ F.row next21a_ v_150 ∧
   Spec prog 13 #[(.pointer u_20), (.agg v_150)] F fun v F => ∃ v_151 : Bool, v = (.bool v_151) ∧
   (((!v_151) = true →
    R (.bool false) F) ∧
   ((!v_151) = false →
    ∃ v_155 : Array Value, v_155.size = 3 ∧ F.row next21a_ v_155 ∧
    v_155.size = 3 ∧ (∀ v ∈ v_155.toList, storable v) ∧ ∃ c e, F (Addr.mk b18 0 none).block = some (.cells c e (0, 0)) ∧ (Addr.mk b18 0 none).spot = none ∧ (Addr.mk b18 0 none).off + 3 ≤ c.size ∧
    atF (F.set (Addr.mk b18 0 none).block (.cells (wr c (Addr.mk b18 0 none).off v_155.toList) e)) fun F =>
    N1 u_20 (IntKind.i64.wrap (i_19 - 1)) F))))))
abbrev b7J4 (N1 : Option Addr → Int → PH → Prop) (l_1 : Sl) (v_26 : Bool) (v_30 : Option Addr) (b18 : Nat) (i_19 : Int) (R : VP) (E : En) (F : PH) : Prop := ∃ u_20 : Option Addr, ∃ next_21 : Option Addr, ∃ f_22 : Int, ∃ fine_23 : Bool, E 1 = (Sl.v l_1) ∧ E 7 = (.bool v_26) ∧ E 8 = (.pointer v_30) ∧ E 18 = (.pointer (some (Addr.mk b18 0 none))) ∧ E 19 = (.int .i64 i_19) ∧ E 20 = (.pointer u_20) ∧ E 21 = (.pointer next_21) ∧ E 22 = (.int .i64 f_22) ∧ E 23 = (.bool fine_23) ∧ b7j4 N1 l_1 v_26 v_30 b18 i_19 u_20 next_21 f_22 fine_23 R F
def b7L1 (N1 : Option Addr → Int → PH → Prop) (l_1 : Sl) (v_26 : Bool) (v_30 : Option Addr) (b18 : Nat) (R : VP) (t_16 : Option Addr) (i_19 : Int) (F : PH) :=
 ((0 ≤ i_19 →
  (((IntKind.i64.wrap ((l_1.len : Int) - 15)) ≤ i_19 →
   ∃ v_132 : Array Value, v_132.size = 3 ∧ F.row (Addr.mk b18 0 none) v_132 ∧
   ∃ a135_ : Addr, l_1.base = some a135_ ∧ 0 ≤ i_19 ∧ i_19 < (l_1.len : Int) ∧
   ∃ v_136 : Array Value, v_136.size = 2 ∧ F.row (Addr.add a135_ (Int.toNat i_19 * 2)) v_136 ∧
   ((Spec prog 14 #[(.pointer v_30), (.pointer t_16), (.agg v_132), (.agg v_136)] F fun v F => ∃ v_137 : Option Addr, ∃ v_137_1 : Array Value, ∃ v_137_2 : Int, ∃ v_137_3 : Bool, v = (.tuple #[(.pointer v_137), (.agg v_137_1), (.int .i64 v_137_2), (.bool v_137_3)]) ∧
   ∀ b21, F b21 = none → atF (F.set b21 (.cells (#[.int .i64 0, .int .i64 0, .slice none 0 0]) 28)) fun F =>
   v_137_1.size = 3 ∧ (∀ v ∈ v_137_1.toList, storable v) ∧ ∃ c e, F (Addr.mk b21 0 none).block = some (.cells c e (0, 0)) ∧ (Addr.mk b21 0 none).spot = none ∧ (Addr.mk b21 0 none).off + 3 ≤ c.size ∧
   atF (F.set (Addr.mk b21 0 none).block (.cells (wr c (Addr.mk b21 0 none).off v_137_1.toList) e)) fun F =>
   b7j4 N1 l_1 v_26 v_30 b18 i_19 v_137 (some (Addr.mk b21 0 none)) v_137_2 v_137_3 R F) ∧
   (∀ b21_1, F b21_1 = none → atF (F.set b21_1 (.cells (#[.int .i64 0, .int .i64 0, .slice none 0 0]) 28)) fun F =>
   Spec prog 14 #[(.pointer v_30), (.pointer t_16), (.agg v_132), (.agg v_136)] F fun v F => ∃ v_137_4 : Option Addr, ∃ v_137_5 : Array Value, ∃ v_137_6 : Int, ∃ v_137_7 : Bool, v = (.tuple #[(.pointer v_137_4), (.agg v_137_5), (.int .i64 v_137_6), (.bool v_137_7)]) ∧
   v_137_5.size = 3 ∧ (∀ v ∈ v_137_5.toList, storable v) ∧ ∃ c e, F (Addr.mk b21_1 0 none).block = some (.cells c e (0, 0)) ∧ (Addr.mk b21_1 0 none).spot = none ∧ (Addr.mk b21_1 0 none).off + 3 ≤ c.size ∧
   atF (F.set (Addr.mk b21_1 0 none).block (.cells (wr c (Addr.mk b21_1 0 none).off v_137_5.toList) e)) fun F =>
   b7j4 N1 l_1 v_26 v_30 b18 i_19 v_137_4 (some (Addr.mk b21_1 0 none)) v_137_6 v_137_7 R F))) ∧
  (¬ ((IntKind.i64.wrap ((l_1.len : Int) - 15)) ≤ i_19) →
   b7j3 v_26 v_30 b18 R F))) ∧
 (¬ (0 ≤ i_19) →
  b7j3 v_26 v_30 b18 R F))
def b7j2 (n_0 : Int) (l_1 : Sl) (v_26 : Bool) (v_30 : Option Addr) (R : VP) (F : PH) :=
 Spec prog 30 #[(.pointer v_30)] F fun v F => ∃ v_101 : Option Addr, ∃ v_101_1 : Int, v = (.tuple #[(.pointer v_101), (.int .i64 v_101_1)]) ∧
 ((v_101_1 ≠ 0 →
  R (.bool false) F) ∧
 (¬ (v_101_1 ≠ 0) →
  Spec prog 31 #[(.pointer v_101)] F fun v F => ∃ v_108 : Sl, v = (Sl.v v_108) ∧
  (((0 : Int) < (v_108.len : Int) →
   R (.bool false) F) ∧
  (¬ ((0 : Int) < (v_108.len : Int)) →
   Spec prog 12 #[(.int .u8 n_0)] F fun v F => ∃ v_113 : Int, v = (.int .i64 v_113) ∧
   ∀ b18, F b18 = none → atF (F.set b18 (.cells (#[.int .i64 0, .int .i64 0, .slice none 0 0]) 28)) fun F =>
   (#[(.int .i64 v_113), .int .i64 0, .slice none 0 0] : Array Value).size = 3 ∧ (∀ v ∈ (#[(.int .i64 v_113), .int .i64 0, .slice none 0 0] : Array Value).toList, storable v) ∧ ∃ c e, F (Addr.mk b18 0 none).block = some (.cells c e (0, 0)) ∧ (Addr.mk b18 0 none).spot = none ∧ (Addr.mk b18 0 none).off + 3 ≤ c.size ∧
   atF (F.set (Addr.mk b18 0 none).block (.cells (wr c (Addr.mk b18 0 none).off (#[(.int .i64 v_113), .int .i64 0, .slice none 0 0] : Array Value).toList) e)) fun F =>
   (∃ (I1 : Nat → Option Addr → Int → PH → Prop) (m1 : Nat), I1 m1 v_101 (IntKind.i64.wrap ((l_1.len : Int) - 1)) F ∧ ∀ m1 t_16 i_19 F, I1 m1 t_16 i_19 F →
    b7L1 (nx2 I1 m1) l_1 v_26 v_30 b18 R t_16 i_19 F)))))
abbrev b7J2 (n_0 : Int) (l_1 : Sl) (v_26 : Bool) (v_30 : Option Addr) (R : VP) (E : En) (F : PH) : Prop := E 0 = (.int .u8 n_0) ∧ E 1 = (Sl.v l_1) ∧ E 7 = (.bool v_26) ∧ E 8 = (.pointer v_30) ∧ b7j2 n_0 l_1 v_26 v_30 R F
def b7j5 (N2 : Int → PH → Prop) (n_0 : Int) (l_1 : Sl) (noise_2 : Sl) (v_26 : Bool) (v_30 : Option Addr) (i_13 : Int) (R : VP) (F : PH) :=
 N2 (IntKind.i64.wrap (i_13 + 2)) F
abbrev b7J5 (N2 : Int → PH → Prop) (n_0 : Int) (l_1 : Sl) (noise_2 : Sl) (v_26 : Bool) (v_30 : Option Addr) (i_13 : Int) (R : VP) (E : En) (F : PH) : Prop := E 0 = (.int .u8 n_0) ∧ E 1 = (Sl.v l_1) ∧ E 2 = (Sl.v noise_2) ∧ E 7 = (.bool v_26) ∧ E 8 = (.pointer v_30) ∧ E 13 = (.int .i64 i_13) ∧ b7j5 N2 n_0 l_1 noise_2 v_26 v_30 i_13 R F
def b7j6 (N2 : Int → PH → Prop) (n_0 : Int) (l_1 : Sl) (noise_2 : Sl) (v_26 : Bool) (v_30 : Option Addr) (i_13 : Int) (v_74 : Sl) (R : VP) (F : PH) :=
 ∃ a90_ : Addr, noise_2.base = some a90_ ∧ 0 ≤ i_13 ∧ i_13 < (noise_2.len : Int) ∧
 ∃ v_91 : Int, F.cell (Addr.add a90_ (Int.toNat i_13 * 1)) = some (.int .u8 v_91) ∧
 Spec prog 28 #[(.pointer v_30)] F fun v F => ∃ v_94 : Int, v = (.int .i64 v_94) ∧
 F.cell (Addr.add a90_ (Int.toNat i_13 * 1)) = some (.int .u8 v_91) ∧ v_94 ≠ 0 ∧ Spec prog 29 #[(.pointer v_30), (.int .i64 (Int.tmod (IntKind.i64.wrap v_91) v_94)), (Sl.v v_74)] F fun v F => ∃ v_97 : Int, v = (.int .i64 v_97) ∧
 F.cell (Addr.add a90_ (Int.toNat i_13 * 1)) = some (.int .u8 v_91) ∧ ((v_97 ≠ 0 →
  R (.bool false) F) ∧
 (¬ (v_97 ≠ 0) →
  b7j5 N2 n_0 l_1 noise_2 v_26 v_30 i_13 R F))
abbrev b7J6 (N2 : Int → PH → Prop) (n_0 : Int) (l_1 : Sl) (noise_2 : Sl) (v_26 : Bool) (v_30 : Option Addr) (i_13 : Int) (v_74 : Sl) (R : VP) (E : En) (F : PH) : Prop := E 0 = (.int .u8 n_0) ∧ E 1 = (Sl.v l_1) ∧ E 2 = (Sl.v noise_2) ∧ E 7 = (.bool v_26) ∧ E 8 = (.pointer v_30) ∧ E 13 = (.int .i64 i_13) ∧ E 14 = (Sl.v v_74) ∧ b7j6 N2 n_0 l_1 noise_2 v_26 v_30 i_13 v_74 R F
def b7L3 (N2 : Int → PH → Prop) (N3 : Int → PH → Prop) (n_0 : Int) (l_1 : Sl) (noise_2 : Sl) (v_26 : Bool) (v_30 : Option Addr) (i_13 : Int) (v_74 : Sl) (R : VP) (k_15 : Int) (F : PH) :=
 ((k_15 < 64 →
  ∃ a84_ : Addr, noise_2.base = some a84_ ∧ 0 ≤ (IntKind.i64.wrap (i_13 + 1)) ∧ (IntKind.i64.wrap (i_13 + 1)) < (noise_2.len : Int) ∧
  ∃ v_85 : Int, F.cell (Addr.add a84_ (Int.toNat (IntKind.i64.wrap (i_13 + 1)) * 1)) = some (.int .u8 v_85) ∧
  ∃ a86_ : Addr, v_74.base = some a86_ ∧ 0 ≤ k_15 ∧ k_15 < (v_74.len : Int) ∧
  ∃ c e, F (Addr.add a86_ (Int.toNat k_15 * 1)).block = some (.cells c e (0, 0)) ∧ (Addr.add a86_ (Int.toNat k_15 * 1)).spot = none ∧ (Addr.add a86_ (Int.toNat k_15 * 1)).off < c.size ∧
  atF (F.set (Addr.add a86_ (Int.toNat k_15 * 1)).block (.cells (c.setIfInBounds (Addr.add a86_ (Int.toNat k_15 * 1)).off (.int .u8 v_85)) e)) fun F =>
  N3 (IntKind.i64.wrap (k_15 + 1)) F) ∧
 (¬ (k_15 < 64) →
  b7j6 N2 n_0 l_1 noise_2 v_26 v_30 i_13 v_74 R F))
def b7L2 (N2 : Int → PH → Prop) (n_0 : Int) (l_1 : Sl) (noise_2 : Sl) (v_26 : Bool) (v_30 : Option Addr) (R : VP) (i_13 : Int) (F : PH) :=
 (((IntKind.i64.wrap (i_13 + 1)) < (noise_2.len : Int) →
  ((i_13 < 20 →
   runs prog (Instr.makeSlice 39 (.int .i64 64) (.int .i64 64)) F fun v F => ∃ v_74 : Sl, v = (Sl.v v_74) ∧
   (∃ (I3 : Nat → Int → PH → Prop) (m3 : Nat), I3 m3 0 F ∧ ∀ m3 k_15 F, I3 m3 k_15 F →
    b7L3 N2 (nx1 I3 m3) n_0 l_1 noise_2 v_26 v_30 i_13 v_74 R k_15 F)) ∧
  (¬ (i_13 < 20) →
   b7j2 n_0 l_1 v_26 v_30 R F))) ∧
 (¬ ((IntKind.i64.wrap (i_13 + 1)) < (noise_2.len : Int)) →
  b7j2 n_0 l_1 v_26 v_30 R F))
def b7j1 (n_0 : Int) (l_1 : Sl) (noise_2 : Sl) (v_26 : Bool) (v_30 : Option Addr) (R : VP) (F : PH) :=
 Spec prog 28 #[(.pointer v_30)] F fun v F => ∃ v_61 : Int, v = (.int .i64 v_61) ∧
 ((v_61 < 1 →
  R (.bool false) F) ∧
 (¬ (v_61 < 1) →
  (∃ (I2 : Nat → Int → PH → Prop) (m2 : Nat), I2 m2 0 F ∧ ∀ m2 i_13 F, I2 m2 i_13 F →
   b7L2 (nx1 I2 m2) n_0 l_1 noise_2 v_26 v_30 R i_13 F)))
abbrev b7J1 (n_0 : Int) (l_1 : Sl) (noise_2 : Sl) (v_26 : Bool) (v_30 : Option Addr) (R : VP) (E : En) (F : PH) : Prop := E 0 = (.int .u8 n_0) ∧ E 1 = (Sl.v l_1) ∧ E 2 = (Sl.v noise_2) ∧ E 7 = (.bool v_26) ∧ E 8 = (.pointer v_30) ∧ b7j1 n_0 l_1 noise_2 v_26 v_30 R F
def b7L4 (N4 : Option Addr → Int → PH → Prop) (n_0 : Int) (l_1 : Sl) (noise_2 : Sl) (v_26 : Bool) (v_30 : Option Addr) (b10 : Nat) (R : VP) (s_9 : Option Addr) (i_12 : Int) (F : PH) :=
 ((i_12 < (l_1.len : Int) →
  ((i_12 < 15 →
   ∃ v_50 : Array Value, v_50.size = 3 ∧ F.row (Addr.mk b10 0 none) v_50 ∧
   ∃ a53_ : Addr, l_1.base = some a53_ ∧ 0 ≤ i_12 ∧ i_12 < (l_1.len : Int) ∧
   ∃ v_54 : Array Value, v_54.size = 2 ∧ F.row (Addr.add a53_ (Int.toNat i_12 * 2)) v_54 ∧
   Spec prog 14 #[(.pointer v_30), (.pointer s_9), (.agg v_50), (.agg v_54)] F fun v F => ∃ v_55 : Option Addr, ∃ v_55_1 : Array Value, ∃ v_55_2 : Int, ∃ v_55_3 : Bool, v = (.tuple #[(.pointer v_55), (.agg v_55_1), (.int .i64 v_55_2), (.bool v_55_3)]) ∧
   v_55_1.size = 3 ∧ (∀ v ∈ v_55_1.toList, storable v) ∧ ∃ c e, F (Addr.mk b10 0 none).block = some (.cells c e (0, 0)) ∧ (Addr.mk b10 0 none).spot = none ∧ (Addr.mk b10 0 none).off + 3 ≤ c.size ∧
   atF (F.set (Addr.mk b10 0 none).block (.cells (wr c (Addr.mk b10 0 none).off v_55_1.toList) e)) fun F =>
   N4 v_55 (IntKind.i64.wrap (i_12 + 1)) F) ∧
  (¬ (i_12 < 15) →
   b7j1 n_0 l_1 noise_2 v_26 v_30 R F))) ∧
 (¬ (i_12 < (l_1.len : Int)) →
  b7j1 n_0 l_1 noise_2 v_26 v_30 R F))
def b7 (n_0 : Int) (l_1 : Sl) (noise_2 : Sl) (R : VP) (F : PH) :=
 Spec prog 10 #[] F fun v F => ∃ v_26 : Bool, v = (.bool v_26) ∧
 Spec prog 12 #[(.int .u8 n_0)] F fun v F => ∃ v_29 : Int, v = (.int .i64 v_29) ∧
 Spec prog 11 #[(.int .i64 v_29)] F fun v F => ∃ v_30 : Option Addr, ∃ v_30_1 : Option Addr, ∃ v_30_2 : Array Value, ∃ v_30_3 : Bool, v = (.tuple #[(.pointer v_30), (.pointer v_30_1), (.agg v_30_2), (.bool v_30_3)]) ∧
 ∀ b10, F b10 = none → atF (F.set b10 (.cells (#[.int .i64 0, .int .i64 0, .slice none 0 0]) 28)) fun F =>
 v_30_2.size = 3 ∧ (∀ v ∈ v_30_2.toList, storable v) ∧ ∃ c e, F (Addr.mk b10 0 none).block = some (.cells c e (0, 0)) ∧ (Addr.mk b10 0 none).spot = none ∧ (Addr.mk b10 0 none).off + 3 ≤ c.size ∧
 atF (F.set (Addr.mk b10 0 none).block (.cells (wr c (Addr.mk b10 0 none).off v_30_2.toList) e)) fun F =>
 (((!v_30_3) = true →
  R (.bool false) F) ∧
 ((!v_30_3) = false →
  (∃ (I4 : Nat → Option Addr → Int → PH → Prop) (m4 : Nat), I4 m4 v_30_1 0 F ∧ ∀ m4 s_9 i_12 F, I4 m4 s_9 i_12 F →
   b7L4 (nx2 I4 m4) n_0 l_1 noise_2 v_26 v_30 b10 R s_9 i_12 F)))
theorem c7 {n_0 : Int} {l_1 : Sl} {noise_2 : Sl} {R : VP} {F : PH} (h : b7 n_0 l_1 noise_2 R F) : Spec prog 7 #[(.int .u8 n_0), (Sl.v l_1), (Sl.v noise_2)] F R := by
 refine spec_of (args := [(.int .u8 n_0), (Sl.v l_1), (Sl.v noise_2)]) func7 rfl ntmps7 rfl ?_
 unfold b7 at h
 refine cR (sR (.bool false) (r_assign rfl rfl) ?_)
 refine HL_nil ?_
 refine cR ?_
 refine s_ef (k_call (vs := []) cb10 evN (h.mono ?_))
 clear h; rintro v F ⟨v_26, rfl, h⟩
 refine sR (.bool v_26) (r_assign rfl rfl) ?_
 refine HL_nil ?_
 refine cR (sR (.int .u8 n_0) (r_move rfl rfl) ?_)
 refine s_ef (k_call (vs := [(.int .u8 n_0)]) cb12 (evC rfl evN) (h.mono ?_))
 clear h; rintro v F ⟨v_29, rfl, h⟩
 refine s_ef (k_call (vs := [(.int .i64 v_29)]) cb11 (evC rfl evN) (h.mono ?_))
 clear h; rintro v F ⟨v_30, v_30_1, v_30_2, v_30_3, rfl, h⟩
 refine sR (.tuple #[(.pointer v_30), (.pointer v_30_1), (.agg v_30_2), (.bool v_30_3)]) (r_move rfl rfl) ?_
 refine sR (.pointer v_30) (r_extract rfl rfl rfl) ?_
 refine sR (.pointer v_30_1) (r_extract rfl rfl rfl) ?_
 refine sR (.agg v_30_2) (r_extract rfl rfl rfl) ?_
 refine sR (.bool v_30_3) (r_extract rfl rfl rfl) ?_
 refine s_ef (k_alloc zr28 ?_)
 intro b10 hf_b10
 replace h := atE (h b10 hf_b10)
 refine sR (.pointer v_30) (r_assign rfl rfl) ?_
 refine sR (.pointer v_30_1) (r_assign rfl rfl) ?_
 refine s_ef0 (k_storeN (vs := v_30_2) rfl rfl sz28 (by decide) ?_)
 obtain ⟨hz1, hz2, c, e, hz3, hz4, hz5, h⟩ := h
 refine ⟨hz1, hz2, c, e, hz3, hz4, hz5, ?_⟩
 replace h := atE h
 refine sR (.bool v_30_3) (r_assign rfl rfl) ?_
 refine HL_nil ?_
 refine HC_seq ?_
 refine cR (sR (.bool v_30_3) (r_move rfl rfl) ?_)
 refine sR (.bool (!v_30_3)) (r_not rfl rfl) ?_
 refine HL_nil ?_
 refine HC_cond (t := (!v_30_3)) rfl (fun hc => ?_) (fun hc => ?_)
 replace h := h.1 hc
 clear hc
 refine cR (sR (.bool false) (r_assign rfl rfl) ?_)
 exact HL_nil (HC_ret (rt1 f7 R rfl rfl h))
 replace h := h.2 hc
 clear hc
 refine HC_skip ?_
 refine HC_seqJ (b7J1 n_0 l_1 noise_2 v_26 v_30 R) ?_ ?_
 clear h; rintro E F ⟨h0, h1, h2, h7, h8, h⟩
 unfold b7j1 at h
 refine HC_seq ?_
 refine cR (sR _ (r_move rfl h8) ?_)
 refine s_ef (k_call (vs := [(.pointer v_30)]) cb28 (evC rfl evN) (h.mono ?_))
 clear h; rintro v F ⟨v_61, rfl, h⟩
 refine sR (.bool (decide (v_61 < 1))) (r_lss rfl rfl rfl) ?_
 refine HL_nil ?_
 refine HC_cond (t := (decide (v_61 < 1))) rfl (fun hc => ?_) (fun hc => ?_)
 replace h := h.1 (of_decide_eq_true hc)
 clear hc
 refine cR (sR (.bool false) (r_assign rfl rfl) ?_)
 exact HL_nil (HC_ret (rt1 f7 R rfl rfl h))
 replace h := h.2 (of_decide_eq_false hc)
 clear hc
 refine HC_skip ?_
 refine HC_seqJ (b7J2 n_0 l_1 v_26 v_30 R) ?_ ?_
 clear h; rintro E F ⟨h0, h1, h7, h8, h⟩
 unfold b7j2 at h
 refine cR (sR _ (r_move rfl h8) ?_)
 refine s_ef (k_call (vs := [(.pointer v_30)]) cb30 (evC rfl evN) (h.mono ?_))
 clear h; rintro v F ⟨v_101, v_101_1, rfl, h⟩
 refine sR (.tuple #[(.pointer v_101), (.int .i64 v_101_1)]) (r_move rfl rfl) ?_
 refine sR (.pointer v_101) (r_extract rfl rfl rfl) ?_
 refine sR (.int .i64 v_101_1) (r_extract rfl rfl rfl) ?_
 refine sR (.pointer v_101) (r_assign rfl rfl) ?_
 refine sR (.int .i64 v_101_1) (r_assign rfl rfl) ?_
 refine HL_nil ?_
 refine HC_seq ?_
 refine cR (sR (.int .i64 v_101_1) (r_move rfl rfl) ?_)
 refine sR (.bool (decide (v_101_1 ≠ 0))) (w_neq rfl rfl) ?_
 refine sR (.bool (decide (v_101_1 ≠ 0))) (r_move rfl rfl) ?_
 by_cases hc : v_101_1 ≠ 0
 replace h := h.1 hc
 refine kN 105 (decide_eq_true hc) ?_
 refine kN 106 (decide_eq_true hc) ?_
 iterate 4 refine s_skip ?_
 refine sR (.bool true) (r_pt rfl rfl) ?_
 refine HL_nil ?_
 refine HC_condT rfl ?_
 refine cR (sR (.bool false) (r_assign rfl rfl) ?_)
 exact HL_nil (HC_ret (rt1 f7 R rfl rfl h))
 replace h := h.2 hc
 refine kN 105 (decide_eq_false hc) ?_
 refine kN 106 (decide_eq_false hc) ?_
 refine sR (.pointer v_101) (r_move rfl rfl) ?_
 refine s_ef (k_call (vs := [(.pointer v_101)]) cb31 (evC rfl evN) (h.mono ?_))
 clear h; rintro v F ⟨v_108, rfl, h⟩
 refine sR (.int .i64 (v_108.len : Int)) (r_lenSl rfl rfl underlying62) ?_
 refine sR (.bool (decide ((0 : Int) < (v_108.len : Int)))) (r_gtr rfl rfl rfl) ?_
 refine sR (.bool (decide ((0 : Int) < (v_108.len : Int)))) (r_pf rfl rfl) ?_
 refine HL_nil ?_
 refine HC_cond (t := (decide ((0 : Int) < (v_108.len : Int)))) rfl (fun hc => ?_) (fun hc => ?_)
 replace h := h.1 (of_decide_eq_true hc)
 clear hc
 refine cR (sR (.bool false) (r_assign rfl rfl) ?_)
 exact HL_nil (HC_ret (rt1 f7 R rfl rfl h))
 replace h := h.2 (of_decide_eq_false hc)
 clear hc
 refine HC_skip ?_
 refine cR (sR _ (r_move rfl h0) ?_)
 refine s_ef (k_call (vs := [(.int .u8 n_0)]) cb12 (evC rfl evN) (h.mono ?_))
 clear h; rintro v F ⟨v_113, rfl, h⟩
 refine sR (.agg (#[(.int .i64 v_113), .int .i64 0, .slice none 0 0] : Array Value)) (w_buildStruct (cells := #[(.int .i64 v_113), .int .i64 0, .slice none 0 0]) underlying28 zr28 kf28 (evPC rfl evPN) (fill1 (place_of rfl rfl sz3) rfl rfl (fillN rfl))) ?_
 refine s_ef (k_alloc zr28 ?_)
 intro b18 hf_b18
 replace h := atE (h b18 hf_b18)
 refine s_ef0 (k_storeN (vs := (#[(.int .i64 v_113), .int .i64 0, .slice none 0 0] : Array Value)) rfl rfl sz28 (by decide) ?_)
 obtain ⟨hz1, hz2, c, e, hz3, hz4, hz5, h⟩ := h
 refine ⟨hz1, hz2, c, e, hz3, hz4, hz5, ?_⟩
 replace h := atE h
 refine HL_nil ?_
 refine HC_seqJ (b7J3 v_26 v_30 b18 R) ?_ ?_
 clear h; rintro E F ⟨h7, h8, h18, h⟩
 unfold b7j3 at h
 refine cR (sR _ (r_move rfl h8) ?_)
 refine s_ef (k_call (vs := [(.pointer v_30)]) cb20 (evC rfl evN) (h.mono ?_))
 clear h; rintro v F ⟨v_158, v_158_1, rfl, h⟩
 refine sR (.tuple #[(.pointer v_158), (.int .i64 v_158_1)]) (r_move rfl rfl) ?_
 refine sR (.pointer v_158) (r_extract rfl rfl rfl) ?_
 refine sR (.int .i64 v_158_1) (r_extract rfl rfl rfl) ?_
 refine sR (.pointer v_158) (r_assign rfl rfl) ?_
 refine sR (.int .i64 v_158_1) (r_assign rfl rfl) ?_
 refine HL_nil ?_
 refine cR (sR (.int .i64 v_158_1) (r_move rfl rfl) ?_)
 refine sR (.bool (decide (v_158_1 = 0))) (w_eql rfl rfl) ?_
 refine sR (.bool (decide (v_158_1 = 0))) (r_move rfl rfl) ?_
 by_cases hc : v_158_1 = 0
 replace h := h.1 hc
 refine kN 162 (decide_eq_true hc) ?_
 refine kN 163 (decide_eq_true hc) ?_
 refine sR (.pointer v_158) (r_move rfl rfl) ?_
 obtain ⟨v_165, hs165, hc165, h⟩ := h
 refine sR (.agg v_165) (w_loadN h18 underlying28 rfl sz28 hs165 hc165) ?_
 refine s_ef (k_call (vs := [(.pointer v_158), (.agg v_165)]) cb13 (evC rfl (evC rfl evN)) (h.mono ?_))
 clear h; rintro v F ⟨v_166, rfl, h⟩
 refine sR (.bool v_166) (r_pt rfl rfl) ?_
 refine sR (.bool v_166) (r_move rfl rfl) ?_
 by_cases hc : v_166 = true
 replace h := h.1 hc
 refine kN 166 hc ?_
 refine kN 167 hc ?_
 refine kN 168 hc ?_
 refine sR _ (r_move rfl h7) ?_
 refine sR (.bool v_26) (r_pt rfl rfl) ?_
 refine sR (.bool v_26) (r_assign rfl rfl) ?_
 exact HL_nil (HC_ret (rt1 f7 R rfl rfl h))
 replace hc := eq_false_of_ne_true hc; replace h := h.2 hc
 refine kN 166 hc ?_
 refine kN 167 hc ?_
 refine kN 168 hc ?_
 refine s_skip ?_
 refine sR (.bool false) (r_pf rfl rfl) ?_
 refine sR (.bool false) (r_assign rfl rfl) ?_
 exact HL_nil (HC_ret (rt1 f7 R rfl rfl h))
 replace h := h.2 hc
 refine kN 162 (decide_eq_false hc) ?_
 refine kN 163 (decide_eq_false hc) ?_
 iterate 3 refine s_skip ?_
 refine sR (.bool false) (r_pf rfl rfl) ?_
 refine sR (.bool false) (r_move rfl rfl) ?_
 refine s_skip ?_
 refine sR (.bool false) (r_pf rfl rfl) ?_
 refine sR (.bool false) (r_assign rfl rfl) ?_
 exact HL_nil (HC_ret (rt1 f7 R rfl rfl h))
 refine cR (sR _ (r_move rfl h1) ?_)
 refine sR (.int .i64 (l_1.len : Int)) (r_lenSl rfl rfl underlying22) ?_
 refine sR (.int .i64 (IntKind.i64.wrap ((l_1.len : Int) - 1))) (r_sub rfl rfl rfl) ?_
 refine sR (.int .i64 (IntKind.i64.wrap ((l_1.len : Int) - 1))) (r_assign rfl rfl) ?_
 refine HL_nil ?_
 refine HC_block ?_
 obtain ⟨I1, m1, hI0, hr⟩ := h
 refine HC_loop (fun m1 E F => ∃ t_16 : Option Addr, ∃ i_19 : Int, E 1 = (Sl.v l_1) ∧ E 7 = (.bool v_26) ∧ E 8 = (.pointer v_30) ∧ E 16 = (.pointer t_16) ∧ E 18 = (.pointer (some (Addr.mk b18 0 none))) ∧ E 19 = (.int .i64 i_19) ∧ I1 m1 t_16 i_19 F) m1 ⟨_, _, h1, h7, h8, rfl, rfl, rfl, hI0⟩ ?_
 clear hI0; rintro m1 E F ⟨t_16, i_19, h1, h7, h8, h16, h18, h19, hI⟩
 have h := hr m1 t_16 i_19 F hI
 clear hr hI
 unfold b7L1 at h
 refine HC_seq ?_
 refine cR (sR _ (r_move rfl h19) ?_)
 refine sR (.bool (decide (0 ≤ i_19))) (r_geq rfl rfl rfl) ?_
 refine sR (.bool (decide (0 ≤ i_19))) (r_move rfl rfl) ?_
 by_cases hc : 0 ≤ i_19
 replace h := h.1 hc
 refine kN 119 (decide_eq_true hc) ?_
 refine kN 120 (decide_eq_true hc) ?_
 refine sR _ (r_move rfl h19) ?_
 refine sR _ (r_move rfl h1) ?_
 refine sR (.int .i64 (l_1.len : Int)) (r_lenSl rfl rfl underlying22) ?_
 refine sR (.int .i64 (IntKind.i64.wrap ((l_1.len : Int) - 15))) (r_sub rfl rfl rfl) ?_
 refine sR (.bool (decide ((IntKind.i64.wrap ((l_1.len : Int) - 15)) ≤ i_19))) (r_geq rfl rfl rfl) ?_
 refine sR (.bool (decide ((IntKind.i64.wrap ((l_1.len : Int) - 15)) ≤ i_19))) (r_pt rfl rfl) ?_
 refine HL_nil ?_
 refine HC_cond (t := (decide ((IntKind.i64.wrap ((l_1.len : Int) - 15)) ≤ i_19))) rfl (fun hc => ?_) (fun hc => ?_)
 replace h := h.1 (of_decide_eq_true hc)
 clear hc
 refine HC_skip ?_
 refine HC_seq ?_
 refine HC_block ?_
 refine HC_seqJ (b7J4 (nx2 I1 m1) l_1 v_26 v_30 b18 i_19 R) ?_ ?_
 clear h; rintro E F ⟨u_20, next_21, f_22, fine_23, h1, h7, h8, h18, h19, h20, h21, h22, h23, h⟩
 unfold b7j4 at h
 refine HC_seq ?_
 refine cR (sR _ (r_move rfl h23) ?_)
 refine sR (.bool (!fine_23)) (r_not rfl rfl) ?_
 refine sR (.bool (!fine_23)) (r_move rfl rfl) ?_
 by_cases hc : (!fine_23) = true
 replace h := h.1 hc
 refine kN 143 hc ?_
 refine kN 144 hc ?_
 iterate 2 refine s_skip ?_
 refine sR (.bool true) (r_pt rfl rfl) ?_
 refine sR (.bool true) (r_move rfl rfl) ?_
 iterate 4 refine s_skip ?_
 refine sR (.bool true) (r_pt rfl rfl) ?_
 refine HL_nil ?_
 refine HC_condT rfl ?_
 refine cR (sR (.bool false) (r_assign rfl rfl) ?_)
 exact HL_nil (HC_ret (rt1 f7 R rfl rfl h))
 replace hc := eq_false_of_ne_true hc; replace h := h.2 hc
 refine kN 143 hc ?_
 refine kN 144 hc ?_
 refine sR _ (r_move rfl h22) ?_
 refine sR (.bool (decide (f_22 = 340))) (w_eql rfl rfl) ?_
 refine sR (.bool (decide (f_22 = 340))) (r_pf rfl rfl) ?_
 refine sR (.bool (decide (f_22 = 340))) (r_move rfl rfl) ?_
 by_cases hc : f_22 = 340
 replace h := h.1 hc
 refine kN 146 (decide_eq_true hc) ?_
 refine kN 147 (decide_eq_true hc) ?_
 refine kN 148 (decide_eq_true hc) ?_
 iterate 4 refine s_skip ?_
 refine sR (.bool true) (r_pt rfl rfl) ?_
 refine HL_nil ?_
 refine HC_condT rfl ?_
 refine cR (sR (.bool false) (r_assign rfl rfl) ?_)
 exact HL_nil (HC_ret (rt1 f7 R rfl rfl h))
 replace h := h.2 hc
 refine kN 146 (decide_eq_false hc) ?_
 refine kN 147 (decide_eq_false hc) ?_
 refine kN 148 (decide_eq_false hc) ?_
 refine sR _ (r_move rfl h20) ?_
 obtain ⟨next21a_, rfl, h⟩ := h
 obtain ⟨v_150, hs150, hc150, h⟩ := h
 refine sR (.agg v_150) (w_loadN h21 underlying28 rfl sz28 hs150 hc150) ?_
 refine s_ef (k_call (vs := [(.pointer u_20), (.agg v_150)]) cb13 (evC rfl (evC rfl evN)) (h.mono ?_))
 clear h; rintro v F ⟨v_151, rfl, h⟩
 refine sR (.bool (!v_151)) (r_not rfl rfl) ?_
 refine sR (.bool (!v_151)) (r_pf rfl rfl) ?_
 refine HL_nil ?_
 refine HC_cond (t := (!v_151)) rfl (fun hc => ?_) (fun hc => ?_)
 replace h := h.1 hc
 clear hc
 refine cR (sR (.bool false) (r_assign rfl rfl) ?_)
 exact HL_nil (HC_ret (rt1 f7 R rfl rfl h))
 replace h := h.2 hc
 clear hc
 refine HC_skip ?_
 refine HC_draw0 (by kernel_rfl) (fun hp => ?_)
 refine gU 0 (.pointer u_20) rfl (fun _ => r_move rfl h20) hp ?_
 obtain ⟨v_155, hs155, hc155, h⟩ := h
 refine gR 1 (.agg v_155) rfl (w_loadN h21 underlying28 rfl sz28 hs155 hc155) hp (fun S1 q1 => ?_)
 replace hp := holdC (i := 1) (q1 _ (w_loadN h21 underlying28 rfl sz28 hs155 hc155)) hp
 refine gU 2 (.pointer u_20) rfl (fun _ => r_assign rfl rfl) hp ?_
 refine RG_eff1 (i := 3) (by kernel_rfl) (g_op0 (Sp' := []) rfl rfl (k_storeN (vs := v_155) h18 rfl sz28 (by decide) ?_))
 obtain ⟨hz1, hz2, c, e, hz3, hz4, hz5, h⟩ := h
 refine ⟨hz1, hz2, c, e, hz3, hz4, hz5, ?_⟩
 replace h := atE h
 refine holdI hold0 (fun hp => ?_)
 refine RG_done (by kernel_rfl) ?_
 refine HC_region ?_
 refine sR _ (r_move rfl h19) ?_
 refine sR (.int .i64 (IntKind.i64.wrap (i_19 - 1))) (r_sub rfl rfl rfl) ?_
 refine sR (.int .i64 (IntKind.i64.wrap (i_19 - 1))) (r_assign rfl rfl) ?_
 refine HL_nil ?_
 obtain ⟨m', hm, h⟩ := h
 exact ⟨m', hm, _, _, h1, h7, h8, rfl, h18, rfl, h⟩
 refine HC_draw0 (by kernel_rfl) (fun hp => ?_)
 refine gU 0 (.pointer v_30) rfl (fun _ => r_move rfl h8) hp ?_
 refine gU 1 (.pointer t_16) rfl (fun _ => r_move rfl h16) hp ?_
 obtain ⟨v_132, hs132, hc132, h⟩ := h
 refine gR 2 (.agg v_132) rfl (w_loadN h18 underlying28 rfl sz28 hs132 hc132) hp (fun S2 q2 => ?_)
 replace hp := holdC (i := 2) (q2 _ (w_loadN h18 underlying28 rfl sz28 hs132 hc132)) hp
 refine gU 3 (Sl.v l_1) rfl (fun _ => r_move rfl h1) hp ?_
 refine gU 4 (.int .i64 i_19) rfl (fun _ => r_move rfl h19) hp ?_
 obtain ⟨a135_, hb135, hl135, hu135, h⟩ := h
 refine gU 5 (.pointer (some (Addr.add a135_ (Int.toNat i_19 * 2)))) rfl (fun _ => w_indexAddr rfl rfl underlying22 sz38 hb135 hl135 hu135) hp ?_
 obtain ⟨v_136, hs136, hc136, h⟩ := h
 refine gR 6 (.agg v_136) rfl (w_loadN rfl underlying38 rfl sz38 hs136 hc136) hp (fun S6 q6 => ?_)
 replace hp := holdC (i := 6) (q6 _ (w_loadN rfl underlying38 rfl sz38 hs136 hc136)) hp
 refine RG_eff (rs := [7, 13]) (by kernel_rfl) rfl ?_
 obtain ⟨ha0, ha1⟩ := h
 simp only [List.mem_cons, List.not_mem_nil, or_false, forall_eq_or_imp, forall_eq]
 refine ⟨?_, ?_⟩
 have h := ha0; clear ha0 ha1
 refine g_op (Sp' := []) rfl rfl (k_call (vs := [(.pointer v_30), (.pointer t_16), (.agg v_132), (.agg v_136)]) cb14 (evC rfl (evC rfl (evC rfl (evC rfl evN)))) (h.mono ?_))
 clear h; rintro v F ⟨v_137, v_137_1, v_137_2, v_137_3, rfl, h⟩
 refine holdI hold0 (fun hp => ?_)
 refine gU 8 (.tuple #[(.pointer v_137), (.agg v_137_1), (.int .i64 v_137_2), (.bool v_137_3)]) rfl (fun _ => r_move rfl rfl) hp ?_
 refine gU 9 (.pointer v_137) rfl (fun _ => r_extract rfl rfl rfl) hp ?_
 refine gU 10 (.agg v_137_1) rfl (fun _ => r_extract rfl rfl rfl) hp ?_
 refine gU 11 (.int .i64 v_137_2) rfl (fun _ => r_extract rfl rfl rfl) hp ?_
 refine gU 12 (.bool v_137_3) rfl (fun _ => r_extract rfl rfl rfl) hp ?_
 refine RG_eff1 (i := 13) (by kernel_rfl) (g_op (Sp' := []) rfl rfl (k_alloc zr28 ?_))
 intro b21 hf_b21
 replace h := atE (h b21 hf_b21)
 refine holdI hold0 (fun hp => ?_)
 refine gU 14 (.pointer v_137) rfl (fun _ => r_assign rfl rfl) hp ?_
 refine RG_eff1 (i := 15) (by kernel_rfl) (g_op0 (Sp' := []) rfl rfl (k_storeN (vs := v_137_1) rfl rfl sz28 (by decide) ?_))
 obtain ⟨hz1, hz2, c, e, hz3, hz4, hz5, h⟩ := h
 refine ⟨hz1, hz2, c, e, hz3, hz4, hz5, ?_⟩
 replace h := atE h
 refine holdI hold0 (fun hp => ?_)
 refine gU 16 (.int .i64 v_137_2) rfl (fun _ => r_assign rfl rfl) hp ?_
 refine gU 17 (.bool v_137_3) rfl (fun _ => r_assign rfl rfl) hp ?_
 refine RG_done (by kernel_rfl) ?_
 show b7J4 (nx2 I1 m1) l_1 v_26 v_30 b18 i_19 R _ _
 exact ⟨_, _, _, _, h1, h7, h8, h18, h19, rfl, rfl, rfl, rfl, h⟩
 have h := ha1; clear ha0 ha1
 refine g_op (Sp' := [(6, S6), (2, S2)]) rfl rfl (k_alloc zr28 ?_)
 intro b21_1 hf_b21_1
 replace h := atE (h b21_1 hf_b21_1)
 refine holdI (holdC (i := 6) (q6 _ (w_loadN rfl underlying38 rfl sz38 hs136 (row_set_fresh hf_b21_1 hc136))) (holdC (i := 2) (q2 _ (w_loadN h18 underlying28 rfl sz28 hs132 (row_set_fresh hf_b21_1 hc132))) hold0)) (fun hp => ?_)
 refine RG_eff1 (i := 7) (by kernel_rfl) (g_op (Sp' := []) rfl rfl (k_call (vs := [(.pointer v_30), (.pointer t_16), (.agg v_132), (.agg v_136)]) cb14 (evC rfl (evC rfl (evC rfl (evC rfl evN)))) (h.mono ?_)))
 clear h; rintro v F ⟨v_137_4, v_137_5, v_137_6, v_137_7, rfl, h⟩
 refine holdI hold0 (fun hp => ?_)
 refine gU 8 (.tuple #[(.pointer v_137_4), (.agg v_137_5), (.int .i64 v_137_6), (.bool v_137_7)]) rfl (fun _ => r_move rfl rfl) hp ?_
 refine gU 9 (.pointer v_137_4) rfl (fun _ => r_extract rfl rfl rfl) hp ?_
 refine gU 10 (.agg v_137_5) rfl (fun _ => r_extract rfl rfl rfl) hp ?_
 refine gU 11 (.int .i64 v_137_6) rfl (fun _ => r_extract rfl rfl rfl) hp ?_
 refine gU 12 (.bool v_137_7) rfl (fun _ => r_extract rfl rfl rfl) hp ?_
 refine gU 14 (.pointer v_137_4) rfl (fun _ => r_assign rfl rfl) hp ?_
 refine RG_eff1 (i := 15) (by kernel_rfl) (g_op0 (Sp' := []) rfl rfl (k_storeN (vs := v_137_5) rfl rfl sz28 (by decide) ?_))
 obtain ⟨hz1, hz2, c, e, hz3, hz4, hz5, h⟩ := h
 refine ⟨hz1, hz2, c, e, hz3, hz4, hz5, ?_⟩
 replace h := atE h
 refine holdI hold0 (fun hp => ?_)
 refine gU 16 (.int .i64 v_137_6) rfl (fun _ => r_assign rfl rfl) hp ?_
 refine gU 17 (.bool v_137_7) rfl (fun _ => r_assign rfl rfl) hp ?_
 refine RG_done (by kernel_rfl) ?_
 show b7J4 (nx2 I1 m1) l_1 v_26 v_30 b18 i_19 R _ _
 exact ⟨_, _, _, _, h1, h7, h8, h18, h19, rfl, rfl, rfl, rfl, h⟩
 replace h := h.2 (of_decide_eq_false hc)
 clear hc
 refine HC_exit ?_
 show b7J3 v_26 v_30 b18 R _ _
 exact ⟨h7, h8, h18, h⟩
 replace h := h.2 hc
 refine kN 119 (decide_eq_false hc) ?_
 refine kN 120 (decide_eq_false hc) ?_
 iterate 5 refine s_skip ?_
 refine sR (.bool false) (r_pf rfl rfl) ?_
 refine HL_nil ?_
 refine HC_condF rfl ?_
 refine HC_exit ?_
 show b7J3 v_26 v_30 b18 R _ _
 exact ⟨h7, h8, h18, h⟩
 refine cR (sR (.int .i64 0) (r_assign rfl rfl) ?_)
 refine HL_nil ?_
 refine HC_block ?_
 obtain ⟨I2, m2, hI0, hr⟩ := h
 refine HC_loop (fun m2 E F => ∃ i_13 : Int, E 0 = (.int .u8 n_0) ∧ E 1 = (Sl.v l_1) ∧ E 2 = (Sl.v noise_2) ∧ E 7 = (.bool v_26) ∧ E 8 = (.pointer v_30) ∧ E 13 = (.int .i64 i_13) ∧ I2 m2 i_13 F) m2 ⟨_, h0, h1, h2, h7, h8, rfl, hI0⟩ ?_
 clear hI0; rintro m2 E F ⟨i_13, h0, h1, h2, h7, h8, h13, hI⟩
 have h := hr m2 i_13 F hI
 clear hr hI
 unfold b7L2 at h
 refine HC_seq ?_
 refine cR (sR _ (r_move rfl h13) ?_)
 refine sR (.int .i64 (IntKind.i64.wrap (i_13 + 1))) (r_add rfl rfl rfl) ?_
 refine sR _ (r_move rfl h2) ?_
 refine sR (.int .i64 (noise_2.len : Int)) (r_lenSl rfl rfl underlying39) ?_
 refine sR (.bool (decide ((IntKind.i64.wrap (i_13 + 1)) < (noise_2.len : Int)))) (r_lss rfl rfl rfl) ?_
 refine sR (.bool (decide ((IntKind.i64.wrap (i_13 + 1)) < (noise_2.len : Int)))) (r_move rfl rfl) ?_
 by_cases hc : (IntKind.i64.wrap (i_13 + 1)) < (noise_2.len : Int)
 replace h := h.1 hc
 refine kN 67 (decide_eq_true hc) ?_
 refine kN 68 (decide_eq_true hc) ?_
 refine sR _ (r_move rfl h13) ?_
 refine sR (.bool (decide (i_13 < 20))) (r_lss rfl rfl rfl) ?_
 refine sR (.bool (decide (i_13 < 20))) (r_pt rfl rfl) ?_
 refine HL_nil ?_
 refine HC_cond (t := (decide (i_13 < 20))) rfl (fun hc => ?_) (fun hc => ?_)
 replace h := h.1 (of_decide_eq_true hc)
 clear hc
 refine HC_skip ?_
 refine HC_seqJ (b7J5 (nx1 I2 m2) n_0 l_1 noise_2 v_26 v_30 i_13 R) ?_ ?_
 clear h; rintro E F ⟨h0, h1, h2, h7, h8, h13, h⟩
 unfold b7j5 at h
 refine HC_region ?_
 refine sR _ (r_move rfl h13) ?_
 refine sR (.int .i64 (IntKind.i64.wrap (i_13 + 2))) (r_add rfl rfl rfl) ?_
 refine sR (.int .i64 (IntKind.i64.wrap (i_13 + 2))) (r_assign rfl rfl) ?_
 refine HL_nil ?_
 obtain ⟨m', hm, h⟩ := h
 exact ⟨m', hm, _, h0, h1, h2, h7, h8, rfl, h⟩
 refine HC_block ?_
 refine cR ?_
 refine s_ef (k_makeSlice rfl rfl (runs_mono _ _ h ?_))
 clear h; rintro v F ⟨v_74, rfl, h⟩
 refine sR (Sl.v v_74) (r_assign rfl rfl) ?_
 refine HL_nil ?_
 refine HC_seqJ (b7J6 (nx1 I2 m2) n_0 l_1 noise_2 v_26 v_30 i_13 v_74 R) ?_ ?_
 clear h; rintro E F ⟨h0, h1, h2, h7, h8, h13, h14, h⟩
 unfold b7j6 at h
 refine HC_seq ?_
 refine HC_draw0 (by kernel_rfl) (fun hp => ?_)
 refine gU 0 (.pointer v_30) rfl (fun _ => r_move rfl h8) hp ?_
 refine gU 1 (Sl.v noise_2) rfl (fun _ => r_move rfl h2) hp ?_
 refine gU 2 (.int .i64 i_13) rfl (fun _ => r_move rfl h13) hp ?_
 obtain ⟨a90_, hb90, hl90, hu90, h⟩ := h
 refine gU 3 (.pointer (some (Addr.add a90_ (Int.toNat i_13 * 1)))) rfl (fun _ => w_indexAddr rfl rfl underlying39 sz5 hb90 hl90 hu90) hp ?_
 obtain ⟨v_91, hc91, h⟩ := h
 refine gR 4 (.int .u8 v_91) rfl (r_load1 rfl rfl underlying5 rfl hc91) hp (fun S4 q4 => ?_)
 replace hp := holdC (i := 4) (q4 _ (r_load1 rfl rfl underlying5 rfl hc91)) hp
 refine gU 5 (.int .i64 (IntKind.i64.wrap v_91)) rfl (fun _ => r_convInt rfl rfl underlying5 underlying3) hp ?_
 refine gU 6 (.pointer v_30) rfl (fun _ => r_move rfl h8) hp ?_
 refine gU 9 (Sl.v v_74) rfl (fun _ => r_move rfl h14) hp ?_
 refine RG_eff1 (i := 7) (by kernel_rfl) (g_op (Sp' := [(4, S4)]) rfl rfl (k_call (vs := [(.pointer v_30)]) cb28 (evC rfl evN) (h.mono ?_)))
 clear h; rintro v F ⟨v_94, rfl, h⟩
 obtain ⟨hk_15, h⟩ := h
 refine holdI (holdC (i := 4) (q4 _ (r_load1 rfl rfl underlying5 rfl hk_15)) hold0) (fun hp => ?_)
 obtain ⟨hd95, h⟩ := h
 refine gU 8 (.int .i64 (Int.tmod (IntKind.i64.wrap v_91) v_94)) rfl (fun _ => r_rem rfl rfl rfl hd95) hp ?_
 refine RG_eff1 (i := 10) (by kernel_rfl) (g_op (Sp' := [(4, S4)]) rfl rfl (k_call (vs := [(.pointer v_30), (.int .i64 (Int.tmod (IntKind.i64.wrap v_91) v_94)), (Sl.v v_74)]) cb29 (evC rfl (evC rfl (evC rfl evN))) (h.mono ?_)))
 clear h; rintro v F ⟨v_97, rfl, h⟩
 obtain ⟨hk_16, h⟩ := h
 refine holdI (holdC (i := 4) (q4 _ (r_load1 rfl rfl underlying5 rfl hk_16)) hold0) (fun hp => ?_)
 refine gU 11 (.bool (decide (v_97 ≠ 0))) rfl (fun _ => w_neq rfl rfl) hp ?_
 refine RG_done (by kernel_rfl) ?_
 refine HC_cond (t := (decide (v_97 ≠ 0))) rfl (fun hc => ?_) (fun hc => ?_)
 replace h := h.1 (of_decide_eq_true hc)
 clear hc
 refine cR (sR (.bool false) (r_assign rfl rfl) ?_)
 exact HL_nil (HC_ret (rt1 f7 R rfl rfl h))
 replace h := h.2 (of_decide_eq_false hc)
 clear hc
 refine HC_skip ?_
 show b7J5 (nx1 I2 m2) n_0 l_1 noise_2 v_26 v_30 i_13 R _ _
 exact ⟨h0, h1, h2, h7, h8, h13, h⟩
 refine cR (sR (.int .i64 0) (r_assign rfl rfl) ?_)
 refine HL_nil ?_
 refine HC_block ?_
 obtain ⟨I3, m3, hI0, hr⟩ := h
 refine HC_loop (fun m3 E F => ∃ k_15 : Int, E 0 = (.int .u8 n_0) ∧ E 1 = (Sl.v l_1) ∧ E 2 = (Sl.v noise_2) ∧ E 7 = (.bool v_26) ∧ E 8 = (.pointer v_30) ∧ E 13 = (.int .i64 i_13) ∧ E 14 = (Sl.v v_74) ∧ E 15 = (.int .i64 k_15) ∧ I3 m3 k_15 F) m3 ⟨_, h0, h1, h2, h7, h8, h13, rfl, rfl, hI0⟩ ?_
 clear hI0; rintro m3 E F ⟨k_15, h0, h1, h2, h7, h8, h13, h14, h15, hI⟩
 have h := hr m3 k_15 F hI
 clear hr hI
 unfold b7L3 at h
 refine HC_seq ?_
 refine cR (sR _ (r_move rfl h15) ?_)
 refine sR (.bool (decide (k_15 < 64))) (r_lss rfl rfl rfl) ?_
 refine HL_nil ?_
 refine HC_cond (t := (decide (k_15 < 64))) rfl (fun hc => ?_) (fun hc => ?_)
 replace h := h.1 (of_decide_eq_true hc)
 clear hc
 refine HC_skip ?_
 refine HC_seq ?_
 refine HC_block ?_
 refine HC_region ?_
 refine sR _ (r_move rfl h14) ?_
 refine sR _ (r_move rfl h15) ?_
 refine sR _ (r_move rfl h2) ?_
 refine sR _ (r_move rfl h13) ?_
 refine sR (.int .i64 (IntKind.i64.wrap (i_13 + 1))) (r_add rfl rfl rfl) ?_
 obtain ⟨a84_, hb84, hl84, hu84, h⟩ := h
 refine sR (.pointer (some (Addr.add a84_ (Int.toNat (IntKind.i64.wrap (i_13 + 1)) * 1)))) (w_indexAddr rfl rfl underlying39 sz5 hb84 hl84 hu84) ?_
 obtain ⟨v_85, hc85, h⟩ := h
 refine sR (.int .u8 v_85) (r_load1 rfl rfl underlying5 rfl hc85) ?_
 obtain ⟨a86_, hb86, hl86, hu86, h⟩ := h
 refine sR (.pointer (some (Addr.add a86_ (Int.toNat k_15 * 1)))) (w_indexAddr rfl rfl underlying39 sz5 hb86 hl86 hu86) ?_
 refine s_ef0 (k_store1 (v := (.int .u8 v_85)) rfl rfl sz5 rfl st_int ?_)
 obtain ⟨c, e, hz3, hz4, hz5, h⟩ := h
 refine ⟨c, e, hz3, hz4, hz5, ?_⟩
 replace h := atE h
 refine HL_nil ?_
 refine HC_region ?_
 refine sR _ (r_move rfl h15) ?_
 refine sR (.int .i64 (IntKind.i64.wrap (k_15 + 1))) (r_add rfl rfl rfl) ?_
 refine sR (.int .i64 (IntKind.i64.wrap (k_15 + 1))) (r_assign rfl rfl) ?_
 refine HL_nil ?_
 obtain ⟨m', hm, h⟩ := h
 exact ⟨m', hm, _, h0, h1, h2, h7, h8, h13, h14, rfl, h⟩
 replace h := h.2 (of_decide_eq_false hc)
 clear hc
 refine HC_exit ?_
 show b7J6 (nx1 I2 m2) n_0 l_1 noise_2 v_26 v_30 i_13 v_74 R _ _
 exact ⟨h0, h1, h2, h7, h8, h13, h14, h⟩
 replace h := h.2 (of_decide_eq_false hc)
 clear hc
 refine HC_exit ?_
 show b7J2 n_0 l_1 v_26 v_30 R _ _
 exact ⟨h0, h1, h7, h8, h⟩
 replace h := h.2 hc
 refine kN 67 (decide_eq_false hc) ?_
 refine kN 68 (decide_eq_false hc) ?_
 iterate 2 refine s_skip ?_
 refine sR (.bool false) (r_pf rfl rfl) ?_
 refine HL_nil ?_
 refine HC_condF rfl ?_
 refine HC_exit ?_
 show b7J2 n_0 l_1 v_26 v_30 R _ _
 exact ⟨h0, h1, h7, h8, h⟩
 refine cR (sR (.int .i64 0) (r_assign rfl rfl) ?_)
 refine HL_nil ?_
 refine HC_block ?_
 obtain ⟨I4, m4, hI0, hr⟩ := h
 refine HC_loop (fun m4 E F => ∃ s_9 : Option Addr, ∃ i_12 : Int, E 0 = (.int .u8 n_0) ∧ E 1 = (Sl.v l_1) ∧ E 2 = (Sl.v noise_2) ∧ E 7 = (.bool v_26) ∧ E 8 = (.pointer v_30) ∧ E 9 = (.pointer s_9) ∧ E 10 = (.pointer (some (Addr.mk b10 0 none))) ∧ E 12 = (.int .i64 i_12) ∧ I4 m4 s_9 i_12 F) m4 ⟨_, _, rfl, rfl, rfl, rfl, rfl, rfl, rfl, rfl, hI0⟩ ?_
 clear hI0; rintro m4 E F ⟨s_9, i_12, h0, h1, h2, h7, h8, h9, h10, h12, hI⟩
 have h := hr m4 s_9 i_12 F hI
 clear hr hI
 unfold b7L4 at h
 refine HC_seq ?_
 refine cR (sR _ (r_move rfl h12) ?_)
 refine sR _ (r_move rfl h1) ?_
 refine sR (.int .i64 (l_1.len : Int)) (r_lenSl rfl rfl underlying22) ?_
 refine sR (.bool (decide (i_12 < (l_1.len : Int)))) (r_lss rfl rfl rfl) ?_
 refine sR (.bool (decide (i_12 < (l_1.len : Int)))) (r_move rfl rfl) ?_
 by_cases hc : i_12 < (l_1.len : Int)
 replace h := h.1 hc
 refine kN 40 (decide_eq_true hc) ?_
 refine kN 41 (decide_eq_true hc) ?_
 refine sR _ (r_move rfl h12) ?_
 refine sR (.bool (decide (i_12 < 15))) (r_lss rfl rfl rfl) ?_
 refine sR (.bool (decide (i_12 < 15))) (r_pt rfl rfl) ?_
 refine HL_nil ?_
 refine HC_cond (t := (decide (i_12 < 15))) rfl (fun hc => ?_) (fun hc => ?_)
 replace h := h.1 (of_decide_eq_true hc)
 clear hc
 refine HC_skip ?_
 refine HC_seq ?_
 refine HC_block ?_
 refine HC_draw0 (by kernel_rfl) (fun hp => ?_)
 refine gU 0 (.pointer v_30) rfl (fun _ => r_move rfl h8) hp ?_
 refine gU 1 (.pointer s_9) rfl (fun _ => r_move rfl h9) hp ?_
 obtain ⟨v_50, hs50, hc50, h⟩ := h
 refine gR 2 (.agg v_50) rfl (w_loadN h10 underlying28 rfl sz28 hs50 hc50) hp (fun S2 q2 => ?_)
 replace hp := holdC (i := 2) (q2 _ (w_loadN h10 underlying28 rfl sz28 hs50 hc50)) hp
 refine gU 3 (Sl.v l_1) rfl (fun _ => r_move rfl h1) hp ?_
 refine gU 4 (.int .i64 i_12) rfl (fun _ => r_move rfl h12) hp ?_
 obtain ⟨a53_, hb53, hl53, hu53, h⟩ := h
 refine gU 5 (.pointer (some (Addr.add a53_ (Int.toNat i_12 * 2)))) rfl (fun _ => w_indexAddr rfl rfl underlying22 sz38 hb53 hl53 hu53) hp ?_
 obtain ⟨v_54, hs54, hc54, h⟩ := h
 refine gR 6 (.agg v_54) rfl (w_loadN rfl underlying38 rfl sz38 hs54 hc54) hp (fun S6 q6 => ?_)
 replace hp := holdC (i := 6) (q6 _ (w_loadN rfl underlying38 rfl sz38 hs54 hc54)) hp
 refine RG_eff1 (i := 7) (by kernel_rfl) (g_op (Sp' := []) rfl rfl (k_call (vs := [(.pointer v_30), (.pointer s_9), (.agg v_50), (.agg v_54)]) cb14 (evC rfl (evC rfl (evC rfl (evC rfl evN)))) (h.mono ?_)))
 clear h; rintro v F ⟨v_55, v_55_1, v_55_2, v_55_3, rfl, h⟩
 refine holdI hold0 (fun hp => ?_)
 refine gU 8 (.tuple #[(.pointer v_55), (.agg v_55_1), (.int .i64 v_55_2), (.bool v_55_3)]) rfl (fun _ => r_move rfl rfl) hp ?_
 refine gU 9 (.pointer v_55) rfl (fun _ => r_extract rfl rfl rfl) hp ?_
 refine gU 10 (.agg v_55_1) rfl (fun _ => r_extract rfl rfl rfl) hp ?_
 refine gU 11 (.int .i64 v_55_2) rfl (fun _ => r_extract rfl rfl rfl) hp ?_
 refine gU 12 (.bool v_55_3) rfl (fun _ => r_extract rfl rfl rfl) hp ?_
 refine gU 13 (.pointer v_55) rfl (fun _ => r_assign rfl rfl) hp ?_
 refine RG_eff1 (i := 14) (by kernel_rfl) (g_op0 (Sp' := []) rfl rfl (k_storeN (vs := v_55_1) h10 rfl sz28 (by decide) ?_))
 obtain ⟨hz1, hz2, c, e, hz3, hz4, hz5, h⟩ := h
 refine ⟨hz1, hz2, c, e, hz3, hz4, hz5, ?_⟩
 replace h := atE h
 refine holdI hold0 (fun hp => ?_)
 refine RG_done (by kernel_rfl) ?_
 refine HC_region ?_
 refine sR _ (r_move rfl h12) ?_
 refine sR (.int .i64 (IntKind.i64.wrap (i_12 + 1))) (r_add rfl rfl rfl) ?_
 refine sR (.int .i64 (IntKind.i64.wrap (i_12 + 1))) (r_assign rfl rfl) ?_
 refine HL_nil ?_
 obtain ⟨m', hm, h⟩ := h
 exact ⟨m', hm, _, _, h0, h1, h2, h7, h8, rfl, h10, rfl, h⟩
 replace h := h.2 (of_decide_eq_false hc)
 clear hc
 refine HC_exit ?_
 show b7J1 n_0 l_1 noise_2 v_26 v_30 R _ _
 exact ⟨h0, h1, h2, h7, h8, h⟩
 replace h := h.2 hc
 refine kN 40 (decide_eq_false hc) ?_
 refine kN 41 (decide_eq_false hc) ?_
 iterate 2 refine s_skip ?_
 refine sR (.bool false) (r_pf rfl rfl) ?_
 refine HL_nil ?_
 refine HC_condF rfl ?_
 refine HC_exit ?_
 show b7J1 n_0 l_1 noise_2 v_26 v_30 R _ _
 exact ⟨h0, h1, h2, h7, h8, h⟩
end Go.Proofs.Ytelkfnmdnbbniaa
