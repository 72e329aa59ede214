/-
  What functions of the program do, in a clean form, each with the proof that its code does so. Printed by a program.
-/
import Derived.Test.YtafojmoeaneedaaGf
import Derived.Test.YtafojmoeaneedaaPho
namespace Go.Proofs.Ytafojmoeaneedaa
open Go Go.Proofs.Try
set_option maxRecDepth 10000
set_option maxHeartbeats 4000000
/- 8 koine.koinelaw02.DiagramLiterals -/
def b8j1 (c_1 : Int) (v_18 : Bool) (b6 : Nat) (agrees_7 : Bool) (clash_8 : Bool) (ones_9 : Int) (zeros_10 : Int) (R : Value → PH → Prop) (F : PH) : Prop :=
 ∃ v_82 : Array Value, v_82.size = 2 ∧ F.row (Addr.mk b6 0 none) v_82 ∧
 Spec prog 31 #[(.agg v_82)] F fun v F => ∃ v_83 : Int, ∃ v_83_1 : Bool, v = (.tuple #[(.int .u64 v_83), (.bool v_83_1)]) ∧
 ((clash_8 = true →
  (((!v_83_1) = true →
   ∃ v_90 : Array Value, v_90.size = 2 ∧ F.row (Addr.mk b6 0 none) v_90 ∧
   Spec prog 17 #[(.bool false)] F fun v F => ∃ v_91 : Array Value, v = (.agg v_91) ∧
   F.row (Addr.mk b6 0 none) v_90 ∧ Spec prog 24 #[(.agg v_90), (.agg v_91)] F fun v F => ∃ v_92 : Bool, v = (.bool v_92) ∧
   ((v_92 = true →
    R (.bool v_18) F) ∧
   (v_92 = false →
    R (.bool false) F))) ∧
  ((!v_83_1) = false →
   R (.bool false) F))) ∧
 (clash_8 = false →
  ((v_83_1 = true →
   ((v_83 = ones_9 →
    ∃ v_104 : Array Value, v_104.size = 2 ∧ F.row (Addr.mk b6 0 none) v_104 ∧
    Spec prog 21 #[(.agg v_104), (.int .u64 c_1)] F fun v F => ∃ v_106 : Bool, v = (.bool v_106) ∧
    (((v_106 == agrees_7) = true →
     ∃ v_111 : Array Value, v_111.size = 2 ∧ F.row (Addr.mk b6 0 none) v_111 ∧
     Spec prog 21 #[(.agg v_111), (.int .u64 (IntKind.u64.wrap ((BitVec.ofInt (IntKind.u64).bits (IntKind.u64.wrap ((BitVec.ofInt (IntKind.u64).bits c_1 &&& ~~~ BitVec.ofInt (IntKind.u64).bits zeros_10).toNat)) ||| BitVec.ofInt (IntKind.u64).bits ones_9).toNat)))] F fun v F => ∃ v_117 : Bool, v = (.bool v_117) ∧
     ((v_117 = true →
      R (.bool v_18) F) ∧
     (v_117 = false →
      R (.bool false) F))) ∧
    ((v_106 == agrees_7) = false →
     R (.bool false) F))) ∧
   (¬ (v_83 = ones_9) →
    R (.bool false) F))) ∧
  (v_83_1 = false →
   R (.bool false) F))))
abbrev b8J1 (c_1 : Int) (v_18 : Bool) (b6 : Nat) (R : Value → PH → Prop) (E : En) (F : PH) : Prop := ∃ agrees_7 : Bool, ∃ clash_8 : Bool, ∃ ones_9 : Int, ∃ zeros_10 : Int, E 1 = (.int .u64 c_1) ∧ E 5 = (.bool v_18) ∧ E 6 = (.pointer (some (Addr.mk b6 0 none))) ∧ E 7 = (.bool agrees_7) ∧ E 8 = (.bool clash_8) ∧ E 9 = (.int .u64 ones_9) ∧ E 10 = (.int .u64 zeros_10) ∧ b8j1 c_1 v_18 b6 agrees_7 clash_8 ones_9 zeros_10 R F
def b8j2 (N1 : Bool → Bool → Int → Int → Int → PH → Prop) (l_0 : Sl) (c_1 : Int) (v_18 : Bool) (b6 : Nat) (i_11 : Int) (agrees_7_2 : Bool) (clash_8_2 : Bool) (ones_9_2 : Int) (zeros_10_2 : Int) (R : Value → PH → Prop) (F : PH) : Prop :=
 N1 agrees_7_2 clash_8_2 ones_9_2 zeros_10_2 (IntKind.i64.wrap (i_11 + (1 : Int))) F
abbrev b8J2 (N1 : Bool → Bool → Int → Int → Int → PH → Prop) (l_0 : Sl) (c_1 : Int) (v_18 : Bool) (b6 : Nat) (i_11 : Int) (R : Value → PH → Prop) (E : En) (F : PH) : Prop := ∃ agrees_7_2 : Bool, ∃ clash_8_2 : Bool, ∃ ones_9_2 : Int, ∃ zeros_10_2 : Int, E 0 = (Sl.v l_0) ∧ E 1 = (.int .u64 c_1) ∧ E 5 = (.bool v_18) ∧ E 6 = (.pointer (some (Addr.mk b6 0 none))) ∧ E 7 = (.bool agrees_7_2) ∧ E 8 = (.bool clash_8_2) ∧ E 9 = (.int .u64 ones_9_2) ∧ E 10 = (.int .u64 zeros_10_2) ∧ E 11 = (.int .i64 i_11) ∧ b8j2 N1 l_0 c_1 v_18 b6 i_11 agrees_7_2 clash_8_2 ones_9_2 zeros_10_2 R F
def b8j5 (N1 : Bool → Bool → Int → Int → Int → PH → Prop) (l_0 : Sl) (c_1 : Int) (v_18 : Bool) (b6 : Nat) (agrees_7_3 : Bool) (clash_8_1 : Bool) (i_11 : Int) (ones_9_3 : Int) (zeros_10_3 : Int) (R : Value → PH → Prop) (F : PH) : Prop :=
 ((clash_8_1 = true →
  b8j2 N1 l_0 c_1 v_18 b6 i_11 agrees_7_3 true ones_9_3 zeros_10_3 R F) ∧
 (clash_8_1 = false →
  b8j2 N1 l_0 c_1 v_18 b6 i_11 agrees_7_3 (decide ((IntKind.u64.wrap ((BitVec.ofInt (IntKind.u64).bits ones_9_3 &&& BitVec.ofInt (IntKind.u64).bits zeros_10_3).toNat)) ≠ (0 : Int))) ones_9_3 zeros_10_3 R F))
abbrev b8J5 (N1 : Bool → Bool → Int → Int → Int → PH → Prop) (l_0 : Sl) (c_1 : Int) (v_18 : Bool) (b6 : Nat) (agrees_7_3 : Bool) (clash_8_1 : Bool) (i_11 : Int) (R : Value → PH → Prop) (E : En) (F : PH) : Prop := ∃ ones_9_3 : Int, ∃ zeros_10_3 : Int, E 0 = (Sl.v l_0) ∧ E 1 = (.int .u64 c_1) ∧ E 5 = (.bool v_18) ∧ E 6 = (.pointer (some (Addr.mk b6 0 none))) ∧ E 7 = (.bool agrees_7_3) ∧ E 8 = (.bool clash_8_1) ∧ E 9 = (.int .u64 ones_9_3) ∧ E 10 = (.int .u64 zeros_10_3) ∧ E 11 = (.int .i64 i_11) ∧ b8j5 N1 l_0 c_1 v_18 b6 agrees_7_3 clash_8_1 i_11 ones_9_3 zeros_10_3 R F
def b8j4 (N1 : Bool → Bool → Int → Int → Int → PH → Prop) (l_0 : Sl) (c_1 : Int) (v_18 : Bool) (b6 : Nat) (clash_8_1 : Bool) (ones_9_1 : Int) (zeros_10_1 : Int) (i_11 : Int) (v_33 : Int) (v_39 : Int) (agrees_7_3 : Bool) (R : Value → PH → Prop) (F : PH) : Prop :=
 (((128 : Int) ≤ v_39 →
  0 ≤ (IntKind.u64.wrap (IntKind.i64.wrap (Int.tmod v_33 (64 : Int)))) ∧ b8j5 N1 l_0 c_1 v_18 b6 agrees_7_3 clash_8_1 i_11 (IntKind.u64.wrap ((BitVec.ofInt (IntKind.u64).bits ones_9_1 ||| BitVec.ofInt (IntKind.u64).bits (IntKind.u64.wrap ((1 : Int) * 2 ^ (min (Int.toNat (IntKind.u64.wrap (IntKind.i64.wrap (Int.tmod v_33 (64 : Int))))) (IntKind.u64).bits)))).toNat)) zeros_10_1 R F) ∧
 (¬ ((128 : Int) ≤ v_39) →
  0 ≤ (IntKind.u64.wrap (IntKind.i64.wrap (Int.tmod v_33 (64 : Int)))) ∧ b8j5 N1 l_0 c_1 v_18 b6 agrees_7_3 clash_8_1 i_11 ones_9_1 (IntKind.u64.wrap ((BitVec.ofInt (IntKind.u64).bits zeros_10_1 ||| BitVec.ofInt (IntKind.u64).bits (IntKind.u64.wrap ((1 : Int) * 2 ^ (min (Int.toNat (IntKind.u64.wrap (IntKind.i64.wrap (Int.tmod v_33 (64 : Int))))) (IntKind.u64).bits)))).toNat)) R F))
abbrev b8J4 (N1 : Bool → Bool → Int → Int → Int → PH → Prop) (l_0 : Sl) (c_1 : Int) (v_18 : Bool) (b6 : Nat) (clash_8_1 : Bool) (ones_9_1 : Int) (zeros_10_1 : Int) (i_11 : Int) (v_33 : Int) (v_39 : Int) (R : Value → PH → Prop) (E : En) (F : PH) : Prop := ∃ agrees_7_3 : Bool, E 0 = (Sl.v l_0) ∧ E 1 = (.int .u64 c_1) ∧ E 5 = (.bool v_18) ∧ E 6 = (.pointer (some (Addr.mk b6 0 none))) ∧ E 7 = (.bool agrees_7_3) ∧ E 8 = (.bool clash_8_1) ∧ E 9 = (.int .u64 ones_9_1) ∧ E 10 = (.int .u64 zeros_10_1) ∧ E 11 = (.int .i64 i_11) ∧ E 12 = (.int .i64 (IntKind.i64.wrap (Int.tmod v_33 (64 : Int)))) ∧ E 13 = (.bool (decide ((128 : Int) ≤ v_39))) ∧ b8j4 N1 l_0 c_1 v_18 b6 clash_8_1 ones_9_1 zeros_10_1 i_11 v_33 v_39 agrees_7_3 R F
def b8j3 (N1 : Bool → Bool → Int → Int → Int → PH → Prop) (l_0 : Sl) (c_1 : Int) (v_18 : Bool) (b6 : Nat) (agrees_7_1 : Bool) (clash_8_1 : Bool) (ones_9_1 : Int) (zeros_10_1 : Int) (i_11 : Int) (v_33 : Int) (v_39 : Int) (next_14 : Option Addr) (e_15 : Int) (R : Value → PH → Prop) (F : PH) : Prop :=
 ((e_15 ≠ (0 : Int) →
  R (.bool false) F) ∧
 (¬ (e_15 ≠ (0 : Int)) →
  ∃ next14a_ : Addr, next_14 = some next14a_ ∧ ∃ v_51 : Array Value, v_51.size = 2 ∧ F.row next14a_ v_51 ∧
  v_51.size = 2 ∧ (∀ v ∈ v_51.toList, storable v) ∧ ∃ c e, F (Addr.mk b6 0 none).block = some (.cells c e (0, 0)) ∧ (Addr.mk b6 0 none).spot = none ∧ (Addr.mk b6 0 none).off + 2 ≤ c.size ∧
  atF (F.set (Addr.mk b6 0 none).block (.cells (wr c (Addr.mk b6 0 none).off v_51.toList) e)) fun F =>
  ((agrees_7_1 = true →
   0 ≤ (IntKind.u64.wrap (IntKind.i64.wrap (Int.tmod v_33 (64 : Int)))) ∧ b8j4 N1 l_0 c_1 v_18 b6 clash_8_1 ones_9_1 zeros_10_1 i_11 v_33 v_39 ((decide ((Int.tmod (Int.fdiv c_1 (2 ^ (min (Int.toNat (IntKind.u64.wrap (IntKind.i64.wrap (Int.tmod v_33 (64 : Int))))) (IntKind.u64).bits))) (2 : Int)) = (1 : Int))) == (decide ((128 : Int) ≤ v_39))) R F) ∧
  (agrees_7_1 = false →
   b8j4 N1 l_0 c_1 v_18 b6 clash_8_1 ones_9_1 zeros_10_1 i_11 v_33 v_39 false R F))))
abbrev b8J3 (N1 : Bool → Bool → Int → Int → Int → PH → Prop) (l_0 : Sl) (c_1 : Int) (v_18 : Bool) (b6 : Nat) (agrees_7_1 : Bool) (clash_8_1 : Bool) (ones_9_1 : Int) (zeros_10_1 : Int) (i_11 : Int) (v_33 : Int) (v_39 : Int) (R : Value → PH → Prop) (E : En) (F : PH) : Prop := ∃ next_14 : Option Addr, ∃ e_15 : Int, E 0 = (Sl.v l_0) ∧ E 1 = (.int .u64 c_1) ∧ E 5 = (.bool v_18) ∧ E 6 = (.pointer (some (Addr.mk b6 0 none))) ∧ E 7 = (.bool agrees_7_1) ∧ E 8 = (.bool clash_8_1) ∧ E 9 = (.int .u64 ones_9_1) ∧ E 10 = (.int .u64 zeros_10_1) ∧ E 11 = (.int .i64 i_11) ∧ E 12 = (.int .i64 (IntKind.i64.wrap (Int.tmod v_33 (64 : Int)))) ∧ E 13 = (.bool (decide ((128 : Int) ≤ v_39))) ∧ E 14 = (.pointer next_14) ∧ E 15 = (.int .i64 e_15) ∧ b8j3 N1 l_0 c_1 v_18 b6 agrees_7_1 clash_8_1 ones_9_1 zeros_10_1 i_11 v_33 v_39 next_14 e_15 R F
def b8L1 (N1 : Bool → Bool → Int → Int → Int → PH → Prop) (l_0 : Sl) (c_1 : Int) (v_18 : Bool) (b6 : Nat) (R : Value → PH → Prop) (agrees_7_1 : Bool) (clash_8_1 : Bool) (ones_9_1 : Int) (zeros_10_1 : Int) (i_11 : Int) (F : PH) : Prop :=
 ((i_11 < (l_0.len : Int) →
  ((i_11 < (12 : Int) →
   ∃ a32_ : Addr, l_0.base = some a32_ ∧ 0 ≤ i_11 ∧ i_11 < (l_0.len : Int) ∧
   ∃ v_33 : Int, F.cell (Addr.add a32_ (Int.toNat i_11 * 1)) = some (.int .u8 v_33) ∧
   ∃ a38_ : Addr, l_0.base = some a38_ ∧ 0 ≤ i_11 ∧ i_11 < (l_0.len : Int) ∧
   ∃ v_39 : Int, F.cell (Addr.add a38_ (Int.toNat i_11 * 1)) = some (.int .u8 v_39) ∧
   ∃ v_45 : Array Value, v_45.size = 2 ∧ F.row (Addr.mk b6 0 none) v_45 ∧
   ((Spec prog 20 #[(.int .i64 (IntKind.i64.wrap (Int.tmod v_33 (64 : Int)))), (.bool (decide ((128 : Int) ≤ v_39)))] F fun v F => ∃ v_44 : Array Value, v = (.agg v_44) ∧
   F.row (Addr.mk b6 0 none) v_45 ∧ ((Spec prog 19 #[(.agg v_44), (.agg v_45)] F fun v F => ∃ v_46 : Array Value, ∃ v_46_1 : Int, v = (.tuple #[(.agg v_46), (.int .i64 v_46_1)]) ∧
   ∀ b14, F b14 = none → atF (F.set b14 (.cells (#[.slice none 0 0, .int .i64 0]) 28)) fun F =>
   v_46.size = 2 ∧ (∀ v ∈ v_46.toList, storable v) ∧ ∃ c e, F (Addr.mk b14 0 none).block = some (.cells c e (0, 0)) ∧ (Addr.mk b14 0 none).spot = none ∧ (Addr.mk b14 0 none).off + 2 ≤ c.size ∧
   atF (F.set (Addr.mk b14 0 none).block (.cells (wr c (Addr.mk b14 0 none).off v_46.toList) e)) fun F =>
   b8j3 N1 l_0 c_1 v_18 b6 agrees_7_1 clash_8_1 ones_9_1 zeros_10_1 i_11 v_33 v_39 (some (Addr.mk b14 0 none)) v_46_1 R F) ∧
   (∀ b14_1, F b14_1 = none → atF (F.set b14_1 (.cells (#[.slice none 0 0, .int .i64 0]) 28)) fun F =>
   Spec prog 19 #[(.agg v_44), (.agg v_45)] F fun v F => ∃ v_46_2 : Array Value, ∃ v_46_3 : Int, v = (.tuple #[(.agg v_46_2), (.int .i64 v_46_3)]) ∧
   v_46_2.size = 2 ∧ (∀ v ∈ v_46_2.toList, storable v) ∧ ∃ c e, F (Addr.mk b14_1 0 none).block = some (.cells c e (0, 0)) ∧ (Addr.mk b14_1 0 none).spot = none ∧ (Addr.mk b14_1 0 none).off + 2 ≤ c.size ∧
   atF (F.set (Addr.mk b14_1 0 none).block (.cells (wr c (Addr.mk b14_1 0 none).off v_46_2.toList) e)) fun F =>
   b8j3 N1 l_0 c_1 v_18 b6 agrees_7_1 clash_8_1 ones_9_1 zeros_10_1 i_11 v_33 v_39 (some (Addr.mk b14_1 0 none)) v_46_3 R F))) ∧
   (∀ b14_2, F b14_2 = none → atF (F.set b14_2 (.cells (#[.slice none 0 0, .int .i64 0]) 28)) fun F =>
   Spec prog 20 #[(.int .i64 (IntKind.i64.wrap (Int.tmod v_33 (64 : Int)))), (.bool (decide ((128 : Int) ≤ v_39)))] F fun v F => ∃ v_44_1 : Array Value, v = (.agg v_44_1) ∧
   F.row (Addr.mk b6 0 none) v_45 ∧ Spec prog 19 #[(.agg v_44_1), (.agg v_45)] F fun v F => ∃ v_46_4 : Array Value, ∃ v_46_5 : Int, v = (.tuple #[(.agg v_46_4), (.int .i64 v_46_5)]) ∧
   v_46_4.size = 2 ∧ (∀ v ∈ v_46_4.toList, storable v) ∧ ∃ c e, F (Addr.mk b14_2 0 none).block = some (.cells c e (0, 0)) ∧ (Addr.mk b14_2 0 none).spot = none ∧ (Addr.mk b14_2 0 none).off + 2 ≤ c.size ∧
   atF (F.set (Addr.mk b14_2 0 none).block (.cells (wr c (Addr.mk b14_2 0 none).off v_46_4.toList) e)) fun F =>
   b8j3 N1 l_0 c_1 v_18 b6 agrees_7_1 clash_8_1 ones_9_1 zeros_10_1 i_11 v_33 v_39 (some (Addr.mk b14_2 0 none)) v_46_5 R F))) ∧
  (¬ (i_11 < (12 : Int)) →
   b8j1 c_1 v_18 b6 agrees_7_1 clash_8_1 ones_9_1 zeros_10_1 R F))) ∧
 (¬ (i_11 < (l_0.len : Int)) →
  b8j1 c_1 v_18 b6 agrees_7_1 clash_8_1 ones_9_1 zeros_10_1 R F))
def b8 (l_0 : Sl) (c_1 : Int) (R : Value → PH → Prop) (F : PH) : Prop :=
 Spec prog 15 #[] F fun v F => ∃ v_18 : Bool, v = (.bool v_18) ∧
 Spec prog 17 #[(.bool true)] F fun v F => ∃ v_19 : Array Value, v = (.agg v_19) ∧
 ∀ b6, F b6 = none → atF (F.set b6 (.cells (#[.slice none 0 0, .int .i64 0]) 28)) fun F =>
 v_19.size = 2 ∧ (∀ v ∈ v_19.toList, storable v) ∧ ∃ c e, F (Addr.mk b6 0 none).block = some (.cells c e (0, 0)) ∧ (Addr.mk b6 0 none).spot = none ∧ (Addr.mk b6 0 none).off + 2 ≤ c.size ∧
 atF (F.set (Addr.mk b6 0 none).block (.cells (wr c (Addr.mk b6 0 none).off v_19.toList) e)) fun F =>
 (∃ (I1 : Nat → Bool → Bool → Int → Int → Int → PH → Prop) (m1 : Nat), I1 m1 true false (0 : Int) (0 : Int) (0 : Int) F ∧ ∀ m1 agrees_7_1 clash_8_1 ones_9_1 zeros_10_1 i_11 F, I1 m1 agrees_7_1 clash_8_1 ones_9_1 zeros_10_1 i_11 F →
  b8L1 (fun agrees_7_1 clash_8_1 ones_9_1 zeros_10_1 i_11 F => ∃ m', m' < m1 ∧ I1 m' agrees_7_1 clash_8_1 ones_9_1 zeros_10_1 i_11 F) l_0 c_1 v_18 b6 R agrees_7_1 clash_8_1 ones_9_1 zeros_10_1 i_11 F)
theorem c8 {l_0 : Sl} {c_1 : Int} {R : Value → PH → Prop} {F : PH} (h : b8 l_0 c_1 R F) : Spec prog 8 #[(Sl.v l_0), (.int .u64 c_1)] F R := by
 refine spec_of (args := [(Sl.v l_0), (.int .u64 c_1)]) func8 rfl ntmps8 rfl ?_
 unfold b8 at h
 refine cR ?_
 refine sR (.bool false) (r_assign rfl rfl) ?_
 refine HL_nil ?_
 refine cR ?_
 refine s_ef (k_call (vs := []) cb15 evN (h.mono ?_))
 clear h; rintro v F ⟨v_18, rfl, h⟩
 refine sR (.bool v_18) (r_assign rfl rfl) ?_
 refine HL_nil ?_
 refine cR ?_
 refine s_ef (k_call (vs := [(.bool true)]) cb17 (evC rfl evN) (h.mono ?_))
 clear h; rintro v F ⟨v_19, rfl, h⟩
 refine s_ef (k_alloc zr28 ?_)
 intro b6 hf_b6
 replace h := atE (h b6 hf_b6)
 refine s_ef0 (k_storeN (vs := v_19) rfl rfl sz28 (by decide) ?_)
 obtain ⟨hz1, hz2, c, e, hz3, hz4, hz5, h⟩ := h
 refine ⟨hz1, hz2, c, e, hz3, hz4, hz5, ?_⟩
 replace h := atE h
 refine HL_nil ?_
 refine cR ?_
 refine sR (.bool true) (r_assign rfl rfl) ?_
 refine HL_nil ?_
 refine cR ?_
 refine sR (.bool false) (r_assign rfl rfl) ?_
 refine HL_nil ?_
 refine cR ?_
 refine sR (.int .u64 (0 : Int)) (r_assign rfl rfl) ?_
 refine sR (.int .u64 (0 : Int)) (r_assign rfl rfl) ?_
 refine HL_nil ?_
 refine HC_seqJ (b8J1 c_1 v_18 b6 R) ?_ ?_
 ·
  clear h; rintro E F ⟨agrees_7, clash_8, ones_9, zeros_10, h1, h5, h6, h7, h8, h9, h10, h⟩
  unfold b8j1 at h
  refine cR ?_
  obtain ⟨v_82, hs82, hc82, h⟩ := h
  refine sR (.agg v_82) (w_loadN h6 underlying28 rfl sz28 hs82 hc82) ?_
  refine s_ef (k_call (vs := [(.agg v_82)]) cb31 (evC rfl evN) (h.mono ?_))
  clear h; rintro v F ⟨v_83, v_83_1, rfl, h⟩
  refine sR (.tuple #[(.int .u64 v_83), (.bool v_83_1)]) (r_move rfl rfl) ?_
  refine sR (.int .u64 v_83) (r_extract rfl rfl rfl) ?_
  refine sR (.bool v_83_1) (r_extract rfl rfl rfl) ?_
  refine sR (.int .u64 v_83) (r_assign rfl rfl) ?_
  refine sR (.bool v_83_1) (r_assign rfl rfl) ?_
  refine HL_nil ?_
  refine HC_seq ?_
  refine cR ?_
  refine sR (.bool clash_8) (r_move rfl h8) ?_
  refine HL_nil ?_
  refine HC_cond (t := clash_8) rfl (fun hc => ?_) (fun hc => ?_)
  ·
   replace h := h.1 hc
   clear hc
   refine HC_seq ?_
   refine HC_draw0 (by kernel_rfl) (fun hp => ?_)
   refine gU 0 (.bool v_83_1) rfl (fun _ => r_move rfl rfl) hp ?_
   refine gU 1 (.bool (!v_83_1)) rfl (fun _ => r_not rfl rfl) hp ?_
   refine gU 2 (.bool (!v_83_1)) rfl (fun _ => r_move rfl rfl) hp ?_
   by_cases hc : (!v_83_1) = true
   ·
    replace h := h.1 hc
    refine RG_known (t := 88) (v := .bool true) (congrArg Value.bool hc) ?_
    refine RG_known (t := 89) (v := .bool true) (congrArg Value.bool hc) ?_
    obtain ⟨v_90, hs90, hc90, h⟩ := h
    refine gR 3 (.agg v_90) rfl (w_loadN h6 underlying28 rfl sz28 hs90 hc90) hp (fun S3 q3 => ?_)
    replace hp := holdC (i := 3) (q3 _ (w_loadN h6 underlying28 rfl sz28 hs90 hc90)) hp
    refine RG_eff1 (i := 4) (by kernel_rfl) (g_op (Sp' := [(3, S3)]) rfl rfl (k_call (vs := [(.bool false)]) cb17 (evC rfl evN) (h.mono ?_)))
    clear h; rintro v F ⟨v_91, rfl, h⟩
    obtain ⟨hk_12, h⟩ := h
    refine holdI (holdC (i := 3) (q3 _ (w_loadN h6 underlying28 rfl sz28 hs90 hk_12)) hold0) (fun hp => ?_)
    refine RG_eff1 (i := 5) (by kernel_rfl) (g_op (Sp' := []) rfl rfl (k_call (vs := [(.agg v_90), (.agg v_91)]) cb24 (evC rfl (evC rfl evN)) (h.mono ?_)))
    clear h; rintro v F ⟨v_92, rfl, h⟩
    refine holdI hold0 (fun hp => ?_)
    refine gU 6 (.bool v_92) rfl (fun _ => r_pick rfl rfl (fun _ => rfl) (fun h => by cases h)) hp ?_
    refine gU 7 (.bool v_92) rfl (fun _ => r_move rfl rfl) hp ?_
    by_cases hc : v_92 = true
    ·
     replace h := h.1 hc
     refine RG_known (t := 92) (v := .bool true) (congrArg Value.bool hc) ?_
     refine RG_known (t := 93) (v := .bool true) (congrArg Value.bool hc) ?_
     refine RG_known (t := 94) (v := .bool true) (congrArg Value.bool hc) ?_
     refine gU 8 (.bool v_18) rfl (fun _ => r_move rfl h5) hp ?_
     refine gU 9 (.bool v_18) rfl (fun _ => r_pick rfl rfl (fun _ => rfl) (fun h => by cases h)) hp ?_
     refine gU 10 (.bool v_18) rfl (fun _ => r_assign rfl rfl) hp ?_
     refine RG_done (by kernel_rfl) ?_
     exact HC_ret (show endQ prog f8 R .ret _ _ from ⟨_, res1 rfl (rv_tmp rfl), h⟩)
    ·
     replace hc := eq_false_of_ne_true hc; replace h := h.2 hc
     refine RG_known (t := 92) (v := .bool false) (congrArg Value.bool hc) ?_
     refine RG_known (t := 93) (v := .bool false) (congrArg Value.bool hc) ?_
     refine RG_known (t := 94) (v := .bool false) (congrArg Value.bool hc) ?_
     refine gS 8 rfl hp ?_
     refine gU 9 (.bool false) rfl (fun _ => r_pick rfl rfl (fun h => by cases h) (fun _ => rfl)) hp ?_
     refine gU 10 (.bool false) rfl (fun _ => r_assign rfl rfl) hp ?_
     refine RG_done (by kernel_rfl) ?_
     exact HC_ret (show endQ prog f8 R .ret _ _ from ⟨_, res1 rfl (rv_tmp rfl), h⟩)
   ·
    replace hc := eq_false_of_ne_true hc; replace h := h.2 hc
    refine RG_known (t := 88) (v := .bool false) (congrArg Value.bool hc) ?_
    refine RG_known (t := 89) (v := .bool false) (congrArg Value.bool hc) ?_
    refine gS 3 rfl hp ?_
    refine gS 4 rfl hp ?_
    refine gS 5 rfl hp ?_
    refine gU 6 (.bool false) rfl (fun _ => r_pick rfl rfl (fun h => by cases h) (fun _ => rfl)) hp ?_
    refine gU 7 (.bool false) rfl (fun _ => r_move rfl rfl) hp ?_
    refine gS 8 rfl hp ?_
    refine gU 9 (.bool false) rfl (fun _ => r_pick rfl rfl (fun h => by cases h) (fun _ => rfl)) hp ?_
    refine gU 10 (.bool false) rfl (fun _ => r_assign rfl rfl) hp ?_
    refine RG_done (by kernel_rfl) ?_
    exact HC_ret (show endQ prog f8 R .ret _ _ from ⟨_, res1 rfl (rv_tmp rfl), h⟩)
  ·
   replace h := h.2 hc
   clear hc
   refine HC_skip ?_
   refine cR ?_
   refine sR (.bool v_83_1) (r_move rfl rfl) ?_
   refine sR (.bool v_83_1) (r_move rfl rfl) ?_
   by_cases hc : v_83_1 = true
   ·
    replace h := h.1 hc
    refine kN 85 hc ?_
    refine kN 17 hc ?_
    refine kN 97 hc ?_
    refine kN 98 hc ?_
    refine sR (.int .u64 v_83) (r_move rfl rfl) ?_
    refine sR (.int .u64 ones_9) (r_move rfl h9) ?_
    refine sR (.bool (decide (v_83 = ones_9))) (w_eql rfl rfl) ?_
    refine sR (.bool (decide (v_83 = ones_9))) (r_pick rfl rfl (fun _ => rfl) (fun h => by cases h)) ?_
    refine sR (.bool (decide (v_83 = ones_9))) (r_move rfl rfl) ?_
    by_cases hc : v_83 = ones_9
    ·
     replace h := h.1 hc
     refine kN 101 (decide_eq_true hc) ?_
     refine kN 102 (decide_eq_true hc) ?_
     refine kN 103 (decide_eq_true hc) ?_
     obtain ⟨v_104, hs104, hc104, h⟩ := h
     refine sR (.agg v_104) (w_loadN h6 underlying28 rfl sz28 hs104 hc104) ?_
     refine sR (.int .u64 c_1) (r_move rfl h1) ?_
     refine s_ef (k_call (vs := [(.agg v_104), (.int .u64 c_1)]) cb21 (evC rfl (evC rfl evN)) (h.mono ?_))
     clear h; rintro v F ⟨v_106, rfl, h⟩
     refine sR (.bool agrees_7) (r_move rfl h7) ?_
     refine sR (.bool (v_106 == agrees_7)) (r_eqlB rfl rfl rfl underlying4) ?_
     refine sR (.bool (v_106 == agrees_7)) (r_pick rfl rfl (fun _ => rfl) (fun h => by cases h)) ?_
     refine sR (.bool (v_106 == agrees_7)) (r_move rfl rfl) ?_
     by_cases hc : (v_106 == agrees_7) = true
     ·
      replace h := h.1 hc
      refine kN 108 hc ?_
      refine kN 109 hc ?_
      refine kN 110 hc ?_
      obtain ⟨v_111, hs111, hc111, h⟩ := h
      refine sR (.agg v_111) (w_loadN h6 underlying28 rfl sz28 hs111 hc111) ?_
      refine sR (.int .u64 c_1) (r_move rfl h1) ?_
      refine sR (.int .u64 zeros_10) (r_move rfl h10) ?_
      refine sR (.int .u64 (IntKind.u64.wrap ((BitVec.ofInt (IntKind.u64).bits c_1 &&& ~~~ BitVec.ofInt (IntKind.u64).bits zeros_10).toNat))) (r_andNot rfl rfl rfl) ?_
      refine sR (.int .u64 ones_9) (r_move rfl h9) ?_
      refine sR (.int .u64 (IntKind.u64.wrap ((BitVec.ofInt (IntKind.u64).bits (IntKind.u64.wrap ((BitVec.ofInt (IntKind.u64).bits c_1 &&& ~~~ BitVec.ofInt (IntKind.u64).bits zeros_10).toNat)) ||| BitVec.ofInt (IntKind.u64).bits ones_9).toNat))) (r_or rfl rfl rfl) ?_
      refine s_ef (k_call (vs := [(.agg v_111), (.int .u64 (IntKind.u64.wrap ((BitVec.ofInt (IntKind.u64).bits (IntKind.u64.wrap ((BitVec.ofInt (IntKind.u64).bits c_1 &&& ~~~ BitVec.ofInt (IntKind.u64).bits zeros_10).toNat)) ||| BitVec.ofInt (IntKind.u64).bits ones_9).toNat)))]) cb21 (evC rfl (evC rfl evN)) (h.mono ?_))
      clear h; rintro v F ⟨v_117, rfl, h⟩
      refine sR (.bool v_117) (r_pick rfl rfl (fun _ => rfl) (fun h => by cases h)) ?_
      refine sR (.bool v_117) (r_move rfl rfl) ?_
      by_cases hc : v_117 = true
      ·
       replace h := h.1 hc
       refine kN 117 hc ?_
       refine kN 118 hc ?_
       refine kN 119 hc ?_
       refine sR (.bool v_18) (r_move rfl h5) ?_
       refine sR (.bool v_18) (r_pick rfl rfl (fun _ => rfl) (fun h => by cases h)) ?_
       refine sR (.bool v_18) (r_assign rfl rfl) ?_
       refine HL_nil ?_
       exact HC_ret (show endQ prog f8 R .ret _ _ from ⟨_, res1 rfl (rv_tmp rfl), h⟩)
      ·
       replace hc := eq_false_of_ne_true hc; replace h := h.2 hc
       refine kN 117 hc ?_
       refine kN 118 hc ?_
       refine kN 119 hc ?_
       refine s_skip ?_
       refine sR (.bool false) (r_pick rfl rfl (fun h => by cases h) (fun _ => rfl)) ?_
       refine sR (.bool false) (r_assign rfl rfl) ?_
       refine HL_nil ?_
       exact HC_ret (show endQ prog f8 R .ret _ _ from ⟨_, res1 rfl (rv_tmp rfl), h⟩)
     ·
      replace hc := eq_false_of_ne_true hc; replace h := h.2 hc
      refine kN 108 hc ?_
      refine kN 109 hc ?_
      refine kN 110 hc ?_
      refine s_skip ?_
      refine s_skip ?_
      refine s_skip ?_
      refine s_skip ?_
      refine s_skip ?_
      refine s_skip ?_
      refine s_skip ?_
      refine sR (.bool false) (r_pick rfl rfl (fun h => by cases h) (fun _ => rfl)) ?_
      refine sR (.bool false) (r_move rfl rfl) ?_
      refine s_skip ?_
      refine sR (.bool false) (r_pick rfl rfl (fun h => by cases h) (fun _ => rfl)) ?_
      refine sR (.bool false) (r_assign rfl rfl) ?_
      refine HL_nil ?_
      exact HC_ret (show endQ prog f8 R .ret _ _ from ⟨_, res1 rfl (rv_tmp rfl), h⟩)
    ·
     replace h := h.2 hc
     refine kN 101 (decide_eq_false hc) ?_
     refine kN 102 (decide_eq_false hc) ?_
     refine kN 103 (decide_eq_false hc) ?_
     refine s_skip ?_
     refine s_skip ?_
     refine s_skip ?_
     refine s_skip ?_
     refine s_skip ?_
     refine sR (.bool false) (r_pick rfl rfl (fun h => by cases h) (fun _ => rfl)) ?_
     refine sR (.bool false) (r_move rfl rfl) ?_
     refine s_skip ?_
     refine s_skip ?_
     refine s_skip ?_
     refine s_skip ?_
     refine s_skip ?_
     refine s_skip ?_
     refine s_skip ?_
     refine sR (.bool false) (r_pick rfl rfl (fun h => by cases h) (fun _ => rfl)) ?_
     refine sR (.bool false) (r_move rfl rfl) ?_
     refine s_skip ?_
     refine sR (.bool false) (r_pick rfl rfl (fun h => by cases h) (fun _ => rfl)) ?_
     refine sR (.bool false) (r_assign rfl rfl) ?_
     refine HL_nil ?_
     exact HC_ret (show endQ prog f8 R .ret _ _ from ⟨_, res1 rfl (rv_tmp rfl), h⟩)
   ·
    replace hc := eq_false_of_ne_true hc; replace h := h.2 hc
    refine kN 85 hc ?_
    refine kN 17 hc ?_
    refine kN 97 hc ?_
    refine kN 98 hc ?_
    refine s_skip ?_
    refine s_skip ?_
    refine s_skip ?_
    refine sR (.bool false) (r_pick rfl rfl (fun h => by cases h) (fun _ => rfl)) ?_
    refine sR (.bool false) (r_move rfl rfl) ?_
    refine s_skip ?_
    refine s_skip ?_
    refine s_skip ?_
    refine s_skip ?_
    refine s_skip ?_
    refine sR (.bool false) (r_pick rfl rfl (fun h => by cases h) (fun _ => rfl)) ?_
    refine sR (.bool false) (r_move rfl rfl) ?_
    refine s_skip ?_
    refine s_skip ?_
    refine s_skip ?_
    refine s_skip ?_
    refine s_skip ?_
    refine s_skip ?_
    refine s_skip ?_
    refine sR (.bool false) (r_pick rfl rfl (fun h => by cases h) (fun _ => rfl)) ?_
    refine sR (.bool false) (r_move rfl rfl) ?_
    refine s_skip ?_
    refine sR (.bool false) (r_pick rfl rfl (fun h => by cases h) (fun _ => rfl)) ?_
    refine sR (.bool false) (r_assign rfl rfl) ?_
    refine HL_nil ?_
    exact HC_ret (show endQ prog f8 R .ret _ _ from ⟨_, res1 rfl (rv_tmp rfl), h⟩)
 ·
  skip
  refine cR ?_
  refine sR (.int .i64 (0 : Int)) (r_assign rfl rfl) ?_
  refine HL_nil ?_
  refine HC_block ?_
  obtain ⟨I1, m1, hI0, hr⟩ := h
  refine HC_loop (fun m1 E F => ∃ agrees_7_1 : Bool, ∃ clash_8_1 : Bool, ∃ ones_9_1 : Int, ∃ zeros_10_1 : Int, ∃ i_11 : Int, E 0 = (Sl.v l_0) ∧ E 1 = (.int .u64 c_1) ∧ E 5 = (.bool v_18) ∧ E 6 = (.pointer (some (Addr.mk b6 0 none))) ∧ E 7 = (.bool agrees_7_1) ∧ E 8 = (.bool clash_8_1) ∧ E 9 = (.int .u64 ones_9_1) ∧ E 10 = (.int .u64 zeros_10_1) ∧ E 11 = (.int .i64 i_11) ∧ I1 m1 agrees_7_1 clash_8_1 ones_9_1 zeros_10_1 i_11 F) m1 ⟨_, _, _, _, _, rfl, rfl, rfl, rfl, rfl, rfl, rfl, rfl, rfl, hI0⟩ ?_
  clear hI0; rintro m1 E F ⟨agrees_7_1, clash_8_1, ones_9_1, zeros_10_1, i_11, h0, h1, h5, h6, h7, h8, h9, h10, h11, hI⟩
  have h := hr m1 agrees_7_1 clash_8_1 ones_9_1 zeros_10_1 i_11 F hI
  clear hr hI
  unfold b8L1 at h
  refine HC_seq ?_
  refine cR ?_
  refine sR (.int .i64 i_11) (r_move rfl h11) ?_
  refine sR (Sl.v l_0) (r_move rfl h0) ?_
  refine sR (.int .i64 (l_0.len : Int)) (r_lenSl rfl rfl underlying22) ?_
  refine sR (.bool (decide (i_11 < (l_0.len : Int)))) (r_lss rfl rfl rfl) ?_
  refine sR (.bool (decide (i_11 < (l_0.len : Int)))) (r_move rfl rfl) ?_
  by_cases hc : i_11 < (l_0.len : Int)
  ·
   replace h := h.1 hc
   refine kN 23 (decide_eq_true hc) ?_
   refine kN 24 (decide_eq_true hc) ?_
   refine sR (.int .i64 i_11) (r_move rfl h11) ?_
   refine sR (.bool (decide (i_11 < (12 : Int)))) (r_lss rfl rfl rfl) ?_
   refine sR (.bool (decide (i_11 < (12 : Int)))) (r_pick rfl rfl (fun _ => rfl) (fun h => by cases h)) ?_
   refine HL_nil ?_
   refine HC_cond (t := (decide (i_11 < (12 : Int)))) rfl (fun hc => ?_) (fun hc => ?_)
   ·
    replace h := h.1 (of_decide_eq_true hc)
    clear hc
    refine HC_skip ?_
    refine HC_seqJ (b8J2 (fun agrees_7_1 clash_8_1 ones_9_1 zeros_10_1 i_11 F => ∃ m', m' < m1 ∧ I1 m' agrees_7_1 clash_8_1 ones_9_1 zeros_10_1 i_11 F) l_0 c_1 v_18 b6 i_11 R) ?_ ?_
    ·
     clear h; rintro E F ⟨agrees_7_2, clash_8_2, ones_9_2, zeros_10_2, h0, h1, h5, h6, h7, h8, h9, h10, h11, h⟩
     unfold b8j2 at h
     refine HC_region ?_
     refine sR (.int .i64 i_11) (r_move rfl h11) ?_
     refine sR (.int .i64 (IntKind.i64.wrap (i_11 + (1 : Int)))) (r_add rfl rfl rfl) ?_
     refine sR (.int .i64 (IntKind.i64.wrap (i_11 + (1 : Int)))) (r_assign rfl rfl) ?_
     refine HL_nil ?_
     obtain ⟨m', hm, h⟩ := h
     exact ⟨m', hm, _, _, _, _, _, h0, h1, h5, h6, h7, h8, h9, h10, rfl, h⟩
    ·
     skip
     refine HC_block ?_
     refine cR ?_
     refine sR (Sl.v l_0) (r_move rfl h0) ?_
     refine sR (.int .i64 i_11) (r_move rfl h11) ?_
     obtain ⟨a32_, hb32, hl32, hu32, h⟩ := h
     refine sR (.pointer (some (Addr.add a32_ (Int.toNat i_11 * 1)))) (w_indexAddr rfl rfl underlying22 sz5 hb32 hl32 hu32) ?_
     obtain ⟨v_33, hc33, h⟩ := h
     refine sR (.int .u8 v_33) (r_load1 rfl rfl underlying5 rfl hc33) ?_
     refine sR (.int .u8 (Int.tmod v_33 (64 : Int))) (r_rem rfl rfl rfl (by decide)) ?_
     refine sR (.int .i64 (IntKind.i64.wrap (Int.tmod v_33 (64 : Int)))) (r_convInt rfl rfl underlying5 underlying3) ?_
     refine sR (.int .i64 (IntKind.i64.wrap (Int.tmod v_33 (64 : Int)))) (r_assign rfl rfl) ?_
     refine HL_nil ?_
     refine cR ?_
     refine sR (Sl.v l_0) (r_move rfl h0) ?_
     refine sR (.int .i64 i_11) (r_move rfl h11) ?_
     obtain ⟨a38_, hb38, hl38, hu38, h⟩ := h
     refine sR (.pointer (some (Addr.add a38_ (Int.toNat i_11 * 1)))) (w_indexAddr rfl rfl underlying22 sz5 hb38 hl38 hu38) ?_
     obtain ⟨v_39, hc39, h⟩ := h
     refine sR (.int .u8 v_39) (r_load1 rfl rfl underlying5 rfl hc39) ?_
     refine sR (.bool (decide ((128 : Int) ≤ v_39))) (r_geq rfl rfl rfl) ?_
     refine sR (.bool (decide ((128 : Int) ≤ v_39))) (r_assign rfl rfl) ?_
     refine HL_nil ?_
     refine HC_seqJ (b8J3 (fun agrees_7_1 clash_8_1 ones_9_1 zeros_10_1 i_11 F => ∃ m', m' < m1 ∧ I1 m' agrees_7_1 clash_8_1 ones_9_1 zeros_10_1 i_11 F) l_0 c_1 v_18 b6 agrees_7_1 clash_8_1 ones_9_1 zeros_10_1 i_11 v_33 v_39 R) ?_ ?_
     ·
      clear h; rintro E F ⟨next_14, e_15, h0, h1, h5, h6, h7, h8, h9, h10, h11, h12, h13, h14, h15, h⟩
      unfold b8j3 at h
      refine HC_seq ?_
      refine cR ?_
      refine sR (.int .i64 e_15) (r_move rfl h15) ?_
      refine sR (.bool (decide (e_15 ≠ (0 : Int)))) (w_neq rfl rfl) ?_
      refine HL_nil ?_
      refine HC_cond (t := (decide (e_15 ≠ (0 : Int)))) rfl (fun hc => ?_) (fun hc => ?_)
      ·
       replace h := h.1 (of_decide_eq_true hc)
       clear hc
       refine cR ?_
       refine sR (.bool false) (r_assign rfl rfl) ?_
       refine HL_nil ?_
       exact HC_ret (show endQ prog f8 R .ret _ _ from ⟨_, res1 rfl (rv_tmp rfl), h⟩)
      ·
       replace h := h.2 (of_decide_eq_false hc)
       clear hc
       refine HC_skip ?_
       refine cR ?_
       obtain ⟨next14a_, rfl, h⟩ := h
       obtain ⟨v_51, hs51, hc51, h⟩ := h
       refine sR (.agg v_51) (w_loadN h14 underlying28 rfl sz28 hs51 hc51) ?_
       refine s_ef0 (k_storeN (vs := v_51) h6 rfl sz28 (by decide) ?_)
       obtain ⟨hz1, hz2, c, e, hz3, hz4, hz5, h⟩ := h
       refine ⟨hz1, hz2, c, e, hz3, hz4, hz5, ?_⟩
       replace h := atE h
       refine HL_nil ?_
       refine HC_seqJ (b8J4 (fun agrees_7_1 clash_8_1 ones_9_1 zeros_10_1 i_11 F => ∃ m', m' < m1 ∧ I1 m' agrees_7_1 clash_8_1 ones_9_1 zeros_10_1 i_11 F) l_0 c_1 v_18 b6 clash_8_1 ones_9_1 zeros_10_1 i_11 v_33 v_39 R) ?_ ?_
       ·
        clear h; rintro E F ⟨agrees_7_3, h0, h1, h5, h6, h7, h8, h9, h10, h11, h12, h13, h⟩
        unfold b8j4 at h
        refine HC_seqJ (b8J5 (fun agrees_7_1 clash_8_1 ones_9_1 zeros_10_1 i_11 F => ∃ m', m' < m1 ∧ I1 m' agrees_7_1 clash_8_1 ones_9_1 zeros_10_1 i_11 F) l_0 c_1 v_18 b6 agrees_7_3 clash_8_1 i_11 R) ?_ ?_
        ·
         clear h; rintro E F ⟨ones_9_3, zeros_10_3, h0, h1, h5, h6, h7, h8, h9, h10, h11, h⟩
         unfold b8j5 at h
         refine HC_region ?_
         refine sR (.bool clash_8_1) (r_move rfl h8) ?_
         refine sR (.bool clash_8_1) (r_move rfl rfl) ?_
         by_cases hc : clash_8_1 = true
         ·
          replace h := h.1 hc
          refine HL_known (t := 8) (v := .bool true) (h8.trans (congrArg Value.bool hc)) ?_
          refine kN 74 hc ?_
          refine kN 75 hc ?_
          refine s_skip ?_
          refine s_skip ?_
          refine s_skip ?_
          refine s_skip ?_
          refine sR (.bool true) (r_pick rfl rfl (fun _ => rfl) (fun h => by cases h)) ?_
          refine sR (.bool true) (r_assign rfl rfl) ?_
          refine HL_nil ?_
          show b8J2 (fun agrees_7_1 clash_8_1 ones_9_1 zeros_10_1 i_11 F => ∃ m', m' < m1 ∧ I1 m' agrees_7_1 clash_8_1 ones_9_1 zeros_10_1 i_11 F) l_0 c_1 v_18 b6 i_11 R _ _
          exact ⟨_, _, _, _, h0, h1, h5, h6, h7, rfl, h9, h10, h11, h⟩
         ·
          replace hc := eq_false_of_ne_true hc; replace h := h.2 hc
          refine HL_known (t := 8) (v := .bool false) (h8.trans (congrArg Value.bool hc)) ?_
          refine kN 74 hc ?_
          refine kN 75 hc ?_
          refine sR (.int .u64 ones_9_3) (r_move rfl h9) ?_
          refine sR (.int .u64 zeros_10_3) (r_move rfl h10) ?_
          refine sR (.int .u64 (IntKind.u64.wrap ((BitVec.ofInt (IntKind.u64).bits ones_9_3 &&& BitVec.ofInt (IntKind.u64).bits zeros_10_3).toNat))) (r_and rfl rfl rfl) ?_
          refine sR (.bool (decide ((IntKind.u64.wrap ((BitVec.ofInt (IntKind.u64).bits ones_9_3 &&& BitVec.ofInt (IntKind.u64).bits zeros_10_3).toNat)) ≠ (0 : Int)))) (w_neq rfl rfl) ?_
          refine sR (.bool (decide ((IntKind.u64.wrap ((BitVec.ofInt (IntKind.u64).bits ones_9_3 &&& BitVec.ofInt (IntKind.u64).bits zeros_10_3).toNat)) ≠ (0 : Int)))) (r_pick rfl rfl (fun h => by cases h) (fun _ => rfl)) ?_
          refine sR (.bool (decide ((IntKind.u64.wrap ((BitVec.ofInt (IntKind.u64).bits ones_9_3 &&& BitVec.ofInt (IntKind.u64).bits zeros_10_3).toNat)) ≠ (0 : Int)))) (r_assign rfl rfl) ?_
          refine HL_nil ?_
          show b8J2 (fun agrees_7_1 clash_8_1 ones_9_1 zeros_10_1 i_11 F => ∃ m', m' < m1 ∧ I1 m' agrees_7_1 clash_8_1 ones_9_1 zeros_10_1 i_11 F) l_0 c_1 v_18 b6 i_11 R _ _
          exact ⟨_, _, _, _, h0, h1, h5, h6, h7, rfl, h9, h10, h11, h⟩
        ·
         skip
         refine cR ?_
         refine sR (.bool (decide ((128 : Int) ≤ v_39))) (r_move rfl h13) ?_
         refine HL_nil ?_
         refine HC_cond (t := (decide ((128 : Int) ≤ v_39))) rfl (fun hc => ?_) (fun hc => ?_)
         ·
          replace h := h.1 (of_decide_eq_true hc)
          clear hc
          refine HC_region ?_
          refine sR (.int .u64 ones_9_1) (r_move rfl h9) ?_
          refine sR (.int .i64 (IntKind.i64.wrap (Int.tmod v_33 (64 : Int)))) (r_move rfl h12) ?_
          refine sR (.int .u64 (IntKind.u64.wrap (IntKind.i64.wrap (Int.tmod v_33 (64 : Int))))) (r_convInt rfl rfl underlying3 underlying31) ?_
          obtain ⟨hd67, h⟩ := h
          refine sR (.int .u64 (IntKind.u64.wrap ((1 : Int) * 2 ^ (min (Int.toNat (IntKind.u64.wrap (IntKind.i64.wrap (Int.tmod v_33 (64 : Int))))) (IntKind.u64).bits)))) (r_shl rfl rfl rfl hd67) ?_
          refine sR (.int .u64 (IntKind.u64.wrap ((BitVec.ofInt (IntKind.u64).bits ones_9_1 ||| BitVec.ofInt (IntKind.u64).bits (IntKind.u64.wrap ((1 : Int) * 2 ^ (min (Int.toNat (IntKind.u64.wrap (IntKind.i64.wrap (Int.tmod v_33 (64 : Int))))) (IntKind.u64).bits)))).toNat))) (r_or rfl rfl rfl) ?_
          refine sR (.int .u64 (IntKind.u64.wrap ((BitVec.ofInt (IntKind.u64).bits ones_9_1 ||| BitVec.ofInt (IntKind.u64).bits (IntKind.u64.wrap ((1 : Int) * 2 ^ (min (Int.toNat (IntKind.u64.wrap (IntKind.i64.wrap (Int.tmod v_33 (64 : Int))))) (IntKind.u64).bits)))).toNat))) (r_assign rfl rfl) ?_
          refine HL_nil ?_
          show b8J5 (fun agrees_7_1 clash_8_1 ones_9_1 zeros_10_1 i_11 F => ∃ m', m' < m1 ∧ I1 m' agrees_7_1 clash_8_1 ones_9_1 zeros_10_1 i_11 F) l_0 c_1 v_18 b6 agrees_7_3 clash_8_1 i_11 R _ _
          exact ⟨_, _, h0, h1, h5, h6, h7, h8, rfl, h10, h11, h⟩
         ·
          replace h := h.2 (of_decide_eq_false hc)
          clear hc
          refine HC_region ?_
          refine sR (.int .u64 zeros_10_1) (r_move rfl h10) ?_
          refine sR (.int .i64 (IntKind.i64.wrap (Int.tmod v_33 (64 : Int)))) (r_move rfl h12) ?_
          refine sR (.int .u64 (IntKind.u64.wrap (IntKind.i64.wrap (Int.tmod v_33 (64 : Int))))) (r_convInt rfl rfl underlying3 underlying31) ?_
          obtain ⟨hd72, h⟩ := h
          refine sR (.int .u64 (IntKind.u64.wrap ((1 : Int) * 2 ^ (min (Int.toNat (IntKind.u64.wrap (IntKind.i64.wrap (Int.tmod v_33 (64 : Int))))) (IntKind.u64).bits)))) (r_shl rfl rfl rfl hd72) ?_
          refine sR (.int .u64 (IntKind.u64.wrap ((BitVec.ofInt (IntKind.u64).bits zeros_10_1 ||| BitVec.ofInt (IntKind.u64).bits (IntKind.u64.wrap ((1 : Int) * 2 ^ (min (Int.toNat (IntKind.u64.wrap (IntKind.i64.wrap (Int.tmod v_33 (64 : Int))))) (IntKind.u64).bits)))).toNat))) (r_or rfl rfl rfl) ?_
          refine sR (.int .u64 (IntKind.u64.wrap ((BitVec.ofInt (IntKind.u64).bits zeros_10_1 ||| BitVec.ofInt (IntKind.u64).bits (IntKind.u64.wrap ((1 : Int) * 2 ^ (min (Int.toNat (IntKind.u64.wrap (IntKind.i64.wrap (Int.tmod v_33 (64 : Int))))) (IntKind.u64).bits)))).toNat))) (r_assign rfl rfl) ?_
          refine HL_nil ?_
          show b8J5 (fun agrees_7_1 clash_8_1 ones_9_1 zeros_10_1 i_11 F => ∃ m', m' < m1 ∧ I1 m' agrees_7_1 clash_8_1 ones_9_1 zeros_10_1 i_11 F) l_0 c_1 v_18 b6 agrees_7_3 clash_8_1 i_11 R _ _
          exact ⟨_, _, h0, h1, h5, h6, h7, h8, h9, rfl, h11, h⟩
       ·
        skip
        refine HC_region ?_
        refine sR (.bool agrees_7_1) (r_move rfl h7) ?_
        refine sR (.bool agrees_7_1) (r_move rfl rfl) ?_
        by_cases hc : agrees_7_1 = true
        ·
         replace h := h.1 hc
         refine HL_known (t := 7) (v := .bool true) (h7.trans (congrArg Value.bool hc)) ?_
         refine kN 52 hc ?_
         refine kN 53 hc ?_
         refine sR (.int .u64 c_1) (r_move rfl h1) ?_
         refine sR (.int .i64 (IntKind.i64.wrap (Int.tmod v_33 (64 : Int)))) (r_move rfl h12) ?_
         refine sR (.int .u64 (IntKind.u64.wrap (IntKind.i64.wrap (Int.tmod v_33 (64 : Int))))) (r_convInt rfl rfl underlying3 underlying31) ?_
         obtain ⟨hd57, h⟩ := h
         refine sR (.int .u64 (Int.fdiv c_1 (2 ^ (min (Int.toNat (IntKind.u64.wrap (IntKind.i64.wrap (Int.tmod v_33 (64 : Int))))) (IntKind.u64).bits)))) (r_shr rfl rfl rfl hd57) ?_
         refine sR (.int .u64 (Int.tmod (Int.fdiv c_1 (2 ^ (min (Int.toNat (IntKind.u64.wrap (IntKind.i64.wrap (Int.tmod v_33 (64 : Int))))) (IntKind.u64).bits))) (2 : Int))) (r_rem rfl rfl rfl (by decide)) ?_
         refine sR (.bool (decide ((Int.tmod (Int.fdiv c_1 (2 ^ (min (Int.toNat (IntKind.u64.wrap (IntKind.i64.wrap (Int.tmod v_33 (64 : Int))))) (IntKind.u64).bits))) (2 : Int)) = (1 : Int)))) (w_eql rfl rfl) ?_
         refine sR (.bool (decide ((128 : Int) ≤ v_39))) (r_move rfl h13) ?_
         refine sR (.bool ((decide ((Int.tmod (Int.fdiv c_1 (2 ^ (min (Int.toNat (IntKind.u64.wrap (IntKind.i64.wrap (Int.tmod v_33 (64 : Int))))) (IntKind.u64).bits))) (2 : Int)) = (1 : Int))) == (decide ((128 : Int) ≤ v_39)))) (r_eqlB rfl rfl rfl underlying4) ?_
         refine sR (.bool ((decide ((Int.tmod (Int.fdiv c_1 (2 ^ (min (Int.toNat (IntKind.u64.wrap (IntKind.i64.wrap (Int.tmod v_33 (64 : Int))))) (IntKind.u64).bits))) (2 : Int)) = (1 : Int))) == (decide ((128 : Int) ≤ v_39)))) (r_pick rfl rfl (fun _ => rfl) (fun h => by cases h)) ?_
         refine sR (.bool ((decide ((Int.tmod (Int.fdiv c_1 (2 ^ (min (Int.toNat (IntKind.u64.wrap (IntKind.i64.wrap (Int.tmod v_33 (64 : Int))))) (IntKind.u64).bits))) (2 : Int)) = (1 : Int))) == (decide ((128 : Int) ≤ v_39)))) (r_assign rfl rfl) ?_
         refine HL_nil ?_
         show b8J4 (fun agrees_7_1 clash_8_1 ones_9_1 zeros_10_1 i_11 F => ∃ m', m' < m1 ∧ I1 m' agrees_7_1 clash_8_1 ones_9_1 zeros_10_1 i_11 F) l_0 c_1 v_18 b6 clash_8_1 ones_9_1 zeros_10_1 i_11 v_33 v_39 R _ _
         exact ⟨_, h0, h1, h5, h6, rfl, h8, h9, h10, h11, h12, h13, h⟩
        ·
         replace hc := eq_false_of_ne_true hc; replace h := h.2 hc
         refine HL_known (t := 7) (v := .bool false) (h7.trans (congrArg Value.bool hc)) ?_
         refine kN 52 hc ?_
         refine kN 53 hc ?_
         refine s_skip ?_
         refine s_skip ?_
         refine s_skip ?_
         refine s_skip ?_
         refine s_skip ?_
         refine s_skip ?_
         refine s_skip ?_
         refine s_skip ?_
         refine sR (.bool false) (r_pick rfl rfl (fun h => by cases h) (fun _ => rfl)) ?_
         refine sR (.bool false) (r_assign rfl rfl) ?_
         refine HL_nil ?_
         show b8J4 (fun agrees_7_1 clash_8_1 ones_9_1 zeros_10_1 i_11 F => ∃ m', m' < m1 ∧ I1 m' agrees_7_1 clash_8_1 ones_9_1 zeros_10_1 i_11 F) l_0 c_1 v_18 b6 clash_8_1 ones_9_1 zeros_10_1 i_11 v_33 v_39 R _ _
         exact ⟨_, h0, h1, h5, h6, rfl, h8, h9, h10, h11, h12, h13, h⟩
     ·
      skip
      refine HC_draw0 (by kernel_rfl) (fun hp => ?_)
      refine gU 0 (.int .i64 (IntKind.i64.wrap (Int.tmod v_33 (64 : Int)))) rfl (fun _ => r_move rfl rfl) hp ?_
      refine gU 1 (.bool (decide ((128 : Int) ≤ v_39))) rfl (fun _ => r_move rfl rfl) hp ?_
      obtain ⟨v_45, hs45, hc45, h⟩ := h
      refine gR 3 (.agg v_45) rfl (w_loadN h6 underlying28 rfl sz28 hs45 hc45) hp (fun S3 q3 => ?_)
      replace hp := holdC (i := 3) (q3 _ (w_loadN h6 underlying28 rfl sz28 hs45 hc45)) hp
      refine RG_eff (rs := [2, 8]) (by kernel_rfl) rfl ?_
      obtain ⟨ha0, ha1⟩ := h
      simp only [List.mem_cons, List.not_mem_nil, or_false, forall_eq_or_imp, forall_eq]
      refine ⟨?_, ?_⟩
      ·
       have h := ha0; clear ha0 ha1
       refine g_op (Sp' := [(3, S3)]) rfl rfl (k_call (vs := [(.int .i64 (IntKind.i64.wrap (Int.tmod v_33 (64 : Int)))), (.bool (decide ((128 : Int) ≤ v_39)))]) cb20 (evC rfl (evC rfl evN)) (h.mono ?_))
       clear h; rintro v F ⟨v_44, rfl, h⟩
       obtain ⟨hk_19, h⟩ := h
       refine holdI (holdC (i := 3) (q3 _ (w_loadN h6 underlying28 rfl sz28 hs45 hk_19)) hold0) (fun hp => ?_)
       refine RG_eff (rs := [4, 8]) (by kernel_rfl) rfl ?_
       obtain ⟨ha0, ha1⟩ := h
       simp only [List.mem_cons, List.not_mem_nil, or_false, forall_eq_or_imp, forall_eq]
       refine ⟨?_, ?_⟩
       ·
        have h := ha0; clear ha0 ha1
        refine g_op (Sp' := []) rfl rfl (k_call (vs := [(.agg v_44), (.agg v_45)]) cb19 (evC rfl (evC rfl evN)) (h.mono ?_))
        clear h; rintro v F ⟨v_46, v_46_1, rfl, h⟩
        refine holdI hold0 (fun hp => ?_)
        refine gU 5 (.tuple #[(.agg v_46), (.int .i64 v_46_1)]) rfl (fun _ => r_move rfl rfl) hp ?_
        refine gU 6 (.agg v_46) rfl (fun _ => r_extract rfl rfl rfl) hp ?_
        refine gU 7 (.int .i64 v_46_1) rfl (fun _ => r_extract rfl rfl rfl) hp ?_
        refine RG_eff1 (i := 8) (by kernel_rfl) (g_op (Sp' := []) rfl rfl (k_alloc zr28 ?_))
        intro b14 hf_b14
        replace h := atE (h b14 hf_b14)
        refine holdI hold0 (fun hp => ?_)
        refine RG_eff1 (i := 9) (by kernel_rfl) (g_op0 (Sp' := []) rfl rfl (k_storeN (vs := v_46) rfl rfl sz28 (by decide) ?_))
        obtain ⟨hz1, hz2, c, e, hz3, hz4, hz5, h⟩ := h
        refine ⟨hz1, hz2, c, e, hz3, hz4, hz5, ?_⟩
        replace h := atE h
        refine holdI hold0 (fun hp => ?_)
        refine gU 10 (.int .i64 v_46_1) rfl (fun _ => r_assign rfl rfl) hp ?_
        refine RG_done (by kernel_rfl) ?_
        show b8J3 (fun agrees_7_1 clash_8_1 ones_9_1 zeros_10_1 i_11 F => ∃ m', m' < m1 ∧ I1 m' agrees_7_1 clash_8_1 ones_9_1 zeros_10_1 i_11 F) l_0 c_1 v_18 b6 agrees_7_1 clash_8_1 ones_9_1 zeros_10_1 i_11 v_33 v_39 R _ _
        exact ⟨_, _, h0, h1, h5, h6, h7, h8, h9, h10, h11, rfl, rfl, rfl, rfl, h⟩
       ·
        have h := ha1; clear ha0 ha1
        refine g_op (Sp' := [(3, S3)]) rfl rfl (k_alloc zr28 ?_)
        intro b14_1 hf_b14_1
        replace h := atE (h b14_1 hf_b14_1)
        refine holdI (holdC (i := 3) (q3 _ (w_loadN h6 underlying28 rfl sz28 hs45 (row_set_fresh hf_b14_1 hk_19))) hold0) (fun hp => ?_)
        refine RG_eff1 (i := 4) (by kernel_rfl) (g_op (Sp' := []) rfl rfl (k_call (vs := [(.agg v_44), (.agg v_45)]) cb19 (evC rfl (evC rfl evN)) (h.mono ?_)))
        clear h; rintro v F ⟨v_46_2, v_46_3, rfl, h⟩
        refine holdI hold0 (fun hp => ?_)
        refine gU 5 (.tuple #[(.agg v_46_2), (.int .i64 v_46_3)]) rfl (fun _ => r_move rfl rfl) hp ?_
        refine gU 6 (.agg v_46_2) rfl (fun _ => r_extract rfl rfl rfl) hp ?_
        refine gU 7 (.int .i64 v_46_3) rfl (fun _ => r_extract rfl rfl rfl) hp ?_
        refine RG_eff1 (i := 9) (by kernel_rfl) (g_op0 (Sp' := []) rfl rfl (k_storeN (vs := v_46_2) rfl rfl sz28 (by decide) ?_))
        obtain ⟨hz1, hz2, c, e, hz3, hz4, hz5, h⟩ := h
        refine ⟨hz1, hz2, c, e, hz3, hz4, hz5, ?_⟩
        replace h := atE h
        refine holdI hold0 (fun hp => ?_)
        refine gU 10 (.int .i64 v_46_3) rfl (fun _ => r_assign rfl rfl) hp ?_
        refine RG_done (by kernel_rfl) ?_
        show b8J3 (fun agrees_7_1 clash_8_1 ones_9_1 zeros_10_1 i_11 F => ∃ m', m' < m1 ∧ I1 m' agrees_7_1 clash_8_1 ones_9_1 zeros_10_1 i_11 F) l_0 c_1 v_18 b6 agrees_7_1 clash_8_1 ones_9_1 zeros_10_1 i_11 v_33 v_39 R _ _
        exact ⟨_, _, h0, h1, h5, h6, h7, h8, h9, h10, h11, rfl, rfl, rfl, rfl, h⟩
      ·
       have h := ha1; clear ha0 ha1
       refine g_op (Sp' := [(3, S3)]) rfl rfl (k_alloc zr28 ?_)
       intro b14_2 hf_b14_2
       replace h := atE (h b14_2 hf_b14_2)
       refine holdI (holdC (i := 3) (q3 _ (w_loadN h6 underlying28 rfl sz28 hs45 (row_set_fresh hf_b14_2 hc45))) hold0) (fun hp => ?_)
       refine RG_eff1 (i := 2) (by kernel_rfl) (g_op (Sp' := [(3, S3)]) rfl rfl (k_call (vs := [(.int .i64 (IntKind.i64.wrap (Int.tmod v_33 (64 : Int)))), (.bool (decide ((128 : Int) ≤ v_39)))]) cb20 (evC rfl (evC rfl evN)) (h.mono ?_)))
       clear h; rintro v F ⟨v_44_1, rfl, h⟩
       obtain ⟨hk_20, h⟩ := h
       refine holdI (holdC (i := 3) (q3 _ (w_loadN h6 underlying28 rfl sz28 hs45 hk_20)) hold0) (fun hp => ?_)
       refine RG_eff1 (i := 4) (by kernel_rfl) (g_op (Sp' := []) rfl rfl (k_call (vs := [(.agg v_44_1), (.agg v_45)]) cb19 (evC rfl (evC rfl evN)) (h.mono ?_)))
       clear h; rintro v F ⟨v_46_4, v_46_5, rfl, h⟩
       refine holdI hold0 (fun hp => ?_)
       refine gU 5 (.tuple #[(.agg v_46_4), (.int .i64 v_46_5)]) rfl (fun _ => r_move rfl rfl) hp ?_
       refine gU 6 (.agg v_46_4) rfl (fun _ => r_extract rfl rfl rfl) hp ?_
       refine gU 7 (.int .i64 v_46_5) rfl (fun _ => r_extract rfl rfl rfl) hp ?_
       refine RG_eff1 (i := 9) (by kernel_rfl) (g_op0 (Sp' := []) rfl rfl (k_storeN (vs := v_46_4) rfl rfl sz28 (by decide) ?_))
       obtain ⟨hz1, hz2, c, e, hz3, hz4, hz5, h⟩ := h
       refine ⟨hz1, hz2, c, e, hz3, hz4, hz5, ?_⟩
       replace h := atE h
       refine holdI hold0 (fun hp => ?_)
       refine gU 10 (.int .i64 v_46_5) rfl (fun _ => r_assign rfl rfl) hp ?_
       refine RG_done (by kernel_rfl) ?_
       show b8J3 (fun agrees_7_1 clash_8_1 ones_9_1 zeros_10_1 i_11 F => ∃ m', m' < m1 ∧ I1 m' agrees_7_1 clash_8_1 ones_9_1 zeros_10_1 i_11 F) l_0 c_1 v_18 b6 agrees_7_1 clash_8_1 ones_9_1 zeros_10_1 i_11 v_33 v_39 R _ _
       exact ⟨_, _, h0, h1, h5, h6, h7, h8, h9, h10, h11, rfl, rfl, rfl, rfl, h⟩
   ·
    replace h := h.2 (of_decide_eq_false hc)
    clear hc
    refine HC_exit ?_
    show b8J1 c_1 v_18 b6 R _ _
    exact ⟨_, _, _, _, h1, h5, h6, h7, h8, h9, h10, h⟩
  ·
   replace h := h.2 hc
   refine kN 23 (decide_eq_false hc) ?_
   refine kN 24 (decide_eq_false hc) ?_
   refine s_skip ?_
   refine s_skip ?_
   refine sR (.bool false) (r_pick rfl rfl (fun h => by cases h) (fun _ => rfl)) ?_
   refine HL_nil ?_
   refine HC_condF rfl ?_
   refine HC_exit ?_
   show b8J1 c_1 v_18 b6 R _ _
   exact ⟨_, _, _, _, h1, h5, h6, h7, h8, h9, h10, h⟩

end Go.Proofs.Ytafojmoeaneedaa
