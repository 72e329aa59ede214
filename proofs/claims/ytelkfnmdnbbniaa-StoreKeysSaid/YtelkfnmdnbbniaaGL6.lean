/-
  What functions of the program do, in a clean form, each with the proof that its code does so. Printed by a program.
-/
import Derived.Test.YtelkfnmdnbbniaaGf
import Derived.Test.YtelkfnmdnbbniaaPhp
namespace Go.Proofs.Ytelkfnmdnbbniaa
open Go Go.Proofs.Try
set_option maxRecDepth 10000
set_option maxHeartbeats 4000000
/- 6 koine.koinelaw35.StoreKeys -/
def b6j4 (v_26 : Bool) (R : VP) (F : PH) :=
 R (.bool v_26) F
abbrev b6J4 (v_26 : Bool) (R : VP) (E : En) (F : PH) : Prop := E 7 = (.bool v_26) ∧ b6j4 v_26 R F
def b6j5 (N1 : Int → PH → Prop) (v_26 : Bool) (s_9 : Option Addr) (v_82 : Sl) (v_88 : Sl) (i_23 : Int) (R : VP) (F : PH) :=
 N1 (IntKind.i64.wrap (i_23 + 1)) F
abbrev b6J5 (N1 : Int → PH → Prop) (v_26 : Bool) (s_9 : Option Addr) (v_82 : Sl) (v_88 : Sl) (i_23 : Int) (R : VP) (E : En) (F : PH) : Prop := E 7 = (.bool v_26) ∧ E 9 = (.pointer s_9) ∧ E 17 = (Sl.v v_82) ∧ E 18 = (Sl.v v_88) ∧ E 23 = (.int .i64 i_23) ∧ b6j5 N1 v_26 s_9 v_82 v_88 i_23 R F
def b6L1 (N1 : Int → PH → Prop) (v_26 : Bool) (s_9 : Option Addr) (v_82 : Sl) (v_88 : Sl) (R : VP) (i_23 : Int) (F : PH) :=
 ((i_23 < (v_88.len : Int) →
  ∃ a143_ : Addr, v_88.base = some a143_ ∧ 0 ≤ i_23 ∧ i_23 < (v_88.len : Int) ∧
  ∃ v_145 : ByteArray, F.cell (Addr.add a143_ (Int.toNat i_23 * 2)) = some (.string v_145) ∧
  Spec prog 16 #[(.pointer s_9), (.string v_145)] F fun v F => ∃ v_146 : Sl, ∃ v_146_1 : Bool, v = (.tuple #[(Sl.v v_146), (.bool v_146_1)]) ∧
  ∃ a152_ : Addr, v_88.base = some a152_ ∧ 0 ≤ i_23 ∧ i_23 < (v_88.len : Int) ∧
  ∃ v_154 : ByteArray, F.cell (Addr.add a152_ (Int.toNat i_23 * 2)) = some (.string v_154) ∧
  Spec prog 27 #[(Sl.v v_82), (.string v_154)] F fun v F => ∃ v_155 : Bool, v = (.bool v_155) ∧
  (((!v_155) = true →
   (((!v_146_1) = true →
    R (.bool false) F) ∧
   ((!v_146_1) = false →
    ∃ v_162 : ByteArray, rdo prog (Conv.bytesToString (Sl.v v_146)) F (.string v_162) ∧
    ∃ a165_ : Addr, v_88.base = some a165_ ∧ 0 ≤ i_23 ∧ i_23 < (v_88.len : Int) ∧
    ∃ v_167 : Sl, F.cell (Addr.add (Addr.add a165_ (Int.toNat i_23 * 2)) 1) = some (Sl.v v_167) ∧
    ∃ v_168 : ByteArray, rdo prog (Conv.bytesToString (Sl.v v_167)) F (.string v_168) ∧
    (((!(v_162.toList == v_168.toList)) = true →
     R (.bool false) F) ∧
    ((!(v_162.toList == v_168.toList)) = false →
     b6j5 N1 v_26 s_9 v_82 v_88 i_23 R F))))) ∧
  ((!v_155) = false →
   b6j5 N1 v_26 s_9 v_82 v_88 i_23 R F))) ∧
 (¬ (i_23 < (v_88.len : Int)) →
  b6j4 v_26 R F))
def b6j3 (v_26 : Bool) (s_9 : Option Addr) (v_82 : Sl) (v_88 : Sl) (R : VP) (F : PH) :=
 (∃ (I1 : Nat → Int → PH → Prop) (m1 : Nat), I1 m1 0 F ∧ ∀ m1 i_23 F, I1 m1 i_23 F →
  b6L1 (nx1 I1 m1) v_26 s_9 v_82 v_88 R i_23 F)
abbrev b6J3 (v_26 : Bool) (s_9 : Option Addr) (v_82 : Sl) (v_88 : Sl) (R : VP) (E : En) (F : PH) : Prop := E 7 = (.bool v_26) ∧ E 9 = (.pointer s_9) ∧ E 17 = (Sl.v v_82) ∧ E 18 = (Sl.v v_88) ∧ b6j3 v_26 s_9 v_82 v_88 R F
def b6j2 (v_26 : Bool) (s_9 : Option Addr) (t_13 : Option Addr) (v_82 : Sl) (v_88 : Sl) (turned_19 : Sl) (R : VP) (F : PH) :=
 Spec prog 25 #[(.pointer s_9), (Sl.v v_82)] F fun v F => ∃ v_111 : Int, v = (.int .i64 v_111) ∧
 Spec prog 25 #[(.pointer t_13), (Sl.v turned_19)] F fun v F => ∃ v_114 : Int, v = (.int .i64 v_114) ∧
 ((v_111 ≠ v_114 →
  R (.bool false) F) ∧
 (¬ (v_111 ≠ v_114) →
  ((v_111 = 0 →
   Spec prog 26 #[(Sl.v v_82)] F fun v F => ∃ v_122 : Bool, v = (.bool v_122) ∧
   (((!v_122) = true →
    Spec prog 17 #[(.pointer s_9)] F fun v F => ∃ v_127 : Sl, v = (Sl.v v_127) ∧
    Spec prog 17 #[(.pointer t_13)] F fun v F => ∃ v_129 : Sl, v = (Sl.v v_129) ∧
    Spec prog 21 #[(Sl.v v_127), (Sl.v v_129)] F fun v F => ∃ v_130 : Bool, v = (.bool v_130) ∧
    (((!v_130) = true →
     R (.bool false) F) ∧
    ((!v_130) = false →
     b6j3 v_26 s_9 v_82 v_88 R F))) ∧
   ((!v_122) = false →
    b6j3 v_26 s_9 v_82 v_88 R F))) ∧
  (¬ (v_111 = 0) →
   b6j3 v_26 s_9 v_82 v_88 R F))))
abbrev b6J2 (v_26 : Bool) (s_9 : Option Addr) (t_13 : Option Addr) (v_82 : Sl) (v_88 : Sl) (R : VP) (E : En) (F : PH) : Prop := ∃ turned_19 : Sl, E 7 = (.bool v_26) ∧ E 9 = (.pointer s_9) ∧ E 13 = (.pointer t_13) ∧ E 17 = (Sl.v v_82) ∧ E 18 = (Sl.v v_88) ∧ E 19 = (Sl.v turned_19) ∧ b6j2 v_26 s_9 t_13 v_82 v_88 turned_19 R F
def b6L2 (N2 : Sl → Int → PH → Prop) (at_2 : Int) (v_26 : Bool) (s_9 : Option Addr) (t_13 : Option Addr) (v_82 : Sl) (v_88 : Sl) (R : VP) (turned_19_1 : Sl) (i_20 : Int) (F : PH) :=
 ((i_20 < (v_82.len : Int) →
  (v_82.len : Int) ≠ 0 ∧ ∃ a105_ : Addr, v_82.base = some a105_ ∧ 0 ≤ (Int.tmod (IntKind.i64.wrap (i_20 + (IntKind.i64.wrap at_2))) (v_82.len : Int)) ∧ (Int.tmod (IntKind.i64.wrap (i_20 + (IntKind.i64.wrap at_2))) (v_82.len : Int)) < (v_82.len : Int) ∧
  ∃ v_106 : Array Value, v_106.size = 2 ∧ F.row (Addr.add a105_ (Int.toNat (Int.tmod (IntKind.i64.wrap (i_20 + (IntKind.i64.wrap at_2))) (v_82.len : Int)) * 2)) v_106 ∧
  v_106.size = 2 ∧ ∀ b107, F b107 = none → atF (F.set b107 (.cells v_106 41)) fun F =>
  runs prog (Builtin.append_ #[26, 26] 26 #[(Sl.v turned_19_1), (Sl.v (Sl.mk (some (Addr.mk b107 0 none)) 1 1))]) F fun v F => ∃ v_108 : Sl, v = (Sl.v v_108) ∧
  N2 v_108 (IntKind.i64.wrap (i_20 + 1)) F) ∧
 (¬ (i_20 < (v_82.len : Int)) →
  b6j2 v_26 s_9 t_13 v_82 v_88 turned_19_1 R F))
def b6j1 (at_2 : Int) (b4 : Nat) (v_26 : Bool) (s_9 : Option Addr) (t_13 : Option Addr) (R : VP) (F : PH) :=
 ∃ v_81 : Array Value, v_81.size = 2 ∧ F.row (Addr.mk b4 0 none) v_81 ∧
 Spec prog 22 #[(.agg v_81)] F fun v F => ∃ v_82 : Sl, v = (Sl.v v_82) ∧
 Spec prog 23 #[(Sl.v v_82)] F fun v F => ∃ v_84 : Bool, v = (.bool v_84) ∧
 (((!v_84) = true →
  R (.bool v_26) F) ∧
 ((!v_84) = false →
  Spec prog 17 #[(.pointer s_9)] F fun v F => ∃ v_88 : Sl, v = (Sl.v v_88) ∧
  ∀ b89, F b89 = none → atF (F.set b89 (.cells #[] 41)) fun F =>
  (∃ (I2 : Nat → Sl → Int → PH → Prop) (m2 : Nat), I2 m2 (Sl.mk (some (Addr.mk b89 0 none)) 0 0) 0 F ∧ ∀ m2 turned_19_1 i_20 F, I2 m2 turned_19_1 i_20 F →
   b6L2 (nx2 I2 m2) at_2 v_26 s_9 t_13 v_82 v_88 R turned_19_1 i_20 F)))
abbrev b6J1 (at_2 : Int) (b4 : Nat) (v_26 : Bool) (R : VP) (E : En) (F : PH) : Prop := ∃ s_9 : Option Addr, ∃ t_13 : Option Addr, E 2 = (.int .u8 at_2) ∧ E 4 = (.pointer (some (Addr.mk b4 0 none))) ∧ E 7 = (.bool v_26) ∧ E 9 = (.pointer s_9) ∧ E 13 = (.pointer t_13) ∧ b6j1 at_2 b4 v_26 s_9 t_13 R F
def b6L3 (N3 : Option Addr → Option Addr → Int → PH → Prop) (l_0 : Sl) (at_2 : Int) (b4 : Nat) (v_26 : Bool) (v_28 : Option Addr) (b10 : Nat) (v_34 : Option Addr) (b14 : Nat) (R : VP) (s_9_1 : Option Addr) (t_13_1 : Option Addr) (i_16 : Int) (F : PH) :=
 ((i_16 < (l_0.len : Int) →
  ((i_16 < 8 →
   ∃ v_58 : Array Value, v_58.size = 3 ∧ F.row (Addr.mk b10 0 none) v_58 ∧
   ∃ a61_ : Addr, l_0.base = some a61_ ∧ 0 ≤ i_16 ∧ i_16 < (l_0.len : Int) ∧
   ∃ v_62 : Array Value, v_62.size = 2 ∧ F.row (Addr.add a61_ (Int.toNat i_16 * 2)) v_62 ∧
   Spec prog 14 #[(.pointer v_28), (.pointer s_9_1), (.agg v_58), (.agg v_62)] F fun v F => ∃ v_63 : Option Addr, ∃ v_63_1 : Array Value, ∃ v_63_2 : Int, ∃ v_63_3 : Bool, v = (.tuple #[(.pointer v_63), (.agg v_63_1), (.int .i64 v_63_2), (.bool v_63_3)]) ∧
   v_63_1.size = 3 ∧ (∀ v ∈ v_63_1.toList, storable v) ∧ ∃ c e, F (Addr.mk b10 0 none).block = some (.cells c e (0, 0)) ∧ (Addr.mk b10 0 none).spot = none ∧ (Addr.mk b10 0 none).off + 3 ≤ c.size ∧
   atF (F.set (Addr.mk b10 0 none).block (.cells (wr c (Addr.mk b10 0 none).off v_63_1.toList) e)) fun F =>
   ∃ v_71 : Array Value, v_71.size = 3 ∧ F.row (Addr.mk b14 0 none) v_71 ∧
   ∃ a74_ : Addr, l_0.base = some a74_ ∧ 0 ≤ i_16 ∧ i_16 < (l_0.len : Int) ∧
   ∃ v_75 : Array Value, v_75.size = 2 ∧ F.row (Addr.add a74_ (Int.toNat i_16 * 2)) v_75 ∧
   Spec prog 14 #[(.pointer v_34), (.pointer t_13_1), (.agg v_71), (.agg v_75)] F fun v F => ∃ v_76 : Option Addr, ∃ v_76_1 : Array Value, ∃ v_76_2 : Int, ∃ v_76_3 : Bool, v = (.tuple #[(.pointer v_76), (.agg v_76_1), (.int .i64 v_76_2), (.bool v_76_3)]) ∧
   v_76_1.size = 3 ∧ (∀ v ∈ v_76_1.toList, storable v) ∧ ∃ c e, F (Addr.mk b14 0 none).block = some (.cells c e (0, 0)) ∧ (Addr.mk b14 0 none).spot = none ∧ (Addr.mk b14 0 none).off + 3 ≤ c.size ∧
   atF (F.set (Addr.mk b14 0 none).block (.cells (wr c (Addr.mk b14 0 none).off v_76_1.toList) e)) fun F =>
   N3 v_63 v_76 (IntKind.i64.wrap (i_16 + 1)) F) ∧
  (¬ (i_16 < 8) →
   b6j1 at_2 b4 v_26 s_9_1 t_13_1 R F))) ∧
 (¬ (i_16 < (l_0.len : Int)) →
  b6j1 at_2 b4 v_26 s_9_1 t_13_1 R F))
def b6 (l_0 : Sl) (x_1 : Array Value) (at_2 : Int) (R : VP) (F : PH) :=
 ∀ b4, F b4 = none → atF (F.set b4 (.cells x_1 38)) fun F =>
 Spec prog 10 #[] F fun v F => ∃ v_26 : Bool, v = (.bool v_26) ∧
 Spec prog 11 #[(.int .i64 80)] F fun v F => ∃ v_28 : Option Addr, ∃ v_28_1 : Option Addr, ∃ v_28_2 : Array Value, ∃ v_28_3 : Bool, v = (.tuple #[(.pointer v_28), (.pointer v_28_1), (.agg v_28_2), (.bool v_28_3)]) ∧
 ∀ b10, F b10 = none → atF (F.set b10 (.cells (#[.int .i64 0, .int .i64 0, .slice none 0 0]) 28)) fun F =>
 v_28_2.size = 3 ∧ (∀ v ∈ v_28_2.toList, storable v) ∧ ∃ c e, F (Addr.mk b10 0 none).block = some (.cells c e (0, 0)) ∧ (Addr.mk b10 0 none).spot = none ∧ (Addr.mk b10 0 none).off + 3 ≤ c.size ∧
 atF (F.set (Addr.mk b10 0 none).block (.cells (wr c (Addr.mk b10 0 none).off v_28_2.toList) e)) fun F =>
 Spec prog 11 #[(.int .i64 80)] F fun v F => ∃ v_34 : Option Addr, ∃ v_34_1 : Option Addr, ∃ v_34_2 : Array Value, ∃ v_34_3 : Bool, v = (.tuple #[(.pointer v_34), (.pointer v_34_1), (.agg v_34_2), (.bool v_34_3)]) ∧
 ∀ b14, F b14 = none → atF (F.set b14 (.cells (#[.int .i64 0, .int .i64 0, .slice none 0 0]) 28)) fun F =>
 v_34_2.size = 3 ∧ (∀ v ∈ v_34_2.toList, storable v) ∧ ∃ c e, F (Addr.mk b14 0 none).block = some (.cells c e (0, 0)) ∧ (Addr.mk b14 0 none).spot = none ∧ (Addr.mk b14 0 none).off + 3 ≤ c.size ∧
 atF (F.set (Addr.mk b14 0 none).block (.cells (wr c (Addr.mk b14 0 none).off v_34_2.toList) e)) fun F =>
 (((!v_28_3) = true →
  R (.bool false) F) ∧
 ((!v_28_3) = false →
  (((!v_34_3) = true →
   R (.bool false) F) ∧
  ((!v_34_3) = false →
   (∃ (I3 : Nat → Option Addr → Option Addr → Int → PH → Prop) (m3 : Nat), I3 m3 v_28_1 v_34_1 0 F ∧ ∀ m3 s_9_1 t_13_1 i_16 F, I3 m3 s_9_1 t_13_1 i_16 F →
    b6L3 (nx3 I3 m3) l_0 at_2 b4 v_26 v_28 b10 v_34 b14 R s_9_1 t_13_1 i_16 F)))))
theorem c6 {l_0 : Sl} {x_1 : Array Value} {at_2 : Int} {R : VP} {F : PH} (h : b6 l_0 x_1 at_2 R F) : Spec prog 6 #[(Sl.v l_0), (.agg x_1), (.int .u8 at_2)] F R := by
 refine spec_of (args := [(Sl.v l_0), (.agg x_1), (.int .u8 at_2)]) func6 rfl ntmps6 rfl ?_
 unfold b6 at h
 refine cR ?_
 refine s_ef (k_box (cs := x_1) rfl rfl ?_)
 intro b4 hf_b4
 replace h := atE (h b4 hf_b4)
 refine sR (.bool false) (r_assign rfl rfl) ?_
 refine HL_nil ?_
 refine cR ?_
 refine s_ef (k_call (vs := []) cb10 evN (h.mono ?_))
 clear h; rintro v F ⟨v_26, rfl, h⟩
 refine sR (.bool v_26) (r_assign rfl rfl) ?_
 refine HL_nil ?_
 refine cR ?_
 refine s_ef (k_call (vs := [(.int .i64 80)]) cb11 (evC rfl evN) (h.mono ?_))
 clear h; rintro v F ⟨v_28, v_28_1, v_28_2, v_28_3, rfl, h⟩
 refine sR (.tuple #[(.pointer v_28), (.pointer v_28_1), (.agg v_28_2), (.bool v_28_3)]) (r_move rfl rfl) ?_
 refine sR (.pointer v_28) (r_extract rfl rfl rfl) ?_
 refine sR (.pointer v_28_1) (r_extract rfl rfl rfl) ?_
 refine sR (.agg v_28_2) (r_extract rfl rfl rfl) ?_
 refine sR (.bool v_28_3) (r_extract rfl rfl rfl) ?_
 refine s_ef (k_alloc zr28 ?_)
 intro b10 hf_b10
 replace h := atE (h b10 hf_b10)
 refine sR (.pointer v_28) (r_assign rfl rfl) ?_
 refine sR (.pointer v_28_1) (r_assign rfl rfl) ?_
 refine s_ef0 (k_storeN (vs := v_28_2) rfl rfl sz28 (by decide) ?_)
 obtain ⟨hz1, hz2, c, e, hz3, hz4, hz5, h⟩ := h
 refine ⟨hz1, hz2, c, e, hz3, hz4, hz5, ?_⟩
 replace h := atE h
 refine sR (.bool v_28_3) (r_assign rfl rfl) ?_
 refine HL_nil ?_
 refine cR ?_
 refine s_ef (k_call (vs := [(.int .i64 80)]) cb11 (evC rfl evN) (h.mono ?_))
 clear h; rintro v F ⟨v_34, v_34_1, v_34_2, v_34_3, rfl, h⟩
 refine sR (.tuple #[(.pointer v_34), (.pointer v_34_1), (.agg v_34_2), (.bool v_34_3)]) (r_move rfl rfl) ?_
 refine sR (.pointer v_34) (r_extract rfl rfl rfl) ?_
 refine sR (.pointer v_34_1) (r_extract rfl rfl rfl) ?_
 refine sR (.agg v_34_2) (r_extract rfl rfl rfl) ?_
 refine sR (.bool v_34_3) (r_extract rfl rfl rfl) ?_
 refine s_ef (k_alloc zr28 ?_)
 intro b14 hf_b14
 replace h := atE (h b14 hf_b14)
 refine sR (.pointer v_34) (r_assign rfl rfl) ?_
 refine sR (.pointer v_34_1) (r_assign rfl rfl) ?_
 refine s_ef0 (k_storeN (vs := v_34_2) rfl rfl sz28 (by decide) ?_)
 obtain ⟨hz1, hz2, c, e, hz3, hz4, hz5, h⟩ := h
 refine ⟨hz1, hz2, c, e, hz3, hz4, hz5, ?_⟩
 replace h := atE h
 refine sR (.bool v_34_3) (r_assign rfl rfl) ?_
 refine HL_nil ?_
 refine HC_seq ?_
 refine cR (sR (.bool v_28_3) (r_move rfl rfl) ?_)
 refine sR (.bool (!v_28_3)) (r_not rfl rfl) ?_
 refine sR (.bool (!v_28_3)) (r_move rfl rfl) ?_
 by_cases hc : (!v_28_3) = true
 replace h := h.1 hc
 refine kN 40 hc ?_
 refine kN 41 hc ?_
 iterate 2 refine s_skip ?_
 refine sR (.bool true) (r_pt rfl rfl) ?_
 refine HL_nil ?_
 refine HC_condT rfl ?_
 refine cR (sR (.bool false) (r_assign rfl rfl) ?_)
 exact HL_nil (HC_ret (rt1 f6 R rfl rfl h))
 replace hc := eq_false_of_ne_true hc; replace h := h.2 hc
 refine kN 40 hc ?_
 refine kN 41 hc ?_
 refine sR (.bool v_34_3) (r_move rfl rfl) ?_
 refine sR (.bool (!v_34_3)) (r_not rfl rfl) ?_
 refine sR (.bool (!v_34_3)) (r_pf rfl rfl) ?_
 refine HL_nil ?_
 refine HC_cond (t := (!v_34_3)) rfl (fun hc => ?_) (fun hc => ?_)
 replace h := h.1 hc
 clear hc
 refine cR (sR (.bool false) (r_assign rfl rfl) ?_)
 exact HL_nil (HC_ret (rt1 f6 R rfl rfl h))
 replace h := h.2 hc
 clear hc
 refine HC_skip ?_
 refine HC_seqJ (b6J1 at_2 b4 v_26 R) ?_ ?_
 clear h; rintro E F ⟨s_9, t_13, h2, h4, h7, h9, h13, h⟩
 unfold b6j1 at h
 refine cR ?_
 obtain ⟨v_81, hs81, hc81, h⟩ := h
 refine sR (.agg v_81) (w_loadN h4 underlying38 rfl sz38 hs81 hc81) ?_
 refine s_ef (k_call (vs := [(.agg v_81)]) cb22 (evC rfl evN) (h.mono ?_))
 clear h; rintro v F ⟨v_82, rfl, h⟩
 refine sR (Sl.v v_82) (r_assign rfl rfl) ?_
 refine HL_nil ?_
 refine HC_seq ?_
 refine cR (sR (Sl.v v_82) (r_move rfl rfl) ?_)
 refine s_ef (k_call (vs := [(Sl.v v_82)]) cb23 (evC rfl evN) (h.mono ?_))
 clear h; rintro v F ⟨v_84, rfl, h⟩
 refine sR (.bool (!v_84)) (r_not rfl rfl) ?_
 refine HL_nil ?_
 refine HC_cond (t := (!v_84)) rfl (fun hc => ?_) (fun hc => ?_)
 replace h := h.1 hc
 clear hc
 refine cR (sR _ (r_move rfl h7) ?_)
 refine sR (.bool v_26) (r_assign rfl rfl) ?_
 exact HL_nil (HC_ret (rt1 f6 R rfl rfl h))
 replace h := h.2 hc
 clear hc
 refine HC_skip ?_
 refine cR (sR _ (r_move rfl h9) ?_)
 refine s_ef (k_call (vs := [(.pointer s_9)]) cb17 (evC rfl evN) (h.mono ?_))
 clear h; rintro v F ⟨v_88, rfl, h⟩
 refine sR (Sl.v v_88) (r_assign rfl rfl) ?_
 refine HL_nil ?_
 refine cR ?_
 refine s_ef (k_buildSlice (cells := #[]) underlying26 sz41 (by decide) zr41 ((zc_flat _ rfl _).trans (rfl : _ = (#[] : Array Value))) evPN (fillN rfl) rfl ?_)
 intro b89 hf_b89
 replace h := atE (h b89 hf_b89)
 refine sR (Sl.v (Sl.mk (some (Addr.mk b89 0 none)) 0 0)) (r_assign rfl rfl) ?_
 refine HL_nil ?_
 refine HC_seqJ (b6J2 v_26 s_9 t_13 v_82 v_88 R) ?_ ?_
 clear h; rintro E F ⟨turned_19, h7, h9, h13, h17, h18, h19, h⟩
 unfold b6j2 at h
 refine cR (sR _ (r_move rfl h9) ?_)
 refine sR _ (r_move rfl h17) ?_
 refine s_ef (k_call (vs := [(.pointer s_9), (Sl.v v_82)]) cb25 (evC rfl (evC rfl evN)) (h.mono ?_))
 clear h; rintro v F ⟨v_111, rfl, h⟩
 refine sR (.int .i64 v_111) (r_assign rfl rfl) ?_
 refine HL_nil ?_
 refine cR (sR _ (r_move rfl h13) ?_)
 refine sR _ (r_move rfl h19) ?_
 refine s_ef (k_call (vs := [(.pointer t_13), (Sl.v turned_19)]) cb25 (evC rfl (evC rfl evN)) (h.mono ?_))
 clear h; rintro v F ⟨v_114, rfl, h⟩
 refine sR (.int .i64 v_114) (r_assign rfl rfl) ?_
 refine HL_nil ?_
 refine HC_seq ?_
 refine cR (sR (.int .i64 v_111) (r_move rfl rfl) ?_)
 refine sR (.int .i64 v_114) (r_move rfl rfl) ?_
 refine sR (.bool (decide (v_111 ≠ v_114))) (w_neq rfl rfl) ?_
 refine HL_nil ?_
 refine HC_cond (t := (decide (v_111 ≠ v_114))) rfl (fun hc => ?_) (fun hc => ?_)
 replace h := h.1 (of_decide_eq_true hc)
 clear hc
 refine cR (sR (.bool false) (r_assign rfl rfl) ?_)
 exact HL_nil (HC_ret (rt1 f6 R rfl rfl h))
 replace h := h.2 (of_decide_eq_false hc)
 clear hc
 refine HC_skip ?_
 refine HC_seqJ (b6J3 v_26 s_9 v_82 v_88 R) ?_ ?_
 clear h; rintro E F ⟨h7, h9, h17, h18, h⟩
 unfold b6j3 at h
 refine HC_seqJ (b6J4 v_26 R) ?_ ?_
 clear h; rintro E F ⟨h7, h⟩
 unfold b6j4 at h
 refine cR (sR _ (r_move rfl h7) ?_)
 refine sR (.bool v_26) (r_assign rfl rfl) ?_
 exact HL_nil (HC_ret (rt1 f6 R rfl rfl h))
 refine cR (sR (.int .i64 0) (r_assign rfl rfl) ?_)
 refine HL_nil ?_
 refine HC_block ?_
 obtain ⟨I1, m1, hI0, hr⟩ := h
 refine HC_loop (fun m1 E F => ∃ i_23 : Int, E 7 = (.bool v_26) ∧ E 9 = (.pointer s_9) ∧ E 17 = (Sl.v v_82) ∧ E 18 = (Sl.v v_88) ∧ E 23 = (.int .i64 i_23) ∧ I1 m1 i_23 F) m1 ⟨_, h7, h9, h17, h18, rfl, hI0⟩ ?_
 clear hI0; rintro m1 E F ⟨i_23, h7, h9, h17, h18, h23, hI⟩
 have h := hr m1 i_23 F hI
 clear hr hI
 unfold b6L1 at h
 refine HC_seq ?_
 refine cR (sR _ (r_move rfl h23) ?_)
 refine sR _ (r_move rfl h18) ?_
 refine sR (.int .i64 (v_88.len : Int)) (r_lenSl rfl rfl underlying26) ?_
 refine sR (.bool (decide (i_23 < (v_88.len : Int)))) (r_lss rfl rfl rfl) ?_
 refine HL_nil ?_
 refine HC_cond (t := (decide (i_23 < (v_88.len : Int)))) rfl (fun hc => ?_) (fun hc => ?_)
 replace h := h.1 (of_decide_eq_true hc)
 clear hc
 refine HC_skip ?_
 refine HC_seqJ (b6J5 (nx1 I1 m1) v_26 s_9 v_82 v_88 i_23 R) ?_ ?_
 clear h; rintro E F ⟨h7, h9, h17, h18, h23, h⟩
 unfold b6j5 at h
 refine HC_region ?_
 refine sR _ (r_move rfl h23) ?_
 refine sR (.int .i64 (IntKind.i64.wrap (i_23 + 1))) (r_add rfl rfl rfl) ?_
 refine sR (.int .i64 (IntKind.i64.wrap (i_23 + 1))) (r_assign rfl rfl) ?_
 refine HL_nil ?_
 obtain ⟨m', hm, h⟩ := h
 exact ⟨m', hm, _, h7, h9, h17, h18, rfl, h⟩
 refine HC_block ?_
 refine cR (sR _ (r_move rfl h9) ?_)
 refine sR _ (r_move rfl h18) ?_
 refine sR _ (r_move rfl h23) ?_
 obtain ⟨a143_, hb143, hl143, hu143, h⟩ := h
 refine sR (.pointer (some (Addr.add a143_ (Int.toNat i_23 * 2)))) (w_indexAddr rfl rfl underlying26 sz41 hb143 hl143 hu143) ?_
 refine sR (.pointer (some (Addr.add a143_ (Int.toNat i_23 * 2)))) (w_fieldAddr rfl underlying41 rfl rfl sz9 rfl rfl) ?_
 obtain ⟨v_145, hc145, h⟩ := h
 refine sR (.string v_145) (r_load1 rfl rfl underlying9 rfl hc145) ?_
 refine s_ef (k_call (vs := [(.pointer s_9), (.string v_145)]) cb16 (evC rfl (evC rfl evN)) (h.mono ?_))
 clear h; rintro v F ⟨v_146, v_146_1, rfl, h⟩
 refine sR (.tuple #[(Sl.v v_146), (.bool v_146_1)]) (r_move rfl rfl) ?_
 refine sR (Sl.v v_146) (r_extract rfl rfl rfl) ?_
 refine sR (.bool v_146_1) (r_extract rfl rfl rfl) ?_
 refine sR (Sl.v v_146) (r_assign rfl rfl) ?_
 refine sR (.bool v_146_1) (r_assign rfl rfl) ?_
 refine HL_nil ?_
 refine HC_seq ?_
 refine HC_draw0 (by kernel_rfl) (fun hp => ?_)
 refine gU 0 (Sl.v v_82) rfl (fun _ => r_move rfl h17) hp ?_
 refine gU 1 (Sl.v v_88) rfl (fun _ => r_move rfl h18) hp ?_
 refine gU 2 (.int .i64 i_23) rfl (fun _ => r_move rfl h23) hp ?_
 obtain ⟨a152_, hb152, hl152, hu152, h⟩ := h
 refine gU 3 (.pointer (some (Addr.add a152_ (Int.toNat i_23 * 2)))) rfl (fun _ => w_indexAddr rfl rfl underlying26 sz41 hb152 hl152 hu152) hp ?_
 refine gU 4 (.pointer (some (Addr.add a152_ (Int.toNat i_23 * 2)))) rfl (fun _ => w_fieldAddr rfl underlying41 rfl rfl sz9 rfl rfl) hp ?_
 obtain ⟨v_154, hc154, h⟩ := h
 refine gR 5 (.string v_154) rfl (r_load1 rfl rfl underlying9 rfl hc154) hp (fun S5 q5 => ?_)
 replace hp := holdC (i := 5) (q5 _ (r_load1 rfl rfl underlying9 rfl hc154)) hp
 refine RG_eff1 (i := 6) (by kernel_rfl) (g_op (Sp' := []) rfl rfl (k_call (vs := [(Sl.v v_82), (.string v_154)]) cb27 (evC rfl (evC rfl evN)) (h.mono ?_)))
 clear h; rintro v F ⟨v_155, rfl, h⟩
 refine holdI hold0 (fun hp => ?_)
 refine gU 7 (.bool (!v_155)) rfl (fun _ => r_not rfl rfl) hp ?_
 refine gU 8 (.bool (!v_155)) rfl (fun _ => r_move rfl rfl) hp ?_
 by_cases hc : (!v_155) = true
 replace h := h.1 hc
 refine RG_known (t := 156) (v := .bool true) (congrArg Value.bool hc) ?_
 refine RG_known (t := 157) (v := .bool true) (congrArg Value.bool hc) ?_
 refine gU 9 (.bool v_146_1) rfl (fun _ => r_move rfl rfl) hp ?_
 refine gU 10 (.bool (!v_146_1)) rfl (fun _ => r_not rfl rfl) hp ?_
 refine gU 11 (.bool (!v_146_1)) rfl (fun _ => r_move rfl rfl) hp ?_
 by_cases hc : (!v_146_1) = true
 replace h := h.1 hc
 refine RG_known (t := 159) (v := .bool true) (congrArg Value.bool hc) ?_
 refine RG_known (t := 160) (v := .bool true) (congrArg Value.bool hc) ?_
 refine gS 12 rfl hp ?_
 refine gS 13 rfl hp ?_
 refine gS 14 rfl hp ?_
 refine gS 15 rfl hp ?_
 refine gS 16 rfl hp ?_
 refine gS 17 rfl hp ?_
 refine gS 18 rfl hp ?_
 refine gS 19 rfl hp ?_
 refine gS 20 rfl hp ?_
 refine gU 21 (.bool true) rfl (fun _ => r_pick rfl rfl (fun _ => rfl) (fun h => by cases h)) hp ?_
 refine gU 22 (.bool true) rfl (fun _ => r_pick rfl rfl (fun _ => rfl) (fun h => by cases h)) hp ?_
 refine RG_done (by kernel_rfl) ?_
 refine HC_condT rfl ?_
 refine cR (sR (.bool false) (r_assign rfl rfl) ?_)
 exact HL_nil (HC_ret (rt1 f6 R rfl rfl h))
 replace hc := eq_false_of_ne_true hc; replace h := h.2 hc
 refine RG_known (t := 159) (v := .bool false) (congrArg Value.bool hc) ?_
 refine RG_known (t := 160) (v := .bool false) (congrArg Value.bool hc) ?_
 refine gU 12 (Sl.v v_146) rfl (fun _ => r_move rfl rfl) hp ?_
 obtain ⟨v_162, hc162, h⟩ := h
 refine gR 13 (.string v_162) rfl (r_convBS rfl rfl underlying39 underlying9 underlying5 ⟨_, _, _, rfl⟩ hc162) hp (fun S13 q13 => ?_)
 replace hp := holdC (i := 13) (q13 _ (r_convBS rfl rfl underlying39 underlying9 underlying5 ⟨_, _, _, rfl⟩ hc162)) hp
 refine gU 14 (Sl.v v_88) rfl (fun _ => r_move rfl h18) hp ?_
 refine gU 15 (.int .i64 i_23) rfl (fun _ => r_move rfl h23) hp ?_
 obtain ⟨a165_, hb165, hl165, hu165, h⟩ := h
 refine gU 16 (.pointer (some (Addr.add a165_ (Int.toNat i_23 * 2)))) rfl (fun _ => w_indexAddr rfl rfl underlying26 sz41 hb165 hl165 hu165) hp ?_
 refine gU 17 (.pointer (some (Addr.add (Addr.add a165_ (Int.toNat i_23 * 2)) 1))) rfl (fun _ => w_fieldAddr rfl underlying41 rfl rfl sz39 rfl rfl) hp ?_
 obtain ⟨v_167, hc167, h⟩ := h
 refine gR 18 (Sl.v v_167) rfl (r_load1 rfl rfl underlying39 rfl hc167) hp (fun S18 q18 => ?_)
 replace hp := holdC (i := 18) (q18 _ (r_load1 rfl rfl underlying39 rfl hc167)) hp
 obtain ⟨v_168, hc168, h⟩ := h
 refine gR 19 (.string v_168) rfl (r_convBS rfl rfl underlying39 underlying9 underlying5 ⟨_, _, _, rfl⟩ hc168) hp (fun S19 q19 => ?_)
 replace hp := holdC (i := 19) (q19 _ (r_convBS rfl rfl underlying39 underlying9 underlying5 ⟨_, _, _, rfl⟩ hc168)) hp
 refine gU 20 (.bool (!(v_162.toList == v_168.toList))) rfl (fun _ => r_neqS rfl rfl rfl) hp ?_
 refine gU 21 (.bool (!(v_162.toList == v_168.toList))) rfl (fun _ => r_pick rfl rfl (fun h => by cases h) (fun _ => rfl)) hp ?_
 refine gU 22 (.bool (!(v_162.toList == v_168.toList))) rfl (fun _ => r_pick rfl rfl (fun _ => rfl) (fun h => by cases h)) hp ?_
 refine RG_done (by kernel_rfl) ?_
 refine HC_cond (t := (!(v_162.toList == v_168.toList))) rfl (fun hc => ?_) (fun hc => ?_)
 replace h := h.1 hc
 clear hc
 refine cR (sR (.bool false) (r_assign rfl rfl) ?_)
 exact HL_nil (HC_ret (rt1 f6 R rfl rfl h))
 replace h := h.2 hc
 clear hc
 refine HC_skip ?_
 show b6J5 (nx1 I1 m1) v_26 s_9 v_82 v_88 i_23 R _ _
 exact ⟨h7, h9, h17, h18, h23, h⟩
 replace hc := eq_false_of_ne_true hc; replace h := h.2 hc
 refine RG_known (t := 156) (v := .bool false) (congrArg Value.bool hc) ?_
 refine RG_known (t := 157) (v := .bool false) (congrArg Value.bool hc) ?_
 refine gS 9 rfl hp ?_
 refine gS 10 rfl hp ?_
 refine gS 11 rfl hp ?_
 refine gS 12 rfl hp ?_
 refine gS 13 rfl hp ?_
 refine gS 14 rfl hp ?_
 refine gS 15 rfl hp ?_
 refine gS 16 rfl hp ?_
 refine gS 17 rfl hp ?_
 refine gS 18 rfl hp ?_
 refine gS 19 rfl hp ?_
 refine gS 20 rfl hp ?_
 refine gS 21 rfl hp ?_
 refine gU 22 (.bool false) rfl (fun _ => r_pick rfl rfl (fun h => by cases h) (fun _ => rfl)) hp ?_
 refine RG_done (by kernel_rfl) ?_
 refine HC_condF rfl ?_
 refine HC_skip ?_
 show b6J5 (nx1 I1 m1) v_26 s_9 v_82 v_88 i_23 R _ _
 exact ⟨h7, h9, h17, h18, h23, h⟩
 replace h := h.2 (of_decide_eq_false hc)
 clear hc
 refine HC_exit ?_
 show b6J4 v_26 R _ _
 exact ⟨h7, h⟩
 refine cR (sR (.int .i64 v_111) (r_move rfl rfl) ?_)
 refine sR (.bool (decide (v_111 = 0))) (w_eql rfl rfl) ?_
 refine sR (.bool (decide (v_111 = 0))) (r_move rfl rfl) ?_
 by_cases hc : v_111 = 0
 replace h := h.1 hc
 refine kN 119 (decide_eq_true hc) ?_
 refine kN 120 (decide_eq_true hc) ?_
 refine sR _ (r_move rfl h17) ?_
 refine s_ef (k_call (vs := [(Sl.v v_82)]) cb26 (evC rfl evN) (h.mono ?_))
 clear h; rintro v F ⟨v_122, rfl, h⟩
 refine sR (.bool (!v_122)) (r_not rfl rfl) ?_
 refine sR (.bool (!v_122)) (r_pt rfl rfl) ?_
 refine sR (.bool (!v_122)) (r_move rfl rfl) ?_
 by_cases hc : (!v_122) = true
 replace h := h.1 hc
 refine kN 123 hc ?_
 refine kN 124 hc ?_
 refine kN 125 hc ?_
 refine sR _ (r_move rfl h9) ?_
 refine s_ef (k_call (vs := [(.pointer s_9)]) cb17 (evC rfl evN) (h.mono ?_))
 clear h; rintro v F ⟨v_127, rfl, h⟩
 refine sR _ (r_move rfl h13) ?_
 refine s_ef (k_call (vs := [(.pointer t_13)]) cb17 (evC rfl evN) (h.mono ?_))
 clear h; rintro v F ⟨v_129, rfl, h⟩
 refine s_ef (k_call (vs := [(Sl.v v_127), (Sl.v v_129)]) cb21 (evC rfl (evC rfl evN)) (h.mono ?_))
 clear h; rintro v F ⟨v_130, rfl, h⟩
 refine sR (.bool (!v_130)) (r_not rfl rfl) ?_
 refine sR (.bool (!v_130)) (r_pt rfl rfl) ?_
 refine HL_nil ?_
 refine HC_cond (t := (!v_130)) rfl (fun hc => ?_) (fun hc => ?_)
 replace h := h.1 hc
 clear hc
 refine cR (sR (.bool false) (r_assign rfl rfl) ?_)
 exact HL_nil (HC_ret (rt1 f6 R rfl rfl h))
 replace h := h.2 hc
 clear hc
 refine HC_skip ?_
 show b6J3 v_26 s_9 v_82 v_88 R _ _
 exact ⟨h7, h9, h17, h18, h⟩
 replace hc := eq_false_of_ne_true hc; replace h := h.2 hc
 refine kN 123 hc ?_
 refine kN 124 hc ?_
 refine kN 125 hc ?_
 iterate 6 refine s_skip ?_
 refine sR (.bool false) (r_pf rfl rfl) ?_
 refine HL_nil ?_
 refine HC_condF rfl ?_
 refine HC_skip ?_
 show b6J3 v_26 s_9 v_82 v_88 R _ _
 exact ⟨h7, h9, h17, h18, h⟩
 replace h := h.2 hc
 refine kN 119 (decide_eq_false hc) ?_
 refine kN 120 (decide_eq_false hc) ?_
 iterate 3 refine s_skip ?_
 refine sR (.bool false) (r_pf rfl rfl) ?_
 refine sR (.bool false) (r_move rfl rfl) ?_
 iterate 6 refine s_skip ?_
 refine sR (.bool false) (r_pf rfl rfl) ?_
 refine HL_nil ?_
 refine HC_condF rfl ?_
 refine HC_skip ?_
 show b6J3 v_26 s_9 v_82 v_88 R _ _
 exact ⟨h7, h9, h17, h18, h⟩
 refine cR (sR (.int .i64 0) (r_assign rfl rfl) ?_)
 refine HL_nil ?_
 refine HC_block ?_
 obtain ⟨I2, m2, hI0, hr⟩ := h
 refine HC_loop (fun m2 E F => ∃ turned_19_1 : Sl, ∃ i_20 : Int, E 2 = (.int .u8 at_2) ∧ E 7 = (.bool v_26) ∧ E 9 = (.pointer s_9) ∧ E 13 = (.pointer t_13) ∧ E 17 = (Sl.v v_82) ∧ E 18 = (Sl.v v_88) ∧ E 19 = (Sl.v turned_19_1) ∧ E 20 = (.int .i64 i_20) ∧ I2 m2 turned_19_1 i_20 F) m2 ⟨_, _, h2, h7, h9, h13, rfl, rfl, rfl, rfl, hI0⟩ ?_
 clear hI0; rintro m2 E F ⟨turned_19_1, i_20, h2, h7, h9, h13, h17, h18, h19, h20, hI⟩
 have h := hr m2 turned_19_1 i_20 F hI
 clear hr hI
 unfold b6L2 at h
 refine HC_seq ?_
 refine cR (sR _ (r_move rfl h20) ?_)
 refine sR _ (r_move rfl h17) ?_
 refine sR (.int .i64 (v_82.len : Int)) (r_lenSl rfl rfl underlying26) ?_
 refine sR (.bool (decide (i_20 < (v_82.len : Int)))) (r_lss rfl rfl rfl) ?_
 refine HL_nil ?_
 refine HC_cond (t := (decide (i_20 < (v_82.len : Int)))) rfl (fun hc => ?_) (fun hc => ?_)
 replace h := h.1 (of_decide_eq_true hc)
 clear hc
 refine HC_skip ?_
 refine HC_seq ?_
 refine HC_block ?_
 refine HC_region ?_
 refine sR _ (r_move rfl h19) ?_
 refine sR _ (r_move rfl h17) ?_
 refine sR _ (r_move rfl h20) ?_
 refine sR _ (r_move rfl h2) ?_
 refine sR (.int .i64 (IntKind.i64.wrap at_2)) (r_convInt rfl rfl underlying5 underlying3) ?_
 refine sR (.int .i64 (IntKind.i64.wrap (i_20 + (IntKind.i64.wrap at_2)))) (r_add rfl rfl rfl) ?_
 refine sR _ (r_move rfl h17) ?_
 refine sR (.int .i64 (v_82.len : Int)) (r_lenSl rfl rfl underlying26) ?_
 obtain ⟨hd104, h⟩ := h
 refine sR (.int .i64 (Int.tmod (IntKind.i64.wrap (i_20 + (IntKind.i64.wrap at_2))) (v_82.len : Int))) (r_rem rfl rfl rfl hd104) ?_
 obtain ⟨a105_, hb105, hl105, hu105, h⟩ := h
 refine sR (.pointer (some (Addr.add a105_ (Int.toNat (Int.tmod (IntKind.i64.wrap (i_20 + (IntKind.i64.wrap at_2))) (v_82.len : Int)) * 2)))) (w_indexAddr rfl rfl underlying26 sz41 hb105 hl105 hu105) ?_
 obtain ⟨v_106, hs106, hc106, h⟩ := h
 refine sR (.agg v_106) (w_loadN rfl underlying41 rfl sz41 hs106 hc106) ?_
 obtain ⟨hz107, h⟩ := h
 refine s_ef (k_buildSlice (cells := v_106) underlying26 sz41 (by decide) zr41 rfl (evPC rfl evPN) (fillWhole hz107 rfl rfl) rfl ?_)
 intro b107 hf_b107
 replace h := atE (h b107 hf_b107)
 refine s_ef (k_append rfl rfl (runs_mono _ _ h ?_))
 clear h; rintro v F ⟨v_108, rfl, h⟩
 refine sR (Sl.v v_108) (r_assign rfl rfl) ?_
 refine HL_nil ?_
 refine HC_region ?_
 refine sR _ (r_move rfl h20) ?_
 refine sR (.int .i64 (IntKind.i64.wrap (i_20 + 1))) (r_add rfl rfl rfl) ?_
 refine sR (.int .i64 (IntKind.i64.wrap (i_20 + 1))) (r_assign rfl rfl) ?_
 refine HL_nil ?_
 obtain ⟨m', hm, h⟩ := h
 exact ⟨m', hm, _, _, h2, h7, h9, h13, h17, h18, rfl, rfl, h⟩
 replace h := h.2 (of_decide_eq_false hc)
 clear hc
 refine HC_exit ?_
 show b6J2 v_26 s_9 t_13 v_82 v_88 R _ _
 exact ⟨_, h7, h9, h13, h17, h18, h19, h⟩
 refine cR (sR (.int .i64 0) (r_assign rfl rfl) ?_)
 refine HL_nil ?_
 refine HC_block ?_
 obtain ⟨I3, m3, hI0, hr⟩ := h
 refine HC_loop (fun m3 E F => ∃ s_9_1 : Option Addr, ∃ t_13_1 : Option Addr, ∃ i_16 : Int, E 0 = (Sl.v l_0) ∧ E 2 = (.int .u8 at_2) ∧ E 4 = (.pointer (some (Addr.mk b4 0 none))) ∧ E 7 = (.bool v_26) ∧ E 8 = (.pointer v_28) ∧ E 9 = (.pointer s_9_1) ∧ E 10 = (.pointer (some (Addr.mk b10 0 none))) ∧ E 12 = (.pointer v_34) ∧ E 13 = (.pointer t_13_1) ∧ E 14 = (.pointer (some (Addr.mk b14 0 none))) ∧ E 16 = (.int .i64 i_16) ∧ I3 m3 s_9_1 t_13_1 i_16 F) m3 ⟨_, _, _, rfl, rfl, rfl, rfl, rfl, rfl, rfl, rfl, rfl, rfl, rfl, hI0⟩ ?_
 clear hI0; rintro m3 E F ⟨s_9_1, t_13_1, i_16, h0, h2, h4, h7, h8, h9, h10, h12, h13, h14, h16, hI⟩
 have h := hr m3 s_9_1 t_13_1 i_16 F hI
 clear hr hI
 unfold b6L3 at h
 refine HC_seq ?_
 refine cR (sR _ (r_move rfl h16) ?_)
 refine sR _ (r_move rfl h0) ?_
 refine sR (.int .i64 (l_0.len : Int)) (r_lenSl rfl rfl underlying22) ?_
 refine sR (.bool (decide (i_16 < (l_0.len : Int)))) (r_lss rfl rfl rfl) ?_
 refine sR (.bool (decide (i_16 < (l_0.len : Int)))) (r_move rfl rfl) ?_
 by_cases hc : i_16 < (l_0.len : Int)
 replace h := h.1 hc
 refine kN 48 (decide_eq_true hc) ?_
 refine kN 49 (decide_eq_true hc) ?_
 refine sR _ (r_move rfl h16) ?_
 refine sR (.bool (decide (i_16 < 8))) (r_lss rfl rfl rfl) ?_
 refine sR (.bool (decide (i_16 < 8))) (r_pt rfl rfl) ?_
 refine HL_nil ?_
 refine HC_cond (t := (decide (i_16 < 8))) rfl (fun hc => ?_) (fun hc => ?_)
 replace h := h.1 (of_decide_eq_true hc)
 clear hc
 refine HC_skip ?_
 refine HC_seq ?_
 refine HC_block ?_
 refine HC_seq ?_
 refine HC_draw0 (by kernel_rfl) (fun hp => ?_)
 refine gU 0 (.pointer v_28) rfl (fun _ => r_move rfl h8) hp ?_
 refine gU 1 (.pointer s_9_1) rfl (fun _ => r_move rfl h9) hp ?_
 obtain ⟨v_58, hs58, hc58, h⟩ := h
 refine gR 2 (.agg v_58) rfl (w_loadN h10 underlying28 rfl sz28 hs58 hc58) hp (fun S2 q2 => ?_)
 replace hp := holdC (i := 2) (q2 _ (w_loadN h10 underlying28 rfl sz28 hs58 hc58)) hp
 refine gU 3 (Sl.v l_0) rfl (fun _ => r_move rfl h0) hp ?_
 refine gU 4 (.int .i64 i_16) rfl (fun _ => r_move rfl h16) hp ?_
 obtain ⟨a61_, hb61, hl61, hu61, h⟩ := h
 refine gU 5 (.pointer (some (Addr.add a61_ (Int.toNat i_16 * 2)))) rfl (fun _ => w_indexAddr rfl rfl underlying22 sz38 hb61 hl61 hu61) hp ?_
 obtain ⟨v_62, hs62, hc62, h⟩ := h
 refine gR 6 (.agg v_62) rfl (w_loadN rfl underlying38 rfl sz38 hs62 hc62) hp (fun S6 q6 => ?_)
 replace hp := holdC (i := 6) (q6 _ (w_loadN rfl underlying38 rfl sz38 hs62 hc62)) hp
 refine RG_eff1 (i := 7) (by kernel_rfl) (g_op (Sp' := []) rfl rfl (k_call (vs := [(.pointer v_28), (.pointer s_9_1), (.agg v_58), (.agg v_62)]) cb14 (evC rfl (evC rfl (evC rfl (evC rfl evN)))) (h.mono ?_)))
 clear h; rintro v F ⟨v_63, v_63_1, v_63_2, v_63_3, rfl, h⟩
 refine holdI hold0 (fun hp => ?_)
 refine gU 8 (.tuple #[(.pointer v_63), (.agg v_63_1), (.int .i64 v_63_2), (.bool v_63_3)]) rfl (fun _ => r_move rfl rfl) hp ?_
 refine gU 9 (.pointer v_63) rfl (fun _ => r_extract rfl rfl rfl) hp ?_
 refine gU 10 (.agg v_63_1) rfl (fun _ => r_extract rfl rfl rfl) hp ?_
 refine gU 11 (.int .i64 v_63_2) rfl (fun _ => r_extract rfl rfl rfl) hp ?_
 refine gU 12 (.bool v_63_3) rfl (fun _ => r_extract rfl rfl rfl) hp ?_
 refine gU 13 (.pointer v_63) rfl (fun _ => r_assign rfl rfl) hp ?_
 refine RG_eff1 (i := 14) (by kernel_rfl) (g_op0 (Sp' := []) rfl rfl (k_storeN (vs := v_63_1) h10 rfl sz28 (by decide) ?_))
 obtain ⟨hz1, hz2, c, e, hz3, hz4, hz5, h⟩ := h
 refine ⟨hz1, hz2, c, e, hz3, hz4, hz5, ?_⟩
 replace h := atE h
 refine holdI hold0 (fun hp => ?_)
 refine RG_done (by kernel_rfl) ?_
 refine HC_draw0 (by kernel_rfl) (fun hp => ?_)
 refine gU 0 (.pointer v_34) rfl (fun _ => r_move rfl h12) hp ?_
 refine gU 1 (.pointer t_13_1) rfl (fun _ => r_move rfl h13) hp ?_
 obtain ⟨v_71, hs71, hc71, h⟩ := h
 refine gR 2 (.agg v_71) rfl (w_loadN h14 underlying28 rfl sz28 hs71 hc71) hp (fun S2 q2 => ?_)
 replace hp := holdC (i := 2) (q2 _ (w_loadN h14 underlying28 rfl sz28 hs71 hc71)) hp
 refine gU 3 (Sl.v l_0) rfl (fun _ => r_move rfl h0) hp ?_
 refine gU 4 (.int .i64 i_16) rfl (fun _ => r_move rfl h16) hp ?_
 obtain ⟨a74_, hb74, hl74, hu74, h⟩ := h
 refine gU 5 (.pointer (some (Addr.add a74_ (Int.toNat i_16 * 2)))) rfl (fun _ => w_indexAddr rfl rfl underlying22 sz38 hb74 hl74 hu74) hp ?_
 obtain ⟨v_75, hs75, hc75, h⟩ := h
 refine gR 6 (.agg v_75) rfl (w_loadN rfl underlying38 rfl sz38 hs75 hc75) hp (fun S6 q6 => ?_)
 replace hp := holdC (i := 6) (q6 _ (w_loadN rfl underlying38 rfl sz38 hs75 hc75)) hp
 refine RG_eff1 (i := 7) (by kernel_rfl) (g_op (Sp' := []) rfl rfl (k_call (vs := [(.pointer v_34), (.pointer t_13_1), (.agg v_71), (.agg v_75)]) cb14 (evC rfl (evC rfl (evC rfl (evC rfl evN)))) (h.mono ?_)))
 clear h; rintro v F ⟨v_76, v_76_1, v_76_2, v_76_3, rfl, h⟩
 refine holdI hold0 (fun hp => ?_)
 refine gU 8 (.tuple #[(.pointer v_76), (.agg v_76_1), (.int .i64 v_76_2), (.bool v_76_3)]) rfl (fun _ => r_move rfl rfl) hp ?_
 refine gU 9 (.pointer v_76) rfl (fun _ => r_extract rfl rfl rfl) hp ?_
 refine gU 10 (.agg v_76_1) rfl (fun _ => r_extract rfl rfl rfl) hp ?_
 refine gU 11 (.int .i64 v_76_2) rfl (fun _ => r_extract rfl rfl rfl) hp ?_
 refine gU 12 (.bool v_76_3) rfl (fun _ => r_extract rfl rfl rfl) hp ?_
 refine gU 13 (.pointer v_76) rfl (fun _ => r_assign rfl rfl) hp ?_
 refine RG_eff1 (i := 14) (by kernel_rfl) (g_op0 (Sp' := []) rfl rfl (k_storeN (vs := v_76_1) h14 rfl sz28 (by decide) ?_))
 obtain ⟨hz1, hz2, c, e, hz3, hz4, hz5, h⟩ := h
 refine ⟨hz1, hz2, c, e, hz3, hz4, hz5, ?_⟩
 replace h := atE h
 refine holdI hold0 (fun hp => ?_)
 refine RG_done (by kernel_rfl) ?_
 refine HC_region ?_
 refine sR _ (r_move rfl h16) ?_
 refine sR (.int .i64 (IntKind.i64.wrap (i_16 + 1))) (r_add rfl rfl rfl) ?_
 refine sR (.int .i64 (IntKind.i64.wrap (i_16 + 1))) (r_assign rfl rfl) ?_
 refine HL_nil ?_
 obtain ⟨m', hm, h⟩ := h
 exact ⟨m', hm, _, _, _, h0, h2, h4, h7, h8, rfl, h10, h12, rfl, h14, rfl, h⟩
 replace h := h.2 (of_decide_eq_false hc)
 clear hc
 refine HC_exit ?_
 show b6J1 at_2 b4 v_26 R _ _
 exact ⟨_, _, h2, h4, h7, h9, h13, h⟩
 replace h := h.2 hc
 refine kN 48 (decide_eq_false hc) ?_
 refine kN 49 (decide_eq_false hc) ?_
 iterate 2 refine s_skip ?_
 refine sR (.bool false) (r_pf rfl rfl) ?_
 refine HL_nil ?_
 refine HC_condF rfl ?_
 refine HC_exit ?_
 show b6J1 at_2 b4 v_26 R _ _
 exact ⟨_, _, h2, h4, h7, h9, h13, h⟩
end Go.Proofs.Ytelkfnmdnbbniaa
