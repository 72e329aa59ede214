/-
  What functions of the program do, in a clean form, each with the proof that its code does so. Printed by a program.
-/
import Derived.Test.YtelkfnmdnbbniaaGf
import Derived.Test.YtelkfnmdnbbniaaPhp
namespace Go.Proofs.Ytelkfnmdnbbniaa
open Go Go.Proofs.Try
set_option maxRecDepth 10000
set_option maxHeartbeats 4000000
/- 5 koine.koinelaw35.StoreRoom -/
def b5j3 (n_0 : Int) (v_22 : Bool) (s_9 : Option Addr) (v_57 : Sl) (payload_14 : Int) (v_90 : Int) (v_92 : Sl) (snapshot_18 : Int) (R : VP) (F : PH) :=
 Spec prog 25 #[(.pointer s_9), (Sl.v v_57)] F fun v F => ∃ v_100 : Int, v = (.int .i64 v_100) ∧
 Spec prog 12 #[(.int .u8 n_0)] F fun v F => ∃ v_102 : Int, v = (.int .i64 v_102) ∧
 ((payload_14 ≤ v_90 →
  ((v_100 = 0 →
   Spec prog 18 #[(.pointer s_9)] F fun v F => ∃ v_112 : Int, v = (.int .i64 v_112) ∧
   Spec prog 24 #[(Sl.v v_57)] F fun v F => ∃ v_115 : Int, v = (.int .i64 v_115) ∧
   ((v_112 = (max 0 (IntKind.i64.wrap (v_90 - (IntKind.i64.wrap (63 * v_115))))) →
    R (.bool v_22) F) ∧
   (¬ (v_112 = (max 0 (IntKind.i64.wrap (v_90 - (IntKind.i64.wrap (63 * v_115)))))) →
    R (.bool false) F))) ∧
  (¬ (v_100 = 0) →
   R (.bool false) F))) ∧
 (¬ (payload_14 ≤ v_90) →
  Spec prog 24 #[(Sl.v v_57)] F fun v F => ∃ v_126 : Int, v = (.int .i64 v_126) ∧
  ((¬ ((IntKind.i64.wrap (snapshot_18 + v_126)) ≤ (IntKind.i64.wrap ((IntKind.i64.wrap (Int.tdiv v_102 2)) - 1))) →
   ((v_100 = 351 →
    Spec prog 17 #[(.pointer s_9)] F fun v F => ∃ v_136 : Sl, v = (Sl.v v_136) ∧
    Spec prog 21 #[(Sl.v v_136), (Sl.v v_92)] F fun v F => ∃ v_138 : Bool, v = (.bool v_138) ∧
    ((v_138 = true →
     Spec prog 18 #[(.pointer s_9)] F fun v F => ∃ v_142 : Int, v = (.int .i64 v_142) ∧
     ((v_142 = v_90 →
      R (.bool v_22) F) ∧
     (¬ (v_142 = v_90) →
      R (.bool false) F))) ∧
    (v_138 = false →
     R (.bool false) F))) ∧
   (¬ (v_100 = 351) →
    R (.bool false) F))) ∧
  (¬ (¬ ((IntKind.i64.wrap (snapshot_18 + v_126)) ≤ (IntKind.i64.wrap ((IntKind.i64.wrap (Int.tdiv v_102 2)) - 1)))) →
   ((v_100 = 0 →
    Spec prog 18 #[(.pointer s_9)] F fun v F => ∃ v_153 : Int, v = (.int .i64 v_153) ∧
    Spec prog 24 #[(Sl.v v_57)] F fun v F => ∃ v_158 : Int, v = (.int .i64 v_158) ∧
    ((v_153 = (max 0 (IntKind.i64.wrap (63 * (IntKind.i64.wrap ((IntKind.i64.wrap ((IntKind.i64.wrap ((IntKind.i64.wrap ((IntKind.i64.wrap (Int.tdiv v_102 2)) - 1)) - snapshot_18)) - v_158)) - 1))))) →
     R (.bool v_22) F) ∧
    (¬ (v_153 = (max 0 (IntKind.i64.wrap (63 * (IntKind.i64.wrap ((IntKind.i64.wrap ((IntKind.i64.wrap ((IntKind.i64.wrap ((IntKind.i64.wrap (Int.tdiv v_102 2)) - 1)) - snapshot_18)) - v_158)) - 1)))))) →
     R (.bool false) F))) ∧
   (¬ (v_100 = 0) →
    R (.bool false) F))))))
abbrev b5J3 (n_0 : Int) (v_22 : Bool) (s_9 : Option Addr) (v_57 : Sl) (payload_14 : Int) (v_90 : Int) (v_92 : Sl) (R : VP) (E : En) (F : PH) : Prop := ∃ snapshot_18 : Int, E 0 = (.int .u8 n_0) ∧ E 7 = (.bool v_22) ∧ E 9 = (.pointer s_9) ∧ E 13 = (Sl.v v_57) ∧ E 14 = (.int .i64 payload_14) ∧ E 16 = (.int .i64 v_90) ∧ E 17 = (Sl.v v_92) ∧ E 18 = (.int .i64 snapshot_18) ∧ b5j3 n_0 v_22 s_9 v_57 payload_14 v_90 v_92 snapshot_18 R F
def b5j2 (n_0 : Int) (v_22 : Bool) (s_9 : Option Addr) (v_57 : Sl) (payload_14 : Int) (R : VP) (F : PH) :=
 Spec prog 18 #[(.pointer s_9)] F fun v F => ∃ v_90 : Int, v = (.int .i64 v_90) ∧
 Spec prog 17 #[(.pointer s_9)] F fun v F => ∃ v_92 : Sl, v = (Sl.v v_92) ∧
 (((0 : Int) < (v_92.len : Int) →
  Spec prog 24 #[(Sl.v v_92)] F fun v F => ∃ v_97 : Int, v = (.int .i64 v_97) ∧
  b5j3 n_0 v_22 s_9 v_57 payload_14 v_90 v_92 v_97 R F) ∧
 (¬ ((0 : Int) < (v_92.len : Int)) →
  b5j3 n_0 v_22 s_9 v_57 payload_14 v_90 v_92 0 R F))
abbrev b5J2 (n_0 : Int) (v_22 : Bool) (s_9 : Option Addr) (v_57 : Sl) (R : VP) (E : En) (F : PH) : Prop := ∃ payload_14 : Int, E 0 = (.int .u8 n_0) ∧ E 7 = (.bool v_22) ∧ E 9 = (.pointer s_9) ∧ E 13 = (Sl.v v_57) ∧ E 14 = (.int .i64 payload_14) ∧ b5j2 n_0 v_22 s_9 v_57 payload_14 R F
def b5L1 (N1 : Int → Int → PH → Prop) (n_0 : Int) (v_22 : Bool) (s_9 : Option Addr) (v_57 : Sl) (R : VP) (payload_14_1 : Int) (i_15 : Int) (F : PH) :=
 ((i_15 < (v_57.len : Int) →
  ∃ a76_ : Addr, v_57.base = some a76_ ∧ 0 ≤ i_15 ∧ i_15 < (v_57.len : Int) ∧
  ∃ v_78 : ByteArray, F.cell (Addr.add a76_ (Int.toNat i_15 * 2)) = some (.string v_78) ∧
  ∃ a82_ : Addr, v_57.base = some a82_ ∧ 0 ≤ i_15 ∧ i_15 < (v_57.len : Int) ∧
  ∃ v_84 : Sl, F.cell (Addr.add (Addr.add a82_ (Int.toNat i_15 * 2)) 1) = some (Sl.v v_84) ∧
  N1 (IntKind.i64.wrap (payload_14_1 + (IntKind.i64.wrap ((IntKind.i64.wrap ((v_78.size : Int) + (v_84.len : Int))) + 5)))) (IntKind.i64.wrap (i_15 + 1)) F) ∧
 (¬ (i_15 < (v_57.len : Int)) →
  b5j2 n_0 v_22 s_9 v_57 payload_14_1 R F))
def b5j1 (n_0 : Int) (b5 : Nat) (v_22 : Bool) (s_9 : Option Addr) (R : VP) (F : PH) :=
 ∃ v_56 : Array Value, v_56.size = 2 ∧ F.row (Addr.mk b5 0 none) v_56 ∧
 Spec prog 22 #[(.agg v_56)] F fun v F => ∃ v_57 : Sl, v = (Sl.v v_57) ∧
 Spec prog 23 #[(Sl.v v_57)] F fun v F => ∃ v_59 : Bool, v = (.bool v_59) ∧
 (((!v_59) = true →
  R (.bool v_22) F) ∧
 ((!v_59) = false →
  (((v_57.len : Int) = 0 →
   R (.bool v_22) F) ∧
  (¬ ((v_57.len : Int) = 0) →
   (∃ (I1 : Nat → Int → Int → PH → Prop) (m1 : Nat), I1 m1 0 0 F ∧ ∀ m1 payload_14_1 i_15 F, I1 m1 payload_14_1 i_15 F →
    b5L1 (nx2 I1 m1) n_0 v_22 s_9 v_57 R payload_14_1 i_15 F)))))
abbrev b5J1 (n_0 : Int) (b5 : Nat) (v_22 : Bool) (R : VP) (E : En) (F : PH) : Prop := ∃ s_9 : Option Addr, E 0 = (.int .u8 n_0) ∧ E 5 = (.pointer (some (Addr.mk b5 0 none))) ∧ E 7 = (.bool v_22) ∧ E 9 = (.pointer s_9) ∧ b5j1 n_0 b5 v_22 s_9 R F
def b5L2 (N2 : Option Addr → Int → PH → Prop) (n_0 : Int) (l_1 : Sl) (b5 : Nat) (v_22 : Bool) (v_26 : Option Addr) (b10 : Nat) (R : VP) (s_9_1 : Option Addr) (i_12 : Int) (F : PH) :=
 ((i_12 < (l_1.len : Int) →
  ((i_12 < 20 →
   ∃ v_46 : Array Value, v_46.size = 3 ∧ F.row (Addr.mk b10 0 none) v_46 ∧
   ∃ a49_ : Addr, l_1.base = some a49_ ∧ 0 ≤ i_12 ∧ i_12 < (l_1.len : Int) ∧
   ∃ v_50 : Array Value, v_50.size = 2 ∧ F.row (Addr.add a49_ (Int.toNat i_12 * 2)) v_50 ∧
   Spec prog 14 #[(.pointer v_26), (.pointer s_9_1), (.agg v_46), (.agg v_50)] F fun v F => ∃ v_51 : Option Addr, ∃ v_51_1 : Array Value, ∃ v_51_2 : Int, ∃ v_51_3 : Bool, v = (.tuple #[(.pointer v_51), (.agg v_51_1), (.int .i64 v_51_2), (.bool v_51_3)]) ∧
   v_51_1.size = 3 ∧ (∀ v ∈ v_51_1.toList, storable v) ∧ ∃ c e, F (Addr.mk b10 0 none).block = some (.cells c e (0, 0)) ∧ (Addr.mk b10 0 none).spot = none ∧ (Addr.mk b10 0 none).off + 3 ≤ c.size ∧
   atF (F.set (Addr.mk b10 0 none).block (.cells (wr c (Addr.mk b10 0 none).off v_51_1.toList) e)) fun F =>
   N2 v_51 (IntKind.i64.wrap (i_12 + 1)) F) ∧
  (¬ (i_12 < 20) →
   b5j1 n_0 b5 v_22 s_9_1 R F))) ∧
 (¬ (i_12 < (l_1.len : Int)) →
  b5j1 n_0 b5 v_22 s_9_1 R F))
def b5 (n_0 : Int) (l_1 : Sl) (x_2 : Array Value) (R : VP) (F : PH) :=
 ∀ b5, F b5 = none → atF (F.set b5 (.cells x_2 38)) fun F =>
 Spec prog 10 #[] F fun v F => ∃ v_22 : Bool, v = (.bool v_22) ∧
 Spec prog 12 #[(.int .u8 n_0)] F fun v F => ∃ v_25 : Int, v = (.int .i64 v_25) ∧
 Spec prog 11 #[(.int .i64 v_25)] F fun v F => ∃ v_26 : Option Addr, ∃ v_26_1 : Option Addr, ∃ v_26_2 : Array Value, ∃ v_26_3 : Bool, v = (.tuple #[(.pointer v_26), (.pointer v_26_1), (.agg v_26_2), (.bool v_26_3)]) ∧
 ∀ b10, F b10 = none → atF (F.set b10 (.cells (#[.int .i64 0, .int .i64 0, .slice none 0 0]) 28)) fun F =>
 v_26_2.size = 3 ∧ (∀ v ∈ v_26_2.toList, storable v) ∧ ∃ c e, F (Addr.mk b10 0 none).block = some (.cells c e (0, 0)) ∧ (Addr.mk b10 0 none).spot = none ∧ (Addr.mk b10 0 none).off + 3 ≤ c.size ∧
 atF (F.set (Addr.mk b10 0 none).block (.cells (wr c (Addr.mk b10 0 none).off v_26_2.toList) e)) fun F =>
 (((!v_26_3) = true →
  R (.bool false) F) ∧
 ((!v_26_3) = false →
  (∃ (I2 : Nat → Option Addr → Int → PH → Prop) (m2 : Nat), I2 m2 v_26_1 0 F ∧ ∀ m2 s_9_1 i_12 F, I2 m2 s_9_1 i_12 F →
   b5L2 (nx2 I2 m2) n_0 l_1 b5 v_22 v_26 b10 R s_9_1 i_12 F)))
theorem c5 {n_0 : Int} {l_1 : Sl} {x_2 : Array Value} {R : VP} {F : PH} (h : b5 n_0 l_1 x_2 R F) : Spec prog 5 #[(.int .u8 n_0), (Sl.v l_1), (.agg x_2)] F R := by
 refine spec_of (args := [(.int .u8 n_0), (Sl.v l_1), (.agg x_2)]) func5 rfl ntmps5 rfl ?_
 unfold b5 at h
 refine cR ?_
 refine s_ef (k_box (cs := x_2) rfl rfl ?_)
 intro b5 hf_b5
 replace h := atE (h b5 hf_b5)
 refine sR (.bool false) (r_assign rfl rfl) ?_
 refine HL_nil ?_
 refine cR ?_
 refine s_ef (k_call (vs := []) cb10 evN (h.mono ?_))
 clear h; rintro v F ⟨v_22, rfl, h⟩
 refine sR (.bool v_22) (r_assign rfl rfl) ?_
 refine HL_nil ?_
 refine cR (sR (.int .u8 n_0) (r_move rfl rfl) ?_)
 refine s_ef (k_call (vs := [(.int .u8 n_0)]) cb12 (evC rfl evN) (h.mono ?_))
 clear h; rintro v F ⟨v_25, rfl, h⟩
 refine s_ef (k_call (vs := [(.int .i64 v_25)]) cb11 (evC rfl evN) (h.mono ?_))
 clear h; rintro v F ⟨v_26, v_26_1, v_26_2, v_26_3, rfl, h⟩
 refine sR (.tuple #[(.pointer v_26), (.pointer v_26_1), (.agg v_26_2), (.bool v_26_3)]) (r_move rfl rfl) ?_
 refine sR (.pointer v_26) (r_extract rfl rfl rfl) ?_
 refine sR (.pointer v_26_1) (r_extract rfl rfl rfl) ?_
 refine sR (.agg v_26_2) (r_extract rfl rfl rfl) ?_
 refine sR (.bool v_26_3) (r_extract rfl rfl rfl) ?_
 refine s_ef (k_alloc zr28 ?_)
 intro b10 hf_b10
 replace h := atE (h b10 hf_b10)
 refine sR (.pointer v_26) (r_assign rfl rfl) ?_
 refine sR (.pointer v_26_1) (r_assign rfl rfl) ?_
 refine s_ef0 (k_storeN (vs := v_26_2) rfl rfl sz28 (by decide) ?_)
 obtain ⟨hz1, hz2, c, e, hz3, hz4, hz5, h⟩ := h
 refine ⟨hz1, hz2, c, e, hz3, hz4, hz5, ?_⟩
 replace h := atE h
 refine sR (.bool v_26_3) (r_assign rfl rfl) ?_
 refine HL_nil ?_
 refine HC_seq ?_
 refine cR (sR (.bool v_26_3) (r_move rfl rfl) ?_)
 refine sR (.bool (!v_26_3)) (r_not rfl rfl) ?_
 refine HL_nil ?_
 refine HC_cond (t := (!v_26_3)) rfl (fun hc => ?_) (fun hc => ?_)
 replace h := h.1 hc
 clear hc
 refine cR (sR (.bool false) (r_assign rfl rfl) ?_)
 exact HL_nil (HC_ret (rt1 f5 R rfl rfl h))
 replace h := h.2 hc
 clear hc
 refine HC_skip ?_
 refine HC_seqJ (b5J1 n_0 b5 v_22 R) ?_ ?_
 clear h; rintro E F ⟨s_9, h0, h5, h7, h9, h⟩
 unfold b5j1 at h
 refine cR ?_
 obtain ⟨v_56, hs56, hc56, h⟩ := h
 refine sR (.agg v_56) (w_loadN h5 underlying38 rfl sz38 hs56 hc56) ?_
 refine s_ef (k_call (vs := [(.agg v_56)]) cb22 (evC rfl evN) (h.mono ?_))
 clear h; rintro v F ⟨v_57, rfl, h⟩
 refine sR (Sl.v v_57) (r_assign rfl rfl) ?_
 refine HL_nil ?_
 refine HC_seq ?_
 refine cR (sR (Sl.v v_57) (r_move rfl rfl) ?_)
 refine s_ef (k_call (vs := [(Sl.v v_57)]) cb23 (evC rfl evN) (h.mono ?_))
 clear h; rintro v F ⟨v_59, rfl, h⟩
 refine sR (.bool (!v_59)) (r_not rfl rfl) ?_
 refine sR (.bool (!v_59)) (r_move rfl rfl) ?_
 by_cases hc : (!v_59) = true
 replace h := h.1 hc
 refine kN 60 hc ?_
 refine kN 61 hc ?_
 iterate 3 refine s_skip ?_
 refine sR (.bool true) (r_pt rfl rfl) ?_
 refine HL_nil ?_
 refine HC_condT rfl ?_
 refine cR (sR _ (r_move rfl h7) ?_)
 refine sR (.bool v_22) (r_assign rfl rfl) ?_
 exact HL_nil (HC_ret (rt1 f5 R rfl rfl h))
 replace hc := eq_false_of_ne_true hc; replace h := h.2 hc
 refine kN 60 hc ?_
 refine kN 61 hc ?_
 refine sR (Sl.v v_57) (r_move rfl rfl) ?_
 refine sR (.int .i64 (v_57.len : Int)) (r_lenSl rfl rfl underlying26) ?_
 refine sR (.bool (decide ((v_57.len : Int) = 0))) (w_eql rfl rfl) ?_
 refine sR (.bool (decide ((v_57.len : Int) = 0))) (r_pf rfl rfl) ?_
 refine HL_nil ?_
 refine HC_cond (t := (decide ((v_57.len : Int) = 0))) rfl (fun hc => ?_) (fun hc => ?_)
 replace h := h.1 (of_decide_eq_true hc)
 clear hc
 refine cR (sR _ (r_move rfl h7) ?_)
 refine sR (.bool v_22) (r_assign rfl rfl) ?_
 exact HL_nil (HC_ret (rt1 f5 R rfl rfl h))
 replace h := h.2 (of_decide_eq_false hc)
 clear hc
 refine HC_skip ?_
 refine cR (sR (.int .i64 0) (r_assign rfl rfl) ?_)
 refine HL_nil ?_
 refine HC_seqJ (b5J2 n_0 v_22 s_9 v_57 R) ?_ ?_
 clear h; rintro E F ⟨payload_14, h0, h7, h9, h13, h14, h⟩
 unfold b5j2 at h
 refine cR (sR _ (r_move rfl h9) ?_)
 refine s_ef (k_call (vs := [(.pointer s_9)]) cb18 (evC rfl evN) (h.mono ?_))
 clear h; rintro v F ⟨v_90, rfl, h⟩
 refine sR (.int .i64 v_90) (r_assign rfl rfl) ?_
 refine HL_nil ?_
 refine cR (sR _ (r_move rfl h9) ?_)
 refine s_ef (k_call (vs := [(.pointer s_9)]) cb17 (evC rfl evN) (h.mono ?_))
 clear h; rintro v F ⟨v_92, rfl, h⟩
 refine sR (Sl.v v_92) (r_assign rfl rfl) ?_
 refine HL_nil ?_
 refine cR (sR (.int .i64 0) (r_assign rfl rfl) ?_)
 refine HL_nil ?_
 refine HC_seqJ (b5J3 n_0 v_22 s_9 v_57 payload_14 v_90 v_92 R) ?_ ?_
 clear h; rintro E F ⟨snapshot_18, h0, h7, h9, h13, h14, h16, h17, h18, h⟩
 unfold b5j3 at h
 refine cR (sR _ (r_move rfl h9) ?_)
 refine sR _ (r_move rfl h13) ?_
 refine s_ef (k_call (vs := [(.pointer s_9), (Sl.v v_57)]) cb25 (evC rfl (evC rfl evN)) (h.mono ?_))
 clear h; rintro v F ⟨v_100, rfl, h⟩
 refine sR (.int .i64 v_100) (r_assign rfl rfl) ?_
 refine HL_nil ?_
 refine cR (sR _ (r_move rfl h0) ?_)
 refine s_ef (k_call (vs := [(.int .u8 n_0)]) cb12 (evC rfl evN) (h.mono ?_))
 clear h; rintro v F ⟨v_102, rfl, h⟩
 refine sR (.int .i64 (IntKind.i64.wrap (Int.tdiv v_102 2))) (r_quo rfl rfl rfl (by decide)) ?_
 refine sR (.int .i64 (IntKind.i64.wrap ((IntKind.i64.wrap (Int.tdiv v_102 2)) - 1))) (r_sub rfl rfl rfl) ?_
 refine sR (.int .i64 (IntKind.i64.wrap ((IntKind.i64.wrap (Int.tdiv v_102 2)) - 1))) (r_assign rfl rfl) ?_
 refine HL_nil ?_
 refine HC_seq ?_
 refine cR (sR _ (r_move rfl h14) ?_)
 refine sR _ (r_move rfl h16) ?_
 refine sR (.bool (decide (payload_14 ≤ v_90))) (r_leq rfl rfl rfl) ?_
 refine HL_nil ?_
 refine HC_cond (t := (decide (payload_14 ≤ v_90))) rfl (fun hc => ?_) (fun hc => ?_)
 replace h := h.1 (of_decide_eq_true hc)
 clear hc
 refine cR (sR (.int .i64 v_100) (r_move rfl rfl) ?_)
 refine sR (.bool (decide (v_100 = 0))) (w_eql rfl rfl) ?_
 refine sR (.bool (decide (v_100 = 0))) (r_move rfl rfl) ?_
 by_cases hc : v_100 = 0
 replace h := h.1 hc
 refine kN 109 (decide_eq_true hc) ?_
 refine kN 110 (decide_eq_true hc) ?_
 refine sR _ (r_move rfl h9) ?_
 refine s_ef (k_call (vs := [(.pointer s_9)]) cb18 (evC rfl evN) (h.mono ?_))
 clear h; rintro v F ⟨v_112, rfl, h⟩
 refine sR _ (r_move rfl h16) ?_
 refine sR _ (r_move rfl h13) ?_
 refine s_ef (k_call (vs := [(Sl.v v_57)]) cb24 (evC rfl evN) (h.mono ?_))
 clear h; rintro v F ⟨v_115, rfl, h⟩
 refine sR (.int .i64 (IntKind.i64.wrap (63 * v_115))) (r_mul rfl rfl rfl) ?_
 refine sR (.int .i64 (IntKind.i64.wrap (v_90 - (IntKind.i64.wrap (63 * v_115))))) (r_sub rfl rfl rfl) ?_
 refine sR (.int .i64 (max 0 (IntKind.i64.wrap (v_90 - (IntKind.i64.wrap (63 * v_115)))))) (r_max2 rfl rfl rfl) ?_
 refine sR (.bool (decide (v_112 = (max 0 (IntKind.i64.wrap (v_90 - (IntKind.i64.wrap (63 * v_115)))))))) (w_eql rfl rfl) ?_
 refine sR (.bool (decide (v_112 = (max 0 (IntKind.i64.wrap (v_90 - (IntKind.i64.wrap (63 * v_115)))))))) (r_pt rfl rfl) ?_
 refine sR (.bool (decide (v_112 = (max 0 (IntKind.i64.wrap (v_90 - (IntKind.i64.wrap (63 * v_115)))))))) (r_move rfl rfl) ?_
 by_cases hc : v_112 = (max 0 (IntKind.i64.wrap (v_90 - (IntKind.i64.wrap (63 * v_115)))))
 replace h := h.1 hc
 refine kN 119 (decide_eq_true hc) ?_
 refine kN 120 (decide_eq_true hc) ?_
 refine kN 121 (decide_eq_true hc) ?_
 refine sR _ (r_move rfl h7) ?_
 refine sR (.bool v_22) (r_pt rfl rfl) ?_
 refine sR (.bool v_22) (r_assign rfl rfl) ?_
 exact HL_nil (HC_ret (rt1 f5 R rfl rfl h))
 replace h := h.2 hc
 refine kN 119 (decide_eq_false hc) ?_
 refine kN 120 (decide_eq_false hc) ?_
 refine kN 121 (decide_eq_false hc) ?_
 refine s_skip ?_
 refine sR (.bool false) (r_pf rfl rfl) ?_
 refine sR (.bool false) (r_assign rfl rfl) ?_
 exact HL_nil (HC_ret (rt1 f5 R rfl rfl h))
 replace h := h.2 hc
 refine kN 109 (decide_eq_false hc) ?_
 refine kN 110 (decide_eq_false hc) ?_
 iterate 9 refine s_skip ?_
 refine sR (.bool false) (r_pf rfl rfl) ?_
 refine sR (.bool false) (r_move rfl rfl) ?_
 refine s_skip ?_
 refine sR (.bool false) (r_pf rfl rfl) ?_
 refine sR (.bool false) (r_assign rfl rfl) ?_
 exact HL_nil (HC_ret (rt1 f5 R rfl rfl h))
 replace h := h.2 (of_decide_eq_false hc)
 clear hc
 refine HC_skip ?_
 refine cR (sR _ (r_move rfl h18) ?_)
 refine sR _ (r_move rfl h13) ?_
 refine s_ef (k_call (vs := [(Sl.v v_57)]) cb24 (evC rfl evN) (h.mono ?_))
 clear h; rintro v F ⟨v_126, rfl, h⟩
 refine sR (.int .i64 (IntKind.i64.wrap (snapshot_18 + v_126))) (r_add rfl rfl rfl) ?_
 refine sR (.int .i64 (IntKind.i64.wrap ((IntKind.i64.wrap (Int.tdiv v_102 2)) - 1))) (r_move rfl rfl) ?_
 refine sR (.bool (decide ((IntKind.i64.wrap (snapshot_18 + v_126)) ≤ (IntKind.i64.wrap ((IntKind.i64.wrap (Int.tdiv v_102 2)) - 1))))) (r_leq rfl rfl rfl) ?_
 refine sR (.bool (decide ((IntKind.i64.wrap (snapshot_18 + v_126)) ≤ (IntKind.i64.wrap ((IntKind.i64.wrap (Int.tdiv v_102 2)) - 1))))) (r_assign rfl rfl) ?_
 refine HL_nil ?_
 refine HC_seq ?_
 refine cR (sR (.bool (decide ((IntKind.i64.wrap (snapshot_18 + v_126)) ≤ (IntKind.i64.wrap ((IntKind.i64.wrap (Int.tdiv v_102 2)) - 1))))) (r_move rfl rfl) ?_)
 refine sR (.bool (decide (¬ ((IntKind.i64.wrap (snapshot_18 + v_126)) ≤ (IntKind.i64.wrap ((IntKind.i64.wrap (Int.tdiv v_102 2)) - 1)))))) (w_notD rfl) ?_
 refine HL_nil ?_
 refine HC_cond (t := (decide (¬ ((IntKind.i64.wrap (snapshot_18 + v_126)) ≤ (IntKind.i64.wrap ((IntKind.i64.wrap (Int.tdiv v_102 2)) - 1)))))) rfl (fun hc => ?_) (fun hc => ?_)
 replace h := h.1 (of_decide_eq_true hc)
 clear hc
 refine cR (sR (.int .i64 v_100) (r_move rfl rfl) ?_)
 refine sR (.bool (decide (v_100 = 351))) (w_eql rfl rfl) ?_
 refine sR (.bool (decide (v_100 = 351))) (r_move rfl rfl) ?_
 by_cases hc : v_100 = 351
 replace h := h.1 hc
 refine kN 133 (decide_eq_true hc) ?_
 refine kN 134 (decide_eq_true hc) ?_
 refine sR _ (r_move rfl h9) ?_
 refine s_ef (k_call (vs := [(.pointer s_9)]) cb17 (evC rfl evN) (h.mono ?_))
 clear h; rintro v F ⟨v_136, rfl, h⟩
 refine sR _ (r_move rfl h17) ?_
 refine s_ef (k_call (vs := [(Sl.v v_136), (Sl.v v_92)]) cb21 (evC rfl (evC rfl evN)) (h.mono ?_))
 clear h; rintro v F ⟨v_138, rfl, h⟩
 refine sR (.bool v_138) (r_pt rfl rfl) ?_
 refine sR (.bool v_138) (r_move rfl rfl) ?_
 by_cases hc : v_138 = true
 replace h := h.1 hc
 refine kN 138 hc ?_
 refine kN 139 hc ?_
 refine kN 140 hc ?_
 refine sR _ (r_move rfl h9) ?_
 refine s_ef (k_call (vs := [(.pointer s_9)]) cb18 (evC rfl evN) (h.mono ?_))
 clear h; rintro v F ⟨v_142, rfl, h⟩
 refine sR _ (r_move rfl h16) ?_
 refine sR (.bool (decide (v_142 = v_90))) (w_eql rfl rfl) ?_
 refine sR (.bool (decide (v_142 = v_90))) (r_pt rfl rfl) ?_
 refine sR (.bool (decide (v_142 = v_90))) (r_move rfl rfl) ?_
 by_cases hc : v_142 = v_90
 replace h := h.1 hc
 refine kN 144 (decide_eq_true hc) ?_
 refine kN 145 (decide_eq_true hc) ?_
 refine kN 146 (decide_eq_true hc) ?_
 refine sR _ (r_move rfl h7) ?_
 refine sR (.bool v_22) (r_pt rfl rfl) ?_
 refine sR (.bool v_22) (r_assign rfl rfl) ?_
 exact HL_nil (HC_ret (rt1 f5 R rfl rfl h))
 replace h := h.2 hc
 refine kN 144 (decide_eq_false hc) ?_
 refine kN 145 (decide_eq_false hc) ?_
 refine kN 146 (decide_eq_false hc) ?_
 refine s_skip ?_
 refine sR (.bool false) (r_pf rfl rfl) ?_
 refine sR (.bool false) (r_assign rfl rfl) ?_
 exact HL_nil (HC_ret (rt1 f5 R rfl rfl h))
 replace hc := eq_false_of_ne_true hc; replace h := h.2 hc
 refine kN 138 hc ?_
 refine kN 139 hc ?_
 refine kN 140 hc ?_
 iterate 4 refine s_skip ?_
 refine sR (.bool false) (r_pf rfl rfl) ?_
 refine sR (.bool false) (r_move rfl rfl) ?_
 refine s_skip ?_
 refine sR (.bool false) (r_pf rfl rfl) ?_
 refine sR (.bool false) (r_assign rfl rfl) ?_
 exact HL_nil (HC_ret (rt1 f5 R rfl rfl h))
 replace h := h.2 hc
 refine kN 133 (decide_eq_false hc) ?_
 refine kN 134 (decide_eq_false hc) ?_
 iterate 4 refine s_skip ?_
 refine sR (.bool false) (r_pf rfl rfl) ?_
 refine sR (.bool false) (r_move rfl rfl) ?_
 iterate 4 refine s_skip ?_
 refine sR (.bool false) (r_pf rfl rfl) ?_
 refine sR (.bool false) (r_move rfl rfl) ?_
 refine s_skip ?_
 refine sR (.bool false) (r_pf rfl rfl) ?_
 refine sR (.bool false) (r_assign rfl rfl) ?_
 exact HL_nil (HC_ret (rt1 f5 R rfl rfl h))
 replace h := h.2 (of_decide_eq_false hc)
 clear hc
 refine HC_skip ?_
 refine cR (sR (.int .i64 v_100) (r_move rfl rfl) ?_)
 refine sR (.bool (decide (v_100 = 0))) (w_eql rfl rfl) ?_
 refine sR (.bool (decide (v_100 = 0))) (r_move rfl rfl) ?_
 by_cases hc : v_100 = 0
 replace h := h.1 hc
 refine kN 150 (decide_eq_true hc) ?_
 refine kN 151 (decide_eq_true hc) ?_
 refine sR _ (r_move rfl h9) ?_
 refine s_ef (k_call (vs := [(.pointer s_9)]) cb18 (evC rfl evN) (h.mono ?_))
 clear h; rintro v F ⟨v_153, rfl, h⟩
 refine sR (.int .i64 (IntKind.i64.wrap ((IntKind.i64.wrap (Int.tdiv v_102 2)) - 1))) (r_move rfl rfl) ?_
 refine sR _ (r_move rfl h18) ?_
 refine sR (.int .i64 (IntKind.i64.wrap ((IntKind.i64.wrap ((IntKind.i64.wrap (Int.tdiv v_102 2)) - 1)) - snapshot_18))) (r_sub rfl rfl rfl) ?_
 refine sR _ (r_move rfl h13) ?_
 refine s_ef (k_call (vs := [(Sl.v v_57)]) cb24 (evC rfl evN) (h.mono ?_))
 clear h; rintro v F ⟨v_158, rfl, h⟩
 refine sR (.int .i64 (IntKind.i64.wrap ((IntKind.i64.wrap ((IntKind.i64.wrap ((IntKind.i64.wrap (Int.tdiv v_102 2)) - 1)) - snapshot_18)) - v_158))) (r_sub rfl rfl rfl) ?_
 refine sR (.int .i64 (IntKind.i64.wrap ((IntKind.i64.wrap ((IntKind.i64.wrap ((IntKind.i64.wrap ((IntKind.i64.wrap (Int.tdiv v_102 2)) - 1)) - snapshot_18)) - v_158)) - 1))) (r_sub rfl rfl rfl) ?_
 refine sR (.int .i64 (IntKind.i64.wrap (63 * (IntKind.i64.wrap ((IntKind.i64.wrap ((IntKind.i64.wrap ((IntKind.i64.wrap ((IntKind.i64.wrap (Int.tdiv v_102 2)) - 1)) - snapshot_18)) - v_158)) - 1))))) (r_mul rfl rfl rfl) ?_
 refine sR (.int .i64 (max 0 (IntKind.i64.wrap (63 * (IntKind.i64.wrap ((IntKind.i64.wrap ((IntKind.i64.wrap ((IntKind.i64.wrap ((IntKind.i64.wrap (Int.tdiv v_102 2)) - 1)) - snapshot_18)) - v_158)) - 1)))))) (r_max2 rfl rfl rfl) ?_
 refine sR (.bool (decide (v_153 = (max 0 (IntKind.i64.wrap (63 * (IntKind.i64.wrap ((IntKind.i64.wrap ((IntKind.i64.wrap ((IntKind.i64.wrap ((IntKind.i64.wrap (Int.tdiv v_102 2)) - 1)) - snapshot_18)) - v_158)) - 1)))))))) (w_eql rfl rfl) ?_
 refine sR (.bool (decide (v_153 = (max 0 (IntKind.i64.wrap (63 * (IntKind.i64.wrap ((IntKind.i64.wrap ((IntKind.i64.wrap ((IntKind.i64.wrap ((IntKind.i64.wrap (Int.tdiv v_102 2)) - 1)) - snapshot_18)) - v_158)) - 1)))))))) (r_pt rfl rfl) ?_
 refine sR (.bool (decide (v_153 = (max 0 (IntKind.i64.wrap (63 * (IntKind.i64.wrap ((IntKind.i64.wrap ((IntKind.i64.wrap ((IntKind.i64.wrap ((IntKind.i64.wrap (Int.tdiv v_102 2)) - 1)) - snapshot_18)) - v_158)) - 1)))))))) (r_move rfl rfl) ?_
 by_cases hc : v_153 = (max 0 (IntKind.i64.wrap (63 * (IntKind.i64.wrap ((IntKind.i64.wrap ((IntKind.i64.wrap ((IntKind.i64.wrap ((IntKind.i64.wrap (Int.tdiv v_102 2)) - 1)) - snapshot_18)) - v_158)) - 1)))))
 replace h := h.1 hc
 refine kN 163 (decide_eq_true hc) ?_
 refine kN 164 (decide_eq_true hc) ?_
 refine kN 165 (decide_eq_true hc) ?_
 refine sR _ (r_move rfl h7) ?_
 refine sR (.bool v_22) (r_pt rfl rfl) ?_
 refine sR (.bool v_22) (r_assign rfl rfl) ?_
 exact HL_nil (HC_ret (rt1 f5 R rfl rfl h))
 replace h := h.2 hc
 refine kN 163 (decide_eq_false hc) ?_
 refine kN 164 (decide_eq_false hc) ?_
 refine kN 165 (decide_eq_false hc) ?_
 refine s_skip ?_
 refine sR (.bool false) (r_pf rfl rfl) ?_
 refine sR (.bool false) (r_assign rfl rfl) ?_
 exact HL_nil (HC_ret (rt1 f5 R rfl rfl h))
 replace h := h.2 hc
 refine kN 150 (decide_eq_false hc) ?_
 refine kN 151 (decide_eq_false hc) ?_
 iterate 12 refine s_skip ?_
 refine sR (.bool false) (r_pf rfl rfl) ?_
 refine sR (.bool false) (r_move rfl rfl) ?_
 refine s_skip ?_
 refine sR (.bool false) (r_pf rfl rfl) ?_
 refine sR (.bool false) (r_assign rfl rfl) ?_
 exact HL_nil (HC_ret (rt1 f5 R rfl rfl h))
 refine cR (sR (Sl.v v_92) (r_move rfl rfl) ?_)
 refine sR (.int .i64 (v_92.len : Int)) (r_lenSl rfl rfl underlying26) ?_
 refine sR (.bool (decide ((0 : Int) < (v_92.len : Int)))) (r_gtr rfl rfl rfl) ?_
 refine HL_nil ?_
 refine HC_cond (t := (decide ((0 : Int) < (v_92.len : Int)))) rfl (fun hc => ?_) (fun hc => ?_)
 replace h := h.1 (of_decide_eq_true hc)
 clear hc
 refine HC_region ?_
 refine sR (Sl.v v_92) (r_move rfl rfl) ?_
 refine s_ef (k_call (vs := [(Sl.v v_92)]) cb24 (evC rfl evN) (h.mono ?_))
 clear h; rintro v F ⟨v_97, rfl, h⟩
 refine sR (.int .i64 v_97) (r_assign rfl rfl) ?_
 refine HL_nil ?_
 show b5J3 n_0 v_22 s_9 v_57 payload_14 v_90 v_92 R _ _
 exact ⟨_, h0, h7, h9, h13, h14, rfl, rfl, rfl, h⟩
 replace h := h.2 (of_decide_eq_false hc)
 clear hc
 refine HC_skip ?_
 show b5J3 n_0 v_22 s_9 v_57 payload_14 v_90 v_92 R _ _
 exact ⟨_, h0, h7, h9, h13, h14, rfl, rfl, rfl, h⟩
 refine cR (sR (.int .i64 0) (r_assign rfl rfl) ?_)
 refine HL_nil ?_
 refine HC_block ?_
 obtain ⟨I1, m1, hI0, hr⟩ := h
 refine HC_loop (fun m1 E F => ∃ payload_14_1 : Int, ∃ i_15 : Int, E 0 = (.int .u8 n_0) ∧ E 7 = (.bool v_22) ∧ E 9 = (.pointer s_9) ∧ E 13 = (Sl.v v_57) ∧ E 14 = (.int .i64 payload_14_1) ∧ E 15 = (.int .i64 i_15) ∧ I1 m1 payload_14_1 i_15 F) m1 ⟨_, _, h0, h7, h9, rfl, rfl, rfl, hI0⟩ ?_
 clear hI0; rintro m1 E F ⟨payload_14_1, i_15, h0, h7, h9, h13, h14, h15, hI⟩
 have h := hr m1 payload_14_1 i_15 F hI
 clear hr hI
 unfold b5L1 at h
 refine HC_seq ?_
 refine cR (sR _ (r_move rfl h15) ?_)
 refine sR _ (r_move rfl h13) ?_
 refine sR (.int .i64 (v_57.len : Int)) (r_lenSl rfl rfl underlying26) ?_
 refine sR (.bool (decide (i_15 < (v_57.len : Int)))) (r_lss rfl rfl rfl) ?_
 refine HL_nil ?_
 refine HC_cond (t := (decide (i_15 < (v_57.len : Int)))) rfl (fun hc => ?_) (fun hc => ?_)
 replace h := h.1 (of_decide_eq_true hc)
 clear hc
 refine HC_skip ?_
 refine HC_seq ?_
 refine HC_block ?_
 refine HC_draw0 (by kernel_rfl) (fun hp => ?_)
 refine gU 0 (.int .i64 payload_14_1) rfl (fun _ => r_move rfl h14) hp ?_
 refine gU 1 (Sl.v v_57) rfl (fun _ => r_move rfl h13) hp ?_
 refine gU 2 (.int .i64 i_15) rfl (fun _ => r_move rfl h15) hp ?_
 obtain ⟨a76_, hb76, hl76, hu76, h⟩ := h
 refine gU 3 (.pointer (some (Addr.add a76_ (Int.toNat i_15 * 2)))) rfl (fun _ => w_indexAddr rfl rfl underlying26 sz41 hb76 hl76 hu76) hp ?_
 refine gU 4 (.pointer (some (Addr.add a76_ (Int.toNat i_15 * 2)))) rfl (fun _ => w_fieldAddr rfl underlying41 rfl rfl sz9 rfl rfl) hp ?_
 obtain ⟨v_78, hc78, h⟩ := h
 refine gR 5 (.string v_78) rfl (r_load1 rfl rfl underlying9 rfl hc78) hp (fun S5 q5 => ?_)
 replace hp := holdC (i := 5) (q5 _ (r_load1 rfl rfl underlying9 rfl hc78)) hp
 refine gU 6 (.int .i64 (v_78.size : Int)) rfl (fun _ => r_lenStr rfl rfl underlying9) hp ?_
 refine gU 7 (Sl.v v_57) rfl (fun _ => r_move rfl h13) hp ?_
 refine gU 8 (.int .i64 i_15) rfl (fun _ => r_move rfl h15) hp ?_
 obtain ⟨a82_, hb82, hl82, hu82, h⟩ := h
 refine gU 9 (.pointer (some (Addr.add a82_ (Int.toNat i_15 * 2)))) rfl (fun _ => w_indexAddr rfl rfl underlying26 sz41 hb82 hl82 hu82) hp ?_
 refine gU 10 (.pointer (some (Addr.add (Addr.add a82_ (Int.toNat i_15 * 2)) 1))) rfl (fun _ => w_fieldAddr rfl underlying41 rfl rfl sz39 rfl rfl) hp ?_
 obtain ⟨v_84, hc84, h⟩ := h
 refine gR 11 (Sl.v v_84) rfl (r_load1 rfl rfl underlying39 rfl hc84) hp (fun S11 q11 => ?_)
 replace hp := holdC (i := 11) (q11 _ (r_load1 rfl rfl underlying39 rfl hc84)) hp
 refine gU 12 (.int .i64 (v_84.len : Int)) rfl (fun _ => r_lenSl rfl rfl underlying39) hp ?_
 refine gU 13 (.int .i64 (IntKind.i64.wrap ((v_78.size : Int) + (v_84.len : Int)))) rfl (fun _ => r_add rfl rfl rfl) hp ?_
 refine gU 14 (.int .i64 (IntKind.i64.wrap ((IntKind.i64.wrap ((v_78.size : Int) + (v_84.len : Int))) + 5))) rfl (fun _ => r_add rfl rfl rfl) hp ?_
 refine gU 15 (.int .i64 (IntKind.i64.wrap (payload_14_1 + (IntKind.i64.wrap ((IntKind.i64.wrap ((v_78.size : Int) + (v_84.len : Int))) + 5))))) rfl (fun _ => r_add rfl rfl rfl) hp ?_
 refine gU 16 (.int .i64 (IntKind.i64.wrap (payload_14_1 + (IntKind.i64.wrap ((IntKind.i64.wrap ((v_78.size : Int) + (v_84.len : Int))) + 5))))) rfl (fun _ => r_assign rfl rfl) hp ?_
 refine RG_done (by kernel_rfl) ?_
 refine HC_region ?_
 refine sR _ (r_move rfl h15) ?_
 refine sR (.int .i64 (IntKind.i64.wrap (i_15 + 1))) (r_add rfl rfl rfl) ?_
 refine sR (.int .i64 (IntKind.i64.wrap (i_15 + 1))) (r_assign rfl rfl) ?_
 refine HL_nil ?_
 obtain ⟨m', hm, h⟩ := h
 exact ⟨m', hm, _, _, h0, h7, h9, h13, rfl, rfl, h⟩
 replace h := h.2 (of_decide_eq_false hc)
 clear hc
 refine HC_exit ?_
 show b5J2 n_0 v_22 s_9 v_57 R _ _
 exact ⟨_, h0, h7, h9, h13, h14, h⟩
 refine cR (sR (.int .i64 0) (r_assign rfl rfl) ?_)
 refine HL_nil ?_
 refine HC_block ?_
 obtain ⟨I2, m2, hI0, hr⟩ := h
 refine HC_loop (fun m2 E F => ∃ s_9_1 : Option Addr, ∃ i_12 : Int, E 0 = (.int .u8 n_0) ∧ E 1 = (Sl.v l_1) ∧ E 5 = (.pointer (some (Addr.mk b5 0 none))) ∧ E 7 = (.bool v_22) ∧ E 8 = (.pointer v_26) ∧ E 9 = (.pointer s_9_1) ∧ E 10 = (.pointer (some (Addr.mk b10 0 none))) ∧ E 12 = (.int .i64 i_12) ∧ I2 m2 s_9_1 i_12 F) m2 ⟨_, _, rfl, rfl, rfl, rfl, rfl, rfl, rfl, rfl, hI0⟩ ?_
 clear hI0; rintro m2 E F ⟨s_9_1, i_12, h0, h1, h5, h7, h8, h9, h10, h12, hI⟩
 have h := hr m2 s_9_1 i_12 F hI
 clear hr hI
 unfold b5L2 at h
 refine HC_seq ?_
 refine cR (sR _ (r_move rfl h12) ?_)
 refine sR _ (r_move rfl h1) ?_
 refine sR (.int .i64 (l_1.len : Int)) (r_lenSl rfl rfl underlying22) ?_
 refine sR (.bool (decide (i_12 < (l_1.len : Int)))) (r_lss rfl rfl rfl) ?_
 refine sR (.bool (decide (i_12 < (l_1.len : Int)))) (r_move rfl rfl) ?_
 by_cases hc : i_12 < (l_1.len : Int)
 replace h := h.1 hc
 refine kN 36 (decide_eq_true hc) ?_
 refine kN 37 (decide_eq_true hc) ?_
 refine sR _ (r_move rfl h12) ?_
 refine sR (.bool (decide (i_12 < 20))) (r_lss rfl rfl rfl) ?_
 refine sR (.bool (decide (i_12 < 20))) (r_pt rfl rfl) ?_
 refine HL_nil ?_
 refine HC_cond (t := (decide (i_12 < 20))) rfl (fun hc => ?_) (fun hc => ?_)
 replace h := h.1 (of_decide_eq_true hc)
 clear hc
 refine HC_skip ?_
 refine HC_seq ?_
 refine HC_block ?_
 refine HC_draw0 (by kernel_rfl) (fun hp => ?_)
 refine gU 0 (.pointer v_26) rfl (fun _ => r_move rfl h8) hp ?_
 refine gU 1 (.pointer s_9_1) rfl (fun _ => r_move rfl h9) hp ?_
 obtain ⟨v_46, hs46, hc46, h⟩ := h
 refine gR 2 (.agg v_46) rfl (w_loadN h10 underlying28 rfl sz28 hs46 hc46) hp (fun S2 q2 => ?_)
 replace hp := holdC (i := 2) (q2 _ (w_loadN h10 underlying28 rfl sz28 hs46 hc46)) hp
 refine gU 3 (Sl.v l_1) rfl (fun _ => r_move rfl h1) hp ?_
 refine gU 4 (.int .i64 i_12) rfl (fun _ => r_move rfl h12) hp ?_
 obtain ⟨a49_, hb49, hl49, hu49, h⟩ := h
 refine gU 5 (.pointer (some (Addr.add a49_ (Int.toNat i_12 * 2)))) rfl (fun _ => w_indexAddr rfl rfl underlying22 sz38 hb49 hl49 hu49) hp ?_
 obtain ⟨v_50, hs50, hc50, h⟩ := h
 refine gR 6 (.agg v_50) rfl (w_loadN rfl underlying38 rfl sz38 hs50 hc50) hp (fun S6 q6 => ?_)
 replace hp := holdC (i := 6) (q6 _ (w_loadN rfl underlying38 rfl sz38 hs50 hc50)) hp
 refine RG_eff1 (i := 7) (by kernel_rfl) (g_op (Sp' := []) rfl rfl (k_call (vs := [(.pointer v_26), (.pointer s_9_1), (.agg v_46), (.agg v_50)]) cb14 (evC rfl (evC rfl (evC rfl (evC rfl evN)))) (h.mono ?_)))
 clear h; rintro v F ⟨v_51, v_51_1, v_51_2, v_51_3, rfl, h⟩
 refine holdI hold0 (fun hp => ?_)
 refine gU 8 (.tuple #[(.pointer v_51), (.agg v_51_1), (.int .i64 v_51_2), (.bool v_51_3)]) rfl (fun _ => r_move rfl rfl) hp ?_
 refine gU 9 (.pointer v_51) rfl (fun _ => r_extract rfl rfl rfl) hp ?_
 refine gU 10 (.agg v_51_1) rfl (fun _ => r_extract rfl rfl rfl) hp ?_
 refine gU 11 (.int .i64 v_51_2) rfl (fun _ => r_extract rfl rfl rfl) hp ?_
 refine gU 12 (.bool v_51_3) rfl (fun _ => r_extract rfl rfl rfl) hp ?_
 refine gU 13 (.pointer v_51) rfl (fun _ => r_assign rfl rfl) hp ?_
 refine RG_eff1 (i := 14) (by kernel_rfl) (g_op0 (Sp' := []) rfl rfl (k_storeN (vs := v_51_1) h10 rfl sz28 (by decide) ?_))
 obtain ⟨hz1, hz2, c, e, hz3, hz4, hz5, h⟩ := h
 refine ⟨hz1, hz2, c, e, hz3, hz4, hz5, ?_⟩
 replace h := atE h
 refine holdI hold0 (fun hp => ?_)
 refine RG_done (by kernel_rfl) ?_
 refine HC_region ?_
 refine sR _ (r_move rfl h12) ?_
 refine sR (.int .i64 (IntKind.i64.wrap (i_12 + 1))) (r_add rfl rfl rfl) ?_
 refine sR (.int .i64 (IntKind.i64.wrap (i_12 + 1))) (r_assign rfl rfl) ?_
 refine HL_nil ?_
 obtain ⟨m', hm, h⟩ := h
 exact ⟨m', hm, _, _, h0, h1, h5, h7, h8, rfl, h10, rfl, h⟩
 replace h := h.2 (of_decide_eq_false hc)
 clear hc
 refine HC_exit ?_
 show b5J1 n_0 b5 v_22 R _ _
 exact ⟨_, h0, h5, h7, h9, h⟩
 replace h := h.2 hc
 refine kN 36 (decide_eq_false hc) ?_
 refine kN 37 (decide_eq_false hc) ?_
 iterate 2 refine s_skip ?_
 refine sR (.bool false) (r_pf rfl rfl) ?_
 refine HL_nil ?_
 refine HC_condF rfl ?_
 refine HC_exit ?_
 show b5J1 n_0 b5 v_22 R _ _
 exact ⟨_, h0, h5, h7, h9, h⟩
end Go.Proofs.Ytelkfnmdnbbniaa
