/-
  What functions of the program do, in a clean form, each with the proof that its code does so. Printed by a program.
-/
import Derived.Test.YtelkfnmdnbbniaaGf
import Derived.Test.YtelkfnmdnbbniaaPhp
namespace Go.Proofs.Ytelkfnmdnbbniaa
open Go Go.Proofs.Try
set_option maxRecDepth 10000
set_option maxHeartbeats 4000000
/- 3 koine.koinelaw35.StoreMatchesReference -/
def b3j2 (v_22 : Bool) (R : VP) (F : PH) :=
 R (.bool v_22) F
abbrev b3J2 (v_22 : Bool) (R : VP) (E : En) (F : PH) : Prop := E 5 = (.bool v_22) ∧ b3j2 v_22 R F
def b3j3 (N1 : Int → PH → Prop) (v_22 : Bool) (s_7 : Option Addr) (b8 : Nat) (k_15 : Int) (R : VP) (F : PH) :=
 N1 (IntKind.i64.wrap (k_15 + 1)) F
abbrev b3J3 (N1 : Int → PH → Prop) (v_22 : Bool) (s_7 : Option Addr) (b8 : Nat) (k_15 : Int) (R : VP) (E : En) (F : PH) : Prop := E 5 = (.bool v_22) ∧ E 7 = (.pointer s_7) ∧ E 8 = (.pointer (some (Addr.mk b8 0 none))) ∧ E 15 = (.int .i64 k_15) ∧ b3j3 N1 v_22 s_7 b8 k_15 R F
def b3j4 (N1 : Int → PH → Prop) (v_22 : Bool) (s_7 : Option Addr) (b8 : Nat) (k_15 : Int) (v_88 : Sl) (v_88_1 : Bool) (want_19 : Sl) (known_20 : Bool) (R : VP) (F : PH) :=
 (((!(v_88_1 == known_20)) = true →
  R (.bool false) F) ∧
 ((!(v_88_1 == known_20)) = false →
  ∃ v_117 : ByteArray, rdo prog (Conv.bytesToString (Sl.v v_88)) F (.string v_117) ∧
  ∃ v_119 : ByteArray, rdo prog (Conv.bytesToString (Sl.v want_19)) F (.string v_119) ∧
  (((!(v_117.toList == v_119.toList)) = true →
   R (.bool false) F) ∧
  ((!(v_117.toList == v_119.toList)) = false →
   b3j3 N1 v_22 s_7 b8 k_15 R F))))
abbrev b3J4 (N1 : Int → PH → Prop) (v_22 : Bool) (s_7 : Option Addr) (b8 : Nat) (k_15 : Int) (v_88 : Sl) (v_88_1 : Bool) (R : VP) (E : En) (F : PH) : Prop := ∃ want_19 : Sl, ∃ known_20 : Bool, E 5 = (.bool v_22) ∧ E 7 = (.pointer s_7) ∧ E 8 = (.pointer (some (Addr.mk b8 0 none))) ∧ E 15 = (.int .i64 k_15) ∧ E 17 = (Sl.v v_88) ∧ E 18 = (.bool v_88_1) ∧ E 19 = (Sl.v want_19) ∧ E 20 = (.bool known_20) ∧ b3j4 N1 v_22 s_7 b8 k_15 v_88 v_88_1 want_19 known_20 R F
def b3j5 (N1 : Int → PH → Prop) (N2 : Sl → Bool → Int → PH → Prop) (v_22 : Bool) (s_7 : Option Addr) (b8 : Nat) (k_15 : Int) (v_84 : ByteArray) (v_88 : Sl) (v_88_1 : Bool) (i_21 : Int) (want_19_2 : Sl) (known_20_2 : Bool) (R : VP) (F : PH) :=
 N2 want_19_2 known_20_2 (IntKind.i64.wrap (i_21 + 1)) F
abbrev b3J5 (N1 : Int → PH → Prop) (N2 : Sl → Bool → Int → PH → Prop) (v_22 : Bool) (s_7 : Option Addr) (b8 : Nat) (k_15 : Int) (v_84 : ByteArray) (v_88 : Sl) (v_88_1 : Bool) (i_21 : Int) (R : VP) (E : En) (F : PH) : Prop := ∃ want_19_2 : Sl, ∃ known_20_2 : Bool, E 5 = (.bool v_22) ∧ E 7 = (.pointer s_7) ∧ E 8 = (.pointer (some (Addr.mk b8 0 none))) ∧ E 15 = (.int .i64 k_15) ∧ E 16 = (.string v_84) ∧ E 17 = (Sl.v v_88) ∧ E 18 = (.bool v_88_1) ∧ E 19 = (Sl.v want_19_2) ∧ E 20 = (.bool known_20_2) ∧ E 21 = (.int .i64 i_21) ∧ b3j5 N1 N2 v_22 s_7 b8 k_15 v_84 v_88 v_88_1 i_21 want_19_2 known_20_2 R F
def b3L2 (N1 : Int → PH → Prop) (N2 : Sl → Bool → Int → PH → Prop) (v_22 : Bool) (s_7 : Option Addr) (b8 : Nat) (k_15 : Int) (v_84 : ByteArray) (v_88 : Sl) (v_88_1 : Bool) (R : VP) (want_19_1 : Sl) (known_20_1 : Bool) (i_21 : Int) (F : PH) :=
 ∃ v_93 : Sl, F.cell (Addr.mk b8 2 none) = some (Sl.v v_93) ∧
 ((i_21 < (v_93.len : Int) →
  ∃ v_99 : Sl, F.cell (Addr.mk b8 2 none) = some (Sl.v v_99) ∧
  ∃ a101_ : Addr, v_99.base = some a101_ ∧ 0 ≤ i_21 ∧ i_21 < (v_99.len : Int) ∧
  ∃ v_103 : ByteArray, F.cell (Addr.add a101_ (Int.toNat i_21 * 2)) = some (.string v_103) ∧
  (((v_103.toList == v_84.toList) = true →
   ∃ v_107 : Sl, F.cell (Addr.mk b8 2 none) = some (Sl.v v_107) ∧
   ∃ a109_ : Addr, v_107.base = some a109_ ∧ 0 ≤ i_21 ∧ i_21 < (v_107.len : Int) ∧
   ∃ v_111 : Sl, F.cell (Addr.add (Addr.add a109_ (Int.toNat i_21 * 2)) 1) = some (Sl.v v_111) ∧
   b3j5 N1 N2 v_22 s_7 b8 k_15 v_84 v_88 v_88_1 i_21 v_111 true R F) ∧
  ((v_103.toList == v_84.toList) = false →
   b3j5 N1 N2 v_22 s_7 b8 k_15 v_84 v_88 v_88_1 i_21 want_19_1 known_20_1 R F))) ∧
 (¬ (i_21 < (v_93.len : Int)) →
  b3j4 N1 v_22 s_7 b8 k_15 v_88 v_88_1 want_19_1 known_20_1 R F))
def b3L1 (N1 : Int → PH → Prop) (v_22 : Bool) (s_7 : Option Addr) (b8 : Nat) (R : VP) (k_15 : Int) (F : PH) :=
 ((k_15 < 6 →
  Spec prog 15 #[(.agg (#[(.int .u8 (IntKind.u8.wrap k_15)), .int .u8 0, .int .u8 0] : Array Value))] F fun v F => ∃ v_83 : Array Value, v = (.agg v_83) ∧
  ∃ v_84 : ByteArray, v_83[0]? = some (.string v_84) ∧
  Spec prog 16 #[(.pointer s_7), (.string v_84)] F fun v F => ∃ v_88 : Sl, ∃ v_88_1 : Bool, v = (.tuple #[(Sl.v v_88), (.bool v_88_1)]) ∧
  (∃ (I2 : Nat → Sl → Bool → Int → PH → Prop) (m2 : Nat), I2 m2 Sl.nil false 0 F ∧ ∀ m2 want_19_1 known_20_1 i_21 F, I2 m2 want_19_1 known_20_1 i_21 F →
   b3L2 N1 (nx3 I2 m2) v_22 s_7 b8 k_15 v_84 v_88 v_88_1 R want_19_1 known_20_1 i_21 F)) ∧
 (¬ (k_15 < 6) →
  b3j2 v_22 R F))
def b3j1 (v_22 : Bool) (b8 : Nat) (s_7 : Option Addr) (R : VP) (F : PH) :=
 (∃ (I1 : Nat → Int → PH → Prop) (m1 : Nat), I1 m1 0 F ∧ ∀ m1 k_15 F, I1 m1 k_15 F →
  b3L1 (nx1 I1 m1) v_22 s_7 b8 R k_15 F)
abbrev b3J1 (v_22 : Bool) (b8 : Nat) (R : VP) (E : En) (F : PH) : Prop := ∃ s_7 : Option Addr, E 5 = (.bool v_22) ∧ E 7 = (.pointer s_7) ∧ E 8 = (.pointer (some (Addr.mk b8 0 none))) ∧ b3j1 v_22 b8 s_7 R F
def b3j6 (N3 : Option Addr → Int → PH → Prop) (l_1 : Sl) (v_22 : Bool) (v_26 : Option Addr) (b8 : Nat) (i_10 : Int) (t_11 : Option Addr) (next_12 : Option Addr) (e_13 : Int) (fine_14 : Bool) (R : VP) (F : PH) :=
 (((!fine_14) = true →
  R (.bool false) F) ∧
 ((!fine_14) = false →
  ((e_13 = 340 →
   R (.bool false) F) ∧
  (¬ (e_13 = 340) →
   ∃ next12a_ : Addr, next_12 = some next12a_ ∧ ∃ v_70 : Array Value, v_70.size = 3 ∧ F.row next12a_ v_70 ∧
   Spec prog 13 #[(.pointer t_11), (.agg v_70)] F fun v F => ∃ v_71 : Bool, v = (.bool v_71) ∧
   (((!v_71) = true →
    R (.bool false) F) ∧
   ((!v_71) = false →
    ∃ v_75 : Array Value, v_75.size = 3 ∧ F.row next12a_ v_75 ∧
    v_75.size = 3 ∧ (∀ v ∈ v_75.toList, storable v) ∧ ∃ c e, F (Addr.mk b8 0 none).block = some (.cells c e (0, 0)) ∧ (Addr.mk b8 0 none).spot = none ∧ (Addr.mk b8 0 none).off + 3 ≤ c.size ∧
    atF (F.set (Addr.mk b8 0 none).block (.cells (wr c (Addr.mk b8 0 none).off v_75.toList) e)) fun F =>
    N3 t_11 (IntKind.i64.wrap (i_10 + 1)) F))))))
abbrev b3J6 (N3 : Option Addr → Int → PH → Prop) (l_1 : Sl) (v_22 : Bool) (v_26 : Option Addr) (b8 : Nat) (i_10 : Int) (R : VP) (E : En) (F : PH) : Prop := ∃ t_11 : Option Addr, ∃ next_12 : Option Addr, ∃ e_13 : Int, ∃ fine_14 : Bool, E 1 = (Sl.v l_1) ∧ E 5 = (.bool v_22) ∧ E 6 = (.pointer v_26) ∧ E 8 = (.pointer (some (Addr.mk b8 0 none))) ∧ E 10 = (.int .i64 i_10) ∧ E 11 = (.pointer t_11) ∧ E 12 = (.pointer next_12) ∧ E 13 = (.int .i64 e_13) ∧ E 14 = (.bool fine_14) ∧ b3j6 N3 l_1 v_22 v_26 b8 i_10 t_11 next_12 e_13 fine_14 R F
def b3L3 (N3 : Option Addr → Int → PH → Prop) (l_1 : Sl) (v_22 : Bool) (v_26 : Option Addr) (b8 : Nat) (R : VP) (s_7_1 : Option Addr) (i_10 : Int) (F : PH) :=
 ((i_10 < (l_1.len : Int) →
  ((i_10 < 30 →
   ∃ v_52 : Array Value, v_52.size = 3 ∧ F.row (Addr.mk b8 0 none) v_52 ∧
   ∃ a55_ : Addr, l_1.base = some a55_ ∧ 0 ≤ i_10 ∧ i_10 < (l_1.len : Int) ∧
   ∃ v_56 : Array Value, v_56.size = 2 ∧ F.row (Addr.add a55_ (Int.toNat i_10 * 2)) v_56 ∧
   ((Spec prog 14 #[(.pointer v_26), (.pointer s_7_1), (.agg v_52), (.agg v_56)] F fun v F => ∃ v_57 : Option Addr, ∃ v_57_1 : Array Value, ∃ v_57_2 : Int, ∃ v_57_3 : Bool, v = (.tuple #[(.pointer v_57), (.agg v_57_1), (.int .i64 v_57_2), (.bool v_57_3)]) ∧
   ∀ b12, F b12 = none → atF (F.set b12 (.cells (#[.int .i64 0, .int .i64 0, .slice none 0 0]) 28)) fun F =>
   v_57_1.size = 3 ∧ (∀ v ∈ v_57_1.toList, storable v) ∧ ∃ c e, F (Addr.mk b12 0 none).block = some (.cells c e (0, 0)) ∧ (Addr.mk b12 0 none).spot = none ∧ (Addr.mk b12 0 none).off + 3 ≤ c.size ∧
   atF (F.set (Addr.mk b12 0 none).block (.cells (wr c (Addr.mk b12 0 none).off v_57_1.toList) e)) fun F =>
   b3j6 N3 l_1 v_22 v_26 b8 i_10 v_57 (some (Addr.mk b12 0 none)) v_57_2 v_57_3 R F) ∧
   (∀ b12_1, F b12_1 = none → atF (F.set b12_1 (.cells (#[.int .i64 0, .int .i64 0, .slice none 0 0]) 28)) fun F =>
   Spec prog 14 #[(.pointer v_26), (.pointer s_7_1), (.agg v_52), (.agg v_56)] F fun v F => ∃ v_57_4 : Option Addr, ∃ v_57_5 : Array Value, ∃ v_57_6 : Int, ∃ v_57_7 : Bool, v = (.tuple #[(.pointer v_57_4), (.agg v_57_5), (.int .i64 v_57_6), (.bool v_57_7)]) ∧
   v_57_5.size = 3 ∧ (∀ v ∈ v_57_5.toList, storable v) ∧ ∃ c e, F (Addr.mk b12_1 0 none).block = some (.cells c e (0, 0)) ∧ (Addr.mk b12_1 0 none).spot = none ∧ (Addr.mk b12_1 0 none).off + 3 ≤ c.size ∧
   atF (F.set (Addr.mk b12_1 0 none).block (.cells (wr c (Addr.mk b12_1 0 none).off v_57_5.toList) e)) fun F =>
   b3j6 N3 l_1 v_22 v_26 b8 i_10 v_57_4 (some (Addr.mk b12_1 0 none)) v_57_6 v_57_7 R F))) ∧
  (¬ (i_10 < 30) →
   b3j1 v_22 b8 s_7_1 R F))) ∧
 (¬ (i_10 < (l_1.len : Int)) →
  b3j1 v_22 b8 s_7_1 R F))
def b3 (n_0 : Int) (l_1 : Sl) (R : VP) (F : PH) :=
 Spec prog 10 #[] F fun v F => ∃ v_22 : Bool, v = (.bool v_22) ∧
 Spec prog 12 #[(.int .u8 n_0)] F fun v F => ∃ v_25 : Int, v = (.int .i64 v_25) ∧
 Spec prog 11 #[(.int .i64 v_25)] F fun v F => ∃ v_26 : Option Addr, ∃ v_26_1 : Option Addr, ∃ v_26_2 : Array Value, ∃ v_26_3 : Bool, v = (.tuple #[(.pointer v_26), (.pointer v_26_1), (.agg v_26_2), (.bool v_26_3)]) ∧
 ∀ b8, F b8 = none → atF (F.set b8 (.cells (#[.int .i64 0, .int .i64 0, .slice none 0 0]) 28)) fun F =>
 v_26_2.size = 3 ∧ (∀ v ∈ v_26_2.toList, storable v) ∧ ∃ c e, F (Addr.mk b8 0 none).block = some (.cells c e (0, 0)) ∧ (Addr.mk b8 0 none).spot = none ∧ (Addr.mk b8 0 none).off + 3 ≤ c.size ∧
 atF (F.set (Addr.mk b8 0 none).block (.cells (wr c (Addr.mk b8 0 none).off v_26_2.toList) e)) fun F =>
 (((!v_26_3) = true →
  R (.bool false) F) ∧
 ((!v_26_3) = false →
  ∃ v_35 : Array Value, v_35.size = 3 ∧ F.row (Addr.mk b8 0 none) v_35 ∧
  Spec prog 13 #[(.pointer v_26_1), (.agg v_35)] F fun v F => ∃ v_36 : Bool, v = (.bool v_36) ∧
  (((!v_36) = true →
   R (.bool false) F) ∧
  ((!v_36) = false →
   (∃ (I3 : Nat → Option Addr → Int → PH → Prop) (m3 : Nat), I3 m3 v_26_1 0 F ∧ ∀ m3 s_7_1 i_10 F, I3 m3 s_7_1 i_10 F →
    b3L3 (nx2 I3 m3) l_1 v_22 v_26 b8 R s_7_1 i_10 F)))))
theorem c3 {n_0 : Int} {l_1 : Sl} {R : VP} {F : PH} (h : b3 n_0 l_1 R F) : Spec prog 3 #[(.int .u8 n_0), (Sl.v l_1)] F R := by
 refine spec_of (args := [(.int .u8 n_0), (Sl.v l_1)]) func3 rfl ntmps3 rfl ?_
 unfold b3 at h
 refine cR (sR (.bool false) (r_assign rfl rfl) ?_)
 refine HL_nil ?_
 refine cR ?_
 refine s_ef (k_call (vs := []) cb10 evN (h.mono ?_))
 clear h; rintro v F ⟨v_22, rfl, h⟩
 refine sR (.bool v_22) (r_assign rfl rfl) ?_
 refine HL_nil ?_
 refine cR (sR (.int .u8 n_0) (r_move rfl rfl) ?_)
 refine s_ef (k_call (vs := [(.int .u8 n_0)]) cb12 (evC rfl evN) (h.mono ?_))
 clear h; rintro v F ⟨v_25, rfl, h⟩
 refine s_ef (k_call (vs := [(.int .i64 v_25)]) cb11 (evC rfl evN) (h.mono ?_))
 clear h; rintro v F ⟨v_26, v_26_1, v_26_2, v_26_3, rfl, h⟩
 refine sR (.tuple #[(.pointer v_26), (.pointer v_26_1), (.agg v_26_2), (.bool v_26_3)]) (r_move rfl rfl) ?_
 refine sR (.pointer v_26) (r_extract rfl rfl rfl) ?_
 refine sR (.pointer v_26_1) (r_extract rfl rfl rfl) ?_
 refine sR (.agg v_26_2) (r_extract rfl rfl rfl) ?_
 refine sR (.bool v_26_3) (r_extract rfl rfl rfl) ?_
 refine s_ef (k_alloc zr28 ?_)
 intro b8 hf_b8
 replace h := atE (h b8 hf_b8)
 refine sR (.pointer v_26) (r_assign rfl rfl) ?_
 refine sR (.pointer v_26_1) (r_assign rfl rfl) ?_
 refine s_ef0 (k_storeN (vs := v_26_2) rfl rfl sz28 (by decide) ?_)
 obtain ⟨hz1, hz2, c, e, hz3, hz4, hz5, h⟩ := h
 refine ⟨hz1, hz2, c, e, hz3, hz4, hz5, ?_⟩
 replace h := atE h
 refine sR (.bool v_26_3) (r_assign rfl rfl) ?_
 refine HL_nil ?_
 refine HC_seq ?_
 refine cR (sR (.bool v_26_3) (r_move rfl rfl) ?_)
 refine sR (.bool (!v_26_3)) (r_not rfl rfl) ?_
 refine sR (.bool (!v_26_3)) (r_move rfl rfl) ?_
 by_cases hc : (!v_26_3) = true
 replace h := h.1 hc
 refine kN 32 hc ?_
 refine kN 33 hc ?_
 iterate 4 refine s_skip ?_
 refine sR (.bool true) (r_pt rfl rfl) ?_
 refine HL_nil ?_
 refine HC_condT rfl ?_
 refine cR (sR (.bool false) (r_assign rfl rfl) ?_)
 exact HL_nil (HC_ret (rt1 f3 R rfl rfl h))
 replace hc := eq_false_of_ne_true hc; replace h := h.2 hc
 refine kN 32 hc ?_
 refine kN 33 hc ?_
 refine sR (.pointer v_26_1) (r_move rfl rfl) ?_
 obtain ⟨v_35, hs35, hc35, h⟩ := h
 refine sR (.agg v_35) (w_loadN rfl underlying28 rfl sz28 hs35 hc35) ?_
 refine s_ef (k_call (vs := [(.pointer v_26_1), (.agg v_35)]) cb13 (evC rfl (evC rfl evN)) (h.mono ?_))
 clear h; rintro v F ⟨v_36, rfl, h⟩
 refine sR (.bool (!v_36)) (r_not rfl rfl) ?_
 refine sR (.bool (!v_36)) (r_pf rfl rfl) ?_
 refine HL_nil ?_
 refine HC_cond (t := (!v_36)) rfl (fun hc => ?_) (fun hc => ?_)
 replace h := h.1 hc
 clear hc
 refine cR (sR (.bool false) (r_assign rfl rfl) ?_)
 exact HL_nil (HC_ret (rt1 f3 R rfl rfl h))
 replace h := h.2 hc
 clear hc
 refine HC_skip ?_
 refine HC_seqJ (b3J1 v_22 b8 R) ?_ ?_
 clear h; rintro E F ⟨s_7, h5, h7, h8, h⟩
 unfold b3j1 at h
 refine HC_seqJ (b3J2 v_22 R) ?_ ?_
 clear h; rintro E F ⟨h5, h⟩
 unfold b3j2 at h
 refine cR (sR _ (r_move rfl h5) ?_)
 refine sR (.bool v_22) (r_assign rfl rfl) ?_
 exact HL_nil (HC_ret (rt1 f3 R rfl rfl h))
 refine cR (sR (.int .i64 0) (r_assign rfl rfl) ?_)
 refine HL_nil ?_
 refine HC_block ?_
 obtain ⟨I1, m1, hI0, hr⟩ := h
 refine HC_loop (fun m1 E F => ∃ k_15 : Int, E 5 = (.bool v_22) ∧ E 7 = (.pointer s_7) ∧ E 8 = (.pointer (some (Addr.mk b8 0 none))) ∧ E 15 = (.int .i64 k_15) ∧ I1 m1 k_15 F) m1 ⟨_, h5, h7, h8, rfl, hI0⟩ ?_
 clear hI0; rintro m1 E F ⟨k_15, h5, h7, h8, h15, hI⟩
 have h := hr m1 k_15 F hI
 clear hr hI
 unfold b3L1 at h
 refine HC_seq ?_
 refine cR (sR _ (r_move rfl h15) ?_)
 refine sR (.bool (decide (k_15 < 6))) (r_lss rfl rfl rfl) ?_
 refine HL_nil ?_
 refine HC_cond (t := (decide (k_15 < 6))) rfl (fun hc => ?_) (fun hc => ?_)
 replace h := h.1 (of_decide_eq_true hc)
 clear hc
 refine HC_skip ?_
 refine HC_seqJ (b3J3 (nx1 I1 m1) v_22 s_7 b8 k_15 R) ?_ ?_
 clear h; rintro E F ⟨h5, h7, h8, h15, h⟩
 unfold b3j3 at h
 refine HC_region ?_
 refine sR _ (r_move rfl h15) ?_
 refine sR (.int .i64 (IntKind.i64.wrap (k_15 + 1))) (r_add rfl rfl rfl) ?_
 refine sR (.int .i64 (IntKind.i64.wrap (k_15 + 1))) (r_assign rfl rfl) ?_
 refine HL_nil ?_
 obtain ⟨m', hm, h⟩ := h
 exact ⟨m', hm, _, h5, h7, h8, rfl, h⟩
 refine HC_block ?_
 refine cR (sR _ (r_move rfl h15) ?_)
 refine sR (.int .u8 (IntKind.u8.wrap k_15)) (r_convInt rfl rfl underlying3 underlying5) ?_
 refine sR (.agg (#[(.int .u8 (IntKind.u8.wrap k_15)), .int .u8 0, .int .u8 0] : Array Value)) (w_buildStruct (cells := #[(.int .u8 (IntKind.u8.wrap k_15)), .int .u8 0, .int .u8 0]) underlying44 zr44 kf44 (evPC rfl evPN) (fill1 (place_of rfl rfl sz5) rfl rfl (fillN rfl))) ?_
 refine s_ef (k_call (vs := [(.agg (#[(.int .u8 (IntKind.u8.wrap k_15)), .int .u8 0, .int .u8 0] : Array Value))]) cb15 (evC rfl evN) (h.mono ?_))
 clear h; rintro v F ⟨v_83, rfl, h⟩
 obtain ⟨v_84, hx84, h⟩ := h
 refine sR (.string v_84) (w_field1 rfl underlying41 rfl rfl underlying9 rfl hx84) ?_
 refine sR (.string v_84) (r_assign rfl rfl) ?_
 refine HL_nil ?_
 refine cR (sR _ (r_move rfl h7) ?_)
 refine sR (.string v_84) (r_move rfl rfl) ?_
 refine s_ef (k_call (vs := [(.pointer s_7), (.string v_84)]) cb16 (evC rfl (evC rfl evN)) (h.mono ?_))
 clear h; rintro v F ⟨v_88, v_88_1, rfl, h⟩
 refine sR (.tuple #[(Sl.v v_88), (.bool v_88_1)]) (r_move rfl rfl) ?_
 refine sR (Sl.v v_88) (r_extract rfl rfl rfl) ?_
 refine sR (.bool v_88_1) (r_extract rfl rfl rfl) ?_
 refine sR (Sl.v v_88) (r_assign rfl rfl) ?_
 refine sR (.bool v_88_1) (r_assign rfl rfl) ?_
 refine HL_nil ?_
 refine cR (sR (Sl.v Sl.nil) (r_assign rfl rfl) ?_)
 refine HL_nil ?_
 refine cR (sR (.bool false) (r_assign rfl rfl) ?_)
 refine HL_nil ?_
 refine HC_seqJ (b3J4 (nx1 I1 m1) v_22 s_7 b8 k_15 v_88 v_88_1 R) ?_ ?_
 clear h; rintro E F ⟨want_19, known_20, h5, h7, h8, h15, h17, h18, h19, h20, h⟩
 unfold b3j4 at h
 refine cR (sR _ (r_move rfl h18) ?_)
 refine sR _ (r_move rfl h20) ?_
 refine sR (.bool (!(v_88_1 == known_20))) (r_neqB rfl rfl rfl underlying4) ?_
 refine sR (.bool (!(v_88_1 == known_20))) (r_move rfl rfl) ?_
 by_cases hc : (!(v_88_1 == known_20)) = true
 replace h := h.1 hc
 refine kN 114 hc ?_
 refine kN 115 hc ?_
 iterate 5 refine s_skip ?_
 refine sR (.bool true) (r_pt rfl rfl) ?_
 refine HL_nil ?_
 refine HC_condT rfl ?_
 refine cR (sR (.bool false) (r_assign rfl rfl) ?_)
 exact HL_nil (HC_ret (rt1 f3 R rfl rfl h))
 replace hc := eq_false_of_ne_true hc; replace h := h.2 hc
 refine kN 114 hc ?_
 refine kN 115 hc ?_
 refine sR _ (r_move rfl h17) ?_
 obtain ⟨v_117, hc117, h⟩ := h
 refine sR (.string v_117) (r_convBS rfl rfl underlying39 underlying9 underlying5 ⟨_, _, _, rfl⟩ hc117) ?_
 refine sR _ (r_move rfl h19) ?_
 obtain ⟨v_119, hc119, h⟩ := h
 refine sR (.string v_119) (r_convBS rfl rfl underlying39 underlying9 underlying5 ⟨_, _, _, rfl⟩ hc119) ?_
 refine sR (.bool (!(v_117.toList == v_119.toList))) (r_neqS rfl rfl rfl) ?_
 refine sR (.bool (!(v_117.toList == v_119.toList))) (r_pf rfl rfl) ?_
 refine HL_nil ?_
 refine HC_cond (t := (!(v_117.toList == v_119.toList))) rfl (fun hc => ?_) (fun hc => ?_)
 replace h := h.1 hc
 clear hc
 refine cR (sR (.bool false) (r_assign rfl rfl) ?_)
 exact HL_nil (HC_ret (rt1 f3 R rfl rfl h))
 replace h := h.2 hc
 clear hc
 refine HC_skip ?_
 show b3J3 (nx1 I1 m1) v_22 s_7 b8 k_15 R _ _
 exact ⟨h5, h7, h8, h15, h⟩
 refine cR (sR (.int .i64 0) (r_assign rfl rfl) ?_)
 refine HL_nil ?_
 refine HC_block ?_
 obtain ⟨I2, m2, hI0, hr⟩ := h
 refine HC_loop (fun m2 E F => ∃ want_19_1 : Sl, ∃ known_20_1 : Bool, ∃ i_21 : Int, E 5 = (.bool v_22) ∧ E 7 = (.pointer s_7) ∧ E 8 = (.pointer (some (Addr.mk b8 0 none))) ∧ E 15 = (.int .i64 k_15) ∧ E 16 = (.string v_84) ∧ E 17 = (Sl.v v_88) ∧ E 18 = (.bool v_88_1) ∧ E 19 = (Sl.v want_19_1) ∧ E 20 = (.bool known_20_1) ∧ E 21 = (.int .i64 i_21) ∧ I2 m2 want_19_1 known_20_1 i_21 F) m2 ⟨_, _, _, h5, h7, h8, h15, rfl, rfl, rfl, rfl, rfl, rfl, hI0⟩ ?_
 clear hI0; rintro m2 E F ⟨want_19_1, known_20_1, i_21, h5, h7, h8, h15, h16, h17, h18, h19, h20, h21, hI⟩
 have h := hr m2 want_19_1 known_20_1 i_21 F hI
 clear hr hI
 unfold b3L2 at h
 refine HC_seq ?_
 refine cR (sR _ (r_move rfl h21) ?_)
 refine sR (.pointer (some (Addr.mk b8 2 none))) (w_fieldAddr h8 underlying28 rfl rfl sz26 rfl rfl) ?_
 obtain ⟨v_93, hc93, h⟩ := h
 refine sR (Sl.v v_93) (r_load1 rfl rfl underlying26 rfl hc93) ?_
 refine sR (.int .i64 (v_93.len : Int)) (r_lenSl rfl rfl underlying26) ?_
 refine sR (.bool (decide (i_21 < (v_93.len : Int)))) (r_lss rfl rfl rfl) ?_
 refine HL_nil ?_
 refine HC_cond (t := (decide (i_21 < (v_93.len : Int)))) rfl (fun hc => ?_) (fun hc => ?_)
 replace h := h.1 (of_decide_eq_true hc)
 clear hc
 refine HC_skip ?_
 refine HC_seqJ (b3J5 (nx1 I1 m1) (nx3 I2 m2) v_22 s_7 b8 k_15 v_84 v_88 v_88_1 i_21 R) ?_ ?_
 clear h; rintro E F ⟨want_19_2, known_20_2, h5, h7, h8, h15, h16, h17, h18, h19, h20, h21, h⟩
 unfold b3j5 at h
 refine HC_region ?_
 refine sR _ (r_move rfl h21) ?_
 refine sR (.int .i64 (IntKind.i64.wrap (i_21 + 1))) (r_add rfl rfl rfl) ?_
 refine sR (.int .i64 (IntKind.i64.wrap (i_21 + 1))) (r_assign rfl rfl) ?_
 refine HL_nil ?_
 obtain ⟨m', hm, h⟩ := h
 exact ⟨m', hm, _, _, _, h5, h7, h8, h15, h16, h17, h18, h19, h20, rfl, h⟩
 refine HC_block ?_
 refine cR (sR (.pointer (some (Addr.mk b8 2 none))) (w_fieldAddr h8 underlying28 rfl rfl sz26 rfl rfl) ?_)
 obtain ⟨v_99, hc99, h⟩ := h
 refine sR (Sl.v v_99) (r_load1 rfl rfl underlying26 rfl hc99) ?_
 refine sR _ (r_move rfl h21) ?_
 obtain ⟨a101_, hb101, hl101, hu101, h⟩ := h
 refine sR (.pointer (some (Addr.add a101_ (Int.toNat i_21 * 2)))) (w_indexAddr rfl rfl underlying26 sz41 hb101 hl101 hu101) ?_
 refine sR (.pointer (some (Addr.add a101_ (Int.toNat i_21 * 2)))) (w_fieldAddr rfl underlying41 rfl rfl sz9 rfl rfl) ?_
 obtain ⟨v_103, hc103, h⟩ := h
 refine sR (.string v_103) (r_load1 rfl rfl underlying9 rfl hc103) ?_
 refine sR _ (r_move rfl h16) ?_
 refine sR (.bool (v_103.toList == v_84.toList)) (r_eqlS rfl rfl rfl) ?_
 refine HL_nil ?_
 refine HC_cond (t := (v_103.toList == v_84.toList)) rfl (fun hc => ?_) (fun hc => ?_)
 replace h := h.1 hc
 clear hc
 refine cR (sR (.pointer (some (Addr.mk b8 2 none))) (w_fieldAddr h8 underlying28 rfl rfl sz26 rfl rfl) ?_)
 obtain ⟨v_107, hc107, h⟩ := h
 refine sR (Sl.v v_107) (r_load1 rfl rfl underlying26 rfl hc107) ?_
 refine sR _ (r_move rfl h21) ?_
 obtain ⟨a109_, hb109, hl109, hu109, h⟩ := h
 refine sR (.pointer (some (Addr.add a109_ (Int.toNat i_21 * 2)))) (w_indexAddr rfl rfl underlying26 sz41 hb109 hl109 hu109) ?_
 refine sR (.pointer (some (Addr.add (Addr.add a109_ (Int.toNat i_21 * 2)) 1))) (w_fieldAddr rfl underlying41 rfl rfl sz39 rfl rfl) ?_
 obtain ⟨v_111, hc111, h⟩ := h
 refine sR (Sl.v v_111) (r_load1 rfl rfl underlying39 rfl hc111) ?_
 refine sR (Sl.v v_111) (r_assign rfl rfl) ?_
 refine HL_nil ?_
 refine HC_region ?_
 refine sR (.bool true) (r_assign rfl rfl) ?_
 refine HL_nil ?_
 show b3J5 (nx1 I1 m1) (nx3 I2 m2) v_22 s_7 b8 k_15 v_84 v_88 v_88_1 i_21 R _ _
 exact ⟨_, _, h5, h7, h8, h15, h16, h17, h18, rfl, rfl, h21, h⟩
 replace h := h.2 hc
 clear hc
 refine HC_skip ?_
 show b3J5 (nx1 I1 m1) (nx3 I2 m2) v_22 s_7 b8 k_15 v_84 v_88 v_88_1 i_21 R _ _
 exact ⟨_, _, h5, h7, h8, h15, h16, h17, h18, h19, h20, h21, h⟩
 replace h := h.2 (of_decide_eq_false hc)
 clear hc
 refine HC_exit ?_
 show b3J4 (nx1 I1 m1) v_22 s_7 b8 k_15 v_88 v_88_1 R _ _
 exact ⟨_, _, h5, h7, h8, h15, h17, h18, h19, h20, h⟩
 replace h := h.2 (of_decide_eq_false hc)
 clear hc
 refine HC_exit ?_
 show b3J2 v_22 R _ _
 exact ⟨h5, h⟩
 refine cR (sR (.int .i64 0) (r_assign rfl rfl) ?_)
 refine HL_nil ?_
 refine HC_block ?_
 obtain ⟨I3, m3, hI0, hr⟩ := h
 refine HC_loop (fun m3 E F => ∃ s_7_1 : Option Addr, ∃ i_10 : Int, E 1 = (Sl.v l_1) ∧ E 5 = (.bool v_22) ∧ E 6 = (.pointer v_26) ∧ E 7 = (.pointer s_7_1) ∧ E 8 = (.pointer (some (Addr.mk b8 0 none))) ∧ E 10 = (.int .i64 i_10) ∧ I3 m3 s_7_1 i_10 F) m3 ⟨_, _, rfl, rfl, rfl, rfl, rfl, rfl, hI0⟩ ?_
 clear hI0; rintro m3 E F ⟨s_7_1, i_10, h1, h5, h6, h7, h8, h10, hI⟩
 have h := hr m3 s_7_1 i_10 F hI
 clear hr hI
 unfold b3L3 at h
 refine HC_seq ?_
 refine cR (sR _ (r_move rfl h10) ?_)
 refine sR _ (r_move rfl h1) ?_
 refine sR (.int .i64 (l_1.len : Int)) (r_lenSl rfl rfl underlying22) ?_
 refine sR (.bool (decide (i_10 < (l_1.len : Int)))) (r_lss rfl rfl rfl) ?_
 refine sR (.bool (decide (i_10 < (l_1.len : Int)))) (r_move rfl rfl) ?_
 by_cases hc : i_10 < (l_1.len : Int)
 replace h := h.1 hc
 refine kN 42 (decide_eq_true hc) ?_
 refine kN 43 (decide_eq_true hc) ?_
 refine sR _ (r_move rfl h10) ?_
 refine sR (.bool (decide (i_10 < 30))) (r_lss rfl rfl rfl) ?_
 refine sR (.bool (decide (i_10 < 30))) (r_pt rfl rfl) ?_
 refine HL_nil ?_
 refine HC_cond (t := (decide (i_10 < 30))) rfl (fun hc => ?_) (fun hc => ?_)
 replace h := h.1 (of_decide_eq_true hc)
 clear hc
 refine HC_skip ?_
 refine HC_seq ?_
 refine HC_block ?_
 refine HC_seqJ (b3J6 (nx2 I3 m3) l_1 v_22 v_26 b8 i_10 R) ?_ ?_
 clear h; rintro E F ⟨t_11, next_12, e_13, fine_14, h1, h5, h6, h8, h10, h11, h12, h13, h14, h⟩
 unfold b3j6 at h
 refine HC_seq ?_
 refine cR (sR _ (r_move rfl h14) ?_)
 refine sR (.bool (!fine_14)) (r_not rfl rfl) ?_
 refine sR (.bool (!fine_14)) (r_move rfl rfl) ?_
 by_cases hc : (!fine_14) = true
 replace h := h.1 hc
 refine kN 63 hc ?_
 refine kN 64 hc ?_
 iterate 2 refine s_skip ?_
 refine sR (.bool true) (r_pt rfl rfl) ?_
 refine sR (.bool true) (r_move rfl rfl) ?_
 iterate 4 refine s_skip ?_
 refine sR (.bool true) (r_pt rfl rfl) ?_
 refine HL_nil ?_
 refine HC_condT rfl ?_
 refine cR (sR (.bool false) (r_assign rfl rfl) ?_)
 exact HL_nil (HC_ret (rt1 f3 R rfl rfl h))
 replace hc := eq_false_of_ne_true hc; replace h := h.2 hc
 refine kN 63 hc ?_
 refine kN 64 hc ?_
 refine sR _ (r_move rfl h13) ?_
 refine sR (.bool (decide (e_13 = 340))) (w_eql rfl rfl) ?_
 refine sR (.bool (decide (e_13 = 340))) (r_pf rfl rfl) ?_
 refine sR (.bool (decide (e_13 = 340))) (r_move rfl rfl) ?_
 by_cases hc : e_13 = 340
 replace h := h.1 hc
 refine kN 66 (decide_eq_true hc) ?_
 refine kN 67 (decide_eq_true hc) ?_
 refine kN 68 (decide_eq_true hc) ?_
 iterate 4 refine s_skip ?_
 refine sR (.bool true) (r_pt rfl rfl) ?_
 refine HL_nil ?_
 refine HC_condT rfl ?_
 refine cR (sR (.bool false) (r_assign rfl rfl) ?_)
 exact HL_nil (HC_ret (rt1 f3 R rfl rfl h))
 replace h := h.2 hc
 refine kN 66 (decide_eq_false hc) ?_
 refine kN 67 (decide_eq_false hc) ?_
 refine kN 68 (decide_eq_false hc) ?_
 refine sR _ (r_move rfl h11) ?_
 obtain ⟨next12a_, rfl, h⟩ := h
 obtain ⟨v_70, hs70, hc70, h⟩ := h
 refine sR (.agg v_70) (w_loadN h12 underlying28 rfl sz28 hs70 hc70) ?_
 refine s_ef (k_call (vs := [(.pointer t_11), (.agg v_70)]) cb13 (evC rfl (evC rfl evN)) (h.mono ?_))
 clear h; rintro v F ⟨v_71, rfl, h⟩
 refine sR (.bool (!v_71)) (r_not rfl rfl) ?_
 refine sR (.bool (!v_71)) (r_pf rfl rfl) ?_
 refine HL_nil ?_
 refine HC_cond (t := (!v_71)) rfl (fun hc => ?_) (fun hc => ?_)
 replace h := h.1 hc
 clear hc
 refine cR (sR (.bool false) (r_assign rfl rfl) ?_)
 exact HL_nil (HC_ret (rt1 f3 R rfl rfl h))
 replace h := h.2 hc
 clear hc
 refine HC_skip ?_
 refine HC_draw0 (by kernel_rfl) (fun hp => ?_)
 refine gU 0 (.pointer t_11) rfl (fun _ => r_move rfl h11) hp ?_
 obtain ⟨v_75, hs75, hc75, h⟩ := h
 refine gR 1 (.agg v_75) rfl (w_loadN h12 underlying28 rfl sz28 hs75 hc75) hp (fun S1 q1 => ?_)
 replace hp := holdC (i := 1) (q1 _ (w_loadN h12 underlying28 rfl sz28 hs75 hc75)) hp
 refine gU 2 (.pointer t_11) rfl (fun _ => r_assign rfl rfl) hp ?_
 refine RG_eff1 (i := 3) (by kernel_rfl) (g_op0 (Sp' := []) rfl rfl (k_storeN (vs := v_75) h8 rfl sz28 (by decide) ?_))
 obtain ⟨hz1, hz2, c, e, hz3, hz4, hz5, h⟩ := h
 refine ⟨hz1, hz2, c, e, hz3, hz4, hz5, ?_⟩
 replace h := atE h
 refine holdI hold0 (fun hp => ?_)
 refine RG_done (by kernel_rfl) ?_
 refine HC_region ?_
 refine sR _ (r_move rfl h10) ?_
 refine sR (.int .i64 (IntKind.i64.wrap (i_10 + 1))) (r_add rfl rfl rfl) ?_
 refine sR (.int .i64 (IntKind.i64.wrap (i_10 + 1))) (r_assign rfl rfl) ?_
 refine HL_nil ?_
 obtain ⟨m', hm, h⟩ := h
 exact ⟨m', hm, _, _, h1, h5, h6, rfl, h8, rfl, h⟩
 refine HC_draw0 (by kernel_rfl) (fun hp => ?_)
 refine gU 0 (.pointer v_26) rfl (fun _ => r_move rfl h6) hp ?_
 refine gU 1 (.pointer s_7_1) rfl (fun _ => r_move rfl h7) hp ?_
 obtain ⟨v_52, hs52, hc52, h⟩ := h
 refine gR 2 (.agg v_52) rfl (w_loadN h8 underlying28 rfl sz28 hs52 hc52) hp (fun S2 q2 => ?_)
 replace hp := holdC (i := 2) (q2 _ (w_loadN h8 underlying28 rfl sz28 hs52 hc52)) hp
 refine gU 3 (Sl.v l_1) rfl (fun _ => r_move rfl h1) hp ?_
 refine gU 4 (.int .i64 i_10) rfl (fun _ => r_move rfl h10) hp ?_
 obtain ⟨a55_, hb55, hl55, hu55, h⟩ := h
 refine gU 5 (.pointer (some (Addr.add a55_ (Int.toNat i_10 * 2)))) rfl (fun _ => w_indexAddr rfl rfl underlying22 sz38 hb55 hl55 hu55) hp ?_
 obtain ⟨v_56, hs56, hc56, h⟩ := h
 refine gR 6 (.agg v_56) rfl (w_loadN rfl underlying38 rfl sz38 hs56 hc56) hp (fun S6 q6 => ?_)
 replace hp := holdC (i := 6) (q6 _ (w_loadN rfl underlying38 rfl sz38 hs56 hc56)) hp
 refine RG_eff (rs := [7, 13]) (by kernel_rfl) rfl ?_
 obtain ⟨ha0, ha1⟩ := h
 simp only [List.mem_cons, List.not_mem_nil, or_false, forall_eq_or_imp, forall_eq]
 refine ⟨?_, ?_⟩
 have h := ha0; clear ha0 ha1
 refine g_op (Sp' := []) rfl rfl (k_call (vs := [(.pointer v_26), (.pointer s_7_1), (.agg v_52), (.agg v_56)]) cb14 (evC rfl (evC rfl (evC rfl (evC rfl evN)))) (h.mono ?_))
 clear h; rintro v F ⟨v_57, v_57_1, v_57_2, v_57_3, rfl, h⟩
 refine holdI hold0 (fun hp => ?_)
 refine gU 8 (.tuple #[(.pointer v_57), (.agg v_57_1), (.int .i64 v_57_2), (.bool v_57_3)]) rfl (fun _ => r_move rfl rfl) hp ?_
 refine gU 9 (.pointer v_57) rfl (fun _ => r_extract rfl rfl rfl) hp ?_
 refine gU 10 (.agg v_57_1) rfl (fun _ => r_extract rfl rfl rfl) hp ?_
 refine gU 11 (.int .i64 v_57_2) rfl (fun _ => r_extract rfl rfl rfl) hp ?_
 refine gU 12 (.bool v_57_3) rfl (fun _ => r_extract rfl rfl rfl) hp ?_
 refine RG_eff1 (i := 13) (by kernel_rfl) (g_op (Sp' := []) rfl rfl (k_alloc zr28 ?_))
 intro b12 hf_b12
 replace h := atE (h b12 hf_b12)
 refine holdI hold0 (fun hp => ?_)
 refine gU 14 (.pointer v_57) rfl (fun _ => r_assign rfl rfl) hp ?_
 refine RG_eff1 (i := 15) (by kernel_rfl) (g_op0 (Sp' := []) rfl rfl (k_storeN (vs := v_57_1) rfl rfl sz28 (by decide) ?_))
 obtain ⟨hz1, hz2, c, e, hz3, hz4, hz5, h⟩ := h
 refine ⟨hz1, hz2, c, e, hz3, hz4, hz5, ?_⟩
 replace h := atE h
 refine holdI hold0 (fun hp => ?_)
 refine gU 16 (.int .i64 v_57_2) rfl (fun _ => r_assign rfl rfl) hp ?_
 refine gU 17 (.bool v_57_3) rfl (fun _ => r_assign rfl rfl) hp ?_
 refine RG_done (by kernel_rfl) ?_
 show b3J6 (nx2 I3 m3) l_1 v_22 v_26 b8 i_10 R _ _
 exact ⟨_, _, _, _, h1, h5, h6, h8, h10, rfl, rfl, rfl, rfl, h⟩
 have h := ha1; clear ha0 ha1
 refine g_op (Sp' := [(6, S6), (2, S2)]) rfl rfl (k_alloc zr28 ?_)
 intro b12_1 hf_b12_1
 replace h := atE (h b12_1 hf_b12_1)
 refine holdI (holdC (i := 6) (q6 _ (w_loadN rfl underlying38 rfl sz38 hs56 (row_set_fresh hf_b12_1 hc56))) (holdC (i := 2) (q2 _ (w_loadN h8 underlying28 rfl sz28 hs52 (row_set_fresh hf_b12_1 hc52))) hold0)) (fun hp => ?_)
 refine RG_eff1 (i := 7) (by kernel_rfl) (g_op (Sp' := []) rfl rfl (k_call (vs := [(.pointer v_26), (.pointer s_7_1), (.agg v_52), (.agg v_56)]) cb14 (evC rfl (evC rfl (evC rfl (evC rfl evN)))) (h.mono ?_)))
 clear h; rintro v F ⟨v_57_4, v_57_5, v_57_6, v_57_7, rfl, h⟩
 refine holdI hold0 (fun hp => ?_)
 refine gU 8 (.tuple #[(.pointer v_57_4), (.agg v_57_5), (.int .i64 v_57_6), (.bool v_57_7)]) rfl (fun _ => r_move rfl rfl) hp ?_
 refine gU 9 (.pointer v_57_4) rfl (fun _ => r_extract rfl rfl rfl) hp ?_
 refine gU 10 (.agg v_57_5) rfl (fun _ => r_extract rfl rfl rfl) hp ?_
 refine gU 11 (.int .i64 v_57_6) rfl (fun _ => r_extract rfl rfl rfl) hp ?_
 refine gU 12 (.bool v_57_7) rfl (fun _ => r_extract rfl rfl rfl) hp ?_
 refine gU 14 (.pointer v_57_4) rfl (fun _ => r_assign rfl rfl) hp ?_
 refine RG_eff1 (i := 15) (by kernel_rfl) (g_op0 (Sp' := []) rfl rfl (k_storeN (vs := v_57_5) rfl rfl sz28 (by decide) ?_))
 obtain ⟨hz1, hz2, c, e, hz3, hz4, hz5, h⟩ := h
 refine ⟨hz1, hz2, c, e, hz3, hz4, hz5, ?_⟩
 replace h := atE h
 refine holdI hold0 (fun hp => ?_)
 refine gU 16 (.int .i64 v_57_6) rfl (fun _ => r_assign rfl rfl) hp ?_
 refine gU 17 (.bool v_57_7) rfl (fun _ => r_assign rfl rfl) hp ?_
 refine RG_done (by kernel_rfl) ?_
 show b3J6 (nx2 I3 m3) l_1 v_22 v_26 b8 i_10 R _ _
 exact ⟨_, _, _, _, h1, h5, h6, h8, h10, rfl, rfl, rfl, rfl, h⟩
 replace h := h.2 (of_decide_eq_false hc)
 clear hc
 refine HC_exit ?_
 show b3J1 v_22 b8 R _ _
 exact ⟨_, h5, h7, h8, h⟩
 replace h := h.2 hc
 refine kN 42 (decide_eq_false hc) ?_
 refine kN 43 (decide_eq_false hc) ?_
 iterate 2 refine s_skip ?_
 refine sR (.bool false) (r_pf rfl rfl) ?_
 refine HL_nil ?_
 refine HC_condF rfl ?_
 refine HC_exit ?_
 show b3J1 v_22 b8 R _ _
 exact ⟨_, h5, h7, h8, h⟩
end Go.Proofs.Ytelkfnmdnbbniaa
