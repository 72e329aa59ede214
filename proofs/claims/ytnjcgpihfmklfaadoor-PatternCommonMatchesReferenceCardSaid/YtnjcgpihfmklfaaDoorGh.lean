/-
  What functions of the program do, in a clean form, each with the proof that its code does so. Printed by a program.
-/
import Derived.Test.YtnjcgpihfmklfaaDoorGf
import Derived.Test.YtnjcgpihfmklfaaDoorPhp
namespace Go.Proofs.YtnjcgpihfmklfaaDoor
open Go Go.Proofs.Tryd
set_option maxRecDepth 10000
set_option maxHeartbeats 4000000
/- 71 (*koine.pattern.machine).run$1 -/
def b71j1 (i_0 : Int) (v_3 : Option Addr) (v_4 : Option Addr) (v_5 : Option Addr) (v_33 : Bool) (R : VP) (F : PH) :=
 ((v_33 = true →
  Spec prog 70 #[(.pointer v_4), (.int .i64 i_0)] F fun v F => v = Value.tuple #[] ∧
  ∃ v3a_ : Addr, v_3 = some v3a_ ∧ ∃ v_36 : Option Addr, F.cell v3a_ = some (.pointer v_36) ∧
  ∃ v36a_ : Addr, v_36 = some v36a_ ∧ ∃ v_39 : Sl, F.cell (Addr.add v36a_ 17) = some (Sl.v v_39) ∧
  ∃ a41_ : Addr, v_39.base = some a41_ ∧ 0 ≤ i_0 ∧ i_0 < (v_39.len : Int) ∧
  ∃ v_42 : Array Value, v_42.size = 8 ∧ F.row (Addr.add a41_ (Int.toNat i_0 * 8)) v_42 ∧
  Spec prog 68 #[(.pointer v_5), (.agg v_42)] F fun v F => v = Value.tuple #[] ∧
  R (.tuple #[]) F) ∧
 (v_33 = false →
  R (.tuple #[]) F))
abbrev b71J1 (i_0 : Int) (v_3 : Option Addr) (v_4 : Option Addr) (v_5 : Option Addr) (R : VP) (E : En) (F : PH) : Prop := ∃ v_33 : Bool, E 0 = (.int .i64 i_0) ∧ E 3 = (.pointer v_3) ∧ E 4 = (.pointer v_4) ∧ E 5 = (.pointer v_5) ∧ E 33 = (.bool v_33) ∧ b71j1 i_0 v_3 v_4 v_5 v_33 R F
def b71 (i_0 : Int) (v_1 : Option Addr) (v_2 : Option Addr) (v_3 : Option Addr) (v_4 : Option Addr) (v_5 : Option Addr) (R : VP) (F : PH) :=
 ∃ v1a_ : Addr, v_1 = some v1a_ ∧ ∃ v_8 : ByteArray, F.cell v1a_ = some (.string v_8) ∧
 ∃ v2a_ : Addr, v_2 = some v2a_ ∧ ∃ v_9 : Int, F.cell v2a_ = some (.int .i64 v_9) ∧
 0 ≤ v_9 ∧ v_9 < (v_8.size : Int) ∧
 ∃ (hx : Int.toNat v_9 < v_8.size) (v_10 : Int), v_10 = ((v_8[Int.toNat v_9]'hx).toNat : Int) ∧
 ∃ v3a__1 : Addr, v_3 = some v3a__1 ∧ ∃ v_12 : Option Addr, F.cell v3a__1 = some (.pointer v_12) ∧
 ∃ v12a_ : Addr, v_12 = some v12a_ ∧ ∃ v_15 : Sl, F.cell v12a_ = some (Sl.v v_15) ∧
 ∃ a17_ : Addr, v_15.base = some a17_ ∧ 0 ≤ i_0 ∧ i_0 < (v_15.len : Int) ∧
 ∃ v_19 : Int, F.cell (Addr.add (Addr.add a17_ (Int.toNat i_0 * 5)) 1) = some (.int .i64 v_19) ∧
 ((v_19 ≤ (IntKind.i64.wrap v_10) →
  ∃ v_24 : Option Addr, F.cell v3a__1 = some (.pointer v_24) ∧
  ∃ v24a_ : Addr, v_24 = some v24a_ ∧ ∃ v_27 : Sl, F.cell v24a_ = some (Sl.v v_27) ∧
  ∃ a29_ : Addr, v_27.base = some a29_ ∧ 0 ≤ i_0 ∧ i_0 < (v_27.len : Int) ∧
  ∃ v_31 : Int, F.cell (Addr.add (Addr.add a29_ (Int.toNat i_0 * 5)) 2) = some (.int .i64 v_31) ∧
  b71j1 i_0 (some v3a__1) v_4 v_5 (decide ((IntKind.i64.wrap v_10) ≤ v_31)) R F) ∧
 (¬ (v_19 ≤ (IntKind.i64.wrap v_10)) →
  b71j1 i_0 (some v3a__1) v_4 v_5 false R F))
theorem c71 {i_0 : Int} {v_1 : Option Addr} {v_2 : Option Addr} {v_3 : Option Addr} {v_4 : Option Addr} {v_5 : Option Addr} {R : VP} {F : PH} (h : b71 i_0 v_1 v_2 v_3 v_4 v_5 R F) : Spec prog 71 #[(.int .i64 i_0), (.pointer v_1), (.pointer v_2), (.pointer v_3), (.pointer v_4), (.pointer v_5)] F R := by
 refine spec_of (args := [(.int .i64 i_0), (.pointer v_1), (.pointer v_2), (.pointer v_3), (.pointer v_4), (.pointer v_5)]) func71 rfl ntmps71 rfl ?_
 unfold b71 at h
 refine cR ?_
 obtain ⟨v1a_, rfl, h⟩ := h
 obtain ⟨v_8, hc8, h⟩ := h
 refine sR (.string v_8) (r_load1 rfl rfl underlying9 rfl hc8) ?_
 obtain ⟨v2a_, rfl, h⟩ := h
 obtain ⟨v_9, hc9, h⟩ := h
 refine sR (.int .i64 v_9) (r_load1 rfl rfl underlying3 rfl hc9) ?_
 obtain ⟨hl10, hu10, hx10, v_10, hv10, h⟩ := h
 refine sR (.int .u8 v_10) (w_indexStr rfl rfl underlying9 hl10 hu10 hv10) ?_
 refine sR (.int .i64 (IntKind.i64.wrap v_10)) (r_convInt rfl rfl underlying5 underlying3) ?_
 refine sR (.int .i64 (IntKind.i64.wrap v_10)) (r_assign rfl rfl) ?_
 refine HL_nil ?_
 refine HC_seqJ (b71J1 i_0 v_3 v_4 v_5 R) ?_ ?_
 clear h; rintro E F ⟨v_33, h0, h3, h4, h5, h33, h⟩
 unfold b71j1 at h
 refine HC_cond (t := v_33) h33 (fun hc => ?_) (fun hc => ?_)
 replace h := h.1 hc
 clear hc
 refine cR (sR _ (r_move rfl h0) ?_)
 refine s_ef (k_call (vs := [(.pointer v_4), (.int .i64 i_0)]) cb70 (evC h4 (evC rfl evN)) (h.mono ?_))
 clear h; rintro v F ⟨rfl, h⟩
 refine HL_nil ?_
 refine HC_region ?_
 obtain ⟨v3a_, rfl, h⟩ := h
 obtain ⟨v_36, hc36, h⟩ := h
 refine sR (.pointer v_36) (r_load1 rfl h3 underlying61 rfl hc36) ?_
 obtain ⟨v36a_, rfl, h⟩ := h
 refine sR (.pointer (some v36a_)) (r_nilCheck rfl rfl) ?_
 refine sR (.pointer (some (Addr.add v36a_ 17))) (w_fieldAddr rfl underlying79 rfl rfl sz77 rfl rfl) ?_
 obtain ⟨v_39, hc39, h⟩ := h
 refine sR (Sl.v v_39) (r_load1 rfl rfl underlying77 rfl hc39) ?_
 refine sR _ (r_move rfl h0) ?_
 obtain ⟨a41_, hb41, hl41, hu41, h⟩ := h
 refine sR (.pointer (some (Addr.add a41_ (Int.toNat i_0 * 8)))) (w_indexAddr rfl rfl underlying77 sz76 hb41 hl41 hu41) ?_
 obtain ⟨v_42, hs42, hc42, h⟩ := h
 refine sR (.agg v_42) (w_loadN rfl underlying76 rfl sz76 hs42 hc42) ?_
 refine s_ef (k_call (vs := [(.pointer v_5), (.agg v_42)]) cb68 (evC h5 (evC rfl evN)) (h.mono ?_))
 clear h; rintro v F ⟨rfl, h⟩
 refine HL_nil ?_
 exact (show endQ prog f71 R .normal _ _ from ⟨_, res0 rfl, h⟩)
 replace h := h.2 hc
 clear hc
 refine HC_skip ?_
 exact (show endQ prog f71 R .normal _ _ from ⟨_, res0 rfl, h⟩)
 refine HC_region ?_
 obtain ⟨v3a__1, rfl, h⟩ := h
 obtain ⟨v_12, hc12, h⟩ := h
 refine sR (.pointer v_12) (r_load1 rfl rfl underlying61 rfl hc12) ?_
 obtain ⟨v12a_, rfl, h⟩ := h
 refine sR (.pointer (some v12a_)) (r_nilCheck rfl rfl) ?_
 refine sR (.pointer (some v12a_)) (w_fieldAddr rfl underlying79 rfl rfl sz25 rfl rfl) ?_
 obtain ⟨v_15, hc15, h⟩ := h
 refine sR (Sl.v v_15) (r_load1 rfl rfl underlying25 rfl hc15) ?_
 refine sR (.int .i64 i_0) (r_move rfl rfl) ?_
 obtain ⟨a17_, hb17, hl17, hu17, h⟩ := h
 refine sR (.pointer (some (Addr.add a17_ (Int.toNat i_0 * 5)))) (w_indexAddr rfl rfl underlying25 sz50 hb17 hl17 hu17) ?_
 refine sR (.pointer (some (Addr.add (Addr.add a17_ (Int.toNat i_0 * 5)) 1))) (w_fieldAddr rfl underlying50 rfl rfl sz3 rfl rfl) ?_
 obtain ⟨v_19, hc19, h⟩ := h
 refine sR (.int .i64 v_19) (r_load1 rfl rfl underlying3 rfl hc19) ?_
 refine sR (.int .i64 (IntKind.i64.wrap v_10)) (r_move rfl rfl) ?_
 refine sR (.bool (decide (v_19 ≤ (IntKind.i64.wrap v_10)))) (r_leq rfl rfl rfl) ?_
 refine sR (.bool (decide (v_19 ≤ (IntKind.i64.wrap v_10)))) (r_move rfl rfl) ?_
 by_cases hc : v_19 ≤ (IntKind.i64.wrap v_10)
 replace h := h.1 hc
 refine kN 21 (decide_eq_true hc) ?_
 refine kN 22 (decide_eq_true hc) ?_
 refine sR (.int .i64 (IntKind.i64.wrap v_10)) (r_move rfl rfl) ?_
 obtain ⟨v_24, hc24, h⟩ := h
 refine sR (.pointer v_24) (r_load1 rfl rfl underlying61 rfl hc24) ?_
 obtain ⟨v24a_, rfl, h⟩ := h
 refine sR (.pointer (some v24a_)) (r_nilCheck rfl rfl) ?_
 refine sR (.pointer (some v24a_)) (w_fieldAddr rfl underlying79 rfl rfl sz25 rfl rfl) ?_
 obtain ⟨v_27, hc27, h⟩ := h
 refine sR (Sl.v v_27) (r_load1 rfl rfl underlying25 rfl hc27) ?_
 refine sR (.int .i64 i_0) (r_move rfl rfl) ?_
 obtain ⟨a29_, hb29, hl29, hu29, h⟩ := h
 refine sR (.pointer (some (Addr.add a29_ (Int.toNat i_0 * 5)))) (w_indexAddr rfl rfl underlying25 sz50 hb29 hl29 hu29) ?_
 refine sR (.pointer (some (Addr.add (Addr.add a29_ (Int.toNat i_0 * 5)) 2))) (w_fieldAddr rfl underlying50 rfl rfl sz3 rfl rfl) ?_
 obtain ⟨v_31, hc31, h⟩ := h
 refine sR (.int .i64 v_31) (r_load1 rfl rfl underlying3 rfl hc31) ?_
 refine sR (.bool (decide ((IntKind.i64.wrap v_10) ≤ v_31))) (r_leq rfl rfl rfl) ?_
 refine sR (.bool (decide ((IntKind.i64.wrap v_10) ≤ v_31))) (r_pt rfl rfl) ?_
 refine HL_nil ?_
 show b71J1 i_0 (some v3a__1) v_4 v_5 R _ _
 exact ⟨_, rfl, rfl, rfl, rfl, rfl, h⟩
 replace h := h.2 hc
 refine kN 21 (decide_eq_false hc) ?_
 refine kN 22 (decide_eq_false hc) ?_
 iterate 10 refine s_skip ?_
 refine sR (.bool false) (r_pf rfl rfl) ?_
 refine HL_nil ?_
 show b71J1 i_0 (some v3a__1) v_4 v_5 R _ _
 exact ⟨_, rfl, rfl, rfl, rfl, rfl, h⟩
 /- 43 (*koine.pattern.machine).run -/
def b43L1 (N1 : Int → PH → Prop) (f_2 : Value) (b3 : Nat) (b4 : Nat) (b6 : Nat) (v_14 : ByteArray) (R : VP) (v_16 : Int) (F : PH) :=
 ((v_16 < (v_14.size : Int) →
  ∀ b7, F b7 = none → atF (F.set b7 (.cells (#[.int .i64 0]) 3)) fun F =>
  ∃ c e, F (Addr.mk b7 0 none).block = some (.cells c e (0, 0)) ∧ (Addr.mk b7 0 none).spot = none ∧ (Addr.mk b7 0 none).off < c.size ∧
  atF (F.set (Addr.mk b7 0 none).block (.cells (c.setIfInBounds (Addr.mk b7 0 none).off (.int .i64 v_16)) e)) fun F =>
  ∀ b8, F b8 = none → atF (F.set b8 (.cells (#[.int .u64 0, .int .u64 0, .int .u64 0, .int .u64 0, .int .u64 0, .int .u64 0, .int .u64 0, .int .u64 0]) 76)) fun F =>
  ∀ b9, F b9 = none → atF (F.set b9 (.cells (#[.int .u64 0, .int .u64 0, .int .u64 0, .int .u64 0, .int .u64 0, .int .u64 0, .int .u64 0, .int .u64 0]) 76)) fun F =>
  Spec prog 66 #[(.pointer (some (Addr.mk b6 0 none))), (.func (.func 71) #[] #[(.pointer (some (Addr.mk b4 0 none))), (.pointer (some (Addr.mk b7 0 none))), (.pointer (some (Addr.mk b3 0 none))), (.pointer (some (Addr.mk b8 0 none))), (.pointer (some (Addr.mk b9 0 none)))])] F fun v F => v = Value.tuple #[] ∧
  ∃ v_21 : Array Value, v_21.size = 8 ∧ F.row (Addr.mk b8 0 none) v_21 ∧
  ∃ v_23 : Bool, (∀ F, rdo prog (Op.equal 76 (.agg v_21) (.agg (#[.int .u64 0, .int .u64 0, .int .u64 0, .int .u64 0, .int .u64 0, .int .u64 0, .int .u64 0, .int .u64 0] : Array Value))) F v_23) ∧
  ((v_23 = true →
   R (.tuple #[]) F) ∧
  (v_23 = false →
   ∃ v_26 : Int, F.cell (Addr.mk b7 0 none) = some (.int .i64 v_26) ∧
   ∃ v_28 : Option Addr, F.cell (Addr.mk b3 0 none) = some (.pointer v_28) ∧
   ∃ v28a_ : Addr, v_28 = some v28a_ ∧ ∃ v_31 : Array Value, v_31.size = 8 ∧ F.row (Addr.add v28a_ 9) v_31 ∧
   Spec prog 72 #[(.pointer (some (Addr.mk b8 0 none))), (.agg v_31)] F fun v F => ∃ v_32 : Bool, v = (.bool v_32) ∧
   F.cell (Addr.mk b3 0 none) = some (Value.pointer v_28) ∧ F.cell (Addr.mk b7 0 none) = some (Value.int .i64 v_26) ∧ F.row (Addr.mk b8 0 none) v_21 ∧ ∃ (k33 : Nat) (fst33 cap33 : Array Value), f_2 = Value.func (.func k33) fst33 cap33 ∧ callableB prog k33 = true ∧ Spec prog k33 (fst33 ++ ([(Value.int .i64 (IntKind.i64.wrap (v_26 + 1))), (Value.bool v_32)]).toArray ++ cap33) F fun v F => ∃ v_33 : Bool, v = (Value.bool v_33) ∧
   F.cell (Addr.mk b3 0 none) = some (.pointer v_28) ∧ F.cell (Addr.mk b7 0 none) = some (.int .i64 v_26) ∧ F.row (Addr.mk b8 0 none) v_21 ∧ (((!v_33) = true →
    R (.tuple #[]) F) ∧
   ((!v_33) = false →
    ∃ v_36 : Array Value, v_36.size = 8 ∧ F.row (Addr.mk b9 0 none) v_36 ∧
    v_36.size = 8 ∧ (∀ v ∈ v_36.toList, storable v) ∧ ∃ c e, F (Addr.mk b6 0 none).block = some (.cells c e (0, 0)) ∧ (Addr.mk b6 0 none).spot = none ∧ (Addr.mk b6 0 none).off + 8 ≤ c.size ∧
    atF (F.set (Addr.mk b6 0 none).block (.cells (wr c (Addr.mk b6 0 none).off v_36.toList) e)) fun F =>
    N1 (IntKind.i64.wrap (v_16 + 1)) F))))) ∧
 (¬ (v_16 < (v_14.size : Int)) →
  R (.tuple #[]) F))
def b43 (vm_0 : Option Addr) (s_1 : ByteArray) (f_2 : Value) (R : VP) (F : PH) :=
 ∀ b3, F b3 = none → atF (F.set b3 (.cells #[(.pointer vm_0)] 61)) fun F =>
 ∀ b4, F b4 = none → atF (F.set b4 (.cells #[(.string s_1)] 9)) fun F =>
 ∃ v_10 : Option Addr, F.cell (Addr.mk b3 0 none) = some (.pointer v_10) ∧
 ∃ v10a_ : Addr, v_10 = some v10a_ ∧ ∃ v_13 : Array Value, v_13.size = 8 ∧ F.row (Addr.add v10a_ 1) v_13 ∧
 ∀ b6, F b6 = none → atF (F.set b6 (.cells (#[.int .u64 0, .int .u64 0, .int .u64 0, .int .u64 0, .int .u64 0, .int .u64 0, .int .u64 0, .int .u64 0]) 76)) fun F =>
 v_13.size = 8 ∧ (∀ v ∈ v_13.toList, storable v) ∧ ∃ c e, F (Addr.mk b6 0 none).block = some (.cells c e (0, 0)) ∧ (Addr.mk b6 0 none).spot = none ∧ (Addr.mk b6 0 none).off + 8 ≤ c.size ∧
 atF (F.set (Addr.mk b6 0 none).block (.cells (wr c (Addr.mk b6 0 none).off v_13.toList) e)) fun F =>
 ∃ v_14 : ByteArray, F.cell (Addr.mk b4 0 none) = some (.string v_14) ∧
 (∃ (I1 : Nat → Int → PH → Prop) (m1 : Nat), I1 m1 0 F ∧ ∀ m1 v_16 F, I1 m1 v_16 F →
  b43L1 (nx1 I1 m1) f_2 b3 b4 b6 v_14 R v_16 F)
theorem c43 {vm_0 : Option Addr} {s_1 : ByteArray} {f_2 : Value} {R : VP} {F : PH} (h : b43 vm_0 s_1 f_2 R F) : Spec prog 43 #[(.pointer vm_0), (.string s_1), f_2] F R := by
 refine spec_of (args := [(.pointer vm_0), (.string s_1), f_2]) func43 rfl ntmps43 rfl ?_
 unfold b43 at h
 refine cR ?_
 refine s_ef (k_box (cs := #[(.pointer vm_0)]) rfl rfl ?_)
 intro b3 hf_b3
 replace h := atE (h b3 hf_b3)
 refine s_ef (k_box (cs := #[(.string s_1)]) rfl rfl ?_)
 intro b4 hf_b4
 replace h := atE (h b4 hf_b4)
 refine HL_nil ?_
 refine cR ?_
 obtain ⟨v_10, hc10, h⟩ := h
 refine sR (.pointer v_10) (r_load1 rfl rfl underlying61 rfl hc10) ?_
 obtain ⟨v10a_, rfl, h⟩ := h
 refine sR (.pointer (some v10a_)) (r_nilCheck rfl rfl) ?_
 refine sR (.pointer (some (Addr.add v10a_ 1))) (w_fieldAddr rfl underlying79 rfl rfl sz76 rfl rfl) ?_
 obtain ⟨v_13, hs13, hc13, h⟩ := h
 refine sR (.agg v_13) (w_loadN rfl underlying76 rfl sz76 hs13 hc13) ?_
 refine s_ef (k_alloc zr76 ?_)
 intro b6 hf_b6
 replace h := atE (h b6 hf_b6)
 refine s_ef0 (k_storeN (vs := v_13) rfl rfl sz76 (by decide) ?_)
 obtain ⟨hz1, hz2, c, e, hz3, hz4, hz5, h⟩ := h
 refine ⟨hz1, hz2, c, e, hz3, hz4, hz5, ?_⟩
 replace h := atE h
 refine HL_nil ?_
 refine cR ?_
 obtain ⟨v_14, hc14, h⟩ := h
 refine sR (.string v_14) (r_load1 rfl rfl underlying9 rfl hc14) ?_
 refine sR (.int .i64 (v_14.size : Int)) (r_lenStr rfl rfl underlying9) ?_
 refine sR (.int .i64 0) (r_move rfl rfl) ?_
 refine HL_nil ?_
 refine HC_block ?_
 obtain ⟨I1, m1, hI0, hr⟩ := h
 refine HC_loop (fun m1 E F => ∃ v_16 : Int, E 2 = f_2 ∧ E 3 = (.pointer (some (Addr.mk b3 0 none))) ∧ E 4 = (.pointer (some (Addr.mk b4 0 none))) ∧ E 6 = (.pointer (some (Addr.mk b6 0 none))) ∧ E 15 = (.int .i64 (v_14.size : Int)) ∧ E 16 = (.int .i64 v_16) ∧ I1 m1 v_16 F) m1 ⟨_, rfl, rfl, rfl, rfl, rfl, rfl, hI0⟩ ?_
 clear hI0; rintro m1 E F ⟨v_16, h2, h3, h4, h6, h15, h16, hI⟩
 have h := hr m1 v_16 F hI
 clear hr hI
 unfold b43L1 at h
 refine cR (sR (.bool (decide (v_16 < (v_14.size : Int)))) (r_lss rfl h16 h15) ?_)
 refine HL_nil ?_
 refine HC_seq ?_
 refine HC_cond (t := (decide (v_16 < (v_14.size : Int)))) rfl (fun hc => ?_) (fun hc => ?_)
 replace h := h.1 (of_decide_eq_true hc)
 clear hc
 refine HC_skip ?_
 refine HC_seq ?_
 refine HC_block ?_
 refine cR (sR _ (r_move rfl h16) ?_)
 refine s_ef (k_alloc zr3 ?_)
 intro b7 hf_b7
 replace h := atE (h b7 hf_b7)
 refine s_ef0 (k_store1 (v := (.int .i64 v_16)) rfl rfl sz3 rfl st_int ?_)
 obtain ⟨c, e, hz3, hz4, hz5, h⟩ := h
 refine ⟨c, e, hz3, hz4, hz5, ?_⟩
 replace h := atE h
 refine HL_nil ?_
 refine cR ?_
 refine s_ef (k_alloc zr76 ?_)
 intro b8 hf_b8
 replace h := atE (h b8 hf_b8)
 refine s_ef (k_alloc zr76 ?_)
 intro b9 hf_b9
 replace h := atE (h b9 hf_b9)
 refine HL_nil ?_
 refine cR (sR (.func (.func 71) #[] #[(.pointer (some (Addr.mk b4 0 none))), (.pointer (some (Addr.mk b7 0 none))), (.pointer (some (Addr.mk b3 0 none))), (.pointer (some (Addr.mk b8 0 none))), (.pointer (some (Addr.mk b9 0 none)))]) (w_makeFunc evN (evC h4 (evC rfl (evC h3 (evC rfl (evC rfl evN)))))) ?_)
 refine s_ef (k_call (vs := [(.pointer (some (Addr.mk b6 0 none))), (.func (.func 71) #[] #[(.pointer (some (Addr.mk b4 0 none))), (.pointer (some (Addr.mk b7 0 none))), (.pointer (some (Addr.mk b3 0 none))), (.pointer (some (Addr.mk b8 0 none))), (.pointer (some (Addr.mk b9 0 none)))])]) cb66 (evC h6 (evC rfl evN)) (h.mono ?_))
 clear h; rintro v F ⟨rfl, h⟩
 refine HL_nil ?_
 refine HC_seq ?_
 refine HC_seq ?_
 refine HC_draw0 (by kernel_rfl) (fun hp => ?_)
 obtain ⟨v_21, hs21, hc21, h⟩ := h
 refine gR 0 (.agg v_21) rfl (w_loadN rfl underlying76 rfl sz76 hs21 hc21) hp (fun S0 q0 => ?_)
 replace hp := holdC (i := 0) (q0 _ (w_loadN rfl underlying76 rfl sz76 hs21 hc21)) hp
 refine gU 1 (.agg (#[.int .u64 0, .int .u64 0, .int .u64 0, .int .u64 0, .int .u64 0, .int .u64 0, .int .u64 0, .int .u64 0] : Array Value)) rfl (fun _ => w_buildArray (cells := #[.int .u64 0, .int .u64 0, .int .u64 0, .int .u64 0, .int .u64 0, .int .u64 0, .int .u64 0, .int .u64 0]) underlying76 zr76 sz74 (evPN) (fillN rfl)) hp ?_
 obtain ⟨v_23, hx23, h⟩ := h
 refine gU 2 (.bool v_23) rfl (fun _ => r_eqlAg rfl rfl rfl eg76 (hx23 _)) hp ?_
 refine gU 3 (.bool v_23) rfl (fun _ => r_move rfl rfl) hp ?_
 by_cases hc : v_23 = true
 replace h := h.1 hc
 refine RG_known (t := 23) (v := .bool true) (congrArg Value.bool hc) ?_
 refine RG_known (t := 24) (v := .bool true) (congrArg Value.bool hc) ?_
 refine gS 4 rfl hp ?_
 refine gS 5 rfl hp ?_
 refine gS 6 rfl hp ?_
 refine gS 7 rfl hp ?_
 refine gS 8 rfl hp ?_
 refine gS 9 rfl hp ?_
 refine gS 10 rfl hp ?_
 refine gS 11 rfl hp ?_
 refine gS 12 rfl hp ?_
 refine gS 13 rfl hp ?_
 refine gU 14 (.bool true) rfl (fun _ => r_pick rfl rfl (fun _ => rfl) (fun h => by cases h)) hp ?_
 refine RG_done (by kernel_rfl) ?_
 refine HC_condT rfl ?_
 exact HC_ret (show endQ prog f43 R .ret _ _ from ⟨_, res0 rfl, h⟩)
 replace hc := eq_false_of_ne_true hc; replace h := h.2 hc
 refine RG_known (t := 23) (v := .bool false) (congrArg Value.bool hc) ?_
 refine RG_known (t := 24) (v := .bool false) (congrArg Value.bool hc) ?_
 refine gU 4 f_2 rfl (fun _ => r_move rfl h2) hp ?_
 obtain ⟨v_26, hc26, h⟩ := h
 refine gR 5 (.int .i64 v_26) rfl (r_load1 rfl rfl underlying3 rfl hc26) hp (fun S5 q5 => ?_)
 replace hp := holdC (i := 5) (q5 _ (r_load1 rfl rfl underlying3 rfl hc26)) hp
 refine gU 6 (.int .i64 (IntKind.i64.wrap (v_26 + 1))) rfl (fun _ => r_add rfl rfl rfl) hp ?_
 obtain ⟨v_28, hc28, h⟩ := h
 refine gR 7 (.pointer v_28) rfl (r_load1 rfl h3 underlying61 rfl hc28) hp (fun S7 q7 => ?_)
 replace hp := holdC (i := 7) (q7 _ (r_load1 rfl h3 underlying61 rfl hc28)) hp
 obtain ⟨v28a_, rfl, h⟩ := h
 refine gU 8 (.pointer (some v28a_)) rfl (fun _ => r_nilCheck rfl rfl) hp ?_
 refine gU 9 (.pointer (some (Addr.add v28a_ 9))) rfl (fun _ => w_fieldAddr rfl underlying79 rfl rfl sz76 rfl rfl) hp ?_
 obtain ⟨v_31, hs31, hc31, h⟩ := h
 refine gR 10 (.agg v_31) rfl (w_loadN rfl underlying76 rfl sz76 hs31 hc31) hp (fun S10 q10 => ?_)
 replace hp := holdC (i := 10) (q10 _ (w_loadN rfl underlying76 rfl sz76 hs31 hc31)) hp
 refine RG_eff1 (i := 11) (by kernel_rfl) (g_op (Sp' := [(7, S7), (5, S5), (0, S0)]) rfl rfl (k_call (vs := [(.pointer (some (Addr.mk b8 0 none))), (.agg v_31)]) cb72 (evC rfl (evC rfl evN)) (h.mono ?_)))
 clear h; rintro v F ⟨v_32, rfl, h⟩
 obtain ⟨hk_43, hk_44, hk_45, h⟩ := h
 refine holdI (holdC (i := 7) (q7 _ (r_load1 rfl h3 underlying61 rfl hk_43)) (holdC (i := 5) (q5 _ (r_load1 rfl rfl underlying3 rfl hk_44)) (holdC (i := 0) (q0 _ (w_loadN rfl underlying76 rfl sz76 hs21 hk_45)) hold0))) (fun hp => ?_)
 obtain ⟨_, _, _, hk1, hk2, h⟩ := h
 refine RG_eff1 (i := 12) (by kernel_rfl) (g_op (Sp' := [(7, S7), (5, S5), (0, S0)]) rfl rfl (k_callF (vs := [(.int .i64 (IntKind.i64.wrap (v_26 + 1))), (.bool v_32)]) hk2 ((rfl : _ = f_2).trans hk1) (evC rfl (evC rfl evN)) (h.mono ?_)))
 clear h; rintro v F ⟨v_33, rfl, h⟩
 obtain ⟨hk_46, hk_47, hk_48, h⟩ := h
 refine holdI (holdC (i := 7) (q7 _ (r_load1 rfl h3 underlying61 rfl hk_46)) (holdC (i := 5) (q5 _ (r_load1 rfl rfl underlying3 rfl hk_47)) (holdC (i := 0) (q0 _ (w_loadN rfl underlying76 rfl sz76 hs21 hk_48)) hold0))) (fun hp => ?_)
 refine gU 13 (.bool (!v_33)) rfl (fun _ => r_not rfl rfl) hp ?_
 refine gU 14 (.bool (!v_33)) rfl (fun _ => r_pick rfl rfl (fun h => by cases h) (fun _ => rfl)) hp ?_
 refine RG_done (by kernel_rfl) ?_
 refine HC_cond (t := (!v_33)) rfl (fun hc => ?_) (fun hc => ?_)
 replace h := h.1 hc
 clear hc
 exact HC_ret (show endQ prog f43 R .ret _ _ from ⟨_, res0 rfl, h⟩)
 replace h := h.2 hc
 clear hc
 refine HC_skip ?_
 refine HC_region ?_
 obtain ⟨v_36, hs36, hc36, h⟩ := h
 refine sR (.agg v_36) (w_loadN rfl underlying76 rfl sz76 hs36 hc36) ?_
 refine s_ef0 (k_storeN (vs := v_36) h6 rfl sz76 (by decide) ?_)
 obtain ⟨hz1, hz2, c, e, hz3, hz4, hz5, h⟩ := h
 refine ⟨hz1, hz2, c, e, hz3, hz4, hz5, ?_⟩
 replace h := atE h
 refine HL_nil ?_
 refine HC_region ?_
 refine sR (.int .i64 (IntKind.i64.wrap (v_16 + 1))) (r_add rfl h16 rfl) ?_
 refine sR (.int .i64 (IntKind.i64.wrap (v_16 + 1))) (r_move rfl rfl) ?_
 refine HL_nil ?_
 obtain ⟨m', hm, h⟩ := h
 exact ⟨m', hm, _, h2, h3, h4, h6, h15, rfl, h⟩
 replace h := h.2 (of_decide_eq_false hc)
 clear hc
 refine HC_exit ?_
 exact (show endQ prog f43 R .normal _ _ from ⟨_, res0 rfl, h⟩)
 /- 44 koine.pattern.Longest$1 -/
def b44 (n_0 : Int) (is_1 : Bool) (v_2 : Option Addr) (R : VP) (F : PH) :=
 ((is_1 = true →
  ∃ v2a_ : Addr, v_2 = some v2a_ ∧ ∃ c e, F v2a_.block = some (.cells c e (0, 0)) ∧ v2a_.spot = none ∧ v2a_.off < c.size ∧
  atF (F.set v2a_.block (.cells (c.setIfInBounds v2a_.off (.int .i64 n_0)) e)) fun F =>
  R (.bool true) F) ∧
 (is_1 = false →
  R (.bool true) F))
theorem c44 {n_0 : Int} {is_1 : Bool} {v_2 : Option Addr} {R : VP} {F : PH} (h : b44 n_0 is_1 v_2 R F) : Spec prog 44 #[(.int .i64 n_0), (.bool is_1), (.pointer v_2)] F R := by
 refine spec_of (args := [(.int .i64 n_0), (.bool is_1), (.pointer v_2)]) func44 rfl ntmps44 rfl ?_
 unfold b44 at h
 refine cR (sR (.bool false) (r_assign rfl rfl) ?_)
 refine HL_nil ?_
 refine HC_seq ?_
 refine cR (sR (.bool is_1) (r_move rfl rfl) ?_)
 refine HL_nil ?_
 refine HC_cond (t := is_1) rfl (fun hc => ?_) (fun hc => ?_)
 replace h := h.1 hc
 clear hc
 refine HC_region ?_
 refine sR (.int .i64 n_0) (r_move rfl rfl) ?_
 obtain ⟨v2a_, rfl, h⟩ := h
 refine s_ef0 (k_store1 (v := (.int .i64 n_0)) rfl rfl sz3 rfl st_int ?_)
 obtain ⟨c, e, hz3, hz4, hz5, h⟩ := h
 refine ⟨c, e, hz3, hz4, hz5, ?_⟩
 replace h := atE h
 refine HL_nil ?_
 refine cR (sR (.bool true) (r_assign rfl rfl) ?_)
 exact HL_nil (HC_ret (rt1 f44 R rfl rfl h))
 replace h := h.2 hc
 clear hc
 refine HC_skip ?_
 refine cR (sR (.bool true) (r_assign rfl rfl) ?_)
 exact HL_nil (HC_ret (rt1 f44 R rfl rfl h))
 /- 17 koine.pattern.Longest -/
def b17 (p_0 : Sl) (s_1 : ByteArray) (at_2 : Int) (R : VP) (F : PH) :=
 Spec prog 21 #[(Sl.v p_0)] F fun v F => ∃ v_10 : Int, v = (.int .i64 v_10) ∧
 ((v_10 ≠ 0 →
  R (.tuple #[(.int .i64 0), (.bool false)]) F) ∧
 (¬ (v_10 ≠ 0) →
  ((at_2 < 0 →
   R (.tuple #[(.int .i64 0), (.bool false)]) F) ∧
  (¬ (at_2 < 0) →
   (((s_1.size : Int) < at_2 →
    R (.tuple #[(.int .i64 0), (.bool false)]) F) ∧
   (¬ ((s_1.size : Int) < at_2) →
    ∀ b8, F b8 = none → atF (F.set b8 (.cells (#[.int .i64 0]) 3)) fun F =>
    ∃ c e, F (Addr.mk b8 0 none).block = some (.cells c e (0, 0)) ∧ (Addr.mk b8 0 none).spot = none ∧ (Addr.mk b8 0 none).off < c.size ∧
    atF (F.set (Addr.mk b8 0 none).block (.cells (c.setIfInBounds (Addr.mk b8 0 none).off (.int .i64 0)) e)) fun F =>
    0 ≤ at_2 ∧ (Int.toNat at_2) ≤ s_1.size ∧ s_1.size ≤ s_1.size ∧ 
    Spec prog 42 #[(Sl.v p_0)] F fun v F => ∃ v_23 : Option Addr, v = (.pointer v_23) ∧
    Spec prog 43 #[(.pointer v_23), (.string (s_1.extract (Int.toNat at_2) s_1.size)), (.func (.func 44) #[] #[(.pointer (some (Addr.mk b8 0 none)))])] F fun v F => v = Value.tuple #[] ∧
    ∃ v_29 : Int, F.cell (Addr.mk b8 0 none) = some (.int .i64 v_29) ∧
    ∃ v_30 : Int, F.cell (Addr.mk b8 0 none) = some (.int .i64 v_30) ∧
    R (.tuple #[(.int .i64 v_29), (.bool (decide (0 < v_30)))]) F))))))
theorem c17 {p_0 : Sl} {s_1 : ByteArray} {at_2 : Int} {R : VP} {F : PH} (h : b17 p_0 s_1 at_2 R F) : Spec prog 17 #[(Sl.v p_0), (.string s_1), (.int .i64 at_2)] F R := by
 refine spec_of (args := [(Sl.v p_0), (.string s_1), (.int .i64 at_2)]) func17 rfl ntmps17 rfl ?_
 unfold b17 at h
 refine cR (sR (.int .i64 0) (r_assign rfl rfl) ?_)
 refine sR (.bool false) (r_assign rfl rfl) ?_
 refine HL_nil ?_
 refine HC_seq ?_
 refine cR (sR (Sl.v p_0) (r_move rfl rfl) ?_)
 refine s_ef (k_call (vs := [(Sl.v p_0)]) cb21 (evC rfl evN) (h.mono ?_))
 clear h; rintro v F ⟨v_10, rfl, h⟩
 refine sR (.bool (decide (v_10 ≠ 0))) (w_neq rfl rfl) ?_
 refine sR (.bool (decide (v_10 ≠ 0))) (r_move rfl rfl) ?_
 by_cases hc : v_10 ≠ 0
 replace h := h.1 hc
 refine kN 11 (decide_eq_true hc) ?_
 refine kN 12 (decide_eq_true hc) ?_
 iterate 2 refine s_skip ?_
 refine sR (.bool true) (r_pt rfl rfl) ?_
 refine sR (.bool true) (r_move rfl rfl) ?_
 iterate 4 refine s_skip ?_
 refine sR (.bool true) (r_pt rfl rfl) ?_
 refine HL_nil ?_
 refine HC_condT rfl ?_
 refine cR (sR (.int .i64 0) (r_assign rfl rfl) ?_)
 refine sR (.bool false) (r_assign rfl rfl) ?_
 exact HL_nil (HC_ret (rt2 f17 R rfl rfl rfl h))
 replace h := h.2 hc
 refine kN 11 (decide_eq_false hc) ?_
 refine kN 12 (decide_eq_false hc) ?_
 refine sR (.int .i64 at_2) (r_move rfl rfl) ?_
 refine sR (.bool (decide (at_2 < 0))) (r_lss rfl rfl rfl) ?_
 refine sR (.bool (decide (at_2 < 0))) (r_pf rfl rfl) ?_
 refine sR (.bool (decide (at_2 < 0))) (r_move rfl rfl) ?_
 by_cases hc : at_2 < 0
 replace h := h.1 hc
 refine kN 14 (decide_eq_true hc) ?_
 refine kN 15 (decide_eq_true hc) ?_
 refine kN 16 (decide_eq_true hc) ?_
 iterate 4 refine s_skip ?_
 refine sR (.bool true) (r_pt rfl rfl) ?_
 refine HL_nil ?_
 refine HC_condT rfl ?_
 refine cR (sR (.int .i64 0) (r_assign rfl rfl) ?_)
 refine sR (.bool false) (r_assign rfl rfl) ?_
 exact HL_nil (HC_ret (rt2 f17 R rfl rfl rfl h))
 replace h := h.2 hc
 refine kN 14 (decide_eq_false hc) ?_
 refine kN 15 (decide_eq_false hc) ?_
 refine kN 16 (decide_eq_false hc) ?_
 refine sR (.int .i64 at_2) (r_move rfl rfl) ?_
 refine sR (.string s_1) (r_move rfl rfl) ?_
 refine sR (.int .i64 (s_1.size : Int)) (r_lenStr rfl rfl underlying9) ?_
 refine sR (.bool (decide ((s_1.size : Int) < at_2))) (r_gtr rfl rfl rfl) ?_
 refine sR (.bool (decide ((s_1.size : Int) < at_2))) (r_pf rfl rfl) ?_
 refine HL_nil ?_
 refine HC_cond (t := (decide ((s_1.size : Int) < at_2))) rfl (fun hc => ?_) (fun hc => ?_)
 replace h := h.1 (of_decide_eq_true hc)
 clear hc
 refine cR (sR (.int .i64 0) (r_assign rfl rfl) ?_)
 refine sR (.bool false) (r_assign rfl rfl) ?_
 exact HL_nil (HC_ret (rt2 f17 R rfl rfl rfl h))
 replace h := h.2 (of_decide_eq_false hc)
 clear hc
 refine HC_skip ?_
 refine cR ?_
 refine s_ef (k_alloc zr3 ?_)
 intro b8 hf_b8
 replace h := atE (h b8 hf_b8)
 refine s_ef0 (k_store1 (v := (.int .i64 0)) rfl rfl sz3 rfl st_int ?_)
 obtain ⟨c, e, hz3, hz4, hz5, h⟩ := h
 refine ⟨c, e, hz3, hz4, hz5, ?_⟩
 replace h := atE h
 refine HL_nil ?_
 refine HC_seq ?_
 refine HC_draw0 (by kernel_rfl) (fun hp => ?_)
 refine gU 0 (Sl.v p_0) rfl (fun _ => r_move rfl rfl) hp ?_
 refine gU 2 (.string s_1) rfl (fun _ => r_move rfl rfl) hp ?_
 refine gU 3 (.int .i64 at_2) rfl (fun _ => r_move rfl rfl) hp ?_
 obtain ⟨hq26_0, hr26_0, hr26_1, h⟩ := h
 refine gU 4 (.string (s_1.extract (Int.toNat at_2) s_1.size)) rfl (fun _ => r_sliceStr rfl rfl underlying9 (bo_ev rfl hq26_0) bo_none hr26_0 hr26_1) hp ?_
 refine gU 5 (.func (.func 44) #[] #[(.pointer (some (Addr.mk b8 0 none)))]) rfl (fun _ => w_makeFunc evN (evC rfl evN)) hp ?_
 refine RG_eff1 (i := 1) (by kernel_rfl) (g_op (Sp' := []) rfl rfl (k_call (vs := [(Sl.v p_0)]) cb42 (evC rfl evN) (h.mono ?_)))
 clear h; rintro v F ⟨v_23, rfl, h⟩
 refine holdI hold0 (fun hp => ?_)
 refine RG_eff1 (i := 6) (by kernel_rfl) (g_op (Sp' := []) rfl rfl (k_call (vs := [(.pointer v_23), (.string (s_1.extract (Int.toNat at_2) s_1.size)), (.func (.func 44) #[] #[(.pointer (some (Addr.mk b8 0 none)))])]) cb43 (evC rfl (evC rfl (evC rfl evN))) (h.mono ?_)))
 clear h; rintro v F ⟨rfl, h⟩
 refine holdI hold0 (fun hp => ?_)
 refine RG_done (by kernel_rfl) ?_
 refine HC_seq ?_
 refine HC_draw0 (by kernel_rfl) (fun hp => ?_)
 obtain ⟨v_29, hc29, h⟩ := h
 refine gR 0 (.int .i64 v_29) rfl (r_load1 rfl rfl underlying3 rfl hc29) hp (fun S0 q0 => ?_)
 replace hp := holdC (i := 0) (q0 _ (r_load1 rfl rfl underlying3 rfl hc29)) hp
 obtain ⟨v_30, hc30, h⟩ := h
 refine gR 1 (.int .i64 v_30) rfl (r_load1 rfl rfl underlying3 rfl hc30) hp (fun S1 q1 => ?_)
 replace hp := holdC (i := 1) (q1 _ (r_load1 rfl rfl underlying3 rfl hc30)) hp
 refine gU 2 (.bool (decide (0 < v_30))) rfl (fun _ => r_gtr rfl rfl rfl) hp ?_
 refine gU 3 (.int .i64 v_29) rfl (fun _ => r_assign rfl rfl) hp ?_
 refine gU 4 (.bool (decide (0 < v_30))) rfl (fun _ => r_assign rfl rfl) hp ?_
 refine RG_done (by kernel_rfl) ?_
 exact HC_ret (rt2 f17 R rfl rfl rfl h)
 /- 53 koine.pattern.Matches$1 -/
def b53 (n_0 : Int) (is_1 : Bool) (v_2 : Option Addr) (v_3 : Option Addr) (R : VP) (F : PH) :=
 ∃ v2a_ : Addr, v_2 = some v2a_ ∧ ∃ v_8 : ByteArray, F.cell v2a_ = some (.string v_8) ∧
 ((n_0 = (v_8.size : Int) →
  ∃ v3a_ : Addr, v_3 = some v3a_ ∧ ∃ c e, F v3a_.block = some (.cells c e (0, 0)) ∧ v3a_.spot = none ∧ v3a_.off < c.size ∧
  atF (F.set v3a_.block (.cells (c.setIfInBounds v3a_.off (.bool is_1)) e)) fun F =>
  R (.bool true) F) ∧
 (¬ (n_0 = (v_8.size : Int)) →
  ∃ v3a__1 : Addr, v_3 = some v3a__1 ∧ ∃ c e, F v3a__1.block = some (.cells c e (0, 0)) ∧ v3a__1.spot = none ∧ v3a__1.off < c.size ∧
  atF (F.set v3a__1.block (.cells (c.setIfInBounds v3a__1.off (.bool false)) e)) fun F =>
  R (.bool true) F))
theorem c53 {n_0 : Int} {is_1 : Bool} {v_2 : Option Addr} {v_3 : Option Addr} {R : VP} {F : PH} (h : b53 n_0 is_1 v_2 v_3 R F) : Spec prog 53 #[(.int .i64 n_0), (.bool is_1), (.pointer v_2), (.pointer v_3)] F R := by
 refine spec_of (args := [(.int .i64 n_0), (.bool is_1), (.pointer v_2), (.pointer v_3)]) func53 rfl ntmps53 rfl ?_
 unfold b53 at h
 refine cR (sR (.bool false) (r_assign rfl rfl) ?_)
 refine HL_nil ?_
 refine cR (sR (.int .i64 n_0) (r_move rfl rfl) ?_)
 obtain ⟨v2a_, rfl, h⟩ := h
 obtain ⟨v_8, hc8, h⟩ := h
 refine sR (.string v_8) (r_load1 rfl rfl underlying9 rfl hc8) ?_
 refine sR (.int .i64 (v_8.size : Int)) (r_lenStr rfl rfl underlying9) ?_
 refine sR (.bool (decide (n_0 = (v_8.size : Int)))) (w_eql rfl rfl) ?_
 refine sR (.bool (decide (n_0 = (v_8.size : Int)))) (r_move rfl rfl) ?_
 by_cases hc : n_0 = (v_8.size : Int)
 replace h := h.1 hc
 refine kN 10 (decide_eq_true hc) ?_
 refine kN 11 (decide_eq_true hc) ?_
 refine sR (.bool is_1) (r_move rfl rfl) ?_
 refine sR (.bool is_1) (r_pt rfl rfl) ?_
 obtain ⟨v3a_, rfl, h⟩ := h
 refine s_ef0 (k_store1 (v := (.bool is_1)) rfl rfl sz4 rfl st_bool ?_)
 obtain ⟨c, e, hz3, hz4, hz5, h⟩ := h
 refine ⟨c, e, hz3, hz4, hz5, ?_⟩
 replace h := atE h
 refine HL_nil ?_
 refine cR (sR (.bool true) (r_assign rfl rfl) ?_)
 exact HL_nil (HC_ret (rt1 f53 R rfl rfl h))
 replace h := h.2 hc
 refine kN 10 (decide_eq_false hc) ?_
 refine kN 11 (decide_eq_false hc) ?_
 refine s_skip ?_
 refine sR (.bool false) (r_pf rfl rfl) ?_
 obtain ⟨v3a__1, rfl, h⟩ := h
 refine s_ef0 (k_store1 (v := (.bool false)) rfl rfl sz4 rfl st_bool ?_)
 obtain ⟨c, e, hz3, hz4, hz5, h⟩ := h
 refine ⟨c, e, hz3, hz4, hz5, ?_⟩
 replace h := atE h
 refine HL_nil ?_
 refine cR (sR (.bool true) (r_assign rfl rfl) ?_)
 exact HL_nil (HC_ret (rt1 f53 R rfl rfl h))
 /- 23 koine.pattern.Matches -/
def b23j1 (b3 : Nat) (v_11 : Option Addr) (matched_6 : Option Addr) (R : VP) (F : PH) :=
 ∃ v_21 : ByteArray, F.cell (Addr.mk b3 0 none) = some (.string v_21) ∧
 Spec prog 43 #[(.pointer v_11), (.string v_21), (.func (.func 53) #[] #[(.pointer (some (Addr.mk b3 0 none))), (.pointer matched_6)])] F fun v F => v = Value.tuple #[] ∧
 ∃ matched6a_ : Addr, matched_6 = some matched6a_ ∧ ∃ v_24 : Bool, F.cell matched6a_ = some (.bool v_24) ∧
 R (.bool v_24) F
abbrev b23J1 (b3 : Nat) (v_11 : Option Addr) (R : VP) (E : En) (F : PH) : Prop := ∃ matched_6 : Option Addr, E 3 = (.pointer (some (Addr.mk b3 0 none))) ∧ E 5 = (.pointer v_11) ∧ E 6 = (.pointer matched_6) ∧ b23j1 b3 v_11 matched_6 R F
def b23 (p_0 : Sl) (s_1 : ByteArray) (R : VP) (F : PH) :=
 ∀ b3, F b3 = none → atF (F.set b3 (.cells #[(.string s_1)] 9)) fun F =>
 Spec prog 21 #[(Sl.v p_0)] F fun v F => ∃ v_8 : Int, v = (.int .i64 v_8) ∧
 ((v_8 ≠ 0 →
  R (.bool false) F) ∧
 (¬ (v_8 ≠ 0) →
  Spec prog 42 #[(Sl.v p_0)] F fun v F => ∃ v_11 : Option Addr, v = (.pointer v_11) ∧
  ∃ v_12 : ByteArray, F.cell (Addr.mk b3 0 none) = some (.string v_12) ∧
  (((v_12.toList == (ByteArray.mk #[]).toList) = true →
   ∃ v11a_ : Addr, v_11 = some v11a_ ∧ ∃ v_18 : Bool, F.cell (Addr.add v11a_ 18) = some (.bool v_18) ∧
   ∀ b6, F b6 = none → atF (F.set b6 (.cells (#[.bool false]) 4)) fun F =>
   ∃ c e, F (Addr.mk b6 0 none).block = some (.cells c e (0, 0)) ∧ (Addr.mk b6 0 none).spot = none ∧ (Addr.mk b6 0 none).off < c.size ∧
   atF (F.set (Addr.mk b6 0 none).block (.cells (c.setIfInBounds (Addr.mk b6 0 none).off (.bool v_18)) e)) fun F =>
   b23j1 b3 (some v11a_) (some (Addr.mk b6 0 none)) R F) ∧
  ((v_12.toList == (ByteArray.mk #[]).toList) = false →
   ∀ b6_1, F b6_1 = none → atF (F.set b6_1 (.cells (#[.bool false]) 4)) fun F =>
   ∃ c e, F (Addr.mk b6_1 0 none).block = some (.cells c e (0, 0)) ∧ (Addr.mk b6_1 0 none).spot = none ∧ (Addr.mk b6_1 0 none).off < c.size ∧
   atF (F.set (Addr.mk b6_1 0 none).block (.cells (c.setIfInBounds (Addr.mk b6_1 0 none).off (.bool false)) e)) fun F =>
   b23j1 b3 v_11 (some (Addr.mk b6_1 0 none)) R F))))
theorem c23 {p_0 : Sl} {s_1 : ByteArray} {R : VP} {F : PH} (h : b23 p_0 s_1 R F) : Spec prog 23 #[(Sl.v p_0), (.string s_1)] F R := by
 refine spec_of (args := [(Sl.v p_0), (.string s_1)]) func23 rfl ntmps23 rfl ?_
 unfold b23 at h
 refine cR ?_
 refine s_ef (k_box (cs := #[(.string s_1)]) rfl rfl ?_)
 intro b3 hf_b3
 replace h := atE (h b3 hf_b3)
 refine sR (.bool false) (r_assign rfl rfl) ?_
 refine HL_nil ?_
 refine HC_seq ?_
 refine cR (sR (Sl.v p_0) (r_move rfl rfl) ?_)
 refine s_ef (k_call (vs := [(Sl.v p_0)]) cb21 (evC rfl evN) (h.mono ?_))
 clear h; rintro v F ⟨v_8, rfl, h⟩
 refine sR (.bool (decide (v_8 ≠ 0))) (w_neq rfl rfl) ?_
 refine HL_nil ?_
 refine HC_cond (t := (decide (v_8 ≠ 0))) rfl (fun hc => ?_) (fun hc => ?_)
 replace h := h.1 (of_decide_eq_true hc)
 clear hc
 refine cR (sR (.bool false) (r_assign rfl rfl) ?_)
 exact HL_nil (HC_ret (rt1 f23 R rfl rfl h))
 replace h := h.2 (of_decide_eq_false hc)
 clear hc
 refine HC_skip ?_
 refine cR (sR (Sl.v p_0) (r_move rfl rfl) ?_)
 refine s_ef (k_call (vs := [(Sl.v p_0)]) cb42 (evC rfl evN) (h.mono ?_))
 clear h; rintro v F ⟨v_11, rfl, h⟩
 refine sR (.pointer v_11) (r_assign rfl rfl) ?_
 refine HL_nil ?_
 refine HC_seqJ (b23J1 b3 v_11 R) ?_ ?_
 clear h; rintro E F ⟨matched_6, h3, h5, h6, h⟩
 unfold b23j1 at h
 refine cR (sR _ (r_move rfl h5) ?_)
 obtain ⟨v_21, hc21, h⟩ := h
 refine sR (.string v_21) (r_load1 rfl h3 underlying9 rfl hc21) ?_
 refine sR (.func (.func 53) #[] #[(.pointer (some (Addr.mk b3 0 none))), (.pointer matched_6)]) (w_makeFunc evN (evC h3 (evC h6 evN))) ?_
 refine s_ef (k_call (vs := [(.pointer v_11), (.string v_21), (.func (.func 53) #[] #[(.pointer (some (Addr.mk b3 0 none))), (.pointer matched_6)])]) cb43 (evC rfl (evC rfl (evC rfl evN))) (h.mono ?_))
 clear h; rintro v F ⟨rfl, h⟩
 refine HL_nil ?_
 refine cR ?_
 obtain ⟨matched6a_, rfl, h⟩ := h
 obtain ⟨v_24, hc24, h⟩ := h
 refine sR (.bool v_24) (r_load1 rfl h6 underlying4 rfl hc24) ?_
 refine sR (.bool v_24) (r_assign rfl rfl) ?_
 exact HL_nil (HC_ret (rt1 f23 R rfl rfl h))
 refine HC_region ?_
 obtain ⟨v_12, hc12, h⟩ := h
 refine sR (.string v_12) (r_load1 rfl rfl underlying9 rfl hc12) ?_
 refine sR (.bool (v_12.toList == (ByteArray.mk #[]).toList)) (r_eqlS rfl rfl rfl) ?_
 refine sR (.bool (v_12.toList == (ByteArray.mk #[]).toList)) (r_move rfl rfl) ?_
 by_cases hc : (v_12.toList == (ByteArray.mk #[]).toList) = true
 replace h := h.1 hc
 refine kN 13 hc ?_
 refine kN 14 hc ?_
 refine sR (.pointer v_11) (r_move rfl rfl) ?_
 obtain ⟨v11a_, rfl, h⟩ := h
 refine sR (.pointer (some v11a_)) (r_nilCheck rfl rfl) ?_
 refine sR (.pointer (some (Addr.add v11a_ 18))) (w_fieldAddr rfl underlying79 rfl rfl sz4 rfl rfl) ?_
 obtain ⟨v_18, hc18, h⟩ := h
 refine sR (.bool v_18) (r_load1 rfl rfl underlying4 rfl hc18) ?_
 refine sR (.bool v_18) (r_pt rfl rfl) ?_
 refine s_ef (k_alloc zr4 ?_)
 intro b6 hf_b6
 replace h := atE (h b6 hf_b6)
 refine s_ef0 (k_store1 (v := (.bool v_18)) rfl rfl sz4 rfl st_bool ?_)
 obtain ⟨c, e, hz3, hz4, hz5, h⟩ := h
 refine ⟨c, e, hz3, hz4, hz5, ?_⟩
 replace h := atE h
 refine HL_nil ?_
 show b23J1 b3 (some v11a_) R _ _
 exact ⟨_, rfl, rfl, rfl, h⟩
 replace hc := eq_false_of_ne_true hc; replace h := h.2 hc
 refine kN 13 hc ?_
 refine kN 14 hc ?_
 iterate 4 refine s_skip ?_
 refine sR (.bool false) (r_pf rfl rfl) ?_
 refine s_ef (k_alloc zr4 ?_)
 intro b6_1 hf_b6_1
 replace h := atE (h b6_1 hf_b6_1)
 refine s_ef0 (k_store1 (v := (.bool false)) rfl rfl sz4 rfl st_bool ?_)
 obtain ⟨c, e, hz3, hz4, hz5, h⟩ := h
 refine ⟨c, e, hz3, hz4, hz5, ?_⟩
 replace h := atE h
 refine HL_nil ?_
 show b23J1 b3 v_11 R _ _
 exact ⟨_, rfl, rfl, rfl, h⟩
 /- 54 koine.koineref04.has -/
set_option maxHeartbeats 4000000
/- 73 koine.koineref04.together -/
def b45j2 (out_10 : Sl) (R : VP) (F : PH) :=
 R (Sl.v out_10) F
def b45L1 (N1 : Sl → Int → PH → Prop) (p_0 : Sl) (s_2 : ByteArray) (b9 : Nat) (R : VP) (out_10_1 : Sl) (n_12 : Int) (F : PH) :=
 ((n_12 < (out_10_1.len : Int) →
  ∃ v_109 : Int, F.cell (Addr.mk b9 3 none) = some (.int .i64 v_109) ∧
  Spec prog 45 #[(Sl.v p_0), (.int .i64 v_109), (.string s_2), (Sl.v out_10_1)] F fun v F => ∃ v_112 : Sl, v = (Sl.v v_112) ∧
  Spec prog 73 #[(Sl.v out_10_1), (Sl.v v_112)] F fun v F => ∃ v_113 : Sl, v = (Sl.v v_113) ∧
  N1 v_113 (out_10_1.len : Int) F) ∧
 (¬ (n_12 < (out_10_1.len : Int)) →
  b45j2 out_10_1 R F))
def b45j1 (p_0 : Sl) (s_2 : ByteArray) (from_3 : Sl) (b9 : Nat) (R : VP) (F : PH) :=
 (∃ (I1 : Nat → Sl → Int → PH → Prop) (m1 : Nat), I1 m1 from_3 (-1 : Int) F ∧ ∀ m1 out_10_1 n_12 F, I1 m1 out_10_1 n_12 F →
  b45L1 (nx2 I1 m1) p_0 s_2 b9 R out_10_1 n_12 F)
def b45j3 (out_10_2 : Sl) (R : VP) (F : PH) :=
 R (Sl.v out_10_2) F
def b45j4 (N2 : Sl → Int → PH → Prop) (s_2 : ByteArray) (from_3 : Sl) (b9 : Nat) (k_11 : Int) (out_10_4 : Sl) (R : VP) (F : PH) :=
 N2 out_10_4 (IntKind.i64.wrap (k_11 + 1)) F
def b45j5 (N2 : Sl → Int → PH → Prop) (s_2 : ByteArray) (from_3 : Sl) (b9 : Nat) (out_10_3 : Sl) (k_11 : Int) (v_61 : Bool) (R : VP) (F : PH) :=
 ((v_61 = true →
  ∃ a65_ : Addr, from_3.base = some a65_ ∧ 0 ≤ k_11 ∧ k_11 < (from_3.len : Int) ∧
  ∃ v_66 : Int, F.cell (Addr.add a65_ (Int.toNat k_11 * 1)) = some (.int .i64 v_66) ∧
  ∀ b68, F b68 = none → atF (F.set b68 (.cells #[(.int .i64 (IntKind.i64.wrap (v_66 + 1)))] 3)) fun F =>
  runs prog (Builtin.append_ #[53, 53] 53 #[(Sl.v out_10_3), (Sl.v (Sl.mk (some (Addr.mk b68 0 none)) 1 1))]) F fun v F => ∃ v_69 : Sl, v = (Sl.v v_69) ∧
  b45j4 N2 s_2 from_3 b9 k_11 v_69 R F) ∧
 (v_61 = false →
  b45j4 N2 s_2 from_3 b9 k_11 out_10_3 R F))
def b45L2 (N2 : Sl → Int → PH → Prop) (s_2 : ByteArray) (from_3 : Sl) (b9 : Nat) (R : VP) (out_10_3 : Sl) (k_11 : Int) (F : PH) :=
 ((k_11 < (from_3.len : Int) →
  ∃ a33_ : Addr, from_3.base = some a33_ ∧ 0 ≤ k_11 ∧ k_11 < (from_3.len : Int) ∧
  ∃ v_34 : Int, F.cell (Addr.add a33_ (Int.toNat k_11 * 1)) = some (.int .i64 v_34) ∧
  ((v_34 < (s_2.size : Int) →
   ∃ a42_ : Addr, from_3.base = some a42_ ∧ 0 ≤ k_11 ∧ k_11 < (from_3.len : Int) ∧
   ∃ v_43 : Int, F.cell (Addr.add a42_ (Int.toNat k_11 * 1)) = some (.int .i64 v_43) ∧
   0 ≤ v_43 ∧ v_43 < (s_2.size : Int) ∧
   ∃ (hx : Int.toNat v_43 < s_2.size) (v_44 : Int), v_44 = ((s_2[Int.toNat v_43]'hx).toNat : Int) ∧
   ∃ v_47 : Int, F.cell (Addr.mk b9 1 none) = some (.int .i64 v_47) ∧
   ((v_47 ≤ (IntKind.i64.wrap v_44) →
    ∃ a54_ : Addr, from_3.base = some a54_ ∧ 0 ≤ k_11 ∧ k_11 < (from_3.len : Int) ∧
    ∃ v_55 : Int, F.cell (Addr.add a54_ (Int.toNat k_11 * 1)) = some (.int .i64 v_55) ∧
    0 ≤ v_55 ∧ v_55 < (s_2.size : Int) ∧
    ∃ (hx : Int.toNat v_55 < s_2.size) (v_56 : Int), v_56 = ((s_2[Int.toNat v_55]'hx).toNat : Int) ∧
    ∃ v_59 : Int, F.cell (Addr.mk b9 2 none) = some (.int .i64 v_59) ∧
    b45j5 N2 s_2 from_3 b9 out_10_3 k_11 (decide ((IntKind.i64.wrap v_56) ≤ v_59)) R F) ∧
   (¬ (v_47 ≤ (IntKind.i64.wrap v_44)) →
    b45j5 N2 s_2 from_3 b9 out_10_3 k_11 false R F))) ∧
  (¬ (v_34 < (s_2.size : Int)) →
   b45j5 N2 s_2 from_3 b9 out_10_3 k_11 false R F))) ∧
 (¬ (k_11 < (from_3.len : Int)) →
  b45j3 out_10_3 R F))
def b45 (p_0 : Sl) (i_1 : Int) (s_2 : ByteArray) (from_3 : Sl) (R : VP) (F : PH) :=
 ∃ a15_ : Addr, p_0.base = some a15_ ∧ 0 ≤ i_1 ∧ i_1 < (p_0.len : Int) ∧
 ∃ v_16 : Array Value, v_16.size = 5 ∧ F.row (Addr.add a15_ (Int.toNat i_1 * 5)) v_16 ∧
 ∀ b9, F b9 = none → atF (F.set b9 (.cells (#[.int .i64 0, .int .i64 0, .int .i64 0, .int .i64 0, .int .i64 0]) 50)) fun F =>
 v_16.size = 5 ∧ (∀ v ∈ v_16.toList, storable v) ∧ ∃ c e, F (Addr.mk b9 0 none).block = some (.cells c e (0, 0)) ∧ (Addr.mk b9 0 none).spot = none ∧ (Addr.mk b9 0 none).off + 5 ≤ c.size ∧
 atF (F.set (Addr.mk b9 0 none).block (.cells (wr c (Addr.mk b9 0 none).off v_16.toList) e)) fun F =>
 ∀ b17, F b17 = none → atF (F.set b17 (.cells #[] 3)) fun F =>
 ∃ v_19 : Int, F.cell (Addr.mk b9 0 none) = some (.int .i64 v_19) ∧
 ((v_19 = 0 →
  R (Sl.v from_3) F) ∧
 (¬ (v_19 = 0) →
  ((v_19 = 1 →
   (∃ (I2 : Nat → Sl → Int → PH → Prop) (m2 : Nat), I2 m2 (Sl.mk (some (Addr.mk b17 0 none)) 0 0) 0 F ∧ ∀ m2 out_10_3 k_11 F, I2 m2 out_10_3 k_11 F →
    b45L2 (nx2 I2 m2) s_2 from_3 b9 R out_10_3 k_11 F)) ∧
  (¬ (v_19 = 1) →
   ((v_19 = 2 →
    ∃ v_75 : Int, F.cell (Addr.mk b9 4 none) = some (.int .i64 v_75) ∧
    ∃ v_79 : Int, F.cell (Addr.mk b9 3 none) = some (.int .i64 v_79) ∧
    Spec prog 45 #[(Sl.v p_0), (.int .i64 v_79), (.string s_2), (Sl.v from_3)] F fun v F => ∃ v_82 : Sl, v = (Sl.v v_82) ∧
    F.cell (Addr.mk b9 4 none) = some (.int .i64 v_75) ∧ Spec prog 45 #[(Sl.v p_0), (.int .i64 v_75), (.string s_2), (Sl.v v_82)] F fun v F => ∃ v_83 : Sl, v = (Sl.v v_83) ∧
    R (Sl.v v_83) F) ∧
   (¬ (v_19 = 2) →
    ((v_19 = 3 →
     ∃ v_88 : Int, F.cell (Addr.mk b9 3 none) = some (.int .i64 v_88) ∧
     ∃ v_94 : Int, F.cell (Addr.mk b9 4 none) = some (.int .i64 v_94) ∧
     Spec prog 45 #[(Sl.v p_0), (.int .i64 v_88), (.string s_2), (Sl.v from_3)] F fun v F => ∃ v_91 : Sl, v = (Sl.v v_91) ∧
     F.cell (Addr.mk b9 4 none) = some (.int .i64 v_94) ∧ Spec prog 45 #[(Sl.v p_0), (.int .i64 v_94), (.string s_2), (Sl.v from_3)] F fun v F => ∃ v_97 : Sl, v = (Sl.v v_97) ∧
     Spec prog 73 #[(Sl.v v_91), (Sl.v v_97)] F fun v F => ∃ v_98 : Sl, v = (Sl.v v_98) ∧
     R (Sl.v v_98) F) ∧
    (¬ (v_19 = 3) →
     b45j1 p_0 s_2 from_3 b9 R F))))))))
def b24 (p_0 : Sl) (s_1 : ByteArray) (R : VP) (F : PH) :=
 Spec prog 22 #[(Sl.v p_0)] F fun v F => ∃ v_6 : Int, v = (.int .i64 v_6) ∧
 ((v_6 = 0 →
  ∀ b14, F b14 = none → atF (F.set b14 (.cells #[(.int .i64 0)] 3)) fun F =>
  Spec prog 45 #[(Sl.v p_0), (.int .i64 (IntKind.i64.wrap ((p_0.len : Int) - 1))), (.string s_1), (Sl.v (Sl.mk (some (Addr.mk b14 0 none)) 1 1))] F fun v F => ∃ v_15 : Sl, v = (Sl.v v_15) ∧
  Spec prog 54 #[(Sl.v v_15), (.int .i64 (s_1.size : Int))] F fun v F => ∃ v_18 : Bool, v = (.bool v_18) ∧
  R (.bool v_18) F) ∧
 (¬ (v_6 = 0) →
  R (.bool false) F))
def b18j1 (best_9 : Int) (R : VP) (F : PH) :=
 R (.tuple #[(.int .i64 best_9), (.bool (decide (0 < best_9)))]) F
def b18L1 (N1 : Int → Int → PH → Prop) (at_2 : Int) (v_31 : Sl) (R : VP) (best_9_1 : Int) (i_10 : Int) (F : PH) :=
 ((i_10 < (v_31.len : Int) →
  ∃ a41_ : Addr, v_31.base = some a41_ ∧ 0 ≤ i_10 ∧ i_10 < (v_31.len : Int) ∧
  ∃ v_42 : Int, F.cell (Addr.add a41_ (Int.toNat i_10 * 1)) = some (.int .i64 v_42) ∧
  N1 (max best_9_1 (IntKind.i64.wrap (v_42 - at_2))) (IntKind.i64.wrap (i_10 + 1)) F) ∧
 (¬ (i_10 < (v_31.len : Int)) →
  b18j1 best_9_1 R F))
def b18 (p_0 : Sl) (s_1 : ByteArray) (at_2 : Int) (R : VP) (F : PH) :=
 Spec prog 22 #[(Sl.v p_0)] F fun v F => ∃ v_12 : Int, v = (.int .i64 v_12) ∧
 ((v_12 ≠ 0 →
  R (.tuple #[(.int .i64 0), (.bool false)]) F) ∧
 (¬ (v_12 ≠ 0) →
  ((at_2 < 0 →
   R (.tuple #[(.int .i64 0), (.bool false)]) F) ∧
  (¬ (at_2 < 0) →
   (((s_1.size : Int) < at_2 →
    R (.tuple #[(.int .i64 0), (.bool false)]) F) ∧
   (¬ ((s_1.size : Int) < at_2) →
    ∀ b30, F b30 = none → atF (F.set b30 (.cells #[(.int .i64 at_2)] 3)) fun F =>
    Spec prog 45 #[(Sl.v p_0), (.int .i64 (IntKind.i64.wrap ((p_0.len : Int) - 1))), (.string s_1), (Sl.v (Sl.mk (some (Addr.mk b30 0 none)) 1 1))] F fun v F => ∃ v_31 : Sl, v = (Sl.v v_31) ∧
    (∃ (I1 : Nat → Int → Int → PH → Prop) (m1 : Nat), I1 m1 0 0 F ∧ ∀ m1 best_9_1 i_10 F, I1 m1 best_9_1 i_10 F →
     b18L1 (nx2 I1 m1) at_2 v_31 R best_9_1 i_10 F)))))))
end Go.Proofs.YtnjcgpihfmklfaaDoor
