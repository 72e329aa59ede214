/-
  What functions of the program do, in a clean form, each with the proof that its code does so. Printed by a program.
-/
import Derived.Test.YtnjcgpihfmklfaaDoorGf
import Derived.Test.YtnjcgpihfmklfaaDoorPhp
namespace Go.Proofs.YtnjcgpihfmklfaaDoor
open Go Go.Proofs.Tryd
set_option maxRecDepth 10000
set_option maxHeartbeats 4000000
/- 47 koine.pattern.character -/
def b47 (b_0 : Int) (R : VP) (F : PH) :=
 Spec prog 74 #[(.int .u8 (IntKind.u8.wrap b_0))] F fun v F => ∃ v_5 : Bool, v = (.bool v_5) ∧
 ((v_5 = true →
  ∀ b8, F b8 = none → atF (F.set b8 (.cells #[(.int .u8 (IntKind.u8.wrap b_0))] 5)) fun F =>
  ∃ v_9 : ByteArray, rdo prog (Conv.bytesToString (Sl.v (Sl.mk (some (Addr.mk b8 0 none)) 1 1))) F (.string v_9) ∧
  R (.string v_9) F) ∧
 (v_5 = false →
  0 ≤ (IntKind.i64.wrap (Int.tdiv b_0 16)) ∧ (IntKind.i64.wrap (Int.tdiv b_0 16)) < ((ByteArray.mk #[48, 49, 50, 51, 52, 53, 54, 55, 56, 57, 97, 98, 99, 100, 101, 102]).size : Int) ∧
  ∃ (hx : Int.toNat (IntKind.i64.wrap (Int.tdiv b_0 16)) < (ByteArray.mk #[48, 49, 50, 51, 52, 53, 54, 55, 56, 57, 97, 98, 99, 100, 101, 102]).size) (v_12 : Int), v_12 = (((ByteArray.mk #[48, 49, 50, 51, 52, 53, 54, 55, 56, 57, 97, 98, 99, 100, 101, 102])[Int.toNat (IntKind.i64.wrap (Int.tdiv b_0 16))]'hx).toNat : Int) ∧
  0 ≤ (Int.tmod b_0 16) ∧ (Int.tmod b_0 16) < ((ByteArray.mk #[48, 49, 50, 51, 52, 53, 54, 55, 56, 57, 97, 98, 99, 100, 101, 102]).size : Int) ∧
  ∃ (hx : Int.toNat (Int.tmod b_0 16) < (ByteArray.mk #[48, 49, 50, 51, 52, 53, 54, 55, 56, 57, 97, 98, 99, 100, 101, 102]).size) (v_15 : Int), v_15 = (((ByteArray.mk #[48, 49, 50, 51, 52, 53, 54, 55, 56, 57, 97, 98, 99, 100, 101, 102])[Int.toNat (Int.tmod b_0 16)]'hx).toNat : Int) ∧
  ∀ b16, F b16 = none → atF (F.set b16 (.cells #[(.int .u8 92), (.int .u8 120), (.int .u8 v_12), (.int .u8 v_15)] 5)) fun F =>
  ∃ v_17 : ByteArray, rdo prog (Conv.bytesToString (Sl.v (Sl.mk (some (Addr.mk b16 0 none)) 4 4))) F (.string v_17) ∧
  R (.string v_17) F))
theorem c47 {b_0 : Int} {R : VP} {F : PH} (h : b47 b_0 R F) : Spec prog 47 #[(.int .i64 b_0)] F R := by
 refine spec_of (args := [(.int .i64 b_0)]) func47 rfl ntmps47 rfl ?_
 unfold b47 at h
 refine cR (sR (.string (ByteArray.mk #[])) (r_assign rfl rfl) ?_)
 refine HL_nil ?_
 refine HC_seq ?_
 refine cR (sR (.int .i64 b_0) (r_move rfl rfl) ?_)
 refine sR (.int .u8 (IntKind.u8.wrap b_0)) (r_convInt rfl rfl underlying3 underlying5) ?_
 refine s_ef (k_call (vs := [(.int .u8 (IntKind.u8.wrap b_0))]) cb74 (evC rfl evN) (h.mono ?_))
 clear h; rintro v F ⟨v_5, rfl, h⟩
 refine HL_nil ?_
 refine HC_cond (t := v_5) rfl (fun hc => ?_) (fun hc => ?_)
 replace h := h.1 hc
 clear hc
 refine cR (sR (.int .i64 b_0) (r_move rfl rfl) ?_)
 refine sR (.int .u8 (IntKind.u8.wrap b_0)) (r_convInt rfl rfl underlying3 underlying5) ?_
 refine s_ef (k_buildSeq (l := [(.int .u8 (IntKind.u8.wrap b_0))]) underlying22 sz5 (by decide) zr5 rfl rfl ⟨rfl, trivial⟩ (evPC rfl evPN) ?_)
 intro b8 hf_b8
 replace h := atE (h b8 hf_b8)
 obtain ⟨v_9, hc9, h⟩ := h
 refine sR (.string v_9) (r_convBS rfl rfl underlying22 underlying9 underlying5 ⟨_, _, _, rfl⟩ hc9) ?_
 refine sR (.string v_9) (r_assign rfl rfl) ?_
 exact HL_nil (HC_ret (rt1 f47 R rfl rfl h))
 replace h := h.2 hc
 clear hc
 refine HC_skip ?_
 refine HC_seq ?_
 refine HC_draw0 (by kernel_rfl) (fun hp => ?_)
 refine gU 0 (.int .i64 b_0) rfl (fun _ => r_move rfl rfl) hp ?_
 refine gU 1 (.int .i64 (IntKind.i64.wrap (Int.tdiv b_0 16))) rfl (fun _ => r_quo rfl rfl rfl (by decide)) hp ?_
 obtain ⟨hl12, hu12, hx12, v_12, hv12, h⟩ := h
 refine gU 2 (.int .u8 v_12) rfl (fun _ => w_indexStr rfl rfl underlying9 hl12 hu12 hv12) hp ?_
 refine gU 3 (.int .i64 b_0) rfl (fun _ => r_move rfl rfl) hp ?_
 refine gU 4 (.int .i64 (Int.tmod b_0 16)) rfl (fun _ => r_rem rfl rfl rfl (by decide)) hp ?_
 obtain ⟨hl15, hu15, hx15, v_15, hv15, h⟩ := h
 refine gU 5 (.int .u8 v_15) rfl (fun _ => w_indexStr rfl rfl underlying9 hl15 hu15 hv15) hp ?_
 refine RG_eff1 (i := 6) (by kernel_rfl) (g_op (Sp' := []) rfl rfl (k_buildSeq (l := [(.int .u8 92), (.int .u8 120), (.int .u8 v_12), (.int .u8 v_15)]) underlying22 sz5 (by decide) zr5 rfl rfl ⟨rfl, rfl, rfl, rfl, trivial⟩ (evPC rfl (evPC rfl (evPC rfl (evPC rfl evPN)))) ?_))
 intro b16 hf_b16
 replace h := atE (h b16 hf_b16)
 refine holdI hold0 (fun hp => ?_)
 obtain ⟨v_17, hc17, h⟩ := h
 refine gR 7 (.string v_17) rfl (r_convBS rfl rfl underlying22 underlying9 underlying5 ⟨_, _, _, rfl⟩ hc17) hp (fun S7 q7 => ?_)
 replace hp := holdC (i := 7) (q7 _ (r_convBS rfl rfl underlying22 underlying9 underlying5 ⟨_, _, _, rfl⟩ hc17)) hp
 refine gU 8 (.string v_17) rfl (fun _ => r_assign rfl rfl) hp ?_
 refine RG_done (by kernel_rfl) ?_
 exact HC_ret (rt1 f47 R rfl rfl h)
 /- 46 koine.pattern.Print$1 -/
def b46j1 (least_1 : Int) (s_8 : ByteArray) (level_9 : Int) (R : VP) (F : PH) :=
 ((level_9 < least_1 →
  (ByteArray.mk #[40]).size + s_8.size ≤ 9223372036854775807 ∧
  ((ByteArray.mk #[40]) ++ s_8).size + (ByteArray.mk #[41]).size ≤ 9223372036854775807 ∧
  R (.string (((ByteArray.mk #[40]) ++ s_8) ++ (ByteArray.mk #[41]))) F) ∧
 (¬ (level_9 < least_1) →
  R (.string s_8) F))
abbrev b46J1 (least_1 : Int) (R : VP) (E : En) (F : PH) : Prop := ∃ s_8 : ByteArray, ∃ level_9 : Int, E 1 = (.int .i64 least_1) ∧ E 8 = (.string s_8) ∧ E 9 = (.int .i64 level_9) ∧ b46j1 least_1 s_8 level_9 R F
def b46 (i_0 : Int) (least_1 : Int) (v_2 : Option Addr) (v_3 : Option Addr) (R : VP) (F : PH) :=
 ∃ v2a_ : Addr, v_2 = some v2a_ ∧ ∃ v_10 : Sl, F.cell v2a_ = some (Sl.v v_10) ∧
 ∃ a12_ : Addr, v_10.base = some a12_ ∧ 0 ≤ i_0 ∧ i_0 < (v_10.len : Int) ∧
 ∃ v_13 : Array Value, v_13.size = 5 ∧ F.row (Addr.add a12_ (Int.toNat i_0 * 5)) v_13 ∧
 ∀ b7, F b7 = none → atF (F.set b7 (.cells (#[.int .i64 0, .int .i64 0, .int .i64 0, .int .i64 0, .int .i64 0]) 50)) fun F =>
 v_13.size = 5 ∧ (∀ v ∈ v_13.toList, storable v) ∧ ∃ c e, F (Addr.mk b7 0 none).block = some (.cells c e (0, 0)) ∧ (Addr.mk b7 0 none).spot = none ∧ (Addr.mk b7 0 none).off + 5 ≤ c.size ∧
 atF (F.set (Addr.mk b7 0 none).block (.cells (wr c (Addr.mk b7 0 none).off v_13.toList) e)) fun F =>
 ∃ v_15 : Int, F.cell (Addr.mk b7 0 none) = some (.int .i64 v_15) ∧
 ((v_15 = 1 →
  ∃ v_19 : Int, F.cell (Addr.mk b7 1 none) = some (.int .i64 v_19) ∧
  Spec prog 47 #[(.int .i64 v_19)] F fun v F => ∃ v_20 : ByteArray, v = (.string v_20) ∧
  ∃ v_22 : Int, F.cell (Addr.mk b7 1 none) = some (.int .i64 v_22) ∧
  ∃ v_24 : Int, F.cell (Addr.mk b7 2 none) = some (.int .i64 v_24) ∧
  ((v_22 < v_24 →
   (ByteArray.mk #[91]).size + v_20.size ≤ 9223372036854775807 ∧
   ((ByteArray.mk #[91]) ++ v_20).size + (ByteArray.mk #[45]).size ≤ 9223372036854775807 ∧
   ∃ v_30 : Int, F.cell (Addr.mk b7 2 none) = some (.int .i64 v_30) ∧
   Spec prog 47 #[(.int .i64 v_30)] F fun v F => ∃ v_31 : ByteArray, v = (.string v_31) ∧
   (((ByteArray.mk #[91]) ++ v_20) ++ (ByteArray.mk #[45])).size + v_31.size ≤ 9223372036854775807 ∧
   ((((ByteArray.mk #[91]) ++ v_20) ++ (ByteArray.mk #[45])) ++ v_31).size + (ByteArray.mk #[93]).size ≤ 9223372036854775807 ∧
   b46j1 least_1 (((((ByteArray.mk #[91]) ++ v_20) ++ (ByteArray.mk #[45])) ++ v_31) ++ (ByteArray.mk #[93])) 3 R F) ∧
  (¬ (v_22 < v_24) →
   b46j1 least_1 v_20 3 R F))) ∧
 (¬ (v_15 = 1) →
  ((v_15 = 2 →
   ∃ v3a_ : Addr, v_3 = some v3a_ ∧ ∃ v_36 : Value, F.cell v3a_ = some v_36 ∧
   ∃ v_38 : Int, F.cell (Addr.mk b7 3 none) = some (.int .i64 v_38) ∧
   ∃ v_40 : Value, F.cell v3a_ = some v_40 ∧
   ∃ v_42 : Int, F.cell (Addr.mk b7 4 none) = some (.int .i64 v_42) ∧
   ∃ (k39 : Nat) (fst39 cap39 : Array Value), v_36 = Value.func (.func k39) fst39 cap39 ∧ callableB prog k39 = true ∧ Spec prog k39 (fst39 ++ ([(Value.int .i64 v_38), (Value.int .i64 2)]).toArray ++ cap39) F fun v F => ∃ v_39 : ByteArray, v = (Value.string v_39) ∧
   F.cell (Addr.mk b7 4 none) = some (Value.int .i64 v_42) ∧ F.cell v3a_ = some v_40 ∧ ∃ (k43 : Nat) (fst43 cap43 : Array Value), v_40 = Value.func (.func k43) fst43 cap43 ∧ callableB prog k43 = true ∧ Spec prog k43 (fst43 ++ ([(Value.int .i64 v_42), (Value.int .i64 3)]).toArray ++ cap43) F fun v F => ∃ v_43 : ByteArray, v = (Value.string v_43) ∧
   v_39.size + v_43.size ≤ 9223372036854775807 ∧
   b46j1 least_1 (v_39 ++ v_43) 2 R F) ∧
  (¬ (v_15 = 2) →
   ((v_15 = 3 →
    ∃ v3a__1 : Addr, v_3 = some v3a__1 ∧ ∃ v_47 : Value, F.cell v3a__1 = some v_47 ∧
    ∃ v_49 : Int, F.cell (Addr.mk b7 3 none) = some (.int .i64 v_49) ∧
    ∃ v_52 : Value, F.cell v3a__1 = some v_52 ∧
    ∃ v_54 : Int, F.cell (Addr.mk b7 4 none) = some (.int .i64 v_54) ∧
    ∃ (k50 : Nat) (fst50 cap50 : Array Value), v_47 = Value.func (.func k50) fst50 cap50 ∧ callableB prog k50 = true ∧ Spec prog k50 (fst50 ++ ([(Value.int .i64 v_49), (Value.int .i64 1)]).toArray ++ cap50) F fun v F => ∃ v_50 : ByteArray, v = (Value.string v_50) ∧
    F.cell (Addr.mk b7 4 none) = some (.int .i64 v_54) ∧ F.cell v3a__1 = some v_52 ∧ v_50.size + (ByteArray.mk #[124]).size ≤ 9223372036854775807 ∧
    ∃ (k55 : Nat) (fst55 cap55 : Array Value), v_52 = Value.func (.func k55) fst55 cap55 ∧ callableB prog k55 = true ∧ Spec prog k55 (fst55 ++ ([(Value.int .i64 v_54), (Value.int .i64 2)]).toArray ++ cap55) F fun v F => ∃ v_55 : ByteArray, v = (Value.string v_55) ∧
    (v_50 ++ (ByteArray.mk #[124])).size + v_55.size ≤ 9223372036854775807 ∧
    b46j1 least_1 ((v_50 ++ (ByteArray.mk #[124])) ++ v_55) 1 R F) ∧
   (¬ (v_15 = 3) →
    ((v_15 = 4 →
     ∃ v3a__2 : Addr, v_3 = some v3a__2 ∧ ∃ v_59 : Value, F.cell v3a__2 = some v_59 ∧
     ∃ v_61 : Int, F.cell (Addr.mk b7 3 none) = some (.int .i64 v_61) ∧
     ∃ (k62 : Nat) (fst62 cap62 : Array Value), v_59 = Value.func (.func k62) fst62 cap62 ∧ callableB prog k62 = true ∧ Spec prog k62 (fst62 ++ ([(Value.int .i64 v_61), (Value.int .i64 3)]).toArray ++ cap62) F fun v F => ∃ v_62 : ByteArray, v = (Value.string v_62) ∧
     v_62.size + (ByteArray.mk #[42]).size ≤ 9223372036854775807 ∧
     b46j1 least_1 (v_62 ++ (ByteArray.mk #[42])) 3 R F) ∧
    (¬ (v_15 = 4) →
     b46j1 least_1 (ByteArray.mk #[40, 41]) 3 R F))))))))
theorem c46 {i_0 : Int} {least_1 : Int} {v_2 : Option Addr} {v_3 : Option Addr} {R : VP} {F : PH} (h : b46 i_0 least_1 v_2 v_3 R F) : Spec prog 46 #[(.int .i64 i_0), (.int .i64 least_1), (.pointer v_2), (.pointer v_3)] F R := by
 refine spec_of (args := [(.int .i64 i_0), (.int .i64 least_1), (.pointer v_2), (.pointer v_3)]) func46 rfl ntmps46 rfl ?_
 unfold b46 at h
 refine cR (sR (.string (ByteArray.mk #[])) (r_assign rfl rfl) ?_)
 refine HL_nil ?_
 refine cR ?_
 obtain ⟨v2a_, rfl, h⟩ := h
 obtain ⟨v_10, hc10, h⟩ := h
 refine sR (Sl.v v_10) (r_load1 rfl rfl underlying25 rfl hc10) ?_
 refine sR (.int .i64 i_0) (r_move rfl rfl) ?_
 obtain ⟨a12_, hb12, hl12, hu12, h⟩ := h
 refine sR (.pointer (some (Addr.add a12_ (Int.toNat i_0 * 5)))) (w_indexAddr rfl rfl underlying25 sz50 hb12 hl12 hu12) ?_
 obtain ⟨v_13, hs13, hc13, h⟩ := h
 refine sR (.agg v_13) (w_loadN rfl underlying50 rfl sz50 hs13 hc13) ?_
 refine s_ef (k_alloc zr50 ?_)
 intro b7 hf_b7
 replace h := atE (h b7 hf_b7)
 refine s_ef0 (k_storeN (vs := v_13) rfl rfl sz50 (by decide) ?_)
 obtain ⟨hz1, hz2, c, e, hz3, hz4, hz5, h⟩ := h
 refine ⟨hz1, hz2, c, e, hz3, hz4, hz5, ?_⟩
 replace h := atE h
 refine HL_nil ?_
 refine cR (sR (.string (ByteArray.mk #[40, 41])) (r_assign rfl rfl) ?_)
 refine sR (.int .i64 3) (r_assign rfl rfl) ?_
 refine HL_nil ?_
 refine HC_seqJ (b46J1 least_1 R) ?_ ?_
 clear h; rintro E F ⟨s_8, level_9, h1, h8, h9, h⟩
 unfold b46j1 at h
 refine HC_seq ?_
 refine cR (sR _ (r_move rfl h9) ?_)
 refine sR _ (r_move rfl h1) ?_
 refine sR (.bool (decide (level_9 < least_1))) (r_lss rfl rfl rfl) ?_
 refine HL_nil ?_
 refine HC_cond (t := (decide (level_9 < least_1))) rfl (fun hc => ?_) (fun hc => ?_)
 replace h := h.1 (of_decide_eq_true hc)
 clear hc
 refine cR (sR _ (r_move rfl h8) ?_)
 obtain ⟨hx68, h⟩ := h
 refine sR (.string ((ByteArray.mk #[40]) ++ s_8)) (r_addS rfl rfl rfl hx68) ?_
 obtain ⟨hx69, h⟩ := h
 refine sR (.string (((ByteArray.mk #[40]) ++ s_8) ++ (ByteArray.mk #[41]))) (r_addS rfl rfl rfl hx69) ?_
 refine sR (.string (((ByteArray.mk #[40]) ++ s_8) ++ (ByteArray.mk #[41]))) (r_assign rfl rfl) ?_
 exact HL_nil (HC_ret (rt1 f46 R rfl rfl h))
 replace h := h.2 (of_decide_eq_false hc)
 clear hc
 refine HC_skip ?_
 refine cR (sR _ (r_move rfl h8) ?_)
 refine sR (.string s_8) (r_assign rfl rfl) ?_
 exact HL_nil (HC_ret (rt1 f46 R rfl rfl h))
 refine cR (sR (.pointer (some (Addr.mk b7 0 none))) (w_fieldAddr rfl underlying50 rfl rfl sz3 rfl rfl) ?_)
 obtain ⟨v_15, hc15, h⟩ := h
 refine sR (.int .i64 v_15) (r_load1 rfl rfl underlying3 rfl hc15) ?_
 refine HL_nil ?_
 refine HC_block ?_
 refine cR (sR (.bool (decide (v_15 = 1))) (w_eql rfl rfl) ?_)
 refine sR (.bool (decide (v_15 = 1))) (r_assign rfl rfl) ?_
 refine HL_nil ?_
 refine HC_cond (t := (decide (v_15 = 1))) rfl (fun hc => ?_) (fun hc => ?_)
 replace h := h.1 (of_decide_eq_true hc)
 clear hc
 refine cR (sR (.pointer (some (Addr.mk b7 1 none))) (w_fieldAddr rfl underlying50 rfl rfl sz3 rfl rfl) ?_)
 obtain ⟨v_19, hc19, h⟩ := h
 refine sR (.int .i64 v_19) (r_load1 rfl rfl underlying3 rfl hc19) ?_
 refine s_ef (k_call (vs := [(.int .i64 v_19)]) cb47 (evC rfl evN) (h.mono ?_))
 clear h; rintro v F ⟨v_20, rfl, h⟩
 refine sR (.string v_20) (r_assign rfl rfl) ?_
 refine HL_nil ?_
 refine cR (sR (.pointer (some (Addr.mk b7 1 none))) (w_fieldAddr rfl underlying50 rfl rfl sz3 rfl rfl) ?_)
 obtain ⟨v_22, hc22, h⟩ := h
 refine sR (.int .i64 v_22) (r_load1 rfl rfl underlying3 rfl hc22) ?_
 refine sR (.pointer (some (Addr.mk b7 2 none))) (w_fieldAddr rfl underlying50 rfl rfl sz3 rfl rfl) ?_
 obtain ⟨v_24, hc24, h⟩ := h
 refine sR (.int .i64 v_24) (r_load1 rfl rfl underlying3 rfl hc24) ?_
 refine sR (.bool (decide (v_22 < v_24))) (r_lss rfl rfl rfl) ?_
 refine HL_nil ?_
 refine HC_cond (t := (decide (v_22 < v_24))) rfl (fun hc => ?_) (fun hc => ?_)
 replace h := h.1 (of_decide_eq_true hc)
 clear hc
 refine HC_region ?_
 refine sR (.string v_20) (r_move rfl rfl) ?_
 obtain ⟨hx27, h⟩ := h
 refine sR (.string ((ByteArray.mk #[91]) ++ v_20)) (r_addS rfl rfl rfl hx27) ?_
 obtain ⟨hx28, h⟩ := h
 refine sR (.string (((ByteArray.mk #[91]) ++ v_20) ++ (ByteArray.mk #[45]))) (r_addS rfl rfl rfl hx28) ?_
 refine sR (.pointer (some (Addr.mk b7 2 none))) (w_fieldAddr rfl underlying50 rfl rfl sz3 rfl rfl) ?_
 obtain ⟨v_30, hc30, h⟩ := h
 refine sR (.int .i64 v_30) (r_load1 rfl rfl underlying3 rfl hc30) ?_
 refine s_ef (k_call (vs := [(.int .i64 v_30)]) cb47 (evC rfl evN) (h.mono ?_))
 clear h; rintro v F ⟨v_31, rfl, h⟩
 obtain ⟨hx32, h⟩ := h
 refine sR (.string ((((ByteArray.mk #[91]) ++ v_20) ++ (ByteArray.mk #[45])) ++ v_31)) (r_addS rfl rfl rfl hx32) ?_
 obtain ⟨hx33, h⟩ := h
 refine sR (.string (((((ByteArray.mk #[91]) ++ v_20) ++ (ByteArray.mk #[45])) ++ v_31) ++ (ByteArray.mk #[93]))) (r_addS rfl rfl rfl hx33) ?_
 refine sR (.string (((((ByteArray.mk #[91]) ++ v_20) ++ (ByteArray.mk #[45])) ++ v_31) ++ (ByteArray.mk #[93]))) (r_assign rfl rfl) ?_
 refine HL_nil ?_
 show b46J1 least_1 R _ _
 exact ⟨_, _, rfl, rfl, rfl, h⟩
 replace h := h.2 (of_decide_eq_false hc)
 clear hc
 refine HC_skip ?_
 show b46J1 least_1 R _ _
 exact ⟨_, _, rfl, rfl, rfl, h⟩
 replace h := h.2 (of_decide_eq_false hc)
 clear hc
 refine cR (sR (.bool (decide (v_15 = 2))) (w_eql rfl rfl) ?_)
 refine sR (.bool (decide (v_15 = 2))) (r_assign rfl rfl) ?_
 refine HL_nil ?_
 refine HC_cond (t := (decide (v_15 = 2))) rfl (fun hc => ?_) (fun hc => ?_)
 replace h := h.1 (of_decide_eq_true hc)
 clear hc
 refine HC_draw0 (by kernel_rfl) (fun hp => ?_)
 obtain ⟨v3a_, rfl, h⟩ := h
 obtain ⟨v_36, hc36, h⟩ := h
 refine gR 0 v_36 rfl (r_load1 rfl rfl underlying66 rfl hc36) hp (fun S0 q0 => ?_)
 replace hp := holdC (i := 0) (q0 _ (r_load1 rfl rfl underlying66 rfl hc36)) hp
 refine gU 1 (.pointer (some (Addr.mk b7 3 none))) rfl (fun _ => w_fieldAddr rfl underlying50 rfl rfl sz3 rfl rfl) hp ?_
 obtain ⟨v_38, hc38, h⟩ := h
 refine gR 2 (.int .i64 v_38) rfl (r_load1 rfl rfl underlying3 rfl hc38) hp (fun S2 q2 => ?_)
 replace hp := holdC (i := 2) (q2 _ (r_load1 rfl rfl underlying3 rfl hc38)) hp
 obtain ⟨v_40, hc40, h⟩ := h
 refine gR 4 v_40 rfl (r_load1 rfl rfl underlying66 rfl hc40) hp (fun S4 q4 => ?_)
 replace hp := holdC (i := 4) (q4 _ (r_load1 rfl rfl underlying66 rfl hc40)) hp
 refine gU 5 (.pointer (some (Addr.mk b7 4 none))) rfl (fun _ => w_fieldAddr rfl underlying50 rfl rfl sz3 rfl rfl) hp ?_
 obtain ⟨v_42, hc42, h⟩ := h
 refine gR 6 (.int .i64 v_42) rfl (r_load1 rfl rfl underlying3 rfl hc42) hp (fun S6 q6 => ?_)
 replace hp := holdC (i := 6) (q6 _ (r_load1 rfl rfl underlying3 rfl hc42)) hp
 obtain ⟨_, _, _, hk1, hk2, h⟩ := h
 refine RG_eff1 (i := 3) (by kernel_rfl) (g_op (Sp' := [(6, S6), (4, S4)]) rfl rfl (k_callF (vs := [(.int .i64 v_38), (.int .i64 2)]) hk2 ((rfl : _ = v_36).trans hk1) (evC rfl (evC rfl evN)) (h.mono ?_)))
 clear h; rintro v F ⟨v_39, rfl, h⟩
 obtain ⟨hk_5, hk_6, h⟩ := h
 refine holdI (holdC (i := 6) (q6 _ (r_load1 rfl rfl underlying3 rfl hk_5)) (holdC (i := 4) (q4 _ (r_load1 rfl rfl underlying66 rfl hk_6)) hold0)) (fun hp => ?_)
 obtain ⟨_, _, _, hk1, hk2, h⟩ := h
 refine RG_eff1 (i := 7) (by kernel_rfl) (g_op (Sp' := []) rfl rfl (k_callF (vs := [(.int .i64 v_42), (.int .i64 3)]) hk2 ((rfl : _ = v_40).trans hk1) (evC rfl (evC rfl evN)) (h.mono ?_)))
 clear h; rintro v F ⟨v_43, rfl, h⟩
 refine holdI hold0 (fun hp => ?_)
 obtain ⟨hx44, h⟩ := h
 refine gU 8 (.string (v_39 ++ v_43)) rfl (fun _ => r_addS rfl rfl rfl hx44) hp ?_
 refine gU 9 (.string (v_39 ++ v_43)) rfl (fun _ => r_assign rfl rfl) hp ?_
 refine gU 10 (.int .i64 2) rfl (fun _ => r_assign rfl rfl) hp ?_
 refine RG_done (by kernel_rfl) ?_
 show b46J1 least_1 R _ _
 exact ⟨_, _, rfl, rfl, rfl, h⟩
 replace h := h.2 (of_decide_eq_false hc)
 clear hc
 refine cR (sR (.bool (decide (v_15 = 3))) (w_eql rfl rfl) ?_)
 refine sR (.bool (decide (v_15 = 3))) (r_assign rfl rfl) ?_
 refine HL_nil ?_
 refine HC_cond (t := (decide (v_15 = 3))) rfl (fun hc => ?_) (fun hc => ?_)
 replace h := h.1 (of_decide_eq_true hc)
 clear hc
 refine HC_draw0 (by kernel_rfl) (fun hp => ?_)
 obtain ⟨v3a__1, rfl, h⟩ := h
 obtain ⟨v_47, hc47, h⟩ := h
 refine gR 0 v_47 rfl (r_load1 rfl rfl underlying66 rfl hc47) hp (fun S0 q0 => ?_)
 replace hp := holdC (i := 0) (q0 _ (r_load1 rfl rfl underlying66 rfl hc47)) hp
 refine gU 1 (.pointer (some (Addr.mk b7 3 none))) rfl (fun _ => w_fieldAddr rfl underlying50 rfl rfl sz3 rfl rfl) hp ?_
 obtain ⟨v_49, hc49, h⟩ := h
 refine gR 2 (.int .i64 v_49) rfl (r_load1 rfl rfl underlying3 rfl hc49) hp (fun S2 q2 => ?_)
 replace hp := holdC (i := 2) (q2 _ (r_load1 rfl rfl underlying3 rfl hc49)) hp
 obtain ⟨v_52, hc52, h⟩ := h
 refine gR 5 v_52 rfl (r_load1 rfl rfl underlying66 rfl hc52) hp (fun S5 q5 => ?_)
 replace hp := holdC (i := 5) (q5 _ (r_load1 rfl rfl underlying66 rfl hc52)) hp
 refine gU 6 (.pointer (some (Addr.mk b7 4 none))) rfl (fun _ => w_fieldAddr rfl underlying50 rfl rfl sz3 rfl rfl) hp ?_
 obtain ⟨v_54, hc54, h⟩ := h
 refine gR 7 (.int .i64 v_54) rfl (r_load1 rfl rfl underlying3 rfl hc54) hp (fun S7 q7 => ?_)
 replace hp := holdC (i := 7) (q7 _ (r_load1 rfl rfl underlying3 rfl hc54)) hp
 obtain ⟨_, _, _, hk1, hk2, h⟩ := h
 refine RG_eff1 (i := 3) (by kernel_rfl) (g_op (Sp' := [(7, S7), (5, S5)]) rfl rfl (k_callF (vs := [(.int .i64 v_49), (.int .i64 1)]) hk2 ((rfl : _ = v_47).trans hk1) (evC rfl (evC rfl evN)) (h.mono ?_)))
 clear h; rintro v F ⟨v_50, rfl, h⟩
 obtain ⟨hk_7, hk_8, h⟩ := h
 refine holdI (holdC (i := 7) (q7 _ (r_load1 rfl rfl underlying3 rfl hk_7)) (holdC (i := 5) (q5 _ (r_load1 rfl rfl underlying66 rfl hk_8)) hold0)) (fun hp => ?_)
 obtain ⟨hx51, h⟩ := h
 refine gU 4 (.string (v_50 ++ (ByteArray.mk #[124]))) rfl (fun _ => r_addS rfl rfl rfl hx51) hp ?_
 obtain ⟨_, _, _, hk1, hk2, h⟩ := h
 refine RG_eff1 (i := 8) (by kernel_rfl) (g_op (Sp' := []) rfl rfl (k_callF (vs := [(.int .i64 v_54), (.int .i64 2)]) hk2 ((rfl : _ = v_52).trans hk1) (evC rfl (evC rfl evN)) (h.mono ?_)))
 clear h; rintro v F ⟨v_55, rfl, h⟩
 refine holdI hold0 (fun hp => ?_)
 obtain ⟨hx56, h⟩ := h
 refine gU 9 (.string ((v_50 ++ (ByteArray.mk #[124])) ++ v_55)) rfl (fun _ => r_addS rfl rfl rfl hx56) hp ?_
 refine gU 10 (.string ((v_50 ++ (ByteArray.mk #[124])) ++ v_55)) rfl (fun _ => r_assign rfl rfl) hp ?_
 refine gU 11 (.int .i64 1) rfl (fun _ => r_assign rfl rfl) hp ?_
 refine RG_done (by kernel_rfl) ?_
 show b46J1 least_1 R _ _
 exact ⟨_, _, rfl, rfl, rfl, h⟩
 replace h := h.2 (of_decide_eq_false hc)
 clear hc
 refine cR (sR (.bool (decide (v_15 = 4))) (w_eql rfl rfl) ?_)
 refine sR (.bool (decide (v_15 = 4))) (r_assign rfl rfl) ?_
 refine HL_nil ?_
 refine HC_cond (t := (decide (v_15 = 4))) rfl (fun hc => ?_) (fun hc => ?_)
 replace h := h.1 (of_decide_eq_true hc)
 clear hc
 refine HC_region ?_
 obtain ⟨v3a__2, rfl, h⟩ := h
 obtain ⟨v_59, hc59, h⟩ := h
 refine sR v_59 (r_load1 rfl rfl underlying66 rfl hc59) ?_
 refine sR (.pointer (some (Addr.mk b7 3 none))) (w_fieldAddr rfl underlying50 rfl rfl sz3 rfl rfl) ?_
 obtain ⟨v_61, hc61, h⟩ := h
 refine sR (.int .i64 v_61) (r_load1 rfl rfl underlying3 rfl hc61) ?_
 obtain ⟨_, _, _, hk1, hk2, h⟩ := h
 refine s_ef (k_callF (vs := [(.int .i64 v_61), (.int .i64 3)]) hk2 ((rfl : _ = v_59).trans hk1) (evC rfl (evC rfl evN)) (h.mono ?_))
 clear h; rintro v F ⟨v_62, rfl, h⟩
 obtain ⟨hx63, h⟩ := h
 refine sR (.string (v_62 ++ (ByteArray.mk #[42]))) (r_addS rfl rfl rfl hx63) ?_
 refine sR (.string (v_62 ++ (ByteArray.mk #[42]))) (r_assign rfl rfl) ?_
 refine HL_nil ?_
 show b46J1 least_1 R _ _
 exact ⟨_, _, rfl, rfl, rfl, h⟩
 replace h := h.2 (of_decide_eq_false hc)
 clear hc
 refine HC_skip ?_
 show b46J1 least_1 R _ _
 exact ⟨_, _, rfl, rfl, rfl, h⟩
 /- 19 koine.pattern.Print -/
def b19 (p_0 : Sl) (R : VP) (F : PH) :=
 ∀ b1, F b1 = none → atF (F.set b1 (.cells #[(Sl.v p_0)] 25)) fun F =>
 ∃ v_6 : Sl, F.cell (Addr.mk b1 0 none) = some (Sl.v v_6) ∧
 Spec prog 21 #[(Sl.v v_6)] F fun v F => ∃ v_7 : Int, v = (.int .i64 v_7) ∧
 ((v_7 ≠ 0 →
  R (.tuple #[(.string (ByteArray.mk #[])), (.int .i64 v_7)]) F) ∧
 (¬ (v_7 ≠ 0) →
  ∀ b5, F b5 = none → atF (F.set b5 (.cells (#[.nilFunc]) 66)) fun F =>
  ∃ c e, F (Addr.mk b5 0 none).block = some (.cells c e (0, 0)) ∧ (Addr.mk b5 0 none).spot = none ∧ (Addr.mk b5 0 none).off < c.size ∧
  atF (F.set (Addr.mk b5 0 none).block (.cells (c.setIfInBounds (Addr.mk b5 0 none).off (.func (.func 46) #[] #[(.pointer (some (Addr.mk b1 0 none))), (.pointer (some (Addr.mk b5 0 none)))])) e)) fun F =>
  ∃ v_12 : Value, F.cell (Addr.mk b5 0 none) = some v_12 ∧
  ∃ v_13 : Sl, F.cell (Addr.mk b1 0 none) = some (Sl.v v_13) ∧
  ∃ (k16 : Nat) (fst16 cap16 : Array Value), v_12 = Value.func (.func k16) fst16 cap16 ∧ callableB prog k16 = true ∧ Spec prog k16 (fst16 ++ ([(Value.int .i64 (IntKind.i64.wrap ((v_13.len : Int) - 1))), (Value.int .i64 1)]).toArray ++ cap16) F fun v F => ∃ v_16 : ByteArray, v = (Value.string v_16) ∧
  R (.tuple #[(.string v_16), (.int .i64 0)]) F))
theorem c19 {p_0 : Sl} {R : VP} {F : PH} (h : b19 p_0 R F) : Spec prog 19 #[(Sl.v p_0)] F R := by
 refine spec_of (args := [(Sl.v p_0)]) func19 rfl ntmps19 rfl ?_
 unfold b19 at h
 refine cR ?_
 refine s_ef (k_box (cs := #[(Sl.v p_0)]) rfl rfl ?_)
 intro b1 hf_b1
 replace h := atE (h b1 hf_b1)
 refine sR (.string (ByteArray.mk #[])) (r_assign rfl rfl) ?_
 refine sR (.int .i64 0) (r_assign rfl rfl) ?_
 refine HL_nil ?_
 refine HC_seq ?_
 refine cR ?_
 obtain ⟨v_6, hc6, h⟩ := h
 refine sR (Sl.v v_6) (r_load1 rfl rfl underlying25 rfl hc6) ?_
 refine s_ef (k_call (vs := [(Sl.v v_6)]) cb21 (evC rfl evN) (h.mono ?_))
 clear h; rintro v F ⟨v_7, rfl, h⟩
 refine sR (.int .i64 v_7) (r_assign rfl rfl) ?_
 refine HL_nil ?_
 refine cR (sR (.int .i64 v_7) (r_move rfl rfl) ?_)
 refine sR (.bool (decide (v_7 ≠ 0))) (w_neq rfl rfl) ?_
 refine HL_nil ?_
 refine HC_cond (t := (decide (v_7 ≠ 0))) rfl (fun hc => ?_) (fun hc => ?_)
 replace h := h.1 (of_decide_eq_true hc)
 clear hc
 refine cR (sR (.int .i64 v_7) (r_move rfl rfl) ?_)
 refine sR (.string (ByteArray.mk #[])) (r_assign rfl rfl) ?_
 refine sR (.int .i64 v_7) (r_assign rfl rfl) ?_
 exact HL_nil (HC_ret (rt2 f19 R rfl rfl rfl h))
 replace h := h.2 (of_decide_eq_false hc)
 clear hc
 refine HC_skip ?_
 refine cR ?_
 refine s_ef (k_alloc zr66 ?_)
 intro b5 hf_b5
 replace h := atE (h b5 hf_b5)
 refine HL_nil ?_
 refine cR (sR (.func (.func 46) #[] #[(.pointer (some (Addr.mk b1 0 none))), (.pointer (some (Addr.mk b5 0 none)))]) (w_makeFunc evN (evC rfl (evC rfl evN))) ?_)
 refine s_ef0 (k_store1 (v := (.func (.func 46) #[] #[(.pointer (some (Addr.mk b1 0 none))), (.pointer (some (Addr.mk b5 0 none)))])) rfl rfl sz66 rfl st_func ?_)
 obtain ⟨c, e, hz3, hz4, hz5, h⟩ := h
 refine ⟨c, e, hz3, hz4, hz5, ?_⟩
 replace h := atE h
 refine HL_nil ?_
 refine cR ?_
 obtain ⟨v_12, hc12, h⟩ := h
 refine sR v_12 (r_load1 rfl rfl underlying66 rfl hc12) ?_
 obtain ⟨v_13, hc13, h⟩ := h
 refine sR (Sl.v v_13) (r_load1 rfl rfl underlying25 rfl hc13) ?_
 refine sR (.int .i64 (v_13.len : Int)) (r_lenSl rfl rfl underlying25) ?_
 refine sR (.int .i64 (IntKind.i64.wrap ((v_13.len : Int) - 1))) (r_sub rfl rfl rfl) ?_
 obtain ⟨_, _, _, hk1, hk2, h⟩ := h
 refine s_ef (k_callF (vs := [(.int .i64 (IntKind.i64.wrap ((v_13.len : Int) - 1))), (.int .i64 1)]) hk2 ((rfl : _ = v_12).trans hk1) (evC rfl (evC rfl evN)) (h.mono ?_))
 clear h; rintro v F ⟨v_16, rfl, h⟩
 refine sR (.string v_16) (r_assign rfl rfl) ?_
 refine sR (.int .i64 0) (r_assign rfl rfl) ?_
 exact HL_nil (HC_ret (rt2 f19 R rfl rfl rfl h))
end Go.Proofs.YtnjcgpihfmklfaaDoor
