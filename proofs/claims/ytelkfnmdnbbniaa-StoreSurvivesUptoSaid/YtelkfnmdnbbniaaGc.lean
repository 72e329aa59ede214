/-
  What functions of the program do, in a clean form, each with the proof that its code does so. Printed by a program.
-/
import Derived.Test.YtelkfnmdnbbniaaGf
import Derived.Test.YtelkfnmdnbbniaaPhp
namespace Go.Proofs.Ytelkfnmdnbbniaa
open Go Go.Proofs.Try
set_option maxRecDepth 10000
set_option maxHeartbeats 4000000
/- 70 koine.store.put64 -/
def b70L1 (N1 : Int → PH → Prop) (b_0 : Sl) (x_1 : Int) (R : VP) (v_5 : Int) (F : PH) :=
 ((v_5 < 8 →
  0 ≤ (IntKind.i64.wrap (56 - (IntKind.i64.wrap (8 * v_5)))) ∧ ∃ a16_ : Addr, b_0.base = some a16_ ∧ 0 ≤ v_5 ∧ v_5 < (b_0.len : Int) ∧
  ∃ c e, F (Addr.add a16_ (Int.toNat v_5 * 1)).block = some (.cells c e (0, 0)) ∧ (Addr.add a16_ (Int.toNat v_5 * 1)).spot = none ∧ (Addr.add a16_ (Int.toNat v_5 * 1)).off < c.size ∧
  atF (F.set (Addr.add a16_ (Int.toNat v_5 * 1)).block (.cells (c.setIfInBounds (Addr.add a16_ (Int.toNat v_5 * 1)).off (.int .u8 (IntKind.u8.wrap (Int.fdiv x_1 (2 ^ (min (Int.toNat (IntKind.i64.wrap (56 - (IntKind.i64.wrap (8 * v_5))))) (IntKind.u64).bits)))))) e)) fun F =>
  N1 (IntKind.i64.wrap (v_5 + 1)) F) ∧
 (¬ (v_5 < 8) →
  R (.tuple #[]) F))
def b70 (b_0 : Sl) (x_1 : Int) (R : VP) (F : PH) :=
 (∃ (I1 : Nat → Int → PH → Prop) (m1 : Nat), I1 m1 0 F ∧ ∀ m1 v_5 F, I1 m1 v_5 F →
  b70L1 (nx1 I1 m1) b_0 x_1 R v_5 F)
theorem c70 {b_0 : Sl} {x_1 : Int} {R : VP} {F : PH} (h : b70 b_0 x_1 R F) : Spec prog 70 #[(Sl.v b_0), (.int .u64 x_1)] F R := by
 refine spec_of (args := [(Sl.v b_0), (.int .u64 x_1)]) func70 rfl ntmps70 rfl ?_
 unfold b70 at h
 refine cR (sR (.int .i64 0) (r_move rfl rfl) ?_)
 refine HL_nil ?_
 refine HC_block ?_
 obtain ⟨I1, m1, hI0, hr⟩ := h
 refine HC_loop (fun m1 E F => ∃ v_5 : Int, E 0 = (Sl.v b_0) ∧ E 1 = (.int .u64 x_1) ∧ E 5 = (.int .i64 v_5) ∧ I1 m1 v_5 F) m1 ⟨_, rfl, rfl, rfl, hI0⟩ ?_
 clear hI0; rintro m1 E F ⟨v_5, h0, h1, h5, hI⟩
 have h := hr m1 v_5 F hI
 clear hr hI
 unfold b70L1 at h
 refine cR (sR (.bool (decide (v_5 < 8))) (r_lss rfl h5 rfl) ?_)
 refine HL_nil ?_
 refine HC_seq ?_
 refine HC_cond (t := (decide (v_5 < 8))) rfl (fun hc => ?_) (fun hc => ?_)
 replace h := h.1 (of_decide_eq_true hc)
 clear hc
 refine HC_skip ?_
 refine HC_seq ?_
 refine HC_block ?_
 refine cR (sR _ (r_move rfl h5) ?_)
 refine sR (.int .i64 v_5) (r_assign rfl rfl) ?_
 refine HL_nil ?_
 refine HC_region ?_
 refine sR _ (r_move rfl h0) ?_
 refine sR (.int .i64 v_5) (r_move rfl rfl) ?_
 refine sR _ (r_move rfl h1) ?_
 refine sR (.int .i64 v_5) (r_move rfl rfl) ?_
 refine sR (.int .i64 (IntKind.i64.wrap (8 * v_5))) (r_mul rfl rfl rfl) ?_
 refine sR (.int .i64 (IntKind.i64.wrap (56 - (IntKind.i64.wrap (8 * v_5))))) (r_sub rfl rfl rfl) ?_
 obtain ⟨hd14, h⟩ := h
 refine sR (.int .u64 (Int.fdiv x_1 (2 ^ (min (Int.toNat (IntKind.i64.wrap (56 - (IntKind.i64.wrap (8 * v_5))))) (IntKind.u64).bits)))) (r_shr rfl rfl rfl hd14) ?_
 refine sR (.int .u8 (IntKind.u8.wrap (Int.fdiv x_1 (2 ^ (min (Int.toNat (IntKind.i64.wrap (56 - (IntKind.i64.wrap (8 * v_5))))) (IntKind.u64).bits))))) (r_convInt rfl rfl underlying81 underlying5) ?_
 obtain ⟨a16_, hb16, hl16, hu16, h⟩ := h
 refine sR (.pointer (some (Addr.add a16_ (Int.toNat v_5 * 1)))) (w_indexAddr rfl rfl underlying39 sz5 hb16 hl16 hu16) ?_
 refine s_ef0 (k_store1 (v := (.int .u8 (IntKind.u8.wrap (Int.fdiv x_1 (2 ^ (min (Int.toNat (IntKind.i64.wrap (56 - (IntKind.i64.wrap (8 * v_5))))) (IntKind.u64).bits)))))) rfl rfl sz5 rfl st_int ?_)
 obtain ⟨c, e, hz3, hz4, hz5, h⟩ := h
 refine ⟨c, e, hz3, hz4, hz5, ?_⟩
 replace h := atE h
 refine HL_nil ?_
 refine HC_region ?_
 refine sR (.int .i64 (IntKind.i64.wrap (v_5 + 1))) (r_add rfl h5 rfl) ?_
 refine sR (.int .i64 (IntKind.i64.wrap (v_5 + 1))) (r_move rfl rfl) ?_
 refine HL_nil ?_
 obtain ⟨m', hm, h⟩ := h
 exact ⟨m', hm, _, h0, h1, rfl, h⟩
 replace h := h.2 (of_decide_eq_false hc)
 clear hc
 refine HC_exit ?_
 exact (show endQ prog f70 R .normal _ _ from ⟨_, res0 rfl, h⟩)
 /- 58 koine.store.head -/
def b58 (mark_0 : Int) (number_1 : Int) (value_2 : Int) (R : VP) (F : PH) :=
 ∀ b6, F b6 = none → atF (F.set b6 (.cells (Array.replicate 64 (Value.int .u8 0)) 104)) fun F =>
 ∀ b7, F b7 = none → atF (F.set b7 (.cells (Array.replicate 64 (Value.int .u8 0)) 104)) fun F =>
 (Array.setIfInBounds (Array.replicate 64 (Value.int .u8 0)) 0 (.int .u8 mark_0)).size = 64 ∧ (∀ v ∈ (Array.setIfInBounds (Array.replicate 64 (Value.int .u8 0)) 0 (.int .u8 mark_0)).toList, storable v) ∧ ∃ c e, F (Addr.mk b7 0 none).block = some (.cells c e (0, 0)) ∧ (Addr.mk b7 0 none).spot = none ∧ (Addr.mk b7 0 none).off + 64 ≤ c.size ∧
 atF (F.set (Addr.mk b7 0 none).block (.cells (wr c (Addr.mk b7 0 none).off (Array.setIfInBounds (Array.replicate 64 (Value.int .u8 0)) 0 (.int .u8 mark_0)).toList) e)) fun F =>
 1 ≤ 64 ∧ 64 ≤ 64 ∧ Spec prog 70 #[(Sl.v (Sl.cut ⟨some (Addr.mk b7 0 none), 64, 64⟩ 1 1 64 64)), (.int .u64 number_1)] F fun v F => v = Value.tuple #[] ∧
 9 ≤ 64 ∧ 64 ≤ 64 ∧ Spec prog 70 #[(Sl.v (Sl.cut ⟨some (Addr.mk b7 0 none), 64, 64⟩ 1 9 64 64)), (.int .u64 value_2)] F fun v F => v = Value.tuple #[] ∧
 ∃ v_16 : Array Value, v_16.size = 64 ∧ F.row (Addr.mk b7 0 none) v_16 ∧
 v_16.size = 64 ∧ (∀ v ∈ v_16.toList, storable v) ∧ ∃ c e, F (Addr.mk b6 0 none).block = some (.cells c e (0, 0)) ∧ (Addr.mk b6 0 none).spot = none ∧ (Addr.mk b6 0 none).off + 64 ≤ c.size ∧
 atF (F.set (Addr.mk b6 0 none).block (.cells (wr c (Addr.mk b6 0 none).off v_16.toList) e)) fun F =>
 ∃ vres_6 : Array Value, vres_6.size = 64 ∧ F.row (Addr.mk b6 0 none) vres_6 ∧ R (.agg vres_6) F
theorem c58 {mark_0 : Int} {number_1 : Int} {value_2 : Int} {R : VP} {F : PH} (h : b58 mark_0 number_1 value_2 R F) : Spec prog 58 #[(.int .u8 mark_0), (.int .u64 number_1), (.int .u64 value_2)] F R := by
 refine spec_of (args := [(.int .u8 mark_0), (.int .u64 number_1), (.int .u64 value_2)]) func58 rfl ntmps58 rfl ?_
 unfold b58 at h
 refine cR ?_
 refine s_ef (k_alloc zr104 ?_)
 intro b6 hf_b6
 replace h := atE (h b6 hf_b6)
 refine HL_nil ?_
 refine cR (sR (.int .u8 mark_0) (r_move rfl rfl) ?_)
 refine sR (.agg (Array.setIfInBounds (Array.replicate 64 (Value.int .u8 0)) 0 (.int .u8 mark_0))) (w_buildArray (cells := (Array.setIfInBounds (Array.replicate 64 (Value.int .u8 0)) 0 (.int .u8 mark_0))) underlying104 zr104 sz5 (evPC rfl evPN) (fill1 rfl rfl rfl (fillN rfl))) ?_
 refine s_ef (k_alloc zr104 ?_)
 intro b7 hf_b7
 replace h := atE (h b7 hf_b7)
 refine s_ef0 (k_storeN (vs := (Array.setIfInBounds (Array.replicate 64 (Value.int .u8 0)) 0 (.int .u8 mark_0))) rfl rfl sz104 (by decide) ?_)
 obtain ⟨hz1, hz2, c, e, hz3, hz4, hz5, h⟩ := h
 refine ⟨hz1, hz2, c, e, hz3, hz4, hz5, ?_⟩
 replace h := atE h
 refine HL_nil ?_
 refine cR ?_
 obtain ⟨hr10_0, hr10_1, h⟩ := h
 refine sR (Sl.v (Sl.cut ⟨some (Addr.mk b7 0 none), 64, 64⟩ 1 1 64 64)) (r_sliceAr rfl rfl underlying104 sz5 (bo_ev (i := 1) rfl (by decide)) bo_none hr10_0 hr10_1) ?_
 refine sR (.int .u64 number_1) (r_move rfl rfl) ?_
 refine s_ef (k_call (vs := [(Sl.v (Sl.cut ⟨some (Addr.mk b7 0 none), 64, 64⟩ 1 1 64 64)), (.int .u64 number_1)]) cb70 (evC rfl (evC rfl evN)) (h.mono ?_))
 clear h; rintro v F ⟨rfl, h⟩
 refine HL_nil ?_
 refine cR ?_
 obtain ⟨hr13_0, hr13_1, h⟩ := h
 refine sR (Sl.v (Sl.cut ⟨some (Addr.mk b7 0 none), 64, 64⟩ 1 9 64 64)) (r_sliceAr rfl rfl underlying104 sz5 (bo_ev (i := 9) rfl (by decide)) bo_none hr13_0 hr13_1) ?_
 refine sR (.int .u64 value_2) (r_move rfl rfl) ?_
 refine s_ef (k_call (vs := [(Sl.v (Sl.cut ⟨some (Addr.mk b7 0 none), 64, 64⟩ 1 9 64 64)), (.int .u64 value_2)]) cb70 (evC rfl (evC rfl evN)) (h.mono ?_))
 clear h; rintro v F ⟨rfl, h⟩
 refine HL_nil ?_
 refine cR ?_
 obtain ⟨v_16, hs16, hc16, h⟩ := h
 refine sR (.agg v_16) (w_loadN rfl underlying104 rfl sz104 hs16 hc16) ?_
 refine s_ef0 (k_storeN (vs := v_16) rfl rfl sz104 (by decide) ?_)
 obtain ⟨hz1, hz2, c, e, hz3, hz4, hz5, h⟩ := h
 refine ⟨hz1, hz2, c, e, hz3, hz4, hz5, ?_⟩
 replace h := atE h
 refine HL_nil ?_
 obtain ⟨vres_6, hs6, hr6, h⟩ := h
 exact HC_ret (show endQ prog f58 R .ret _ _ from ⟨_, res1 rfl (rv_cellN rfl underlying104 rfl sz104 hs6 hr6), h⟩)
 /- 47 koine.store.get64 -/
def b47j1 (x_3 : Int) (R : VP) (F : PH) :=
 R (.int .u64 x_3) F
abbrev b47J1 (R : VP) (E : En) (F : PH) : Prop := ∃ x_3 : Int, E 3 = (.int .u64 x_3) ∧ b47j1 x_3 R F
def b47L1 (N1 : Int → Int → PH → Prop) (b_0 : Sl) (R : VP) (x_3_1 : Int) (v_9 : Int) (F : PH) :=
 ((v_9 < ((Sl.cut b_0 1 0 8 b_0.cap).len : Int) →
  ∃ a11_ : Addr, (Sl.cut b_0 1 0 8 b_0.cap).base = some a11_ ∧ 0 ≤ v_9 ∧ v_9 < ((Sl.cut b_0 1 0 8 b_0.cap).len : Int) ∧
  ∃ v_12 : Int, F.cell (Addr.add a11_ (Int.toNat v_9 * 1)) = some (.int .u8 v_12) ∧
  N1 (IntKind.u64.wrap ((BitVec.ofInt (IntKind.u64).bits (IntKind.u64.wrap (x_3_1 * 2 ^ (min (Int.toNat 8) (IntKind.u64).bits))) ||| BitVec.ofInt (IntKind.u64).bits (IntKind.u64.wrap v_12)).toNat)) (IntKind.i64.wrap (v_9 + 1)) F) ∧
 (¬ (v_9 < ((Sl.cut b_0 1 0 8 b_0.cap).len : Int)) →
  b47j1 x_3_1 R F))
def b47 (b_0 : Sl) (R : VP) (F : PH) :=
 0 ≤ 8 ∧ 8 ≤ b_0.cap ∧ 
 (∃ (I1 : Nat → Int → Int → PH → Prop) (m1 : Nat), I1 m1 0 0 F ∧ ∀ m1 x_3_1 v_9 F, I1 m1 x_3_1 v_9 F →
  b47L1 (nx2 I1 m1) b_0 R x_3_1 v_9 F)
theorem c47 {b_0 : Sl} {R : VP} {F : PH} (h : b47 b_0 R F) : Spec prog 47 #[(Sl.v b_0)] F R := by
 refine spec_of (args := [(Sl.v b_0)]) func47 rfl ntmps47 rfl ?_
 unfold b47 at h
 refine cR (sR (.int .u64 0) (r_assign rfl rfl) ?_)
 refine HL_nil ?_
 refine cR (sR (.int .u64 0) (r_assign rfl rfl) ?_)
 refine HL_nil ?_
 refine HC_seqJ (b47J1 R) ?_ ?_
 clear h; rintro E F ⟨x_3, h3, h⟩
 unfold b47j1 at h
 refine cR (sR _ (r_move rfl h3) ?_)
 refine sR (.int .u64 x_3) (r_assign rfl rfl) ?_
 exact HL_nil (HC_ret (rt1 f47 R rfl rfl h))
 refine cR (sR (Sl.v b_0) (r_move rfl rfl) ?_)
 obtain ⟨hr7_0, hr7_1, h⟩ := h
 refine sR (Sl.v (Sl.cut b_0 1 0 8 b_0.cap)) (r_sliceSl rfl rfl underlying39 sz5 bo_none (bo_ev (i := 8) rfl (by decide)) hr7_0 hr7_1) ?_
 refine sR (.int .i64 ((Sl.cut b_0 1 0 8 b_0.cap).len : Int)) (r_lenSl rfl rfl underlying39) ?_
 refine sR (.int .i64 0) (r_move rfl rfl) ?_
 refine HL_nil ?_
 refine HC_block ?_
 obtain ⟨I1, m1, hI0, hr⟩ := h
 refine HC_loop (fun m1 E F => ∃ x_3_1 : Int, ∃ v_9 : Int, E 3 = (.int .u64 x_3_1) ∧ E 7 = (Sl.v (Sl.cut b_0 1 0 8 b_0.cap)) ∧ E 8 = (.int .i64 ((Sl.cut b_0 1 0 8 b_0.cap).len : Int)) ∧ E 9 = (.int .i64 v_9) ∧ I1 m1 x_3_1 v_9 F) m1 ⟨_, _, rfl, rfl, rfl, rfl, hI0⟩ ?_
 clear hI0; rintro m1 E F ⟨x_3_1, v_9, h3, h7, h8, h9, hI⟩
 have h := hr m1 x_3_1 v_9 F hI
 clear hr hI
 unfold b47L1 at h
 refine cR (sR (.bool (decide (v_9 < ((Sl.cut b_0 1 0 8 b_0.cap).len : Int)))) (r_lss rfl h9 h8) ?_)
 refine HL_nil ?_
 refine HC_seq ?_
 refine HC_cond (t := (decide (v_9 < ((Sl.cut b_0 1 0 8 b_0.cap).len : Int)))) rfl (fun hc => ?_) (fun hc => ?_)
 replace h := h.1 (of_decide_eq_true hc)
 clear hc
 refine HC_skip ?_
 refine HC_seq ?_
 refine HC_block ?_
 refine cR ?_
 obtain ⟨a11_, hb11, hl11, hu11, h⟩ := h
 refine sR (.pointer (some (Addr.add a11_ (Int.toNat v_9 * 1)))) (w_indexAddr h7 h9 underlying39 sz5 hb11 hl11 hu11) ?_
 obtain ⟨v_12, hc12, h⟩ := h
 refine sR (.int .u8 v_12) (r_load1 rfl rfl underlying5 rfl hc12) ?_
 refine sR (.int .u8 v_12) (r_assign rfl rfl) ?_
 refine HL_nil ?_
 refine HC_region ?_
 refine sR _ (r_move rfl h3) ?_
 refine sR (.int .u64 (IntKind.u64.wrap (x_3_1 * 2 ^ (min (Int.toNat 8) (IntKind.u64).bits)))) (r_shl rfl rfl rfl (by decide)) ?_
 refine sR (.int .u8 v_12) (r_move rfl rfl) ?_
 refine sR (.int .u64 (IntKind.u64.wrap v_12)) (r_convInt rfl rfl underlying5 underlying81) ?_
 refine sR (.int .u64 (IntKind.u64.wrap ((BitVec.ofInt (IntKind.u64).bits (IntKind.u64.wrap (x_3_1 * 2 ^ (min (Int.toNat 8) (IntKind.u64).bits))) ||| BitVec.ofInt (IntKind.u64).bits (IntKind.u64.wrap v_12)).toNat))) (r_or rfl rfl rfl) ?_
 refine sR (.int .u64 (IntKind.u64.wrap ((BitVec.ofInt (IntKind.u64).bits (IntKind.u64.wrap (x_3_1 * 2 ^ (min (Int.toNat 8) (IntKind.u64).bits))) ||| BitVec.ofInt (IntKind.u64).bits (IntKind.u64.wrap v_12)).toNat))) (r_assign rfl rfl) ?_
 refine HL_nil ?_
 refine HC_region ?_
 refine sR (.int .i64 (IntKind.i64.wrap (v_9 + 1))) (r_add rfl h9 rfl) ?_
 refine sR (.int .i64 (IntKind.i64.wrap (v_9 + 1))) (r_move rfl rfl) ?_
 refine HL_nil ?_
 obtain ⟨m', hm, h⟩ := h
 exact ⟨m', hm, _, _, rfl, h7, h8, rfl, h⟩
 replace h := h.2 (of_decide_eq_false hc)
 clear hc
 refine HC_exit ?_
 show b47J1 R _ _
 exact ⟨_, h3, h⟩
 /- 51 koine.store.sectors -/
def b51 (payload_0 : Int) (R : VP) (F : PH) :=
 R (.int .i64 (IntKind.i64.wrap (1 + (IntKind.i64.wrap (Int.tdiv (IntKind.i64.wrap (payload_0 + 62)) 63))))) F
theorem c51 {payload_0 : Int} {R : VP} {F : PH} (h : b51 payload_0 R F) : Spec prog 51 #[(.int .i64 payload_0)] F R := by
 refine spec_of (args := [(.int .i64 payload_0)]) func51 rfl ntmps51 rfl ?_
 unfold b51 at h
 refine cR (sR (.int .i64 0) (r_assign rfl rfl) ?_)
 refine HL_nil ?_
 refine cR (sR (.int .i64 payload_0) (r_move rfl rfl) ?_)
 refine sR (.int .i64 (IntKind.i64.wrap (payload_0 + 62))) (r_add rfl rfl rfl) ?_
 refine sR (.int .i64 (IntKind.i64.wrap (Int.tdiv (IntKind.i64.wrap (payload_0 + 62)) 63))) (r_quo rfl rfl rfl (by decide)) ?_
 refine sR (.int .i64 (IntKind.i64.wrap (1 + (IntKind.i64.wrap (Int.tdiv (IntKind.i64.wrap (payload_0 + 62)) 63))))) (r_add rfl rfl rfl) ?_
 refine sR (.int .i64 (IntKind.i64.wrap (1 + (IntKind.i64.wrap (Int.tdiv (IntKind.i64.wrap (payload_0 + 62)) 63))))) (r_assign rfl rfl) ?_
 exact HL_nil (HC_ret (rt1 f51 R rfl rfl h))
 /- 44 (*koine.store.Store).capacity -/
def b44 (s_0 : Option Addr) (R : VP) (F : PH) :=
 ∃ s0a_ : Addr, s_0 = some s0a_ ∧ ∃ v_6 : Int, F.cell (Addr.add s0a_ 1) = some (.int .i64 v_6) ∧
 R (.int .i64 (IntKind.i64.wrap (v_6 - 1))) F
theorem c44 {s_0 : Option Addr} {R : VP} {F : PH} (h : b44 s_0 R F) : Spec prog 44 #[(.pointer s_0)] F R := by
 refine spec_of (args := [(.pointer s_0)]) func44 rfl ntmps44 rfl ?_
 unfold b44 at h
 refine cR (sR (.int .i64 0) (r_assign rfl rfl) ?_)
 refine HL_nil ?_
 refine cR (sR (.pointer s_0) (r_move rfl rfl) ?_)
 obtain ⟨s0a_, rfl, h⟩ := h
 refine sR (.pointer (some s0a_)) (r_nilCheck rfl rfl) ?_
 refine sR (.pointer (some (Addr.add s0a_ 1))) (w_fieldAddr rfl underlying84 rfl rfl sz3 rfl rfl) ?_
 obtain ⟨v_6, hc6, h⟩ := h
 refine sR (.int .i64 v_6) (r_load1 rfl rfl underlying3 rfl hc6) ?_
 refine sR (.int .i64 (IntKind.i64.wrap (v_6 - 1))) (r_sub rfl rfl rfl) ?_
 refine sR (.int .i64 (IntKind.i64.wrap (v_6 - 1))) (r_assign rfl rfl) ?_
 exact HL_nil (HC_ret (rt1 f44 R rfl rfl h))
 /- 45 (*koine.store.Store).done -/
def b45 (s_0 : Option Addr) (e_1 : Int) (R : VP) (F : PH) :=
 ((e_1 ≠ 0 →
  ∃ s0a_ : Addr, s_0 = some s0a_ ∧ ∃ c e, F (Addr.add s0a_ 6).block = some (.cells c e (0, 0)) ∧ (Addr.add s0a_ 6).spot = none ∧ (Addr.add s0a_ 6).off < c.size ∧
  atF (F.set (Addr.add s0a_ 6).block (.cells (c.setIfInBounds (Addr.add s0a_ 6).off (.bool true)) e)) fun F =>
  R (.int .i64 e_1) F) ∧
 (¬ (e_1 ≠ 0) →
  R (.int .i64 e_1) F))
theorem c45 {s_0 : Option Addr} {e_1 : Int} {R : VP} {F : PH} (h : b45 s_0 e_1 R F) : Spec prog 45 #[(.pointer s_0), (.int .i64 e_1)] F R := by
 refine spec_of (args := [(.pointer s_0), (.int .i64 e_1)]) func45 rfl ntmps45 rfl ?_
 unfold b45 at h
 refine cR (sR (.int .i64 0) (r_assign rfl rfl) ?_)
 refine HL_nil ?_
 refine HC_seq ?_
 refine cR (sR (.int .i64 e_1) (r_move rfl rfl) ?_)
 refine sR (.bool (decide (e_1 ≠ 0))) (w_neq rfl rfl) ?_
 refine HL_nil ?_
 refine HC_cond (t := (decide (e_1 ≠ 0))) rfl (fun hc => ?_) (fun hc => ?_)
 replace h := h.1 (of_decide_eq_true hc)
 clear hc
 refine HC_region ?_
 refine sR (.pointer s_0) (r_move rfl rfl) ?_
 obtain ⟨s0a_, rfl, h⟩ := h
 refine sR (.pointer (some s0a_)) (r_nilCheck rfl rfl) ?_
 refine sR (.pointer (some (Addr.add s0a_ 6))) (w_fieldAddr rfl underlying84 rfl rfl sz4 rfl rfl) ?_
 refine s_ef0 (k_store1 (v := (.bool true)) rfl rfl sz4 rfl st_bool ?_)
 obtain ⟨c, e, hz3, hz4, hz5, h⟩ := h
 refine ⟨c, e, hz3, hz4, hz5, ?_⟩
 replace h := atE h
 refine HL_nil ?_
 refine cR (sR (.int .i64 e_1) (r_move rfl rfl) ?_)
 refine sR (.int .i64 e_1) (r_assign rfl rfl) ?_
 exact HL_nil (HC_ret (rt1 f45 R rfl rfl h))
 replace h := h.2 (of_decide_eq_false hc)
 clear hc
 refine HC_skip ?_
 refine cR (sR (.int .i64 e_1) (r_move rfl rfl) ?_)
 refine sR (.int .i64 e_1) (r_assign rfl rfl) ?_
 exact HL_nil (HC_ret (rt1 f45 R rfl rfl h))
 /- 52 koine.store.payload -/
def b52j1 (out_3 : Sl) (R : VP) (F : PH) :=
 R (Sl.v out_3) F
abbrev b52J1 (R : VP) (E : En) (F : PH) : Prop := ∃ out_3 : Sl, E 3 = (Sl.v out_3) ∧ b52j1 out_3 R F
def b52L1 (N1 : Sl → Int → PH → Prop) (l_0 : Sl) (R : VP) (out_3_1 : Sl) (v_9 : Int) (F : PH) :=
 ((v_9 < (l_0.len : Int) →
  ∃ a11_ : Addr, l_0.base = some a11_ ∧ 0 ≤ v_9 ∧ v_9 < (l_0.len : Int) ∧
  ∃ v_12 : Array Value, v_12.size = 2 ∧ F.row (Addr.add a11_ (Int.toNat v_9 * 2)) v_12 ∧
  ∀ b5, F b5 = none → atF (F.set b5 (.cells (#[.string ⟨#[]⟩, .slice none 0 0]) 41)) fun F =>
  v_12.size = 2 ∧ (∀ v ∈ v_12.toList, storable v) ∧ ∃ c e, F (Addr.mk b5 0 none).block = some (.cells c e (0, 0)) ∧ (Addr.mk b5 0 none).spot = none ∧ (Addr.mk b5 0 none).off + 2 ≤ c.size ∧
  atF (F.set (Addr.mk b5 0 none).block (.cells (wr c (Addr.mk b5 0 none).off v_12.toList) e)) fun F =>
  ∃ v_15 : ByteArray, F.cell (Addr.mk b5 0 none) = some (.string v_15) ∧
  ∀ b18, F b18 = none → atF (F.set b18 (.cells #[(.int .u8 (IntKind.u8.wrap (v_15.size : Int)))] 5)) fun F =>
  runs prog (Builtin.append_ #[39, 39] 39 #[(Sl.v out_3_1), (Sl.v (Sl.mk (some (Addr.mk b18 0 none)) 1 1))]) F fun v F => ∃ v_19 : Sl, v = (Sl.v v_19) ∧
  ∃ v_22 : ByteArray, F.cell (Addr.mk b5 0 none) = some (.string v_22) ∧
  runs prog (Builtin.append_ #[39, 9] 39 #[(Sl.v v_19), (.string v_22)]) F fun v F => ∃ v_23 : Sl, v = (Sl.v v_23) ∧
  ∃ v_25 : Sl, F.cell (Addr.mk b5 1 none) = some (Sl.v v_25) ∧
  ∀ b39, F b39 = none → atF (F.set b39 (.cells #[(.int .u8 (IntKind.u8.wrap (Int.fdiv (v_25.len : Int) (2 ^ (min (Int.toNat 24) (IntKind.i64).bits))))), (.int .u8 (IntKind.u8.wrap (Int.fdiv (v_25.len : Int) (2 ^ (min (Int.toNat 16) (IntKind.i64).bits))))), (.int .u8 (IntKind.u8.wrap (Int.fdiv (v_25.len : Int) (2 ^ (min (Int.toNat 8) (IntKind.i64).bits))))), (.int .u8 (IntKind.u8.wrap (v_25.len : Int)))] 5)) fun F =>
  runs prog (Builtin.append_ #[39, 39] 39 #[(Sl.v v_23), (Sl.v (Sl.mk (some (Addr.mk b39 0 none)) 4 4))]) F fun v F => ∃ v_40 : Sl, v = (Sl.v v_40) ∧
  ∃ v_43 : Sl, F.cell (Addr.mk b5 1 none) = some (Sl.v v_43) ∧
  runs prog (Builtin.append_ #[39, 39] 39 #[(Sl.v v_40), (Sl.v v_43)]) F fun v F => ∃ v_44 : Sl, v = (Sl.v v_44) ∧
  N1 v_44 (IntKind.i64.wrap (v_9 + 1)) F) ∧
 (¬ (v_9 < (l_0.len : Int)) →
  b52j1 out_3_1 R F))
def b52 (l_0 : Sl) (R : VP) (F : PH) :=
 (∃ (I1 : Nat → Sl → Int → PH → Prop) (m1 : Nat), I1 m1 Sl.nil 0 F ∧ ∀ m1 out_3_1 v_9 F, I1 m1 out_3_1 v_9 F →
  b52L1 (nx2 I1 m1) l_0 R out_3_1 v_9 F)
theorem c52 {l_0 : Sl} {R : VP} {F : PH} (h : b52 l_0 R F) : Spec prog 52 #[(Sl.v l_0)] F R := by
 refine spec_of (args := [(Sl.v l_0)]) func52 rfl ntmps52 rfl ?_
 unfold b52 at h
 refine cR (sR (Sl.v Sl.nil) (r_assign rfl rfl) ?_)
 refine HL_nil ?_
 refine cR (sR (Sl.v Sl.nil) (r_assign rfl rfl) ?_)
 refine HL_nil ?_
 refine HC_seqJ (b52J1 R) ?_ ?_
 clear h; rintro E F ⟨out_3, h3, h⟩
 unfold b52j1 at h
 refine cR (sR _ (r_move rfl h3) ?_)
 refine sR (Sl.v out_3) (r_assign rfl rfl) ?_
 exact HL_nil (HC_ret (rt1 f52 R rfl rfl h))
 refine cR (sR (Sl.v l_0) (r_move rfl rfl) ?_)
 refine sR (.int .i64 (l_0.len : Int)) (r_lenSl rfl rfl underlying26) ?_
 refine sR (.int .i64 0) (r_move rfl rfl) ?_
 refine HL_nil ?_
 refine HC_block ?_
 obtain ⟨I1, m1, hI0, hr⟩ := h
 refine HC_loop (fun m1 E F => ∃ out_3_1 : Sl, ∃ v_9 : Int, E 3 = (Sl.v out_3_1) ∧ E 7 = (Sl.v l_0) ∧ E 8 = (.int .i64 (l_0.len : Int)) ∧ E 9 = (.int .i64 v_9) ∧ I1 m1 out_3_1 v_9 F) m1 ⟨_, _, rfl, rfl, rfl, rfl, hI0⟩ ?_
 clear hI0; rintro m1 E F ⟨out_3_1, v_9, h3, h7, h8, h9, hI⟩
 have h := hr m1 out_3_1 v_9 F hI
 clear hr hI
 unfold b52L1 at h
 refine cR (sR (.bool (decide (v_9 < (l_0.len : Int)))) (r_lss rfl h9 h8) ?_)
 refine HL_nil ?_
 refine HC_seq ?_
 refine HC_cond (t := (decide (v_9 < (l_0.len : Int)))) rfl (fun hc => ?_) (fun hc => ?_)
 replace h := h.1 (of_decide_eq_true hc)
 clear hc
 refine HC_skip ?_
 refine HC_seq ?_
 refine HC_block ?_
 refine cR ?_
 obtain ⟨a11_, hb11, hl11, hu11, h⟩ := h
 refine sR (.pointer (some (Addr.add a11_ (Int.toNat v_9 * 2)))) (w_indexAddr h7 h9 underlying26 sz41 hb11 hl11 hu11) ?_
 obtain ⟨v_12, hs12, hc12, h⟩ := h
 refine sR (.agg v_12) (w_loadN rfl underlying41 rfl sz41 hs12 hc12) ?_
 refine s_ef (k_alloc zr41 ?_)
 intro b5 hf_b5
 replace h := atE (h b5 hf_b5)
 refine s_ef0 (k_storeN (vs := v_12) rfl rfl sz41 (by decide) ?_)
 obtain ⟨hz1, hz2, c, e, hz3, hz4, hz5, h⟩ := h
 refine ⟨hz1, hz2, c, e, hz3, hz4, hz5, ?_⟩
 replace h := atE h
 refine HL_nil ?_
 refine cR (sR _ (r_move rfl h3) ?_)
 refine sR (.pointer (some (Addr.mk b5 0 none))) (w_fieldAddr rfl underlying41 rfl rfl sz9 rfl rfl) ?_
 obtain ⟨v_15, hc15, h⟩ := h
 refine sR (.string v_15) (r_load1 rfl rfl underlying9 rfl hc15) ?_
 refine sR (.int .i64 (v_15.size : Int)) (r_lenStr rfl rfl underlying9) ?_
 refine sR (.int .u8 (IntKind.u8.wrap (v_15.size : Int))) (r_convInt rfl rfl underlying3 underlying5) ?_
 refine s_ef (k_buildSeq (l := [(.int .u8 (IntKind.u8.wrap (v_15.size : Int)))]) underlying39 sz5 (by decide) zr5 rfl rfl ⟨rfl, trivial⟩ (evPC rfl evPN) ?_)
 intro b18 hf_b18
 replace h := atE (h b18 hf_b18)
 refine s_ef (k_append rfl rfl (runs_mono _ _ h ?_))
 clear h; rintro v F ⟨v_19, rfl, h⟩
 refine sR (Sl.v v_19) (r_assign rfl rfl) ?_
 refine HL_nil ?_
 refine cR (sR (Sl.v v_19) (r_move rfl rfl) ?_)
 refine sR (.pointer (some (Addr.mk b5 0 none))) (w_fieldAddr rfl underlying41 rfl rfl sz9 rfl rfl) ?_
 obtain ⟨v_22, hc22, h⟩ := h
 refine sR (.string v_22) (r_load1 rfl rfl underlying9 rfl hc22) ?_
 refine s_ef (k_append rfl rfl (runs_mono _ _ h ?_))
 clear h; rintro v F ⟨v_23, rfl, h⟩
 refine sR (Sl.v v_23) (r_assign rfl rfl) ?_
 refine HL_nil ?_
 refine cR (sR (.pointer (some (Addr.mk b5 1 none))) (w_fieldAddr rfl underlying41 rfl rfl sz39 rfl rfl) ?_)
 obtain ⟨v_25, hc25, h⟩ := h
 refine sR (Sl.v v_25) (r_load1 rfl rfl underlying39 rfl hc25) ?_
 refine sR (.int .i64 (v_25.len : Int)) (r_lenSl rfl rfl underlying39) ?_
 refine sR (.int .i64 (v_25.len : Int)) (r_assign rfl rfl) ?_
 refine HL_nil ?_
 refine cR (sR (Sl.v v_23) (r_move rfl rfl) ?_)
 refine sR (.int .i64 (v_25.len : Int)) (r_move rfl rfl) ?_
 refine sR (.int .i64 (Int.fdiv (v_25.len : Int) (2 ^ (min (Int.toNat 24) (IntKind.i64).bits)))) (r_shr rfl rfl rfl (by decide)) ?_
 refine sR (.int .u8 (IntKind.u8.wrap (Int.fdiv (v_25.len : Int) (2 ^ (min (Int.toNat 24) (IntKind.i64).bits))))) (r_convInt rfl rfl underlying3 underlying5) ?_
 refine sR (.int .i64 (v_25.len : Int)) (r_move rfl rfl) ?_
 refine sR (.int .i64 (Int.fdiv (v_25.len : Int) (2 ^ (min (Int.toNat 16) (IntKind.i64).bits)))) (r_shr rfl rfl rfl (by decide)) ?_
 refine sR (.int .u8 (IntKind.u8.wrap (Int.fdiv (v_25.len : Int) (2 ^ (min (Int.toNat 16) (IntKind.i64).bits))))) (r_convInt rfl rfl underlying3 underlying5) ?_
 refine sR (.int .i64 (v_25.len : Int)) (r_move rfl rfl) ?_
 refine sR (.int .i64 (Int.fdiv (v_25.len : Int) (2 ^ (min (Int.toNat 8) (IntKind.i64).bits)))) (r_shr rfl rfl rfl (by decide)) ?_
 refine sR (.int .u8 (IntKind.u8.wrap (Int.fdiv (v_25.len : Int) (2 ^ (min (Int.toNat 8) (IntKind.i64).bits))))) (r_convInt rfl rfl underlying3 underlying5) ?_
 refine sR (.int .i64 (v_25.len : Int)) (r_move rfl rfl) ?_
 refine sR (.int .u8 (IntKind.u8.wrap (v_25.len : Int))) (r_convInt rfl rfl underlying3 underlying5) ?_
 refine s_ef (k_buildSeq (l := [(.int .u8 (IntKind.u8.wrap (Int.fdiv (v_25.len : Int) (2 ^ (min (Int.toNat 24) (IntKind.i64).bits))))), (.int .u8 (IntKind.u8.wrap (Int.fdiv (v_25.len : Int) (2 ^ (min (Int.toNat 16) (IntKind.i64).bits))))), (.int .u8 (IntKind.u8.wrap (Int.fdiv (v_25.len : Int) (2 ^ (min (Int.toNat 8) (IntKind.i64).bits))))), (.int .u8 (IntKind.u8.wrap (v_25.len : Int)))]) underlying39 sz5 (by decide) zr5 rfl rfl ⟨rfl, rfl, rfl, rfl, trivial⟩ (evPC rfl (evPC rfl (evPC rfl (evPC rfl evPN)))) ?_)
 intro b39 hf_b39
 replace h := atE (h b39 hf_b39)
 refine s_ef (k_append rfl rfl (runs_mono _ _ h ?_))
 clear h; rintro v F ⟨v_40, rfl, h⟩
 refine sR (Sl.v v_40) (r_assign rfl rfl) ?_
 refine HL_nil ?_
 refine HC_region ?_
 refine sR (Sl.v v_40) (r_move rfl rfl) ?_
 refine sR (.pointer (some (Addr.mk b5 1 none))) (w_fieldAddr rfl underlying41 rfl rfl sz39 rfl rfl) ?_
 obtain ⟨v_43, hc43, h⟩ := h
 refine sR (Sl.v v_43) (r_load1 rfl rfl underlying39 rfl hc43) ?_
 refine s_ef (k_append rfl rfl (runs_mono _ _ h ?_))
 clear h; rintro v F ⟨v_44, rfl, h⟩
 refine sR (Sl.v v_44) (r_assign rfl rfl) ?_
 refine HL_nil ?_
 refine HC_region ?_
 refine sR (.int .i64 (IntKind.i64.wrap (v_9 + 1))) (r_add rfl h9 rfl) ?_
 refine sR (.int .i64 (IntKind.i64.wrap (v_9 + 1))) (r_move rfl rfl) ?_
 refine HL_nil ?_
 obtain ⟨m', hm, h⟩ := h
 exact ⟨m', hm, _, _, rfl, h7, h8, rfl, h⟩
 replace h := h.2 (of_decide_eq_false hc)
 clear hc
 refine HC_exit ?_
 show b52J1 R _ _
 exact ⟨_, h3, h⟩
 /- 55 koine.store.blocks -/
def b55j1 (out_7 : Sl) (R : VP) (F : PH) :=
 R (Sl.v out_7) F
abbrev b55J1 (R : VP) (E : En) (F : PH) : Prop := ∃ out_7 : Sl, E 7 = (Sl.v out_7) ∧ b55j1 out_7 R F
def b55L1 (N1 : Sl → Sl → PH → Prop) (R : VP) (data_2_1 : Sl) (out_7_1 : Sl) (F : PH) :=
 (((0 : Int) < (data_2_1.len : Int) →
  ∀ b8, F b8 = none → atF (F.set b8 (.cells (Array.replicate 64 (Value.int .u8 0)) 104)) fun F =>
  (Array.setIfInBounds (Array.replicate 64 (Value.int .u8 0)) 0 (.int .u8 2)).size = 64 ∧ (∀ v ∈ (Array.setIfInBounds (Array.replicate 64 (Value.int .u8 0)) 0 (.int .u8 2)).toList, storable v) ∧ ∃ c e, F (Addr.mk b8 0 none).block = some (.cells c e (0, 0)) ∧ (Addr.mk b8 0 none).spot = none ∧ (Addr.mk b8 0 none).off + 64 ≤ c.size ∧
  atF (F.set (Addr.mk b8 0 none).block (.cells (wr c (Addr.mk b8 0 none).off (Array.setIfInBounds (Array.replicate 64 (Value.int .u8 0)) 0 (.int .u8 2)).toList) e)) fun F =>
  1 ≤ 64 ∧ 64 ≤ 64 ∧ runs prog (Builtin.copy_ #[39, 39] 3 #[(Sl.v (Sl.cut ⟨some (Addr.mk b8 0 none), 64, 64⟩ 1 1 64 64)), (Sl.v data_2_1)]) F fun v F => ∃ v_23 : Int, v = (.int .i64 v_23) ∧
  0 ≤ v_23 ∧ (Int.toNat v_23) ≤ data_2_1.len ∧ data_2_1.len ≤ data_2_1.cap ∧ 
  ∃ v_28 : Array Value, v_28.size = 64 ∧ F.row (Addr.mk b8 0 none) v_28 ∧
  v_28.size = 64 ∧ ∀ b29, F b29 = none → atF (F.set b29 (.cells v_28 104)) fun F =>
  runs prog (Builtin.append_ #[95, 95] 95 #[(Sl.v out_7_1), (Sl.v (Sl.mk (some (Addr.mk b29 0 none)) 1 1))]) F fun v F => ∃ v_30 : Sl, v = (Sl.v v_30) ∧
  N1 (Sl.cut data_2_1 1 (Int.toNat v_23) data_2_1.len data_2_1.cap) v_30 F) ∧
 (¬ ((0 : Int) < (data_2_1.len : Int)) →
  b55j1 out_7_1 R F))
def b55 (mark_0 : Int) (number_1 : Int) (data_2 : Sl) (R : VP) (F : PH) :=
 Spec prog 58 #[(.int .u8 mark_0), (.int .u64 number_1), (.int .u64 (IntKind.u64.wrap (data_2.len : Int)))] F fun v F => ∃ v_15 : Array Value, v = (.agg v_15) ∧
 v_15.size = 64 ∧ ∀ b16, F b16 = none → atF (F.set b16 (.cells v_15 104)) fun F =>
 (∃ (I1 : Nat → Sl → Sl → PH → Prop) (m1 : Nat), I1 m1 data_2 (Sl.mk (some (Addr.mk b16 0 none)) 1 1) F ∧ ∀ m1 data_2_1 out_7_1 F, I1 m1 data_2_1 out_7_1 F →
  b55L1 (nx2 I1 m1) R data_2_1 out_7_1 F)
theorem c55 {mark_0 : Int} {number_1 : Int} {data_2 : Sl} {R : VP} {F : PH} (h : b55 mark_0 number_1 data_2 R F) : Spec prog 55 #[(.int .u8 mark_0), (.int .u64 number_1), (Sl.v data_2)] F R := by
 refine spec_of (args := [(.int .u8 mark_0), (.int .u64 number_1), (Sl.v data_2)]) func55 rfl ntmps55 rfl ?_
 unfold b55 at h
 refine cR (sR (Sl.v Sl.nil) (r_assign rfl rfl) ?_)
 refine HL_nil ?_
 refine cR (sR (.int .u8 mark_0) (r_move rfl rfl) ?_)
 refine sR (.int .u64 number_1) (r_move rfl rfl) ?_
 refine sR (Sl.v data_2) (r_move rfl rfl) ?_
 refine sR (.int .i64 (data_2.len : Int)) (r_lenSl rfl rfl underlying39) ?_
 refine sR (.int .u64 (IntKind.u64.wrap (data_2.len : Int))) (r_convInt rfl rfl underlying3 underlying81) ?_
 refine s_ef (k_call (vs := [(.int .u8 mark_0), (.int .u64 number_1), (.int .u64 (IntKind.u64.wrap (data_2.len : Int)))]) cb58 (evC rfl (evC rfl (evC rfl evN))) (h.mono ?_))
 clear h; rintro v F ⟨v_15, rfl, h⟩
 obtain ⟨hz16, h⟩ := h
 refine s_ef (k_buildSlice (cells := v_15) underlying95 sz104 (by decide) zr104 rfl (evPC rfl evPN) (fillWhole hz16 rfl rfl) rfl ?_)
 intro b16 hf_b16
 replace h := atE (h b16 hf_b16)
 refine sR (Sl.v (Sl.mk (some (Addr.mk b16 0 none)) 1 1)) (r_assign rfl rfl) ?_
 refine HL_nil ?_
 refine HC_seqJ (b55J1 R) ?_ ?_
 clear h; rintro E F ⟨out_7, h7, h⟩
 unfold b55j1 at h
 refine cR (sR _ (r_move rfl h7) ?_)
 refine sR (Sl.v out_7) (r_assign rfl rfl) ?_
 exact HL_nil (HC_ret (rt1 f55 R rfl rfl h))
 refine HC_block ?_
 obtain ⟨I1, m1, hI0, hr⟩ := h
 refine HC_loop (fun m1 E F => ∃ data_2_1 : Sl, ∃ out_7_1 : Sl, E 2 = (Sl.v data_2_1) ∧ E 7 = (Sl.v out_7_1) ∧ I1 m1 data_2_1 out_7_1 F) m1 ⟨_, _, rfl, rfl, hI0⟩ ?_
 clear hI0; rintro m1 E F ⟨data_2_1, out_7_1, h2, h7, hI⟩
 have h := hr m1 data_2_1 out_7_1 F hI
 clear hr hI
 unfold b55L1 at h
 refine HC_seq ?_
 refine cR (sR _ (r_move rfl h2) ?_)
 refine sR (.int .i64 (data_2_1.len : Int)) (r_lenSl rfl rfl underlying39) ?_
 refine sR (.bool (decide ((0 : Int) < (data_2_1.len : Int)))) (r_gtr rfl rfl rfl) ?_
 refine HL_nil ?_
 refine HC_cond (t := (decide ((0 : Int) < (data_2_1.len : Int)))) rfl (fun hc => ?_) (fun hc => ?_)
 replace h := h.1 (of_decide_eq_true hc)
 clear hc
 refine HC_skip ?_
 refine HC_block ?_
 refine cR (sR (.agg (Array.setIfInBounds (Array.replicate 64 (Value.int .u8 0)) 0 (.int .u8 2))) (w_buildArray (cells := (Array.setIfInBounds (Array.replicate 64 (Value.int .u8 0)) 0 (.int .u8 2))) underlying104 zr104 sz5 (evPC rfl evPN) (fill1 rfl rfl rfl (fillN rfl))) ?_)
 refine s_ef (k_alloc zr104 ?_)
 intro b8 hf_b8
 replace h := atE (h b8 hf_b8)
 refine s_ef0 (k_storeN (vs := (Array.setIfInBounds (Array.replicate 64 (Value.int .u8 0)) 0 (.int .u8 2))) rfl rfl sz104 (by decide) ?_)
 obtain ⟨hz1, hz2, c, e, hz3, hz4, hz5, h⟩ := h
 refine ⟨hz1, hz2, c, e, hz3, hz4, hz5, ?_⟩
 replace h := atE h
 refine HL_nil ?_
 refine cR ?_
 obtain ⟨hr21_0, hr21_1, h⟩ := h
 refine sR (Sl.v (Sl.cut ⟨some (Addr.mk b8 0 none), 64, 64⟩ 1 1 64 64)) (r_sliceAr rfl rfl underlying104 sz5 (bo_ev (i := 1) rfl (by decide)) bo_none hr21_0 hr21_1) ?_
 refine sR _ (r_move rfl h2) ?_
 refine s_ef (k_copy rfl rfl (runs_mono _ _ h ?_))
 clear h; rintro v F ⟨v_23, rfl, h⟩
 refine sR (.int .i64 v_23) (r_assign rfl rfl) ?_
 refine HL_nil ?_
 refine cR (sR _ (r_move rfl h2) ?_)
 refine sR (.int .i64 v_23) (r_move rfl rfl) ?_
 obtain ⟨hq26_0, hr26_0, hr26_1, h⟩ := h
 refine sR (Sl.v (Sl.cut data_2_1 1 (Int.toNat v_23) data_2_1.len data_2_1.cap)) (r_sliceSl rfl rfl underlying39 sz5 (bo_ev rfl hq26_0) bo_none hr26_0 hr26_1) ?_
 refine sR (Sl.v (Sl.cut data_2_1 1 (Int.toNat v_23) data_2_1.len data_2_1.cap)) (r_assign rfl rfl) ?_
 refine HL_nil ?_
 refine HC_region ?_
 refine sR _ (r_move rfl h7) ?_
 obtain ⟨v_28, hs28, hc28, h⟩ := h
 refine sR (.agg v_28) (w_loadN rfl underlying104 rfl sz104 hs28 hc28) ?_
 obtain ⟨hz29, h⟩ := h
 refine s_ef (k_buildSlice (cells := v_28) underlying95 sz104 (by decide) zr104 rfl (evPC rfl evPN) (fillWhole hz29 rfl rfl) rfl ?_)
 intro b29 hf_b29
 replace h := atE (h b29 hf_b29)
 refine s_ef (k_append rfl rfl (runs_mono _ _ h ?_))
 clear h; rintro v F ⟨v_30, rfl, h⟩
 refine sR (Sl.v v_30) (r_assign rfl rfl) ?_
 refine HL_nil ?_
 obtain ⟨m', hm, h⟩ := h
 exact ⟨m', hm, _, _, rfl, rfl, h⟩
 replace h := h.2 (of_decide_eq_false hc)
 clear hc
 refine HC_exit ?_
 show b55J1 R _ _
 exact ⟨_, h7, h⟩
 /- 57 koine.store.put -/
def b57j1 (d_0 : Option Addr) (R : VP) (F : PH) :=
 Spec prog 69 #[(.pointer d_0)] F fun v F => ∃ v_28 : Int, v = (.int .i64 v_28) ∧
 R (.int .i64 v_28) F
abbrev b57J1 (d_0 : Option Addr) (R : VP) (E : En) (F : PH) : Prop := E 0 = (.pointer d_0) ∧ b57j1 d_0 R F
def b57L1 (N1 : Int → PH → Prop) (d_0 : Option Addr) (at_1 : Int) (l_2 : Sl) (R : VP) (v_11 : Int) (F : PH) :=
 ((v_11 < (l_2.len : Int) →
  ∃ a20_ : Addr, l_2.base = some a20_ ∧ 0 ≤ v_11 ∧ v_11 < (l_2.len : Int) ∧
  Spec prog 29 #[(.pointer d_0), (.int .i64 (IntKind.i64.wrap (at_1 + v_11))), (Sl.v (Sl.cut ⟨some (Addr.add a20_ (Int.toNat v_11 * 64)), 64, 64⟩ 1 0 64 64))] F fun v F => ∃ v_22 : Int, v = (.int .i64 v_22) ∧
  ((v_22 ≠ 0 →
   R (.int .i64 v_22) F) ∧
  (¬ (v_22 ≠ 0) →
   N1 (IntKind.i64.wrap (v_11 + 1)) F))) ∧
 (¬ (v_11 < (l_2.len : Int)) →
  b57j1 d_0 R F))
def b57 (d_0 : Option Addr) (at_1 : Int) (l_2 : Sl) (R : VP) (F : PH) :=
 (∃ (I1 : Nat → Int → PH → Prop) (m1 : Nat), I1 m1 0 F ∧ ∀ m1 v_11 F, I1 m1 v_11 F →
  b57L1 (nx1 I1 m1) d_0 at_1 l_2 R v_11 F)
theorem c57 {d_0 : Option Addr} {at_1 : Int} {l_2 : Sl} {R : VP} {F : PH} (h : b57 d_0 at_1 l_2 R F) : Spec prog 57 #[(.pointer d_0), (.int .i64 at_1), (Sl.v l_2)] F R := by
 refine spec_of (args := [(.pointer d_0), (.int .i64 at_1), (Sl.v l_2)]) func57 rfl ntmps57 rfl ?_
 unfold b57 at h
 refine cR (sR (.int .i64 0) (r_assign rfl rfl) ?_)
 refine HL_nil ?_
 refine HC_seqJ (b57J1 d_0 R) ?_ ?_
 clear h; rintro E F ⟨h0, h⟩
 unfold b57j1 at h
 refine cR (sR _ (r_move rfl h0) ?_)
 refine s_ef (k_call (vs := [(.pointer d_0)]) cb69 (evC rfl evN) (h.mono ?_))
 clear h; rintro v F ⟨v_28, rfl, h⟩
 refine sR (.int .i64 v_28) (r_assign rfl rfl) ?_
 exact HL_nil (HC_ret (rt1 f57 R rfl rfl h))
 refine cR (sR (Sl.v l_2) (r_move rfl rfl) ?_)
 refine sR (.int .i64 (l_2.len : Int)) (r_lenSl rfl rfl underlying95) ?_
 refine sR (.int .i64 0) (r_move rfl rfl) ?_
 refine HL_nil ?_
 refine HC_block ?_
 obtain ⟨I1, m1, hI0, hr⟩ := h
 refine HC_loop (fun m1 E F => ∃ v_11 : Int, E 0 = (.pointer d_0) ∧ E 1 = (.int .i64 at_1) ∧ E 2 = (Sl.v l_2) ∧ E 10 = (.int .i64 (l_2.len : Int)) ∧ E 11 = (.int .i64 v_11) ∧ I1 m1 v_11 F) m1 ⟨_, rfl, rfl, rfl, rfl, rfl, hI0⟩ ?_
 clear hI0; rintro m1 E F ⟨v_11, h0, h1, h2, h10, h11, hI⟩
 have h := hr m1 v_11 F hI
 clear hr hI
 unfold b57L1 at h
 refine cR (sR (.bool (decide (v_11 < (l_2.len : Int)))) (r_lss rfl h11 h10) ?_)
 refine HL_nil ?_
 refine HC_seq ?_
 refine HC_cond (t := (decide (v_11 < (l_2.len : Int)))) rfl (fun hc => ?_) (fun hc => ?_)
 replace h := h.1 (of_decide_eq_true hc)
 clear hc
 refine HC_skip ?_
 refine HC_seq ?_
 refine HC_block ?_
 refine cR (sR _ (r_move rfl h11) ?_)
 refine sR (.int .i64 v_11) (r_assign rfl rfl) ?_
 refine HL_nil ?_
 refine cR (sR _ (r_move rfl h0) ?_)
 refine sR _ (r_move rfl h1) ?_
 refine sR (.int .i64 v_11) (r_move rfl rfl) ?_
 refine sR (.int .i64 (IntKind.i64.wrap (at_1 + v_11))) (r_add rfl rfl rfl) ?_
 refine sR _ (r_move rfl h2) ?_
 refine sR (.int .i64 v_11) (r_move rfl rfl) ?_
 obtain ⟨a20_, hb20, hl20, hu20, h⟩ := h
 refine sR (.pointer (some (Addr.add a20_ (Int.toNat v_11 * 64)))) (w_indexAddr rfl rfl underlying95 sz104 hb20 hl20 hu20) ?_
 refine sR (Sl.v (Sl.cut ⟨some (Addr.add a20_ (Int.toNat v_11 * 64)), 64, 64⟩ 1 0 64 64)) (r_sliceAr rfl rfl underlying104 sz5 bo_none bo_none (Nat.zero_le _) (Nat.le_refl _)) ?_
 refine s_ef (k_call (vs := [(.pointer d_0), (.int .i64 (IntKind.i64.wrap (at_1 + v_11))), (Sl.v (Sl.cut ⟨some (Addr.add a20_ (Int.toNat v_11 * 64)), 64, 64⟩ 1 0 64 64))]) cb29 (evC rfl (evC rfl (evC rfl evN))) (h.mono ?_))
 clear h; rintro v F ⟨v_22, rfl, h⟩
 refine sR (.int .i64 v_22) (r_assign rfl rfl) ?_
 refine HL_nil ?_
 refine cR (sR (.int .i64 v_22) (r_move rfl rfl) ?_)
 refine sR (.bool (decide (v_22 ≠ 0))) (w_neq rfl rfl) ?_
 refine HL_nil ?_
 refine HC_cond (t := (decide (v_22 ≠ 0))) rfl (fun hc => ?_) (fun hc => ?_)
 replace h := h.1 (of_decide_eq_true hc)
 clear hc
 refine cR (sR (.int .i64 v_22) (r_move rfl rfl) ?_)
 refine sR (.int .i64 v_22) (r_assign rfl rfl) ?_
 exact HL_nil (HC_ret (rt1 f57 R rfl rfl h))
 replace h := h.2 (of_decide_eq_false hc)
 clear hc
 refine HC_skip ?_
 refine HC_region ?_
 refine sR (.int .i64 (IntKind.i64.wrap (v_11 + 1))) (r_add rfl h11 rfl) ?_
 refine sR (.int .i64 (IntKind.i64.wrap (v_11 + 1))) (r_move rfl rfl) ?_
 refine HL_nil ?_
 obtain ⟨m', hm, h⟩ := h
 exact ⟨m', hm, _, h0, h1, h2, h10, rfl, h⟩
 replace h := h.2 (of_decide_eq_false hc)
 clear hc
 refine HC_exit ?_
 show b57J1 d_0 R _ _
 exact ⟨h0, h⟩
 /- 54 (*koine.store.Store).complete -/
def b54 (s_0 : Option Addr) (at_1 : Int) (l_2 : Sl) (R : VP) (F : PH) :=
 ∃ a9_ : Addr, l_2.base = some a9_ ∧ 0 ≤ (0 : Int) ∧ (0 : Int) < (l_2.len : Int) ∧
 0 ≤ (0 : Int) ∧ (0 : Int) < 64 ∧
 ∃ c e, F (Addr.add (Addr.add a9_ (Int.toNat 0 * 64)) (Int.toNat 0 * 1)).block = some (.cells c e (0, 0)) ∧ (Addr.add (Addr.add a9_ (Int.toNat 0 * 64)) (Int.toNat 0 * 1)).spot = none ∧ (Addr.add (Addr.add a9_ (Int.toNat 0 * 64)) (Int.toNat 0 * 1)).off < c.size ∧
 atF (F.set (Addr.add (Addr.add a9_ (Int.toNat 0 * 64)) (Int.toNat 0 * 1)).block (.cells (c.setIfInBounds (Addr.add (Addr.add a9_ (Int.toNat 0 * 64)) (Int.toNat 0 * 1)).off (.int .u8 0)) e)) fun F =>
 ∃ s0a_ : Addr, s_0 = some s0a_ ∧ ∃ v_14 : Option Addr, F.cell s0a_ = some (.pointer v_14) ∧
 Spec prog 57 #[(.pointer v_14), (.int .i64 at_1), (Sl.v l_2)] F fun v F => ∃ v_17 : Int, v = (.int .i64 v_17) ∧
 ((v_17 ≠ 0 →
  R (.int .i64 v_17) F) ∧
 (¬ (v_17 ≠ 0) →
  ∃ a22_ : Addr, l_2.base = some a22_ ∧ 0 ≤ (0 : Int) ∧ (0 : Int) < (l_2.len : Int) ∧
  0 ≤ (0 : Int) ∧ (0 : Int) < 64 ∧
  ∃ c e, F (Addr.add (Addr.add a22_ (Int.toNat 0 * 64)) (Int.toNat 0 * 1)).block = some (.cells c e (0, 0)) ∧ (Addr.add (Addr.add a22_ (Int.toNat 0 * 64)) (Int.toNat 0 * 1)).spot = none ∧ (Addr.add (Addr.add a22_ (Int.toNat 0 * 64)) (Int.toNat 0 * 1)).off < c.size ∧
  atF (F.set (Addr.add (Addr.add a22_ (Int.toNat 0 * 64)) (Int.toNat 0 * 1)).block (.cells (c.setIfInBounds (Addr.add (Addr.add a22_ (Int.toNat 0 * 64)) (Int.toNat 0 * 1)).off (.int .u8 1)) e)) fun F =>
  ∃ v_27 : Option Addr, F.cell s0a_ = some (.pointer v_27) ∧
  0 ≤ 1 ∧ 1 ≤ l_2.cap ∧ 
  Spec prog 57 #[(.pointer v_27), (.int .i64 at_1), (Sl.v (Sl.cut l_2 64 0 1 l_2.cap))] F fun v F => ∃ v_31 : Int, v = (.int .i64 v_31) ∧
  R (.int .i64 v_31) F))
theorem c54 {s_0 : Option Addr} {at_1 : Int} {l_2 : Sl} {R : VP} {F : PH} (h : b54 s_0 at_1 l_2 R F) : Spec prog 54 #[(.pointer s_0), (.int .i64 at_1), (Sl.v l_2)] F R := by
 refine spec_of (args := [(.pointer s_0), (.int .i64 at_1), (Sl.v l_2)]) func54 rfl ntmps54 rfl ?_
 unfold b54 at h
 refine cR (sR (.int .i64 0) (r_assign rfl rfl) ?_)
 refine HL_nil ?_
 refine cR (sR (Sl.v l_2) (r_move rfl rfl) ?_)
 obtain ⟨a9_, hb9, hl9, hu9, h⟩ := h
 refine sR (.pointer (some (Addr.add a9_ (Int.toNat 0 * 64)))) (w_indexAddr rfl rfl underlying95 sz104 hb9 hl9 hu9) ?_
 obtain ⟨hl10, hu10, h⟩ := h
 refine sR (.pointer (some (Addr.add (Addr.add a9_ (Int.toNat 0 * 64)) (Int.toNat 0 * 1)))) (r_indexAddrAr rfl rfl rfl underlying104 sz5 hl10 (by exact hu10)) ?_
 refine s_ef0 (k_store1 (v := (.int .u8 0)) rfl rfl sz5 rfl st_int ?_)
 obtain ⟨c, e, hz3, hz4, hz5, h⟩ := h
 refine ⟨c, e, hz3, hz4, hz5, ?_⟩
 replace h := atE h
 refine HL_nil ?_
 refine HC_seq ?_
 refine cR (sR (.pointer s_0) (r_move rfl rfl) ?_)
 obtain ⟨s0a_, rfl, h⟩ := h
 refine sR (.pointer (some s0a_)) (r_nilCheck rfl rfl) ?_
 refine sR (.pointer (some s0a_)) (w_fieldAddr rfl underlying84 rfl rfl sz24 rfl rfl) ?_
 obtain ⟨v_14, hc14, h⟩ := h
 refine sR (.pointer v_14) (r_load1 rfl rfl underlying24 rfl hc14) ?_
 refine sR (.int .i64 at_1) (r_move rfl rfl) ?_
 refine sR (Sl.v l_2) (r_move rfl rfl) ?_
 refine s_ef (k_call (vs := [(.pointer v_14), (.int .i64 at_1), (Sl.v l_2)]) cb57 (evC rfl (evC rfl (evC rfl evN))) (h.mono ?_))
 clear h; rintro v F ⟨v_17, rfl, h⟩
 refine sR (.int .i64 v_17) (r_assign rfl rfl) ?_
 refine HL_nil ?_
 refine cR (sR (.int .i64 v_17) (r_move rfl rfl) ?_)
 refine sR (.bool (decide (v_17 ≠ 0))) (w_neq rfl rfl) ?_
 refine HL_nil ?_
 refine HC_cond (t := (decide (v_17 ≠ 0))) rfl (fun hc => ?_) (fun hc => ?_)
 replace h := h.1 (of_decide_eq_true hc)
 clear hc
 refine cR (sR (.int .i64 v_17) (r_move rfl rfl) ?_)
 refine sR (.int .i64 v_17) (r_assign rfl rfl) ?_
 exact HL_nil (HC_ret (rt1 f54 R rfl rfl h))
 replace h := h.2 (of_decide_eq_false hc)
 clear hc
 refine HC_skip ?_
 refine cR (sR (Sl.v l_2) (r_move rfl rfl) ?_)
 obtain ⟨a22_, hb22, hl22, hu22, h⟩ := h
 refine sR (.pointer (some (Addr.add a22_ (Int.toNat 0 * 64)))) (w_indexAddr rfl rfl underlying95 sz104 hb22 hl22 hu22) ?_
 obtain ⟨hl23, hu23, h⟩ := h
 refine sR (.pointer (some (Addr.add (Addr.add a22_ (Int.toNat 0 * 64)) (Int.toNat 0 * 1)))) (r_indexAddrAr rfl rfl rfl underlying104 sz5 hl23 (by exact hu23)) ?_
 refine s_ef0 (k_store1 (v := (.int .u8 1)) rfl rfl sz5 rfl st_int ?_)
 obtain ⟨c, e, hz3, hz4, hz5, h⟩ := h
 refine ⟨c, e, hz3, hz4, hz5, ?_⟩
 replace h := atE h
 refine HL_nil ?_
 refine HC_seq ?_
 refine HC_draw0 (by kernel_rfl) (fun hp => ?_)
 refine gU 0 (.pointer (some s0a_)) rfl (fun _ => r_move rfl rfl) hp ?_
 refine gU 1 (.pointer (some s0a_)) rfl (fun _ => r_nilCheck rfl rfl) hp ?_
 refine gU 2 (.pointer (some s0a_)) rfl (fun _ => w_fieldAddr rfl underlying84 rfl rfl sz24 rfl rfl) hp ?_
 obtain ⟨v_27, hc27, h⟩ := h
 refine gR 3 (.pointer v_27) rfl (r_load1 rfl rfl underlying24 rfl hc27) hp (fun S3 q3 => ?_)
 replace hp := holdC (i := 3) (q3 _ (r_load1 rfl rfl underlying24 rfl hc27)) hp
 refine gU 4 (.int .i64 at_1) rfl (fun _ => r_move rfl rfl) hp ?_
 refine gU 5 (Sl.v l_2) rfl (fun _ => r_move rfl rfl) hp ?_
 obtain ⟨hr30_0, hr30_1, h⟩ := h
 refine gU 6 (Sl.v (Sl.cut l_2 64 0 1 l_2.cap)) rfl (fun _ => r_sliceSl rfl rfl underlying95 sz104 bo_none (bo_ev (i := 1) rfl (by decide)) hr30_0 hr30_1) hp ?_
 refine RG_eff1 (i := 7) (by kernel_rfl) (g_op (Sp' := []) rfl rfl (k_call (vs := [(.pointer v_27), (.int .i64 at_1), (Sl.v (Sl.cut l_2 64 0 1 l_2.cap))]) cb57 (evC rfl (evC rfl (evC rfl evN))) (h.mono ?_)))
 clear h; rintro v F ⟨v_31, rfl, h⟩
 refine holdI hold0 (fun hp => ?_)
 refine gU 8 (.int .i64 v_31) rfl (fun _ => r_assign rfl rfl) hp ?_
 refine RG_done (by kernel_rfl) ?_
 exact HC_ret (rt1 f54 R rfl rfl h)
end Go.Proofs.Ytelkfnmdnbbniaa
