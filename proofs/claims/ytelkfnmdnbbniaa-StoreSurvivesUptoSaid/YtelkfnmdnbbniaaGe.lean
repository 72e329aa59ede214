/-
  What functions of the program do, in a clean form, each with the proof that its code does so. Printed by a program.
-/
import Derived.Test.YtelkfnmdnbbniaaGf
import Derived.Test.YtelkfnmdnbbniaaPhp
namespace Go.Proofs.Ytelkfnmdnbbniaa
open Go Go.Proofs.Try
set_option maxRecDepth 10000
set_option maxHeartbeats 4000000
/- 67 (*koine.store.Store).snapshot -/
def b67j1 (out_3 : Sl) (R : VP) (F : PH) :=
 R (Sl.v out_3) F
abbrev b67J1 (R : VP) (E : En) (F : PH) : Prop := ∃ out_3 : Sl, E 3 = (Sl.v out_3) ∧ b67j1 out_3 R F
def b67L1 (N1 : Sl → Int → PH → Prop) (s_0 : Option Addr) (v_7 : Sl) (R : VP) (out_3_1 : Sl) (v_9 : Int) (F : PH) :=
 ((v_9 < (v_7.len : Int) →
  ∃ a11_ : Addr, v_7.base = some a11_ ∧ 0 ≤ v_9 ∧ v_9 < (v_7.len : Int) ∧
  ∃ v_12 : ByteArray, F.cell (Addr.add a11_ (Int.toNat v_9 * 1)) = some (.string v_12) ∧
  ∃ s0a_ : Addr, s_0 = some s0a_ ∧ ∃ v_18 : Option Nat, F.cell (Addr.add s0a_ 5) = some (.map v_18) ∧
  ∃ v_20 : Sl, rdo prog (Instr.lookup 82 (.map v_18) (.string v_12) false) F (Sl.v v_20) ∧
  (#[(.string v_12), (Sl.v v_20)] : Array Value).size = 2 ∧ ∀ b22, F b22 = none → atF (F.set b22 (.cells (#[(.string v_12), (Sl.v v_20)] : Array Value) 41)) fun F =>
  runs prog (Builtin.append_ #[26, 26] 26 #[(Sl.v out_3_1), (Sl.v (Sl.mk (some (Addr.mk b22 0 none)) 1 1))]) F fun v F => ∃ v_23 : Sl, v = (Sl.v v_23) ∧
  N1 v_23 (IntKind.i64.wrap (v_9 + 1)) F) ∧
 (¬ (v_9 < (v_7.len : Int)) →
  b67j1 out_3_1 R F))
def b67 (s_0 : Option Addr) (R : VP) (F : PH) :=
 Spec prog 31 #[(.pointer s_0)] F fun v F => ∃ v_7 : Sl, v = (Sl.v v_7) ∧
 (∃ (I1 : Nat → Sl → Int → PH → Prop) (m1 : Nat), I1 m1 Sl.nil 0 F ∧ ∀ m1 out_3_1 v_9 F, I1 m1 out_3_1 v_9 F →
  b67L1 (nx2 I1 m1) s_0 v_7 R out_3_1 v_9 F)
theorem c67 {s_0 : Option Addr} {R : VP} {F : PH} (h : b67 s_0 R F) : Spec prog 67 #[(.pointer s_0)] F R := by
 refine spec_of (args := [(.pointer s_0)]) func67 rfl ntmps67 rfl ?_
 unfold b67 at h
 refine cR (sR (Sl.v Sl.nil) (r_assign rfl rfl) ?_)
 refine HL_nil ?_
 refine cR (sR (Sl.v Sl.nil) (r_assign rfl rfl) ?_)
 refine HL_nil ?_
 refine HC_seqJ (b67J1 R) ?_ ?_
 clear h; rintro E F ⟨out_3, h3, h⟩
 unfold b67j1 at h
 refine cR (sR _ (r_move rfl h3) ?_)
 refine sR (Sl.v out_3) (r_assign rfl rfl) ?_
 exact HL_nil (HC_ret (rt1 f67 R rfl rfl h))
 refine cR (sR (.pointer s_0) (r_move rfl rfl) ?_)
 refine s_ef (k_call (vs := [(.pointer s_0)]) cb31 (evC rfl evN) (h.mono ?_))
 clear h; rintro v F ⟨v_7, rfl, h⟩
 refine sR (.int .i64 (v_7.len : Int)) (r_lenSl rfl rfl underlying62) ?_
 refine sR (.int .i64 0) (r_move rfl rfl) ?_
 refine HL_nil ?_
 refine HC_block ?_
 obtain ⟨I1, m1, hI0, hr⟩ := h
 refine HC_loop (fun m1 E F => ∃ out_3_1 : Sl, ∃ v_9 : Int, E 0 = (.pointer s_0) ∧ E 3 = (Sl.v out_3_1) ∧ E 7 = (Sl.v v_7) ∧ E 8 = (.int .i64 (v_7.len : Int)) ∧ E 9 = (.int .i64 v_9) ∧ I1 m1 out_3_1 v_9 F) m1 ⟨_, _, rfl, rfl, rfl, rfl, rfl, hI0⟩ ?_
 clear hI0; rintro m1 E F ⟨out_3_1, v_9, h0, h3, h7, h8, h9, hI⟩
 have h := hr m1 out_3_1 v_9 F hI
 clear hr hI
 unfold b67L1 at h
 refine cR (sR (.bool (decide (v_9 < (v_7.len : Int)))) (r_lss rfl h9 h8) ?_)
 refine HL_nil ?_
 refine HC_seq ?_
 refine HC_cond (t := (decide (v_9 < (v_7.len : Int)))) rfl (fun hc => ?_) (fun hc => ?_)
 replace h := h.1 (of_decide_eq_true hc)
 clear hc
 refine HC_skip ?_
 refine HC_seq ?_
 refine HC_block ?_
 refine cR ?_
 obtain ⟨a11_, hb11, hl11, hu11, h⟩ := h
 refine sR (.pointer (some (Addr.add a11_ (Int.toNat v_9 * 1)))) (w_indexAddr h7 h9 underlying62 sz9 hb11 hl11 hu11) ?_
 obtain ⟨v_12, hc12, h⟩ := h
 refine sR (.string v_12) (r_load1 rfl rfl underlying9 rfl hc12) ?_
 refine sR (.string v_12) (r_assign rfl rfl) ?_
 refine HL_nil ?_
 refine HC_region ?_
 refine sR _ (r_move rfl h3) ?_
 refine sR (.string v_12) (r_move rfl rfl) ?_
 refine sR _ (r_move rfl h0) ?_
 obtain ⟨s0a_, rfl, h⟩ := h
 refine sR (.pointer (some s0a_)) (r_nilCheck rfl rfl) ?_
 refine sR (.pointer (some (Addr.add s0a_ 5))) (w_fieldAddr rfl underlying84 rfl rfl sz82 rfl rfl) ?_
 obtain ⟨v_18, hc18, h⟩ := h
 refine sR (.map v_18) (r_load1 rfl rfl underlying82 rfl hc18) ?_
 refine sR (.string v_12) (r_move rfl rfl) ?_
 obtain ⟨v_20, hc20, h⟩ := h
 refine sR (Sl.v v_20) (r_lookup rfl rfl rfl hc20) ?_
 refine sR (.agg (#[(.string v_12), (Sl.v v_20)] : Array Value)) (w_buildStruct (cells := #[(.string v_12), (Sl.v v_20)]) underlying41 zr41 kf41 (evPC rfl (evPC rfl evPN)) (fill1 (place_of rfl rfl sz9) rfl rfl (fill1 (place_of rfl rfl sz39) rfl rfl (fillN rfl)))) ?_
 obtain ⟨hz22, h⟩ := h
 refine s_ef (k_buildSlice (cells := (#[(.string v_12), (Sl.v v_20)] : Array Value)) underlying26 sz41 (by decide) zr41 rfl (evPC rfl evPN) (fillWhole hz22 rfl rfl) rfl ?_)
 intro b22 hf_b22
 replace h := atE (h b22 hf_b22)
 refine s_ef (k_append rfl rfl (runs_mono _ _ h ?_))
 clear h; rintro v F ⟨v_23, rfl, h⟩
 refine sR (Sl.v v_23) (r_assign rfl rfl) ?_
 refine HL_nil ?_
 refine HC_region ?_
 refine sR (.int .i64 (IntKind.i64.wrap (v_9 + 1))) (r_add rfl h9 rfl) ?_
 refine sR (.int .i64 (IntKind.i64.wrap (v_9 + 1))) (r_move rfl rfl) ?_
 refine HL_nil ?_
 obtain ⟨m', hm, h⟩ := h
 exact ⟨m', hm, _, _, h0, rfl, h7, h8, rfl, h⟩
 replace h := h.2 (of_decide_eq_false hc)
 clear hc
 refine HC_exit ?_
 show b67J1 R _ _
 exact ⟨_, h3, h⟩
 /- 46 (*koine.store.Store).compact -/
def b46j1 (s0a_ : Addr) (v_11 : Int) (v_14 : Int) (l_5 : Sl) (R : VP) (F : PH) :=
 ∃ v_31 : Option Addr, F.cell s0a_ = some (.pointer v_31) ∧
 ∃ v_36 : Int, F.cell (Addr.add s0a_ 1) = some (.int .i64 v_36) ∧
 Spec prog 57 #[(.pointer v_31), (.int .i64 (IntKind.i64.wrap ((IntKind.i64.wrap ((IntKind.i64.wrap (1 - v_11)) * v_36)) + 1))), (Sl.v l_5)] F fun v F => ∃ v_40 : Int, v = (.int .i64 v_40) ∧
 F.cell (Addr.add s0a_ 1) = some (.int .i64 v_36) ∧ ((v_40 ≠ 0 →
  R (.int .i64 v_40) F) ∧
 (¬ (v_40 ≠ 0) →
  ∃ v_49 : Int, F.cell (Addr.add s0a_ 1) = some (.int .i64 v_49) ∧
  ∃ v_54 : Int, F.cell (Addr.add s0a_ 3) = some (.int .u64 v_54) ∧
  Spec prog 58 #[(.int .u8 0), (.int .u64 (IntKind.u64.wrap (v_54 + 1))), (.int .u64 461430681189)] F fun v F => ∃ v_56 : Array Value, v = (.agg v_56) ∧
  F.cell (Addr.add s0a_ 3) = some (.int .u64 v_54) ∧ F.cell (Addr.add s0a_ 1) = some (.int .i64 v_49) ∧ v_56.size = 64 ∧ ∀ b57, F b57 = none → atF (F.set b57 (.cells v_56 104)) fun F =>
  Spec prog 54 #[(.pointer (some s0a_)), (.int .i64 (IntKind.i64.wrap ((IntKind.i64.wrap (1 - v_11)) * v_49))), (Sl.v (Sl.mk (some (Addr.mk b57 0 none)) 1 1))] F fun v F => ∃ v_58 : Int, v = (.int .i64 v_58) ∧
  F.cell (Addr.add s0a_ 3) = some (.int .u64 v_54) ∧ F.cell (Addr.add s0a_ 1) = some (.int .i64 v_49) ∧ ((v_58 ≠ 0 →
   R (.int .i64 v_58) F) ∧
  (¬ (v_58 ≠ 0) →
   ∃ v_70 : Int, F.cell (Addr.add s0a_ 3) = some (.int .u64 v_70) ∧
   ∃ c e, F (Addr.add s0a_ 2).block = some (.cells c e (0, 0)) ∧ (Addr.add s0a_ 2).spot = none ∧ (Addr.add s0a_ 2).off < c.size ∧
   atF (F.set (Addr.add s0a_ 2).block (.cells (c.setIfInBounds (Addr.add s0a_ 2).off (.int .i64 (IntKind.i64.wrap (1 - v_11)))) e)) fun F =>
   ∃ c e, F (Addr.add s0a_ 4).block = some (.cells c e (0, 0)) ∧ (Addr.add s0a_ 4).spot = none ∧ (Addr.add s0a_ 4).off < c.size ∧
   atF (F.set (Addr.add s0a_ 4).block (.cells (c.setIfInBounds (Addr.add s0a_ 4).off (.int .i64 v_14)) e)) fun F =>
   ∃ c e, F (Addr.add s0a_ 3).block = some (.cells c e (0, 0)) ∧ (Addr.add s0a_ 3).spot = none ∧ (Addr.add s0a_ 3).off < c.size ∧
   atF (F.set (Addr.add s0a_ 3).block (.cells (c.setIfInBounds (Addr.add s0a_ 3).off (.int .u64 (IntKind.u64.wrap (v_70 + 1)))) e)) fun F =>
   R (.int .i64 0) F))))
abbrev b46J1 (s0a_ : Addr) (v_11 : Int) (v_14 : Int) (R : VP) (E : En) (F : PH) : Prop := ∃ l_5 : Sl, E 0 = (.pointer (some s0a_)) ∧ E 3 = (.int .i64 (IntKind.i64.wrap (1 - v_11))) ∧ E 4 = (.int .i64 v_14) ∧ E 5 = (Sl.v l_5) ∧ b46j1 s0a_ v_11 v_14 l_5 R F
def b46 (s_0 : Option Addr) (R : VP) (F : PH) :=
 ∃ s0a_ : Addr, s_0 = some s0a_ ∧ ∃ v_11 : Int, F.cell (Addr.add s0a_ 2) = some (.int .i64 v_11) ∧
 Spec prog 53 #[(.pointer (some s0a_))] F fun v F => ∃ v_14 : Int, v = (.int .i64 v_14) ∧
 F.cell (Addr.add s0a_ 2) = some (.int .i64 v_11) ∧ (Array.replicate 64 (Value.int .u8 0)).size = 64 ∧ ∀ b16, F b16 = none → atF (F.set b16 (.cells (Array.replicate 64 (Value.int .u8 0)) 104)) fun F =>
 ((0 < v_14 →
  ∃ v_22 : Int, F.cell (Addr.add s0a_ 3) = some (.int .u64 v_22) ∧
  Spec prog 67 #[(.pointer (some s0a_))] F fun v F => ∃ v_25 : Sl, v = (Sl.v v_25) ∧
  F.cell (Addr.add s0a_ 3) = some (.int .u64 v_22) ∧ Spec prog 52 #[(Sl.v v_25)] F fun v F => ∃ v_26 : Sl, v = (Sl.v v_26) ∧
  F.cell (Addr.add s0a_ 3) = some (.int .u64 v_22) ∧ Spec prog 55 #[(.int .u8 1), (.int .u64 (IntKind.u64.wrap (v_22 + 1))), (Sl.v v_26)] F fun v F => ∃ v_27 : Sl, v = (Sl.v v_27) ∧
  F.cell (Addr.add s0a_ 3) = some (.int .u64 v_22) ∧ b46j1 s0a_ v_11 v_14 v_27 R F) ∧
 (¬ (0 < v_14) →
  b46j1 s0a_ v_11 v_14 (Sl.mk (some (Addr.mk b16 0 none)) 1 1) R F))
theorem c46 {s_0 : Option Addr} {R : VP} {F : PH} (h : b46 s_0 R F) : Spec prog 46 #[(.pointer s_0)] F R := by
 refine spec_of (args := [(.pointer s_0)]) func46 rfl ntmps46 rfl ?_
 unfold b46 at h
 refine cR (sR (.int .i64 0) (r_assign rfl rfl) ?_)
 refine HL_nil ?_
 refine HC_seq ?_
 refine HC_draw0 (by kernel_rfl) (fun hp => ?_)
 refine gU 0 (.pointer s_0) rfl (fun _ => r_move rfl rfl) hp ?_
 obtain ⟨s0a_, rfl, h⟩ := h
 refine gU 1 (.pointer (some s0a_)) rfl (fun _ => r_nilCheck rfl rfl) hp ?_
 refine gU 2 (.pointer (some (Addr.add s0a_ 2))) rfl (fun _ => w_fieldAddr rfl underlying84 rfl rfl sz3 rfl rfl) hp ?_
 obtain ⟨v_11, hc11, h⟩ := h
 refine gR 3 (.int .i64 v_11) rfl (r_load1 rfl rfl underlying3 rfl hc11) hp (fun S3 q3 => ?_)
 replace hp := holdC (i := 3) (q3 _ (r_load1 rfl rfl underlying3 rfl hc11)) hp
 refine gU 4 (.int .i64 (IntKind.i64.wrap (1 - v_11))) rfl (fun _ => r_sub rfl rfl rfl) hp ?_
 refine gU 5 (.pointer (some s0a_)) rfl (fun _ => r_move rfl rfl) hp ?_
 refine RG_eff1 (i := 6) (by kernel_rfl) (g_op (Sp' := [(3, S3)]) rfl rfl (k_call (vs := [(.pointer (some s0a_))]) cb53 (evC rfl evN) (h.mono ?_)))
 clear h; rintro v F ⟨v_14, rfl, h⟩
 obtain ⟨hk_2, h⟩ := h
 refine holdI (holdC (i := 3) (q3 _ (r_load1 rfl rfl underlying3 rfl hk_2)) hold0) (fun hp => ?_)
 refine gU 7 (.int .i64 (IntKind.i64.wrap (1 - v_11))) rfl (fun _ => r_assign rfl rfl) hp ?_
 refine gU 8 (.int .i64 v_14) rfl (fun _ => r_assign rfl rfl) hp ?_
 refine RG_done (by kernel_rfl) ?_
 refine cR (sR (.agg (Array.replicate 64 (Value.int .u8 0))) (w_buildArray (cells := (Array.replicate 64 (Value.int .u8 0))) underlying104 zr104 sz5 (evPN) (fillN rfl)) ?_)
 obtain ⟨hz16, h⟩ := h
 refine s_ef (k_buildSlice (cells := (Array.replicate 64 (Value.int .u8 0))) underlying95 sz104 (by decide) zr104 rfl (evPC rfl evPN) (fillWhole hz16 rfl rfl) rfl ?_)
 intro b16 hf_b16
 replace h := atE (h b16 hf_b16)
 refine sR (Sl.v (Sl.mk (some (Addr.mk b16 0 none)) 1 1)) (r_assign rfl rfl) ?_
 refine HL_nil ?_
 refine HC_seqJ (b46J1 s0a_ v_11 v_14 R) ?_ ?_
 clear h; rintro E F ⟨l_5, h0, h3, h4, h5, h⟩
 unfold b46j1 at h
 refine HC_seq ?_
 refine HC_seq ?_
 refine HC_draw0 (by kernel_rfl) (fun hp => ?_)
 refine gU 0 (.pointer (some s0a_)) rfl (fun _ => r_move rfl h0) hp ?_
 refine gU 1 (.pointer (some s0a_)) rfl (fun _ => r_nilCheck rfl rfl) hp ?_
 refine gU 2 (.pointer (some s0a_)) rfl (fun _ => w_fieldAddr rfl underlying84 rfl rfl sz24 rfl rfl) hp ?_
 obtain ⟨v_31, hc31, h⟩ := h
 refine gR 3 (.pointer v_31) rfl (r_load1 rfl rfl underlying24 rfl hc31) hp (fun S3 q3 => ?_)
 replace hp := holdC (i := 3) (q3 _ (r_load1 rfl rfl underlying24 rfl hc31)) hp
 refine gU 4 (.int .i64 (IntKind.i64.wrap (1 - v_11))) rfl (fun _ => r_move rfl h3) hp ?_
 refine gU 5 (.pointer (some s0a_)) rfl (fun _ => r_move rfl h0) hp ?_
 refine gU 6 (.pointer (some s0a_)) rfl (fun _ => r_nilCheck rfl rfl) hp ?_
 refine gU 7 (.pointer (some (Addr.add s0a_ 1))) rfl (fun _ => w_fieldAddr rfl underlying84 rfl rfl sz3 rfl rfl) hp ?_
 obtain ⟨v_36, hc36, h⟩ := h
 refine gR 8 (.int .i64 v_36) rfl (r_load1 rfl rfl underlying3 rfl hc36) hp (fun S8 q8 => ?_)
 replace hp := holdC (i := 8) (q8 _ (r_load1 rfl rfl underlying3 rfl hc36)) hp
 refine gU 9 (.int .i64 (IntKind.i64.wrap ((IntKind.i64.wrap (1 - v_11)) * v_36))) rfl (fun _ => r_mul rfl rfl rfl) hp ?_
 refine gU 10 (.int .i64 (IntKind.i64.wrap ((IntKind.i64.wrap ((IntKind.i64.wrap (1 - v_11)) * v_36)) + 1))) rfl (fun _ => r_add rfl rfl rfl) hp ?_
 refine gU 11 (Sl.v l_5) rfl (fun _ => r_move rfl h5) hp ?_
 refine RG_eff1 (i := 12) (by kernel_rfl) (g_op (Sp' := [(8, S8)]) rfl rfl (k_call (vs := [(.pointer v_31), (.int .i64 (IntKind.i64.wrap ((IntKind.i64.wrap ((IntKind.i64.wrap (1 - v_11)) * v_36)) + 1))), (Sl.v l_5)]) cb57 (evC rfl (evC rfl (evC rfl evN))) (h.mono ?_)))
 clear h; rintro v F ⟨v_40, rfl, h⟩
 obtain ⟨hk_9, h⟩ := h
 refine holdI (holdC (i := 8) (q8 _ (r_load1 rfl rfl underlying3 rfl hk_9)) hold0) (fun hp => ?_)
 refine gU 13 (.int .i64 v_40) rfl (fun _ => r_assign rfl rfl) hp ?_
 refine RG_done (by kernel_rfl) ?_
 refine cR (sR (.int .i64 v_40) (r_move rfl rfl) ?_)
 refine sR (.bool (decide (v_40 ≠ 0))) (w_neq rfl rfl) ?_
 refine HL_nil ?_
 refine HC_cond (t := (decide (v_40 ≠ 0))) rfl (fun hc => ?_) (fun hc => ?_)
 replace h := h.1 (of_decide_eq_true hc)
 clear hc
 refine cR (sR (.int .i64 v_40) (r_move rfl rfl) ?_)
 refine sR (.int .i64 v_40) (r_assign rfl rfl) ?_
 exact HL_nil (HC_ret (rt1 f46 R rfl rfl h))
 replace h := h.2 (of_decide_eq_false hc)
 clear hc
 refine HC_skip ?_
 refine HC_seq ?_
 refine HC_seq ?_
 refine HC_draw0 (by kernel_rfl) (fun hp => ?_)
 refine gU 0 (.pointer (some s0a_)) rfl (fun _ => r_move rfl h0) hp ?_
 refine gU 1 (.int .i64 (IntKind.i64.wrap (1 - v_11))) rfl (fun _ => r_move rfl h3) hp ?_
 refine gU 2 (.pointer (some s0a_)) rfl (fun _ => r_move rfl h0) hp ?_
 refine gU 3 (.pointer (some s0a_)) rfl (fun _ => r_nilCheck rfl rfl) hp ?_
 refine gU 4 (.pointer (some (Addr.add s0a_ 1))) rfl (fun _ => w_fieldAddr rfl underlying84 rfl rfl sz3 rfl rfl) hp ?_
 obtain ⟨v_49, hc49, h⟩ := h
 refine gR 5 (.int .i64 v_49) rfl (r_load1 rfl rfl underlying3 rfl hc49) hp (fun S5 q5 => ?_)
 replace hp := holdC (i := 5) (q5 _ (r_load1 rfl rfl underlying3 rfl hc49)) hp
 refine gU 6 (.int .i64 (IntKind.i64.wrap ((IntKind.i64.wrap (1 - v_11)) * v_49))) rfl (fun _ => r_mul rfl rfl rfl) hp ?_
 refine gU 7 (.pointer (some s0a_)) rfl (fun _ => r_move rfl h0) hp ?_
 refine gU 8 (.pointer (some s0a_)) rfl (fun _ => r_nilCheck rfl rfl) hp ?_
 refine gU 9 (.pointer (some (Addr.add s0a_ 3))) rfl (fun _ => w_fieldAddr rfl underlying84 rfl rfl sz81 rfl rfl) hp ?_
 obtain ⟨v_54, hc54, h⟩ := h
 refine gR 10 (.int .u64 v_54) rfl (r_load1 rfl rfl underlying81 rfl hc54) hp (fun S10 q10 => ?_)
 replace hp := holdC (i := 10) (q10 _ (r_load1 rfl rfl underlying81 rfl hc54)) hp
 refine gU 11 (.int .u64 (IntKind.u64.wrap (v_54 + 1))) rfl (fun _ => r_add rfl rfl rfl) hp ?_
 refine RG_eff1 (i := 12) (by kernel_rfl) (g_op (Sp' := [(10, S10), (5, S5)]) rfl rfl (k_call (vs := [(.int .u8 0), (.int .u64 (IntKind.u64.wrap (v_54 + 1))), (.int .u64 461430681189)]) cb58 (evC rfl (evC rfl (evC rfl evN))) (h.mono ?_)))
 clear h; rintro v F ⟨v_56, rfl, h⟩
 obtain ⟨hk_22, hk_23, h⟩ := h
 refine holdI (holdC (i := 10) (q10 _ (r_load1 rfl rfl underlying81 rfl hk_22)) (holdC (i := 5) (q5 _ (r_load1 rfl rfl underlying3 rfl hk_23)) hold0)) (fun hp => ?_)
 obtain ⟨hz57, h⟩ := h
 refine RG_eff1 (i := 13) (by kernel_rfl) (g_op (Sp' := [(10, S10), (5, S5)]) rfl rfl (k_buildSlice (cells := v_56) underlying95 sz104 (by decide) zr104 rfl (evPC rfl evPN) (fillWhole hz57 rfl rfl) rfl ?_))
 intro b57 hf_b57
 replace h := atE (h b57 hf_b57)
 refine holdI (holdC (i := 10) (q10 _ (r_load1 rfl rfl underlying81 rfl (cell_set_fresh hf_b57 hk_22))) (holdC (i := 5) (q5 _ (r_load1 rfl rfl underlying3 rfl (cell_set_fresh hf_b57 hk_23))) hold0)) (fun hp => ?_)
 refine RG_eff1 (i := 14) (by kernel_rfl) (g_op (Sp' := [(10, S10), (5, S5)]) rfl rfl (k_call (vs := [(.pointer (some s0a_)), (.int .i64 (IntKind.i64.wrap ((IntKind.i64.wrap (1 - v_11)) * v_49))), (Sl.v (Sl.mk (some (Addr.mk b57 0 none)) 1 1))]) cb54 (evC rfl (evC rfl (evC rfl evN))) (h.mono ?_)))
 clear h; rintro v F ⟨v_58, rfl, h⟩
 obtain ⟨hk_24, hk_25, h⟩ := h
 refine holdI (holdC (i := 10) (q10 _ (r_load1 rfl rfl underlying81 rfl hk_24)) (holdC (i := 5) (q5 _ (r_load1 rfl rfl underlying3 rfl hk_25)) hold0)) (fun hp => ?_)
 refine gU 15 (.int .i64 v_58) rfl (fun _ => r_assign rfl rfl) hp ?_
 refine RG_done (by kernel_rfl) ?_
 refine cR (sR (.int .i64 v_58) (r_move rfl rfl) ?_)
 refine sR (.bool (decide (v_58 ≠ 0))) (w_neq rfl rfl) ?_
 refine HL_nil ?_
 refine HC_cond (t := (decide (v_58 ≠ 0))) rfl (fun hc => ?_) (fun hc => ?_)
 replace h := h.1 (of_decide_eq_true hc)
 clear hc
 refine cR (sR (.int .i64 v_58) (r_move rfl rfl) ?_)
 refine sR (.int .i64 v_58) (r_assign rfl rfl) ?_
 exact HL_nil (HC_ret (rt1 f46 R rfl rfl h))
 replace h := h.2 (of_decide_eq_false hc)
 clear hc
 refine HC_skip ?_
 refine cR (sR _ (r_move rfl h0) ?_)
 refine sR _ (r_move rfl h0) ?_
 refine sR _ (r_move rfl h0) ?_
 refine sR _ (r_move rfl h3) ?_
 refine sR _ (r_move rfl h4) ?_
 refine sR _ (r_move rfl h0) ?_
 refine sR (.pointer (some s0a_)) (r_nilCheck rfl rfl) ?_
 refine sR (.pointer (some (Addr.add s0a_ 3))) (w_fieldAddr rfl underlying84 rfl rfl sz81 rfl rfl) ?_
 obtain ⟨v_70, hc70, h⟩ := h
 refine sR (.int .u64 v_70) (r_load1 rfl rfl underlying81 rfl hc70) ?_
 refine sR (.int .u64 (IntKind.u64.wrap (v_70 + 1))) (r_add rfl rfl rfl) ?_
 refine sR (.pointer (some s0a_)) (r_nilCheck rfl rfl) ?_
 refine sR (.pointer (some (Addr.add s0a_ 2))) (w_fieldAddr rfl underlying84 rfl rfl sz3 rfl rfl) ?_
 refine s_ef0 (k_store1 (v := (.int .i64 (IntKind.i64.wrap (1 - v_11)))) rfl rfl sz3 rfl st_int ?_)
 obtain ⟨c, e, hz3, hz4, hz5, h⟩ := h
 refine ⟨c, e, hz3, hz4, hz5, ?_⟩
 replace h := atE h
 refine sR (.pointer (some s0a_)) (r_nilCheck rfl rfl) ?_
 refine sR (.pointer (some (Addr.add s0a_ 4))) (w_fieldAddr rfl underlying84 rfl rfl sz3 rfl rfl) ?_
 refine s_ef0 (k_store1 (v := (.int .i64 v_14)) rfl rfl sz3 rfl st_int ?_)
 obtain ⟨c, e, hz3, hz4, hz5, h⟩ := h
 refine ⟨c, e, hz3, hz4, hz5, ?_⟩
 replace h := atE h
 refine sR (.pointer (some s0a_)) (r_nilCheck rfl rfl) ?_
 refine sR (.pointer (some (Addr.add s0a_ 3))) (w_fieldAddr rfl underlying84 rfl rfl sz81 rfl rfl) ?_
 refine s_ef0 (k_store1 (v := (.int .u64 (IntKind.u64.wrap (v_70 + 1)))) rfl rfl sz81 rfl st_int ?_)
 obtain ⟨c, e, hz3, hz4, hz5, h⟩ := h
 refine ⟨c, e, hz3, hz4, hz5, ?_⟩
 replace h := atE h
 refine HL_nil ?_
 refine cR (sR (.int .i64 0) (r_assign rfl rfl) ?_)
 exact HL_nil (HC_ret (rt1 f46 R rfl rfl h))
 refine cR (sR (.int .i64 v_14) (r_move rfl rfl) ?_)
 refine sR (.bool (decide (0 < v_14))) (r_gtr rfl rfl rfl) ?_
 refine HL_nil ?_
 refine HC_cond (t := (decide (0 < v_14))) rfl (fun hc => ?_) (fun hc => ?_)
 replace h := h.1 (of_decide_eq_true hc)
 clear hc
 refine HC_draw0 (by kernel_rfl) (fun hp => ?_)
 refine gU 0 (.pointer (some s0a_)) rfl (fun _ => r_move rfl rfl) hp ?_
 refine gU 1 (.pointer (some s0a_)) rfl (fun _ => r_nilCheck rfl rfl) hp ?_
 refine gU 2 (.pointer (some (Addr.add s0a_ 3))) rfl (fun _ => w_fieldAddr rfl underlying84 rfl rfl sz81 rfl rfl) hp ?_
 obtain ⟨v_22, hc22, h⟩ := h
 refine gR 3 (.int .u64 v_22) rfl (r_load1 rfl rfl underlying81 rfl hc22) hp (fun S3 q3 => ?_)
 replace hp := holdC (i := 3) (q3 _ (r_load1 rfl rfl underlying81 rfl hc22)) hp
 refine gU 4 (.int .u64 (IntKind.u64.wrap (v_22 + 1))) rfl (fun _ => r_add rfl rfl rfl) hp ?_
 refine gU 5 (.pointer (some s0a_)) rfl (fun _ => r_move rfl rfl) hp ?_
 refine RG_eff1 (i := 6) (by kernel_rfl) (g_op (Sp' := [(3, S3)]) rfl rfl (k_call (vs := [(.pointer (some s0a_))]) cb67 (evC rfl evN) (h.mono ?_)))
 clear h; rintro v F ⟨v_25, rfl, h⟩
 obtain ⟨hk_26, h⟩ := h
 refine holdI (holdC (i := 3) (q3 _ (r_load1 rfl rfl underlying81 rfl hk_26)) hold0) (fun hp => ?_)
 refine RG_eff1 (i := 7) (by kernel_rfl) (g_op (Sp' := [(3, S3)]) rfl rfl (k_call (vs := [(Sl.v v_25)]) cb52 (evC rfl evN) (h.mono ?_)))
 clear h; rintro v F ⟨v_26, rfl, h⟩
 obtain ⟨hk_27, h⟩ := h
 refine holdI (holdC (i := 3) (q3 _ (r_load1 rfl rfl underlying81 rfl hk_27)) hold0) (fun hp => ?_)
 refine RG_eff1 (i := 8) (by kernel_rfl) (g_op (Sp' := [(3, S3)]) rfl rfl (k_call (vs := [(.int .u8 1), (.int .u64 (IntKind.u64.wrap (v_22 + 1))), (Sl.v v_26)]) cb55 (evC rfl (evC rfl (evC rfl evN))) (h.mono ?_)))
 clear h; rintro v F ⟨v_27, rfl, h⟩
 obtain ⟨hk_28, h⟩ := h
 refine holdI (holdC (i := 3) (q3 _ (r_load1 rfl rfl underlying81 rfl hk_28)) hold0) (fun hp => ?_)
 refine gU 9 (Sl.v v_27) rfl (fun _ => r_assign rfl rfl) hp ?_
 refine RG_done (by kernel_rfl) ?_
 show b46J1 s0a_ v_11 v_14 R _ _
 exact ⟨_, rfl, rfl, rfl, rfl, h⟩
 replace h := h.2 (of_decide_eq_false hc)
 clear hc
 refine HC_skip ?_
 show b46J1 s0a_ v_11 v_14 R _ _
 exact ⟨_, rfl, rfl, rfl, rfl, h⟩
 /- 25 (*koine.store.Store).Commit -/
def b25j2 (s0a_ : Addr) (l_1 : Sl) (v_42 : Sl) (v_45 : Int) (R : VP) (F : PH) :=
 ∃ v_74 : Int, F.cell (Addr.add s0a_ 2) = some (.int .i64 v_74) ∧
 ∃ v_78 : Int, F.cell (Addr.add s0a_ 1) = some (.int .i64 v_78) ∧
 ∃ v_84 : Int, F.cell (Addr.add s0a_ 4) = some (.int .i64 v_84) ∧
 ∃ v_89 : Int, F.cell (Addr.add s0a_ 3) = some (.int .u64 v_89) ∧
 Spec prog 55 #[(.int .u8 0), (.int .u64 v_89), (Sl.v v_42)] F fun v F => ∃ v_91 : Sl, v = (Sl.v v_91) ∧
 F.cell (Addr.add s0a_ 4) = some (.int .i64 v_84) ∧ F.cell (Addr.add s0a_ 1) = some (.int .i64 v_78) ∧ F.cell (Addr.add s0a_ 2) = some (.int .i64 v_74) ∧ Spec prog 54 #[(.pointer (some s0a_)), (.int .i64 (IntKind.i64.wrap ((IntKind.i64.wrap ((IntKind.i64.wrap (v_74 * v_78)) + 1)) + v_84))), (Sl.v v_91)] F fun v F => ∃ v_92 : Int, v = (.int .i64 v_92) ∧
 F.cell (Addr.add s0a_ 4) = some (.int .i64 v_84) ∧ F.cell (Addr.add s0a_ 1) = some (.int .i64 v_78) ∧ F.cell (Addr.add s0a_ 2) = some (.int .i64 v_74) ∧ Spec prog 45 #[(.pointer (some s0a_)), (.int .i64 v_92)] F fun v F => ∃ v_93 : Int, v = (.int .i64 v_93) ∧
 F.cell (Addr.add s0a_ 4) = some (.int .i64 v_84) ∧ F.cell (Addr.add s0a_ 1) = some (.int .i64 v_78) ∧ F.cell (Addr.add s0a_ 2) = some (.int .i64 v_74) ∧ ((v_93 ≠ 0 →
  R (.int .i64 v_93) F) ∧
 (¬ (v_93 ≠ 0) →
  ∃ v_100 : Int, F.cell (Addr.add s0a_ 4) = some (.int .i64 v_100) ∧
  ∃ c e, F (Addr.add s0a_ 4).block = some (.cells c e (0, 0)) ∧ (Addr.add s0a_ 4).spot = none ∧ (Addr.add s0a_ 4).off < c.size ∧
  atF (F.set (Addr.add s0a_ 4).block (.cells (c.setIfInBounds (Addr.add s0a_ 4).off (.int .i64 (IntKind.i64.wrap (v_100 + v_45)))) e)) fun F =>
  ∃ v_108 : Option Nat, F.cell (Addr.add s0a_ 5) = some (.map v_108) ∧
  Spec prog 49 #[(.map v_108), (Sl.v l_1)] F fun v F => v = Value.tuple #[] ∧
  R (.int .i64 0) F))
abbrev b25J2 (s0a_ : Addr) (l_1 : Sl) (v_42 : Sl) (v_45 : Int) (R : VP) (E : En) (F : PH) : Prop := E 0 = (.pointer (some s0a_)) ∧ E 1 = (Sl.v l_1) ∧ E 7 = (Sl.v v_42) ∧ E 8 = (.int .i64 v_45) ∧ b25j2 s0a_ l_1 v_42 v_45 R F
def b25j1 (s0a_ : Addr) (l_1 : Sl) (R : VP) (F : PH) :=
 (((l_1.len : Int) = 0 →
  R (.int .i64 0) F) ∧
 (¬ ((l_1.len : Int) = 0) →
  Spec prog 52 #[(Sl.v l_1)] F fun v F => ∃ v_42 : Sl, v = (Sl.v v_42) ∧
  Spec prog 51 #[(.int .i64 (v_42.len : Int))] F fun v F => ∃ v_45 : Int, v = (.int .i64 v_45) ∧
  ∃ v_52 : Int, F.cell (Addr.add s0a_ 4) = some (.int .i64 v_52) ∧
  Spec prog 44 #[(.pointer (some s0a_))] F fun v F => ∃ v_48 : Int, v = (.int .i64 v_48) ∧
  F.cell (Addr.add s0a_ 4) = some (.int .i64 v_52) ∧ (((IntKind.i64.wrap (v_48 - v_52)) < v_45 →
   Spec prog 44 #[(.pointer (some s0a_))] F fun v F => ∃ v_57 : Int, v = (.int .i64 v_57) ∧
   Spec prog 53 #[(.pointer (some s0a_))] F fun v F => ∃ v_59 : Int, v = (.int .i64 v_59) ∧
   (((IntKind.i64.wrap (v_57 - v_59)) < v_45 →
    R (.int .i64 351) F) ∧
   (¬ ((IntKind.i64.wrap (v_57 - v_59)) < v_45) →
    Spec prog 46 #[(.pointer (some s0a_))] F fun v F => ∃ v_64 : Int, v = (.int .i64 v_64) ∧
    Spec prog 45 #[(.pointer (some s0a_)), (.int .i64 v_64)] F fun v F => ∃ v_65 : Int, v = (.int .i64 v_65) ∧
    ((v_65 ≠ 0 →
     R (.int .i64 v_65) F) ∧
    (¬ (v_65 ≠ 0) →
     b25j2 s0a_ l_1 v_42 v_45 R F))))) ∧
  (¬ ((IntKind.i64.wrap (v_48 - v_52)) < v_45) →
   b25j2 s0a_ l_1 v_42 v_45 R F))))
abbrev b25J1 (s0a_ : Addr) (l_1 : Sl) (R : VP) (E : En) (F : PH) : Prop := E 0 = (.pointer (some s0a_)) ∧ E 1 = (Sl.v l_1) ∧ b25j1 s0a_ l_1 R F
def b25L1 (N1 : Int → PH → Prop) (s0a_ : Addr) (l_1 : Sl) (R : VP) (v_17 : Int) (F : PH) :=
 ((v_17 < (l_1.len : Int) →
  ∃ a19_ : Addr, l_1.base = some a19_ ∧ 0 ≤ v_17 ∧ v_17 < (l_1.len : Int) ∧
  ∃ v_20 : Array Value, v_20.size = 2 ∧ F.row (Addr.add a19_ (Int.toNat v_17 * 2)) v_20 ∧
  ∀ b6, F b6 = none → atF (F.set b6 (.cells (#[.string ⟨#[]⟩, .slice none 0 0]) 41)) fun F =>
  v_20.size = 2 ∧ (∀ v ∈ v_20.toList, storable v) ∧ ∃ c e, F (Addr.mk b6 0 none).block = some (.cells c e (0, 0)) ∧ (Addr.mk b6 0 none).spot = none ∧ (Addr.mk b6 0 none).off + 2 ≤ c.size ∧
  atF (F.set (Addr.mk b6 0 none).block (.cells (wr c (Addr.mk b6 0 none).off v_20.toList) e)) fun F =>
  ∃ v_22 : ByteArray, F.cell (Addr.mk b6 0 none) = some (.string v_22) ∧
  (((v_22.size : Int) < 1 →
   R (.int .i64 1) F) ∧
  (¬ ((v_22.size : Int) < 1) →
   ∃ v_27 : ByteArray, F.cell (Addr.mk b6 0 none) = some (.string v_27) ∧
   (((255 : Int) < (v_27.size : Int) →
    R (.int .i64 1) F) ∧
   (¬ ((255 : Int) < (v_27.size : Int)) →
    ∃ v_33 : Sl, F.cell (Addr.mk b6 1 none) = some (Sl.v v_33) ∧
    (((1048576 : Int) < (v_33.len : Int) →
     R (.int .i64 1) F) ∧
    (¬ ((1048576 : Int) < (v_33.len : Int)) →
     N1 (IntKind.i64.wrap (v_17 + 1)) F))))))) ∧
 (¬ (v_17 < (l_1.len : Int)) →
  b25j1 s0a_ l_1 R F))
def b25 (s_0 : Option Addr) (l_1 : Sl) (R : VP) (F : PH) :=
 ∃ s0a_ : Addr, s_0 = some s0a_ ∧ ∃ v_14 : Bool, F.cell (Addr.add s0a_ 6) = some (.bool v_14) ∧
 ((v_14 = true →
  R (.int .i64 340) F) ∧
 (v_14 = false →
  (∃ (I1 : Nat → Int → PH → Prop) (m1 : Nat), I1 m1 0 F ∧ ∀ m1 v_17 F, I1 m1 v_17 F →
   b25L1 (nx1 I1 m1) s0a_ l_1 R v_17 F)))
theorem c25 {s_0 : Option Addr} {l_1 : Sl} {R : VP} {F : PH} (h : b25 s_0 l_1 R F) : Spec prog 25 #[(.pointer s_0), (Sl.v l_1)] F R := by
 refine spec_of (args := [(.pointer s_0), (Sl.v l_1)]) func25 rfl ntmps25 rfl ?_
 unfold b25 at h
 refine cR (sR (.int .i64 0) (r_assign rfl rfl) ?_)
 refine HL_nil ?_
 refine HC_seq ?_
 refine cR (sR (.pointer s_0) (r_move rfl rfl) ?_)
 obtain ⟨s0a_, rfl, h⟩ := h
 refine sR (.pointer (some s0a_)) (r_nilCheck rfl rfl) ?_
 refine sR (.pointer (some (Addr.add s0a_ 6))) (w_fieldAddr rfl underlying84 rfl rfl sz4 rfl rfl) ?_
 obtain ⟨v_14, hc14, h⟩ := h
 refine sR (.bool v_14) (r_load1 rfl rfl underlying4 rfl hc14) ?_
 refine HL_nil ?_
 refine HC_cond (t := v_14) rfl (fun hc => ?_) (fun hc => ?_)
 replace h := h.1 hc
 clear hc
 refine cR (sR (.int .i64 340) (r_assign rfl rfl) ?_)
 exact HL_nil (HC_ret (rt1 f25 R rfl rfl h))
 replace h := h.2 hc
 clear hc
 refine HC_skip ?_
 refine HC_seqJ (b25J1 s0a_ l_1 R) ?_ ?_
 clear h; rintro E F ⟨h0, h1, h⟩
 unfold b25j1 at h
 refine HC_seq ?_
 refine cR (sR _ (r_move rfl h1) ?_)
 refine sR (.int .i64 (l_1.len : Int)) (r_lenSl rfl rfl underlying26) ?_
 refine sR (.bool (decide ((l_1.len : Int) = 0))) (w_eql rfl rfl) ?_
 refine HL_nil ?_
 refine HC_cond (t := (decide ((l_1.len : Int) = 0))) rfl (fun hc => ?_) (fun hc => ?_)
 replace h := h.1 (of_decide_eq_true hc)
 clear hc
 refine cR (sR (.int .i64 0) (r_assign rfl rfl) ?_)
 exact HL_nil (HC_ret (rt1 f25 R rfl rfl h))
 replace h := h.2 (of_decide_eq_false hc)
 clear hc
 refine HC_skip ?_
 refine cR (sR _ (r_move rfl h1) ?_)
 refine s_ef (k_call (vs := [(Sl.v l_1)]) cb52 (evC rfl evN) (h.mono ?_))
 clear h; rintro v F ⟨v_42, rfl, h⟩
 refine sR (Sl.v v_42) (r_assign rfl rfl) ?_
 refine HL_nil ?_
 refine cR (sR (Sl.v v_42) (r_move rfl rfl) ?_)
 refine sR (.int .i64 (v_42.len : Int)) (r_lenSl rfl rfl underlying39) ?_
 refine s_ef (k_call (vs := [(.int .i64 (v_42.len : Int))]) cb51 (evC rfl evN) (h.mono ?_))
 clear h; rintro v F ⟨v_45, rfl, h⟩
 refine sR (.int .i64 v_45) (r_assign rfl rfl) ?_
 refine HL_nil ?_
 refine HC_seqJ (b25J2 s0a_ l_1 v_42 v_45 R) ?_ ?_
 clear h; rintro E F ⟨h0, h1, h7, h8, h⟩
 unfold b25j2 at h
 refine HC_seq ?_
 refine HC_seq ?_
 refine HC_draw0 (by kernel_rfl) (fun hp => ?_)
 refine gU 0 (.pointer (some s0a_)) rfl (fun _ => r_move rfl h0) hp ?_
 refine gU 1 (.pointer (some s0a_)) rfl (fun _ => r_move rfl h0) hp ?_
 refine gU 2 (.pointer (some s0a_)) rfl (fun _ => r_move rfl h0) hp ?_
 refine gU 3 (.pointer (some s0a_)) rfl (fun _ => r_nilCheck rfl rfl) hp ?_
 refine gU 4 (.pointer (some (Addr.add s0a_ 2))) rfl (fun _ => w_fieldAddr rfl underlying84 rfl rfl sz3 rfl rfl) hp ?_
 obtain ⟨v_74, hc74, h⟩ := h
 refine gR 5 (.int .i64 v_74) rfl (r_load1 rfl rfl underlying3 rfl hc74) hp (fun S5 q5 => ?_)
 replace hp := holdC (i := 5) (q5 _ (r_load1 rfl rfl underlying3 rfl hc74)) hp
 refine gU 6 (.pointer (some s0a_)) rfl (fun _ => r_move rfl h0) hp ?_
 refine gU 7 (.pointer (some s0a_)) rfl (fun _ => r_nilCheck rfl rfl) hp ?_
 refine gU 8 (.pointer (some (Addr.add s0a_ 1))) rfl (fun _ => w_fieldAddr rfl underlying84 rfl rfl sz3 rfl rfl) hp ?_
 obtain ⟨v_78, hc78, h⟩ := h
 refine gR 9 (.int .i64 v_78) rfl (r_load1 rfl rfl underlying3 rfl hc78) hp (fun S9 q9 => ?_)
 replace hp := holdC (i := 9) (q9 _ (r_load1 rfl rfl underlying3 rfl hc78)) hp
 refine gU 10 (.int .i64 (IntKind.i64.wrap (v_74 * v_78))) rfl (fun _ => r_mul rfl rfl rfl) hp ?_
 refine gU 11 (.int .i64 (IntKind.i64.wrap ((IntKind.i64.wrap (v_74 * v_78)) + 1))) rfl (fun _ => r_add rfl rfl rfl) hp ?_
 refine gU 12 (.pointer (some s0a_)) rfl (fun _ => r_move rfl h0) hp ?_
 refine gU 13 (.pointer (some s0a_)) rfl (fun _ => r_nilCheck rfl rfl) hp ?_
 refine gU 14 (.pointer (some (Addr.add s0a_ 4))) rfl (fun _ => w_fieldAddr rfl underlying84 rfl rfl sz3 rfl rfl) hp ?_
 obtain ⟨v_84, hc84, h⟩ := h
 refine gR 15 (.int .i64 v_84) rfl (r_load1 rfl rfl underlying3 rfl hc84) hp (fun S15 q15 => ?_)
 replace hp := holdC (i := 15) (q15 _ (r_load1 rfl rfl underlying3 rfl hc84)) hp
 refine gU 16 (.int .i64 (IntKind.i64.wrap ((IntKind.i64.wrap ((IntKind.i64.wrap (v_74 * v_78)) + 1)) + v_84))) rfl (fun _ => r_add rfl rfl rfl) hp ?_
 refine gU 17 (.pointer (some s0a_)) rfl (fun _ => r_move rfl h0) hp ?_
 refine gU 18 (.pointer (some s0a_)) rfl (fun _ => r_nilCheck rfl rfl) hp ?_
 refine gU 19 (.pointer (some (Addr.add s0a_ 3))) rfl (fun _ => w_fieldAddr rfl underlying84 rfl rfl sz81 rfl rfl) hp ?_
 obtain ⟨v_89, hc89, h⟩ := h
 refine gR 20 (.int .u64 v_89) rfl (r_load1 rfl rfl underlying81 rfl hc89) hp (fun S20 q20 => ?_)
 replace hp := holdC (i := 20) (q20 _ (r_load1 rfl rfl underlying81 rfl hc89)) hp
 refine gU 21 (Sl.v v_42) rfl (fun _ => r_move rfl h7) hp ?_
 refine RG_eff1 (i := 22) (by kernel_rfl) (g_op (Sp' := [(15, S15), (9, S9), (5, S5)]) rfl rfl (k_call (vs := [(.int .u8 0), (.int .u64 v_89), (Sl.v v_42)]) cb55 (evC rfl (evC rfl (evC rfl evN))) (h.mono ?_)))
 clear h; rintro v F ⟨v_91, rfl, h⟩
 obtain ⟨hk_30, hk_31, hk_32, h⟩ := h
 refine holdI (holdC (i := 15) (q15 _ (r_load1 rfl rfl underlying3 rfl hk_30)) (holdC (i := 9) (q9 _ (r_load1 rfl rfl underlying3 rfl hk_31)) (holdC (i := 5) (q5 _ (r_load1 rfl rfl underlying3 rfl hk_32)) hold0))) (fun hp => ?_)
 refine RG_eff1 (i := 23) (by kernel_rfl) (g_op (Sp' := [(15, S15), (9, S9), (5, S5)]) rfl rfl (k_call (vs := [(.pointer (some s0a_)), (.int .i64 (IntKind.i64.wrap ((IntKind.i64.wrap ((IntKind.i64.wrap (v_74 * v_78)) + 1)) + v_84))), (Sl.v v_91)]) cb54 (evC rfl (evC rfl (evC rfl evN))) (h.mono ?_)))
 clear h; rintro v F ⟨v_92, rfl, h⟩
 obtain ⟨hk_33, hk_34, hk_35, h⟩ := h
 refine holdI (holdC (i := 15) (q15 _ (r_load1 rfl rfl underlying3 rfl hk_33)) (holdC (i := 9) (q9 _ (r_load1 rfl rfl underlying3 rfl hk_34)) (holdC (i := 5) (q5 _ (r_load1 rfl rfl underlying3 rfl hk_35)) hold0))) (fun hp => ?_)
 refine RG_eff1 (i := 24) (by kernel_rfl) (g_op (Sp' := [(15, S15), (9, S9), (5, S5)]) rfl rfl (k_call (vs := [(.pointer (some s0a_)), (.int .i64 v_92)]) cb45 (evC rfl (evC rfl evN)) (h.mono ?_)))
 clear h; rintro v F ⟨v_93, rfl, h⟩
 obtain ⟨hk_36, hk_37, hk_38, h⟩ := h
 refine holdI (holdC (i := 15) (q15 _ (r_load1 rfl rfl underlying3 rfl hk_36)) (holdC (i := 9) (q9 _ (r_load1 rfl rfl underlying3 rfl hk_37)) (holdC (i := 5) (q5 _ (r_load1 rfl rfl underlying3 rfl hk_38)) hold0))) (fun hp => ?_)
 refine gU 25 (.int .i64 v_93) rfl (fun _ => r_assign rfl rfl) hp ?_
 refine RG_done (by kernel_rfl) ?_
 refine cR (sR (.int .i64 v_93) (r_move rfl rfl) ?_)
 refine sR (.bool (decide (v_93 ≠ 0))) (w_neq rfl rfl) ?_
 refine HL_nil ?_
 refine HC_cond (t := (decide (v_93 ≠ 0))) rfl (fun hc => ?_) (fun hc => ?_)
 replace h := h.1 (of_decide_eq_true hc)
 clear hc
 refine cR (sR (.int .i64 v_93) (r_move rfl rfl) ?_)
 refine sR (.int .i64 v_93) (r_assign rfl rfl) ?_
 exact HL_nil (HC_ret (rt1 f25 R rfl rfl h))
 replace h := h.2 (of_decide_eq_false hc)
 clear hc
 refine HC_skip ?_
 refine cR (sR _ (r_move rfl h0) ?_)
 refine sR (.pointer (some s0a_)) (r_nilCheck rfl rfl) ?_
 refine sR (.pointer (some (Addr.add s0a_ 4))) (w_fieldAddr rfl underlying84 rfl rfl sz3 rfl rfl) ?_
 obtain ⟨v_100, hc100, h⟩ := h
 refine sR (.int .i64 v_100) (r_load1 rfl rfl underlying3 rfl hc100) ?_
 refine sR _ (r_move rfl h8) ?_
 refine sR (.int .i64 (IntKind.i64.wrap (v_100 + v_45))) (r_add rfl rfl rfl) ?_
 refine sR (.pointer (some s0a_)) (r_nilCheck rfl rfl) ?_
 refine sR (.pointer (some (Addr.add s0a_ 4))) (w_fieldAddr rfl underlying84 rfl rfl sz3 rfl rfl) ?_
 refine s_ef0 (k_store1 (v := (.int .i64 (IntKind.i64.wrap (v_100 + v_45)))) rfl rfl sz3 rfl st_int ?_)
 obtain ⟨c, e, hz3, hz4, hz5, h⟩ := h
 refine ⟨c, e, hz3, hz4, hz5, ?_⟩
 replace h := atE h
 refine HL_nil ?_
 refine cR (sR _ (r_move rfl h0) ?_)
 refine sR (.pointer (some s0a_)) (r_nilCheck rfl rfl) ?_
 refine sR (.pointer (some (Addr.add s0a_ 5))) (w_fieldAddr rfl underlying84 rfl rfl sz82 rfl rfl) ?_
 obtain ⟨v_108, hc108, h⟩ := h
 refine sR (.map v_108) (r_load1 rfl rfl underlying82 rfl hc108) ?_
 refine sR _ (r_move rfl h1) ?_
 refine s_ef (k_call (vs := [(.map v_108), (Sl.v l_1)]) cb49 (evC rfl (evC rfl evN)) (h.mono ?_))
 clear h; rintro v F ⟨rfl, h⟩
 refine HL_nil ?_
 refine cR (sR (.int .i64 0) (r_assign rfl rfl) ?_)
 exact HL_nil (HC_ret (rt1 f25 R rfl rfl h))
 refine HC_seq ?_
 refine HC_draw0 (by kernel_rfl) (fun hp => ?_)
 refine gU 0 (.int .i64 v_45) rfl (fun _ => r_move rfl rfl) hp ?_
 refine gU 1 (.pointer (some s0a_)) rfl (fun _ => r_move rfl h0) hp ?_
 refine gU 3 (.pointer (some s0a_)) rfl (fun _ => r_move rfl h0) hp ?_
 refine gU 4 (.pointer (some s0a_)) rfl (fun _ => r_nilCheck rfl rfl) hp ?_
 refine gU 5 (.pointer (some (Addr.add s0a_ 4))) rfl (fun _ => w_fieldAddr rfl underlying84 rfl rfl sz3 rfl rfl) hp ?_
 obtain ⟨v_52, hc52, h⟩ := h
 refine gR 6 (.int .i64 v_52) rfl (r_load1 rfl rfl underlying3 rfl hc52) hp (fun S6 q6 => ?_)
 replace hp := holdC (i := 6) (q6 _ (r_load1 rfl rfl underlying3 rfl hc52)) hp
 refine RG_eff1 (i := 2) (by kernel_rfl) (g_op (Sp' := [(6, S6)]) rfl rfl (k_call (vs := [(.pointer (some s0a_))]) cb44 (evC rfl evN) (h.mono ?_)))
 clear h; rintro v F ⟨v_48, rfl, h⟩
 obtain ⟨hk_40, h⟩ := h
 refine holdI (holdC (i := 6) (q6 _ (r_load1 rfl rfl underlying3 rfl hk_40)) hold0) (fun hp => ?_)
 refine gU 7 (.int .i64 (IntKind.i64.wrap (v_48 - v_52))) rfl (fun _ => r_sub rfl rfl rfl) hp ?_
 refine gU 8 (.bool (decide ((IntKind.i64.wrap (v_48 - v_52)) < v_45))) rfl (fun _ => r_gtr rfl rfl rfl) hp ?_
 refine RG_done (by kernel_rfl) ?_
 refine HC_cond (t := (decide ((IntKind.i64.wrap (v_48 - v_52)) < v_45))) rfl (fun hc => ?_) (fun hc => ?_)
 replace h := h.1 (of_decide_eq_true hc)
 clear hc
 refine HC_seq ?_
 refine cR (sR (.int .i64 v_45) (r_move rfl rfl) ?_)
 refine sR _ (r_move rfl h0) ?_
 refine s_ef (k_call (vs := [(.pointer (some s0a_))]) cb44 (evC rfl evN) (h.mono ?_))
 clear h; rintro v F ⟨v_57, rfl, h⟩
 refine sR _ (r_move rfl h0) ?_
 refine s_ef (k_call (vs := [(.pointer (some s0a_))]) cb53 (evC rfl evN) (h.mono ?_))
 clear h; rintro v F ⟨v_59, rfl, h⟩
 refine sR (.int .i64 (IntKind.i64.wrap (v_57 - v_59))) (r_sub rfl rfl rfl) ?_
 refine sR (.bool (decide ((IntKind.i64.wrap (v_57 - v_59)) < v_45))) (r_gtr rfl rfl rfl) ?_
 refine HL_nil ?_
 refine HC_cond (t := (decide ((IntKind.i64.wrap (v_57 - v_59)) < v_45))) rfl (fun hc => ?_) (fun hc => ?_)
 replace h := h.1 (of_decide_eq_true hc)
 clear hc
 refine cR (sR (.int .i64 351) (r_assign rfl rfl) ?_)
 exact HL_nil (HC_ret (rt1 f25 R rfl rfl h))
 replace h := h.2 (of_decide_eq_false hc)
 clear hc
 refine HC_skip ?_
 refine cR (sR _ (r_move rfl h0) ?_)
 refine sR _ (r_move rfl h0) ?_
 refine s_ef (k_call (vs := [(.pointer (some s0a_))]) cb46 (evC rfl evN) (h.mono ?_))
 clear h; rintro v F ⟨v_64, rfl, h⟩
 refine s_ef (k_call (vs := [(.pointer (some s0a_)), (.int .i64 v_64)]) cb45 (evC rfl (evC rfl evN)) (h.mono ?_))
 clear h; rintro v F ⟨v_65, rfl, h⟩
 refine sR (.int .i64 v_65) (r_assign rfl rfl) ?_
 refine HL_nil ?_
 refine cR (sR (.int .i64 v_65) (r_move rfl rfl) ?_)
 refine sR (.bool (decide (v_65 ≠ 0))) (w_neq rfl rfl) ?_
 refine HL_nil ?_
 refine HC_cond (t := (decide (v_65 ≠ 0))) rfl (fun hc => ?_) (fun hc => ?_)
 replace h := h.1 (of_decide_eq_true hc)
 clear hc
 refine cR (sR (.int .i64 v_65) (r_move rfl rfl) ?_)
 refine sR (.int .i64 v_65) (r_assign rfl rfl) ?_
 exact HL_nil (HC_ret (rt1 f25 R rfl rfl h))
 replace h := h.2 (of_decide_eq_false hc)
 clear hc
 refine HC_skip ?_
 show b25J2 s0a_ l_1 v_42 v_45 R _ _
 exact ⟨h0, h1, rfl, rfl, h⟩
 replace h := h.2 (of_decide_eq_false hc)
 clear hc
 refine HC_skip ?_
 show b25J2 s0a_ l_1 v_42 v_45 R _ _
 exact ⟨h0, h1, rfl, rfl, h⟩
 refine cR (sR (Sl.v l_1) (r_move rfl rfl) ?_)
 refine sR (.int .i64 (l_1.len : Int)) (r_lenSl rfl rfl underlying26) ?_
 refine sR (.int .i64 0) (r_move rfl rfl) ?_
 refine HL_nil ?_
 refine HC_block ?_
 obtain ⟨I1, m1, hI0, hr⟩ := h
 refine HC_loop (fun m1 E F => ∃ v_17 : Int, E 0 = (.pointer (some s0a_)) ∧ E 1 = (Sl.v l_1) ∧ E 15 = (Sl.v l_1) ∧ E 16 = (.int .i64 (l_1.len : Int)) ∧ E 17 = (.int .i64 v_17) ∧ I1 m1 v_17 F) m1 ⟨_, rfl, rfl, rfl, rfl, rfl, hI0⟩ ?_
 clear hI0; rintro m1 E F ⟨v_17, h0, h1, h15, h16, h17, hI⟩
 have h := hr m1 v_17 F hI
 clear hr hI
 unfold b25L1 at h
 refine cR (sR (.bool (decide (v_17 < (l_1.len : Int)))) (r_lss rfl h17 h16) ?_)
 refine HL_nil ?_
 refine HC_seq ?_
 refine HC_cond (t := (decide (v_17 < (l_1.len : Int)))) rfl (fun hc => ?_) (fun hc => ?_)
 replace h := h.1 (of_decide_eq_true hc)
 clear hc
 refine HC_skip ?_
 refine HC_seq ?_
 refine HC_block ?_
 refine cR ?_
 obtain ⟨a19_, hb19, hl19, hu19, h⟩ := h
 refine sR (.pointer (some (Addr.add a19_ (Int.toNat v_17 * 2)))) (w_indexAddr h15 h17 underlying26 sz41 hb19 hl19 hu19) ?_
 obtain ⟨v_20, hs20, hc20, h⟩ := h
 refine sR (.agg v_20) (w_loadN rfl underlying41 rfl sz41 hs20 hc20) ?_
 refine s_ef (k_alloc zr41 ?_)
 intro b6 hf_b6
 replace h := atE (h b6 hf_b6)
 refine s_ef0 (k_storeN (vs := v_20) rfl rfl sz41 (by decide) ?_)
 obtain ⟨hz1, hz2, c, e, hz3, hz4, hz5, h⟩ := h
 refine ⟨hz1, hz2, c, e, hz3, hz4, hz5, ?_⟩
 replace h := atE h
 refine HL_nil ?_
 refine cR (sR (.pointer (some (Addr.mk b6 0 none))) (w_fieldAddr rfl underlying41 rfl rfl sz9 rfl rfl) ?_)
 obtain ⟨v_22, hc22, h⟩ := h
 refine sR (.string v_22) (r_load1 rfl rfl underlying9 rfl hc22) ?_
 refine sR (.int .i64 (v_22.size : Int)) (r_lenStr rfl rfl underlying9) ?_
 refine sR (.bool (decide ((v_22.size : Int) < 1))) (r_lss rfl rfl rfl) ?_
 refine sR (.bool (decide ((v_22.size : Int) < 1))) (r_move rfl rfl) ?_
 by_cases hc : (v_22.size : Int) < 1
 replace h := h.1 hc
 refine kN 24 (decide_eq_true hc) ?_
 refine kN 25 (decide_eq_true hc) ?_
 iterate 4 refine s_skip ?_
 refine sR (.bool true) (r_pt rfl rfl) ?_
 refine sR (.bool true) (r_move rfl rfl) ?_
 iterate 4 refine s_skip ?_
 refine sR (.bool true) (r_pt rfl rfl) ?_
 refine HL_nil ?_
 refine HC_condT rfl ?_
 refine cR (sR (.int .i64 1) (r_assign rfl rfl) ?_)
 exact HL_nil (HC_ret (rt1 f25 R rfl rfl h))
 replace h := h.2 hc
 refine kN 24 (decide_eq_false hc) ?_
 refine kN 25 (decide_eq_false hc) ?_
 refine sR (.pointer (some (Addr.mk b6 0 none))) (w_fieldAddr rfl underlying41 rfl rfl sz9 rfl rfl) ?_
 obtain ⟨v_27, hc27, h⟩ := h
 refine sR (.string v_27) (r_load1 rfl rfl underlying9 rfl hc27) ?_
 refine sR (.int .i64 (v_27.size : Int)) (r_lenStr rfl rfl underlying9) ?_
 refine sR (.bool (decide ((255 : Int) < (v_27.size : Int)))) (r_gtr rfl rfl rfl) ?_
 refine sR (.bool (decide ((255 : Int) < (v_27.size : Int)))) (r_pf rfl rfl) ?_
 refine sR (.bool (decide ((255 : Int) < (v_27.size : Int)))) (r_move rfl rfl) ?_
 by_cases hc : (255 : Int) < (v_27.size : Int)
 replace h := h.1 hc
 refine kN 29 (decide_eq_true hc) ?_
 refine kN 30 (decide_eq_true hc) ?_
 refine kN 31 (decide_eq_true hc) ?_
 iterate 4 refine s_skip ?_
 refine sR (.bool true) (r_pt rfl rfl) ?_
 refine HL_nil ?_
 refine HC_condT rfl ?_
 refine cR (sR (.int .i64 1) (r_assign rfl rfl) ?_)
 exact HL_nil (HC_ret (rt1 f25 R rfl rfl h))
 replace h := h.2 hc
 refine kN 29 (decide_eq_false hc) ?_
 refine kN 30 (decide_eq_false hc) ?_
 refine kN 31 (decide_eq_false hc) ?_
 refine sR (.pointer (some (Addr.mk b6 1 none))) (w_fieldAddr rfl underlying41 rfl rfl sz39 rfl rfl) ?_
 obtain ⟨v_33, hc33, h⟩ := h
 refine sR (Sl.v v_33) (r_load1 rfl rfl underlying39 rfl hc33) ?_
 refine sR (.int .i64 (v_33.len : Int)) (r_lenSl rfl rfl underlying39) ?_
 refine sR (.bool (decide ((1048576 : Int) < (v_33.len : Int)))) (r_gtr rfl rfl rfl) ?_
 refine sR (.bool (decide ((1048576 : Int) < (v_33.len : Int)))) (r_pf rfl rfl) ?_
 refine HL_nil ?_
 refine HC_cond (t := (decide ((1048576 : Int) < (v_33.len : Int)))) rfl (fun hc => ?_) (fun hc => ?_)
 replace h := h.1 (of_decide_eq_true hc)
 clear hc
 refine cR (sR (.int .i64 1) (r_assign rfl rfl) ?_)
 exact HL_nil (HC_ret (rt1 f25 R rfl rfl h))
 replace h := h.2 (of_decide_eq_false hc)
 clear hc
 refine HC_skip ?_
 refine HC_region ?_
 refine sR (.int .i64 (IntKind.i64.wrap (v_17 + 1))) (r_add rfl h17 rfl) ?_
 refine sR (.int .i64 (IntKind.i64.wrap (v_17 + 1))) (r_move rfl rfl) ?_
 refine HL_nil ?_
 obtain ⟨m', hm, h⟩ := h
 exact ⟨m', hm, _, h0, h1, h15, h16, rfl, h⟩
 replace h := h.2 (of_decide_eq_false hc)
 clear hc
 refine HC_exit ?_
 show b25J1 s0a_ l_1 R _ _
 exact ⟨h0, h1, h⟩
 /- 16 (*koine.store.Store).Get -/
def b16 (s_0 : Option Addr) (key_1 : ByteArray) (R : VP) (F : PH) :=
 ∃ s0a_ : Addr, s_0 = some s0a_ ∧ ∃ v_12 : Option Nat, F.cell (Addr.add s0a_ 5) = some (.map v_12) ∧
 ∃ (v_14 : Sl) (ok14_ : Bool), rdo prog (Instr.lookup 82 (.map v_12) (.string key_1) true) F (.tuple #[(Sl.v v_14), (.bool ok14_)]) ∧
 Spec prog 43 #[(Sl.v v_14)] F fun v F => ∃ v_18 : Sl, v = (Sl.v v_18) ∧
 R (.tuple #[(Sl.v v_18), (.bool ok14_)]) F
theorem c16 {s_0 : Option Addr} {key_1 : ByteArray} {R : VP} {F : PH} (h : b16 s_0 key_1 R F) : Spec prog 16 #[(.pointer s_0), (.string key_1)] F R := by
 refine spec_of (args := [(.pointer s_0), (.string key_1)]) func16 rfl ntmps16 rfl ?_
 unfold b16 at h
 refine cR (sR (Sl.v Sl.nil) (r_assign rfl rfl) ?_)
 refine sR (.bool false) (r_assign rfl rfl) ?_
 refine HL_nil ?_
 refine cR (sR (.pointer s_0) (r_move rfl rfl) ?_)
 obtain ⟨s0a_, rfl, h⟩ := h
 refine sR (.pointer (some s0a_)) (r_nilCheck rfl rfl) ?_
 refine sR (.pointer (some (Addr.add s0a_ 5))) (w_fieldAddr rfl underlying84 rfl rfl sz82 rfl rfl) ?_
 obtain ⟨v_12, hc12, h⟩ := h
 refine sR (.map v_12) (r_load1 rfl rfl underlying82 rfl hc12) ?_
 refine sR (.string key_1) (r_move rfl rfl) ?_
 obtain ⟨v_14, ok14_, hc14, h⟩ := h
 refine sR (.tuple #[(Sl.v v_14), (.bool ok14_)]) (r_lookup rfl rfl rfl hc14) ?_
 refine sR (.tuple #[(Sl.v v_14), (.bool ok14_)]) (r_move rfl rfl) ?_
 refine sR (Sl.v v_14) (r_extract rfl rfl rfl) ?_
 refine sR (.bool ok14_) (r_extract rfl rfl rfl) ?_
 refine sR (Sl.v v_14) (r_assign rfl rfl) ?_
 refine sR (.bool ok14_) (r_assign rfl rfl) ?_
 refine HL_nil ?_
 refine cR (sR (Sl.v v_14) (r_move rfl rfl) ?_)
 refine s_ef (k_call (vs := [(Sl.v v_14)]) cb43 (evC rfl evN) (h.mono ?_))
 clear h; rintro v F ⟨v_18, rfl, h⟩
 refine sR (.bool ok14_) (r_move rfl rfl) ?_
 refine sR (Sl.v v_18) (r_assign rfl rfl) ?_
 refine sR (.bool ok14_) (r_assign rfl rfl) ?_
 exact HL_nil (HC_ret (rt2 f16 R rfl rfl rfl h))
 /- 18 (*koine.store.Store).Room -/
def b18 (s_0 : Option Addr) (R : VP) (F : PH) :=
 ∃ s0a_ : Addr, s_0 = some s0a_ ∧ ∃ v_8 : Int, F.cell (Addr.add s0a_ 4) = some (.int .i64 v_8) ∧
 Spec prog 44 #[(.pointer (some s0a_))] F fun v F => ∃ v_4 : Int, v = (.int .i64 v_4) ∧
 F.cell (Addr.add s0a_ 4) = some (.int .i64 v_8) ∧ R (.int .i64 (max 0 (IntKind.i64.wrap (63 * (IntKind.i64.wrap ((IntKind.i64.wrap (v_4 - v_8)) - 1)))))) F
theorem c18 {s_0 : Option Addr} {R : VP} {F : PH} (h : b18 s_0 R F) : Spec prog 18 #[(.pointer s_0)] F R := by
 refine spec_of (args := [(.pointer s_0)]) func18 rfl ntmps18 rfl ?_
 unfold b18 at h
 refine cR (sR (.int .i64 0) (r_assign rfl rfl) ?_)
 refine HL_nil ?_
 refine HC_seq ?_
 refine HC_draw0 (by kernel_rfl) (fun hp => ?_)
 refine gU 0 (.pointer s_0) rfl (fun _ => r_move rfl rfl) hp ?_
 refine gU 2 (.pointer s_0) rfl (fun _ => r_move rfl rfl) hp ?_
 obtain ⟨s0a_, rfl, h⟩ := h
 refine gU 3 (.pointer (some s0a_)) rfl (fun _ => r_nilCheck rfl rfl) hp ?_
 refine gU 4 (.pointer (some (Addr.add s0a_ 4))) rfl (fun _ => w_fieldAddr rfl underlying84 rfl rfl sz3 rfl rfl) hp ?_
 obtain ⟨v_8, hc8, h⟩ := h
 refine gR 5 (.int .i64 v_8) rfl (r_load1 rfl rfl underlying3 rfl hc8) hp (fun S5 q5 => ?_)
 replace hp := holdC (i := 5) (q5 _ (r_load1 rfl rfl underlying3 rfl hc8)) hp
 refine RG_eff1 (i := 1) (by kernel_rfl) (g_op (Sp' := [(5, S5)]) rfl rfl (k_call (vs := [(.pointer (some s0a_))]) cb44 (evC rfl evN) (h.mono ?_)))
 clear h; rintro v F ⟨v_4, rfl, h⟩
 obtain ⟨hk_2, h⟩ := h
 refine holdI (holdC (i := 5) (q5 _ (r_load1 rfl rfl underlying3 rfl hk_2)) hold0) (fun hp => ?_)
 refine gU 6 (.int .i64 (IntKind.i64.wrap (v_4 - v_8))) rfl (fun _ => r_sub rfl rfl rfl) hp ?_
 refine gU 7 (.int .i64 (IntKind.i64.wrap ((IntKind.i64.wrap (v_4 - v_8)) - 1))) rfl (fun _ => r_sub rfl rfl rfl) hp ?_
 refine gU 8 (.int .i64 (IntKind.i64.wrap (63 * (IntKind.i64.wrap ((IntKind.i64.wrap (v_4 - v_8)) - 1))))) rfl (fun _ => r_mul rfl rfl rfl) hp ?_
 refine gU 9 (.int .i64 (max 0 (IntKind.i64.wrap (63 * (IntKind.i64.wrap ((IntKind.i64.wrap (v_4 - v_8)) - 1)))))) rfl (fun _ => r_max2 rfl rfl rfl) hp ?_
 refine gU 10 (.int .i64 (max 0 (IntKind.i64.wrap (63 * (IntKind.i64.wrap ((IntKind.i64.wrap (v_4 - v_8)) - 1)))))) rfl (fun _ => r_assign rfl rfl) hp ?_
 refine RG_done (by kernel_rfl) ?_
 exact HC_ret (rt1 f18 R rfl rfl h)
 /- 19 (*koine.store.Store).Compact -/
def b19 (s_0 : Option Addr) (R : VP) (F : PH) :=
 ∃ s0a_ : Addr, s_0 = some s0a_ ∧ ∃ v_6 : Bool, F.cell (Addr.add s0a_ 6) = some (.bool v_6) ∧
 ((v_6 = true →
  R (.int .i64 340) F) ∧
 (v_6 = false →
  Spec prog 46 #[(.pointer (some s0a_))] F fun v F => ∃ v_9 : Int, v = (.int .i64 v_9) ∧
  Spec prog 45 #[(.pointer (some s0a_)), (.int .i64 v_9)] F fun v F => ∃ v_10 : Int, v = (.int .i64 v_10) ∧
  R (.int .i64 v_10) F))
theorem c19 {s_0 : Option Addr} {R : VP} {F : PH} (h : b19 s_0 R F) : Spec prog 19 #[(.pointer s_0)] F R := by
 refine spec_of (args := [(.pointer s_0)]) func19 rfl ntmps19 rfl ?_
 unfold b19 at h
 refine cR (sR (.int .i64 0) (r_assign rfl rfl) ?_)
 refine HL_nil ?_
 refine HC_seq ?_
 refine cR (sR (.pointer s_0) (r_move rfl rfl) ?_)
 obtain ⟨s0a_, rfl, h⟩ := h
 refine sR (.pointer (some s0a_)) (r_nilCheck rfl rfl) ?_
 refine sR (.pointer (some (Addr.add s0a_ 6))) (w_fieldAddr rfl underlying84 rfl rfl sz4 rfl rfl) ?_
 obtain ⟨v_6, hc6, h⟩ := h
 refine sR (.bool v_6) (r_load1 rfl rfl underlying4 rfl hc6) ?_
 refine HL_nil ?_
 refine HC_cond (t := v_6) rfl (fun hc => ?_) (fun hc => ?_)
 replace h := h.1 hc
 clear hc
 refine cR (sR (.int .i64 340) (r_assign rfl rfl) ?_)
 exact HL_nil (HC_ret (rt1 f19 R rfl rfl h))
 replace h := h.2 hc
 clear hc
 refine HC_skip ?_
 refine cR (sR (.pointer (some s0a_)) (r_move rfl rfl) ?_)
 refine sR (.pointer (some s0a_)) (r_move rfl rfl) ?_
 refine s_ef (k_call (vs := [(.pointer (some s0a_))]) cb46 (evC rfl evN) (h.mono ?_))
 clear h; rintro v F ⟨v_9, rfl, h⟩
 refine s_ef (k_call (vs := [(.pointer (some s0a_)), (.int .i64 v_9)]) cb45 (evC rfl (evC rfl evN)) (h.mono ?_))
 clear h; rintro v F ⟨v_10, rfl, h⟩
 refine sR (.int .i64 v_10) (r_assign rfl rfl) ?_
 exact HL_nil (HC_ret (rt1 f19 R rfl rfl h))
 /- 30 koine.store.Format -/
def b30 (d_0 : Option Addr) (R : VP) (F : PH) :=
 Spec prog 28 #[(.pointer d_0)] F fun v F => ∃ v_7 : Int, v = (.int .i64 v_7) ∧
 ((v_7 < 4 →
  R (.tuple #[(.pointer none), (.int .i64 1)]) F) ∧
 (¬ (v_7 < 4) →
  Spec prog 28 #[(.pointer d_0)] F fun v F => ∃ v_11 : Int, v = (.int .i64 v_11) ∧
  runs prog (Instr.makeSlice 95 (.int .i64 v_11) (.int .i64 v_11)) F fun v F => ∃ v_12 : Sl, v = (Sl.v v_12) ∧
  Spec prog 57 #[(.pointer d_0), (.int .i64 0), (Sl.v v_12)] F fun v F => ∃ v_13 : Int, v = (.int .i64 v_13) ∧
  ((v_13 ≠ 0 →
   R (.tuple #[(.pointer none), (.int .i64 v_13)]) F) ∧
  (¬ (v_13 ≠ 0) →
   Spec prog 58 #[(.int .u8 1), (.int .u64 1), (.int .u64 461430681189)] F fun v F => ∃ v_18 : Array Value, v = (.agg v_18) ∧
   v_18.size = 64 ∧ ∀ b19, F b19 = none → atF (F.set b19 (.cells v_18 104)) fun F =>
   Spec prog 57 #[(.pointer d_0), (.int .i64 0), (Sl.v (Sl.mk (some (Addr.mk b19 0 none)) 1 1))] F fun v F => ∃ v_20 : Int, v = (.int .i64 v_20) ∧
   ((v_20 ≠ 0 →
    R (.tuple #[(.pointer none), (.int .i64 v_20)]) F) ∧
   (¬ (v_20 ≠ 0) →
    Spec prog 28 #[(.pointer d_0)] F fun v F => ∃ v_26 : Int, v = (.int .i64 v_26) ∧
    ∀ b28, F b28 = none → atF (F.set b28 (.map #[] 0)) fun F =>
    ∀ b30, F b30 = none → atF (F.set b30 (.cells (#[(.pointer d_0), (.int .i64 (IntKind.i64.wrap (Int.tdiv v_26 2))), .int .i64 0, (.int .u64 1), .int .i64 0, (.map (some b28)), .bool false] : Array Value) 84)) fun F =>
    R (.tuple #[(.pointer (some (Addr.mk b30 0 none))), (.int .i64 0)]) F))))))
theorem c30 {d_0 : Option Addr} {R : VP} {F : PH} (h : b30 d_0 R F) : Spec prog 30 #[(.pointer d_0)] F R := by
 refine spec_of (args := [(.pointer d_0)]) func30 rfl ntmps30 rfl ?_
 unfold b30 at h
 refine cR (sR (.pointer none) (r_assign rfl rfl) ?_)
 refine sR (.int .i64 0) (r_assign rfl rfl) ?_
 refine HL_nil ?_
 refine HC_seq ?_
 refine cR (sR (.pointer d_0) (r_move rfl rfl) ?_)
 refine s_ef (k_call (vs := [(.pointer d_0)]) cb28 (evC rfl evN) (h.mono ?_))
 clear h; rintro v F ⟨v_7, rfl, h⟩
 refine sR (.bool (decide (v_7 < 4))) (r_lss rfl rfl rfl) ?_
 refine HL_nil ?_
 refine HC_cond (t := (decide (v_7 < 4))) rfl (fun hc => ?_) (fun hc => ?_)
 replace h := h.1 (of_decide_eq_true hc)
 clear hc
 refine cR (sR (.pointer none) (r_assign rfl rfl) ?_)
 refine sR (.int .i64 1) (r_assign rfl rfl) ?_
 exact HL_nil (HC_ret (rt2 f30 R rfl rfl rfl h))
 replace h := h.2 (of_decide_eq_false hc)
 clear hc
 refine HC_skip ?_
 refine HC_seq ?_
 refine cR (sR (.pointer d_0) (r_move rfl rfl) ?_)
 refine sR (.pointer d_0) (r_move rfl rfl) ?_
 refine s_ef (k_call (vs := [(.pointer d_0)]) cb28 (evC rfl evN) (h.mono ?_))
 clear h; rintro v F ⟨v_11, rfl, h⟩
 refine s_ef (k_makeSlice rfl rfl (runs_mono _ _ h ?_))
 clear h; rintro v F ⟨v_12, rfl, h⟩
 refine s_ef (k_call (vs := [(.pointer d_0), (.int .i64 0), (Sl.v v_12)]) cb57 (evC rfl (evC rfl (evC rfl evN))) (h.mono ?_))
 clear h; rintro v F ⟨v_13, rfl, h⟩
 refine sR (.int .i64 v_13) (r_assign rfl rfl) ?_
 refine HL_nil ?_
 refine cR (sR (.int .i64 v_13) (r_move rfl rfl) ?_)
 refine sR (.bool (decide (v_13 ≠ 0))) (w_neq rfl rfl) ?_
 refine HL_nil ?_
 refine HC_cond (t := (decide (v_13 ≠ 0))) rfl (fun hc => ?_) (fun hc => ?_)
 replace h := h.1 (of_decide_eq_true hc)
 clear hc
 refine cR (sR (.int .i64 v_13) (r_move rfl rfl) ?_)
 refine sR (.pointer none) (r_assign rfl rfl) ?_
 refine sR (.int .i64 v_13) (r_assign rfl rfl) ?_
 exact HL_nil (HC_ret (rt2 f30 R rfl rfl rfl h))
 replace h := h.2 (of_decide_eq_false hc)
 clear hc
 refine HC_skip ?_
 refine HC_seq ?_
 refine cR (sR (.pointer d_0) (r_move rfl rfl) ?_)
 refine s_ef (k_call (vs := [(.int .u8 1), (.int .u64 1), (.int .u64 461430681189)]) cb58 (evC rfl (evC rfl (evC rfl evN))) (h.mono ?_))
 clear h; rintro v F ⟨v_18, rfl, h⟩
 obtain ⟨hz19, h⟩ := h
 refine s_ef (k_buildSlice (cells := v_18) underlying95 sz104 (by decide) zr104 rfl (evPC rfl evPN) (fillWhole hz19 rfl rfl) rfl ?_)
 intro b19 hf_b19
 replace h := atE (h b19 hf_b19)
 refine s_ef (k_call (vs := [(.pointer d_0), (.int .i64 0), (Sl.v (Sl.mk (some (Addr.mk b19 0 none)) 1 1))]) cb57 (evC rfl (evC rfl (evC rfl evN))) (h.mono ?_))
 clear h; rintro v F ⟨v_20, rfl, h⟩
 refine sR (.int .i64 v_20) (r_assign rfl rfl) ?_
 refine HL_nil ?_
 refine cR (sR (.int .i64 v_20) (r_move rfl rfl) ?_)
 refine sR (.bool (decide (v_20 ≠ 0))) (w_neq rfl rfl) ?_
 refine HL_nil ?_
 refine HC_cond (t := (decide (v_20 ≠ 0))) rfl (fun hc => ?_) (fun hc => ?_)
 replace h := h.1 (of_decide_eq_true hc)
 clear hc
 refine cR (sR (.int .i64 v_20) (r_move rfl rfl) ?_)
 refine sR (.pointer none) (r_assign rfl rfl) ?_
 refine sR (.int .i64 v_20) (r_assign rfl rfl) ?_
 exact HL_nil (HC_ret (rt2 f30 R rfl rfl rfl h))
 replace h := h.2 (of_decide_eq_false hc)
 clear hc
 refine HC_skip ?_
 refine cR (sR (.pointer d_0) (r_move rfl rfl) ?_)
 refine sR (.pointer d_0) (r_move rfl rfl) ?_
 refine s_ef (k_call (vs := [(.pointer d_0)]) cb28 (evC rfl evN) (h.mono ?_))
 clear h; rintro v F ⟨v_26, rfl, h⟩
 refine sR (.int .i64 (IntKind.i64.wrap (Int.tdiv v_26 2))) (r_quo rfl rfl rfl (by decide)) ?_
 refine s_ef (k_makeMap0 ?_)
 intro b28 hf_b28
 replace h := atE (h b28 hf_b28)
 refine sR (.agg (#[(.pointer d_0), (.int .i64 (IntKind.i64.wrap (Int.tdiv v_26 2))), .int .i64 0, (.int .u64 1), .int .i64 0, (.map (some b28)), .bool false] : Array Value)) (w_buildStruct (cells := #[(.pointer d_0), (.int .i64 (IntKind.i64.wrap (Int.tdiv v_26 2))), .int .i64 0, (.int .u64 1), .int .i64 0, (.map (some b28)), .bool false]) underlying84 zr84 kf84 (evPC rfl (evPC rfl (evPC rfl (evPC rfl evPN)))) (fill1 (place_of rfl rfl sz24) rfl rfl (fill1 (place_of rfl rfl sz3) rfl rfl (fill1 (place_of rfl rfl sz81) rfl rfl (fill1 (place_of rfl rfl sz82) rfl rfl (fillN rfl)))))) ?_
 refine s_ef (k_box (cs := (#[(.pointer d_0), (.int .i64 (IntKind.i64.wrap (Int.tdiv v_26 2))), .int .i64 0, (.int .u64 1), .int .i64 0, (.map (some b28)), .bool false] : Array Value)) rfl rfl ?_)
 intro b30 hf_b30
 replace h := atE (h b30 hf_b30)
 refine sR (.pointer (some (Addr.mk b30 0 none))) (r_assign rfl rfl) ?_
 refine sR (.int .i64 0) (r_assign rfl rfl) ?_
 exact HL_nil (HC_ret (rt2 f30 R rfl rfl rfl h))
end Go.Proofs.Ytelkfnmdnbbniaa
