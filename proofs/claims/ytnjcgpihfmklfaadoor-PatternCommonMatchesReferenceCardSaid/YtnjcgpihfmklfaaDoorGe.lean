/-
  What functions of the program do, in a clean form, each with the proof that its code does so. Printed by a program.
-/
import Derived.Test.YtnjcgpihfmklfaaDoorGf
import Derived.Test.YtnjcgpihfmklfaaDoorPho
namespace Go.Proofs.YtnjcgpihfmklfaaDoor
open Go Go.Proofs.Tryd
set_option maxRecDepth 10000
set_option maxHeartbeats 4000000
/- 89 math.bits.TrailingZeros64 -/
def b89 (x_0 : Int) (R : VP) (F : PH) :=
 ((x_0 = 0 →
  R (.int .i64 64) F) ∧
 (¬ (x_0 = 0) →
  0 ≤ (Int.fdiv (IntKind.u64.wrap ((IntKind.u64.wrap ((BitVec.ofInt (IntKind.u64).bits x_0 &&& BitVec.ofInt (IntKind.u64).bits (IntKind.u64.wrap (0 - x_0))).toNat)) * 285870213051353865)) (2 ^ (min (Int.toNat 58) (IntKind.u64).bits))) ∧ (Int.fdiv (IntKind.u64.wrap ((IntKind.u64.wrap ((BitVec.ofInt (IntKind.u64).bits x_0 &&& BitVec.ofInt (IntKind.u64).bits (IntKind.u64.wrap (0 - x_0))).toNat)) * 285870213051353865)) (2 ^ (min (Int.toNat 58) (IntKind.u64).bits))) < 64 ∧
  ∃ v_12 : Int, F.cell (Addr.add (Addr.mk 0 0 none) (Int.toNat (Int.fdiv (IntKind.u64.wrap ((IntKind.u64.wrap ((BitVec.ofInt (IntKind.u64).bits x_0 &&& BitVec.ofInt (IntKind.u64).bits (IntKind.u64.wrap (0 - x_0))).toNat)) * 285870213051353865)) (2 ^ (min (Int.toNat 58) (IntKind.u64).bits))) * 1)) = some (.int .u8 v_12) ∧
  R (.int .i64 (IntKind.i64.wrap v_12)) F))
theorem c89 {x_0 : Int} {R : VP} {F : PH} (h : b89 x_0 R F) : Spec prog 89 #[(.int .u64 x_0)] F R := by
 refine spec_of (args := [(.int .u64 x_0)]) func89 rfl ntmps89 rfl ?_
 unfold b89 at h
 refine cR (sR (.int .i64 0) (r_assign rfl rfl) ?_)
 refine HL_nil ?_
 refine HC_seq ?_
 refine cR (sR (.int .u64 x_0) (r_move rfl rfl) ?_)
 refine sR (.bool (decide (x_0 = 0))) (w_eql rfl rfl) ?_
 refine HL_nil ?_
 refine HC_cond (t := (decide (x_0 = 0))) rfl (fun hc => ?_) (fun hc => ?_)
 replace h := h.1 (of_decide_eq_true hc)
 clear hc
 refine cR (sR (.int .i64 64) (r_assign rfl rfl) ?_)
 exact HL_nil (HC_ret (rt1 f89 R rfl rfl h))
 replace h := h.2 (of_decide_eq_false hc)
 clear hc
 refine HC_skip ?_
 refine cR (sR (.int .u64 x_0) (r_move rfl rfl) ?_)
 refine sR (.int .u64 x_0) (r_move rfl rfl) ?_
 refine sR (.int .u64 (IntKind.u64.wrap (0 - x_0))) (r_neg rfl rfl) ?_
 refine sR (.int .u64 (IntKind.u64.wrap ((BitVec.ofInt (IntKind.u64).bits x_0 &&& BitVec.ofInt (IntKind.u64).bits (IntKind.u64.wrap (0 - x_0))).toNat))) (r_and rfl rfl rfl) ?_
 refine sR (.int .u64 (IntKind.u64.wrap ((IntKind.u64.wrap ((BitVec.ofInt (IntKind.u64).bits x_0 &&& BitVec.ofInt (IntKind.u64).bits (IntKind.u64.wrap (0 - x_0))).toNat)) * 285870213051353865))) (r_mul rfl rfl rfl) ?_
 refine sR (.int .u64 (Int.fdiv (IntKind.u64.wrap ((IntKind.u64.wrap ((BitVec.ofInt (IntKind.u64).bits x_0 &&& BitVec.ofInt (IntKind.u64).bits (IntKind.u64.wrap (0 - x_0))).toNat)) * 285870213051353865)) (2 ^ (min (Int.toNat 58) (IntKind.u64).bits)))) (r_shr rfl rfl rfl (by decide)) ?_
 obtain ⟨hl11, hu11, h⟩ := h
 refine sR (.pointer (some (Addr.add (Addr.mk 0 0 none) (Int.toNat (Int.fdiv (IntKind.u64.wrap ((IntKind.u64.wrap ((BitVec.ofInt (IntKind.u64).bits x_0 &&& BitVec.ofInt (IntKind.u64).bits (IntKind.u64.wrap (0 - x_0))).toNat)) * 285870213051353865)) (2 ^ (min (Int.toNat 58) (IntKind.u64).bits))) * 1)))) (r_indexAddrAr rfl rfl rfl underlying122 sz5 hl11 (by exact hu11)) ?_
 obtain ⟨v_12, hc12, h⟩ := h
 refine sR (.int .u8 v_12) (r_load1 rfl rfl underlying5 rfl hc12) ?_
 refine sR (.int .i64 (IntKind.i64.wrap v_12)) (r_convInt rfl rfl underlying5 underlying3) ?_
 refine sR (.int .i64 (IntKind.i64.wrap v_12)) (r_assign rfl rfl) ?_
 exact HL_nil (HC_ret (rt1 f89 R rfl rfl h))
 /- 66 (*koine.pattern.places).each -/
def b66j1 (N1 : Int → PH → Prop) (f_1 : Value) (s_0 : Option Addr) (v_7 : Int) (R : VP) (F : PH) :=
 N1 (IntKind.i64.wrap (v_7 + 1)) F
abbrev b66J1 (N1 : Int → PH → Prop) (f_1 : Value) (s_0 : Option Addr) (v_7 : Int) (R : VP) (E : En) (F : PH) : Prop := E 1 = f_1 ∧ E 6 = (.pointer s_0) ∧ E 7 = (.int .i64 v_7) ∧ b66j1 N1 f_1 s_0 v_7 R F
def b66L2 (N1 : Int → PH → Prop) (N2 : Int → PH → Prop) (f_1 : Value) (v_7 : Int) (s0a_ : Addr) (R : VP) (w_5 : Int) (F : PH) :=
 ((w_5 ≠ 0 →
  Spec prog 89 #[(.int .u64 w_5)] F fun v F => ∃ v_23 : Int, v = (.int .i64 v_23) ∧
  ∃ (k25 : Nat) (fst25 cap25 : Array Value), f_1 = Value.func (.func k25) fst25 cap25 ∧ callableB prog k25 = true ∧ Spec prog k25 (fst25 ++ ([(Value.int .i64 (IntKind.i64.wrap ((IntKind.i64.wrap (64 * v_7)) + v_23)))]).toArray ++ cap25) F fun v F => v = (Value.tuple #[]) ∧
  N2 (IntKind.u64.wrap ((BitVec.ofInt (IntKind.u64).bits w_5 &&& BitVec.ofInt (IntKind.u64).bits (IntKind.u64.wrap (w_5 - 1))).toNat)) F) ∧
 (¬ (w_5 ≠ 0) →
  b66j1 N1 f_1 (some s0a_) v_7 R F))
def b66L1 (N1 : Int → PH → Prop) (f_1 : Value) (s_0 : Option Addr) (R : VP) (v_7 : Int) (F : PH) :=
 ((v_7 < 8 →
  ∃ s0a_ : Addr, s_0 = some s0a_ ∧ 0 ≤ v_7 ∧ v_7 < 8 ∧
  ∃ v_12 : Int, F.cell (Addr.add s0a_ (Int.toNat v_7 * 1)) = some (.int .u64 v_12) ∧
  (∃ (I2 : Nat → Int → PH → Prop) (m2 : Nat), I2 m2 v_12 F ∧ ∀ m2 w_5 F, I2 m2 w_5 F →
   b66L2 N1 (nx1 I2 m2) f_1 v_7 s0a_ R w_5 F)) ∧
 (¬ (v_7 < 8) →
  R (.tuple #[]) F))
def b66 (s_0 : Option Addr) (f_1 : Value) (R : VP) (F : PH) :=
 (∃ (I1 : Nat → Int → PH → Prop) (m1 : Nat), I1 m1 0 F ∧ ∀ m1 v_7 F, I1 m1 v_7 F →
  b66L1 (nx1 I1 m1) f_1 s_0 R v_7 F)
theorem c66 {s_0 : Option Addr} {f_1 : Value} {R : VP} {F : PH} (h : b66 s_0 f_1 R F) : Spec prog 66 #[(.pointer s_0), f_1] F R := by
 refine spec_of (args := [(.pointer s_0), f_1]) func66 rfl ntmps66 rfl ?_
 unfold b66 at h
 refine cR (sR (.pointer s_0) (r_move rfl rfl) ?_)
 refine sR (.int .i64 0) (r_move rfl rfl) ?_
 refine HL_nil ?_
 refine HC_block ?_
 obtain ⟨I1, m1, hI0, hr⟩ := h
 refine HC_loop (fun m1 E F => ∃ v_7 : Int, E 1 = f_1 ∧ E 6 = (.pointer s_0) ∧ E 7 = (.int .i64 v_7) ∧ I1 m1 v_7 F) m1 ⟨_, rfl, rfl, rfl, hI0⟩ ?_
 clear hI0; rintro m1 E F ⟨v_7, h1, h6, h7, hI⟩
 have h := hr m1 v_7 F hI
 clear hr hI
 unfold b66L1 at h
 refine cR (sR (.bool (decide (v_7 < 8))) (r_lss rfl h7 rfl) ?_)
 refine HL_nil ?_
 refine HC_seq ?_
 refine HC_cond (t := (decide (v_7 < 8))) rfl (fun hc => ?_) (fun hc => ?_)
 replace h := h.1 (of_decide_eq_true hc)
 clear hc
 refine HC_skip ?_
 refine HC_seqJ (b66J1 (nx1 I1 m1) f_1 s_0 v_7 R) ?_ ?_
 clear h; rintro E F ⟨h1, h6, h7, h⟩
 unfold b66j1 at h
 refine HC_region ?_
 refine sR (.int .i64 (IntKind.i64.wrap (v_7 + 1))) (r_add rfl h7 rfl) ?_
 refine sR (.int .i64 (IntKind.i64.wrap (v_7 + 1))) (r_move rfl rfl) ?_
 refine HL_nil ?_
 obtain ⟨m', hm, h⟩ := h
 exact ⟨m', hm, _, h1, h6, rfl, h⟩
 refine HC_block ?_
 refine HC_seq ?_
 refine HC_draw0 (by kernel_rfl) (fun hp => ?_)
 refine gU 0 (.int .i64 v_7) rfl (fun _ => r_move rfl h7) hp ?_
 obtain ⟨s0a_, rfl, h⟩ := h
 refine gU 1 (.pointer (some s0a_)) rfl (fun _ => r_nilCheck rfl h6) hp ?_
 obtain ⟨hl11, hu11, h⟩ := h
 refine gU 2 (.pointer (some (Addr.add s0a_ (Int.toNat v_7 * 1)))) rfl (fun _ => r_indexAddrAr rfl rfl h7 underlying76 sz74 hl11 (by exact hu11)) hp ?_
 obtain ⟨v_12, hc12, h⟩ := h
 refine gR 3 (.int .u64 v_12) rfl (r_load1 rfl rfl underlying74 rfl hc12) hp (fun S3 q3 => ?_)
 replace hp := holdC (i := 3) (q3 _ (r_load1 rfl rfl underlying74 rfl hc12)) hp
 refine gU 4 (.int .i64 v_7) rfl (fun _ => r_assign rfl rfl) hp ?_
 refine gU 5 (.int .u64 v_12) rfl (fun _ => r_assign rfl rfl) hp ?_
 refine RG_done (by kernel_rfl) ?_
 refine HC_block ?_
 obtain ⟨I2, m2, hI0, hr⟩ := h
 refine HC_loop (fun m2 E F => ∃ w_5 : Int, E 1 = f_1 ∧ E 4 = (.int .i64 v_7) ∧ E 5 = (.int .u64 w_5) ∧ E 6 = (.pointer (some s0a_)) ∧ E 7 = (.int .i64 v_7) ∧ I2 m2 w_5 F) m2 ⟨_, h1, rfl, rfl, h6, h7, hI0⟩ ?_
 clear hI0; rintro m2 E F ⟨w_5, h1, h4, h5, h6, h7, hI⟩
 have h := hr m2 w_5 F hI
 clear hr hI
 unfold b66L2 at h
 refine HC_seq ?_
 refine cR (sR _ (r_move rfl h5) ?_)
 refine sR (.bool (decide (w_5 ≠ 0))) (w_neq rfl rfl) ?_
 refine HL_nil ?_
 refine HC_cond (t := (decide (w_5 ≠ 0))) rfl (fun hc => ?_) (fun hc => ?_)
 replace h := h.1 (of_decide_eq_true hc)
 clear hc
 refine HC_skip ?_
 refine HC_seq ?_
 refine HC_block ?_
 refine HC_region ?_
 refine sR f_1 (r_move rfl h1) ?_
 refine sR _ (r_move rfl h4) ?_
 refine sR (.int .i64 (IntKind.i64.wrap (64 * v_7))) (r_mul rfl rfl rfl) ?_
 refine sR _ (r_move rfl h5) ?_
 refine s_ef (k_call (vs := [(.int .u64 w_5)]) cb89 (evC rfl evN) (h.mono ?_))
 clear h; rintro v F ⟨v_23, rfl, h⟩
 refine sR (.int .i64 (IntKind.i64.wrap ((IntKind.i64.wrap (64 * v_7)) + v_23))) (r_add rfl rfl rfl) ?_
 obtain ⟨_, _, _, hk1, hk2, h⟩ := h
 refine s_ef (k_callF (vs := [(.int .i64 (IntKind.i64.wrap ((IntKind.i64.wrap (64 * v_7)) + v_23)))]) hk2 ((rfl : _ = f_1).trans hk1) (evC rfl evN) (h.mono ?_))
 clear h; rintro v F ⟨rfl, h⟩
 refine HL_nil ?_
 refine HC_region ?_
 refine sR _ (r_move rfl h5) ?_
 refine sR _ (r_move rfl h5) ?_
 refine sR (.int .u64 (IntKind.u64.wrap (w_5 - 1))) (r_sub rfl rfl rfl) ?_
 refine sR (.int .u64 (IntKind.u64.wrap ((BitVec.ofInt (IntKind.u64).bits w_5 &&& BitVec.ofInt (IntKind.u64).bits (IntKind.u64.wrap (w_5 - 1))).toNat))) (r_and rfl rfl rfl) ?_
 refine sR (.int .u64 (IntKind.u64.wrap ((BitVec.ofInt (IntKind.u64).bits w_5 &&& BitVec.ofInt (IntKind.u64).bits (IntKind.u64.wrap (w_5 - 1))).toNat))) (r_assign rfl rfl) ?_
 refine HL_nil ?_
 obtain ⟨m', hm, h⟩ := h
 exact ⟨m', hm, _, h1, h4, rfl, h6, h7, h⟩
 replace h := h.2 (of_decide_eq_false hc)
 clear hc
 refine HC_exit ?_
 show b66J1 (nx1 I1 m1) f_1 (some s0a_) v_7 R _ _
 exact ⟨h1, h6, h7, h⟩
 replace h := h.2 (of_decide_eq_false hc)
 clear hc
 refine HC_exit ?_
 exact (show endQ prog f66 R .normal _ _ from ⟨_, res0 rfl, h⟩)
 /- 70 (*koine.pattern.places).add -/
def b70 (s_0 : Option Addr) (i_1 : Int) (R : VP) (F : PH) :=
 ∃ s0a_ : Addr, s_0 = some s0a_ ∧ 0 ≤ (IntKind.i64.wrap (Int.tdiv i_1 64)) ∧ (IntKind.i64.wrap (Int.tdiv i_1 64)) < 8 ∧
 ∃ v_9 : Int, F.cell (Addr.add s0a_ (Int.toNat (IntKind.i64.wrap (Int.tdiv i_1 64)) * 1)) = some (.int .u64 v_9) ∧
 0 ≤ (Int.tmod i_1 64) ∧ 0 ≤ (IntKind.i64.wrap (Int.tdiv i_1 64)) ∧ (IntKind.i64.wrap (Int.tdiv i_1 64)) < 8 ∧
 ∃ c e, F (Addr.add s0a_ (Int.toNat (IntKind.i64.wrap (Int.tdiv i_1 64)) * 1)).block = some (.cells c e (0, 0)) ∧ (Addr.add s0a_ (Int.toNat (IntKind.i64.wrap (Int.tdiv i_1 64)) * 1)).spot = none ∧ (Addr.add s0a_ (Int.toNat (IntKind.i64.wrap (Int.tdiv i_1 64)) * 1)).off < c.size ∧
 atF (F.set (Addr.add s0a_ (Int.toNat (IntKind.i64.wrap (Int.tdiv i_1 64)) * 1)).block (.cells (c.setIfInBounds (Addr.add s0a_ (Int.toNat (IntKind.i64.wrap (Int.tdiv i_1 64)) * 1)).off (.int .u64 (IntKind.u64.wrap ((BitVec.ofInt (IntKind.u64).bits v_9 ||| BitVec.ofInt (IntKind.u64).bits (IntKind.u64.wrap (1 * 2 ^ (min (Int.toNat (Int.tmod i_1 64)) (IntKind.u64).bits)))).toNat)))) e)) fun F =>
 R (.tuple #[]) F
theorem c70 {s_0 : Option Addr} {i_1 : Int} {R : VP} {F : PH} (h : b70 s_0 i_1 R F) : Spec prog 70 #[(.pointer s_0), (.int .i64 i_1)] F R := by
 refine spec_of (args := [(.pointer s_0), (.int .i64 i_1)]) func70 rfl ntmps70 rfl ?_
 unfold b70 at h
 refine HC_draw0 (by kernel_rfl) (fun hp => ?_)
 refine gU 0 (.pointer s_0) rfl (fun _ => r_move rfl rfl) hp ?_
 refine gU 1 (.int .i64 i_1) rfl (fun _ => r_move rfl rfl) hp ?_
 refine gU 2 (.int .i64 (IntKind.i64.wrap (Int.tdiv i_1 64))) rfl (fun _ => r_quo rfl rfl rfl (by decide)) hp ?_
 obtain ⟨s0a_, rfl, h⟩ := h
 refine gU 3 (.pointer (some s0a_)) rfl (fun _ => r_nilCheck rfl rfl) hp ?_
 obtain ⟨hl8, hu8, h⟩ := h
 refine gU 4 (.pointer (some (Addr.add s0a_ (Int.toNat (IntKind.i64.wrap (Int.tdiv i_1 64)) * 1)))) rfl (fun _ => r_indexAddrAr rfl rfl rfl underlying76 sz74 hl8 (by exact hu8)) hp ?_
 obtain ⟨v_9, hc9, h⟩ := h
 refine gR 5 (.int .u64 v_9) rfl (r_load1 rfl rfl underlying74 rfl hc9) hp (fun S5 q5 => ?_)
 replace hp := holdC (i := 5) (q5 _ (r_load1 rfl rfl underlying74 rfl hc9)) hp
 refine gU 6 (.int .i64 i_1) rfl (fun _ => r_move rfl rfl) hp ?_
 refine gU 7 (.int .i64 (Int.tmod i_1 64)) rfl (fun _ => r_rem rfl rfl rfl (by decide)) hp ?_
 obtain ⟨hd12, h⟩ := h
 refine gU 8 (.int .u64 (IntKind.u64.wrap (1 * 2 ^ (min (Int.toNat (Int.tmod i_1 64)) (IntKind.u64).bits)))) rfl (fun _ => r_shl rfl rfl rfl hd12) hp ?_
 refine gU 9 (.int .u64 (IntKind.u64.wrap ((BitVec.ofInt (IntKind.u64).bits v_9 ||| BitVec.ofInt (IntKind.u64).bits (IntKind.u64.wrap (1 * 2 ^ (min (Int.toNat (Int.tmod i_1 64)) (IntKind.u64).bits)))).toNat))) rfl (fun _ => r_or rfl rfl rfl) hp ?_
 refine gU 10 (.pointer (some s0a_)) rfl (fun _ => r_nilCheck rfl rfl) hp ?_
 obtain ⟨hl15, hu15, h⟩ := h
 refine gU 11 (.pointer (some (Addr.add s0a_ (Int.toNat (IntKind.i64.wrap (Int.tdiv i_1 64)) * 1)))) rfl (fun _ => r_indexAddrAr rfl rfl rfl underlying76 sz74 hl15 (by exact hu15)) hp ?_
 refine RG_eff1 (i := 12) (by kernel_rfl) (g_op0 (Sp' := []) rfl rfl (k_store1 (v := (.int .u64 (IntKind.u64.wrap ((BitVec.ofInt (IntKind.u64).bits v_9 ||| BitVec.ofInt (IntKind.u64).bits (IntKind.u64.wrap (1 * 2 ^ (min (Int.toNat (Int.tmod i_1 64)) (IntKind.u64).bits)))).toNat)))) rfl rfl sz74 rfl st_int ?_))
 obtain ⟨c, e, hz3, hz4, hz5, h⟩ := h
 refine ⟨c, e, hz3, hz4, hz5, ?_⟩
 replace h := atE h
 refine holdI hold0 (fun hp => ?_)
 refine RG_done (by kernel_rfl) ?_
 exact (show endQ prog f70 R .normal _ _ from ⟨_, res0 rfl, h⟩)
 /- 68 (*koine.pattern.places).join -/
def b68L1 (N1 : Int → PH → Prop) (s_0 : Option Addr) (b3 : Nat) (R : VP) (v_5 : Int) (F : PH) :=
 ((v_5 < 8 →
  ∃ s0a_ : Addr, s_0 = some s0a_ ∧ 0 ≤ v_5 ∧ v_5 < 8 ∧
  ∃ v_12 : Int, F.cell (Addr.add s0a_ (Int.toNat v_5 * 1)) = some (.int .u64 v_12) ∧
  0 ≤ v_5 ∧ v_5 < 8 ∧
  ∃ v_15 : Int, F.cell (Addr.add (Addr.mk b3 0 none) (Int.toNat v_5 * 1)) = some (.int .u64 v_15) ∧
  0 ≤ v_5 ∧ v_5 < 8 ∧
  ∃ c e, F (Addr.add s0a_ (Int.toNat v_5 * 1)).block = some (.cells c e (0, 0)) ∧ (Addr.add s0a_ (Int.toNat v_5 * 1)).spot = none ∧ (Addr.add s0a_ (Int.toNat v_5 * 1)).off < c.size ∧
  atF (F.set (Addr.add s0a_ (Int.toNat v_5 * 1)).block (.cells (c.setIfInBounds (Addr.add s0a_ (Int.toNat v_5 * 1)).off (.int .u64 (IntKind.u64.wrap ((BitVec.ofInt (IntKind.u64).bits v_12 ||| BitVec.ofInt (IntKind.u64).bits v_15).toNat)))) e)) fun F =>
  N1 (IntKind.i64.wrap (v_5 + 1)) F) ∧
 (¬ (v_5 < 8) →
  R (.tuple #[]) F))
def b68 (s_0 : Option Addr) (t_1 : Array Value) (R : VP) (F : PH) :=
 ∀ b3, F b3 = none → atF (F.set b3 (.cells t_1 76)) fun F =>
 (∃ (I1 : Nat → Int → PH → Prop) (m1 : Nat), I1 m1 0 F ∧ ∀ m1 v_5 F, I1 m1 v_5 F →
  b68L1 (nx1 I1 m1) s_0 b3 R v_5 F)
theorem c68 {s_0 : Option Addr} {t_1 : Array Value} {R : VP} {F : PH} (h : b68 s_0 t_1 R F) : Spec prog 68 #[(.pointer s_0), (.agg t_1)] F R := by
 refine spec_of (args := [(.pointer s_0), (.agg t_1)]) func68 rfl ntmps68 rfl ?_
 unfold b68 at h
 refine cR ?_
 refine s_ef (k_box (cs := t_1) rfl rfl ?_)
 intro b3 hf_b3
 replace h := atE (h b3 hf_b3)
 refine HL_nil ?_
 refine cR (sR (.int .i64 0) (r_move rfl rfl) ?_)
 refine HL_nil ?_
 refine HC_block ?_
 obtain ⟨I1, m1, hI0, hr⟩ := h
 refine HC_loop (fun m1 E F => ∃ v_5 : Int, E 0 = (.pointer s_0) ∧ E 3 = (.pointer (some (Addr.mk b3 0 none))) ∧ E 5 = (.int .i64 v_5) ∧ I1 m1 v_5 F) m1 ⟨_, rfl, rfl, rfl, hI0⟩ ?_
 clear hI0; rintro m1 E F ⟨v_5, h0, h3, h5, hI⟩
 have h := hr m1 v_5 F hI
 clear hr hI
 unfold b68L1 at h
 refine cR (sR (.bool (decide (v_5 < 8))) (r_lss rfl h5 rfl) ?_)
 refine HL_nil ?_
 refine HC_seq ?_
 refine HC_cond (t := (decide (v_5 < 8))) rfl (fun hc => ?_) (fun hc => ?_)
 replace h := h.1 (of_decide_eq_true hc)
 clear hc
 refine HC_skip ?_
 refine HC_seq ?_
 refine HC_block ?_
 refine cR (sR _ (r_move rfl h5) ?_)
 refine sR (.int .i64 v_5) (r_assign rfl rfl) ?_
 refine HL_nil ?_
 refine HC_draw0 (by kernel_rfl) (fun hp => ?_)
 refine gU 0 (.pointer s_0) rfl (fun _ => r_move rfl h0) hp ?_
 refine gU 1 (.int .i64 v_5) rfl (fun _ => r_move rfl rfl) hp ?_
 obtain ⟨s0a_, rfl, h⟩ := h
 refine gU 2 (.pointer (some s0a_)) rfl (fun _ => r_nilCheck rfl rfl) hp ?_
 obtain ⟨hl11, hu11, h⟩ := h
 refine gU 3 (.pointer (some (Addr.add s0a_ (Int.toNat v_5 * 1)))) rfl (fun _ => r_indexAddrAr rfl rfl rfl underlying76 sz74 hl11 (by exact hu11)) hp ?_
 obtain ⟨v_12, hc12, h⟩ := h
 refine gR 4 (.int .u64 v_12) rfl (r_load1 rfl rfl underlying74 rfl hc12) hp (fun S4 q4 => ?_)
 replace hp := holdC (i := 4) (q4 _ (r_load1 rfl rfl underlying74 rfl hc12)) hp
 refine gU 5 (.int .i64 v_5) rfl (fun _ => r_move rfl rfl) hp ?_
 obtain ⟨hl14, hu14, h⟩ := h
 refine gU 6 (.pointer (some (Addr.add (Addr.mk b3 0 none) (Int.toNat v_5 * 1)))) rfl (fun _ => r_indexAddrAr rfl h3 rfl underlying76 sz74 hl14 (by exact hu14)) hp ?_
 obtain ⟨v_15, hc15, h⟩ := h
 refine gR 7 (.int .u64 v_15) rfl (r_load1 rfl rfl underlying74 rfl hc15) hp (fun S7 q7 => ?_)
 replace hp := holdC (i := 7) (q7 _ (r_load1 rfl rfl underlying74 rfl hc15)) hp
 refine gU 8 (.int .u64 (IntKind.u64.wrap ((BitVec.ofInt (IntKind.u64).bits v_12 ||| BitVec.ofInt (IntKind.u64).bits v_15).toNat))) rfl (fun _ => r_or rfl rfl rfl) hp ?_
 refine gU 9 (.pointer (some s0a_)) rfl (fun _ => r_nilCheck rfl rfl) hp ?_
 obtain ⟨hl18, hu18, h⟩ := h
 refine gU 10 (.pointer (some (Addr.add s0a_ (Int.toNat v_5 * 1)))) rfl (fun _ => r_indexAddrAr rfl rfl rfl underlying76 sz74 hl18 (by exact hu18)) hp ?_
 refine RG_eff1 (i := 11) (by kernel_rfl) (g_op0 (Sp' := []) rfl rfl (k_store1 (v := (.int .u64 (IntKind.u64.wrap ((BitVec.ofInt (IntKind.u64).bits v_12 ||| BitVec.ofInt (IntKind.u64).bits v_15).toNat)))) rfl rfl sz74 rfl st_int ?_))
 obtain ⟨c, e, hz3, hz4, hz5, h⟩ := h
 refine ⟨c, e, hz3, hz4, hz5, ?_⟩
 replace h := atE h
 refine holdI hold0 (fun hp => ?_)
 refine RG_done (by kernel_rfl) ?_
 refine HC_region ?_
 refine sR (.int .i64 (IntKind.i64.wrap (v_5 + 1))) (r_add rfl h5 rfl) ?_
 refine sR (.int .i64 (IntKind.i64.wrap (v_5 + 1))) (r_move rfl rfl) ?_
 refine HL_nil ?_
 obtain ⟨m', hm, h⟩ := h
 exact ⟨m', hm, _, h0, h3, rfl, h⟩
 replace h := h.2 (of_decide_eq_false hc)
 clear hc
 refine HC_exit ?_
 exact (show endQ prog f68 R .normal _ _ from ⟨_, res0 rfl, h⟩)
 /- 72 (*koine.pattern.places).meets -/
def b72j1 (R : VP) (F : PH) :=
 R (.bool false) F
abbrev b72J1 (R : VP) (E : En) (F : PH) : Prop := b72j1 R F
def b72L1 (N1 : Int → PH → Prop) (s_0 : Option Addr) (b3 : Nat) (R : VP) (v_6 : Int) (F : PH) :=
 ((v_6 < 8 →
  ∃ s0a_ : Addr, s_0 = some s0a_ ∧ 0 ≤ v_6 ∧ v_6 < 8 ∧
  ∃ v_13 : Int, F.cell (Addr.add s0a_ (Int.toNat v_6 * 1)) = some (.int .u64 v_13) ∧
  0 ≤ v_6 ∧ v_6 < 8 ∧
  ∃ v_16 : Int, F.cell (Addr.add (Addr.mk b3 0 none) (Int.toNat v_6 * 1)) = some (.int .u64 v_16) ∧
  (((IntKind.u64.wrap ((BitVec.ofInt (IntKind.u64).bits v_13 &&& BitVec.ofInt (IntKind.u64).bits v_16).toNat)) ≠ 0 →
   R (.bool true) F) ∧
  (¬ ((IntKind.u64.wrap ((BitVec.ofInt (IntKind.u64).bits v_13 &&& BitVec.ofInt (IntKind.u64).bits v_16).toNat)) ≠ 0) →
   N1 (IntKind.i64.wrap (v_6 + 1)) F))) ∧
 (¬ (v_6 < 8) →
  b72j1 R F))
def b72 (s_0 : Option Addr) (t_1 : Array Value) (R : VP) (F : PH) :=
 ∀ b3, F b3 = none → atF (F.set b3 (.cells t_1 76)) fun F =>
 (∃ (I1 : Nat → Int → PH → Prop) (m1 : Nat), I1 m1 0 F ∧ ∀ m1 v_6 F, I1 m1 v_6 F →
  b72L1 (nx1 I1 m1) s_0 b3 R v_6 F)
theorem c72 {s_0 : Option Addr} {t_1 : Array Value} {R : VP} {F : PH} (h : b72 s_0 t_1 R F) : Spec prog 72 #[(.pointer s_0), (.agg t_1)] F R := by
 refine spec_of (args := [(.pointer s_0), (.agg t_1)]) func72 rfl ntmps72 rfl ?_
 unfold b72 at h
 refine cR ?_
 refine s_ef (k_box (cs := t_1) rfl rfl ?_)
 intro b3 hf_b3
 replace h := atE (h b3 hf_b3)
 refine sR (.bool false) (r_assign rfl rfl) ?_
 refine HL_nil ?_
 refine HC_seqJ (b72J1 R) ?_ ?_
 clear h; rintro E F h
 unfold b72J1 at h; unfold b72j1 at h
 refine cR (sR (.bool false) (r_assign rfl rfl) ?_)
 exact HL_nil (HC_ret (rt1 f72 R rfl rfl h))
 refine cR (sR (.int .i64 0) (r_move rfl rfl) ?_)
 refine HL_nil ?_
 refine HC_block ?_
 obtain ⟨I1, m1, hI0, hr⟩ := h
 refine HC_loop (fun m1 E F => ∃ v_6 : Int, E 0 = (.pointer s_0) ∧ E 3 = (.pointer (some (Addr.mk b3 0 none))) ∧ E 6 = (.int .i64 v_6) ∧ I1 m1 v_6 F) m1 ⟨_, rfl, rfl, rfl, hI0⟩ ?_
 clear hI0; rintro m1 E F ⟨v_6, h0, h3, h6, hI⟩
 have h := hr m1 v_6 F hI
 clear hr hI
 unfold b72L1 at h
 refine cR (sR (.bool (decide (v_6 < 8))) (r_lss rfl h6 rfl) ?_)
 refine HL_nil ?_
 refine HC_seq ?_
 refine HC_cond (t := (decide (v_6 < 8))) rfl (fun hc => ?_) (fun hc => ?_)
 replace h := h.1 (of_decide_eq_true hc)
 clear hc
 refine HC_skip ?_
 refine HC_seq ?_
 refine HC_block ?_
 refine cR (sR _ (r_move rfl h6) ?_)
 refine sR (.int .i64 v_6) (r_assign rfl rfl) ?_
 refine HL_nil ?_
 refine HC_seq ?_
 refine HC_draw0 (by kernel_rfl) (fun hp => ?_)
 refine gU 0 (.pointer s_0) rfl (fun _ => r_move rfl h0) hp ?_
 refine gU 1 (.int .i64 v_6) rfl (fun _ => r_move rfl rfl) hp ?_
 obtain ⟨s0a_, rfl, h⟩ := h
 refine gU 2 (.pointer (some s0a_)) rfl (fun _ => r_nilCheck rfl rfl) hp ?_
 obtain ⟨hl12, hu12, h⟩ := h
 refine gU 3 (.pointer (some (Addr.add s0a_ (Int.toNat v_6 * 1)))) rfl (fun _ => r_indexAddrAr rfl rfl rfl underlying76 sz74 hl12 (by exact hu12)) hp ?_
 obtain ⟨v_13, hc13, h⟩ := h
 refine gR 4 (.int .u64 v_13) rfl (r_load1 rfl rfl underlying74 rfl hc13) hp (fun S4 q4 => ?_)
 replace hp := holdC (i := 4) (q4 _ (r_load1 rfl rfl underlying74 rfl hc13)) hp
 refine gU 5 (.int .i64 v_6) rfl (fun _ => r_move rfl rfl) hp ?_
 obtain ⟨hl15, hu15, h⟩ := h
 refine gU 6 (.pointer (some (Addr.add (Addr.mk b3 0 none) (Int.toNat v_6 * 1)))) rfl (fun _ => r_indexAddrAr rfl h3 rfl underlying76 sz74 hl15 (by exact hu15)) hp ?_
 obtain ⟨v_16, hc16, h⟩ := h
 refine gR 7 (.int .u64 v_16) rfl (r_load1 rfl rfl underlying74 rfl hc16) hp (fun S7 q7 => ?_)
 replace hp := holdC (i := 7) (q7 _ (r_load1 rfl rfl underlying74 rfl hc16)) hp
 refine gU 8 (.int .u64 (IntKind.u64.wrap ((BitVec.ofInt (IntKind.u64).bits v_13 &&& BitVec.ofInt (IntKind.u64).bits v_16).toNat))) rfl (fun _ => r_and rfl rfl rfl) hp ?_
 refine gU 9 (.bool (decide ((IntKind.u64.wrap ((BitVec.ofInt (IntKind.u64).bits v_13 &&& BitVec.ofInt (IntKind.u64).bits v_16).toNat)) ≠ 0))) rfl (fun _ => w_neq rfl rfl) hp ?_
 refine RG_done (by kernel_rfl) ?_
 refine HC_cond (t := (decide ((IntKind.u64.wrap ((BitVec.ofInt (IntKind.u64).bits v_13 &&& BitVec.ofInt (IntKind.u64).bits v_16).toNat)) ≠ 0))) rfl (fun hc => ?_) (fun hc => ?_)
 replace h := h.1 (of_decide_eq_true hc)
 clear hc
 refine cR (sR (.bool true) (r_assign rfl rfl) ?_)
 exact HL_nil (HC_ret (rt1 f72 R rfl rfl h))
 replace h := h.2 (of_decide_eq_false hc)
 clear hc
 refine HC_skip ?_
 refine HC_region ?_
 refine sR (.int .i64 (IntKind.i64.wrap (v_6 + 1))) (r_add rfl h6 rfl) ?_
 refine sR (.int .i64 (IntKind.i64.wrap (v_6 + 1))) (r_move rfl rfl) ?_
 refine HL_nil ?_
 obtain ⟨m', hm, h⟩ := h
 exact ⟨m', hm, _, h0, h3, rfl, h⟩
 replace h := h.2 (of_decide_eq_false hc)
 clear hc
 refine HC_exit ?_
 exact h
 /- 67 koine.pattern.compile$1$1 -/
def b67 (i_0 : Int) (v_1 : Option Addr) (v_2 : Option Addr) (R : VP) (F : PH) :=
 ∃ v1a_ : Addr, v_1 = some v1a_ ∧ ∃ v_4 : Option Addr, F.cell v1a_ = some (.pointer v_4) ∧
 ∃ v4a_ : Addr, v_4 = some v4a_ ∧ ∃ v_7 : Sl, F.cell (Addr.add v4a_ 17) = some (Sl.v v_7) ∧
 ∃ a9_ : Addr, v_7.base = some a9_ ∧ 0 ≤ i_0 ∧ i_0 < (v_7.len : Int) ∧
 ∃ v2a_ : Addr, v_2 = some v2a_ ∧ ∃ v_10 : Array Value, v_10.size = 8 ∧ F.row v2a_ v_10 ∧
 Spec prog 68 #[(.pointer (some (Addr.add a9_ (Int.toNat i_0 * 8)))), (.agg v_10)] F fun v F => v = Value.tuple #[] ∧
 F.cell (Addr.add v4a_ 17) = some (Sl.v v_7) ∧ F.cell v1a_ = some (.pointer v_4) ∧ R (.tuple #[]) F
theorem c67 {i_0 : Int} {v_1 : Option Addr} {v_2 : Option Addr} {R : VP} {F : PH} (h : b67 i_0 v_1 v_2 R F) : Spec prog 67 #[(.int .i64 i_0), (.pointer v_1), (.pointer v_2)] F R := by
 refine spec_of (args := [(.int .i64 i_0), (.pointer v_1), (.pointer v_2)]) func67 rfl ntmps67 rfl ?_
 unfold b67 at h
 refine HC_draw0 (by kernel_rfl) (fun hp => ?_)
 obtain ⟨v1a_, rfl, h⟩ := h
 obtain ⟨v_4, hc4, h⟩ := h
 refine gR 0 (.pointer v_4) rfl (r_load1 rfl rfl underlying61 rfl hc4) hp (fun S0 q0 => ?_)
 replace hp := holdC (i := 0) (q0 _ (r_load1 rfl rfl underlying61 rfl hc4)) hp
 obtain ⟨v4a_, rfl, h⟩ := h
 refine gU 1 (.pointer (some v4a_)) rfl (fun _ => r_nilCheck rfl rfl) hp ?_
 refine gU 2 (.pointer (some (Addr.add v4a_ 17))) rfl (fun _ => w_fieldAddr rfl underlying79 rfl rfl sz77 rfl rfl) hp ?_
 obtain ⟨v_7, hc7, h⟩ := h
 refine gR 3 (Sl.v v_7) rfl (r_load1 rfl rfl underlying77 rfl hc7) hp (fun S3 q3 => ?_)
 replace hp := holdC (i := 3) (q3 _ (r_load1 rfl rfl underlying77 rfl hc7)) hp
 refine gU 4 (.int .i64 i_0) rfl (fun _ => r_move rfl rfl) hp ?_
 obtain ⟨a9_, hb9, hl9, hu9, h⟩ := h
 refine gU 5 (.pointer (some (Addr.add a9_ (Int.toNat i_0 * 8)))) rfl (fun _ => w_indexAddr rfl rfl underlying77 sz76 hb9 hl9 hu9) hp ?_
 obtain ⟨v2a_, rfl, h⟩ := h
 obtain ⟨v_10, hs10, hc10, h⟩ := h
 refine gR 6 (.agg v_10) rfl (w_loadN rfl underlying76 rfl sz76 hs10 hc10) hp (fun S6 q6 => ?_)
 replace hp := holdC (i := 6) (q6 _ (w_loadN rfl underlying76 rfl sz76 hs10 hc10)) hp
 refine RG_eff1 (i := 7) (by kernel_rfl) (g_op (Sp' := [(3, S3), (0, S0)]) rfl rfl (k_call (vs := [(.pointer (some (Addr.add a9_ (Int.toNat i_0 * 8)))), (.agg v_10)]) cb68 (evC rfl (evC rfl evN)) (h.mono ?_)))
 clear h; rintro v F ⟨rfl, h⟩
 obtain ⟨hk_1, hk_2, h⟩ := h
 refine holdI (holdC (i := 3) (q3 _ (r_load1 rfl rfl underlying77 rfl hk_1)) (holdC (i := 0) (q0 _ (r_load1 rfl rfl underlying61 rfl hk_2)) hold0)) (fun hp => ?_)
 refine RG_done (by kernel_rfl) ?_
 exact (show endQ prog f67 R .normal _ _ from ⟨_, res0 rfl, h⟩)
 /- 65 koine.pattern.compile$1 -/
def b65 (from_0 : Array Value) (to_1 : Array Value) (v_2 : Option Addr) (R : VP) (F : PH) :=
 ∀ b3, F b3 = none → atF (F.set b3 (.cells from_0 76)) fun F =>
 ∀ b4, F b4 = none → atF (F.set b4 (.cells to_1 76)) fun F =>
 Spec prog 66 #[(.pointer (some (Addr.mk b3 0 none))), (.func (.func 67) #[] #[(.pointer v_2), (.pointer (some (Addr.mk b4 0 none)))])] F fun v F => v = Value.tuple #[] ∧
 R (.tuple #[]) F
theorem c65 {from_0 : Array Value} {to_1 : Array Value} {v_2 : Option Addr} {R : VP} {F : PH} (h : b65 from_0 to_1 v_2 R F) : Spec prog 65 #[(.agg from_0), (.agg to_1), (.pointer v_2)] F R := by
 refine spec_of (args := [(.agg from_0), (.agg to_1), (.pointer v_2)]) func65 rfl ntmps65 rfl ?_
 unfold b65 at h
 refine cR ?_
 refine s_ef (k_box (cs := from_0) rfl rfl ?_)
 intro b3 hf_b3
 replace h := atE (h b3 hf_b3)
 refine s_ef (k_box (cs := to_1) rfl rfl ?_)
 intro b4 hf_b4
 replace h := atE (h b4 hf_b4)
 refine HL_nil ?_
 refine HC_region ?_
 refine sR (.func (.func 67) #[] #[(.pointer v_2), (.pointer (some (Addr.mk b4 0 none)))]) (w_makeFunc evN (evC rfl (evC rfl evN))) ?_
 refine s_ef (k_call (vs := [(.pointer (some (Addr.mk b3 0 none))), (.func (.func 67) #[] #[(.pointer v_2), (.pointer (some (Addr.mk b4 0 none)))])]) cb66 (evC rfl (evC rfl evN)) (h.mono ?_))
 clear h; rintro v F ⟨rfl, h⟩
 refine HL_nil ?_
 exact (show endQ prog f65 R .normal _ _ from ⟨_, res0 rfl, h⟩)
 /- 69 koine.pattern.compile$2 -/
def b69j2 (b5 : Nat) (b6 : Nat) (b9 : Nat) (v_42_2 : Bool) (b13 : Nat) (v_50_2 : Bool) (R : VP) (F : PH) :=
 ∃ v_64 : Array Value, v_64.size = 8 ∧ F.row (Addr.mk b9 0 none) v_64 ∧
 ∃ v_65 : Array Value, v_65.size = 8 ∧ F.row (Addr.mk b13 0 none) v_65 ∧
 ((v_42_2 = true →
  v_64.size = 8 ∧ (∀ v ∈ v_64.toList, storable v) ∧ ∃ c e, F (Addr.mk b5 0 none).block = some (.cells c e (0, 0)) ∧ (Addr.mk b5 0 none).spot = none ∧ (Addr.mk b5 0 none).off + 8 ≤ c.size ∧
  atF (F.set (Addr.mk b5 0 none).block (.cells (wr c (Addr.mk b5 0 none).off v_64.toList) e)) fun F =>
  v_65.size = 8 ∧ (∀ v ∈ v_65.toList, storable v) ∧ ∃ c e, F (Addr.mk b6 0 none).block = some (.cells c e (0, 0)) ∧ (Addr.mk b6 0 none).spot = none ∧ (Addr.mk b6 0 none).off + 8 ≤ c.size ∧
  atF (F.set (Addr.mk b6 0 none).block (.cells (wr c (Addr.mk b6 0 none).off v_65.toList) e)) fun F =>
  ∃ vres_5_1 : Array Value, vres_5_1.size = 8 ∧ F.row (Addr.mk b5 0 none) vres_5_1 ∧ ∃ vres_6_1 : Array Value, vres_6_1.size = 8 ∧ F.row (Addr.mk b6 0 none) vres_6_1 ∧ R (.tuple #[(.agg vres_5_1), (.agg vres_6_1), (.bool v_50_2)]) F) ∧
 (v_42_2 = false →
  v_64.size = 8 ∧ (∀ v ∈ v_64.toList, storable v) ∧ ∃ c e, F (Addr.mk b5 0 none).block = some (.cells c e (0, 0)) ∧ (Addr.mk b5 0 none).spot = none ∧ (Addr.mk b5 0 none).off + 8 ≤ c.size ∧
  atF (F.set (Addr.mk b5 0 none).block (.cells (wr c (Addr.mk b5 0 none).off v_64.toList) e)) fun F =>
  v_65.size = 8 ∧ (∀ v ∈ v_65.toList, storable v) ∧ ∃ c e, F (Addr.mk b6 0 none).block = some (.cells c e (0, 0)) ∧ (Addr.mk b6 0 none).spot = none ∧ (Addr.mk b6 0 none).off + 8 ≤ c.size ∧
  atF (F.set (Addr.mk b6 0 none).block (.cells (wr c (Addr.mk b6 0 none).off v_65.toList) e)) fun F =>
  ∃ vres_5_2 : Array Value, vres_5_2.size = 8 ∧ F.row (Addr.mk b5 0 none) vres_5_2 ∧ ∃ vres_6_2 : Array Value, vres_6_2.size = 8 ∧ F.row (Addr.mk b6 0 none) vres_6_2 ∧ R (.tuple #[(.agg vres_5_2), (.agg vres_6_2), (.bool false)]) F))
abbrev b69J2 (b5 : Nat) (b6 : Nat) (b9 : Nat) (v_42_2 : Bool) (b13 : Nat) (v_50_2 : Bool) (R : VP) (E : En) (F : PH) : Prop := E 5 = (.pointer (some (Addr.mk b5 0 none))) ∧ E 6 = (.pointer (some (Addr.mk b6 0 none))) ∧ E 9 = (.pointer (some (Addr.mk b9 0 none))) ∧ E 11 = (.bool v_42_2) ∧ E 13 = (.pointer (some (Addr.mk b13 0 none))) ∧ E 14 = (.bool v_50_2) ∧ b69j2 b5 b6 b9 v_42_2 b13 v_50_2 R F
def b69j1 (b5 : Nat) (b6 : Nat) (b9 : Nat) (b10 : Nat) (v_42_2 : Bool) (b13 : Nat) (v_50_2 : Bool) (R : VP) (F : PH) :=
 ((v_50_2 = true →
  ∃ v_62 : Array Value, v_62.size = 8 ∧ F.row (Addr.mk b10 0 none) v_62 ∧
  Spec prog 68 #[(.pointer (some (Addr.mk b13 0 none))), (.agg v_62)] F fun v F => v = Value.tuple #[] ∧
  b69j2 b5 b6 b9 v_42_2 b13 v_50_2 R F) ∧
 (v_50_2 = false →
  b69j2 b5 b6 b9 v_42_2 b13 v_50_2 R F))
abbrev b69J1 (b5 : Nat) (b6 : Nat) (b9 : Nat) (b10 : Nat) (v_42_2 : Bool) (b13 : Nat) (v_50_2 : Bool) (R : VP) (E : En) (F : PH) : Prop := E 5 = (.pointer (some (Addr.mk b5 0 none))) ∧ E 6 = (.pointer (some (Addr.mk b6 0 none))) ∧ E 9 = (.pointer (some (Addr.mk b9 0 none))) ∧ E 10 = (.pointer (some (Addr.mk b10 0 none))) ∧ E 11 = (.bool v_42_2) ∧ E 13 = (.pointer (some (Addr.mk b13 0 none))) ∧ E 14 = (.bool v_50_2) ∧ b69j1 b5 b6 b9 b10 v_42_2 b13 v_50_2 R F
def b69 (i_0 : Int) (v_1 : Option Addr) (v_2 : Option Addr) (v_3 : Option Addr) (R : VP) (F : PH) :=
 ∀ b5, F b5 = none → atF (F.set b5 (.cells (#[.int .u64 0, .int .u64 0, .int .u64 0, .int .u64 0, .int .u64 0, .int .u64 0, .int .u64 0, .int .u64 0]) 76)) fun F =>
 ∀ b6, F b6 = none → atF (F.set b6 (.cells (#[.int .u64 0, .int .u64 0, .int .u64 0, .int .u64 0, .int .u64 0, .int .u64 0, .int .u64 0, .int .u64 0]) 76)) fun F =>
 ∃ v1a_ : Addr, v_1 = some v1a_ ∧ ∃ v_24 : Sl, F.cell v1a_ = some (Sl.v v_24) ∧
 ∃ a26_ : Addr, v_24.base = some a26_ ∧ 0 ≤ i_0 ∧ i_0 < (v_24.len : Int) ∧
 ∃ v_27 : Array Value, v_27.size = 5 ∧ F.row (Addr.add a26_ (Int.toNat i_0 * 5)) v_27 ∧
 ∀ b8, F b8 = none → atF (F.set b8 (.cells (#[.int .i64 0, .int .i64 0, .int .i64 0, .int .i64 0, .int .i64 0]) 50)) fun F =>
 v_27.size = 5 ∧ (∀ v ∈ v_27.toList, storable v) ∧ ∃ c e, F (Addr.mk b8 0 none).block = some (.cells c e (0, 0)) ∧ (Addr.mk b8 0 none).spot = none ∧ (Addr.mk b8 0 none).off + 5 ≤ c.size ∧
 atF (F.set (Addr.mk b8 0 none).block (.cells (wr c (Addr.mk b8 0 none).off v_27.toList) e)) fun F =>
 ∃ v_29 : Int, F.cell (Addr.mk b8 0 none) = some (.int .i64 v_29) ∧
 ((v_29 = 1 →
  Spec prog 70 #[(.pointer (some (Addr.mk b5 0 none))), (.int .i64 i_0)] F fun v F => v = Value.tuple #[] ∧
  ∃ v_34 : Array Value, v_34.size = 8 ∧ F.row (Addr.mk b5 0 none) v_34 ∧
  ∃ v_35 : Array Value, v_35.size = 8 ∧ F.row (Addr.mk b5 0 none) v_35 ∧
  v_34.size = 8 ∧ (∀ v ∈ v_34.toList, storable v) ∧ ∃ c e, F (Addr.mk b5 0 none).block = some (.cells c e (0, 0)) ∧ (Addr.mk b5 0 none).spot = none ∧ (Addr.mk b5 0 none).off + 8 ≤ c.size ∧
  atF (F.set (Addr.mk b5 0 none).block (.cells (wr c (Addr.mk b5 0 none).off v_34.toList) e)) fun F =>
  v_35.size = 8 ∧ (∀ v ∈ v_35.toList, storable v) ∧ ∃ c e, F (Addr.mk b6 0 none).block = some (.cells c e (0, 0)) ∧ (Addr.mk b6 0 none).spot = none ∧ (Addr.mk b6 0 none).off + 8 ≤ c.size ∧
  atF (F.set (Addr.mk b6 0 none).block (.cells (wr c (Addr.mk b6 0 none).off v_35.toList) e)) fun F =>
  ∃ vres_5 : Array Value, vres_5.size = 8 ∧ F.row (Addr.mk b5 0 none) vres_5 ∧ ∃ vres_6 : Array Value, vres_6.size = 8 ∧ F.row (Addr.mk b6 0 none) vres_6 ∧ R (.tuple #[(.agg vres_5), (.agg vres_6), (.bool false)]) F) ∧
 (¬ (v_29 = 1) →
  ((v_29 = 2 →
   ∃ v2a_ : Addr, v_2 = some v2a_ ∧ ∃ v_39 : Value, F.cell v2a_ = some v_39 ∧
   ∃ v_41 : Int, F.cell (Addr.mk b8 3 none) = some (.int .i64 v_41) ∧
   ∃ (k42 : Nat) (fst42 cap42 : Array Value), v_39 = Value.func (.func k42) fst42 cap42 ∧ callableB prog k42 = true ∧ Spec prog k42 (fst42 ++ ([(Value.int .i64 v_41)]).toArray ++ cap42) F fun v F => ∃ v_42 : Array Value, ∃ v_42_1 : Array Value, ∃ v_42_2 : Bool, v = (Value.tuple #[(Value.agg v_42), (Value.agg v_42_1), (Value.bool v_42_2)]) ∧
   ∀ b9, F b9 = none → atF (F.set b9 (.cells (#[.int .u64 0, .int .u64 0, .int .u64 0, .int .u64 0, .int .u64 0, .int .u64 0, .int .u64 0, .int .u64 0]) 76)) fun F =>
   ∀ b10, F b10 = none → atF (F.set b10 (.cells (#[.int .u64 0, .int .u64 0, .int .u64 0, .int .u64 0, .int .u64 0, .int .u64 0, .int .u64 0, .int .u64 0]) 76)) fun F =>
   v_42.size = 8 ∧ (∀ v ∈ v_42.toList, storable v) ∧ ∃ c e, F (Addr.mk b9 0 none).block = some (.cells c e (0, 0)) ∧ (Addr.mk b9 0 none).spot = none ∧ (Addr.mk b9 0 none).off + 8 ≤ c.size ∧
   atF (F.set (Addr.mk b9 0 none).block (.cells (wr c (Addr.mk b9 0 none).off v_42.toList) e)) fun F =>
   v_42_1.size = 8 ∧ (∀ v ∈ v_42_1.toList, storable v) ∧ ∃ c e, F (Addr.mk b10 0 none).block = some (.cells c e (0, 0)) ∧ (Addr.mk b10 0 none).spot = none ∧ (Addr.mk b10 0 none).off + 8 ≤ c.size ∧
   atF (F.set (Addr.mk b10 0 none).block (.cells (wr c (Addr.mk b10 0 none).off v_42_1.toList) e)) fun F =>
   ∃ v_47 : Value, F.cell v2a_ = some v_47 ∧
   ∃ v_49 : Int, F.cell (Addr.mk b8 4 none) = some (.int .i64 v_49) ∧
   ∃ (k50 : Nat) (fst50 cap50 : Array Value), v_47 = Value.func (.func k50) fst50 cap50 ∧ callableB prog k50 = true ∧ Spec prog k50 (fst50 ++ ([(Value.int .i64 v_49)]).toArray ++ cap50) F fun v F => ∃ v_50 : Array Value, ∃ v_50_1 : Array Value, ∃ v_50_2 : Bool, v = (Value.tuple #[(Value.agg v_50), (Value.agg v_50_1), (Value.bool v_50_2)]) ∧
   ∀ b12, F b12 = none → atF (F.set b12 (.cells (#[.int .u64 0, .int .u64 0, .int .u64 0, .int .u64 0, .int .u64 0, .int .u64 0, .int .u64 0, .int .u64 0]) 76)) fun F =>
   ∀ b13, F b13 = none → atF (F.set b13 (.cells (#[.int .u64 0, .int .u64 0, .int .u64 0, .int .u64 0, .int .u64 0, .int .u64 0, .int .u64 0, .int .u64 0]) 76)) fun F =>
   v_50.size = 8 ∧ (∀ v ∈ v_50.toList, storable v) ∧ ∃ c e, F (Addr.mk b12 0 none).block = some (.cells c e (0, 0)) ∧ (Addr.mk b12 0 none).spot = none ∧ (Addr.mk b12 0 none).off + 8 ≤ c.size ∧
   atF (F.set (Addr.mk b12 0 none).block (.cells (wr c (Addr.mk b12 0 none).off v_50.toList) e)) fun F =>
   v_50_1.size = 8 ∧ (∀ v ∈ v_50_1.toList, storable v) ∧ ∃ c e, F (Addr.mk b13 0 none).block = some (.cells c e (0, 0)) ∧ (Addr.mk b13 0 none).spot = none ∧ (Addr.mk b13 0 none).off + 8 ≤ c.size ∧
   atF (F.set (Addr.mk b13 0 none).block (.cells (wr c (Addr.mk b13 0 none).off v_50_1.toList) e)) fun F =>
   ∃ v3a_ : Addr, v_3 = some v3a_ ∧ ∃ v_54 : Value, F.cell v3a_ = some v_54 ∧
   ∃ v_55 : Array Value, v_55.size = 8 ∧ F.row (Addr.mk b10 0 none) v_55 ∧
   ∃ v_56 : Array Value, v_56.size = 8 ∧ F.row (Addr.mk b12 0 none) v_56 ∧
   ∃ (k57 : Nat) (fst57 cap57 : Array Value), v_54 = Value.func (.func k57) fst57 cap57 ∧ callableB prog k57 = true ∧ Spec prog k57 (fst57 ++ ([(Value.agg v_55), (Value.agg v_56)]).toArray ++ cap57) F fun v F => v = (Value.tuple #[]) ∧
   ((v_42_2 = true →
    ∃ v_59 : Array Value, v_59.size = 8 ∧ F.row (Addr.mk b12 0 none) v_59 ∧
    Spec prog 68 #[(.pointer (some (Addr.mk b9 0 none))), (.agg v_59)] F fun v F => v = Value.tuple #[] ∧
    b69j1 b5 b6 b9 b10 v_42_2 b13 v_50_2 R F) ∧
   (v_42_2 = false →
    b69j1 b5 b6 b9 b10 v_42_2 b13 v_50_2 R F))) ∧
  (¬ (v_29 = 2) →
   ((v_29 = 3 →
    ∃ v2a__1 : Addr, v_2 = some v2a__1 ∧ ∃ v_73 : Value, F.cell v2a__1 = some v_73 ∧
    ∃ v_75 : Int, F.cell (Addr.mk b8 3 none) = some (.int .i64 v_75) ∧
    ∃ (k76 : Nat) (fst76 cap76 : Array Value), v_73 = Value.func (.func k76) fst76 cap76 ∧ callableB prog k76 = true ∧ Spec prog k76 (fst76 ++ ([(Value.int .i64 v_75)]).toArray ++ cap76) F fun v F => ∃ v_76 : Array Value, ∃ v_76_1 : Array Value, ∃ v_76_2 : Bool, v = (Value.tuple #[(Value.agg v_76), (Value.agg v_76_1), (Value.bool v_76_2)]) ∧
    ∀ b15, F b15 = none → atF (F.set b15 (.cells (#[.int .u64 0, .int .u64 0, .int .u64 0, .int .u64 0, .int .u64 0, .int .u64 0, .int .u64 0, .int .u64 0]) 76)) fun F =>
    ∀ b16, F b16 = none → atF (F.set b16 (.cells (#[.int .u64 0, .int .u64 0, .int .u64 0, .int .u64 0, .int .u64 0, .int .u64 0, .int .u64 0, .int .u64 0]) 76)) fun F =>
    v_76.size = 8 ∧ (∀ v ∈ v_76.toList, storable v) ∧ ∃ c e, F (Addr.mk b15 0 none).block = some (.cells c e (0, 0)) ∧ (Addr.mk b15 0 none).spot = none ∧ (Addr.mk b15 0 none).off + 8 ≤ c.size ∧
    atF (F.set (Addr.mk b15 0 none).block (.cells (wr c (Addr.mk b15 0 none).off v_76.toList) e)) fun F =>
    v_76_1.size = 8 ∧ (∀ v ∈ v_76_1.toList, storable v) ∧ ∃ c e, F (Addr.mk b16 0 none).block = some (.cells c e (0, 0)) ∧ (Addr.mk b16 0 none).spot = none ∧ (Addr.mk b16 0 none).off + 8 ≤ c.size ∧
    atF (F.set (Addr.mk b16 0 none).block (.cells (wr c (Addr.mk b16 0 none).off v_76_1.toList) e)) fun F =>
    ∃ v_81 : Value, F.cell v2a__1 = some v_81 ∧
    ∃ v_83 : Int, F.cell (Addr.mk b8 4 none) = some (.int .i64 v_83) ∧
    ∃ (k84 : Nat) (fst84 cap84 : Array Value), v_81 = Value.func (.func k84) fst84 cap84 ∧ callableB prog k84 = true ∧ Spec prog k84 (fst84 ++ ([(Value.int .i64 v_83)]).toArray ++ cap84) F fun v F => ∃ v_84 : Array Value, ∃ v_84_1 : Array Value, ∃ v_84_2 : Bool, v = (Value.tuple #[(Value.agg v_84), (Value.agg v_84_1), (Value.bool v_84_2)]) ∧
    ∀ b18, F b18 = none → atF (F.set b18 (.cells (#[.int .u64 0, .int .u64 0, .int .u64 0, .int .u64 0, .int .u64 0, .int .u64 0, .int .u64 0, .int .u64 0]) 76)) fun F =>
    ∀ b19, F b19 = none → atF (F.set b19 (.cells (#[.int .u64 0, .int .u64 0, .int .u64 0, .int .u64 0, .int .u64 0, .int .u64 0, .int .u64 0, .int .u64 0]) 76)) fun F =>
    v_84.size = 8 ∧ (∀ v ∈ v_84.toList, storable v) ∧ ∃ c e, F (Addr.mk b18 0 none).block = some (.cells c e (0, 0)) ∧ (Addr.mk b18 0 none).spot = none ∧ (Addr.mk b18 0 none).off + 8 ≤ c.size ∧
    atF (F.set (Addr.mk b18 0 none).block (.cells (wr c (Addr.mk b18 0 none).off v_84.toList) e)) fun F =>
    v_84_1.size = 8 ∧ (∀ v ∈ v_84_1.toList, storable v) ∧ ∃ c e, F (Addr.mk b19 0 none).block = some (.cells c e (0, 0)) ∧ (Addr.mk b19 0 none).spot = none ∧ (Addr.mk b19 0 none).off + 8 ≤ c.size ∧
    atF (F.set (Addr.mk b19 0 none).block (.cells (wr c (Addr.mk b19 0 none).off v_84_1.toList) e)) fun F =>
    ∃ v_88 : Array Value, v_88.size = 8 ∧ F.row (Addr.mk b18 0 none) v_88 ∧
    Spec prog 68 #[(.pointer (some (Addr.mk b15 0 none))), (.agg v_88)] F fun v F => v = Value.tuple #[] ∧
    ∃ v_90 : Array Value, v_90.size = 8 ∧ F.row (Addr.mk b19 0 none) v_90 ∧
    Spec prog 68 #[(.pointer (some (Addr.mk b16 0 none))), (.agg v_90)] F fun v F => v = Value.tuple #[] ∧
    ∃ v_92 : Array Value, v_92.size = 8 ∧ F.row (Addr.mk b15 0 none) v_92 ∧
    ∃ v_93 : Array Value, v_93.size = 8 ∧ F.row (Addr.mk b16 0 none) v_93 ∧
    ((v_76_2 = true →
     v_92.size = 8 ∧ (∀ v ∈ v_92.toList, storable v) ∧ ∃ c e, F (Addr.mk b5 0 none).block = some (.cells c e (0, 0)) ∧ (Addr.mk b5 0 none).spot = none ∧ (Addr.mk b5 0 none).off + 8 ≤ c.size ∧
     atF (F.set (Addr.mk b5 0 none).block (.cells (wr c (Addr.mk b5 0 none).off v_92.toList) e)) fun F =>
     v_93.size = 8 ∧ (∀ v ∈ v_93.toList, storable v) ∧ ∃ c e, F (Addr.mk b6 0 none).block = some (.cells c e (0, 0)) ∧ (Addr.mk b6 0 none).spot = none ∧ (Addr.mk b6 0 none).off + 8 ≤ c.size ∧
     atF (F.set (Addr.mk b6 0 none).block (.cells (wr c (Addr.mk b6 0 none).off v_93.toList) e)) fun F =>
     ∃ vres_5_3 : Array Value, vres_5_3.size = 8 ∧ F.row (Addr.mk b5 0 none) vres_5_3 ∧ ∃ vres_6_3 : Array Value, vres_6_3.size = 8 ∧ F.row (Addr.mk b6 0 none) vres_6_3 ∧ R (.tuple #[(.agg vres_5_3), (.agg vres_6_3), (.bool true)]) F) ∧
    (v_76_2 = false →
     v_92.size = 8 ∧ (∀ v ∈ v_92.toList, storable v) ∧ ∃ c e, F (Addr.mk b5 0 none).block = some (.cells c e (0, 0)) ∧ (Addr.mk b5 0 none).spot = none ∧ (Addr.mk b5 0 none).off + 8 ≤ c.size ∧
     atF (F.set (Addr.mk b5 0 none).block (.cells (wr c (Addr.mk b5 0 none).off v_92.toList) e)) fun F =>
     v_93.size = 8 ∧ (∀ v ∈ v_93.toList, storable v) ∧ ∃ c e, F (Addr.mk b6 0 none).block = some (.cells c e (0, 0)) ∧ (Addr.mk b6 0 none).spot = none ∧ (Addr.mk b6 0 none).off + 8 ≤ c.size ∧
     atF (F.set (Addr.mk b6 0 none).block (.cells (wr c (Addr.mk b6 0 none).off v_93.toList) e)) fun F =>
     ∃ vres_5_4 : Array Value, vres_5_4.size = 8 ∧ F.row (Addr.mk b5 0 none) vres_5_4 ∧ ∃ vres_6_4 : Array Value, vres_6_4.size = 8 ∧ F.row (Addr.mk b6 0 none) vres_6_4 ∧ R (.tuple #[(.agg vres_5_4), (.agg vres_6_4), (.bool v_84_2)]) F))) ∧
   (¬ (v_29 = 3) →
    ((v_29 = 4 →
     ∃ v2a__2 : Addr, v_2 = some v2a__2 ∧ ∃ v_101 : Value, F.cell v2a__2 = some v_101 ∧
     ∃ v_103 : Int, F.cell (Addr.mk b8 3 none) = some (.int .i64 v_103) ∧
     ∃ (k104 : Nat) (fst104 cap104 : Array Value), v_101 = Value.func (.func k104) fst104 cap104 ∧ callableB prog k104 = true ∧ Spec prog k104 (fst104 ++ ([(Value.int .i64 v_103)]).toArray ++ cap104) F fun v F => ∃ v_104 : Array Value, ∃ v_104_1 : Array Value, ∃ v_104_2 : Bool, v = (Value.tuple #[(Value.agg v_104), (Value.agg v_104_1), (Value.bool v_104_2)]) ∧
     ∀ b21, F b21 = none → atF (F.set b21 (.cells (#[.int .u64 0, .int .u64 0, .int .u64 0, .int .u64 0, .int .u64 0, .int .u64 0, .int .u64 0, .int .u64 0]) 76)) fun F =>
     ∀ b22, F b22 = none → atF (F.set b22 (.cells (#[.int .u64 0, .int .u64 0, .int .u64 0, .int .u64 0, .int .u64 0, .int .u64 0, .int .u64 0, .int .u64 0]) 76)) fun F =>
     v_104.size = 8 ∧ (∀ v ∈ v_104.toList, storable v) ∧ ∃ c e, F (Addr.mk b21 0 none).block = some (.cells c e (0, 0)) ∧ (Addr.mk b21 0 none).spot = none ∧ (Addr.mk b21 0 none).off + 8 ≤ c.size ∧
     atF (F.set (Addr.mk b21 0 none).block (.cells (wr c (Addr.mk b21 0 none).off v_104.toList) e)) fun F =>
     v_104_1.size = 8 ∧ (∀ v ∈ v_104_1.toList, storable v) ∧ ∃ c e, F (Addr.mk b22 0 none).block = some (.cells c e (0, 0)) ∧ (Addr.mk b22 0 none).spot = none ∧ (Addr.mk b22 0 none).off + 8 ≤ c.size ∧
     atF (F.set (Addr.mk b22 0 none).block (.cells (wr c (Addr.mk b22 0 none).off v_104_1.toList) e)) fun F =>
     ∃ v3a__1 : Addr, v_3 = some v3a__1 ∧ ∃ v_108 : Value, F.cell v3a__1 = some v_108 ∧
     ∃ v_109 : Array Value, v_109.size = 8 ∧ F.row (Addr.mk b22 0 none) v_109 ∧
     ∃ v_110 : Array Value, v_110.size = 8 ∧ F.row (Addr.mk b21 0 none) v_110 ∧
     ∃ (k111 : Nat) (fst111 cap111 : Array Value), v_108 = Value.func (.func k111) fst111 cap111 ∧ callableB prog k111 = true ∧ Spec prog k111 (fst111 ++ ([(Value.agg v_109), (Value.agg v_110)]).toArray ++ cap111) F fun v F => v = (Value.tuple #[]) ∧
     ∃ v_112 : Array Value, v_112.size = 8 ∧ F.row (Addr.mk b21 0 none) v_112 ∧
     ∃ v_113 : Array Value, v_113.size = 8 ∧ F.row (Addr.mk b22 0 none) v_113 ∧
     v_112.size = 8 ∧ (∀ v ∈ v_112.toList, storable v) ∧ ∃ c e, F (Addr.mk b5 0 none).block = some (.cells c e (0, 0)) ∧ (Addr.mk b5 0 none).spot = none ∧ (Addr.mk b5 0 none).off + 8 ≤ c.size ∧
     atF (F.set (Addr.mk b5 0 none).block (.cells (wr c (Addr.mk b5 0 none).off v_112.toList) e)) fun F =>
     F.row (Addr.mk b22 0 none) v_113 ∧ v_113.size = 8 ∧ (∀ v ∈ v_113.toList, storable v) ∧ ∃ c e, F (Addr.mk b6 0 none).block = some (.cells c e (0, 0)) ∧ (Addr.mk b6 0 none).spot = none ∧ (Addr.mk b6 0 none).off + 8 ≤ c.size ∧
     atF (F.set (Addr.mk b6 0 none).block (.cells (wr c (Addr.mk b6 0 none).off v_113.toList) e)) fun F =>
     ∃ vres_5_5 : Array Value, vres_5_5.size = 8 ∧ F.row (Addr.mk b5 0 none) vres_5_5 ∧ ∃ vres_6_5 : Array Value, vres_6_5.size = 8 ∧ F.row (Addr.mk b6 0 none) vres_6_5 ∧ R (.tuple #[(.agg vres_5_5), (.agg vres_6_5), (.bool true)]) F) ∧
    (¬ (v_29 = 4) →
     ∃ v_114 : Array Value, v_114.size = 8 ∧ F.row (Addr.mk b5 0 none) v_114 ∧
     ∃ v_115 : Array Value, v_115.size = 8 ∧ F.row (Addr.mk b6 0 none) v_115 ∧
     v_114.size = 8 ∧ (∀ v ∈ v_114.toList, storable v) ∧ ∃ c e, F (Addr.mk b5 0 none).block = some (.cells c e (0, 0)) ∧ (Addr.mk b5 0 none).spot = none ∧ (Addr.mk b5 0 none).off + 8 ≤ c.size ∧
     atF (F.set (Addr.mk b5 0 none).block (.cells (wr c (Addr.mk b5 0 none).off v_114.toList) e)) fun F =>
     F.row (Addr.mk b6 0 none) v_115 ∧ v_115.size = 8 ∧ (∀ v ∈ v_115.toList, storable v) ∧ ∃ c e, F (Addr.mk b6 0 none).block = some (.cells c e (0, 0)) ∧ (Addr.mk b6 0 none).spot = none ∧ (Addr.mk b6 0 none).off + 8 ≤ c.size ∧
     atF (F.set (Addr.mk b6 0 none).block (.cells (wr c (Addr.mk b6 0 none).off v_115.toList) e)) fun F =>
     ∃ vres_5_6 : Array Value, vres_5_6.size = 8 ∧ F.row (Addr.mk b5 0 none) vres_5_6 ∧ ∃ vres_6_6 : Array Value, vres_6_6.size = 8 ∧ F.row (Addr.mk b6 0 none) vres_6_6 ∧ R (.tuple #[(.agg vres_5_6), (.agg vres_6_6), (.bool true)]) F))))))))
theorem c69 {i_0 : Int} {v_1 : Option Addr} {v_2 : Option Addr} {v_3 : Option Addr} {R : VP} {F : PH} (h : b69 i_0 v_1 v_2 v_3 R F) : Spec prog 69 #[(.int .i64 i_0), (.pointer v_1), (.pointer v_2), (.pointer v_3)] F R := by
 refine spec_of (args := [(.int .i64 i_0), (.pointer v_1), (.pointer v_2), (.pointer v_3)]) func69 rfl ntmps69 rfl ?_
 unfold b69 at h
 refine cR ?_
 refine s_ef (k_alloc zr76 ?_)
 intro b5 hf_b5
 replace h := atE (h b5 hf_b5)
 refine s_ef (k_alloc zr76 ?_)
 intro b6 hf_b6
 replace h := atE (h b6 hf_b6)
 refine sR (.bool false) (r_assign rfl rfl) ?_
 refine HL_nil ?_
 refine cR ?_
 obtain ⟨v1a_, rfl, h⟩ := h
 obtain ⟨v_24, hc24, h⟩ := h
 refine sR (Sl.v v_24) (r_load1 rfl rfl underlying25 rfl hc24) ?_
 refine sR (.int .i64 i_0) (r_move rfl rfl) ?_
 obtain ⟨a26_, hb26, hl26, hu26, h⟩ := h
 refine sR (.pointer (some (Addr.add a26_ (Int.toNat i_0 * 5)))) (w_indexAddr rfl rfl underlying25 sz50 hb26 hl26 hu26) ?_
 obtain ⟨v_27, hs27, hc27, h⟩ := h
 refine sR (.agg v_27) (w_loadN rfl underlying50 rfl sz50 hs27 hc27) ?_
 refine s_ef (k_alloc zr50 ?_)
 intro b8 hf_b8
 replace h := atE (h b8 hf_b8)
 refine s_ef0 (k_storeN (vs := v_27) rfl rfl sz50 (by decide) ?_)
 obtain ⟨hz1, hz2, c, e, hz3, hz4, hz5, h⟩ := h
 refine ⟨hz1, hz2, c, e, hz3, hz4, hz5, ?_⟩
 replace h := atE h
 refine HL_nil ?_
 refine HC_seq ?_
 refine cR (sR (.pointer (some (Addr.mk b8 0 none))) (w_fieldAddr rfl underlying50 rfl rfl sz3 rfl rfl) ?_)
 obtain ⟨v_29, hc29, h⟩ := h
 refine sR (.int .i64 v_29) (r_load1 rfl rfl underlying3 rfl hc29) ?_
 refine HL_nil ?_
 refine HC_block ?_
 refine cR (sR (.bool (decide (v_29 = 1))) (w_eql rfl rfl) ?_)
 refine sR (.bool (decide (v_29 = 1))) (r_assign rfl rfl) ?_
 refine HL_nil ?_
 refine HC_cond (t := (decide (v_29 = 1))) rfl (fun hc => ?_) (fun hc => ?_)
 replace h := h.1 (of_decide_eq_true hc)
 clear hc
 refine cR (sR (.int .i64 i_0) (r_move rfl rfl) ?_)
 refine s_ef (k_call (vs := [(.pointer (some (Addr.mk b5 0 none))), (.int .i64 i_0)]) cb70 (evC rfl (evC rfl evN)) (h.mono ?_))
 clear h; rintro v F ⟨rfl, h⟩
 refine HL_nil ?_
 refine cR ?_
 obtain ⟨v_34, hs34, hc34, h⟩ := h
 refine sR (.agg v_34) (w_loadN rfl underlying76 rfl sz76 hs34 hc34) ?_
 obtain ⟨v_35, hs35, hc35, h⟩ := h
 refine sR (.agg v_35) (w_loadN rfl underlying76 rfl sz76 hs35 hc35) ?_
 refine s_ef0 (k_storeN (vs := v_34) rfl rfl sz76 (by decide) ?_)
 obtain ⟨hz1, hz2, c, e, hz3, hz4, hz5, h⟩ := h
 refine ⟨hz1, hz2, c, e, hz3, hz4, hz5, ?_⟩
 replace h := atE h
 refine s_ef0 (k_storeN (vs := v_35) rfl rfl sz76 (by decide) ?_)
 obtain ⟨hz1, hz2, c, e, hz3, hz4, hz5, h⟩ := h
 refine ⟨hz1, hz2, c, e, hz3, hz4, hz5, ?_⟩
 replace h := atE h
 refine sR (.bool false) (r_assign rfl rfl) ?_
 refine HL_nil ?_
 obtain ⟨vres_5, hs5, hr5, h⟩ := h
 obtain ⟨vres_6, hs6, hr6, h⟩ := h
 exact HC_ret (show endQ prog f69 R .ret _ _ from ⟨_, res3 rfl (rv_cellN rfl underlying76 rfl sz76 hs5 hr5) (rv_cellN rfl underlying76 rfl sz76 hs6 hr6) (rv_tmp rfl), h⟩)
 replace h := h.2 (of_decide_eq_false hc)
 clear hc
 refine cR (sR (.bool (decide (v_29 = 2))) (w_eql rfl rfl) ?_)
 refine sR (.bool (decide (v_29 = 2))) (r_assign rfl rfl) ?_
 refine HL_nil ?_
 refine HC_cond (t := (decide (v_29 = 2))) rfl (fun hc => ?_) (fun hc => ?_)
 replace h := h.1 (of_decide_eq_true hc)
 clear hc
 refine cR ?_
 obtain ⟨v2a_, rfl, h⟩ := h
 obtain ⟨v_39, hc39, h⟩ := h
 refine sR v_39 (r_load1 rfl rfl underlying104 rfl hc39) ?_
 refine sR (.pointer (some (Addr.mk b8 3 none))) (w_fieldAddr rfl underlying50 rfl rfl sz3 rfl rfl) ?_
 obtain ⟨v_41, hc41, h⟩ := h
 refine sR (.int .i64 v_41) (r_load1 rfl rfl underlying3 rfl hc41) ?_
 obtain ⟨_, _, _, hk1, hk2, h⟩ := h
 refine s_ef (k_callF (vs := [(.int .i64 v_41)]) hk2 ((rfl : _ = v_39).trans hk1) (evC rfl evN) (h.mono ?_))
 clear h; rintro v F ⟨v_42, v_42_1, v_42_2, rfl, h⟩
 refine sR (.tuple #[(.agg v_42), (.agg v_42_1), (.bool v_42_2)]) (r_move rfl rfl) ?_
 refine sR (.agg v_42) (r_extract rfl rfl rfl) ?_
 refine sR (.agg v_42_1) (r_extract rfl rfl rfl) ?_
 refine sR (.bool v_42_2) (r_extract rfl rfl rfl) ?_
 refine s_ef (k_alloc zr76 ?_)
 intro b9 hf_b9
 replace h := atE (h b9 hf_b9)
 refine s_ef (k_alloc zr76 ?_)
 intro b10 hf_b10
 replace h := atE (h b10 hf_b10)
 refine s_ef0 (k_storeN (vs := v_42) rfl rfl sz76 (by decide) ?_)
 obtain ⟨hz1, hz2, c, e, hz3, hz4, hz5, h⟩ := h
 refine ⟨hz1, hz2, c, e, hz3, hz4, hz5, ?_⟩
 replace h := atE h
 refine s_ef0 (k_storeN (vs := v_42_1) rfl rfl sz76 (by decide) ?_)
 obtain ⟨hz1, hz2, c, e, hz3, hz4, hz5, h⟩ := h
 refine ⟨hz1, hz2, c, e, hz3, hz4, hz5, ?_⟩
 replace h := atE h
 refine sR (.bool v_42_2) (r_assign rfl rfl) ?_
 refine HL_nil ?_
 refine cR ?_
 obtain ⟨v_47, hc47, h⟩ := h
 refine sR v_47 (r_load1 rfl rfl underlying104 rfl hc47) ?_
 refine sR (.pointer (some (Addr.mk b8 4 none))) (w_fieldAddr rfl underlying50 rfl rfl sz3 rfl rfl) ?_
 obtain ⟨v_49, hc49, h⟩ := h
 refine sR (.int .i64 v_49) (r_load1 rfl rfl underlying3 rfl hc49) ?_
 obtain ⟨_, _, _, hk1, hk2, h⟩ := h
 refine s_ef (k_callF (vs := [(.int .i64 v_49)]) hk2 ((rfl : _ = v_47).trans hk1) (evC rfl evN) (h.mono ?_))
 clear h; rintro v F ⟨v_50, v_50_1, v_50_2, rfl, h⟩
 refine sR (.tuple #[(.agg v_50), (.agg v_50_1), (.bool v_50_2)]) (r_move rfl rfl) ?_
 refine sR (.agg v_50) (r_extract rfl rfl rfl) ?_
 refine sR (.agg v_50_1) (r_extract rfl rfl rfl) ?_
 refine sR (.bool v_50_2) (r_extract rfl rfl rfl) ?_
 refine s_ef (k_alloc zr76 ?_)
 intro b12 hf_b12
 replace h := atE (h b12 hf_b12)
 refine s_ef (k_alloc zr76 ?_)
 intro b13 hf_b13
 replace h := atE (h b13 hf_b13)
 refine s_ef0 (k_storeN (vs := v_50) rfl rfl sz76 (by decide) ?_)
 obtain ⟨hz1, hz2, c, e, hz3, hz4, hz5, h⟩ := h
 refine ⟨hz1, hz2, c, e, hz3, hz4, hz5, ?_⟩
 replace h := atE h
 refine s_ef0 (k_storeN (vs := v_50_1) rfl rfl sz76 (by decide) ?_)
 obtain ⟨hz1, hz2, c, e, hz3, hz4, hz5, h⟩ := h
 refine ⟨hz1, hz2, c, e, hz3, hz4, hz5, ?_⟩
 replace h := atE h
 refine sR (.bool v_50_2) (r_assign rfl rfl) ?_
 refine HL_nil ?_
 refine cR ?_
 obtain ⟨v3a_, rfl, h⟩ := h
 obtain ⟨v_54, hc54, h⟩ := h
 refine sR v_54 (r_load1 rfl rfl underlying108 rfl hc54) ?_
 obtain ⟨v_55, hs55, hc55, h⟩ := h
 refine sR (.agg v_55) (w_loadN rfl underlying76 rfl sz76 hs55 hc55) ?_
 obtain ⟨v_56, hs56, hc56, h⟩ := h
 refine sR (.agg v_56) (w_loadN rfl underlying76 rfl sz76 hs56 hc56) ?_
 obtain ⟨_, _, _, hk1, hk2, h⟩ := h
 refine s_ef (k_callF (vs := [(.agg v_55), (.agg v_56)]) hk2 ((rfl : _ = v_54).trans hk1) (evC rfl (evC rfl evN)) (h.mono ?_))
 clear h; rintro v F ⟨rfl, h⟩
 refine HL_nil ?_
 refine HC_seqJ (b69J1 b5 b6 b9 b10 v_42_2 b13 v_50_2 R) ?_ ?_
 clear h; rintro E F ⟨h5, h6, h9, h10, h11, h13, h14, h⟩
 unfold b69j1 at h
 refine HC_seqJ (b69J2 b5 b6 b9 v_42_2 b13 v_50_2 R) ?_ ?_
 clear h; rintro E F ⟨h5, h6, h9, h11, h13, h14, h⟩
 unfold b69j2 at h
 refine cR ?_
 obtain ⟨v_64, hs64, hc64, h⟩ := h
 refine sR (.agg v_64) (w_loadN h9 underlying76 rfl sz76 hs64 hc64) ?_
 obtain ⟨v_65, hs65, hc65, h⟩ := h
 refine sR (.agg v_65) (w_loadN h13 underlying76 rfl sz76 hs65 hc65) ?_
 refine sR _ (r_move rfl h11) ?_
 refine sR (.bool v_42_2) (r_move rfl rfl) ?_
 by_cases hc : v_42_2 = true
 replace h := h.1 hc
 refine HL_known (t := 11) (v := .bool true) (h11.trans (congrArg Value.bool hc)) ?_
 refine kN 66 hc ?_
 refine kN 67 hc ?_
 refine sR _ (r_move rfl h14) ?_
 refine sR (.bool v_50_2) (r_pt rfl rfl) ?_
 refine s_ef0 (k_storeN (vs := v_64) h5 rfl sz76 (by decide) ?_)
 obtain ⟨hz1, hz2, c, e, hz3, hz4, hz5, h⟩ := h
 refine ⟨hz1, hz2, c, e, hz3, hz4, hz5, ?_⟩
 replace h := atE h
 refine s_ef0 (k_storeN (vs := v_65) h6 rfl sz76 (by decide) ?_)
 obtain ⟨hz1, hz2, c, e, hz3, hz4, hz5, h⟩ := h
 refine ⟨hz1, hz2, c, e, hz3, hz4, hz5, ?_⟩
 replace h := atE h
 refine sR (.bool v_50_2) (r_assign rfl rfl) ?_
 refine HL_nil ?_
 obtain ⟨vres_5_1, hs5, hr5, h⟩ := h
 obtain ⟨vres_6_1, hs6, hr6, h⟩ := h
 exact HC_ret (show endQ prog f69 R .ret _ _ from ⟨_, res3 rfl (rv_cellN h5 underlying76 rfl sz76 hs5 hr5) (rv_cellN h6 underlying76 rfl sz76 hs6 hr6) (rv_tmp rfl), h⟩)
 replace hc := eq_false_of_ne_true hc; replace h := h.2 hc
 refine HL_known (t := 11) (v := .bool false) (h11.trans (congrArg Value.bool hc)) ?_
 refine kN 66 hc ?_
 refine kN 67 hc ?_
 refine s_skip ?_
 refine sR (.bool false) (r_pf rfl rfl) ?_
 refine s_ef0 (k_storeN (vs := v_64) h5 rfl sz76 (by decide) ?_)
 obtain ⟨hz1, hz2, c, e, hz3, hz4, hz5, h⟩ := h
 refine ⟨hz1, hz2, c, e, hz3, hz4, hz5, ?_⟩
 replace h := atE h
 refine s_ef0 (k_storeN (vs := v_65) h6 rfl sz76 (by decide) ?_)
 obtain ⟨hz1, hz2, c, e, hz3, hz4, hz5, h⟩ := h
 refine ⟨hz1, hz2, c, e, hz3, hz4, hz5, ?_⟩
 replace h := atE h
 refine sR (.bool false) (r_assign rfl rfl) ?_
 refine HL_nil ?_
 obtain ⟨vres_5_2, hs5, hr5, h⟩ := h
 obtain ⟨vres_6_2, hs6, hr6, h⟩ := h
 exact HC_ret (show endQ prog f69 R .ret _ _ from ⟨_, res3 rfl (rv_cellN h5 underlying76 rfl sz76 hs5 hr5) (rv_cellN h6 underlying76 rfl sz76 hs6 hr6) (rv_tmp rfl), h⟩)
 refine cR (sR _ (r_move rfl h14) ?_)
 refine HL_nil ?_
 refine HC_cond (t := v_50_2) rfl (fun hc => ?_) (fun hc => ?_)
 replace h := h.1 hc
 clear hc
 refine HC_region ?_
 obtain ⟨v_62, hs62, hc62, h⟩ := h
 refine sR (.agg v_62) (w_loadN h10 underlying76 rfl sz76 hs62 hc62) ?_
 refine s_ef (k_call (vs := [(.pointer (some (Addr.mk b13 0 none))), (.agg v_62)]) cb68 (evC h13 (evC rfl evN)) (h.mono ?_))
 clear h; rintro v F ⟨rfl, h⟩
 refine HL_nil ?_
 show b69J2 b5 b6 b9 v_42_2 b13 v_50_2 R _ _
 exact ⟨h5, h6, h9, h11, h13, h14, h⟩
 replace h := h.2 hc
 clear hc
 refine HC_skip ?_
 show b69J2 b5 b6 b9 v_42_2 b13 v_50_2 R _ _
 exact ⟨h5, h6, h9, h11, h13, h14, h⟩
 refine cR (sR (.bool v_42_2) (r_move rfl rfl) ?_)
 refine HL_nil ?_
 refine HC_cond (t := v_42_2) rfl (fun hc => ?_) (fun hc => ?_)
 replace h := h.1 hc
 clear hc
 refine HC_region ?_
 obtain ⟨v_59, hs59, hc59, h⟩ := h
 refine sR (.agg v_59) (w_loadN rfl underlying76 rfl sz76 hs59 hc59) ?_
 refine s_ef (k_call (vs := [(.pointer (some (Addr.mk b9 0 none))), (.agg v_59)]) cb68 (evC rfl (evC rfl evN)) (h.mono ?_))
 clear h; rintro v F ⟨rfl, h⟩
 refine HL_nil ?_
 show b69J1 b5 b6 b9 b10 v_42_2 b13 v_50_2 R _ _
 exact ⟨rfl, rfl, rfl, rfl, rfl, rfl, rfl, h⟩
 replace h := h.2 hc
 clear hc
 refine HC_skip ?_
 show b69J1 b5 b6 b9 b10 v_42_2 b13 v_50_2 R _ _
 exact ⟨rfl, rfl, rfl, rfl, rfl, rfl, rfl, h⟩
 replace h := h.2 (of_decide_eq_false hc)
 clear hc
 refine cR (sR (.bool (decide (v_29 = 3))) (w_eql rfl rfl) ?_)
 refine sR (.bool (decide (v_29 = 3))) (r_assign rfl rfl) ?_
 refine HL_nil ?_
 refine HC_cond (t := (decide (v_29 = 3))) rfl (fun hc => ?_) (fun hc => ?_)
 replace h := h.1 (of_decide_eq_true hc)
 clear hc
 refine cR ?_
 obtain ⟨v2a__1, rfl, h⟩ := h
 obtain ⟨v_73, hc73, h⟩ := h
 refine sR v_73 (r_load1 rfl rfl underlying104 rfl hc73) ?_
 refine sR (.pointer (some (Addr.mk b8 3 none))) (w_fieldAddr rfl underlying50 rfl rfl sz3 rfl rfl) ?_
 obtain ⟨v_75, hc75, h⟩ := h
 refine sR (.int .i64 v_75) (r_load1 rfl rfl underlying3 rfl hc75) ?_
 obtain ⟨_, _, _, hk1, hk2, h⟩ := h
 refine s_ef (k_callF (vs := [(.int .i64 v_75)]) hk2 ((rfl : _ = v_73).trans hk1) (evC rfl evN) (h.mono ?_))
 clear h; rintro v F ⟨v_76, v_76_1, v_76_2, rfl, h⟩
 refine sR (.tuple #[(.agg v_76), (.agg v_76_1), (.bool v_76_2)]) (r_move rfl rfl) ?_
 refine sR (.agg v_76) (r_extract rfl rfl rfl) ?_
 refine sR (.agg v_76_1) (r_extract rfl rfl rfl) ?_
 refine sR (.bool v_76_2) (r_extract rfl rfl rfl) ?_
 refine s_ef (k_alloc zr76 ?_)
 intro b15 hf_b15
 replace h := atE (h b15 hf_b15)
 refine s_ef (k_alloc zr76 ?_)
 intro b16 hf_b16
 replace h := atE (h b16 hf_b16)
 refine s_ef0 (k_storeN (vs := v_76) rfl rfl sz76 (by decide) ?_)
 obtain ⟨hz1, hz2, c, e, hz3, hz4, hz5, h⟩ := h
 refine ⟨hz1, hz2, c, e, hz3, hz4, hz5, ?_⟩
 replace h := atE h
 refine s_ef0 (k_storeN (vs := v_76_1) rfl rfl sz76 (by decide) ?_)
 obtain ⟨hz1, hz2, c, e, hz3, hz4, hz5, h⟩ := h
 refine ⟨hz1, hz2, c, e, hz3, hz4, hz5, ?_⟩
 replace h := atE h
 refine sR (.bool v_76_2) (r_assign rfl rfl) ?_
 refine HL_nil ?_
 refine cR ?_
 obtain ⟨v_81, hc81, h⟩ := h
 refine sR v_81 (r_load1 rfl rfl underlying104 rfl hc81) ?_
 refine sR (.pointer (some (Addr.mk b8 4 none))) (w_fieldAddr rfl underlying50 rfl rfl sz3 rfl rfl) ?_
 obtain ⟨v_83, hc83, h⟩ := h
 refine sR (.int .i64 v_83) (r_load1 rfl rfl underlying3 rfl hc83) ?_
 obtain ⟨_, _, _, hk1, hk2, h⟩ := h
 refine s_ef (k_callF (vs := [(.int .i64 v_83)]) hk2 ((rfl : _ = v_81).trans hk1) (evC rfl evN) (h.mono ?_))
 clear h; rintro v F ⟨v_84, v_84_1, v_84_2, rfl, h⟩
 refine sR (.tuple #[(.agg v_84), (.agg v_84_1), (.bool v_84_2)]) (r_move rfl rfl) ?_
 refine sR (.agg v_84) (r_extract rfl rfl rfl) ?_
 refine sR (.agg v_84_1) (r_extract rfl rfl rfl) ?_
 refine sR (.bool v_84_2) (r_extract rfl rfl rfl) ?_
 refine s_ef (k_alloc zr76 ?_)
 intro b18 hf_b18
 replace h := atE (h b18 hf_b18)
 refine s_ef (k_alloc zr76 ?_)
 intro b19 hf_b19
 replace h := atE (h b19 hf_b19)
 refine s_ef0 (k_storeN (vs := v_84) rfl rfl sz76 (by decide) ?_)
 obtain ⟨hz1, hz2, c, e, hz3, hz4, hz5, h⟩ := h
 refine ⟨hz1, hz2, c, e, hz3, hz4, hz5, ?_⟩
 replace h := atE h
 refine s_ef0 (k_storeN (vs := v_84_1) rfl rfl sz76 (by decide) ?_)
 obtain ⟨hz1, hz2, c, e, hz3, hz4, hz5, h⟩ := h
 refine ⟨hz1, hz2, c, e, hz3, hz4, hz5, ?_⟩
 replace h := atE h
 refine sR (.bool v_84_2) (r_assign rfl rfl) ?_
 refine HL_nil ?_
 refine cR ?_
 obtain ⟨v_88, hs88, hc88, h⟩ := h
 refine sR (.agg v_88) (w_loadN rfl underlying76 rfl sz76 hs88 hc88) ?_
 refine s_ef (k_call (vs := [(.pointer (some (Addr.mk b15 0 none))), (.agg v_88)]) cb68 (evC rfl (evC rfl evN)) (h.mono ?_))
 clear h; rintro v F ⟨rfl, h⟩
 refine HL_nil ?_
 refine cR ?_
 obtain ⟨v_90, hs90, hc90, h⟩ := h
 refine sR (.agg v_90) (w_loadN rfl underlying76 rfl sz76 hs90 hc90) ?_
 refine s_ef (k_call (vs := [(.pointer (some (Addr.mk b16 0 none))), (.agg v_90)]) cb68 (evC rfl (evC rfl evN)) (h.mono ?_))
 clear h; rintro v F ⟨rfl, h⟩
 refine HL_nil ?_
 refine cR ?_
 obtain ⟨v_92, hs92, hc92, h⟩ := h
 refine sR (.agg v_92) (w_loadN rfl underlying76 rfl sz76 hs92 hc92) ?_
 obtain ⟨v_93, hs93, hc93, h⟩ := h
 refine sR (.agg v_93) (w_loadN rfl underlying76 rfl sz76 hs93 hc93) ?_
 refine sR (.bool v_76_2) (r_move rfl rfl) ?_
 refine sR (.bool v_76_2) (r_move rfl rfl) ?_
 by_cases hc : v_76_2 = true
 replace h := h.1 hc
 refine kN 79 hc ?_
 refine kN 17 hc ?_
 refine kN 94 hc ?_
 refine kN 95 hc ?_
 refine s_skip ?_
 refine sR (.bool true) (r_pt rfl rfl) ?_
 refine s_ef0 (k_storeN (vs := v_92) rfl rfl sz76 (by decide) ?_)
 obtain ⟨hz1, hz2, c, e, hz3, hz4, hz5, h⟩ := h
 refine ⟨hz1, hz2, c, e, hz3, hz4, hz5, ?_⟩
 replace h := atE h
 refine s_ef0 (k_storeN (vs := v_93) rfl rfl sz76 (by decide) ?_)
 obtain ⟨hz1, hz2, c, e, hz3, hz4, hz5, h⟩ := h
 refine ⟨hz1, hz2, c, e, hz3, hz4, hz5, ?_⟩
 replace h := atE h
 refine sR (.bool true) (r_assign rfl rfl) ?_
 refine HL_nil ?_
 obtain ⟨vres_5_3, hs5, hr5, h⟩ := h
 obtain ⟨vres_6_3, hs6, hr6, h⟩ := h
 exact HC_ret (show endQ prog f69 R .ret _ _ from ⟨_, res3 rfl (rv_cellN rfl underlying76 rfl sz76 hs5 hr5) (rv_cellN rfl underlying76 rfl sz76 hs6 hr6) (rv_tmp rfl), h⟩)
 replace hc := eq_false_of_ne_true hc; replace h := h.2 hc
 refine kN 79 hc ?_
 refine kN 17 hc ?_
 refine kN 94 hc ?_
 refine kN 95 hc ?_
 refine sR (.bool v_84_2) (r_move rfl rfl) ?_
 refine sR (.bool v_84_2) (r_pf rfl rfl) ?_
 refine s_ef0 (k_storeN (vs := v_92) rfl rfl sz76 (by decide) ?_)
 obtain ⟨hz1, hz2, c, e, hz3, hz4, hz5, h⟩ := h
 refine ⟨hz1, hz2, c, e, hz3, hz4, hz5, ?_⟩
 replace h := atE h
 refine s_ef0 (k_storeN (vs := v_93) rfl rfl sz76 (by decide) ?_)
 obtain ⟨hz1, hz2, c, e, hz3, hz4, hz5, h⟩ := h
 refine ⟨hz1, hz2, c, e, hz3, hz4, hz5, ?_⟩
 replace h := atE h
 refine sR (.bool v_84_2) (r_assign rfl rfl) ?_
 refine HL_nil ?_
 obtain ⟨vres_5_4, hs5, hr5, h⟩ := h
 obtain ⟨vres_6_4, hs6, hr6, h⟩ := h
 exact HC_ret (show endQ prog f69 R .ret _ _ from ⟨_, res3 rfl (rv_cellN rfl underlying76 rfl sz76 hs5 hr5) (rv_cellN rfl underlying76 rfl sz76 hs6 hr6) (rv_tmp rfl), h⟩)
 replace h := h.2 (of_decide_eq_false hc)
 clear hc
 refine cR (sR (.bool (decide (v_29 = 4))) (w_eql rfl rfl) ?_)
 refine sR (.bool (decide (v_29 = 4))) (r_assign rfl rfl) ?_
 refine HL_nil ?_
 refine HC_cond (t := (decide (v_29 = 4))) rfl (fun hc => ?_) (fun hc => ?_)
 replace h := h.1 (of_decide_eq_true hc)
 clear hc
 refine cR ?_
 obtain ⟨v2a__2, rfl, h⟩ := h
 obtain ⟨v_101, hc101, h⟩ := h
 refine sR v_101 (r_load1 rfl rfl underlying104 rfl hc101) ?_
 refine sR (.pointer (some (Addr.mk b8 3 none))) (w_fieldAddr rfl underlying50 rfl rfl sz3 rfl rfl) ?_
 obtain ⟨v_103, hc103, h⟩ := h
 refine sR (.int .i64 v_103) (r_load1 rfl rfl underlying3 rfl hc103) ?_
 obtain ⟨_, _, _, hk1, hk2, h⟩ := h
 refine s_ef (k_callF (vs := [(.int .i64 v_103)]) hk2 ((rfl : _ = v_101).trans hk1) (evC rfl evN) (h.mono ?_))
 clear h; rintro v F ⟨v_104, v_104_1, v_104_2, rfl, h⟩
 refine sR (.tuple #[(.agg v_104), (.agg v_104_1), (.bool v_104_2)]) (r_move rfl rfl) ?_
 refine sR (.agg v_104) (r_extract rfl rfl rfl) ?_
 refine sR (.agg v_104_1) (r_extract rfl rfl rfl) ?_
 refine sR (.bool v_104_2) (r_extract rfl rfl rfl) ?_
 refine s_ef (k_alloc zr76 ?_)
 intro b21 hf_b21
 replace h := atE (h b21 hf_b21)
 refine s_ef (k_alloc zr76 ?_)
 intro b22 hf_b22
 replace h := atE (h b22 hf_b22)
 refine s_ef0 (k_storeN (vs := v_104) rfl rfl sz76 (by decide) ?_)
 obtain ⟨hz1, hz2, c, e, hz3, hz4, hz5, h⟩ := h
 refine ⟨hz1, hz2, c, e, hz3, hz4, hz5, ?_⟩
 replace h := atE h
 refine s_ef0 (k_storeN (vs := v_104_1) rfl rfl sz76 (by decide) ?_)
 obtain ⟨hz1, hz2, c, e, hz3, hz4, hz5, h⟩ := h
 refine ⟨hz1, hz2, c, e, hz3, hz4, hz5, ?_⟩
 replace h := atE h
 refine sR (.bool v_104_2) (r_assign rfl rfl) ?_
 refine HL_nil ?_
 refine cR ?_
 obtain ⟨v3a__1, rfl, h⟩ := h
 obtain ⟨v_108, hc108, h⟩ := h
 refine sR v_108 (r_load1 rfl rfl underlying108 rfl hc108) ?_
 obtain ⟨v_109, hs109, hc109, h⟩ := h
 refine sR (.agg v_109) (w_loadN rfl underlying76 rfl sz76 hs109 hc109) ?_
 obtain ⟨v_110, hs110, hc110, h⟩ := h
 refine sR (.agg v_110) (w_loadN rfl underlying76 rfl sz76 hs110 hc110) ?_
 obtain ⟨_, _, _, hk1, hk2, h⟩ := h
 refine s_ef (k_callF (vs := [(.agg v_109), (.agg v_110)]) hk2 ((rfl : _ = v_108).trans hk1) (evC rfl (evC rfl evN)) (h.mono ?_))
 clear h; rintro v F ⟨rfl, h⟩
 refine HL_nil ?_
 refine HC_seq ?_
 refine HC_draw0 (by kernel_rfl) (fun hp => ?_)
 obtain ⟨v_112, hs112, hc112, h⟩ := h
 refine gR 0 (.agg v_112) rfl (w_loadN rfl underlying76 rfl sz76 hs112 hc112) hp (fun S0 q0 => ?_)
 replace hp := holdC (i := 0) (q0 _ (w_loadN rfl underlying76 rfl sz76 hs112 hc112)) hp
 obtain ⟨v_113, hs113, hc113, h⟩ := h
 refine gR 1 (.agg v_113) rfl (w_loadN rfl underlying76 rfl sz76 hs113 hc113) hp (fun S1 q1 => ?_)
 replace hp := holdC (i := 1) (q1 _ (w_loadN rfl underlying76 rfl sz76 hs113 hc113)) hp
 refine RG_eff1 (i := 2) (by kernel_rfl) (g_op0 (Sp' := [(1, S1)]) rfl rfl (k_storeN (vs := v_112) rfl rfl sz76 (by decide) ?_))
 obtain ⟨hz1, hz2, c, e, hz3, hz4, hz5, h⟩ := h
 refine ⟨hz1, hz2, c, e, hz3, hz4, hz5, ?_⟩
 replace h := atE h
 obtain ⟨hk_4, h⟩ := h
 refine holdI (holdC (i := 1) (q1 _ (w_loadN rfl underlying76 rfl sz76 hs113 hk_4)) hold0) (fun hp => ?_)
 refine RG_eff1 (i := 3) (by kernel_rfl) (g_op0 (Sp' := []) rfl rfl (k_storeN (vs := v_113) rfl rfl sz76 (by decide) ?_))
 obtain ⟨hz1, hz2, c, e, hz3, hz4, hz5, h⟩ := h
 refine ⟨hz1, hz2, c, e, hz3, hz4, hz5, ?_⟩
 replace h := atE h
 refine holdI hold0 (fun hp => ?_)
 refine gU 4 (.bool true) rfl (fun _ => r_assign rfl rfl) hp ?_
 refine RG_done (by kernel_rfl) ?_
 obtain ⟨vres_5_5, hs5, hr5, h⟩ := h
 obtain ⟨vres_6_5, hs6, hr6, h⟩ := h
 exact HC_ret (show endQ prog f69 R .ret _ _ from ⟨_, res3 rfl (rv_cellN rfl underlying76 rfl sz76 hs5 hr5) (rv_cellN rfl underlying76 rfl sz76 hs6 hr6) (rv_tmp rfl), h⟩)
 replace h := h.2 (of_decide_eq_false hc)
 clear hc
 refine HC_skip ?_
 refine HC_seq ?_
 refine HC_draw0 (by kernel_rfl) (fun hp => ?_)
 obtain ⟨v_114, hs114, hc114, h⟩ := h
 refine gR 0 (.agg v_114) rfl (w_loadN rfl underlying76 rfl sz76 hs114 hc114) hp (fun S0 q0 => ?_)
 replace hp := holdC (i := 0) (q0 _ (w_loadN rfl underlying76 rfl sz76 hs114 hc114)) hp
 obtain ⟨v_115, hs115, hc115, h⟩ := h
 refine gR 1 (.agg v_115) rfl (w_loadN rfl underlying76 rfl sz76 hs115 hc115) hp (fun S1 q1 => ?_)
 replace hp := holdC (i := 1) (q1 _ (w_loadN rfl underlying76 rfl sz76 hs115 hc115)) hp
 refine RG_eff1 (i := 2) (by kernel_rfl) (g_op0 (Sp' := [(1, S1)]) rfl rfl (k_storeN (vs := v_114) rfl rfl sz76 (by decide) ?_))
 obtain ⟨hz1, hz2, c, e, hz3, hz4, hz5, h⟩ := h
 refine ⟨hz1, hz2, c, e, hz3, hz4, hz5, ?_⟩
 replace h := atE h
 obtain ⟨hk_6, h⟩ := h
 refine holdI (holdC (i := 1) (q1 _ (w_loadN rfl underlying76 rfl sz76 hs115 hk_6)) hold0) (fun hp => ?_)
 refine RG_eff1 (i := 3) (by kernel_rfl) (g_op0 (Sp' := []) rfl rfl (k_storeN (vs := v_115) rfl rfl sz76 (by decide) ?_))
 obtain ⟨hz1, hz2, c, e, hz3, hz4, hz5, h⟩ := h
 refine ⟨hz1, hz2, c, e, hz3, hz4, hz5, ?_⟩
 replace h := atE h
 refine holdI hold0 (fun hp => ?_)
 refine gU 4 (.bool true) rfl (fun _ => r_assign rfl rfl) hp ?_
 refine RG_done (by kernel_rfl) ?_
 obtain ⟨vres_5_6, hs5, hr5, h⟩ := h
 obtain ⟨vres_6_6, hs6, hr6, h⟩ := h
 exact HC_ret (show endQ prog f69 R .ret _ _ from ⟨_, res3 rfl (rv_cellN rfl underlying76 rfl sz76 hs5 hr5) (rv_cellN rfl underlying76 rfl sz76 hs6 hr6) (rv_tmp rfl), h⟩)
 /- 42 koine.pattern.compile -/
def b42j1 (b1 : Nat) (vm_3 : Option Addr) (R : VP) (F : PH) :=
 ∀ b4, F b4 = none → atF (F.set b4 (.cells (#[.nilFunc]) 104)) fun F =>
 ∀ b5, F b5 = none → atF (F.set b5 (.cells (#[.nilFunc]) 108)) fun F =>
 ∃ c e, F (Addr.mk b5 0 none).block = some (.cells c e (0, 0)) ∧ (Addr.mk b5 0 none).spot = none ∧ (Addr.mk b5 0 none).off < c.size ∧
 atF (F.set (Addr.mk b5 0 none).block (.cells (c.setIfInBounds (Addr.mk b5 0 none).off (.func (.func 65) #[] #[(.pointer vm_3)])) e)) fun F =>
 ∃ c e, F (Addr.mk b4 0 none).block = some (.cells c e (0, 0)) ∧ (Addr.mk b4 0 none).spot = none ∧ (Addr.mk b4 0 none).off < c.size ∧
 atF (F.set (Addr.mk b4 0 none).block (.cells (c.setIfInBounds (Addr.mk b4 0 none).off (.func (.func 69) #[] #[(.pointer (some (Addr.mk b1 0 none))), (.pointer (some (Addr.mk b4 0 none))), (.pointer (some (Addr.mk b5 0 none)))])) e)) fun F =>
 ∃ vm3a_ : Addr, vm_3 = some vm3a_ ∧ ∃ v_15 : Option Addr, F.cell vm3a_ = some (.pointer v_15) ∧
 ∃ v_16 : Option Addr, F.cell vm3a_ = some (.pointer v_16) ∧
 ∃ v_17 : Option Addr, F.cell vm3a_ = some (.pointer v_17) ∧
 ∃ v_18 : Value, F.cell (Addr.mk b4 0 none) = some v_18 ∧
 ∃ v_19 : Sl, F.cell (Addr.mk b1 0 none) = some (Sl.v v_19) ∧
 ∃ (k22 : Nat) (fst22 cap22 : Array Value), v_18 = Value.func (.func k22) fst22 cap22 ∧ callableB prog k22 = true ∧ Spec prog k22 (fst22 ++ ([(Value.int .i64 (IntKind.i64.wrap ((v_19.len : Int) - 1)))]).toArray ++ cap22) F fun v F => ∃ v_22 : Array Value, ∃ v_22_1 : Array Value, ∃ v_22_2 : Bool, v = (Value.tuple #[(Value.agg v_22), (Value.agg v_22_1), (Value.bool v_22_2)]) ∧
 F.cell (Addr.mk b1 0 none) = some (Sl.v v_19) ∧ F.cell vm3a_ = some (.pointer v_17) ∧ F.cell vm3a_ = some (.pointer v_16) ∧ F.cell vm3a_ = some (.pointer v_15) ∧ ∃ v15a_ : Addr, v_15 = some v15a_ ∧ v_22.size = 8 ∧ (∀ v ∈ v_22.toList, storable v) ∧ ∃ c e, F (Addr.add v15a_ 1).block = some (.cells c e (0, 0)) ∧ (Addr.add v15a_ 1).spot = none ∧ (Addr.add v15a_ 1).off + 8 ≤ c.size ∧
 atF (F.set (Addr.add v15a_ 1).block (.cells (wr c (Addr.add v15a_ 1).off v_22.toList) e)) fun F =>
 F.cell vm3a_ = some (.pointer v_17) ∧ F.cell vm3a_ = some (.pointer v_16) ∧ ∃ v16a_ : Addr, v_16 = some v16a_ ∧ v_22_1.size = 8 ∧ (∀ v ∈ v_22_1.toList, storable v) ∧ ∃ c e, F (Addr.add v16a_ 9).block = some (.cells c e (0, 0)) ∧ (Addr.add v16a_ 9).spot = none ∧ (Addr.add v16a_ 9).off + 8 ≤ c.size ∧
 atF (F.set (Addr.add v16a_ 9).block (.cells (wr c (Addr.add v16a_ 9).off v_22_1.toList) e)) fun F =>
 F.cell vm3a_ = some (.pointer v_17) ∧ ∃ v17a_ : Addr, v_17 = some v17a_ ∧ ∃ c e, F (Addr.add v17a_ 18).block = some (.cells c e (0, 0)) ∧ (Addr.add v17a_ 18).spot = none ∧ (Addr.add v17a_ 18).off < c.size ∧
 atF (F.set (Addr.add v17a_ 18).block (.cells (c.setIfInBounds (Addr.add v17a_ 18).off (.bool v_22_2)) e)) fun F =>
 ∃ v_32 : Option Addr, F.cell vm3a_ = some (.pointer v_32) ∧
 R (.pointer v_32) F
abbrev b42J1 (b1 : Nat) (R : VP) (E : En) (F : PH) : Prop := ∃ vm_3 : Option Addr, E 1 = (.pointer (some (Addr.mk b1 0 none))) ∧ E 3 = (.pointer vm_3) ∧ b42j1 b1 vm_3 R F
def b42 (p_0 : Sl) (R : VP) (F : PH) :=
 ∀ b1, F b1 = none → atF (F.set b1 (.cells #[(Sl.v p_0)] 25)) fun F =>
 ∃ v_6 : Sl, F.cell (Addr.mk b1 0 none) = some (Sl.v v_6) ∧
 ∃ v_7 : Sl, F.cell (Addr.mk b1 0 none) = some (Sl.v v_7) ∧
 ((runs prog (Instr.makeSlice 77 (.int .i64 (v_7.len : Int)) (.int .i64 (v_7.len : Int))) F fun v F => ∃ v_9 : Sl, v = (Sl.v v_9) ∧
 F.cell (Addr.mk b1 0 none) = some (Sl.v v_7) ∧ F.cell (Addr.mk b1 0 none) = some (Sl.v v_6) ∧ ((∀ b11, F b11 = none → atF (F.set b11 (.cells (#[(Sl.v v_6), .int .u64 0, .int .u64 0, .int .u64 0, .int .u64 0, .int .u64 0, .int .u64 0, .int .u64 0, .int .u64 0, .int .u64 0, .int .u64 0, .int .u64 0, .int .u64 0, .int .u64 0, .int .u64 0, .int .u64 0, .int .u64 0, (Sl.v v_9), .bool false] : Array Value) 79)) fun F =>
 ∀ b3, F b3 = none → atF (F.set b3 (.cells (#[.pointer none]) 61)) fun F =>
 ∃ c e, F (Addr.mk b3 0 none).block = some (.cells c e (0, 0)) ∧ (Addr.mk b3 0 none).spot = none ∧ (Addr.mk b3 0 none).off < c.size ∧
 atF (F.set (Addr.mk b3 0 none).block (.cells (c.setIfInBounds (Addr.mk b3 0 none).off (.pointer (some (Addr.mk b11 0 none)))) e)) fun F =>
 b42j1 b1 (some (Addr.mk b3 0 none)) R F) ∧
 (∀ b3_1, F b3_1 = none → atF (F.set b3_1 (.cells (#[.pointer none]) 61)) fun F =>
 ∀ b11_1, F b11_1 = none → atF (F.set b11_1 (.cells (#[(Sl.v v_6), .int .u64 0, .int .u64 0, .int .u64 0, .int .u64 0, .int .u64 0, .int .u64 0, .int .u64 0, .int .u64 0, .int .u64 0, .int .u64 0, .int .u64 0, .int .u64 0, .int .u64 0, .int .u64 0, .int .u64 0, .int .u64 0, (Sl.v v_9), .bool false] : Array Value) 79)) fun F =>
 ∃ c e, F (Addr.mk b3_1 0 none).block = some (.cells c e (0, 0)) ∧ (Addr.mk b3_1 0 none).spot = none ∧ (Addr.mk b3_1 0 none).off < c.size ∧
 atF (F.set (Addr.mk b3_1 0 none).block (.cells (c.setIfInBounds (Addr.mk b3_1 0 none).off (.pointer (some (Addr.mk b11_1 0 none)))) e)) fun F =>
 b42j1 b1 (some (Addr.mk b3_1 0 none)) R F))) ∧
 (∀ b3_2, F b3_2 = none → atF (F.set b3_2 (.cells (#[.pointer none]) 61)) fun F =>
 runs prog (Instr.makeSlice 77 (.int .i64 (v_7.len : Int)) (.int .i64 (v_7.len : Int))) F fun v F => ∃ v_9_1 : Sl, v = (Sl.v v_9_1) ∧
 F.cell (Addr.mk b1 0 none) = some (Sl.v v_7) ∧ F.cell (Addr.mk b1 0 none) = some (Sl.v v_6) ∧ ∀ b11_2, F b11_2 = none → atF (F.set b11_2 (.cells (#[(Sl.v v_6), .int .u64 0, .int .u64 0, .int .u64 0, .int .u64 0, .int .u64 0, .int .u64 0, .int .u64 0, .int .u64 0, .int .u64 0, .int .u64 0, .int .u64 0, .int .u64 0, .int .u64 0, .int .u64 0, .int .u64 0, .int .u64 0, (Sl.v v_9_1), .bool false] : Array Value) 79)) fun F =>
 ∃ c e, F (Addr.mk b3_2 0 none).block = some (.cells c e (0, 0)) ∧ (Addr.mk b3_2 0 none).spot = none ∧ (Addr.mk b3_2 0 none).off < c.size ∧
 atF (F.set (Addr.mk b3_2 0 none).block (.cells (c.setIfInBounds (Addr.mk b3_2 0 none).off (.pointer (some (Addr.mk b11_2 0 none)))) e)) fun F =>
 b42j1 b1 (some (Addr.mk b3_2 0 none)) R F))
theorem c42 {p_0 : Sl} {R : VP} {F : PH} (h : b42 p_0 R F) : Spec prog 42 #[(Sl.v p_0)] F R := by
 refine spec_of (args := [(Sl.v p_0)]) func42 rfl ntmps42 rfl ?_
 unfold b42 at h
 refine cR ?_
 refine s_ef (k_box (cs := #[(Sl.v p_0)]) rfl rfl ?_)
 intro b1 hf_b1
 replace h := atE (h b1 hf_b1)
 refine sR (.pointer none) (r_assign rfl rfl) ?_
 refine HL_nil ?_
 refine HC_seqJ (b42J1 b1 R) ?_ ?_
 clear h; rintro E F ⟨vm_3, h1, h3, h⟩
 unfold b42j1 at h
 refine cR ?_
 refine s_ef (k_alloc zr104 ?_)
 intro b4 hf_b4
 replace h := atE (h b4 hf_b4)
 refine HL_nil ?_
 refine cR (sR (.func (.func 65) #[] #[(.pointer vm_3)]) (w_makeFunc evN (evC h3 evN)) ?_)
 refine s_ef (k_alloc zr108 ?_)
 intro b5 hf_b5
 replace h := atE (h b5 hf_b5)
 refine s_ef0 (k_store1 (v := (.func (.func 65) #[] #[(.pointer vm_3)])) rfl rfl sz108 rfl st_func ?_)
 obtain ⟨c, e, hz3, hz4, hz5, h⟩ := h
 refine ⟨c, e, hz3, hz4, hz5, ?_⟩
 replace h := atE h
 refine HL_nil ?_
 refine cR (sR (.func (.func 69) #[] #[(.pointer (some (Addr.mk b1 0 none))), (.pointer (some (Addr.mk b4 0 none))), (.pointer (some (Addr.mk b5 0 none)))]) (w_makeFunc evN (evC h1 (evC rfl (evC rfl evN)))) ?_)
 refine s_ef0 (k_store1 (v := (.func (.func 69) #[] #[(.pointer (some (Addr.mk b1 0 none))), (.pointer (some (Addr.mk b4 0 none))), (.pointer (some (Addr.mk b5 0 none)))])) rfl rfl sz104 rfl st_func ?_)
 obtain ⟨c, e, hz3, hz4, hz5, h⟩ := h
 refine ⟨c, e, hz3, hz4, hz5, ?_⟩
 replace h := atE h
 refine HL_nil ?_
 refine HC_seq ?_
 refine HC_draw0 (by kernel_rfl) (fun hp => ?_)
 obtain ⟨vm3a_, rfl, h⟩ := h
 obtain ⟨v_15, hc15, h⟩ := h
 refine gR 0 (.pointer v_15) rfl (r_load1 rfl h3 underlying61 rfl hc15) hp (fun S0 q0 => ?_)
 replace hp := holdC (i := 0) (q0 _ (r_load1 rfl h3 underlying61 rfl hc15)) hp
 obtain ⟨v_16, hc16, h⟩ := h
 refine gR 1 (.pointer v_16) rfl (r_load1 rfl h3 underlying61 rfl hc16) hp (fun S1 q1 => ?_)
 replace hp := holdC (i := 1) (q1 _ (r_load1 rfl h3 underlying61 rfl hc16)) hp
 obtain ⟨v_17, hc17, h⟩ := h
 refine gR 2 (.pointer v_17) rfl (r_load1 rfl h3 underlying61 rfl hc17) hp (fun S2 q2 => ?_)
 replace hp := holdC (i := 2) (q2 _ (r_load1 rfl h3 underlying61 rfl hc17)) hp
 obtain ⟨v_18, hc18, h⟩ := h
 refine gR 3 v_18 rfl (r_load1 rfl rfl underlying104 rfl hc18) hp (fun S3 q3 => ?_)
 replace hp := holdC (i := 3) (q3 _ (r_load1 rfl rfl underlying104 rfl hc18)) hp
 obtain ⟨v_19, hc19, h⟩ := h
 refine gR 4 (Sl.v v_19) rfl (r_load1 rfl h1 underlying25 rfl hc19) hp (fun S4 q4 => ?_)
 replace hp := holdC (i := 4) (q4 _ (r_load1 rfl h1 underlying25 rfl hc19)) hp
 refine gU 5 (.int .i64 (v_19.len : Int)) rfl (fun _ => r_lenSl rfl rfl underlying25) hp ?_
 refine gU 6 (.int .i64 (IntKind.i64.wrap ((v_19.len : Int) - 1))) rfl (fun _ => r_sub rfl rfl rfl) hp ?_
 obtain ⟨_, _, _, hk1, hk2, h⟩ := h
 refine RG_eff1 (i := 7) (by kernel_rfl) (g_op (Sp' := [(4, S4), (2, S2), (1, S1), (0, S0)]) rfl rfl (k_callF (vs := [(.int .i64 (IntKind.i64.wrap ((v_19.len : Int) - 1)))]) hk2 ((rfl : _ = v_18).trans hk1) (evC rfl evN) (h.mono ?_)))
 clear h; rintro v F ⟨v_22, v_22_1, v_22_2, rfl, h⟩
 obtain ⟨hk_12, hk_13, hk_14, hk_15, h⟩ := h
 refine holdI (holdC (i := 4) (q4 _ (r_load1 rfl h1 underlying25 rfl hk_12)) (holdC (i := 2) (q2 _ (r_load1 rfl h3 underlying61 rfl hk_13)) (holdC (i := 1) (q1 _ (r_load1 rfl h3 underlying61 rfl hk_14)) (holdC (i := 0) (q0 _ (r_load1 rfl h3 underlying61 rfl hk_15)) hold0)))) (fun hp => ?_)
 refine gU 8 (.tuple #[(.agg v_22), (.agg v_22_1), (.bool v_22_2)]) rfl (fun _ => r_move rfl rfl) hp ?_
 refine gU 9 (.agg v_22) rfl (fun _ => r_extract rfl rfl rfl) hp ?_
 refine gU 10 (.agg v_22_1) rfl (fun _ => r_extract rfl rfl rfl) hp ?_
 refine gU 11 (.bool v_22_2) rfl (fun _ => r_extract rfl rfl rfl) hp ?_
 obtain ⟨v15a_, rfl, h⟩ := h
 refine gU 12 (.pointer (some v15a_)) rfl (fun _ => r_nilCheck rfl rfl) hp ?_
 refine gU 13 (.pointer (some (Addr.add v15a_ 1))) rfl (fun _ => w_fieldAddr rfl underlying79 rfl rfl sz76 rfl rfl) hp ?_
 refine RG_eff1 (i := 14) (by kernel_rfl) (g_op0 (Sp' := [(2, S2), (1, S1)]) rfl rfl (k_storeN (vs := v_22) rfl rfl sz76 (by decide) ?_))
 obtain ⟨hz1, hz2, c, e, hz3, hz4, hz5, h⟩ := h
 refine ⟨hz1, hz2, c, e, hz3, hz4, hz5, ?_⟩
 replace h := atE h
 obtain ⟨hk_16, hk_17, h⟩ := h
 refine holdI (holdC (i := 2) (q2 _ (r_load1 rfl h3 underlying61 rfl hk_16)) (holdC (i := 1) (q1 _ (r_load1 rfl h3 underlying61 rfl hk_17)) hold0)) (fun hp => ?_)
 obtain ⟨v16a_, rfl, h⟩ := h
 refine gU 15 (.pointer (some v16a_)) rfl (fun _ => r_nilCheck rfl rfl) hp ?_
 refine gU 16 (.pointer (some (Addr.add v16a_ 9))) rfl (fun _ => w_fieldAddr rfl underlying79 rfl rfl sz76 rfl rfl) hp ?_
 refine RG_eff1 (i := 17) (by kernel_rfl) (g_op0 (Sp' := [(2, S2)]) rfl rfl (k_storeN (vs := v_22_1) rfl rfl sz76 (by decide) ?_))
 obtain ⟨hz1, hz2, c, e, hz3, hz4, hz5, h⟩ := h
 refine ⟨hz1, hz2, c, e, hz3, hz4, hz5, ?_⟩
 replace h := atE h
 obtain ⟨hk_18, h⟩ := h
 refine holdI (holdC (i := 2) (q2 _ (r_load1 rfl h3 underlying61 rfl hk_18)) hold0) (fun hp => ?_)
 obtain ⟨v17a_, rfl, h⟩ := h
 refine gU 18 (.pointer (some v17a_)) rfl (fun _ => r_nilCheck rfl rfl) hp ?_
 refine gU 19 (.pointer (some (Addr.add v17a_ 18))) rfl (fun _ => w_fieldAddr rfl underlying79 rfl rfl sz4 rfl rfl) hp ?_
 refine RG_eff1 (i := 20) (by kernel_rfl) (g_op0 (Sp' := []) rfl rfl (k_store1 (v := (.bool v_22_2)) rfl rfl sz4 rfl st_bool ?_))
 obtain ⟨c, e, hz3, hz4, hz5, h⟩ := h
 refine ⟨c, e, hz3, hz4, hz5, ?_⟩
 replace h := atE h
 refine holdI hold0 (fun hp => ?_)
 refine RG_done (by kernel_rfl) ?_
 refine cR ?_
 obtain ⟨v_32, hc32, h⟩ := h
 refine sR (.pointer v_32) (r_load1 rfl h3 underlying61 rfl hc32) ?_
 refine sR (.pointer v_32) (r_assign rfl rfl) ?_
 exact HL_nil (HC_ret (rt1 f42 R rfl rfl h))
 refine HC_draw0 (by kernel_rfl) (fun hp => ?_)
 obtain ⟨v_6, hc6, h⟩ := h
 refine gR 0 (Sl.v v_6) rfl (r_load1 rfl rfl underlying25 rfl hc6) hp (fun S0 q0 => ?_)
 replace hp := holdC (i := 0) (q0 _ (r_load1 rfl rfl underlying25 rfl hc6)) hp
 obtain ⟨v_7, hc7, h⟩ := h
 refine gR 1 (Sl.v v_7) rfl (r_load1 rfl rfl underlying25 rfl hc7) hp (fun S1 q1 => ?_)
 replace hp := holdC (i := 1) (q1 _ (r_load1 rfl rfl underlying25 rfl hc7)) hp
 refine gU 2 (.int .i64 (v_7.len : Int)) rfl (fun _ => r_lenSl rfl rfl underlying25) hp ?_
 refine RG_eff (rs := [3, 6]) (by kernel_rfl) rfl ?_
 obtain ⟨ha0, ha1⟩ := h
 simp only [List.mem_cons, List.not_mem_nil, or_false, forall_eq_or_imp, forall_eq]
 refine ⟨?_, ?_⟩
 have h := ha0; clear ha0 ha1
 refine g_op (Sp' := [(1, S1), (0, S0)]) rfl rfl (k_makeSlice rfl rfl (runs_mono _ _ h ?_))
 clear h; rintro v F ⟨v_9, rfl, h⟩
 obtain ⟨hk_19, hk_20, h⟩ := h
 refine holdI (holdC (i := 1) (q1 _ (r_load1 rfl rfl underlying25 rfl hk_19)) (holdC (i := 0) (q0 _ (r_load1 rfl rfl underlying25 rfl hk_20)) hold0)) (fun hp => ?_)
 refine gU 4 (.agg (#[(Sl.v v_6), .int .u64 0, .int .u64 0, .int .u64 0, .int .u64 0, .int .u64 0, .int .u64 0, .int .u64 0, .int .u64 0, .int .u64 0, .int .u64 0, .int .u64 0, .int .u64 0, .int .u64 0, .int .u64 0, .int .u64 0, .int .u64 0, (Sl.v v_9), .bool false] : Array Value)) rfl (fun _ => w_buildStruct (cells := #[(Sl.v v_6), .int .u64 0, .int .u64 0, .int .u64 0, .int .u64 0, .int .u64 0, .int .u64 0, .int .u64 0, .int .u64 0, .int .u64 0, .int .u64 0, .int .u64 0, .int .u64 0, .int .u64 0, .int .u64 0, .int .u64 0, .int .u64 0, (Sl.v v_9), .bool false]) underlying79 zr79 kf79 (evPC rfl (evPC rfl evPN)) (fill1 (place_of rfl rfl sz25) rfl rfl (fill1 (place_of rfl rfl sz77) rfl rfl (fillN rfl)))) hp ?_
 refine RG_eff (rs := [5, 6]) (by kernel_rfl) rfl ?_
 obtain ⟨ha0, ha1⟩ := h
 simp only [List.mem_cons, List.not_mem_nil, or_false, forall_eq_or_imp, forall_eq]
 refine ⟨?_, ?_⟩
 have h := ha0; clear ha0 ha1
 refine g_op (Sp' := [(1, S1), (0, S0)]) rfl rfl (k_box (cs := (#[(Sl.v v_6), .int .u64 0, .int .u64 0, .int .u64 0, .int .u64 0, .int .u64 0, .int .u64 0, .int .u64 0, .int .u64 0, .int .u64 0, .int .u64 0, .int .u64 0, .int .u64 0, .int .u64 0, .int .u64 0, .int .u64 0, .int .u64 0, (Sl.v v_9), .bool false] : Array Value)) rfl rfl ?_)
 intro b11 hf_b11
 replace h := atE (h b11 hf_b11)
 refine holdI (holdC (i := 1) (q1 _ (r_load1 rfl rfl underlying25 rfl (cell_set_fresh hf_b11 hk_19))) (holdC (i := 0) (q0 _ (r_load1 rfl rfl underlying25 rfl (cell_set_fresh hf_b11 hk_20))) hold0)) (fun hp => ?_)
 refine RG_eff1 (i := 6) (by kernel_rfl) (g_op (Sp' := [(1, S1), (0, S0)]) rfl rfl (k_alloc zr61 ?_))
 intro b3 hf_b3
 replace h := atE (h b3 hf_b3)
 refine holdI (holdC (i := 1) (q1 _ (r_load1 rfl rfl underlying25 rfl (cell_set_fresh hf_b3 (cell_set_fresh hf_b11 hk_19)))) (holdC (i := 0) (q0 _ (r_load1 rfl rfl underlying25 rfl (cell_set_fresh hf_b3 (cell_set_fresh hf_b11 hk_20)))) hold0)) (fun hp => ?_)
 refine RG_eff1 (i := 7) (by kernel_rfl) (g_op0 (Sp' := []) rfl rfl (k_store1 (v := (.pointer (some (Addr.mk b11 0 none)))) rfl rfl sz61 rfl st_ptr ?_))
 obtain ⟨c, e, hz3, hz4, hz5, h⟩ := h
 refine ⟨c, e, hz3, hz4, hz5, ?_⟩
 replace h := atE h
 refine holdI hold0 (fun hp => ?_)
 refine RG_done (by kernel_rfl) ?_
 show b42J1 b1 R _ _
 exact ⟨_, rfl, rfl, h⟩
 have h := ha1; clear ha0 ha1
 refine g_op (Sp' := [(1, S1), (0, S0)]) rfl rfl (k_alloc zr61 ?_)
 intro b3_1 hf_b3_1
 replace h := atE (h b3_1 hf_b3_1)
 refine holdI (holdC (i := 1) (q1 _ (r_load1 rfl rfl underlying25 rfl (cell_set_fresh hf_b3_1 hk_19))) (holdC (i := 0) (q0 _ (r_load1 rfl rfl underlying25 rfl (cell_set_fresh hf_b3_1 hk_20))) hold0)) (fun hp => ?_)
 refine RG_eff1 (i := 5) (by kernel_rfl) (g_op (Sp' := [(1, S1), (0, S0)]) rfl rfl (k_box (cs := (#[(Sl.v v_6), .int .u64 0, .int .u64 0, .int .u64 0, .int .u64 0, .int .u64 0, .int .u64 0, .int .u64 0, .int .u64 0, .int .u64 0, .int .u64 0, .int .u64 0, .int .u64 0, .int .u64 0, .int .u64 0, .int .u64 0, .int .u64 0, (Sl.v v_9), .bool false] : Array Value)) rfl rfl ?_))
 intro b11_1 hf_b11_1
 replace h := atE (h b11_1 hf_b11_1)
 refine holdI (holdC (i := 1) (q1 _ (r_load1 rfl rfl underlying25 rfl (cell_set_fresh hf_b11_1 (cell_set_fresh hf_b3_1 hk_19)))) (holdC (i := 0) (q0 _ (r_load1 rfl rfl underlying25 rfl (cell_set_fresh hf_b11_1 (cell_set_fresh hf_b3_1 hk_20)))) hold0)) (fun hp => ?_)
 refine RG_eff1 (i := 7) (by kernel_rfl) (g_op0 (Sp' := []) rfl rfl (k_store1 (v := (.pointer (some (Addr.mk b11_1 0 none)))) rfl rfl sz61 rfl st_ptr ?_))
 obtain ⟨c, e, hz3, hz4, hz5, h⟩ := h
 refine ⟨c, e, hz3, hz4, hz5, ?_⟩
 replace h := atE h
 refine holdI hold0 (fun hp => ?_)
 refine RG_done (by kernel_rfl) ?_
 show b42J1 b1 R _ _
 exact ⟨_, rfl, rfl, h⟩
 have h := ha1; clear ha0 ha1
 refine g_op (Sp' := [(1, S1), (0, S0)]) rfl rfl (k_alloc zr61 ?_)
 intro b3_2 hf_b3_2
 replace h := atE (h b3_2 hf_b3_2)
 refine holdI (holdC (i := 1) (q1 _ (r_load1 rfl rfl underlying25 rfl (cell_set_fresh hf_b3_2 hc7))) (holdC (i := 0) (q0 _ (r_load1 rfl rfl underlying25 rfl (cell_set_fresh hf_b3_2 hc6))) hold0)) (fun hp => ?_)
 refine RG_eff1 (i := 3) (by kernel_rfl) (g_op (Sp' := [(1, S1), (0, S0)]) rfl rfl (k_makeSlice rfl rfl (runs_mono _ _ h ?_)))
 clear h; rintro v F ⟨v_9_1, rfl, h⟩
 obtain ⟨hk_21, hk_22, h⟩ := h
 refine holdI (holdC (i := 1) (q1 _ (r_load1 rfl rfl underlying25 rfl hk_21)) (holdC (i := 0) (q0 _ (r_load1 rfl rfl underlying25 rfl hk_22)) hold0)) (fun hp => ?_)
 refine gU 4 (.agg (#[(Sl.v v_6), .int .u64 0, .int .u64 0, .int .u64 0, .int .u64 0, .int .u64 0, .int .u64 0, .int .u64 0, .int .u64 0, .int .u64 0, .int .u64 0, .int .u64 0, .int .u64 0, .int .u64 0, .int .u64 0, .int .u64 0, .int .u64 0, (Sl.v v_9_1), .bool false] : Array Value)) rfl (fun _ => w_buildStruct (cells := #[(Sl.v v_6), .int .u64 0, .int .u64 0, .int .u64 0, .int .u64 0, .int .u64 0, .int .u64 0, .int .u64 0, .int .u64 0, .int .u64 0, .int .u64 0, .int .u64 0, .int .u64 0, .int .u64 0, .int .u64 0, .int .u64 0, .int .u64 0, (Sl.v v_9_1), .bool false]) underlying79 zr79 kf79 (evPC rfl (evPC rfl evPN)) (fill1 (place_of rfl rfl sz25) rfl rfl (fill1 (place_of rfl rfl sz77) rfl rfl (fillN rfl)))) hp ?_
 refine RG_eff1 (i := 5) (by kernel_rfl) (g_op (Sp' := [(1, S1), (0, S0)]) rfl rfl (k_box (cs := (#[(Sl.v v_6), .int .u64 0, .int .u64 0, .int .u64 0, .int .u64 0, .int .u64 0, .int .u64 0, .int .u64 0, .int .u64 0, .int .u64 0, .int .u64 0, .int .u64 0, .int .u64 0, .int .u64 0, .int .u64 0, .int .u64 0, .int .u64 0, (Sl.v v_9_1), .bool false] : Array Value)) rfl rfl ?_))
 intro b11_2 hf_b11_2
 replace h := atE (h b11_2 hf_b11_2)
 refine holdI (holdC (i := 1) (q1 _ (r_load1 rfl rfl underlying25 rfl (cell_set_fresh hf_b11_2 hk_21))) (holdC (i := 0) (q0 _ (r_load1 rfl rfl underlying25 rfl (cell_set_fresh hf_b11_2 hk_22))) hold0)) (fun hp => ?_)
 refine RG_eff1 (i := 7) (by kernel_rfl) (g_op0 (Sp' := []) rfl rfl (k_store1 (v := (.pointer (some (Addr.mk b11_2 0 none)))) rfl rfl sz61 rfl st_ptr ?_))
 obtain ⟨c, e, hz3, hz4, hz5, h⟩ := h
 refine ⟨c, e, hz3, hz4, hz5, ?_⟩
 replace h := atE h
 refine holdI hold0 (fun hp => ?_)
 refine RG_done (by kernel_rfl) ?_
 show b42J1 b1 R _ _
 exact ⟨_, rfl, rfl, h⟩
end Go.Proofs.YtnjcgpihfmklfaaDoor
