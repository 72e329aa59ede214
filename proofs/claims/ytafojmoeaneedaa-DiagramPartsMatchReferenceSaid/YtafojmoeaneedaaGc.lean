/-
  What functions of the program do, in a clean form, each with the proof that its code does so. Printed by a program.
-/
import Derived.Test.YtafojmoeaneedaaGf
import Derived.Test.YtafojmoeaneedaaPho
namespace Go.Proofs.Ytafojmoeaneedaa
open Go Go.Proofs.Try
set_option maxRecDepth 10000
set_option maxHeartbeats 4000000
/- 72 koine.diagram.fixed -/
def b72j1 (b3 : Nat) (b6 : Nat) (v_13 : Option Addr) (v_18 : Sl) (R : Value → PH → Prop) (F : PH) : Prop :=
 ∃ v_60 : Int, F.cell (Addr.mk b3 1 none) = some (.int .i64 v_60) ∧
 ∃ a61_ : Addr, v_18.base = some a61_ ∧ 0 ≤ v_60 ∧ v_60 < (v_18.len : Int) ∧
 ∃ v_62 : Int, F.cell (Addr.add a61_ (Int.toNat v_60 * 1)) = some (.int .i64 v_62) ∧
 Spec prog 64 #[(.pointer v_13), (.int .i64 v_62)] F fun v F => ∃ v_63 : Array Value, v = (.agg v_63) ∧
 v_63.size = 2 ∧ (∀ v ∈ v_63.toList, storable v) ∧ ∃ c e, F (Addr.mk b6 0 none).block = some (.cells c e (0, 0)) ∧ (Addr.mk b6 0 none).spot = none ∧ (Addr.mk b6 0 none).off + 2 ≤ c.size ∧
 atF (F.set (Addr.mk b6 0 none).block (.cells (wr c (Addr.mk b6 0 none).off v_63.toList) e)) fun F =>
 ∃ vres_6 : Array Value, vres_6.size = 2 ∧ F.row (Addr.mk b6 0 none) vres_6 ∧ R (.agg vres_6) F
abbrev b72J1 (b3 : Nat) (b6 : Nat) (v_13 : Option Addr) (v_18 : Sl) (R : Value → PH → Prop) (E : En) (F : PH) : Prop := E 3 = (.pointer (some (Addr.mk b3 0 none))) ∧ E 6 = (.pointer (some (Addr.mk b6 0 none))) ∧ E 7 = (.pointer v_13) ∧ E 8 = (Sl.v v_18) ∧ b72j1 b3 b6 v_13 v_18 R F
def b72j2 (N1 : Int → PH → Prop) (v_1 : Int) (value_2 : Bool) (b3 : Nat) (b6 : Nat) (v_13 : Option Addr) (v_18 : Sl) (v_24 : Int) (b10 : Nat) (v_22 : Sl) (low_11 : Int) (high_12 : Int) (R : Value → PH → Prop) (F : PH) : Prop :=
 ∃ v_51 : Int, F.cell (Addr.mk b10 0 none) = some (.int .i64 v_51) ∧
 Spec prog 99 #[(.pointer v_13), (.int .i64 v_51), (.int .i64 low_11), (.int .i64 high_12)] F fun v F => ∃ v_54 : Int, v = (.int .i64 v_54) ∧
 ∃ a55_ : Addr, v_18.base = some a55_ ∧ 0 ≤ (IntKind.i64.wrap (v_24 + (2 : Int))) ∧ (IntKind.i64.wrap (v_24 + (2 : Int))) < (v_18.len : Int) ∧
 ∃ c e, F (Addr.add a55_ (Int.toNat (IntKind.i64.wrap (v_24 + (2 : Int))) * 1)).block = some (.cells c e (0, 0)) ∧ (Addr.add a55_ (Int.toNat (IntKind.i64.wrap (v_24 + (2 : Int))) * 1)).spot = none ∧ (Addr.add a55_ (Int.toNat (IntKind.i64.wrap (v_24 + (2 : Int))) * 1)).off < c.size ∧
 atF (F.set (Addr.add a55_ (Int.toNat (IntKind.i64.wrap (v_24 + (2 : Int))) * 1)).block (.cells (c.setIfInBounds (Addr.add a55_ (Int.toNat (IntKind.i64.wrap (v_24 + (2 : Int))) * 1)).off (.int .i64 v_54)) e)) fun F =>
 N1 (IntKind.i64.wrap (v_24 + (1 : Int))) F
abbrev b72J2 (N1 : Int → PH → Prop) (v_1 : Int) (value_2 : Bool) (b3 : Nat) (b6 : Nat) (v_13 : Option Addr) (v_18 : Sl) (v_24 : Int) (b10 : Nat) (v_22 : Sl) (R : Value → PH → Prop) (E : En) (F : PH) : Prop := ∃ low_11 : Int, ∃ high_12 : Int, E 1 = (.int .i64 v_1) ∧ E 2 = (.bool value_2) ∧ E 3 = (.pointer (some (Addr.mk b3 0 none))) ∧ E 6 = (.pointer (some (Addr.mk b6 0 none))) ∧ E 7 = (.pointer v_13) ∧ E 8 = (Sl.v v_18) ∧ E 9 = (.int .i64 v_24) ∧ E 10 = (.pointer (some (Addr.mk b10 0 none))) ∧ E 11 = (.int .i64 low_11) ∧ E 12 = (.int .i64 high_12) ∧ E 22 = (Sl.v v_22) ∧ E 23 = (.int .i64 (v_22.len : Int)) ∧ E 24 = (.int .i64 v_24) ∧ b72j2 N1 v_1 value_2 b3 b6 v_13 v_18 v_24 b10 v_22 low_11 high_12 R F
def b72L1 (N1 : Int → PH → Prop) (v_1 : Int) (value_2 : Bool) (b3 : Nat) (b6 : Nat) (v_13 : Option Addr) (v_18 : Sl) (v_22 : Sl) (R : Value → PH → Prop) (v_24 : Int) (F : PH) : Prop :=
 ((v_24 < (v_22.len : Int) →
  ∃ a27_ : Addr, v_22.base = some a27_ ∧ 0 ≤ v_24 ∧ v_24 < (v_22.len : Int) ∧
  ∃ v_28 : Array Value, v_28.size = 3 ∧ F.row (Addr.add a27_ (Int.toNat v_24 * 3)) v_28 ∧
  ∀ b10, F b10 = none → atF (F.set b10 (.cells (#[.int .i64 0, .int .i64 0, .int .i64 0]) 72)) fun F =>
  v_28.size = 3 ∧ (∀ v ∈ v_28.toList, storable v) ∧ ∃ c e, F (Addr.mk b10 0 none).block = some (.cells c e (0, 0)) ∧ (Addr.mk b10 0 none).spot = none ∧ (Addr.mk b10 0 none).off + 3 ≤ c.size ∧
  atF (F.set (Addr.mk b10 0 none).block (.cells (wr c (Addr.mk b10 0 none).off v_28.toList) e)) fun F =>
  ∃ v_31 : Int, F.cell (Addr.mk b10 1 none) = some (.int .i64 v_31) ∧
  ∃ a32_ : Addr, v_18.base = some a32_ ∧ 0 ≤ v_31 ∧ v_31 < (v_18.len : Int) ∧
  ∃ v_33 : Int, F.cell (Addr.add a32_ (Int.toNat v_31 * 1)) = some (.int .i64 v_33) ∧
  ∃ v_36 : Int, F.cell (Addr.mk b10 2 none) = some (.int .i64 v_36) ∧
  ∃ a37_ : Addr, v_18.base = some a37_ ∧ 0 ≤ v_36 ∧ v_36 < (v_18.len : Int) ∧
  ∃ v_38 : Int, F.cell (Addr.add a37_ (Int.toNat v_36 * 1)) = some (.int .i64 v_38) ∧
  ∃ v_40 : Int, F.cell (Addr.mk b10 0 none) = some (.int .i64 v_40) ∧
  ((v_40 = v_1 →
   ((value_2 = true →
    b72j2 N1 v_1 value_2 b3 b6 v_13 v_18 v_24 b10 v_22 v_38 v_38 R F) ∧
   (value_2 = false →
    b72j2 N1 v_1 value_2 b3 b6 v_13 v_18 v_24 b10 v_22 v_33 v_33 R F))) ∧
  (¬ (v_40 = v_1) →
   b72j2 N1 v_1 value_2 b3 b6 v_13 v_18 v_24 b10 v_22 v_33 v_38 R F))) ∧
 (¬ (v_24 < (v_22.len : Int)) →
  b72j1 b3 b6 v_13 v_18 R F))
def b72 (a_0 : Array Value) (v_1 : Int) (value_2 : Bool) (R : Value → PH → Prop) (F : PH) : Prop :=
 ∀ b3, F b3 = none → atF (F.set b3 (.cells a_0 28)) fun F =>
 ∀ b6, F b6 = none → atF (F.set b6 (.cells (#[.slice none 0 0, .int .i64 0]) 28)) fun F =>
 Spec prog 96 #[] F fun v F => ∃ v_13 : Option Addr, v = (.pointer v_13) ∧
 ∃ v_15 : Sl, F.cell (Addr.mk b3 0 none) = some (Sl.v v_15) ∧
 runs prog (Instr.makeSlice 68 (.int .i64 (IntKind.i64.wrap ((v_15.len : Int) + (2 : Int)))) (.int .i64 (IntKind.i64.wrap ((v_15.len : Int) + (2 : Int))))) F fun v F => ∃ v_18 : Sl, v = (Sl.v v_18) ∧
 ∃ a20_ : Addr, v_18.base = some a20_ ∧ 0 ≤ (1 : Int) ∧ (1 : Int) < (v_18.len : Int) ∧
 ∃ c e, F (Addr.add a20_ (Int.toNat (1 : Int) * 1)).block = some (.cells c e (0, 0)) ∧ (Addr.add a20_ (Int.toNat (1 : Int) * 1)).spot = none ∧ (Addr.add a20_ (Int.toNat (1 : Int) * 1)).off < c.size ∧
 atF (F.set (Addr.add a20_ (Int.toNat (1 : Int) * 1)).block (.cells (c.setIfInBounds (Addr.add a20_ (Int.toNat (1 : Int) * 1)).off (.int .i64 (1 : Int))) e)) fun F =>
 ∃ v_22 : Sl, F.cell (Addr.mk b3 0 none) = some (Sl.v v_22) ∧
 (∃ (I1 : Nat → Int → PH → Prop) (m1 : Nat), I1 m1 (0 : Int) F ∧ ∀ m1 v_24 F, I1 m1 v_24 F →
  b72L1 (fun v_24 F => ∃ m', m' < m1 ∧ I1 m' v_24 F) v_1 value_2 b3 b6 v_13 v_18 v_22 R v_24 F)
theorem c72 {a_0 : Array Value} {v_1 : Int} {value_2 : Bool} {R : Value → PH → Prop} {F : PH} (h : b72 a_0 v_1 value_2 R F) : Spec prog 72 #[(.agg a_0), (.int .i64 v_1), (.bool value_2)] F R := by
 refine spec_of (args := [(.agg a_0), (.int .i64 v_1), (.bool value_2)]) func72 rfl ntmps72 rfl ?_
 unfold b72 at h
 refine cR ?_
 refine s_ef (k_box (cs := a_0) rfl rfl ?_)
 intro b3 hf_b3
 replace h := atE (h b3 hf_b3)
 refine s_ef (k_alloc zr28 ?_)
 intro b6 hf_b6
 replace h := atE (h b6 hf_b6)
 refine HL_nil ?_
 refine cR ?_
 refine s_ef (k_call (vs := []) cb96 evN (h.mono ?_))
 clear h; rintro v F ⟨v_13, rfl, h⟩
 refine sR (.pointer v_13) (r_assign rfl rfl) ?_
 refine HL_nil ?_
 refine cR ?_
 refine sR (.pointer (some (Addr.mk b3 0 none))) (w_fieldAddr (a' := (Addr.mk b3 0 none)) rfl underlying28 rfl rfl sz26 rfl rfl) ?_
 obtain ⟨v_15, hc15, h⟩ := h
 refine sR (Sl.v v_15) (r_load1 rfl rfl underlying26 rfl hc15) ?_
 refine sR (.int .i64 (v_15.len : Int)) (r_lenSl rfl rfl underlying26) ?_
 refine sR (.int .i64 (IntKind.i64.wrap ((v_15.len : Int) + (2 : Int)))) (r_add rfl rfl rfl) ?_
 refine s_ef (k_makeSlice rfl rfl (runs_mono _ _ h ?_))
 clear h; rintro v F ⟨v_18, rfl, h⟩
 refine sR (Sl.v v_18) (r_assign rfl rfl) ?_
 refine HL_nil ?_
 refine cR ?_
 refine sR (Sl.v v_18) (r_move rfl rfl) ?_
 obtain ⟨a20_, hb20, hl20, hu20, h⟩ := h
 refine sR (.pointer (some (Addr.add a20_ (Int.toNat (1 : Int) * 1)))) (w_indexAddr rfl rfl underlying68 sz3 hb20 hl20 hu20) ?_
 refine s_ef0 (k_store1 (v := (.int .i64 (1 : Int))) rfl rfl sz3 rfl st_int ?_)
 obtain ⟨c, e, hz3, hz4, hz5, h⟩ := h
 refine ⟨c, e, hz3, hz4, hz5, ?_⟩
 replace h := atE h
 refine HL_nil ?_
 refine HC_seqJ (b72J1 b3 b6 v_13 v_18 R) ?_ ?_
 ·
  clear h; rintro E F ⟨h3, h6, h7, h8, h⟩
  unfold b72j1 at h
  refine cR ?_
  refine sR (.pointer v_13) (r_move rfl h7) ?_
  refine sR (Sl.v v_18) (r_move rfl h8) ?_
  refine sR (.pointer (some (Addr.mk b3 1 none))) (w_fieldAddr (a' := (Addr.mk b3 1 none)) h3 underlying28 rfl rfl sz3 rfl rfl) ?_
  obtain ⟨v_60, hc60, h⟩ := h
  refine sR (.int .i64 v_60) (r_load1 rfl rfl underlying3 rfl hc60) ?_
  obtain ⟨a61_, hb61, hl61, hu61, h⟩ := h
  refine sR (.pointer (some (Addr.add a61_ (Int.toNat v_60 * 1)))) (w_indexAddr rfl rfl underlying68 sz3 hb61 hl61 hu61) ?_
  obtain ⟨v_62, hc62, h⟩ := h
  refine sR (.int .i64 v_62) (r_load1 rfl rfl underlying3 rfl hc62) ?_
  refine s_ef (k_call (vs := [(.pointer v_13), (.int .i64 v_62)]) cb64 (evC rfl (evC rfl evN)) (h.mono ?_))
  clear h; rintro v F ⟨v_63, rfl, h⟩
  refine s_ef0 (k_storeN (vs := v_63) h6 rfl sz28 (by decide) ?_)
  obtain ⟨hz1, hz2, c, e, hz3, hz4, hz5, h⟩ := h
  refine ⟨hz1, hz2, c, e, hz3, hz4, hz5, ?_⟩
  replace h := atE h
  refine HL_nil ?_
  obtain ⟨vres_6, hs6, hr6, h⟩ := h
  exact HC_ret (show endQ prog f72 R .ret _ _ from ⟨_, res1 rfl (rv_cellN h6 underlying28 rfl sz28 hs6 hr6), h⟩)
 ·
  skip
  refine cR ?_
  refine sR (.pointer (some (Addr.mk b3 0 none))) (w_fieldAddr (a' := (Addr.mk b3 0 none)) rfl underlying28 rfl rfl sz26 rfl rfl) ?_
  obtain ⟨v_22, hc22, h⟩ := h
  refine sR (Sl.v v_22) (r_load1 rfl rfl underlying26 rfl hc22) ?_
  refine sR (.int .i64 (v_22.len : Int)) (r_lenSl rfl rfl underlying26) ?_
  refine sR (.int .i64 (0 : Int)) (r_move rfl rfl) ?_
  refine HL_nil ?_
  refine HC_block ?_
  obtain ⟨I1, m1, hI0, hr⟩ := h
  refine HC_loop (fun m1 E F => ∃ v_24 : Int, E 1 = (.int .i64 v_1) ∧ E 2 = (.bool value_2) ∧ E 3 = (.pointer (some (Addr.mk b3 0 none))) ∧ E 6 = (.pointer (some (Addr.mk b6 0 none))) ∧ E 7 = (.pointer v_13) ∧ E 8 = (Sl.v v_18) ∧ E 22 = (Sl.v v_22) ∧ E 23 = (.int .i64 (v_22.len : Int)) ∧ E 24 = (.int .i64 v_24) ∧ I1 m1 v_24 F) m1 ⟨_, rfl, rfl, rfl, rfl, rfl, rfl, rfl, rfl, rfl, hI0⟩ ?_
  clear hI0; rintro m1 E F ⟨v_24, h1, h2, h3, h6, h7, h8, h22, h23, h24, hI⟩
  have h := hr m1 v_24 F hI
  clear hr hI
  unfold b72L1 at h
  refine cR ?_
  refine sR (.bool (decide (v_24 < (v_22.len : Int)))) (r_lss rfl h24 h23) ?_
  refine HL_nil ?_
  refine HC_seq ?_
  refine HC_cond (t := (decide (v_24 < (v_22.len : Int)))) rfl (fun hc => ?_) (fun hc => ?_)
  ·
   replace h := h.1 (of_decide_eq_true hc)
   clear hc
   refine HC_skip ?_
   refine HC_seq ?_
   refine HC_block ?_
   refine cR ?_
   refine sR (.int .i64 v_24) (r_move rfl h24) ?_
   obtain ⟨a27_, hb27, hl27, hu27, h⟩ := h
   refine sR (.pointer (some (Addr.add a27_ (Int.toNat v_24 * 3)))) (w_indexAddr h22 h24 underlying26 sz72 hb27 hl27 hu27) ?_
   obtain ⟨v_28, hs28, hc28, h⟩ := h
   refine sR (.agg v_28) (w_loadN rfl underlying72 rfl sz72 hs28 hc28) ?_
   refine s_ef (k_alloc zr72 ?_)
   intro b10 hf_b10
   replace h := atE (h b10 hf_b10)
   refine sR (.int .i64 v_24) (r_assign rfl rfl) ?_
   refine s_ef0 (k_storeN (vs := v_28) rfl rfl sz72 (by decide) ?_)
   obtain ⟨hz1, hz2, c, e, hz3, hz4, hz5, h⟩ := h
   refine ⟨hz1, hz2, c, e, hz3, hz4, hz5, ?_⟩
   replace h := atE h
   refine HL_nil ?_
   refine HC_seq ?_
   refine HC_draw0 (by kernel_rfl) (fun hp => ?_)
   refine gU 0 (Sl.v v_18) rfl (fun _ => r_move rfl h8) hp ?_
   refine gU 1 (.pointer (some (Addr.mk b10 1 none))) rfl (fun _ => w_fieldAddr (a' := (Addr.mk b10 1 none)) rfl underlying72 rfl rfl sz3 rfl rfl) hp ?_
   obtain ⟨v_31, hc31, h⟩ := h
   refine gR 2 (.int .i64 v_31) rfl (r_load1 rfl rfl underlying3 rfl hc31) hp (fun S2 q2 => ?_)
   replace hp := holdC (i := 2) (q2 _ (r_load1 rfl rfl underlying3 rfl hc31)) hp
   obtain ⟨a32_, hb32, hl32, hu32, h⟩ := h
   refine gU 3 (.pointer (some (Addr.add a32_ (Int.toNat v_31 * 1)))) rfl (fun _ => w_indexAddr rfl rfl underlying68 sz3 hb32 hl32 hu32) hp ?_
   obtain ⟨v_33, hc33, h⟩ := h
   refine gR 4 (.int .i64 v_33) rfl (r_load1 rfl rfl underlying3 rfl hc33) hp (fun S4 q4 => ?_)
   replace hp := holdC (i := 4) (q4 _ (r_load1 rfl rfl underlying3 rfl hc33)) hp
   refine gU 5 (Sl.v v_18) rfl (fun _ => r_move rfl h8) hp ?_
   refine gU 6 (.pointer (some (Addr.mk b10 2 none))) rfl (fun _ => w_fieldAddr (a' := (Addr.mk b10 2 none)) rfl underlying72 rfl rfl sz3 rfl rfl) hp ?_
   obtain ⟨v_36, hc36, h⟩ := h
   refine gR 7 (.int .i64 v_36) rfl (r_load1 rfl rfl underlying3 rfl hc36) hp (fun S7 q7 => ?_)
   replace hp := holdC (i := 7) (q7 _ (r_load1 rfl rfl underlying3 rfl hc36)) hp
   obtain ⟨a37_, hb37, hl37, hu37, h⟩ := h
   refine gU 8 (.pointer (some (Addr.add a37_ (Int.toNat v_36 * 1)))) rfl (fun _ => w_indexAddr rfl rfl underlying68 sz3 hb37 hl37 hu37) hp ?_
   obtain ⟨v_38, hc38, h⟩ := h
   refine gR 9 (.int .i64 v_38) rfl (r_load1 rfl rfl underlying3 rfl hc38) hp (fun S9 q9 => ?_)
   replace hp := holdC (i := 9) (q9 _ (r_load1 rfl rfl underlying3 rfl hc38)) hp
   refine gU 10 (.int .i64 v_33) rfl (fun _ => r_assign rfl rfl) hp ?_
   refine gU 11 (.int .i64 v_38) rfl (fun _ => r_assign rfl rfl) hp ?_
   refine RG_done (by kernel_rfl) ?_
   refine HC_seqJ (b72J2 (fun v_24 F => ∃ m', m' < m1 ∧ I1 m' v_24 F) v_1 value_2 b3 b6 v_13 v_18 v_24 b10 v_22 R) ?_ ?_
   ·
    clear h; rintro E F ⟨low_11, high_12, h1, h2, h3, h6, h7, h8, h9, h10, h11, h12, h22, h23, h24, h⟩
    unfold b72j2 at h
    refine HC_region ?_
    refine sR (Sl.v v_18) (r_move rfl h8) ?_
    refine sR (.int .i64 v_24) (r_move rfl h9) ?_
    refine sR (.int .i64 (IntKind.i64.wrap (v_24 + (2 : Int)))) (r_add rfl rfl rfl) ?_
    refine sR (.pointer v_13) (r_move rfl h7) ?_
    refine sR (.pointer (some (Addr.mk b10 0 none))) (w_fieldAddr (a' := (Addr.mk b10 0 none)) h10 underlying72 rfl rfl sz3 rfl rfl) ?_
    obtain ⟨v_51, hc51, h⟩ := h
    refine sR (.int .i64 v_51) (r_load1 rfl rfl underlying3 rfl hc51) ?_
    refine sR (.int .i64 low_11) (r_move rfl h11) ?_
    refine sR (.int .i64 high_12) (r_move rfl h12) ?_
    refine s_ef (k_call (vs := [(.pointer v_13), (.int .i64 v_51), (.int .i64 low_11), (.int .i64 high_12)]) cb99 (evC rfl (evC rfl (evC rfl (evC rfl evN)))) (h.mono ?_))
    clear h; rintro v F ⟨v_54, rfl, h⟩
    obtain ⟨a55_, hb55, hl55, hu55, h⟩ := h
    refine sR (.pointer (some (Addr.add a55_ (Int.toNat (IntKind.i64.wrap (v_24 + (2 : Int))) * 1)))) (w_indexAddr rfl rfl underlying68 sz3 hb55 hl55 hu55) ?_
    refine s_ef0 (k_store1 (v := (.int .i64 v_54)) rfl rfl sz3 rfl st_int ?_)
    obtain ⟨c, e, hz3, hz4, hz5, h⟩ := h
    refine ⟨c, e, hz3, hz4, hz5, ?_⟩
    replace h := atE h
    refine HL_nil ?_
    refine HC_region ?_
    refine sR (.int .i64 (IntKind.i64.wrap (v_24 + (1 : Int)))) (r_add rfl h24 rfl) ?_
    refine sR (.int .i64 (IntKind.i64.wrap (v_24 + (1 : Int)))) (r_move rfl rfl) ?_
    refine HL_nil ?_
    obtain ⟨m', hm, h⟩ := h
    exact ⟨m', hm, _, h1, h2, h3, h6, h7, h8, h22, h23, rfl, h⟩
   ·
    skip
    refine cR ?_
    refine sR (.pointer (some (Addr.mk b10 0 none))) (w_fieldAddr (a' := (Addr.mk b10 0 none)) rfl underlying72 rfl rfl sz3 rfl rfl) ?_
    obtain ⟨v_40, hc40, h⟩ := h
    refine sR (.int .i64 v_40) (r_load1 rfl rfl underlying3 rfl hc40) ?_
    refine sR (.int .i64 v_1) (r_move rfl h1) ?_
    refine sR (.bool (decide (v_40 = v_1))) (w_eql rfl rfl) ?_
    refine HL_nil ?_
    refine HC_cond (t := (decide (v_40 = v_1))) rfl (fun hc => ?_) (fun hc => ?_)
    ·
     replace h := h.1 (of_decide_eq_true hc)
     clear hc
     refine HC_seq ?_
     refine cR ?_
     refine sR (.bool value_2) (r_move rfl h2) ?_
     refine HL_nil ?_
     refine HC_cond (t := value_2) rfl (fun hc => ?_) (fun hc => ?_)
     ·
      replace h := h.1 hc
      clear hc
      refine HC_region ?_
      refine sR (.int .i64 v_38) (r_move rfl rfl) ?_
      refine sR (.int .i64 v_38) (r_assign rfl rfl) ?_
      refine HL_nil ?_
      refine HC_region ?_
      refine sR (.int .i64 v_38) (r_move rfl rfl) ?_
      refine sR (.int .i64 v_38) (r_assign rfl rfl) ?_
      refine HL_nil ?_
      show b72J2 (fun v_24 F => ∃ m', m' < m1 ∧ I1 m' v_24 F) v_1 value_2 b3 b6 v_13 v_18 v_24 b10 v_22 R _ _
      exact ⟨_, _, h1, h2, h3, h6, h7, h8, rfl, rfl, rfl, rfl, h22, h23, h24, h⟩
     ·
      replace h := h.2 hc
      clear hc
      refine HC_skip ?_
      refine HC_region ?_
      refine sR (.int .i64 v_33) (r_move rfl rfl) ?_
      refine sR (.int .i64 v_33) (r_assign rfl rfl) ?_
      refine HL_nil ?_
      show b72J2 (fun v_24 F => ∃ m', m' < m1 ∧ I1 m' v_24 F) v_1 value_2 b3 b6 v_13 v_18 v_24 b10 v_22 R _ _
      exact ⟨_, _, h1, h2, h3, h6, h7, h8, rfl, rfl, rfl, rfl, h22, h23, h24, h⟩
    ·
     replace h := h.2 (of_decide_eq_false hc)
     clear hc
     refine HC_skip ?_
     show b72J2 (fun v_24 F => ∃ m', m' < m1 ∧ I1 m' v_24 F) v_1 value_2 b3 b6 v_13 v_18 v_24 b10 v_22 R _ _
     exact ⟨_, _, h1, h2, h3, h6, h7, h8, rfl, rfl, rfl, rfl, h22, h23, h24, h⟩
  ·
   replace h := h.2 (of_decide_eq_false hc)
   clear hc
   refine HC_exit ?_
   show b72J1 b3 b6 v_13 v_18 R _ _
   exact ⟨h3, h6, h7, h8, h⟩

/- 28 koine.diagram.Restrict -/
def b28j1 (v_1 : Int) (value_2 : Bool) (b3 : Nat) (b6 : Nat) (v_20 : Bool) (R : Value → PH → Prop) (F : PH) : Prop :=
 ((v_20 = true →
  (#[.slice none 0 0, .int .i64 0] : Array Value).size = 2 ∧ (∀ v ∈ (#[.slice none 0 0, .int .i64 0] : Array Value).toList, storable v) ∧ ∃ c e, F (Addr.mk b6 0 none).block = some (.cells c e (0, 0)) ∧ (Addr.mk b6 0 none).spot = none ∧ (Addr.mk b6 0 none).off + 2 ≤ c.size ∧
  atF (F.set (Addr.mk b6 0 none).block (.cells (wr c (Addr.mk b6 0 none).off (#[.slice none 0 0, .int .i64 0] : Array Value).toList) e)) fun F =>
  ∃ vres_6_1 : Array Value, vres_6_1.size = 2 ∧ F.row (Addr.mk b6 0 none) vres_6_1 ∧ R (.tuple #[(.agg vres_6_1), (.int .i64 (1 : Int))]) F) ∧
 (v_20 = false →
  ∃ v_22 : Array Value, v_22.size = 2 ∧ F.row (Addr.mk b3 0 none) v_22 ∧
  Spec prog 72 #[(.agg v_22), (.int .i64 v_1), (.bool value_2)] F fun v F => ∃ v_25 : Array Value, v = (.agg v_25) ∧
  Spec prog 69 #[(.agg v_25)] F fun v F => ∃ v_26 : Array Value, ∃ v_26_1 : Int, v = (.tuple #[(.agg v_26), (.int .i64 v_26_1)]) ∧
  v_26.size = 2 ∧ (∀ v ∈ v_26.toList, storable v) ∧ ∃ c e, F (Addr.mk b6 0 none).block = some (.cells c e (0, 0)) ∧ (Addr.mk b6 0 none).spot = none ∧ (Addr.mk b6 0 none).off + 2 ≤ c.size ∧
  atF (F.set (Addr.mk b6 0 none).block (.cells (wr c (Addr.mk b6 0 none).off v_26.toList) e)) fun F =>
  ∃ vres_6_2 : Array Value, vres_6_2.size = 2 ∧ F.row (Addr.mk b6 0 none) vres_6_2 ∧ R (.tuple #[(.agg vres_6_2), (.int .i64 v_26_1)]) F))
abbrev b28J1 (v_1 : Int) (value_2 : Bool) (b3 : Nat) (b6 : Nat) (R : Value → PH → Prop) (E : En) (F : PH) : Prop := ∃ v_20 : Bool, E 1 = (.int .i64 v_1) ∧ E 2 = (.bool value_2) ∧ E 3 = (.pointer (some (Addr.mk b3 0 none))) ∧ E 6 = (.pointer (some (Addr.mk b6 0 none))) ∧ E 20 = (.bool v_20) ∧ b28j1 v_1 value_2 b3 b6 v_20 R F
def b28 (a_0 : Array Value) (v_1 : Int) (value_2 : Bool) (R : Value → PH → Prop) (F : PH) : Prop :=
 ∀ b3, F b3 = none → atF (F.set b3 (.cells a_0 28)) fun F =>
 ∀ b6, F b6 = none → atF (F.set b6 (.cells (#[.slice none 0 0, .int .i64 0]) 28)) fun F =>
 ∃ v_9 : Array Value, v_9.size = 2 ∧ F.row (Addr.mk b3 0 none) v_9 ∧
 Spec prog 23 #[(.agg v_9)] F fun v F => ∃ v_10 : Int, v = (.int .i64 v_10) ∧
 ((v_10 ≠ (0 : Int) →
  (#[.slice none 0 0, .int .i64 0] : Array Value).size = 2 ∧ (∀ v ∈ (#[.slice none 0 0, .int .i64 0] : Array Value).toList, storable v) ∧ ∃ c e, F (Addr.mk b6 0 none).block = some (.cells c e (0, 0)) ∧ (Addr.mk b6 0 none).spot = none ∧ (Addr.mk b6 0 none).off + 2 ≤ c.size ∧
  atF (F.set (Addr.mk b6 0 none).block (.cells (wr c (Addr.mk b6 0 none).off (#[.slice none 0 0, .int .i64 0] : Array Value).toList) e)) fun F =>
  ∃ vres_6 : Array Value, vres_6.size = 2 ∧ F.row (Addr.mk b6 0 none) vres_6 ∧ R (.tuple #[(.agg vres_6), (.int .i64 v_10)]) F) ∧
 (¬ (v_10 ≠ (0 : Int)) →
  ((v_1 < (0 : Int) →
   b28j1 v_1 value_2 b3 b6 true R F) ∧
  (¬ (v_1 < (0 : Int)) →
   b28j1 v_1 value_2 b3 b6 (decide ((63 : Int) < v_1)) R F))))
theorem c28 {a_0 : Array Value} {v_1 : Int} {value_2 : Bool} {R : Value → PH → Prop} {F : PH} (h : b28 a_0 v_1 value_2 R F) : Spec prog 28 #[(.agg a_0), (.int .i64 v_1), (.bool value_2)] F R := by
 refine spec_of (args := [(.agg a_0), (.int .i64 v_1), (.bool value_2)]) func28 rfl ntmps28 rfl ?_
 unfold b28 at h
 refine cR ?_
 refine s_ef (k_box (cs := a_0) rfl rfl ?_)
 intro b3 hf_b3
 replace h := atE (h b3 hf_b3)
 refine s_ef (k_alloc zr28 ?_)
 intro b6 hf_b6
 replace h := atE (h b6 hf_b6)
 refine sR (.int .i64 (0 : Int)) (r_assign rfl rfl) ?_
 refine HL_nil ?_
 refine HC_seq ?_
 refine cR ?_
 obtain ⟨v_9, hs9, hc9, h⟩ := h
 refine sR (.agg v_9) (w_loadN rfl underlying28 rfl sz28 hs9 hc9) ?_
 refine s_ef (k_call (vs := [(.agg v_9)]) cb23 (evC rfl evN) (h.mono ?_))
 clear h; rintro v F ⟨v_10, rfl, h⟩
 refine sR (.int .i64 v_10) (r_assign rfl rfl) ?_
 refine HL_nil ?_
 refine cR ?_
 refine sR (.int .i64 v_10) (r_move rfl rfl) ?_
 refine sR (.bool (decide (v_10 ≠ (0 : Int)))) (w_neq rfl rfl) ?_
 refine HL_nil ?_
 refine HC_cond (t := (decide (v_10 ≠ (0 : Int)))) rfl (fun hc => ?_) (fun hc => ?_)
 ·
  replace h := h.1 (of_decide_eq_true hc)
  clear hc
  refine cR ?_
  refine sR (.agg (#[.slice none 0 0, .int .i64 0] : Array Value)) (w_buildStruct (cells := #[.slice none 0 0, .int .i64 0]) underlying28 zr28 kf28 (evPN) (fillN rfl)) ?_
  refine sR (.int .i64 v_10) (r_move rfl rfl) ?_
  refine s_ef0 (k_storeN (vs := (#[.slice none 0 0, .int .i64 0] : Array Value)) rfl rfl sz28 (by decide) ?_)
  obtain ⟨hz1, hz2, c, e, hz3, hz4, hz5, h⟩ := h
  refine ⟨hz1, hz2, c, e, hz3, hz4, hz5, ?_⟩
  replace h := atE h
  refine sR (.int .i64 v_10) (r_assign rfl rfl) ?_
  refine HL_nil ?_
  obtain ⟨vres_6, hs6, hr6, h⟩ := h
  exact HC_ret (show endQ prog f28 R .ret _ _ from ⟨_, res2 rfl (rv_cellN rfl underlying28 rfl sz28 hs6 hr6) (rv_tmp rfl), h⟩)
 ·
  replace h := h.2 (of_decide_eq_false hc)
  clear hc
  refine HC_skip ?_
  refine HC_seq ?_
  refine HC_seqJ (b28J1 v_1 value_2 b3 b6 R) ?_ ?_
  ·
   clear h; rintro E F ⟨v_20, h1, h2, h3, h6, h20, h⟩
   unfold b28j1 at h
   refine HC_cond (t := v_20) h20 (fun hc => ?_) (fun hc => ?_)
   ·
    replace h := h.1 hc
    clear hc
    refine cR ?_
    refine sR (.agg (#[.slice none 0 0, .int .i64 0] : Array Value)) (w_buildStruct (cells := #[.slice none 0 0, .int .i64 0]) underlying28 zr28 kf28 (evPN) (fillN rfl)) ?_
    refine s_ef0 (k_storeN (vs := (#[.slice none 0 0, .int .i64 0] : Array Value)) h6 rfl sz28 (by decide) ?_)
    obtain ⟨hz1, hz2, c, e, hz3, hz4, hz5, h⟩ := h
    refine ⟨hz1, hz2, c, e, hz3, hz4, hz5, ?_⟩
    replace h := atE h
    refine sR (.int .i64 (1 : Int)) (r_assign rfl rfl) ?_
    refine HL_nil ?_
    obtain ⟨vres_6_1, hs6, hr6, h⟩ := h
    exact HC_ret (show endQ prog f28 R .ret _ _ from ⟨_, res2 rfl (rv_cellN h6 underlying28 rfl sz28 hs6 hr6) (rv_tmp rfl), h⟩)
   ·
    replace h := h.2 hc
    clear hc
    refine HC_skip ?_
    refine cR ?_
    obtain ⟨v_22, hs22, hc22, h⟩ := h
    refine sR (.agg v_22) (w_loadN h3 underlying28 rfl sz28 hs22 hc22) ?_
    refine sR (.int .i64 v_1) (r_move rfl h1) ?_
    refine sR (.bool value_2) (r_move rfl h2) ?_
    refine s_ef (k_call (vs := [(.agg v_22), (.int .i64 v_1), (.bool value_2)]) cb72 (evC rfl (evC rfl (evC rfl evN))) (h.mono ?_))
    clear h; rintro v F ⟨v_25, rfl, h⟩
    refine s_ef (k_call (vs := [(.agg v_25)]) cb69 (evC rfl evN) (h.mono ?_))
    clear h; rintro v F ⟨v_26, v_26_1, rfl, h⟩
    refine sR (.agg v_26) (r_extract rfl rfl rfl) ?_
    refine sR (.int .i64 v_26_1) (r_extract rfl rfl rfl) ?_
    refine s_ef0 (k_storeN (vs := v_26) h6 rfl sz28 (by decide) ?_)
    obtain ⟨hz1, hz2, c, e, hz3, hz4, hz5, h⟩ := h
    refine ⟨hz1, hz2, c, e, hz3, hz4, hz5, ?_⟩
    replace h := atE h
    refine sR (.int .i64 v_26_1) (r_assign rfl rfl) ?_
    refine HL_nil ?_
    obtain ⟨vres_6_2, hs6, hr6, h⟩ := h
    exact HC_ret (show endQ prog f28 R .ret _ _ from ⟨_, res2 rfl (rv_cellN h6 underlying28 rfl sz28 hs6 hr6) (rv_tmp rfl), h⟩)
  ·
   skip
   refine HC_region ?_
   refine sR (.int .i64 v_1) (r_move rfl rfl) ?_
   refine sR (.bool (decide (v_1 < (0 : Int)))) (r_lss rfl rfl rfl) ?_
   refine sR (.bool (decide (v_1 < (0 : Int)))) (r_move rfl rfl) ?_
   by_cases hc : v_1 < (0 : Int)
   ·
    replace h := h.1 hc
    refine kN 16 (decide_eq_true hc) ?_
    refine kN 17 (decide_eq_true hc) ?_
    refine s_skip ?_
    refine s_skip ?_
    refine sR (.bool true) (r_pick rfl rfl (fun _ => rfl) (fun h => by cases h)) ?_
    refine HL_nil ?_
    show b28J1 v_1 value_2 b3 b6 R _ _
    exact ⟨_, rfl, rfl, rfl, rfl, rfl, h⟩
   ·
    replace h := h.2 hc
    refine kN 16 (decide_eq_false hc) ?_
    refine kN 17 (decide_eq_false hc) ?_
    refine sR (.int .i64 v_1) (r_move rfl rfl) ?_
    refine sR (.bool (decide ((63 : Int) < v_1))) (r_gtr rfl rfl rfl) ?_
    refine sR (.bool (decide ((63 : Int) < v_1))) (r_pick rfl rfl (fun h => by cases h) (fun _ => rfl)) ?_
    refine HL_nil ?_
    show b28J1 v_1 value_2 b3 b6 R _ _
    exact ⟨_, rfl, rfl, rfl, rfl, rfl, h⟩

/- 29 koine.diagram.Exists -/
def b29j1 (v_1 : Int) (b2 : Nat) (b4 : Nat) (v_18 : Bool) (R : Value → PH → Prop) (F : PH) : Prop :=
 ((v_18 = true →
  (#[.slice none 0 0, .int .i64 0] : Array Value).size = 2 ∧ (∀ v ∈ (#[.slice none 0 0, .int .i64 0] : Array Value).toList, storable v) ∧ ∃ c e, F (Addr.mk b4 0 none).block = some (.cells c e (0, 0)) ∧ (Addr.mk b4 0 none).spot = none ∧ (Addr.mk b4 0 none).off + 2 ≤ c.size ∧
  atF (F.set (Addr.mk b4 0 none).block (.cells (wr c (Addr.mk b4 0 none).off (#[.slice none 0 0, .int .i64 0] : Array Value).toList) e)) fun F =>
  ∃ vres_4_1 : Array Value, vres_4_1.size = 2 ∧ F.row (Addr.mk b4 0 none) vres_4_1 ∧ R (.tuple #[(.agg vres_4_1), (.int .i64 (1 : Int))]) F) ∧
 (v_18 = false →
  ∃ v_20 : Array Value, v_20.size = 2 ∧ F.row (Addr.mk b2 0 none) v_20 ∧
  ∃ v_23 : Array Value, v_23.size = 2 ∧ F.row (Addr.mk b2 0 none) v_23 ∧
  Spec prog 72 #[(.agg v_20), (.int .i64 v_1), (.bool false)] F fun v F => ∃ v_22 : Array Value, v = (.agg v_22) ∧
  F.row (Addr.mk b2 0 none) v_23 ∧ Spec prog 72 #[(.agg v_23), (.int .i64 v_1), (.bool true)] F fun v F => ∃ v_25 : Array Value, v = (.agg v_25) ∧
  v_22.size = 2 ∧ v_25.size = 2 ∧ (#[.slice none 0 0, .int .i64 0] : Array Value).size = 2 ∧ Spec prog 70 #[(.agg (wr (wr (wr (#[.slice none 0 0, .int .i64 0, .slice none 0 0, .int .i64 0, .slice none 0 0, .int .i64 0] : Array Value) 0 v_22.toList) 2 v_25.toList) 4 (#[.slice none 0 0, .int .i64 0] : Array Value).toList)), (.func (.func 73) #[] #[])] F fun v F => ∃ v_28 : Array Value, v = (.agg v_28) ∧
  Spec prog 69 #[(.agg v_28)] F fun v F => ∃ v_29 : Array Value, ∃ v_29_1 : Int, v = (.tuple #[(.agg v_29), (.int .i64 v_29_1)]) ∧
  v_29.size = 2 ∧ (∀ v ∈ v_29.toList, storable v) ∧ ∃ c e, F (Addr.mk b4 0 none).block = some (.cells c e (0, 0)) ∧ (Addr.mk b4 0 none).spot = none ∧ (Addr.mk b4 0 none).off + 2 ≤ c.size ∧
  atF (F.set (Addr.mk b4 0 none).block (.cells (wr c (Addr.mk b4 0 none).off v_29.toList) e)) fun F =>
  ∃ vres_4_2 : Array Value, vres_4_2.size = 2 ∧ F.row (Addr.mk b4 0 none) vres_4_2 ∧ R (.tuple #[(.agg vres_4_2), (.int .i64 v_29_1)]) F))
abbrev b29J1 (v_1 : Int) (b2 : Nat) (b4 : Nat) (R : Value → PH → Prop) (E : En) (F : PH) : Prop := ∃ v_18 : Bool, E 1 = (.int .i64 v_1) ∧ E 2 = (.pointer (some (Addr.mk b2 0 none))) ∧ E 4 = (.pointer (some (Addr.mk b4 0 none))) ∧ E 18 = (.bool v_18) ∧ b29j1 v_1 b2 b4 v_18 R F
def b29 (a_0 : Array Value) (v_1 : Int) (R : Value → PH → Prop) (F : PH) : Prop :=
 ∀ b2, F b2 = none → atF (F.set b2 (.cells a_0 28)) fun F =>
 ∀ b4, F b4 = none → atF (F.set b4 (.cells (#[.slice none 0 0, .int .i64 0]) 28)) fun F =>
 ∃ v_7 : Array Value, v_7.size = 2 ∧ F.row (Addr.mk b2 0 none) v_7 ∧
 Spec prog 23 #[(.agg v_7)] F fun v F => ∃ v_8 : Int, v = (.int .i64 v_8) ∧
 ((v_8 ≠ (0 : Int) →
  (#[.slice none 0 0, .int .i64 0] : Array Value).size = 2 ∧ (∀ v ∈ (#[.slice none 0 0, .int .i64 0] : Array Value).toList, storable v) ∧ ∃ c e, F (Addr.mk b4 0 none).block = some (.cells c e (0, 0)) ∧ (Addr.mk b4 0 none).spot = none ∧ (Addr.mk b4 0 none).off + 2 ≤ c.size ∧
  atF (F.set (Addr.mk b4 0 none).block (.cells (wr c (Addr.mk b4 0 none).off (#[.slice none 0 0, .int .i64 0] : Array Value).toList) e)) fun F =>
  ∃ vres_4 : Array Value, vres_4.size = 2 ∧ F.row (Addr.mk b4 0 none) vres_4 ∧ R (.tuple #[(.agg vres_4), (.int .i64 v_8)]) F) ∧
 (¬ (v_8 ≠ (0 : Int)) →
  ((v_1 < (0 : Int) →
   b29j1 v_1 b2 b4 true R F) ∧
  (¬ (v_1 < (0 : Int)) →
   b29j1 v_1 b2 b4 (decide ((63 : Int) < v_1)) R F))))
theorem c29 {a_0 : Array Value} {v_1 : Int} {R : Value → PH → Prop} {F : PH} (h : b29 a_0 v_1 R F) : Spec prog 29 #[(.agg a_0), (.int .i64 v_1)] F R := by
 refine spec_of (args := [(.agg a_0), (.int .i64 v_1)]) func29 rfl ntmps29 rfl ?_
 unfold b29 at h
 refine cR ?_
 refine s_ef (k_box (cs := a_0) rfl rfl ?_)
 intro b2 hf_b2
 replace h := atE (h b2 hf_b2)
 refine s_ef (k_alloc zr28 ?_)
 intro b4 hf_b4
 replace h := atE (h b4 hf_b4)
 refine sR (.int .i64 (0 : Int)) (r_assign rfl rfl) ?_
 refine HL_nil ?_
 refine HC_seq ?_
 refine cR ?_
 obtain ⟨v_7, hs7, hc7, h⟩ := h
 refine sR (.agg v_7) (w_loadN rfl underlying28 rfl sz28 hs7 hc7) ?_
 refine s_ef (k_call (vs := [(.agg v_7)]) cb23 (evC rfl evN) (h.mono ?_))
 clear h; rintro v F ⟨v_8, rfl, h⟩
 refine sR (.int .i64 v_8) (r_assign rfl rfl) ?_
 refine HL_nil ?_
 refine cR ?_
 refine sR (.int .i64 v_8) (r_move rfl rfl) ?_
 refine sR (.bool (decide (v_8 ≠ (0 : Int)))) (w_neq rfl rfl) ?_
 refine HL_nil ?_
 refine HC_cond (t := (decide (v_8 ≠ (0 : Int)))) rfl (fun hc => ?_) (fun hc => ?_)
 ·
  replace h := h.1 (of_decide_eq_true hc)
  clear hc
  refine cR ?_
  refine sR (.agg (#[.slice none 0 0, .int .i64 0] : Array Value)) (w_buildStruct (cells := #[.slice none 0 0, .int .i64 0]) underlying28 zr28 kf28 (evPN) (fillN rfl)) ?_
  refine sR (.int .i64 v_8) (r_move rfl rfl) ?_
  refine s_ef0 (k_storeN (vs := (#[.slice none 0 0, .int .i64 0] : Array Value)) rfl rfl sz28 (by decide) ?_)
  obtain ⟨hz1, hz2, c, e, hz3, hz4, hz5, h⟩ := h
  refine ⟨hz1, hz2, c, e, hz3, hz4, hz5, ?_⟩
  replace h := atE h
  refine sR (.int .i64 v_8) (r_assign rfl rfl) ?_
  refine HL_nil ?_
  obtain ⟨vres_4, hs4, hr4, h⟩ := h
  exact HC_ret (show endQ prog f29 R .ret _ _ from ⟨_, res2 rfl (rv_cellN rfl underlying28 rfl sz28 hs4 hr4) (rv_tmp rfl), h⟩)
 ·
  replace h := h.2 (of_decide_eq_false hc)
  clear hc
  refine HC_skip ?_
  refine HC_seq ?_
  refine HC_seqJ (b29J1 v_1 b2 b4 R) ?_ ?_
  ·
   clear h; rintro E F ⟨v_18, h1, h2, h4, h18, h⟩
   unfold b29j1 at h
   refine HC_cond (t := v_18) h18 (fun hc => ?_) (fun hc => ?_)
   ·
    replace h := h.1 hc
    clear hc
    refine cR ?_
    refine sR (.agg (#[.slice none 0 0, .int .i64 0] : Array Value)) (w_buildStruct (cells := #[.slice none 0 0, .int .i64 0]) underlying28 zr28 kf28 (evPN) (fillN rfl)) ?_
    refine s_ef0 (k_storeN (vs := (#[.slice none 0 0, .int .i64 0] : Array Value)) h4 rfl sz28 (by decide) ?_)
    obtain ⟨hz1, hz2, c, e, hz3, hz4, hz5, h⟩ := h
    refine ⟨hz1, hz2, c, e, hz3, hz4, hz5, ?_⟩
    replace h := atE h
    refine sR (.int .i64 (1 : Int)) (r_assign rfl rfl) ?_
    refine HL_nil ?_
    obtain ⟨vres_4_1, hs4, hr4, h⟩ := h
    exact HC_ret (show endQ prog f29 R .ret _ _ from ⟨_, res2 rfl (rv_cellN h4 underlying28 rfl sz28 hs4 hr4) (rv_tmp rfl), h⟩)
   ·
    replace h := h.2 hc
    clear hc
    refine HC_skip ?_
    refine HC_seq ?_
    refine HC_draw0 (by kernel_rfl) (fun hp => ?_)
    obtain ⟨v_20, hs20, hc20, h⟩ := h
    refine gR 0 (.agg v_20) rfl (w_loadN h2 underlying28 rfl sz28 hs20 hc20) hp (fun S0 q0 => ?_)
    replace hp := holdC (i := 0) (q0 _ (w_loadN h2 underlying28 rfl sz28 hs20 hc20)) hp
    refine gU 1 (.int .i64 v_1) rfl (fun _ => r_move rfl h1) hp ?_
    obtain ⟨v_23, hs23, hc23, h⟩ := h
    refine gR 3 (.agg v_23) rfl (w_loadN h2 underlying28 rfl sz28 hs23 hc23) hp (fun S3 q3 => ?_)
    replace hp := holdC (i := 3) (q3 _ (w_loadN h2 underlying28 rfl sz28 hs23 hc23)) hp
    refine gU 4 (.int .i64 v_1) rfl (fun _ => r_move rfl h1) hp ?_
    refine gU 6 (.agg (#[.slice none 0 0, .int .i64 0] : Array Value)) rfl (fun _ => w_buildStruct (cells := #[.slice none 0 0, .int .i64 0]) underlying28 zr28 kf28 (evPN) (fillN rfl)) hp ?_
    refine RG_eff1 (i := 2) (by kernel_rfl) (g_op (Sp' := [(3, S3)]) rfl rfl (k_call (vs := [(.agg v_20), (.int .i64 v_1), (.bool false)]) cb72 (evC rfl (evC rfl (evC rfl evN))) (h.mono ?_)))
    clear h; rintro v F ⟨v_22, rfl, h⟩
    obtain ⟨hk_2, h⟩ := h
    refine holdI (holdC (i := 3) (q3 _ (w_loadN h2 underlying28 rfl sz28 hs23 hk_2)) hold0) (fun hp => ?_)
    refine RG_eff1 (i := 5) (by kernel_rfl) (g_op (Sp' := []) rfl rfl (k_call (vs := [(.agg v_23), (.int .i64 v_1), (.bool true)]) cb72 (evC rfl (evC rfl (evC rfl evN))) (h.mono ?_)))
    clear h; rintro v F ⟨v_25, rfl, h⟩
    refine holdI hold0 (fun hp => ?_)
    obtain ⟨hz27_0, hz27_1, hz27_2, h⟩ := h
    refine gU 7 (.agg (wr (wr (wr (#[.slice none 0 0, .int .i64 0, .slice none 0 0, .int .i64 0, .slice none 0 0, .int .i64 0] : Array Value) 0 v_22.toList) 2 v_25.toList) 4 (#[.slice none 0 0, .int .i64 0] : Array Value).toList)) rfl (fun _ => w_buildArray (cells := (wr (wr (wr (#[.slice none 0 0, .int .i64 0, .slice none 0 0, .int .i64 0, .slice none 0 0, .int .i64 0] : Array Value) 0 v_22.toList) 2 v_25.toList) 4 (#[.slice none 0 0, .int .i64 0] : Array Value).toList)) underlying89 zr89 sz28 (evPC rfl (evPC rfl (evPC rfl evPN))) (fillA rfl hz27_0 (by first | rfl | (simp only [wr_size, Array.size_setIfInBounds]; rfl)) (fillA rfl hz27_1 (by first | rfl | (simp only [wr_size, Array.size_setIfInBounds]; rfl)) (fillA rfl hz27_2 (by first | rfl | (simp only [wr_size, Array.size_setIfInBounds]; rfl)) (fillN rfl))))) hp ?_
    refine RG_eff1 (i := 8) (by kernel_rfl) (g_op (Sp' := []) rfl rfl (k_call (vs := [(.agg (wr (wr (wr (#[.slice none 0 0, .int .i64 0, .slice none 0 0, .int .i64 0, .slice none 0 0, .int .i64 0] : Array Value) 0 v_22.toList) 2 v_25.toList) 4 (#[.slice none 0 0, .int .i64 0] : Array Value).toList)), (.func (.func 73) #[] #[])]) cb70 (evC rfl (evC rfl evN)) (h.mono ?_)))
    clear h; rintro v F ⟨v_28, rfl, h⟩
    refine holdI hold0 (fun hp => ?_)
    refine RG_eff1 (i := 9) (by kernel_rfl) (g_op (Sp' := []) rfl rfl (k_call (vs := [(.agg v_28)]) cb69 (evC rfl evN) (h.mono ?_)))
    clear h; rintro v F ⟨v_29, v_29_1, rfl, h⟩
    refine holdI hold0 (fun hp => ?_)
    refine gU 10 (.agg v_29) rfl (fun _ => r_extract rfl rfl rfl) hp ?_
    refine gU 11 (.int .i64 v_29_1) rfl (fun _ => r_extract rfl rfl rfl) hp ?_
    refine RG_eff1 (i := 12) (by kernel_rfl) (g_op0 (Sp' := []) rfl rfl (k_storeN (vs := v_29) h4 rfl sz28 (by decide) ?_))
    obtain ⟨hz1, hz2, c, e, hz3, hz4, hz5, h⟩ := h
    refine ⟨hz1, hz2, c, e, hz3, hz4, hz5, ?_⟩
    replace h := atE h
    refine holdI hold0 (fun hp => ?_)
    refine gU 13 (.int .i64 v_29_1) rfl (fun _ => r_assign rfl rfl) hp ?_
    refine RG_done (by kernel_rfl) ?_
    obtain ⟨vres_4_2, hs4, hr4, h⟩ := h
    exact HC_ret (show endQ prog f29 R .ret _ _ from ⟨_, res2 rfl (rv_cellN h4 underlying28 rfl sz28 hs4 hr4) (rv_tmp rfl), h⟩)
  ·
   skip
   refine HC_region ?_
   refine sR (.int .i64 v_1) (r_move rfl rfl) ?_
   refine sR (.bool (decide (v_1 < (0 : Int)))) (r_lss rfl rfl rfl) ?_
   refine sR (.bool (decide (v_1 < (0 : Int)))) (r_move rfl rfl) ?_
   by_cases hc : v_1 < (0 : Int)
   ·
    replace h := h.1 hc
    refine kN 14 (decide_eq_true hc) ?_
    refine kN 15 (decide_eq_true hc) ?_
    refine s_skip ?_
    refine s_skip ?_
    refine sR (.bool true) (r_pick rfl rfl (fun _ => rfl) (fun h => by cases h)) ?_
    refine HL_nil ?_
    show b29J1 v_1 b2 b4 R _ _
    exact ⟨_, rfl, rfl, rfl, rfl, h⟩
   ·
    replace h := h.2 hc
    refine kN 14 (decide_eq_false hc) ?_
    refine kN 15 (decide_eq_false hc) ?_
    refine sR (.int .i64 v_1) (r_move rfl rfl) ?_
    refine sR (.bool (decide ((63 : Int) < v_1))) (r_gtr rfl rfl rfl) ?_
    refine sR (.bool (decide ((63 : Int) < v_1))) (r_pick rfl rfl (fun h => by cases h) (fun _ => rfl)) ?_
    refine HL_nil ?_
    show b29J1 v_1 b2 b4 R _ _
    exact ⟨_, rfl, rfl, rfl, rfl, h⟩

/- 30 koine.diagram.Var -/
def b30j1 (v_0 : Int) (b2 : Nat) (v_9 : Bool) (R : Value → PH → Prop) (F : PH) : Prop :=
 ((v_9 = true →
  (#[.slice none 0 0, .int .i64 0] : Array Value).size = 2 ∧ (∀ v ∈ (#[.slice none 0 0, .int .i64 0] : Array Value).toList, storable v) ∧ ∃ c e, F (Addr.mk b2 0 none).block = some (.cells c e (0, 0)) ∧ (Addr.mk b2 0 none).spot = none ∧ (Addr.mk b2 0 none).off + 2 ≤ c.size ∧
  atF (F.set (Addr.mk b2 0 none).block (.cells (wr c (Addr.mk b2 0 none).off (#[.slice none 0 0, .int .i64 0] : Array Value).toList) e)) fun F =>
  ∃ vres_2 : Array Value, vres_2.size = 2 ∧ F.row (Addr.mk b2 0 none) vres_2 ∧ R (.tuple #[(.agg vres_2), (.int .i64 (1 : Int))]) F) ∧
 (v_9 = false →
  (#[(.int .i64 v_0), .int .i64 0, (.int .i64 (1 : Int))] : Array Value).size = 3 ∧ ∀ b13, F b13 = none → atF (F.set b13 (.cells (#[(.int .i64 v_0), .int .i64 0, (.int .i64 (1 : Int))] : Array Value) 72)) fun F =>
  (#[(Sl.v (Sl.mk (some (Addr.mk b13 0 none)) 1 1)), (.int .i64 (2 : Int))] : Array Value).size = 2 ∧ (∀ v ∈ (#[(Sl.v (Sl.mk (some (Addr.mk b13 0 none)) 1 1)), (.int .i64 (2 : Int))] : Array Value).toList, storable v) ∧ ∃ c e, F (Addr.mk b2 0 none).block = some (.cells c e (0, 0)) ∧ (Addr.mk b2 0 none).spot = none ∧ (Addr.mk b2 0 none).off + 2 ≤ c.size ∧
  atF (F.set (Addr.mk b2 0 none).block (.cells (wr c (Addr.mk b2 0 none).off (#[(Sl.v (Sl.mk (some (Addr.mk b13 0 none)) 1 1)), (.int .i64 (2 : Int))] : Array Value).toList) e)) fun F =>
  ∃ vres_2_1 : Array Value, vres_2_1.size = 2 ∧ F.row (Addr.mk b2 0 none) vres_2_1 ∧ R (.tuple #[(.agg vres_2_1), (.int .i64 (0 : Int))]) F))
abbrev b30J1 (v_0 : Int) (b2 : Nat) (R : Value → PH → Prop) (E : En) (F : PH) : Prop := ∃ v_9 : Bool, E 0 = (.int .i64 v_0) ∧ E 2 = (.pointer (some (Addr.mk b2 0 none))) ∧ E 9 = (.bool v_9) ∧ b30j1 v_0 b2 v_9 R F
def b30 (v_0 : Int) (R : Value → PH → Prop) (F : PH) : Prop :=
 ∀ b2, F b2 = none → atF (F.set b2 (.cells (#[.slice none 0 0, .int .i64 0]) 28)) fun F =>
 ((v_0 < (0 : Int) →
  b30j1 v_0 b2 true R F) ∧
 (¬ (v_0 < (0 : Int)) →
  b30j1 v_0 b2 (decide ((63 : Int) < v_0)) R F))
theorem c30 {v_0 : Int} {R : Value → PH → Prop} {F : PH} (h : b30 v_0 R F) : Spec prog 30 #[(.int .i64 v_0)] F R := by
 refine spec_of (args := [(.int .i64 v_0)]) func30 rfl ntmps30 rfl ?_
 unfold b30 at h
 refine cR ?_
 refine s_ef (k_alloc zr28 ?_)
 intro b2 hf_b2
 replace h := atE (h b2 hf_b2)
 refine sR (.int .i64 (0 : Int)) (r_assign rfl rfl) ?_
 refine HL_nil ?_
 refine HC_seq ?_
 refine HC_seqJ (b30J1 v_0 b2 R) ?_ ?_
 ·
  clear h; rintro E F ⟨v_9, h0, h2, h9, h⟩
  unfold b30j1 at h
  refine HC_cond (t := v_9) h9 (fun hc => ?_) (fun hc => ?_)
  ·
   replace h := h.1 hc
   clear hc
   refine cR ?_
   refine sR (.agg (#[.slice none 0 0, .int .i64 0] : Array Value)) (w_buildStruct (cells := #[.slice none 0 0, .int .i64 0]) underlying28 zr28 kf28 (evPN) (fillN rfl)) ?_
   refine s_ef0 (k_storeN (vs := (#[.slice none 0 0, .int .i64 0] : Array Value)) h2 rfl sz28 (by decide) ?_)
   obtain ⟨hz1, hz2, c, e, hz3, hz4, hz5, h⟩ := h
   refine ⟨hz1, hz2, c, e, hz3, hz4, hz5, ?_⟩
   replace h := atE h
   refine sR (.int .i64 (1 : Int)) (r_assign rfl rfl) ?_
   refine HL_nil ?_
   obtain ⟨vres_2, hs2, hr2, h⟩ := h
   exact HC_ret (show endQ prog f30 R .ret _ _ from ⟨_, res2 rfl (rv_cellN h2 underlying28 rfl sz28 hs2 hr2) (rv_tmp rfl), h⟩)
  ·
   replace h := h.2 hc
   clear hc
   refine HC_skip ?_
   refine cR ?_
   refine sR (.int .i64 v_0) (r_move rfl h0) ?_
   refine sR (.agg (#[(.int .i64 v_0), .int .i64 0, (.int .i64 (1 : Int))] : Array Value)) (w_buildStruct (cells := #[(.int .i64 v_0), .int .i64 0, (.int .i64 (1 : Int))]) underlying72 zr72 kf72 (evPC rfl (evPC rfl evPN)) (fill1 (place_of rfl rfl sz3) rfl rfl (fill1 (place_of rfl rfl sz3) rfl rfl (fillN rfl)))) ?_
   obtain ⟨hz13, h⟩ := h
   refine s_ef (k_buildSlice (cells := (#[(.int .i64 v_0), .int .i64 0, (.int .i64 (1 : Int))] : Array Value)) underlying26 sz72 (by decide) zr72 rfl (evPC rfl evPN) (fillWhole hz13 rfl rfl) rfl ?_)
   intro b13 hf_b13
   replace h := atE (h b13 hf_b13)
   refine sR (.agg (#[(Sl.v (Sl.mk (some (Addr.mk b13 0 none)) 1 1)), (.int .i64 (2 : Int))] : Array Value)) (w_buildStruct (cells := #[(Sl.v (Sl.mk (some (Addr.mk b13 0 none)) 1 1)), (.int .i64 (2 : Int))]) underlying28 zr28 kf28 (evPC rfl (evPC rfl evPN)) (fill1 (place_of rfl rfl sz26) rfl rfl (fill1 (place_of rfl rfl sz3) rfl rfl (fillN rfl)))) ?_
   refine s_ef0 (k_storeN (vs := (#[(Sl.v (Sl.mk (some (Addr.mk b13 0 none)) 1 1)), (.int .i64 (2 : Int))] : Array Value)) h2 rfl sz28 (by decide) ?_)
   obtain ⟨hz1, hz2, c, e, hz3, hz4, hz5, h⟩ := h
   refine ⟨hz1, hz2, c, e, hz3, hz4, hz5, ?_⟩
   replace h := atE h
   refine sR (.int .i64 (0 : Int)) (r_assign rfl rfl) ?_
   refine HL_nil ?_
   obtain ⟨vres_2_1, hs2, hr2, h⟩ := h
   exact HC_ret (show endQ prog f30 R .ret _ _ from ⟨_, res2 rfl (rv_cellN h2 underlying28 rfl sz28 hs2 hr2) (rv_tmp rfl), h⟩)
 ·
  skip
  refine HC_region ?_
  refine sR (.int .i64 v_0) (r_move rfl rfl) ?_
  refine sR (.bool (decide (v_0 < (0 : Int)))) (r_lss rfl rfl rfl) ?_
  refine sR (.bool (decide (v_0 < (0 : Int)))) (r_move rfl rfl) ?_
  by_cases hc : v_0 < (0 : Int)
  ·
   replace h := h.1 hc
   refine kN 5 (decide_eq_true hc) ?_
   refine kN 6 (decide_eq_true hc) ?_
   refine s_skip ?_
   refine s_skip ?_
   refine sR (.bool true) (r_pick rfl rfl (fun _ => rfl) (fun h => by cases h)) ?_
   refine HL_nil ?_
   show b30J1 v_0 b2 R _ _
   exact ⟨_, rfl, rfl, rfl, h⟩
  ·
   replace h := h.2 hc
   refine kN 5 (decide_eq_false hc) ?_
   refine kN 6 (decide_eq_false hc) ?_
   refine sR (.int .i64 v_0) (r_move rfl rfl) ?_
   refine sR (.bool (decide ((63 : Int) < v_0))) (r_gtr rfl rfl rfl) ?_
   refine sR (.bool (decide ((63 : Int) < v_0))) (r_pick rfl rfl (fun h => by cases h) (fun _ => rfl)) ?_
   refine HL_nil ?_
   show b30J1 v_0 b2 R _ _
   exact ⟨_, rfl, rfl, rfl, h⟩

/- 17 koine.diagram.Constant -/
def b17 (value_0 : Bool) (R : Value → PH → Prop) (F : PH) : Prop :=
 ∀ b2, F b2 = none → atF (F.set b2 (.cells (#[.slice none 0 0, .int .i64 0]) 28)) fun F =>
 ((value_0 = true →
  (#[.slice none 0 0, (.int .i64 (1 : Int))] : Array Value).size = 2 ∧ (∀ v ∈ (#[.slice none 0 0, (.int .i64 (1 : Int))] : Array Value).toList, storable v) ∧ ∃ c e, F (Addr.mk b2 0 none).block = some (.cells c e (0, 0)) ∧ (Addr.mk b2 0 none).spot = none ∧ (Addr.mk b2 0 none).off + 2 ≤ c.size ∧
  atF (F.set (Addr.mk b2 0 none).block (.cells (wr c (Addr.mk b2 0 none).off (#[.slice none 0 0, (.int .i64 (1 : Int))] : Array Value).toList) e)) fun F =>
  ∃ vres_2 : Array Value, vres_2.size = 2 ∧ F.row (Addr.mk b2 0 none) vres_2 ∧ R (.agg vres_2) F) ∧
 (value_0 = false →
  (#[.slice none 0 0, .int .i64 0] : Array Value).size = 2 ∧ (∀ v ∈ (#[.slice none 0 0, .int .i64 0] : Array Value).toList, storable v) ∧ ∃ c e, F (Addr.mk b2 0 none).block = some (.cells c e (0, 0)) ∧ (Addr.mk b2 0 none).spot = none ∧ (Addr.mk b2 0 none).off + 2 ≤ c.size ∧
  atF (F.set (Addr.mk b2 0 none).block (.cells (wr c (Addr.mk b2 0 none).off (#[.slice none 0 0, .int .i64 0] : Array Value).toList) e)) fun F =>
  ∃ vres_2_1 : Array Value, vres_2_1.size = 2 ∧ F.row (Addr.mk b2 0 none) vres_2_1 ∧ R (.agg vres_2_1) F))
theorem c17 {value_0 : Bool} {R : Value → PH → Prop} {F : PH} (h : b17 value_0 R F) : Spec prog 17 #[(.bool value_0)] F R := by
 refine spec_of (args := [(.bool value_0)]) func17 rfl ntmps17 rfl ?_
 unfold b17 at h
 refine cR ?_
 refine s_ef (k_alloc zr28 ?_)
 intro b2 hf_b2
 replace h := atE (h b2 hf_b2)
 refine HL_nil ?_
 refine HC_seq ?_
 refine cR ?_
 refine sR (.bool value_0) (r_move rfl rfl) ?_
 refine HL_nil ?_
 refine HC_cond (t := value_0) rfl (fun hc => ?_) (fun hc => ?_)
 ·
  replace h := h.1 hc
  clear hc
  refine cR ?_
  refine sR (.agg (#[.slice none 0 0, (.int .i64 (1 : Int))] : Array Value)) (w_buildStruct (cells := #[.slice none 0 0, (.int .i64 (1 : Int))]) underlying28 zr28 kf28 (evPC rfl evPN) (fill1 (place_of rfl rfl sz3) rfl rfl (fillN rfl))) ?_
  refine s_ef0 (k_storeN (vs := (#[.slice none 0 0, (.int .i64 (1 : Int))] : Array Value)) rfl rfl sz28 (by decide) ?_)
  obtain ⟨hz1, hz2, c, e, hz3, hz4, hz5, h⟩ := h
  refine ⟨hz1, hz2, c, e, hz3, hz4, hz5, ?_⟩
  replace h := atE h
  refine HL_nil ?_
  obtain ⟨vres_2, hs2, hr2, h⟩ := h
  exact HC_ret (show endQ prog f17 R .ret _ _ from ⟨_, res1 rfl (rv_cellN rfl underlying28 rfl sz28 hs2 hr2), h⟩)
 ·
  replace h := h.2 hc
  clear hc
  refine HC_skip ?_
  refine cR ?_
  refine sR (.agg (#[.slice none 0 0, .int .i64 0] : Array Value)) (w_buildStruct (cells := #[.slice none 0 0, .int .i64 0]) underlying28 zr28 kf28 (evPN) (fillN rfl)) ?_
  refine s_ef0 (k_storeN (vs := (#[.slice none 0 0, .int .i64 0] : Array Value)) rfl rfl sz28 (by decide) ?_)
  obtain ⟨hz1, hz2, c, e, hz3, hz4, hz5, h⟩ := h
  refine ⟨hz1, hz2, c, e, hz3, hz4, hz5, ?_⟩
  replace h := atE h
  refine HL_nil ?_
  obtain ⟨vres_2_1, hs2, hr2, h⟩ := h
  exact HC_ret (show endQ prog f17 R .ret _ _ from ⟨_, res1 rfl (rv_cellN rfl underlying28 rfl sz28 hs2 hr2), h⟩)

/- 21 koine.diagram.Holds -/
def b21j1 (n_5 : Int) (R : Value → PH → Prop) (F : PH) : Prop :=
 R (.bool (decide (n_5 = (1 : Int)))) F
abbrev b21J1 (R : Value → PH → Prop) (E : En) (F : PH) : Prop := ∃ n_5 : Int, E 5 = (.int .i64 n_5) ∧ b21j1 n_5 R F
def b21L1 (N1 : Int → PH → Prop) (c_1 : Int) (b2 : Nat) (R : Value → PH → Prop) (n_5_1 : Int) (F : PH) : Prop :=
 (((1 : Int) < n_5_1 →
  ∃ v_15 : Sl, F.cell (Addr.mk b2 0 none) = some (Sl.v v_15) ∧
  ∃ a18_ : Addr, v_15.base = some a18_ ∧ 0 ≤ (IntKind.i64.wrap (n_5_1 - (2 : Int))) ∧ (IntKind.i64.wrap (n_5_1 - (2 : Int))) < (v_15.len : Int) ∧
  ∃ v_19 : Array Value, v_19.size = 3 ∧ F.row (Addr.add a18_ (Int.toNat (IntKind.i64.wrap (n_5_1 - (2 : Int))) * 3)) v_19 ∧
  ∀ b6, F b6 = none → atF (F.set b6 (.cells (#[.int .i64 0, .int .i64 0, .int .i64 0]) 72)) fun F =>
  v_19.size = 3 ∧ (∀ v ∈ v_19.toList, storable v) ∧ ∃ c e, F (Addr.mk b6 0 none).block = some (.cells c e (0, 0)) ∧ (Addr.mk b6 0 none).spot = none ∧ (Addr.mk b6 0 none).off + 3 ≤ c.size ∧
  atF (F.set (Addr.mk b6 0 none).block (.cells (wr c (Addr.mk b6 0 none).off v_19.toList) e)) fun F =>
  ∃ v_22 : Int, F.cell (Addr.mk b6 0 none) = some (.int .i64 v_22) ∧
  0 ≤ v_22 ∧ (((IntKind.u64.wrap ((BitVec.ofInt (IntKind.u64).bits (Int.fdiv c_1 (2 ^ (min (Int.toNat v_22) (IntKind.u64).bits))) &&& BitVec.ofInt (IntKind.u64).bits (1 : Int)).toNat)) = (1 : Int) →
   ∃ v_27 : Int, F.cell (Addr.mk b6 2 none) = some (.int .i64 v_27) ∧
   N1 v_27 F) ∧
  (¬ ((IntKind.u64.wrap ((BitVec.ofInt (IntKind.u64).bits (Int.fdiv c_1 (2 ^ (min (Int.toNat v_22) (IntKind.u64).bits))) &&& BitVec.ofInt (IntKind.u64).bits (1 : Int)).toNat)) = (1 : Int)) →
   ∃ v_29 : Int, F.cell (Addr.mk b6 1 none) = some (.int .i64 v_29) ∧
   N1 v_29 F))) ∧
 (¬ ((1 : Int) < n_5_1) →
  b21j1 n_5_1 R F))
def b21 (a_0 : Array Value) (c_1 : Int) (R : Value → PH → Prop) (F : PH) : Prop :=
 ∀ b2, F b2 = none → atF (F.set b2 (.cells a_0 28)) fun F =>
 ∃ v_7 : Array Value, v_7.size = 2 ∧ F.row (Addr.mk b2 0 none) v_7 ∧
 Spec prog 23 #[(.agg v_7)] F fun v F => ∃ v_8 : Int, v = (.int .i64 v_8) ∧
 ((v_8 ≠ (0 : Int) →
  R (.bool false) F) ∧
 (¬ (v_8 ≠ (0 : Int)) →
  ∃ v_11 : Int, F.cell (Addr.mk b2 1 none) = some (.int .i64 v_11) ∧
  (∃ (I1 : Nat → Int → PH → Prop) (m1 : Nat), I1 m1 v_11 F ∧ ∀ m1 n_5_1 F, I1 m1 n_5_1 F →
   b21L1 (fun n_5_1 F => ∃ m', m' < m1 ∧ I1 m' n_5_1 F) c_1 b2 R n_5_1 F)))
theorem c21 {a_0 : Array Value} {c_1 : Int} {R : Value → PH → Prop} {F : PH} (h : b21 a_0 c_1 R F) : Spec prog 21 #[(.agg a_0), (.int .u64 c_1)] F R := by
 refine spec_of (args := [(.agg a_0), (.int .u64 c_1)]) func21 rfl ntmps21 rfl ?_
 unfold b21 at h
 refine cR ?_
 refine s_ef (k_box (cs := a_0) rfl rfl ?_)
 intro b2 hf_b2
 replace h := atE (h b2 hf_b2)
 refine sR (.bool false) (r_assign rfl rfl) ?_
 refine HL_nil ?_
 refine HC_seq ?_
 refine cR ?_
 obtain ⟨v_7, hs7, hc7, h⟩ := h
 refine sR (.agg v_7) (w_loadN rfl underlying28 rfl sz28 hs7 hc7) ?_
 refine s_ef (k_call (vs := [(.agg v_7)]) cb23 (evC rfl evN) (h.mono ?_))
 clear h; rintro v F ⟨v_8, rfl, h⟩
 refine sR (.bool (decide (v_8 ≠ (0 : Int)))) (w_neq rfl rfl) ?_
 refine HL_nil ?_
 refine HC_cond (t := (decide (v_8 ≠ (0 : Int)))) rfl (fun hc => ?_) (fun hc => ?_)
 ·
  replace h := h.1 (of_decide_eq_true hc)
  clear hc
  refine cR ?_
  refine sR (.bool false) (r_assign rfl rfl) ?_
  refine HL_nil ?_
  exact HC_ret (show endQ prog f21 R .ret _ _ from ⟨_, res1 rfl (rv_tmp rfl), h⟩)
 ·
  replace h := h.2 (of_decide_eq_false hc)
  clear hc
  refine HC_skip ?_
  refine cR ?_
  refine sR (.pointer (some (Addr.mk b2 1 none))) (w_fieldAddr (a' := (Addr.mk b2 1 none)) rfl underlying28 rfl rfl sz3 rfl rfl) ?_
  obtain ⟨v_11, hc11, h⟩ := h
  refine sR (.int .i64 v_11) (r_load1 rfl rfl underlying3 rfl hc11) ?_
  refine sR (.int .i64 v_11) (r_assign rfl rfl) ?_
  refine HL_nil ?_
  refine HC_seqJ (b21J1 R) ?_ ?_
  ·
   clear h; rintro E F ⟨n_5, h5, h⟩
   unfold b21j1 at h
   refine cR ?_
   refine sR (.int .i64 n_5) (r_move rfl h5) ?_
   refine sR (.bool (decide (n_5 = (1 : Int)))) (w_eql rfl rfl) ?_
   refine sR (.bool (decide (n_5 = (1 : Int)))) (r_assign rfl rfl) ?_
   refine HL_nil ?_
   exact HC_ret (show endQ prog f21 R .ret _ _ from ⟨_, res1 rfl (rv_tmp rfl), h⟩)
  ·
   skip
   refine HC_block ?_
   obtain ⟨I1, m1, hI0, hr⟩ := h
   refine HC_loop (fun m1 E F => ∃ n_5_1 : Int, E 1 = (.int .u64 c_1) ∧ E 2 = (.pointer (some (Addr.mk b2 0 none))) ∧ E 5 = (.int .i64 n_5_1) ∧ I1 m1 n_5_1 F) m1 ⟨_, rfl, rfl, rfl, hI0⟩ ?_
   clear hI0; rintro m1 E F ⟨n_5_1, h1, h2, h5, hI⟩
   have h := hr m1 n_5_1 F hI
   clear hr hI
   unfold b21L1 at h
   refine HC_seq ?_
   refine cR ?_
   refine sR (.int .i64 n_5_1) (r_move rfl h5) ?_
   refine sR (.bool (decide ((1 : Int) < n_5_1))) (r_gtr rfl rfl rfl) ?_
   refine HL_nil ?_
   refine HC_cond (t := (decide ((1 : Int) < n_5_1))) rfl (fun hc => ?_) (fun hc => ?_)
   ·
    replace h := h.1 (of_decide_eq_true hc)
    clear hc
    refine HC_skip ?_
    refine HC_block ?_
    refine cR ?_
    refine sR (.pointer (some (Addr.mk b2 0 none))) (w_fieldAddr (a' := (Addr.mk b2 0 none)) h2 underlying28 rfl rfl sz26 rfl rfl) ?_
    obtain ⟨v_15, hc15, h⟩ := h
    refine sR (Sl.v v_15) (r_load1 rfl rfl underlying26 rfl hc15) ?_
    refine sR (.int .i64 n_5_1) (r_move rfl h5) ?_
    refine sR (.int .i64 (IntKind.i64.wrap (n_5_1 - (2 : Int)))) (r_sub rfl rfl rfl) ?_
    obtain ⟨a18_, hb18, hl18, hu18, h⟩ := h
    refine sR (.pointer (some (Addr.add a18_ (Int.toNat (IntKind.i64.wrap (n_5_1 - (2 : Int))) * 3)))) (w_indexAddr rfl rfl underlying26 sz72 hb18 hl18 hu18) ?_
    obtain ⟨v_19, hs19, hc19, h⟩ := h
    refine sR (.agg v_19) (w_loadN rfl underlying72 rfl sz72 hs19 hc19) ?_
    refine s_ef (k_alloc zr72 ?_)
    intro b6 hf_b6
    replace h := atE (h b6 hf_b6)
    refine s_ef0 (k_storeN (vs := v_19) rfl rfl sz72 (by decide) ?_)
    obtain ⟨hz1, hz2, c, e, hz3, hz4, hz5, h⟩ := h
    refine ⟨hz1, hz2, c, e, hz3, hz4, hz5, ?_⟩
    replace h := atE h
    refine HL_nil ?_
    refine cR ?_
    refine sR (.int .u64 c_1) (r_move rfl h1) ?_
    refine sR (.pointer (some (Addr.mk b6 0 none))) (w_fieldAddr (a' := (Addr.mk b6 0 none)) rfl underlying72 rfl rfl sz3 rfl rfl) ?_
    obtain ⟨v_22, hc22, h⟩ := h
    refine sR (.int .i64 v_22) (r_load1 rfl rfl underlying3 rfl hc22) ?_
    obtain ⟨hd23, h⟩ := h
    refine sR (.int .u64 (Int.fdiv c_1 (2 ^ (min (Int.toNat v_22) (IntKind.u64).bits)))) (r_shr rfl rfl rfl hd23) ?_
    refine sR (.int .u64 (IntKind.u64.wrap ((BitVec.ofInt (IntKind.u64).bits (Int.fdiv c_1 (2 ^ (min (Int.toNat v_22) (IntKind.u64).bits))) &&& BitVec.ofInt (IntKind.u64).bits (1 : Int)).toNat))) (r_and rfl rfl rfl) ?_
    refine sR (.bool (decide ((IntKind.u64.wrap ((BitVec.ofInt (IntKind.u64).bits (Int.fdiv c_1 (2 ^ (min (Int.toNat v_22) (IntKind.u64).bits))) &&& BitVec.ofInt (IntKind.u64).bits (1 : Int)).toNat)) = (1 : Int)))) (w_eql rfl rfl) ?_
    refine HL_nil ?_
    refine HC_cond (t := (decide ((IntKind.u64.wrap ((BitVec.ofInt (IntKind.u64).bits (Int.fdiv c_1 (2 ^ (min (Int.toNat v_22) (IntKind.u64).bits))) &&& BitVec.ofInt (IntKind.u64).bits (1 : Int)).toNat)) = (1 : Int)))) rfl (fun hc => ?_) (fun hc => ?_)
    ·
     replace h := h.1 (of_decide_eq_true hc)
     clear hc
     refine HC_region ?_
     refine sR (.pointer (some (Addr.mk b6 2 none))) (w_fieldAddr (a' := (Addr.mk b6 2 none)) rfl underlying72 rfl rfl sz3 rfl rfl) ?_
     obtain ⟨v_27, hc27, h⟩ := h
     refine sR (.int .i64 v_27) (r_load1 rfl rfl underlying3 rfl hc27) ?_
     refine sR (.int .i64 v_27) (r_assign rfl rfl) ?_
     refine HL_nil ?_
     obtain ⟨m', hm, h⟩ := h
     exact ⟨m', hm, _, h1, h2, rfl, h⟩
    ·
     replace h := h.2 (of_decide_eq_false hc)
     clear hc
     refine HC_region ?_
     refine sR (.pointer (some (Addr.mk b6 1 none))) (w_fieldAddr (a' := (Addr.mk b6 1 none)) rfl underlying72 rfl rfl sz3 rfl rfl) ?_
     obtain ⟨v_29, hc29, h⟩ := h
     refine sR (.int .i64 v_29) (r_load1 rfl rfl underlying3 rfl hc29) ?_
     refine sR (.int .i64 v_29) (r_assign rfl rfl) ?_
     refine HL_nil ?_
     obtain ⟨m', hm, h⟩ := h
     exact ⟨m', hm, _, h1, h2, rfl, h⟩
   ·
    replace h := h.2 (of_decide_eq_false hc)
    clear hc
    refine HC_exit ?_
    show b21J1 R _ _
    exact ⟨_, h5, h⟩

/- 31 koine.diagram.Least -/
def b31j1 (b1 : Nat) (v_21 : Sl) (R : Value → PH → Prop) (F : PH) : Prop :=
 ∃ v_72 : Int, F.cell (Addr.mk b1 1 none) = some (.int .i64 v_72) ∧
 ∃ a73_ : Addr, v_21.base = some a73_ ∧ 0 ≤ v_72 ∧ v_72 < (v_21.len : Int) ∧
 ∃ v_74 : Int, F.cell (Addr.add a73_ (Int.toNat v_72 * 1)) = some (.int .u64 v_74) ∧
 R (.tuple #[(.int .u64 v_74), (.bool true)]) F
abbrev b31J1 (b1 : Nat) (v_21 : Sl) (R : Value → PH → Prop) (E : En) (F : PH) : Prop := E 1 = (.pointer (some (Addr.mk b1 0 none))) ∧ E 4 = (Sl.v v_21) ∧ b31j1 b1 v_21 R F
def b31j2 (N1 : Int → PH → Prop) (b1 : Nat) (v_21 : Sl) (v_23 : Sl) (v_25 : Int) (R : Value → PH → Prop) (F : PH) : Prop :=
 N1 (IntKind.i64.wrap (v_25 + (1 : Int))) F
abbrev b31J2 (N1 : Int → PH → Prop) (b1 : Nat) (v_21 : Sl) (v_23 : Sl) (v_25 : Int) (R : Value → PH → Prop) (E : En) (F : PH) : Prop := E 1 = (.pointer (some (Addr.mk b1 0 none))) ∧ E 4 = (Sl.v v_21) ∧ E 23 = (Sl.v v_23) ∧ E 24 = (.int .i64 (v_23.len : Int)) ∧ E 25 = (.int .i64 v_25) ∧ b31j2 N1 b1 v_21 v_23 v_25 R F
def b31L1 (N1 : Int → PH → Prop) (b1 : Nat) (v_21 : Sl) (v_23 : Sl) (R : Value → PH → Prop) (v_25 : Int) (F : PH) : Prop :=
 ((v_25 < (v_23.len : Int) →
  ∃ a28_ : Addr, v_23.base = some a28_ ∧ 0 ≤ v_25 ∧ v_25 < (v_23.len : Int) ∧
  ∃ v_29 : Array Value, v_29.size = 3 ∧ F.row (Addr.add a28_ (Int.toNat v_25 * 3)) v_29 ∧
  ∀ b6, F b6 = none → atF (F.set b6 (.cells (#[.int .i64 0, .int .i64 0, .int .i64 0]) 72)) fun F =>
  v_29.size = 3 ∧ (∀ v ∈ v_29.toList, storable v) ∧ ∃ c e, F (Addr.mk b6 0 none).block = some (.cells c e (0, 0)) ∧ (Addr.mk b6 0 none).spot = none ∧ (Addr.mk b6 0 none).off + 3 ≤ c.size ∧
  atF (F.set (Addr.mk b6 0 none).block (.cells (wr c (Addr.mk b6 0 none).off v_29.toList) e)) fun F =>
  ∃ v_32 : Int, F.cell (Addr.mk b6 1 none) = some (.int .i64 v_32) ∧
  ∃ a33_ : Addr, v_21.base = some a33_ ∧ 0 ≤ v_32 ∧ v_32 < (v_21.len : Int) ∧
  ∃ v_34 : Int, F.cell (Addr.add a33_ (Int.toNat v_32 * 1)) = some (.int .u64 v_34) ∧
  ∃ v_37 : Int, F.cell (Addr.mk b6 2 none) = some (.int .i64 v_37) ∧
  ∃ a38_ : Addr, v_21.base = some a38_ ∧ 0 ≤ v_37 ∧ v_37 < (v_21.len : Int) ∧
  ∃ v_39 : Int, F.cell (Addr.add a38_ (Int.toNat v_37 * 1)) = some (.int .u64 v_39) ∧
  ∃ v_41 : Int, F.cell (Addr.mk b6 0 none) = some (.int .i64 v_41) ∧
  0 ≤ v_41 ∧ ∃ v_53 : Int, F.cell (Addr.mk b6 1 none) = some (.int .i64 v_53) ∧
  ((v_53 = (0 : Int) →
   ∃ a59_ : Addr, v_21.base = some a59_ ∧ 0 ≤ (IntKind.i64.wrap (v_25 + (2 : Int))) ∧ (IntKind.i64.wrap (v_25 + (2 : Int))) < (v_21.len : Int) ∧
   ∃ c e, F (Addr.add a59_ (Int.toNat (IntKind.i64.wrap (v_25 + (2 : Int))) * 1)).block = some (.cells c e (0, 0)) ∧ (Addr.add a59_ (Int.toNat (IntKind.i64.wrap (v_25 + (2 : Int))) * 1)).spot = none ∧ (Addr.add a59_ (Int.toNat (IntKind.i64.wrap (v_25 + (2 : Int))) * 1)).off < c.size ∧
   atF (F.set (Addr.add a59_ (Int.toNat (IntKind.i64.wrap (v_25 + (2 : Int))) * 1)).block (.cells (c.setIfInBounds (Addr.add a59_ (Int.toNat (IntKind.i64.wrap (v_25 + (2 : Int))) * 1)).off (.int .u64 (IntKind.u64.wrap ((BitVec.ofInt (IntKind.u64).bits v_39 ||| BitVec.ofInt (IntKind.u64).bits (IntKind.u64.wrap ((1 : Int) * 2 ^ (min (Int.toNat v_41) (IntKind.u64).bits)))).toNat)))) e)) fun F =>
   b31j2 N1 b1 v_21 v_23 v_25 R F) ∧
  (¬ (v_53 = (0 : Int)) →
   ∃ v_62 : Int, F.cell (Addr.mk b6 2 none) = some (.int .i64 v_62) ∧
   ((v_62 = (0 : Int) →
    ∃ a68_ : Addr, v_21.base = some a68_ ∧ 0 ≤ (IntKind.i64.wrap (v_25 + (2 : Int))) ∧ (IntKind.i64.wrap (v_25 + (2 : Int))) < (v_21.len : Int) ∧
    ∃ c e, F (Addr.add a68_ (Int.toNat (IntKind.i64.wrap (v_25 + (2 : Int))) * 1)).block = some (.cells c e (0, 0)) ∧ (Addr.add a68_ (Int.toNat (IntKind.i64.wrap (v_25 + (2 : Int))) * 1)).spot = none ∧ (Addr.add a68_ (Int.toNat (IntKind.i64.wrap (v_25 + (2 : Int))) * 1)).off < c.size ∧
    atF (F.set (Addr.add a68_ (Int.toNat (IntKind.i64.wrap (v_25 + (2 : Int))) * 1)).block (.cells (c.setIfInBounds (Addr.add a68_ (Int.toNat (IntKind.i64.wrap (v_25 + (2 : Int))) * 1)).off (.int .u64 v_34)) e)) fun F =>
    b31j2 N1 b1 v_21 v_23 v_25 R F) ∧
   (¬ (v_62 = (0 : Int)) →
    ∃ a50_ : Addr, v_21.base = some a50_ ∧ 0 ≤ (IntKind.i64.wrap (v_25 + (2 : Int))) ∧ (IntKind.i64.wrap (v_25 + (2 : Int))) < (v_21.len : Int) ∧
    ∃ c e, F (Addr.add a50_ (Int.toNat (IntKind.i64.wrap (v_25 + (2 : Int))) * 1)).block = some (.cells c e (0, 0)) ∧ (Addr.add a50_ (Int.toNat (IntKind.i64.wrap (v_25 + (2 : Int))) * 1)).spot = none ∧ (Addr.add a50_ (Int.toNat (IntKind.i64.wrap (v_25 + (2 : Int))) * 1)).off < c.size ∧
    atF (F.set (Addr.add a50_ (Int.toNat (IntKind.i64.wrap (v_25 + (2 : Int))) * 1)).block (.cells (c.setIfInBounds (Addr.add a50_ (Int.toNat (IntKind.i64.wrap (v_25 + (2 : Int))) * 1)).off (.int .u64 (min v_34 (IntKind.u64.wrap ((BitVec.ofInt (IntKind.u64).bits v_39 ||| BitVec.ofInt (IntKind.u64).bits (IntKind.u64.wrap ((1 : Int) * 2 ^ (min (Int.toNat v_41) (IntKind.u64).bits)))).toNat))))) e)) fun F =>
    b31j2 N1 b1 v_21 v_23 v_25 R F))))) ∧
 (¬ (v_25 < (v_23.len : Int)) →
  b31j1 b1 v_21 R F))
def b31 (a_0 : Array Value) (R : Value → PH → Prop) (F : PH) : Prop :=
 ∀ b1, F b1 = none → atF (F.set b1 (.cells a_0 28)) fun F =>
 ∃ v_9 : Array Value, v_9.size = 2 ∧ F.row (Addr.mk b1 0 none) v_9 ∧
 Spec prog 23 #[(.agg v_9)] F fun v F => ∃ v_10 : Int, v = (.int .i64 v_10) ∧
 ((v_10 ≠ (0 : Int) →
  R (.tuple #[(.int .u64 (0 : Int)), (.bool false)]) F) ∧
 (¬ (v_10 ≠ (0 : Int)) →
  ∃ v_14 : Int, F.cell (Addr.mk b1 1 none) = some (.int .i64 v_14) ∧
  ((v_14 = (0 : Int) →
   R (.tuple #[(.int .u64 (0 : Int)), (.bool false)]) F) ∧
  (¬ (v_14 = (0 : Int)) →
   ∃ v_18 : Sl, F.cell (Addr.mk b1 0 none) = some (Sl.v v_18) ∧
   runs prog (Instr.makeSlice 92 (.int .i64 (IntKind.i64.wrap ((v_18.len : Int) + (2 : Int)))) (.int .i64 (IntKind.i64.wrap ((v_18.len : Int) + (2 : Int))))) F fun v F => ∃ v_21 : Sl, v = (Sl.v v_21) ∧
   ∃ v_23 : Sl, F.cell (Addr.mk b1 0 none) = some (Sl.v v_23) ∧
   (∃ (I1 : Nat → Int → PH → Prop) (m1 : Nat), I1 m1 (0 : Int) F ∧ ∀ m1 v_25 F, I1 m1 v_25 F →
    b31L1 (fun v_25 F => ∃ m', m' < m1 ∧ I1 m' v_25 F) b1 v_21 v_23 R v_25 F)))))
theorem c31 {a_0 : Array Value} {R : Value → PH → Prop} {F : PH} (h : b31 a_0 R F) : Spec prog 31 #[(.agg a_0)] F R := by
 refine spec_of (args := [(.agg a_0)]) func31 rfl ntmps31 rfl ?_
 unfold b31 at h
 refine cR ?_
 refine s_ef (k_box (cs := a_0) rfl rfl ?_)
 intro b1 hf_b1
 replace h := atE (h b1 hf_b1)
 refine sR (.int .u64 (0 : Int)) (r_assign rfl rfl) ?_
 refine sR (.bool false) (r_assign rfl rfl) ?_
 refine HL_nil ?_
 refine HC_seq ?_
 refine cR ?_
 obtain ⟨v_9, hs9, hc9, h⟩ := h
 refine sR (.agg v_9) (w_loadN rfl underlying28 rfl sz28 hs9 hc9) ?_
 refine s_ef (k_call (vs := [(.agg v_9)]) cb23 (evC rfl evN) (h.mono ?_))
 clear h; rintro v F ⟨v_10, rfl, h⟩
 refine sR (.bool (decide (v_10 ≠ (0 : Int)))) (w_neq rfl rfl) ?_
 refine sR (.bool (decide (v_10 ≠ (0 : Int)))) (r_move rfl rfl) ?_
 by_cases hc : v_10 ≠ (0 : Int)
 ·
  replace h := h.1 hc
  refine kN 11 (decide_eq_true hc) ?_
  refine kN 12 (decide_eq_true hc) ?_
  refine s_skip ?_
  refine s_skip ?_
  refine s_skip ?_
  refine sR (.bool true) (r_pick rfl rfl (fun _ => rfl) (fun h => by cases h)) ?_
  refine HL_nil ?_
  refine HC_condT rfl ?_
  refine cR ?_
  refine sR (.int .u64 (0 : Int)) (r_assign rfl rfl) ?_
  refine sR (.bool false) (r_assign rfl rfl) ?_
  refine HL_nil ?_
  exact HC_ret (show endQ prog f31 R .ret _ _ from ⟨_, res2 rfl (rv_tmp rfl) (rv_tmp rfl), h⟩)
 ·
  replace h := h.2 hc
  refine kN 11 (decide_eq_false hc) ?_
  refine kN 12 (decide_eq_false hc) ?_
  refine sR (.pointer (some (Addr.mk b1 1 none))) (w_fieldAddr (a' := (Addr.mk b1 1 none)) rfl underlying28 rfl rfl sz3 rfl rfl) ?_
  obtain ⟨v_14, hc14, h⟩ := h
  refine sR (.int .i64 v_14) (r_load1 rfl rfl underlying3 rfl hc14) ?_
  refine sR (.bool (decide (v_14 = (0 : Int)))) (w_eql rfl rfl) ?_
  refine sR (.bool (decide (v_14 = (0 : Int)))) (r_pick rfl rfl (fun h => by cases h) (fun _ => rfl)) ?_
  refine HL_nil ?_
  refine HC_cond (t := (decide (v_14 = (0 : Int)))) rfl (fun hc => ?_) (fun hc => ?_)
  ·
   replace h := h.1 (of_decide_eq_true hc)
   clear hc
   refine cR ?_
   refine sR (.int .u64 (0 : Int)) (r_assign rfl rfl) ?_
   refine sR (.bool false) (r_assign rfl rfl) ?_
   refine HL_nil ?_
   exact HC_ret (show endQ prog f31 R .ret _ _ from ⟨_, res2 rfl (rv_tmp rfl) (rv_tmp rfl), h⟩)
  ·
   replace h := h.2 (of_decide_eq_false hc)
   clear hc
   refine HC_skip ?_
   refine cR ?_
   refine sR (.pointer (some (Addr.mk b1 0 none))) (w_fieldAddr (a' := (Addr.mk b1 0 none)) rfl underlying28 rfl rfl sz26 rfl rfl) ?_
   obtain ⟨v_18, hc18, h⟩ := h
   refine sR (Sl.v v_18) (r_load1 rfl rfl underlying26 rfl hc18) ?_
   refine sR (.int .i64 (v_18.len : Int)) (r_lenSl rfl rfl underlying26) ?_
   refine sR (.int .i64 (IntKind.i64.wrap ((v_18.len : Int) + (2 : Int)))) (r_add rfl rfl rfl) ?_
   refine s_ef (k_makeSlice rfl rfl (runs_mono _ _ h ?_))
   clear h; rintro v F ⟨v_21, rfl, h⟩
   refine sR (Sl.v v_21) (r_assign rfl rfl) ?_
   refine HL_nil ?_
   refine HC_seqJ (b31J1 b1 v_21 R) ?_ ?_
   ·
    clear h; rintro E F ⟨h1, h4, h⟩
    unfold b31j1 at h
    refine cR ?_
    refine sR (Sl.v v_21) (r_move rfl h4) ?_
    refine sR (.pointer (some (Addr.mk b1 1 none))) (w_fieldAddr (a' := (Addr.mk b1 1 none)) h1 underlying28 rfl rfl sz3 rfl rfl) ?_
    obtain ⟨v_72, hc72, h⟩ := h
    refine sR (.int .i64 v_72) (r_load1 rfl rfl underlying3 rfl hc72) ?_
    obtain ⟨a73_, hb73, hl73, hu73, h⟩ := h
    refine sR (.pointer (some (Addr.add a73_ (Int.toNat v_72 * 1)))) (w_indexAddr rfl rfl underlying92 sz39 hb73 hl73 hu73) ?_
    obtain ⟨v_74, hc74, h⟩ := h
    refine sR (.int .u64 v_74) (r_load1 rfl rfl underlying39 rfl hc74) ?_
    refine sR (.int .u64 v_74) (r_assign rfl rfl) ?_
    refine sR (.bool true) (r_assign rfl rfl) ?_
    refine HL_nil ?_
    exact HC_ret (show endQ prog f31 R .ret _ _ from ⟨_, res2 rfl (rv_tmp rfl) (rv_tmp rfl), h⟩)
   ·
    skip
    refine cR ?_
    refine sR (.pointer (some (Addr.mk b1 0 none))) (w_fieldAddr (a' := (Addr.mk b1 0 none)) rfl underlying28 rfl rfl sz26 rfl rfl) ?_
    obtain ⟨v_23, hc23, h⟩ := h
    refine sR (Sl.v v_23) (r_load1 rfl rfl underlying26 rfl hc23) ?_
    refine sR (.int .i64 (v_23.len : Int)) (r_lenSl rfl rfl underlying26) ?_
    refine sR (.int .i64 (0 : Int)) (r_move rfl rfl) ?_
    refine HL_nil ?_
    refine HC_block ?_
    obtain ⟨I1, m1, hI0, hr⟩ := h
    refine HC_loop (fun m1 E F => ∃ v_25 : Int, E 1 = (.pointer (some (Addr.mk b1 0 none))) ∧ E 4 = (Sl.v v_21) ∧ E 23 = (Sl.v v_23) ∧ E 24 = (.int .i64 (v_23.len : Int)) ∧ E 25 = (.int .i64 v_25) ∧ I1 m1 v_25 F) m1 ⟨_, rfl, rfl, rfl, rfl, rfl, hI0⟩ ?_
    clear hI0; rintro m1 E F ⟨v_25, h1, h4, h23, h24, h25, hI⟩
    have h := hr m1 v_25 F hI
    clear hr hI
    unfold b31L1 at h
    refine cR ?_
    refine sR (.bool (decide (v_25 < (v_23.len : Int)))) (r_lss rfl h25 h24) ?_
    refine HL_nil ?_
    refine HC_seq ?_
    refine HC_cond (t := (decide (v_25 < (v_23.len : Int)))) rfl (fun hc => ?_) (fun hc => ?_)
    ·
     replace h := h.1 (of_decide_eq_true hc)
     clear hc
     refine HC_skip ?_
     refine HC_seqJ (b31J2 (fun v_25 F => ∃ m', m' < m1 ∧ I1 m' v_25 F) b1 v_21 v_23 v_25 R) ?_ ?_
     ·
      clear h; rintro E F ⟨h1, h4, h23, h24, h25, h⟩
      unfold b31j2 at h
      refine HC_region ?_
      refine sR (.int .i64 (IntKind.i64.wrap (v_25 + (1 : Int)))) (r_add rfl h25 rfl) ?_
      refine sR (.int .i64 (IntKind.i64.wrap (v_25 + (1 : Int)))) (r_move rfl rfl) ?_
      refine HL_nil ?_
      obtain ⟨m', hm, h⟩ := h
      exact ⟨m', hm, _, h1, h4, h23, h24, rfl, h⟩
     ·
      skip
      refine HC_block ?_
      refine cR ?_
      refine sR (.int .i64 v_25) (r_move rfl h25) ?_
      obtain ⟨a28_, hb28, hl28, hu28, h⟩ := h
      refine sR (.pointer (some (Addr.add a28_ (Int.toNat v_25 * 3)))) (w_indexAddr h23 h25 underlying26 sz72 hb28 hl28 hu28) ?_
      obtain ⟨v_29, hs29, hc29, h⟩ := h
      refine sR (.agg v_29) (w_loadN rfl underlying72 rfl sz72 hs29 hc29) ?_
      refine s_ef (k_alloc zr72 ?_)
      intro b6 hf_b6
      replace h := atE (h b6 hf_b6)
      refine sR (.int .i64 v_25) (r_assign rfl rfl) ?_
      refine s_ef0 (k_storeN (vs := v_29) rfl rfl sz72 (by decide) ?_)
      obtain ⟨hz1, hz2, c, e, hz3, hz4, hz5, h⟩ := h
      refine ⟨hz1, hz2, c, e, hz3, hz4, hz5, ?_⟩
      replace h := atE h
      refine HL_nil ?_
      refine HC_seq ?_
      refine HC_draw0 (by kernel_rfl) (fun hp => ?_)
      refine gU 0 (Sl.v v_21) rfl (fun _ => r_move rfl h4) hp ?_
      refine gU 1 (.pointer (some (Addr.mk b6 1 none))) rfl (fun _ => w_fieldAddr (a' := (Addr.mk b6 1 none)) rfl underlying72 rfl rfl sz3 rfl rfl) hp ?_
      obtain ⟨v_32, hc32, h⟩ := h
      refine gR 2 (.int .i64 v_32) rfl (r_load1 rfl rfl underlying3 rfl hc32) hp (fun S2 q2 => ?_)
      replace hp := holdC (i := 2) (q2 _ (r_load1 rfl rfl underlying3 rfl hc32)) hp
      obtain ⟨a33_, hb33, hl33, hu33, h⟩ := h
      refine gU 3 (.pointer (some (Addr.add a33_ (Int.toNat v_32 * 1)))) rfl (fun _ => w_indexAddr rfl rfl underlying92 sz39 hb33 hl33 hu33) hp ?_
      obtain ⟨v_34, hc34, h⟩ := h
      refine gR 4 (.int .u64 v_34) rfl (r_load1 rfl rfl underlying39 rfl hc34) hp (fun S4 q4 => ?_)
      replace hp := holdC (i := 4) (q4 _ (r_load1 rfl rfl underlying39 rfl hc34)) hp
      refine gU 5 (Sl.v v_21) rfl (fun _ => r_move rfl h4) hp ?_
      refine gU 6 (.pointer (some (Addr.mk b6 2 none))) rfl (fun _ => w_fieldAddr (a' := (Addr.mk b6 2 none)) rfl underlying72 rfl rfl sz3 rfl rfl) hp ?_
      obtain ⟨v_37, hc37, h⟩ := h
      refine gR 7 (.int .i64 v_37) rfl (r_load1 rfl rfl underlying3 rfl hc37) hp (fun S7 q7 => ?_)
      replace hp := holdC (i := 7) (q7 _ (r_load1 rfl rfl underlying3 rfl hc37)) hp
      obtain ⟨a38_, hb38, hl38, hu38, h⟩ := h
      refine gU 8 (.pointer (some (Addr.add a38_ (Int.toNat v_37 * 1)))) rfl (fun _ => w_indexAddr rfl rfl underlying92 sz39 hb38 hl38 hu38) hp ?_
      obtain ⟨v_39, hc39, h⟩ := h
      refine gR 9 (.int .u64 v_39) rfl (r_load1 rfl rfl underlying39 rfl hc39) hp (fun S9 q9 => ?_)
      replace hp := holdC (i := 9) (q9 _ (r_load1 rfl rfl underlying39 rfl hc39)) hp
      refine gU 10 (.pointer (some (Addr.mk b6 0 none))) rfl (fun _ => w_fieldAddr (a' := (Addr.mk b6 0 none)) rfl underlying72 rfl rfl sz3 rfl rfl) hp ?_
      obtain ⟨v_41, hc41, h⟩ := h
      refine gR 11 (.int .i64 v_41) rfl (r_load1 rfl rfl underlying3 rfl hc41) hp (fun S11 q11 => ?_)
      replace hp := holdC (i := 11) (q11 _ (r_load1 rfl rfl underlying3 rfl hc41)) hp
      obtain ⟨hd42, h⟩ := h
      refine gU 12 (.int .u64 (IntKind.u64.wrap ((1 : Int) * 2 ^ (min (Int.toNat v_41) (IntKind.u64).bits)))) rfl (fun _ => r_shl rfl rfl rfl hd42) hp ?_
      refine gU 13 (.int .u64 (IntKind.u64.wrap ((BitVec.ofInt (IntKind.u64).bits v_39 ||| BitVec.ofInt (IntKind.u64).bits (IntKind.u64.wrap ((1 : Int) * 2 ^ (min (Int.toNat v_41) (IntKind.u64).bits)))).toNat))) rfl (fun _ => r_or rfl rfl rfl) hp ?_
      refine gU 14 (.int .u64 v_34) rfl (fun _ => r_assign rfl rfl) hp ?_
      refine gU 15 (.int .u64 (IntKind.u64.wrap ((BitVec.ofInt (IntKind.u64).bits v_39 ||| BitVec.ofInt (IntKind.u64).bits (IntKind.u64.wrap ((1 : Int) * 2 ^ (min (Int.toNat v_41) (IntKind.u64).bits)))).toNat))) rfl (fun _ => r_assign rfl rfl) hp ?_
      refine RG_done (by kernel_rfl) ?_
      refine HC_block ?_
      refine cR ?_
      refine sR (.pointer (some (Addr.mk b6 1 none))) (w_fieldAddr (a' := (Addr.mk b6 1 none)) rfl underlying72 rfl rfl sz3 rfl rfl) ?_
      obtain ⟨v_53, hc53, h⟩ := h
      refine sR (.int .i64 v_53) (r_load1 rfl rfl underlying3 rfl hc53) ?_
      refine sR (.bool (decide (v_53 = (0 : Int)))) (w_eql rfl rfl) ?_
      refine sR (.bool (decide (v_53 = (0 : Int)))) (r_assign rfl rfl) ?_
      refine HL_nil ?_
      refine HC_cond (t := (decide (v_53 = (0 : Int)))) rfl (fun hc => ?_) (fun hc => ?_)
      ·
       replace h := h.1 (of_decide_eq_true hc)
       clear hc
       refine HC_region ?_
       refine sR (Sl.v v_21) (r_move rfl h4) ?_
       refine sR (.int .i64 v_25) (r_move rfl rfl) ?_
       refine sR (.int .i64 (IntKind.i64.wrap (v_25 + (2 : Int)))) (r_add rfl rfl rfl) ?_
       refine sR (.int .u64 (IntKind.u64.wrap ((BitVec.ofInt (IntKind.u64).bits v_39 ||| BitVec.ofInt (IntKind.u64).bits (IntKind.u64.wrap ((1 : Int) * 2 ^ (min (Int.toNat v_41) (IntKind.u64).bits)))).toNat))) (r_move rfl rfl) ?_
       obtain ⟨a59_, hb59, hl59, hu59, h⟩ := h
       refine sR (.pointer (some (Addr.add a59_ (Int.toNat (IntKind.i64.wrap (v_25 + (2 : Int))) * 1)))) (w_indexAddr rfl rfl underlying92 sz39 hb59 hl59 hu59) ?_
       refine s_ef0 (k_store1 (v := (.int .u64 (IntKind.u64.wrap ((BitVec.ofInt (IntKind.u64).bits v_39 ||| BitVec.ofInt (IntKind.u64).bits (IntKind.u64.wrap ((1 : Int) * 2 ^ (min (Int.toNat v_41) (IntKind.u64).bits)))).toNat)))) rfl rfl sz39 rfl st_int ?_)
       obtain ⟨c, e, hz3, hz4, hz5, h⟩ := h
       refine ⟨c, e, hz3, hz4, hz5, ?_⟩
       replace h := atE h
       refine HL_nil ?_
       show b31J2 (fun v_25 F => ∃ m', m' < m1 ∧ I1 m' v_25 F) b1 v_21 v_23 v_25 R _ _
       exact ⟨h1, h4, h23, h24, h25, h⟩
      ·
       replace h := h.2 (of_decide_eq_false hc)
       clear hc
       refine cR ?_
       refine sR (.pointer (some (Addr.mk b6 2 none))) (w_fieldAddr (a' := (Addr.mk b6 2 none)) rfl underlying72 rfl rfl sz3 rfl rfl) ?_
       obtain ⟨v_62, hc62, h⟩ := h
       refine sR (.int .i64 v_62) (r_load1 rfl rfl underlying3 rfl hc62) ?_
       refine sR (.bool (decide (v_62 = (0 : Int)))) (w_eql rfl rfl) ?_
       refine sR (.bool (decide (v_62 = (0 : Int)))) (r_assign rfl rfl) ?_
       refine HL_nil ?_
       refine HC_cond (t := (decide (v_62 = (0 : Int)))) rfl (fun hc => ?_) (fun hc => ?_)
       ·
        replace h := h.1 (of_decide_eq_true hc)
        clear hc
        refine HC_region ?_
        refine sR (Sl.v v_21) (r_move rfl h4) ?_
        refine sR (.int .i64 v_25) (r_move rfl rfl) ?_
        refine sR (.int .i64 (IntKind.i64.wrap (v_25 + (2 : Int)))) (r_add rfl rfl rfl) ?_
        refine sR (.int .u64 v_34) (r_move rfl rfl) ?_
        obtain ⟨a68_, hb68, hl68, hu68, h⟩ := h
        refine sR (.pointer (some (Addr.add a68_ (Int.toNat (IntKind.i64.wrap (v_25 + (2 : Int))) * 1)))) (w_indexAddr rfl rfl underlying92 sz39 hb68 hl68 hu68) ?_
        refine s_ef0 (k_store1 (v := (.int .u64 v_34)) rfl rfl sz39 rfl st_int ?_)
        obtain ⟨c, e, hz3, hz4, hz5, h⟩ := h
        refine ⟨c, e, hz3, hz4, hz5, ?_⟩
        replace h := atE h
        refine HL_nil ?_
        show b31J2 (fun v_25 F => ∃ m', m' < m1 ∧ I1 m' v_25 F) b1 v_21 v_23 v_25 R _ _
        exact ⟨h1, h4, h23, h24, h25, h⟩
       ·
        replace h := h.2 (of_decide_eq_false hc)
        clear hc
        refine HC_region ?_
        refine sR (Sl.v v_21) (r_move rfl h4) ?_
        refine sR (.int .i64 v_25) (r_move rfl rfl) ?_
        refine sR (.int .i64 (IntKind.i64.wrap (v_25 + (2 : Int)))) (r_add rfl rfl rfl) ?_
        refine sR (.int .u64 v_34) (r_move rfl rfl) ?_
        refine sR (.int .u64 (IntKind.u64.wrap ((BitVec.ofInt (IntKind.u64).bits v_39 ||| BitVec.ofInt (IntKind.u64).bits (IntKind.u64.wrap ((1 : Int) * 2 ^ (min (Int.toNat v_41) (IntKind.u64).bits)))).toNat))) (r_move rfl rfl) ?_
        refine sR (.int .u64 (min v_34 (IntKind.u64.wrap ((BitVec.ofInt (IntKind.u64).bits v_39 ||| BitVec.ofInt (IntKind.u64).bits (IntKind.u64.wrap ((1 : Int) * 2 ^ (min (Int.toNat v_41) (IntKind.u64).bits)))).toNat)))) (r_min2 rfl rfl rfl) ?_
        obtain ⟨a50_, hb50, hl50, hu50, h⟩ := h
        refine sR (.pointer (some (Addr.add a50_ (Int.toNat (IntKind.i64.wrap (v_25 + (2 : Int))) * 1)))) (w_indexAddr rfl rfl underlying92 sz39 hb50 hl50 hu50) ?_
        refine s_ef0 (k_store1 (v := (.int .u64 (min v_34 (IntKind.u64.wrap ((BitVec.ofInt (IntKind.u64).bits v_39 ||| BitVec.ofInt (IntKind.u64).bits (IntKind.u64.wrap ((1 : Int) * 2 ^ (min (Int.toNat v_41) (IntKind.u64).bits)))).toNat))))) rfl rfl sz39 rfl st_int ?_)
        obtain ⟨c, e, hz3, hz4, hz5, h⟩ := h
        refine ⟨c, e, hz3, hz4, hz5, ?_⟩
        replace h := atE h
        refine HL_nil ?_
        show b31J2 (fun v_25 F => ∃ m', m' < m1 ∧ I1 m' v_25 F) b1 v_21 v_23 v_25 R _ _
        exact ⟨h1, h4, h23, h24, h25, h⟩
    ·
     replace h := h.2 (of_decide_eq_false hc)
     clear hc
     refine HC_exit ?_
     show b31J1 b1 v_21 R _ _
     exact ⟨h1, h4, h⟩

end Go.Proofs.Ytafojmoeaneedaa
