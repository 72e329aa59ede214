/-
  What functions of the program do, in a clean form, each with the proof that its code does so. Printed by a program.
-/
import Derived.Test.YtnjcgpihfmklfaaDoorGf
import Derived.Test.YtnjcgpihfmklfaaDoorPhp
namespace Go.Proofs.YtnjcgpihfmklfaaDoor
open Go Go.Proofs.Tryd
set_option maxRecDepth 10000
set_option maxHeartbeats 4000000
/- 58 koine.pattern.meeting -/
def b58 (a_0 : Option Addr) (b_1 : Option Addr) (s_2 : Array Value) (t_3 : Array Value) (R : VP) (F : PH) :=
 ∀ b4, F b4 = none → atF (F.set b4 (.cells #[(.pointer a_0)] 61)) fun F =>
 ∀ b5, F b5 = none → atF (F.set b5 (.cells #[(.pointer b_1)] 61)) fun F =>
 ∀ b6, F b6 = none → atF (F.set b6 (.cells s_2 76)) fun F =>
 ∀ b7, F b7 = none → atF (F.set b7 (.cells t_3 76)) fun F =>
 ∀ b9, F b9 = none → atF (F.set b9 (.cells (#[.slice none 0 0]) 89)) fun F =>
 Spec prog 66 #[(.pointer (some (Addr.mk b6 0 none))), (.func (.func 84) #[] #[(.pointer (some (Addr.mk b7 0 none))), (.pointer (some (Addr.mk b4 0 none))), (.pointer (some (Addr.mk b5 0 none))), (.pointer (some (Addr.mk b9 0 none)))])] F fun v F => v = Value.tuple #[] ∧
 ∃ v_12 : Sl, F.cell (Addr.mk b9 0 none) = some (Sl.v v_12) ∧
 R (Sl.v v_12) F
theorem c58 {a_0 : Option Addr} {b_1 : Option Addr} {s_2 : Array Value} {t_3 : Array Value} {R : VP} {F : PH} (h : b58 a_0 b_1 s_2 t_3 R F) : Spec prog 58 #[(.pointer a_0), (.pointer b_1), (.agg s_2), (.agg t_3)] F R := by
 refine spec_of (args := [(.pointer a_0), (.pointer b_1), (.agg s_2), (.agg t_3)]) func58 rfl ntmps58 rfl ?_
 unfold b58 at h
 refine cR ?_
 refine s_ef (k_box (cs := #[(.pointer a_0)]) rfl rfl ?_)
 intro b4 hf_b4
 replace h := atE (h b4 hf_b4)
 refine s_ef (k_box (cs := #[(.pointer b_1)]) rfl rfl ?_)
 intro b5 hf_b5
 replace h := atE (h b5 hf_b5)
 refine s_ef (k_box (cs := s_2) rfl rfl ?_)
 intro b6 hf_b6
 replace h := atE (h b6 hf_b6)
 refine s_ef (k_box (cs := t_3) rfl rfl ?_)
 intro b7 hf_b7
 replace h := atE (h b7 hf_b7)
 refine sR (Sl.v Sl.nil) (r_assign rfl rfl) ?_
 refine HL_nil ?_
 refine cR ?_
 refine s_ef (k_alloc zr89 ?_)
 intro b9 hf_b9
 replace h := atE (h b9 hf_b9)
 refine HL_nil ?_
 refine cR (sR (.func (.func 84) #[] #[(.pointer (some (Addr.mk b7 0 none))), (.pointer (some (Addr.mk b4 0 none))), (.pointer (some (Addr.mk b5 0 none))), (.pointer (some (Addr.mk b9 0 none)))]) (w_makeFunc evN (evC rfl (evC rfl (evC rfl (evC rfl evN))))) ?_)
 refine s_ef (k_call (vs := [(.pointer (some (Addr.mk b6 0 none))), (.func (.func 84) #[] #[(.pointer (some (Addr.mk b7 0 none))), (.pointer (some (Addr.mk b4 0 none))), (.pointer (some (Addr.mk b5 0 none))), (.pointer (some (Addr.mk b9 0 none)))])]) cb66 (evC rfl (evC rfl evN)) (h.mono ?_))
 clear h; rintro v F ⟨rfl, h⟩
 refine HL_nil ?_
 refine cR ?_
 obtain ⟨v_12, hc12, h⟩ := h
 refine sR (Sl.v v_12) (r_load1 rfl rfl underlying89 rfl hc12) ?_
 refine sR (Sl.v v_12) (r_assign rfl rfl) ?_
 exact HL_nil (HC_ret (rt1 f58 R rfl rfl h))
 /- 84 koine.pattern.meeting$1 -/
def b84 (i_0 : Int) (v_1 : Option Addr) (v_2 : Option Addr) (v_3 : Option Addr) (v_4 : Option Addr) (R : VP) (F : PH) :=
 ∀ b5, F b5 = none → atF (F.set b5 (.cells #[(.int .i64 i_0)] 3)) fun F =>
 Spec prog 66 #[(.pointer v_1), (.func (.func 85) #[] #[(.pointer v_2), (.pointer (some (Addr.mk b5 0 none))), (.pointer v_3), (.pointer v_4)])] F fun v F => v = Value.tuple #[] ∧
 R (.tuple #[]) F
theorem c84 {i_0 : Int} {v_1 : Option Addr} {v_2 : Option Addr} {v_3 : Option Addr} {v_4 : Option Addr} {R : VP} {F : PH} (h : b84 i_0 v_1 v_2 v_3 v_4 R F) : Spec prog 84 #[(.int .i64 i_0), (.pointer v_1), (.pointer v_2), (.pointer v_3), (.pointer v_4)] F R := by
 refine spec_of (args := [(.int .i64 i_0), (.pointer v_1), (.pointer v_2), (.pointer v_3), (.pointer v_4)]) func84 rfl ntmps84 rfl ?_
 unfold b84 at h
 refine cR ?_
 refine s_ef (k_box (cs := #[(.int .i64 i_0)]) rfl rfl ?_)
 intro b5 hf_b5
 replace h := atE (h b5 hf_b5)
 refine HL_nil ?_
 refine HC_region ?_
 refine sR (.func (.func 85) #[] #[(.pointer v_2), (.pointer (some (Addr.mk b5 0 none))), (.pointer v_3), (.pointer v_4)]) (w_makeFunc evN (evC rfl (evC rfl (evC rfl (evC rfl evN))))) ?_
 refine s_ef (k_call (vs := [(.pointer v_1), (.func (.func 85) #[] #[(.pointer v_2), (.pointer (some (Addr.mk b5 0 none))), (.pointer v_3), (.pointer v_4)])]) cb66 (evC rfl (evC rfl evN)) (h.mono ?_))
 clear h; rintro v F ⟨rfl, h⟩
 refine HL_nil ?_
 exact (show endQ prog f84 R .normal _ _ from ⟨_, res0 rfl, h⟩)
 /- 85 koine.pattern.meeting$1$1 -/
def b85 (j_0 : Int) (v_1 : Option Addr) (v_2 : Option Addr) (v_3 : Option Addr) (v_4 : Option Addr) (R : VP) (F : PH) :=
 ∃ v1a_ : Addr, v_1 = some v1a_ ∧ ∃ v_6 : Option Addr, F.cell v1a_ = some (.pointer v_6) ∧
 ∃ v6a_ : Addr, v_6 = some v6a_ ∧ ∃ v_9 : Sl, F.cell v6a_ = some (Sl.v v_9) ∧
 ∃ v2a_ : Addr, v_2 = some v2a_ ∧ ∃ v_10 : Int, F.cell v2a_ = some (.int .i64 v_10) ∧
 ∃ a11_ : Addr, v_9.base = some a11_ ∧ 0 ≤ v_10 ∧ v_10 < (v_9.len : Int) ∧
 ∃ v_13 : Int, F.cell (Addr.add (Addr.add a11_ (Int.toNat v_10 * 5)) 1) = some (.int .i64 v_13) ∧
 ∃ v3a_ : Addr, v_3 = some v3a_ ∧ ∃ v_14 : Option Addr, F.cell v3a_ = some (.pointer v_14) ∧
 ∃ v14a_ : Addr, v_14 = some v14a_ ∧ ∃ v_17 : Sl, F.cell v14a_ = some (Sl.v v_17) ∧
 ∃ a19_ : Addr, v_17.base = some a19_ ∧ 0 ≤ j_0 ∧ j_0 < (v_17.len : Int) ∧
 ∃ v_21 : Int, F.cell (Addr.add (Addr.add a19_ (Int.toNat j_0 * 5)) 1) = some (.int .i64 v_21) ∧
 ∃ v_23 : Option Addr, F.cell v1a_ = some (.pointer v_23) ∧
 ∃ v23a_ : Addr, v_23 = some v23a_ ∧ ∃ v_26 : Sl, F.cell v23a_ = some (Sl.v v_26) ∧
 ∃ v_27 : Int, F.cell v2a_ = some (.int .i64 v_27) ∧
 ∃ a28_ : Addr, v_26.base = some a28_ ∧ 0 ≤ v_27 ∧ v_27 < (v_26.len : Int) ∧
 ∃ v_30 : Int, F.cell (Addr.add (Addr.add a28_ (Int.toNat v_27 * 5)) 2) = some (.int .i64 v_30) ∧
 ∃ v_31 : Option Addr, F.cell v3a_ = some (.pointer v_31) ∧
 ∃ v31a_ : Addr, v_31 = some v31a_ ∧ ∃ v_34 : Sl, F.cell v31a_ = some (Sl.v v_34) ∧
 ∃ a36_ : Addr, v_34.base = some a36_ ∧ 0 ≤ j_0 ∧ j_0 < (v_34.len : Int) ∧
 ∃ v_38 : Int, F.cell (Addr.add (Addr.add a36_ (Int.toNat j_0 * 5)) 2) = some (.int .i64 v_38) ∧
 (((max v_13 v_21) ≤ (min v_30 v_38) →
  ∃ v4a_ : Addr, v_4 = some v4a_ ∧ ∃ v_41 : Sl, F.cell v4a_ = some (Sl.v v_41) ∧
  ∃ v_42 : Int, F.cell v2a_ = some (.int .i64 v_42) ∧
  (#[(.int .i64 v_42), (.int .i64 j_0)] : Array Value).size = 2 ∧ ∀ b45, F b45 = none → atF (F.set b45 (.cells (#[(.int .i64 v_42), (.int .i64 j_0)] : Array Value) 92)) fun F =>
  runs prog (Builtin.append_ #[89, 89] 89 #[(Sl.v v_41), (Sl.v (Sl.mk (some (Addr.mk b45 0 none)) 1 1))]) F fun v F => ∃ v_46 : Sl, v = (Sl.v v_46) ∧
  ∃ c e, F v4a_.block = some (.cells c e (0, 0)) ∧ v4a_.spot = none ∧ v4a_.off < c.size ∧
  atF (F.set v4a_.block (.cells (c.setIfInBounds v4a_.off (Sl.v v_46)) e)) fun F =>
  R (.tuple #[]) F) ∧
 (¬ ((max v_13 v_21) ≤ (min v_30 v_38)) →
  R (.tuple #[]) F))
theorem c85 {j_0 : Int} {v_1 : Option Addr} {v_2 : Option Addr} {v_3 : Option Addr} {v_4 : Option Addr} {R : VP} {F : PH} (h : b85 j_0 v_1 v_2 v_3 v_4 R F) : Spec prog 85 #[(.int .i64 j_0), (.pointer v_1), (.pointer v_2), (.pointer v_3), (.pointer v_4)] F R := by
 refine spec_of (args := [(.int .i64 j_0), (.pointer v_1), (.pointer v_2), (.pointer v_3), (.pointer v_4)]) func85 rfl ntmps85 rfl ?_
 unfold b85 at h
 refine HC_seq ?_
 refine HC_draw0 (by kernel_rfl) (fun hp => ?_)
 obtain ⟨v1a_, rfl, h⟩ := h
 obtain ⟨v_6, hc6, h⟩ := h
 refine gR 0 (.pointer v_6) rfl (r_load1 rfl rfl underlying61 rfl hc6) hp (fun S0 q0 => ?_)
 replace hp := holdC (i := 0) (q0 _ (r_load1 rfl rfl underlying61 rfl hc6)) hp
 obtain ⟨v6a_, rfl, h⟩ := h
 refine gU 1 (.pointer (some v6a_)) rfl (fun _ => r_nilCheck rfl rfl) hp ?_
 refine gU 2 (.pointer (some v6a_)) rfl (fun _ => w_fieldAddr rfl underlying79 rfl rfl sz25 rfl rfl) hp ?_
 obtain ⟨v_9, hc9, h⟩ := h
 refine gR 3 (Sl.v v_9) rfl (r_load1 rfl rfl underlying25 rfl hc9) hp (fun S3 q3 => ?_)
 replace hp := holdC (i := 3) (q3 _ (r_load1 rfl rfl underlying25 rfl hc9)) hp
 obtain ⟨v2a_, rfl, h⟩ := h
 obtain ⟨v_10, hc10, h⟩ := h
 refine gR 4 (.int .i64 v_10) rfl (r_load1 rfl rfl underlying3 rfl hc10) hp (fun S4 q4 => ?_)
 replace hp := holdC (i := 4) (q4 _ (r_load1 rfl rfl underlying3 rfl hc10)) hp
 obtain ⟨a11_, hb11, hl11, hu11, h⟩ := h
 refine gU 5 (.pointer (some (Addr.add a11_ (Int.toNat v_10 * 5)))) rfl (fun _ => w_indexAddr rfl rfl underlying25 sz50 hb11 hl11 hu11) hp ?_
 refine gU 6 (.pointer (some (Addr.add (Addr.add a11_ (Int.toNat v_10 * 5)) 1))) rfl (fun _ => w_fieldAddr rfl underlying50 rfl rfl sz3 rfl rfl) hp ?_
 obtain ⟨v_13, hc13, h⟩ := h
 refine gR 7 (.int .i64 v_13) rfl (r_load1 rfl rfl underlying3 rfl hc13) hp (fun S7 q7 => ?_)
 replace hp := holdC (i := 7) (q7 _ (r_load1 rfl rfl underlying3 rfl hc13)) hp
 obtain ⟨v3a_, rfl, h⟩ := h
 obtain ⟨v_14, hc14, h⟩ := h
 refine gR 8 (.pointer v_14) rfl (r_load1 rfl rfl underlying61 rfl hc14) hp (fun S8 q8 => ?_)
 replace hp := holdC (i := 8) (q8 _ (r_load1 rfl rfl underlying61 rfl hc14)) hp
 obtain ⟨v14a_, rfl, h⟩ := h
 refine gU 9 (.pointer (some v14a_)) rfl (fun _ => r_nilCheck rfl rfl) hp ?_
 refine gU 10 (.pointer (some v14a_)) rfl (fun _ => w_fieldAddr rfl underlying79 rfl rfl sz25 rfl rfl) hp ?_
 obtain ⟨v_17, hc17, h⟩ := h
 refine gR 11 (Sl.v v_17) rfl (r_load1 rfl rfl underlying25 rfl hc17) hp (fun S11 q11 => ?_)
 replace hp := holdC (i := 11) (q11 _ (r_load1 rfl rfl underlying25 rfl hc17)) hp
 refine gU 12 (.int .i64 j_0) rfl (fun _ => r_move rfl rfl) hp ?_
 obtain ⟨a19_, hb19, hl19, hu19, h⟩ := h
 refine gU 13 (.pointer (some (Addr.add a19_ (Int.toNat j_0 * 5)))) rfl (fun _ => w_indexAddr rfl rfl underlying25 sz50 hb19 hl19 hu19) hp ?_
 refine gU 14 (.pointer (some (Addr.add (Addr.add a19_ (Int.toNat j_0 * 5)) 1))) rfl (fun _ => w_fieldAddr rfl underlying50 rfl rfl sz3 rfl rfl) hp ?_
 obtain ⟨v_21, hc21, h⟩ := h
 refine gR 15 (.int .i64 v_21) rfl (r_load1 rfl rfl underlying3 rfl hc21) hp (fun S15 q15 => ?_)
 replace hp := holdC (i := 15) (q15 _ (r_load1 rfl rfl underlying3 rfl hc21)) hp
 refine gU 16 (.int .i64 (max v_13 v_21)) rfl (fun _ => r_max2 rfl rfl rfl) hp ?_
 obtain ⟨v_23, hc23, h⟩ := h
 refine gR 17 (.pointer v_23) rfl (r_load1 rfl rfl underlying61 rfl hc23) hp (fun S17 q17 => ?_)
 replace hp := holdC (i := 17) (q17 _ (r_load1 rfl rfl underlying61 rfl hc23)) hp
 obtain ⟨v23a_, rfl, h⟩ := h
 refine gU 18 (.pointer (some v23a_)) rfl (fun _ => r_nilCheck rfl rfl) hp ?_
 refine gU 19 (.pointer (some v23a_)) rfl (fun _ => w_fieldAddr rfl underlying79 rfl rfl sz25 rfl rfl) hp ?_
 obtain ⟨v_26, hc26, h⟩ := h
 refine gR 20 (Sl.v v_26) rfl (r_load1 rfl rfl underlying25 rfl hc26) hp (fun S20 q20 => ?_)
 replace hp := holdC (i := 20) (q20 _ (r_load1 rfl rfl underlying25 rfl hc26)) hp
 obtain ⟨v_27, hc27, h⟩ := h
 refine gR 21 (.int .i64 v_27) rfl (r_load1 rfl rfl underlying3 rfl hc27) hp (fun S21 q21 => ?_)
 replace hp := holdC (i := 21) (q21 _ (r_load1 rfl rfl underlying3 rfl hc27)) hp
 obtain ⟨a28_, hb28, hl28, hu28, h⟩ := h
 refine gU 22 (.pointer (some (Addr.add a28_ (Int.toNat v_27 * 5)))) rfl (fun _ => w_indexAddr rfl rfl underlying25 sz50 hb28 hl28 hu28) hp ?_
 refine gU 23 (.pointer (some (Addr.add (Addr.add a28_ (Int.toNat v_27 * 5)) 2))) rfl (fun _ => w_fieldAddr rfl underlying50 rfl rfl sz3 rfl rfl) hp ?_
 obtain ⟨v_30, hc30, h⟩ := h
 refine gR 24 (.int .i64 v_30) rfl (r_load1 rfl rfl underlying3 rfl hc30) hp (fun S24 q24 => ?_)
 replace hp := holdC (i := 24) (q24 _ (r_load1 rfl rfl underlying3 rfl hc30)) hp
 obtain ⟨v_31, hc31, h⟩ := h
 refine gR 25 (.pointer v_31) rfl (r_load1 rfl rfl underlying61 rfl hc31) hp (fun S25 q25 => ?_)
 replace hp := holdC (i := 25) (q25 _ (r_load1 rfl rfl underlying61 rfl hc31)) hp
 obtain ⟨v31a_, rfl, h⟩ := h
 refine gU 26 (.pointer (some v31a_)) rfl (fun _ => r_nilCheck rfl rfl) hp ?_
 refine gU 27 (.pointer (some v31a_)) rfl (fun _ => w_fieldAddr rfl underlying79 rfl rfl sz25 rfl rfl) hp ?_
 obtain ⟨v_34, hc34, h⟩ := h
 refine gR 28 (Sl.v v_34) rfl (r_load1 rfl rfl underlying25 rfl hc34) hp (fun S28 q28 => ?_)
 replace hp := holdC (i := 28) (q28 _ (r_load1 rfl rfl underlying25 rfl hc34)) hp
 refine gU 29 (.int .i64 j_0) rfl (fun _ => r_move rfl rfl) hp ?_
 obtain ⟨a36_, hb36, hl36, hu36, h⟩ := h
 refine gU 30 (.pointer (some (Addr.add a36_ (Int.toNat j_0 * 5)))) rfl (fun _ => w_indexAddr rfl rfl underlying25 sz50 hb36 hl36 hu36) hp ?_
 refine gU 31 (.pointer (some (Addr.add (Addr.add a36_ (Int.toNat j_0 * 5)) 2))) rfl (fun _ => w_fieldAddr rfl underlying50 rfl rfl sz3 rfl rfl) hp ?_
 obtain ⟨v_38, hc38, h⟩ := h
 refine gR 32 (.int .i64 v_38) rfl (r_load1 rfl rfl underlying3 rfl hc38) hp (fun S32 q32 => ?_)
 replace hp := holdC (i := 32) (q32 _ (r_load1 rfl rfl underlying3 rfl hc38)) hp
 refine gU 33 (.int .i64 (min v_30 v_38)) rfl (fun _ => r_min2 rfl rfl rfl) hp ?_
 refine gU 34 (.bool (decide ((max v_13 v_21) ≤ (min v_30 v_38)))) rfl (fun _ => r_leq rfl rfl rfl) hp ?_
 refine RG_done (by kernel_rfl) ?_
 refine HC_cond (t := (decide ((max v_13 v_21) ≤ (min v_30 v_38)))) rfl (fun hc => ?_) (fun hc => ?_)
 replace h := h.1 (of_decide_eq_true hc)
 clear hc
 refine HC_region ?_
 obtain ⟨v4a_, rfl, h⟩ := h
 obtain ⟨v_41, hc41, h⟩ := h
 refine sR (Sl.v v_41) (r_load1 rfl rfl underlying89 rfl hc41) ?_
 obtain ⟨v_42, hc42, h⟩ := h
 refine sR (.int .i64 v_42) (r_load1 rfl rfl underlying3 rfl hc42) ?_
 refine sR (.int .i64 j_0) (r_move rfl rfl) ?_
 refine sR (.agg (#[(.int .i64 v_42), (.int .i64 j_0)] : Array Value)) (w_buildStruct (cells := #[(.int .i64 v_42), (.int .i64 j_0)]) underlying92 zr92 kf92 (evPC rfl (evPC rfl evPN)) (fill1 (place_of rfl rfl sz3) rfl rfl (fill1 (place_of rfl rfl sz3) rfl rfl (fillN rfl)))) ?_
 obtain ⟨hz45, h⟩ := h
 refine s_ef (k_buildSlice (cells := (#[(.int .i64 v_42), (.int .i64 j_0)] : Array Value)) underlying89 sz92 (by decide) zr92 rfl (evPC rfl evPN) (fillWhole hz45 rfl rfl) rfl ?_)
 intro b45 hf_b45
 replace h := atE (h b45 hf_b45)
 refine s_ef (k_append rfl rfl (runs_mono _ _ h ?_))
 clear h; rintro v F ⟨v_46, rfl, h⟩
 refine s_ef0 (k_store1 (v := (Sl.v v_46)) rfl rfl sz89 rfl st_sl ?_)
 obtain ⟨c, e, hz3, hz4, hz5, h⟩ := h
 refine ⟨c, e, hz3, hz4, hz5, ?_⟩
 replace h := atE h
 refine HL_nil ?_
 exact (show endQ prog f85 R .normal _ _ from ⟨_, res0 rfl, h⟩)
 replace h := h.2 (of_decide_eq_false hc)
 clear hc
 refine HC_skip ?_
 exact (show endQ prog f85 R .normal _ _ from ⟨_, res0 rfl, h⟩)
 /- 82 koine.pattern.distances$1 -/
def b82j1 (b3 : Nat) (R : VP) (F : PH) :=
 ∃ v_28 : Sl, F.cell (Addr.mk b3 0 none) = some (Sl.v v_28) ∧
 R (Sl.v v_28) F
abbrev b82J1 (b3 : Nat) (R : VP) (E : En) (F : PH) : Prop := E 3 = (.pointer (some (Addr.mk b3 0 none))) ∧ b82j1 b3 R F
def b82L1 (N1 : Int → PH → Prop) (vm0a_ : Addr) (b3 : Nat) (v_14 : Sl) (R : VP) (v_16 : Int) (F : PH) :=
 ((v_16 < (v_14.len : Int) →
  ∀ b4, F b4 = none → atF (F.set b4 (.cells (#[.int .i64 0]) 3)) fun F =>
  ∃ c e, F (Addr.mk b4 0 none).block = some (.cells c e (0, 0)) ∧ (Addr.mk b4 0 none).spot = none ∧ (Addr.mk b4 0 none).off < c.size ∧
  atF (F.set (Addr.mk b4 0 none).block (.cells (c.setIfInBounds (Addr.mk b4 0 none).off (.int .i64 v_16)) e)) fun F =>
  ∃ v_22 : Sl, F.cell (Addr.add vm0a_ 17) = some (Sl.v v_22) ∧
  ∃ v_23 : Int, F.cell (Addr.mk b4 0 none) = some (.int .i64 v_23) ∧
  ∃ a24_ : Addr, v_22.base = some a24_ ∧ 0 ≤ v_23 ∧ v_23 < (v_22.len : Int) ∧
  Spec prog 66 #[(.pointer (some (Addr.add a24_ (Int.toNat v_23 * 8)))), (.func (.func 83) #[] #[(.pointer (some (Addr.mk b3 0 none))), (.pointer (some (Addr.mk b4 0 none)))])] F fun v F => v = Value.tuple #[] ∧
  F.cell (Addr.mk b4 0 none) = some (.int .i64 v_23) ∧ F.cell (Addr.add vm0a_ 17) = some (Sl.v v_22) ∧ N1 (IntKind.i64.wrap (v_16 + 1)) F) ∧
 (¬ (v_16 < (v_14.len : Int)) →
  b82j1 b3 R F))
def b82 (vm_0 : Option Addr) (R : VP) (F : PH) :=
 ∃ vm0a_ : Addr, vm_0 = some vm0a_ ∧ ∃ v_8 : Sl, F.cell vm0a_ = some (Sl.v v_8) ∧
 runs prog (Instr.makeSlice 77 (.int .i64 (v_8.len : Int)) (.int .i64 (v_8.len : Int))) F fun v F => ∃ v_10 : Sl, v = (Sl.v v_10) ∧
 ∀ b3, F b3 = none → atF (F.set b3 (.cells (#[.slice none 0 0]) 77)) fun F =>
 ∃ c e, F (Addr.mk b3 0 none).block = some (.cells c e (0, 0)) ∧ (Addr.mk b3 0 none).spot = none ∧ (Addr.mk b3 0 none).off < c.size ∧
 atF (F.set (Addr.mk b3 0 none).block (.cells (c.setIfInBounds (Addr.mk b3 0 none).off (Sl.v v_10)) e)) fun F =>
 ∃ v_14 : Sl, F.cell vm0a_ = some (Sl.v v_14) ∧
 (∃ (I1 : Nat → Int → PH → Prop) (m1 : Nat), I1 m1 0 F ∧ ∀ m1 v_16 F, I1 m1 v_16 F →
  b82L1 (nx1 I1 m1) vm0a_ b3 v_14 R v_16 F)
theorem c82 {vm_0 : Option Addr} {R : VP} {F : PH} (h : b82 vm_0 R F) : Spec prog 82 #[(.pointer vm_0)] F R := by
 refine spec_of (args := [(.pointer vm_0)]) func82 rfl ntmps82 rfl ?_
 unfold b82 at h
 refine cR (sR (Sl.v Sl.nil) (r_assign rfl rfl) ?_)
 refine HL_nil ?_
 refine cR (sR (.pointer vm_0) (r_move rfl rfl) ?_)
 obtain ⟨vm0a_, rfl, h⟩ := h
 refine sR (.pointer (some vm0a_)) (r_nilCheck rfl rfl) ?_
 refine sR (.pointer (some vm0a_)) (w_fieldAddr rfl underlying79 rfl rfl sz25 rfl rfl) ?_
 obtain ⟨v_8, hc8, h⟩ := h
 refine sR (Sl.v v_8) (r_load1 rfl rfl underlying25 rfl hc8) ?_
 refine sR (.int .i64 (v_8.len : Int)) (r_lenSl rfl rfl underlying25) ?_
 refine s_ef (k_makeSlice rfl rfl (runs_mono _ _ h ?_))
 clear h; rintro v F ⟨v_10, rfl, h⟩
 refine s_ef (k_alloc zr77 ?_)
 intro b3 hf_b3
 replace h := atE (h b3 hf_b3)
 refine s_ef0 (k_store1 (v := (Sl.v v_10)) rfl rfl sz77 rfl st_sl ?_)
 obtain ⟨c, e, hz3, hz4, hz5, h⟩ := h
 refine ⟨c, e, hz3, hz4, hz5, ?_⟩
 replace h := atE h
 refine HL_nil ?_
 refine HC_seqJ (b82J1 b3 R) ?_ ?_
 clear h; rintro E F ⟨h3, h⟩
 unfold b82j1 at h
 refine cR ?_
 obtain ⟨v_28, hc28, h⟩ := h
 refine sR (Sl.v v_28) (r_load1 rfl h3 underlying77 rfl hc28) ?_
 refine sR (Sl.v v_28) (r_assign rfl rfl) ?_
 exact HL_nil (HC_ret (rt1 f82 R rfl rfl h))
 refine cR (sR (.pointer (some vm0a_)) (r_move rfl rfl) ?_)
 refine sR (.pointer (some vm0a_)) (r_nilCheck rfl rfl) ?_
 refine sR (.pointer (some vm0a_)) (w_fieldAddr rfl underlying79 rfl rfl sz25 rfl rfl) ?_
 obtain ⟨v_14, hc14, h⟩ := h
 refine sR (Sl.v v_14) (r_load1 rfl rfl underlying25 rfl hc14) ?_
 refine sR (.int .i64 (v_14.len : Int)) (r_lenSl rfl rfl underlying25) ?_
 refine sR (.int .i64 0) (r_move rfl rfl) ?_
 refine HL_nil ?_
 refine HC_block ?_
 obtain ⟨I1, m1, hI0, hr⟩ := h
 refine HC_loop (fun m1 E F => ∃ v_16 : Int, E 0 = (.pointer (some vm0a_)) ∧ E 3 = (.pointer (some (Addr.mk b3 0 none))) ∧ E 15 = (.int .i64 (v_14.len : Int)) ∧ E 16 = (.int .i64 v_16) ∧ I1 m1 v_16 F) m1 ⟨_, rfl, rfl, rfl, rfl, hI0⟩ ?_
 clear hI0; rintro m1 E F ⟨v_16, h0, h3, h15, h16, hI⟩
 have h := hr m1 v_16 F hI
 clear hr hI
 unfold b82L1 at h
 refine cR (sR (.bool (decide (v_16 < (v_14.len : Int)))) (r_lss rfl h16 h15) ?_)
 refine HL_nil ?_
 refine HC_seq ?_
 refine HC_cond (t := (decide (v_16 < (v_14.len : Int)))) rfl (fun hc => ?_) (fun hc => ?_)
 replace h := h.1 (of_decide_eq_true hc)
 clear hc
 refine HC_skip ?_
 refine HC_seq ?_
 refine HC_block ?_
 refine cR (sR _ (r_move rfl h16) ?_)
 refine s_ef (k_alloc zr3 ?_)
 intro b4 hf_b4
 replace h := atE (h b4 hf_b4)
 refine s_ef0 (k_store1 (v := (.int .i64 v_16)) rfl rfl sz3 rfl st_int ?_)
 obtain ⟨c, e, hz3, hz4, hz5, h⟩ := h
 refine ⟨c, e, hz3, hz4, hz5, ?_⟩
 replace h := atE h
 refine HL_nil ?_
 refine HC_draw0 (by kernel_rfl) (fun hp => ?_)
 refine gU 0 (.pointer (some vm0a_)) rfl (fun _ => r_move rfl h0) hp ?_
 refine gU 1 (.pointer (some vm0a_)) rfl (fun _ => r_nilCheck rfl rfl) hp ?_
 refine gU 2 (.pointer (some (Addr.add vm0a_ 17))) rfl (fun _ => w_fieldAddr rfl underlying79 rfl rfl sz77 rfl rfl) hp ?_
 obtain ⟨v_22, hc22, h⟩ := h
 refine gR 3 (Sl.v v_22) rfl (r_load1 rfl rfl underlying77 rfl hc22) hp (fun S3 q3 => ?_)
 replace hp := holdC (i := 3) (q3 _ (r_load1 rfl rfl underlying77 rfl hc22)) hp
 obtain ⟨v_23, hc23, h⟩ := h
 refine gR 4 (.int .i64 v_23) rfl (r_load1 rfl rfl underlying3 rfl hc23) hp (fun S4 q4 => ?_)
 replace hp := holdC (i := 4) (q4 _ (r_load1 rfl rfl underlying3 rfl hc23)) hp
 obtain ⟨a24_, hb24, hl24, hu24, h⟩ := h
 refine gU 5 (.pointer (some (Addr.add a24_ (Int.toNat v_23 * 8)))) rfl (fun _ => w_indexAddr rfl rfl underlying77 sz76 hb24 hl24 hu24) hp ?_
 refine gU 6 (.func (.func 83) #[] #[(.pointer (some (Addr.mk b3 0 none))), (.pointer (some (Addr.mk b4 0 none)))]) rfl (fun _ => w_makeFunc evN (evC h3 (evC rfl evN))) hp ?_
 refine RG_eff1 (i := 7) (by kernel_rfl) (g_op (Sp' := [(4, S4), (3, S3)]) rfl rfl (k_call (vs := [(.pointer (some (Addr.add a24_ (Int.toNat v_23 * 8)))), (.func (.func 83) #[] #[(.pointer (some (Addr.mk b3 0 none))), (.pointer (some (Addr.mk b4 0 none)))])]) cb66 (evC rfl (evC rfl evN)) (h.mono ?_)))
 clear h; rintro v F ⟨rfl, h⟩
 obtain ⟨hk_7, hk_8, h⟩ := h
 refine holdI (holdC (i := 4) (q4 _ (r_load1 rfl rfl underlying3 rfl hk_7)) (holdC (i := 3) (q3 _ (r_load1 rfl rfl underlying77 rfl hk_8)) hold0)) (fun hp => ?_)
 refine RG_done (by kernel_rfl) ?_
 refine HC_region ?_
 refine sR (.int .i64 (IntKind.i64.wrap (v_16 + 1))) (r_add rfl h16 rfl) ?_
 refine sR (.int .i64 (IntKind.i64.wrap (v_16 + 1))) (r_move rfl rfl) ?_
 refine HL_nil ?_
 obtain ⟨m', hm, h⟩ := h
 exact ⟨m', hm, _, h0, h3, h15, rfl, h⟩
 replace h := h.2 (of_decide_eq_false hc)
 clear hc
 refine HC_exit ?_
 show b82J1 b3 R _ _
 exact ⟨h3, h⟩
 /- 83 koine.pattern.distances$1$1 -/
def b83 (k_0 : Int) (v_1 : Option Addr) (v_2 : Option Addr) (R : VP) (F : PH) :=
 ∃ v1a_ : Addr, v_1 = some v1a_ ∧ ∃ v_4 : Sl, F.cell v1a_ = some (Sl.v v_4) ∧
 ∃ a6_ : Addr, v_4.base = some a6_ ∧ 0 ≤ k_0 ∧ k_0 < (v_4.len : Int) ∧
 ∃ v2a_ : Addr, v_2 = some v2a_ ∧ ∃ v_7 : Int, F.cell v2a_ = some (.int .i64 v_7) ∧
 Spec prog 70 #[(.pointer (some (Addr.add a6_ (Int.toNat k_0 * 8)))), (.int .i64 v_7)] F fun v F => v = Value.tuple #[] ∧
 F.cell v1a_ = some (Sl.v v_4) ∧ R (.tuple #[]) F
theorem c83 {k_0 : Int} {v_1 : Option Addr} {v_2 : Option Addr} {R : VP} {F : PH} (h : b83 k_0 v_1 v_2 R F) : Spec prog 83 #[(.int .i64 k_0), (.pointer v_1), (.pointer v_2)] F R := by
 refine spec_of (args := [(.int .i64 k_0), (.pointer v_1), (.pointer v_2)]) func83 rfl ntmps83 rfl ?_
 unfold b83 at h
 refine HC_draw0 (by kernel_rfl) (fun hp => ?_)
 obtain ⟨v1a_, rfl, h⟩ := h
 obtain ⟨v_4, hc4, h⟩ := h
 refine gR 0 (Sl.v v_4) rfl (r_load1 rfl rfl underlying77 rfl hc4) hp (fun S0 q0 => ?_)
 replace hp := holdC (i := 0) (q0 _ (r_load1 rfl rfl underlying77 rfl hc4)) hp
 refine gU 1 (.int .i64 k_0) rfl (fun _ => r_move rfl rfl) hp ?_
 obtain ⟨a6_, hb6, hl6, hu6, h⟩ := h
 refine gU 2 (.pointer (some (Addr.add a6_ (Int.toNat k_0 * 8)))) rfl (fun _ => w_indexAddr rfl rfl underlying77 sz76 hb6 hl6 hu6) hp ?_
 obtain ⟨v2a_, rfl, h⟩ := h
 obtain ⟨v_7, hc7, h⟩ := h
 refine gR 3 (.int .i64 v_7) rfl (r_load1 rfl rfl underlying3 rfl hc7) hp (fun S3 q3 => ?_)
 replace hp := holdC (i := 3) (q3 _ (r_load1 rfl rfl underlying3 rfl hc7)) hp
 refine RG_eff1 (i := 4) (by kernel_rfl) (g_op (Sp' := [(0, S0)]) rfl rfl (k_call (vs := [(.pointer (some (Addr.add a6_ (Int.toNat k_0 * 8)))), (.int .i64 v_7)]) cb70 (evC rfl (evC rfl evN)) (h.mono ?_)))
 clear h; rintro v F ⟨rfl, h⟩
 obtain ⟨hk_1, h⟩ := h
 refine holdI (holdC (i := 0) (q0 _ (r_load1 rfl rfl underlying77 rfl hk_1)) hold0) (fun hp => ?_)
 refine RG_done (by kernel_rfl) ?_
 exact (show endQ prog f83 R .normal _ _ from ⟨_, res0 rfl, h⟩)
 /- 57 koine.pattern.distances -/
def b57j2 (b24 : Nat) (R : VP) (F : PH) :=
 R (.map (some b24)) F
abbrev b57J2 (b24 : Nat) (R : VP) (E : En) (F : PH) : Prop := E 8 = (.map (some b24)) ∧ b57j2 b24 R F
def b57j3 (N1 : Sl → Int → PH → Prop) (a0a_ : Addr) (b1a_ : Addr) (v_20 : Sl) (v_23 : Sl) (b24 : Nat) (at_12 : Int) (queue_9_1 : Sl) (R : VP) (F : PH) :=
 N1 queue_9_1 (IntKind.i64.wrap (at_12 + 1)) F
abbrev b57J3 (N1 : Sl → Int → PH → Prop) (a0a_ : Addr) (b1a_ : Addr) (v_20 : Sl) (v_23 : Sl) (b24 : Nat) (at_12 : Int) (R : VP) (E : En) (F : PH) : Prop := ∃ queue_9_1 : Sl, E 0 = (.pointer (some a0a_)) ∧ E 1 = (.pointer (some b1a_)) ∧ E 6 = (Sl.v v_20) ∧ E 7 = (Sl.v v_23) ∧ E 8 = (.map (some b24)) ∧ E 9 = (Sl.v queue_9_1) ∧ E 12 = (.int .i64 at_12) ∧ b57j3 N1 a0a_ b1a_ v_20 v_23 b24 at_12 queue_9_1 R F
def b57j4 (N1 : Sl → Int → PH → Prop) (N2 : Sl → Int → PH → Prop) (a0a_ : Addr) (b1a_ : Addr) (v_20 : Sl) (v_23 : Sl) (b24 : Nat) (at_12 : Int) (b13 : Nat) (v_67 : Sl) (v_69 : Int) (queue_9_3 : Sl) (R : VP) (F : PH) :=
 N2 queue_9_3 (IntKind.i64.wrap (v_69 + 1)) F
abbrev b57J4 (N1 : Sl → Int → PH → Prop) (N2 : Sl → Int → PH → Prop) (a0a_ : Addr) (b1a_ : Addr) (v_20 : Sl) (v_23 : Sl) (b24 : Nat) (at_12 : Int) (b13 : Nat) (v_67 : Sl) (v_69 : Int) (R : VP) (E : En) (F : PH) : Prop := ∃ queue_9_3 : Sl, E 0 = (.pointer (some a0a_)) ∧ E 1 = (.pointer (some b1a_)) ∧ E 6 = (Sl.v v_20) ∧ E 7 = (Sl.v v_23) ∧ E 8 = (.map (some b24)) ∧ E 9 = (Sl.v queue_9_3) ∧ E 12 = (.int .i64 at_12) ∧ E 13 = (.pointer (some (Addr.mk b13 0 none))) ∧ E 67 = (Sl.v v_67) ∧ E 68 = (.int .i64 (v_67.len : Int)) ∧ E 69 = (.int .i64 v_69) ∧ b57j4 N1 N2 a0a_ b1a_ v_20 v_23 b24 at_12 b13 v_67 v_69 queue_9_3 R F
def b57L2 (N1 : Sl → Int → PH → Prop) (N2 : Sl → Int → PH → Prop) (a0a_ : Addr) (b1a_ : Addr) (v_20 : Sl) (v_23 : Sl) (b24 : Nat) (at_12 : Int) (b13 : Nat) (v_67 : Sl) (R : VP) (queue_9_2 : Sl) (v_69 : Int) (F : PH) :=
 ((v_69 < (v_67.len : Int) →
  ∃ a71_ : Addr, v_67.base = some a71_ ∧ 0 ≤ v_69 ∧ v_69 < (v_67.len : Int) ∧
  ∃ v_72 : Array Value, v_72.size = 2 ∧ F.row (Addr.add a71_ (Int.toNat v_69 * 2)) v_72 ∧
  ∀ b15, F b15 = none → atF (F.set b15 (.cells (#[.int .i64 0, .int .i64 0]) 92)) fun F =>
  v_72.size = 2 ∧ (∀ v ∈ v_72.toList, storable v) ∧ ∃ c e, F (Addr.mk b15 0 none).block = some (.cells c e (0, 0)) ∧ (Addr.mk b15 0 none).spot = none ∧ (Addr.mk b15 0 none).off + 2 ≤ c.size ∧
  atF (F.set (Addr.mk b15 0 none).block (.cells (wr c (Addr.mk b15 0 none).off v_72.toList) e)) fun F =>
  ∃ v_75 : Array Value, v_75.size = 2 ∧ F.row (Addr.mk b15 0 none) v_75 ∧
  ∃ (v_76 : Int) (ok76_ : Bool), rdo prog (Instr.lookup 87 (.map (some b24)) (.agg v_75) true) F (.tuple #[(.int .i64 v_76), (.bool ok76_)]) ∧
  (((!ok76_) = true →
   ∃ v_82 : Array Value, v_82.size = 2 ∧ F.row (Addr.mk b15 0 none) v_82 ∧
   ∃ v_84 : Array Value, v_84.size = 2 ∧ F.row (Addr.mk b13 0 none) v_84 ∧
   ∃ v_85 : Int, rdo prog (Instr.lookup 87 (.map (some b24)) (.agg v_84) false) F (.int .i64 v_85) ∧
   runs prog (Instr.mapUpdate 87 (.map (some b24)) (.agg v_82) (.int .i64 (IntKind.i64.wrap (v_85 + 1)))) F fun _ F =>
   ∃ v_88 : Array Value, v_88.size = 2 ∧ F.row (Addr.mk b15 0 none) v_88 ∧
   v_88.size = 2 ∧ ∀ b89, F b89 = none → atF (F.set b89 (.cells v_88 92)) fun F =>
   runs prog (Builtin.append_ #[89, 89] 89 #[(Sl.v queue_9_2), (Sl.v (Sl.mk (some (Addr.mk b89 0 none)) 1 1))]) F fun v F => ∃ v_90 : Sl, v = (Sl.v v_90) ∧
   b57j4 N1 N2 a0a_ b1a_ v_20 v_23 b24 at_12 b13 v_67 v_69 v_90 R F) ∧
  ((!ok76_) = false →
   b57j4 N1 N2 a0a_ b1a_ v_20 v_23 b24 at_12 b13 v_67 v_69 queue_9_2 R F))) ∧
 (¬ (v_69 < (v_67.len : Int)) →
  b57j3 N1 a0a_ b1a_ v_20 v_23 b24 at_12 queue_9_2 R F))
def b57L1 (N1 : Sl → Int → PH → Prop) (a0a_ : Addr) (b1a_ : Addr) (v_20 : Sl) (v_23 : Sl) (b24 : Nat) (R : VP) (queue_9 : Sl) (at_12 : Int) (F : PH) :=
 ((at_12 < (queue_9.len : Int) →
  ∃ a53_ : Addr, queue_9.base = some a53_ ∧ 0 ≤ at_12 ∧ at_12 < (queue_9.len : Int) ∧
  ∃ v_54 : Array Value, v_54.size = 2 ∧ F.row (Addr.add a53_ (Int.toNat at_12 * 2)) v_54 ∧
  ∀ b13, F b13 = none → atF (F.set b13 (.cells (#[.int .i64 0, .int .i64 0]) 92)) fun F =>
  v_54.size = 2 ∧ (∀ v ∈ v_54.toList, storable v) ∧ ∃ c e, F (Addr.mk b13 0 none).block = some (.cells c e (0, 0)) ∧ (Addr.mk b13 0 none).spot = none ∧ (Addr.mk b13 0 none).off + 2 ≤ c.size ∧
  atF (F.set (Addr.mk b13 0 none).block (.cells (wr c (Addr.mk b13 0 none).off v_54.toList) e)) fun F =>
  ∃ v_59 : Int, F.cell (Addr.mk b13 0 none) = some (.int .i64 v_59) ∧
  ∃ a60_ : Addr, v_20.base = some a60_ ∧ 0 ≤ v_59 ∧ v_59 < (v_20.len : Int) ∧
  ∃ v_61 : Array Value, v_61.size = 8 ∧ F.row (Addr.add a60_ (Int.toNat v_59 * 8)) v_61 ∧
  ∃ v_64 : Int, F.cell (Addr.mk b13 1 none) = some (.int .i64 v_64) ∧
  ∃ a65_ : Addr, v_23.base = some a65_ ∧ 0 ≤ v_64 ∧ v_64 < (v_23.len : Int) ∧
  ∃ v_66 : Array Value, v_66.size = 8 ∧ F.row (Addr.add a65_ (Int.toNat v_64 * 8)) v_66 ∧
  Spec prog 58 #[(.pointer (some a0a_)), (.pointer (some b1a_)), (.agg v_61), (.agg v_66)] F fun v F => ∃ v_67 : Sl, v = (Sl.v v_67) ∧
  F.cell (Addr.mk b13 1 none) = some (.int .i64 v_64) ∧ F.cell (Addr.mk b13 0 none) = some (.int .i64 v_59) ∧ (∃ (I2 : Nat → Sl → Int → PH → Prop) (m2 : Nat), I2 m2 queue_9 0 F ∧ ∀ m2 queue_9_2 v_69 F, I2 m2 queue_9_2 v_69 F →
   b57L2 N1 (nx2 I2 m2) a0a_ b1a_ v_20 v_23 b24 at_12 b13 v_67 R queue_9_2 v_69 F)) ∧
 (¬ (at_12 < (queue_9.len : Int)) →
  b57j2 b24 R F))
def b57j1 (a0a_ : Addr) (b1a_ : Addr) (v_20 : Sl) (v_23 : Sl) (b24 : Nat) (v_35 : Sl) (R : VP) (F : PH) :=
 (∃ (I1 : Nat → Sl → Int → PH → Prop) (m1 : Nat), I1 m1 v_35 0 F ∧ ∀ m1 queue_9 at_12 F, I1 m1 queue_9 at_12 F →
  b57L1 (nx2 I1 m1) a0a_ b1a_ v_20 v_23 b24 R queue_9 at_12 F)
abbrev b57J1 (a0a_ : Addr) (b1a_ : Addr) (v_20 : Sl) (v_23 : Sl) (b24 : Nat) (v_35 : Sl) (R : VP) (E : En) (F : PH) : Prop := E 0 = (.pointer (some a0a_)) ∧ E 1 = (.pointer (some b1a_)) ∧ E 6 = (Sl.v v_20) ∧ E 7 = (Sl.v v_23) ∧ E 8 = (.map (some b24)) ∧ E 9 = (Sl.v v_35) ∧ b57j1 a0a_ b1a_ v_20 v_23 b24 v_35 R F
def b57L3 (N3 : Int → PH → Prop) (a0a_ : Addr) (b1a_ : Addr) (v_20 : Sl) (v_23 : Sl) (b24 : Nat) (v_35 : Sl) (R : VP) (v_38 : Int) (F : PH) :=
 ((v_38 < (v_35.len : Int) →
  ∃ a40_ : Addr, v_35.base = some a40_ ∧ 0 ≤ v_38 ∧ v_38 < (v_35.len : Int) ∧
  ∃ v_41 : Array Value, v_41.size = 2 ∧ F.row (Addr.add a40_ (Int.toNat v_38 * 2)) v_41 ∧
  ∀ b11, F b11 = none → atF (F.set b11 (.cells (#[.int .i64 0, .int .i64 0]) 92)) fun F =>
  v_41.size = 2 ∧ (∀ v ∈ v_41.toList, storable v) ∧ ∃ c e, F (Addr.mk b11 0 none).block = some (.cells c e (0, 0)) ∧ (Addr.mk b11 0 none).spot = none ∧ (Addr.mk b11 0 none).off + 2 ≤ c.size ∧
  atF (F.set (Addr.mk b11 0 none).block (.cells (wr c (Addr.mk b11 0 none).off v_41.toList) e)) fun F =>
  ∃ v_43 : Array Value, v_43.size = 2 ∧ F.row (Addr.mk b11 0 none) v_43 ∧
  runs prog (Instr.mapUpdate 87 (.map (some b24)) (.agg v_43) (.int .i64 0)) F fun _ F =>
  N3 (IntKind.i64.wrap (v_38 + 1)) F) ∧
 (¬ (v_38 < (v_35.len : Int)) →
  b57j1 a0a_ b1a_ v_20 v_23 b24 v_35 R F))
def b57 (a_0 : Option Addr) (b_1 : Option Addr) (R : VP) (F : PH) :=
 Spec prog 82 #[(.pointer a_0)] F fun v F => ∃ v_20 : Sl, v = (Sl.v v_20) ∧
 Spec prog 82 #[(.pointer b_1)] F fun v F => ∃ v_23 : Sl, v = (Sl.v v_23) ∧
 ∀ b24, F b24 = none → atF (F.set b24 (.map #[] 0)) fun F =>
 ∃ a0a_ : Addr, a_0 = some a0a_ ∧ ∃ v_30 : Array Value, v_30.size = 8 ∧ F.row (Addr.add a0a_ 9) v_30 ∧
 ∃ b1a_ : Addr, b_1 = some b1a_ ∧ ∃ v_34 : Array Value, v_34.size = 8 ∧ F.row (Addr.add b1a_ 9) v_34 ∧
 Spec prog 58 #[(.pointer (some a0a_)), (.pointer (some b1a_)), (.agg v_30), (.agg v_34)] F fun v F => ∃ v_35 : Sl, v = (Sl.v v_35) ∧
 (∃ (I3 : Nat → Int → PH → Prop) (m3 : Nat), I3 m3 0 F ∧ ∀ m3 v_38 F, I3 m3 v_38 F →
  b57L3 (nx1 I3 m3) a0a_ b1a_ v_20 v_23 b24 v_35 R v_38 F)
theorem c57 {a_0 : Option Addr} {b_1 : Option Addr} {R : VP} {F : PH} (h : b57 a_0 b_1 R F) : Spec prog 57 #[(.pointer a_0), (.pointer b_1)] F R := by
 refine spec_of (args := [(.pointer a_0), (.pointer b_1)]) func57 rfl ntmps57 rfl ?_
 unfold b57 at h
 refine cR (sR (.map none) (r_assign rfl rfl) ?_)
 refine HL_nil ?_
 refine cR (sR (.func (.func 82) #[] #[]) (r_assign rfl rfl) ?_)
 refine HL_nil ?_
 refine cR (sR (.func (.func 82) #[] #[]) (r_move rfl rfl) ?_)
 refine sR (.pointer a_0) (r_move rfl rfl) ?_
 refine s_ef (k_callF (vs := [(.pointer a_0)]) cb82 rfl (evC rfl evN) (h.mono ?_))
 clear h; rintro v F ⟨v_20, rfl, h⟩
 refine sR (.func (.func 82) #[] #[]) (r_move rfl rfl) ?_
 refine sR (.pointer b_1) (r_move rfl rfl) ?_
 refine s_ef (k_callF (vs := [(.pointer b_1)]) cb82 rfl (evC rfl evN) (h.mono ?_))
 clear h; rintro v F ⟨v_23, rfl, h⟩
 refine sR (Sl.v v_20) (r_assign rfl rfl) ?_
 refine sR (Sl.v v_23) (r_assign rfl rfl) ?_
 refine HL_nil ?_
 refine cR ?_
 refine s_ef (k_makeMap0 ?_)
 intro b24 hf_b24
 replace h := atE (h b24 hf_b24)
 refine sR (.map (some b24)) (r_assign rfl rfl) ?_
 refine HL_nil ?_
 refine HC_seq ?_
 refine HC_draw0 (by kernel_rfl) (fun hp => ?_)
 refine gU 0 (.pointer a_0) rfl (fun _ => r_move rfl rfl) hp ?_
 refine gU 1 (.pointer b_1) rfl (fun _ => r_move rfl rfl) hp ?_
 refine gU 2 (.pointer a_0) rfl (fun _ => r_move rfl rfl) hp ?_
 obtain ⟨a0a_, rfl, h⟩ := h
 refine gU 3 (.pointer (some a0a_)) rfl (fun _ => r_nilCheck rfl rfl) hp ?_
 refine gU 4 (.pointer (some (Addr.add a0a_ 9))) rfl (fun _ => w_fieldAddr rfl underlying79 rfl rfl sz76 rfl rfl) hp ?_
 obtain ⟨v_30, hs30, hc30, h⟩ := h
 refine gR 5 (.agg v_30) rfl (w_loadN rfl underlying76 rfl sz76 hs30 hc30) hp (fun S5 q5 => ?_)
 replace hp := holdC (i := 5) (q5 _ (w_loadN rfl underlying76 rfl sz76 hs30 hc30)) hp
 refine gU 6 (.pointer b_1) rfl (fun _ => r_move rfl rfl) hp ?_
 obtain ⟨b1a_, rfl, h⟩ := h
 refine gU 7 (.pointer (some b1a_)) rfl (fun _ => r_nilCheck rfl rfl) hp ?_
 refine gU 8 (.pointer (some (Addr.add b1a_ 9))) rfl (fun _ => w_fieldAddr rfl underlying79 rfl rfl sz76 rfl rfl) hp ?_
 obtain ⟨v_34, hs34, hc34, h⟩ := h
 refine gR 9 (.agg v_34) rfl (w_loadN rfl underlying76 rfl sz76 hs34 hc34) hp (fun S9 q9 => ?_)
 replace hp := holdC (i := 9) (q9 _ (w_loadN rfl underlying76 rfl sz76 hs34 hc34)) hp
 refine RG_eff1 (i := 10) (by kernel_rfl) (g_op (Sp' := []) rfl rfl (k_call (vs := [(.pointer (some a0a_)), (.pointer (some b1a_)), (.agg v_30), (.agg v_34)]) cb58 (evC rfl (evC rfl (evC rfl (evC rfl evN)))) (h.mono ?_)))
 clear h; rintro v F ⟨v_35, rfl, h⟩
 refine holdI hold0 (fun hp => ?_)
 refine gU 11 (Sl.v v_35) rfl (fun _ => r_assign rfl rfl) hp ?_
 refine RG_done (by kernel_rfl) ?_
 refine HC_seqJ (b57J1 a0a_ b1a_ v_20 v_23 b24 v_35 R) ?_ ?_
 clear h; rintro E F ⟨h0, h1, h6, h7, h8, h9, h⟩
 unfold b57j1 at h
 refine HC_seqJ (b57J2 b24 R) ?_ ?_
 clear h; rintro E F ⟨h8, h⟩
 unfold b57j2 at h
 refine cR (sR _ (r_move rfl h8) ?_)
 refine sR (.map (some b24)) (r_assign rfl rfl) ?_
 exact HL_nil (HC_ret (rt1 f57 R rfl rfl h))
 refine cR (sR (.int .i64 0) (r_assign rfl rfl) ?_)
 refine HL_nil ?_
 refine HC_block ?_
 obtain ⟨I1, m1, hI0, hr⟩ := h
 refine HC_loop (fun m1 E F => ∃ queue_9 : Sl, ∃ at_12 : Int, E 0 = (.pointer (some a0a_)) ∧ E 1 = (.pointer (some b1a_)) ∧ E 6 = (Sl.v v_20) ∧ E 7 = (Sl.v v_23) ∧ E 8 = (.map (some b24)) ∧ E 9 = (Sl.v queue_9) ∧ E 12 = (.int .i64 at_12) ∧ I1 m1 queue_9 at_12 F) m1 ⟨_, _, h0, h1, h6, h7, h8, h9, rfl, hI0⟩ ?_
 clear hI0; rintro m1 E F ⟨queue_9, at_12, h0, h1, h6, h7, h8, h9, h12, hI⟩
 have h := hr m1 queue_9 at_12 F hI
 clear hr hI
 unfold b57L1 at h
 refine HC_seq ?_
 refine cR (sR _ (r_move rfl h12) ?_)
 refine sR _ (r_move rfl h9) ?_
 refine sR (.int .i64 (queue_9.len : Int)) (r_lenSl rfl rfl underlying89) ?_
 refine sR (.bool (decide (at_12 < (queue_9.len : Int)))) (r_lss rfl rfl rfl) ?_
 refine HL_nil ?_
 refine HC_cond (t := (decide (at_12 < (queue_9.len : Int)))) rfl (fun hc => ?_) (fun hc => ?_)
 replace h := h.1 (of_decide_eq_true hc)
 clear hc
 refine HC_skip ?_
 refine HC_seqJ (b57J3 (nx2 I1 m1) a0a_ b1a_ v_20 v_23 b24 at_12 R) ?_ ?_
 clear h; rintro E F ⟨queue_9_1, h0, h1, h6, h7, h8, h9, h12, h⟩
 unfold b57j3 at h
 refine HC_region ?_
 refine sR _ (r_move rfl h12) ?_
 refine sR (.int .i64 (IntKind.i64.wrap (at_12 + 1))) (r_add rfl rfl rfl) ?_
 refine sR (.int .i64 (IntKind.i64.wrap (at_12 + 1))) (r_assign rfl rfl) ?_
 refine HL_nil ?_
 obtain ⟨m', hm, h⟩ := h
 exact ⟨m', hm, _, _, h0, h1, h6, h7, h8, h9, rfl, h⟩
 refine HC_block ?_
 refine cR (sR _ (r_move rfl h9) ?_)
 refine sR _ (r_move rfl h12) ?_
 obtain ⟨a53_, hb53, hl53, hu53, h⟩ := h
 refine sR (.pointer (some (Addr.add a53_ (Int.toNat at_12 * 2)))) (w_indexAddr rfl rfl underlying89 sz92 hb53 hl53 hu53) ?_
 obtain ⟨v_54, hs54, hc54, h⟩ := h
 refine sR (.agg v_54) (w_loadN rfl underlying92 rfl sz92 hs54 hc54) ?_
 refine s_ef (k_alloc zr92 ?_)
 intro b13 hf_b13
 replace h := atE (h b13 hf_b13)
 refine s_ef0 (k_storeN (vs := v_54) rfl rfl sz92 (by decide) ?_)
 obtain ⟨hz1, hz2, c, e, hz3, hz4, hz5, h⟩ := h
 refine ⟨hz1, hz2, c, e, hz3, hz4, hz5, ?_⟩
 replace h := atE h
 refine HL_nil ?_
 refine HC_seq ?_
 refine HC_draw0 (by kernel_rfl) (fun hp => ?_)
 refine gU 0 (.pointer (some a0a_)) rfl (fun _ => r_move rfl h0) hp ?_
 refine gU 1 (.pointer (some b1a_)) rfl (fun _ => r_move rfl h1) hp ?_
 refine gU 2 (Sl.v v_20) rfl (fun _ => r_move rfl h6) hp ?_
 refine gU 3 (.pointer (some (Addr.mk b13 0 none))) rfl (fun _ => w_fieldAddr rfl underlying92 rfl rfl sz3 rfl rfl) hp ?_
 obtain ⟨v_59, hc59, h⟩ := h
 refine gR 4 (.int .i64 v_59) rfl (r_load1 rfl rfl underlying3 rfl hc59) hp (fun S4 q4 => ?_)
 replace hp := holdC (i := 4) (q4 _ (r_load1 rfl rfl underlying3 rfl hc59)) hp
 obtain ⟨a60_, hb60, hl60, hu60, h⟩ := h
 refine gU 5 (.pointer (some (Addr.add a60_ (Int.toNat v_59 * 8)))) rfl (fun _ => w_indexAddr rfl rfl underlying77 sz76 hb60 hl60 hu60) hp ?_
 obtain ⟨v_61, hs61, hc61, h⟩ := h
 refine gR 6 (.agg v_61) rfl (w_loadN rfl underlying76 rfl sz76 hs61 hc61) hp (fun S6 q6 => ?_)
 replace hp := holdC (i := 6) (q6 _ (w_loadN rfl underlying76 rfl sz76 hs61 hc61)) hp
 refine gU 7 (Sl.v v_23) rfl (fun _ => r_move rfl h7) hp ?_
 refine gU 8 (.pointer (some (Addr.mk b13 1 none))) rfl (fun _ => w_fieldAddr rfl underlying92 rfl rfl sz3 rfl rfl) hp ?_
 obtain ⟨v_64, hc64, h⟩ := h
 refine gR 9 (.int .i64 v_64) rfl (r_load1 rfl rfl underlying3 rfl hc64) hp (fun S9 q9 => ?_)
 replace hp := holdC (i := 9) (q9 _ (r_load1 rfl rfl underlying3 rfl hc64)) hp
 obtain ⟨a65_, hb65, hl65, hu65, h⟩ := h
 refine gU 10 (.pointer (some (Addr.add a65_ (Int.toNat v_64 * 8)))) rfl (fun _ => w_indexAddr rfl rfl underlying77 sz76 hb65 hl65 hu65) hp ?_
 obtain ⟨v_66, hs66, hc66, h⟩ := h
 refine gR 11 (.agg v_66) rfl (w_loadN rfl underlying76 rfl sz76 hs66 hc66) hp (fun S11 q11 => ?_)
 replace hp := holdC (i := 11) (q11 _ (w_loadN rfl underlying76 rfl sz76 hs66 hc66)) hp
 refine gU 14 (.int .i64 0) rfl (fun _ => r_move rfl rfl) hp ?_
 refine RG_eff1 (i := 12) (by kernel_rfl) (g_op (Sp' := [(9, S9), (4, S4)]) rfl rfl (k_call (vs := [(.pointer (some a0a_)), (.pointer (some b1a_)), (.agg v_61), (.agg v_66)]) cb58 (evC rfl (evC rfl (evC rfl (evC rfl evN)))) (h.mono ?_)))
 clear h; rintro v F ⟨v_67, rfl, h⟩
 obtain ⟨hk_15, hk_16, h⟩ := h
 refine holdI (holdC (i := 9) (q9 _ (r_load1 rfl rfl underlying3 rfl hk_15)) (holdC (i := 4) (q4 _ (r_load1 rfl rfl underlying3 rfl hk_16)) hold0)) (fun hp => ?_)
 refine gU 13 (.int .i64 (v_67.len : Int)) rfl (fun _ => r_lenSl rfl rfl underlying89) hp ?_
 refine RG_done (by kernel_rfl) ?_
 refine HC_block ?_
 obtain ⟨I2, m2, hI0, hr⟩ := h
 refine HC_loop (fun m2 E F => ∃ queue_9_2 : Sl, ∃ v_69 : Int, E 0 = (.pointer (some a0a_)) ∧ E 1 = (.pointer (some b1a_)) ∧ E 6 = (Sl.v v_20) ∧ E 7 = (Sl.v v_23) ∧ E 8 = (.map (some b24)) ∧ E 9 = (Sl.v queue_9_2) ∧ E 12 = (.int .i64 at_12) ∧ E 13 = (.pointer (some (Addr.mk b13 0 none))) ∧ E 67 = (Sl.v v_67) ∧ E 68 = (.int .i64 (v_67.len : Int)) ∧ E 69 = (.int .i64 v_69) ∧ I2 m2 queue_9_2 v_69 F) m2 ⟨_, _, h0, h1, h6, h7, h8, h9, h12, rfl, rfl, rfl, rfl, hI0⟩ ?_
 clear hI0; rintro m2 E F ⟨queue_9_2, v_69, h0, h1, h6, h7, h8, h9, h12, h13, h67, h68, h69, hI⟩
 have h := hr m2 queue_9_2 v_69 F hI
 clear hr hI
 unfold b57L2 at h
 refine cR (sR (.bool (decide (v_69 < (v_67.len : Int)))) (r_lss rfl h69 h68) ?_)
 refine HL_nil ?_
 refine HC_seq ?_
 refine HC_cond (t := (decide (v_69 < (v_67.len : Int)))) rfl (fun hc => ?_) (fun hc => ?_)
 replace h := h.1 (of_decide_eq_true hc)
 clear hc
 refine HC_skip ?_
 refine HC_seqJ (b57J4 (nx2 I1 m1) (nx2 I2 m2) a0a_ b1a_ v_20 v_23 b24 at_12 b13 v_67 v_69 R) ?_ ?_
 clear h; rintro E F ⟨queue_9_3, h0, h1, h6, h7, h8, h9, h12, h13, h67, h68, h69, h⟩
 unfold b57j4 at h
 refine HC_region ?_
 refine sR (.int .i64 (IntKind.i64.wrap (v_69 + 1))) (r_add rfl h69 rfl) ?_
 refine sR (.int .i64 (IntKind.i64.wrap (v_69 + 1))) (r_move rfl rfl) ?_
 refine HL_nil ?_
 obtain ⟨m', hm, h⟩ := h
 exact ⟨m', hm, _, _, h0, h1, h6, h7, h8, h9, h12, h13, h67, h68, rfl, h⟩
 refine HC_block ?_
 refine cR ?_
 obtain ⟨a71_, hb71, hl71, hu71, h⟩ := h
 refine sR (.pointer (some (Addr.add a71_ (Int.toNat v_69 * 2)))) (w_indexAddr h67 h69 underlying89 sz92 hb71 hl71 hu71) ?_
 obtain ⟨v_72, hs72, hc72, h⟩ := h
 refine sR (.agg v_72) (w_loadN rfl underlying92 rfl sz92 hs72 hc72) ?_
 refine s_ef (k_alloc zr92 ?_)
 intro b15 hf_b15
 replace h := atE (h b15 hf_b15)
 refine s_ef0 (k_storeN (vs := v_72) rfl rfl sz92 (by decide) ?_)
 obtain ⟨hz1, hz2, c, e, hz3, hz4, hz5, h⟩ := h
 refine ⟨hz1, hz2, c, e, hz3, hz4, hz5, ?_⟩
 replace h := atE h
 refine HL_nil ?_
 refine cR (sR _ (r_move rfl h8) ?_)
 obtain ⟨v_75, hs75, hc75, h⟩ := h
 refine sR (.agg v_75) (w_loadN rfl underlying92 rfl sz92 hs75 hc75) ?_
 obtain ⟨v_76, ok76_, hc76, h⟩ := h
 refine sR (.tuple #[(.int .i64 v_76), (.bool ok76_)]) (r_lookup rfl rfl rfl hc76) ?_
 refine sR (.tuple #[(.int .i64 v_76), (.bool ok76_)]) (r_move rfl rfl) ?_
 refine sR (.int .i64 v_76) (r_extract rfl rfl rfl) ?_
 refine sR (.bool ok76_) (r_extract rfl rfl rfl) ?_
 refine sR (.int .i64 v_76) (r_assign rfl rfl) ?_
 refine sR (.bool ok76_) (r_assign rfl rfl) ?_
 refine HL_nil ?_
 refine cR (sR (.bool ok76_) (r_move rfl rfl) ?_)
 refine sR (.bool (!ok76_)) (r_not rfl rfl) ?_
 refine HL_nil ?_
 refine HC_cond (t := (!ok76_)) rfl (fun hc => ?_) (fun hc => ?_)
 replace h := h.1 hc
 clear hc
 refine HC_seq ?_
 refine HC_draw0 (by kernel_rfl) (fun hp => ?_)
 refine gU 0 (.map (some b24)) rfl (fun _ => r_move rfl h8) hp ?_
 obtain ⟨v_82, hs82, hc82, h⟩ := h
 refine gR 1 (.agg v_82) rfl (w_loadN rfl underlying92 rfl sz92 hs82 hc82) hp (fun S1 q1 => ?_)
 replace hp := holdC (i := 1) (q1 _ (w_loadN rfl underlying92 rfl sz92 hs82 hc82)) hp
 refine gU 2 (.map (some b24)) rfl (fun _ => r_move rfl h8) hp ?_
 obtain ⟨v_84, hs84, hc84, h⟩ := h
 refine gR 3 (.agg v_84) rfl (w_loadN h13 underlying92 rfl sz92 hs84 hc84) hp (fun S3 q3 => ?_)
 replace hp := holdC (i := 3) (q3 _ (w_loadN h13 underlying92 rfl sz92 hs84 hc84)) hp
 obtain ⟨v_85, hc85, h⟩ := h
 refine gR 4 (.int .i64 v_85) rfl (r_lookup rfl rfl rfl hc85) hp (fun S4 q4 => ?_)
 replace hp := holdC (i := 4) (q4 _ (r_lookup rfl rfl rfl hc85)) hp
 refine gU 5 (.int .i64 (IntKind.i64.wrap (v_85 + 1))) rfl (fun _ => r_add rfl rfl rfl) hp ?_
 refine RG_eff1 (i := 6) (by kernel_rfl) (g_op0 (Sp' := []) rfl rfl (k_mapUpdate rfl rfl rfl (runs_mono _ _ h ?_)))
 clear h; rintro _ F h
 refine holdI hold0 (fun hp => ?_)
 refine RG_done (by kernel_rfl) ?_
 refine HC_region ?_
 refine sR _ (r_move rfl h9) ?_
 obtain ⟨v_88, hs88, hc88, h⟩ := h
 refine sR (.agg v_88) (w_loadN rfl underlying92 rfl sz92 hs88 hc88) ?_
 obtain ⟨hz89, h⟩ := h
 refine s_ef (k_buildSlice (cells := v_88) underlying89 sz92 (by decide) zr92 rfl (evPC rfl evPN) (fillWhole hz89 rfl rfl) rfl ?_)
 intro b89 hf_b89
 replace h := atE (h b89 hf_b89)
 refine s_ef (k_append rfl rfl (runs_mono _ _ h ?_))
 clear h; rintro v F ⟨v_90, rfl, h⟩
 refine sR (Sl.v v_90) (r_assign rfl rfl) ?_
 refine HL_nil ?_
 show b57J4 (nx2 I1 m1) (nx2 I2 m2) a0a_ b1a_ v_20 v_23 b24 at_12 b13 v_67 v_69 R _ _
 exact ⟨_, h0, h1, h6, h7, h8, rfl, h12, h13, h67, h68, h69, h⟩
 replace h := h.2 hc
 clear hc
 refine HC_skip ?_
 show b57J4 (nx2 I1 m1) (nx2 I2 m2) a0a_ b1a_ v_20 v_23 b24 at_12 b13 v_67 v_69 R _ _
 exact ⟨_, h0, h1, h6, h7, h8, h9, h12, h13, h67, h68, h69, h⟩
 replace h := h.2 (of_decide_eq_false hc)
 clear hc
 refine HC_exit ?_
 show b57J3 (nx2 I1 m1) a0a_ b1a_ v_20 v_23 b24 at_12 R _ _
 exact ⟨_, h0, h1, h6, h7, h8, h9, h12, h⟩
 replace h := h.2 (of_decide_eq_false hc)
 clear hc
 refine HC_exit ?_
 show b57J2 b24 R _ _
 exact ⟨h8, h⟩
 refine cR (sR (Sl.v v_35) (r_move rfl rfl) ?_)
 refine sR (.int .i64 (v_35.len : Int)) (r_lenSl rfl rfl underlying89) ?_
 refine sR (.int .i64 0) (r_move rfl rfl) ?_
 refine HL_nil ?_
 refine HC_block ?_
 obtain ⟨I3, m3, hI0, hr⟩ := h
 refine HC_loop (fun m3 E F => ∃ v_38 : Int, E 0 = (.pointer (some a0a_)) ∧ E 1 = (.pointer (some b1a_)) ∧ E 6 = (Sl.v v_20) ∧ E 7 = (Sl.v v_23) ∧ E 8 = (.map (some b24)) ∧ E 9 = (Sl.v v_35) ∧ E 36 = (Sl.v v_35) ∧ E 37 = (.int .i64 (v_35.len : Int)) ∧ E 38 = (.int .i64 v_38) ∧ I3 m3 v_38 F) m3 ⟨_, rfl, rfl, rfl, rfl, rfl, rfl, rfl, rfl, rfl, hI0⟩ ?_
 clear hI0; rintro m3 E F ⟨v_38, h0, h1, h6, h7, h8, h9, h36, h37, h38, hI⟩
 have h := hr m3 v_38 F hI
 clear hr hI
 unfold b57L3 at h
 refine cR (sR (.bool (decide (v_38 < (v_35.len : Int)))) (r_lss rfl h38 h37) ?_)
 refine HL_nil ?_
 refine HC_seq ?_
 refine HC_cond (t := (decide (v_38 < (v_35.len : Int)))) rfl (fun hc => ?_) (fun hc => ?_)
 replace h := h.1 (of_decide_eq_true hc)
 clear hc
 refine HC_skip ?_
 refine HC_seq ?_
 refine HC_block ?_
 refine cR ?_
 obtain ⟨a40_, hb40, hl40, hu40, h⟩ := h
 refine sR (.pointer (some (Addr.add a40_ (Int.toNat v_38 * 2)))) (w_indexAddr h36 h38 underlying89 sz92 hb40 hl40 hu40) ?_
 obtain ⟨v_41, hs41, hc41, h⟩ := h
 refine sR (.agg v_41) (w_loadN rfl underlying92 rfl sz92 hs41 hc41) ?_
 refine s_ef (k_alloc zr92 ?_)
 intro b11 hf_b11
 replace h := atE (h b11 hf_b11)
 refine s_ef0 (k_storeN (vs := v_41) rfl rfl sz92 (by decide) ?_)
 obtain ⟨hz1, hz2, c, e, hz3, hz4, hz5, h⟩ := h
 refine ⟨hz1, hz2, c, e, hz3, hz4, hz5, ?_⟩
 replace h := atE h
 refine HL_nil ?_
 refine HC_region ?_
 refine sR _ (r_move rfl h8) ?_
 obtain ⟨v_43, hs43, hc43, h⟩ := h
 refine sR (.agg v_43) (w_loadN rfl underlying92 rfl sz92 hs43 hc43) ?_
 refine s_ef0 (k_mapUpdate rfl rfl rfl (runs_mono _ _ h ?_))
 clear h; rintro _ F h
 refine HL_nil ?_
 refine HC_region ?_
 refine sR (.int .i64 (IntKind.i64.wrap (v_38 + 1))) (r_add rfl h38 rfl) ?_
 refine sR (.int .i64 (IntKind.i64.wrap (v_38 + 1))) (r_move rfl rfl) ?_
 refine HL_nil ?_
 obtain ⟨m', hm, h⟩ := h
 exact ⟨m', hm, _, h0, h1, h6, h7, h8, h9, h36, h37, rfl, h⟩
 replace h := h.2 (of_decide_eq_false hc)
 clear hc
 refine HC_exit ?_
 show b57J1 a0a_ b1a_ v_20 v_23 b24 v_35 R _ _
 exact ⟨h0, h1, h6, h7, h8, h9, h⟩
 /- 59 koine.pattern.after -/
def b59j1 (out_12 : Sl) (R : VP) (F : PH) :=
 R (Sl.v out_12) F
abbrev b59J1 (R : VP) (E : En) (F : PH) : Prop := ∃ out_12 : Sl, E 12 = (Sl.v out_12) ∧ b59j1 out_12 R F
def b59j2 (N1 : Sl → Int → PH → Prop) (a_0 : Option Addr) (b_1 : Option Addr) (c_3 : Int) (chosen_4 : Value) (b18 : Nat) (now_2 : Sl) (v_21 : Int) (out_12_2 : Sl) (R : VP) (F : PH) :=
 N1 out_12_2 (IntKind.i64.wrap (v_21 + 1)) F
abbrev b59J2 (N1 : Sl → Int → PH → Prop) (a_0 : Option Addr) (b_1 : Option Addr) (c_3 : Int) (chosen_4 : Value) (b18 : Nat) (now_2 : Sl) (v_21 : Int) (R : VP) (E : En) (F : PH) : Prop := ∃ out_12_2 : Sl, E 0 = (.pointer a_0) ∧ E 1 = (.pointer b_1) ∧ E 3 = (.int .i64 c_3) ∧ E 4 = chosen_4 ∧ E 11 = (.map (some b18)) ∧ E 12 = (Sl.v out_12_2) ∧ E 19 = (Sl.v now_2) ∧ E 20 = (.int .i64 (now_2.len : Int)) ∧ E 21 = (.int .i64 v_21) ∧ b59j2 N1 a_0 b_1 c_3 chosen_4 b18 now_2 v_21 out_12_2 R F
def b59j4 (N1 : Sl → Int → PH → Prop) (N2 : Sl → Int → PH → Prop) (a0a_ : Addr) (b1a_ : Addr) (c_3 : Int) (chosen_4 : Value) (b18 : Nat) (now_2 : Sl) (v_21 : Int) (v_101 : Sl) (v_103 : Int) (out_12_4 : Sl) (R : VP) (F : PH) :=
 N2 out_12_4 (IntKind.i64.wrap (v_103 + 1)) F
abbrev b59J4 (N1 : Sl → Int → PH → Prop) (N2 : Sl → Int → PH → Prop) (a0a_ : Addr) (b1a_ : Addr) (c_3 : Int) (chosen_4 : Value) (b18 : Nat) (now_2 : Sl) (v_21 : Int) (v_101 : Sl) (v_103 : Int) (R : VP) (E : En) (F : PH) : Prop := ∃ out_12_4 : Sl, E 0 = (.pointer (some a0a_)) ∧ E 1 = (.pointer (some b1a_)) ∧ E 3 = (.int .i64 c_3) ∧ E 4 = chosen_4 ∧ E 11 = (.map (some b18)) ∧ E 12 = (Sl.v out_12_4) ∧ E 19 = (Sl.v now_2) ∧ E 20 = (.int .i64 (now_2.len : Int)) ∧ E 21 = (.int .i64 v_21) ∧ E 101 = (Sl.v v_101) ∧ E 102 = (.int .i64 (v_101.len : Int)) ∧ E 103 = (.int .i64 v_103) ∧ b59j4 N1 N2 a0a_ b1a_ c_3 chosen_4 b18 now_2 v_21 v_101 v_103 out_12_4 R F
def b59L2 (N1 : Sl → Int → PH → Prop) (N2 : Sl → Int → PH → Prop) (a0a_ : Addr) (b1a_ : Addr) (c_3 : Int) (chosen_4 : Value) (b18 : Nat) (now_2 : Sl) (v_21 : Int) (v_101 : Sl) (R : VP) (out_12_3 : Sl) (v_103 : Int) (F : PH) :=
 ((v_103 < (v_101.len : Int) →
  ∃ a105_ : Addr, v_101.base = some a105_ ∧ 0 ≤ v_103 ∧ v_103 < (v_101.len : Int) ∧
  ∃ v_106 : Array Value, v_106.size = 2 ∧ F.row (Addr.add a105_ (Int.toNat v_103 * 2)) v_106 ∧
  ∀ b17, F b17 = none → atF (F.set b17 (.cells (#[.int .i64 0, .int .i64 0]) 92)) fun F =>
  v_106.size = 2 ∧ (∀ v ∈ v_106.toList, storable v) ∧ ∃ c e, F (Addr.mk b17 0 none).block = some (.cells c e (0, 0)) ∧ (Addr.mk b17 0 none).spot = none ∧ (Addr.mk b17 0 none).off + 2 ≤ c.size ∧
  atF (F.set (Addr.mk b17 0 none).block (.cells (wr c (Addr.mk b17 0 none).off v_106.toList) e)) fun F =>
  ∃ v_108 : Array Value, v_108.size = 2 ∧ F.row (Addr.mk b17 0 none) v_108 ∧
  ∃ v_109 : Bool, rdo prog (Instr.lookup 117 (.map (some b18)) (.agg v_108) false) F (.bool v_109) ∧
  (((!v_109) = true →
   ∃ v_112 : Array Value, v_112.size = 2 ∧ F.row (Addr.mk b17 0 none) v_112 ∧
   runs prog (Instr.mapUpdate 117 (.map (some b18)) (.agg v_112) (.bool true)) F fun _ F =>
   ∃ v_114 : Array Value, v_114.size = 2 ∧ F.row (Addr.mk b17 0 none) v_114 ∧
   v_114.size = 2 ∧ ∀ b115, F b115 = none → atF (F.set b115 (.cells v_114 92)) fun F =>
   runs prog (Builtin.append_ #[89, 89] 89 #[(Sl.v out_12_3), (Sl.v (Sl.mk (some (Addr.mk b115 0 none)) 1 1))]) F fun v F => ∃ v_116 : Sl, v = (Sl.v v_116) ∧
   b59j4 N1 N2 a0a_ b1a_ c_3 chosen_4 b18 now_2 v_21 v_101 v_103 v_116 R F) ∧
  ((!v_109) = false →
   b59j4 N1 N2 a0a_ b1a_ c_3 chosen_4 b18 now_2 v_21 v_101 v_103 out_12_3 R F))) ∧
 (¬ (v_103 < (v_101.len : Int)) →
  b59j2 N1 (some a0a_) (some b1a_) c_3 chosen_4 b18 now_2 v_21 out_12_3 R F))
def b59j3 (N1 : Sl → Int → PH → Prop) (a_0 : Option Addr) (b_1 : Option Addr) (c_3 : Int) (chosen_4 : Value) (b18 : Nat) (out_12_1 : Sl) (b14 : Nat) (now_2 : Sl) (v_21 : Int) (inside_15 : Bool) (R : VP) (F : PH) :=
 (((!inside_15) = true →
  b59j2 N1 a_0 b_1 c_3 chosen_4 b18 now_2 v_21 out_12_1 R F) ∧
 ((!inside_15) = false →
  ∃ v_79 : Array Value, v_79.size = 2 ∧ F.row (Addr.mk b14 0 none) v_79 ∧
  ∃ (k80 : Nat) (fst80 cap80 : Array Value), chosen_4 = Value.func (.func k80) fst80 cap80 ∧ callableB prog k80 = true ∧ Spec prog k80 (fst80 ++ ([(Value.agg v_79)]).toArray ++ cap80) F fun v F => ∃ v_80 : Bool, v = (Value.bool v_80) ∧
  (((!v_80) = true →
   b59j2 N1 a_0 b_1 c_3 chosen_4 b18 now_2 v_21 out_12_1 R F) ∧
  ((!v_80) = false →
   ∃ a0a_ : Addr, a_0 = some a0a_ ∧ ∃ v_88 : Sl, F.cell (Addr.add a0a_ 17) = some (Sl.v v_88) ∧
   ∃ v_90 : Int, F.cell (Addr.mk b14 0 none) = some (.int .i64 v_90) ∧
   ∃ a91_ : Addr, v_88.base = some a91_ ∧ 0 ≤ v_90 ∧ v_90 < (v_88.len : Int) ∧
   ∃ v_92 : Array Value, v_92.size = 8 ∧ F.row (Addr.add a91_ (Int.toNat v_90 * 8)) v_92 ∧
   ∃ b1a_ : Addr, b_1 = some b1a_ ∧ ∃ v_96 : Sl, F.cell (Addr.add b1a_ 17) = some (Sl.v v_96) ∧
   ∃ v_98 : Int, F.cell (Addr.mk b14 1 none) = some (.int .i64 v_98) ∧
   ∃ a99_ : Addr, v_96.base = some a99_ ∧ 0 ≤ v_98 ∧ v_98 < (v_96.len : Int) ∧
   ∃ v_100 : Array Value, v_100.size = 8 ∧ F.row (Addr.add a99_ (Int.toNat v_98 * 8)) v_100 ∧
   Spec prog 58 #[(.pointer (some a0a_)), (.pointer (some b1a_)), (.agg v_92), (.agg v_100)] F fun v F => ∃ v_101 : Sl, v = (Sl.v v_101) ∧
   F.cell (Addr.mk b14 1 none) = some (.int .i64 v_98) ∧ F.cell (Addr.add b1a_ 17) = some (Sl.v v_96) ∧ F.cell (Addr.mk b14 0 none) = some (.int .i64 v_90) ∧ F.cell (Addr.add a0a_ 17) = some (Sl.v v_88) ∧ (∃ (I2 : Nat → Sl → Int → PH → Prop) (m2 : Nat), I2 m2 out_12_1 0 F ∧ ∀ m2 out_12_3 v_103 F, I2 m2 out_12_3 v_103 F →
    b59L2 N1 (nx2 I2 m2) a0a_ b1a_ c_3 chosen_4 b18 now_2 v_21 v_101 R out_12_3 v_103 F)))))
abbrev b59J3 (N1 : Sl → Int → PH → Prop) (a_0 : Option Addr) (b_1 : Option Addr) (c_3 : Int) (chosen_4 : Value) (b18 : Nat) (out_12_1 : Sl) (b14 : Nat) (now_2 : Sl) (v_21 : Int) (R : VP) (E : En) (F : PH) : Prop := ∃ inside_15 : Bool, E 0 = (.pointer a_0) ∧ E 1 = (.pointer b_1) ∧ E 3 = (.int .i64 c_3) ∧ E 4 = chosen_4 ∧ E 11 = (.map (some b18)) ∧ E 12 = (Sl.v out_12_1) ∧ E 14 = (.pointer (some (Addr.mk b14 0 none))) ∧ E 15 = (.bool inside_15) ∧ E 19 = (Sl.v now_2) ∧ E 20 = (.int .i64 (now_2.len : Int)) ∧ E 21 = (.int .i64 v_21) ∧ b59j3 N1 a_0 b_1 c_3 chosen_4 b18 out_12_1 b14 now_2 v_21 inside_15 R F
def b59L1 (N1 : Sl → Int → PH → Prop) (a_0 : Option Addr) (b_1 : Option Addr) (c_3 : Int) (chosen_4 : Value) (b18 : Nat) (now_2 : Sl) (R : VP) (out_12_1 : Sl) (v_21 : Int) (F : PH) :=
 ((v_21 < (now_2.len : Int) →
  ∃ a23_ : Addr, now_2.base = some a23_ ∧ 0 ≤ v_21 ∧ v_21 < (now_2.len : Int) ∧
  ∃ v_24 : Array Value, v_24.size = 2 ∧ F.row (Addr.add a23_ (Int.toNat v_21 * 2)) v_24 ∧
  ∀ b14, F b14 = none → atF (F.set b14 (.cells (#[.int .i64 0, .int .i64 0]) 92)) fun F =>
  v_24.size = 2 ∧ (∀ v ∈ v_24.toList, storable v) ∧ ∃ c e, F (Addr.mk b14 0 none).block = some (.cells c e (0, 0)) ∧ (Addr.mk b14 0 none).spot = none ∧ (Addr.mk b14 0 none).off + 2 ≤ c.size ∧
  atF (F.set (Addr.mk b14 0 none).block (.cells (wr c (Addr.mk b14 0 none).off v_24.toList) e)) fun F =>
  ∃ a0a__1 : Addr, a_0 = some a0a__1 ∧ ∃ v_28 : Sl, F.cell a0a__1 = some (Sl.v v_28) ∧
  ∃ v_30 : Int, F.cell (Addr.mk b14 0 none) = some (.int .i64 v_30) ∧
  ∃ a31_ : Addr, v_28.base = some a31_ ∧ 0 ≤ v_30 ∧ v_30 < (v_28.len : Int) ∧
  ∃ v_33 : Int, F.cell (Addr.add (Addr.add a31_ (Int.toNat v_30 * 5)) 1) = some (.int .i64 v_33) ∧
  ((v_33 ≤ c_3 →
   ∃ v_41 : Sl, F.cell a0a__1 = some (Sl.v v_41) ∧
   ∃ v_43 : Int, F.cell (Addr.mk b14 0 none) = some (.int .i64 v_43) ∧
   ∃ a44_ : Addr, v_41.base = some a44_ ∧ 0 ≤ v_43 ∧ v_43 < (v_41.len : Int) ∧
   ∃ v_46 : Int, F.cell (Addr.add (Addr.add a44_ (Int.toNat v_43 * 5)) 2) = some (.int .i64 v_46) ∧
   ((c_3 ≤ v_46 →
    ∃ b1a__1 : Addr, b_1 = some b1a__1 ∧ ∃ v_53 : Sl, F.cell b1a__1 = some (Sl.v v_53) ∧
    ∃ v_55 : Int, F.cell (Addr.mk b14 1 none) = some (.int .i64 v_55) ∧
    ∃ a56_ : Addr, v_53.base = some a56_ ∧ 0 ≤ v_55 ∧ v_55 < (v_53.len : Int) ∧
    ∃ v_58 : Int, F.cell (Addr.add (Addr.add a56_ (Int.toNat v_55 * 5)) 1) = some (.int .i64 v_58) ∧
    ((v_58 ≤ c_3 →
     ∃ v_67 : Sl, F.cell b1a__1 = some (Sl.v v_67) ∧
     ∃ v_69 : Int, F.cell (Addr.mk b14 1 none) = some (.int .i64 v_69) ∧
     ∃ a70_ : Addr, v_67.base = some a70_ ∧ 0 ≤ v_69 ∧ v_69 < (v_67.len : Int) ∧
     ∃ v_72 : Int, F.cell (Addr.add (Addr.add a70_ (Int.toNat v_69 * 5)) 2) = some (.int .i64 v_72) ∧
     b59j3 N1 (some a0a__1) (some b1a__1) c_3 chosen_4 b18 out_12_1 b14 now_2 v_21 (decide (c_3 ≤ v_72)) R F) ∧
    (¬ (v_58 ≤ c_3) →
     b59j3 N1 (some a0a__1) (some b1a__1) c_3 chosen_4 b18 out_12_1 b14 now_2 v_21 false R F))) ∧
   (¬ (c_3 ≤ v_46) →
    b59j3 N1 (some a0a__1) b_1 c_3 chosen_4 b18 out_12_1 b14 now_2 v_21 false R F))) ∧
  (¬ (v_33 ≤ c_3) →
   b59j3 N1 (some a0a__1) b_1 c_3 chosen_4 b18 out_12_1 b14 now_2 v_21 false R F))) ∧
 (¬ (v_21 < (now_2.len : Int)) →
  b59j1 out_12_1 R F))
def b59 (a_0 : Option Addr) (b_1 : Option Addr) (now_2 : Sl) (c_3 : Int) (chosen_4 : Value) (R : VP) (F : PH) :=
 ∀ b18, F b18 = none → atF (F.set b18 (.map #[] 0)) fun F =>
 (∃ (I1 : Nat → Sl → Int → PH → Prop) (m1 : Nat), I1 m1 Sl.nil 0 F ∧ ∀ m1 out_12_1 v_21 F, I1 m1 out_12_1 v_21 F →
  b59L1 (nx2 I1 m1) a_0 b_1 c_3 chosen_4 b18 now_2 R out_12_1 v_21 F)
theorem c59 {a_0 : Option Addr} {b_1 : Option Addr} {now_2 : Sl} {c_3 : Int} {chosen_4 : Value} {R : VP} {F : PH} (h : b59 a_0 b_1 now_2 c_3 chosen_4 R F) : Spec prog 59 #[(.pointer a_0), (.pointer b_1), (Sl.v now_2), (.int .i64 c_3), chosen_4] F R := by
 refine spec_of (args := [(.pointer a_0), (.pointer b_1), (Sl.v now_2), (.int .i64 c_3), chosen_4]) func59 rfl ntmps59 rfl ?_
 unfold b59 at h
 refine cR (sR (Sl.v Sl.nil) (r_assign rfl rfl) ?_)
 refine HL_nil ?_
 refine cR ?_
 refine s_ef (k_makeMap0 ?_)
 intro b18 hf_b18
 replace h := atE (h b18 hf_b18)
 refine sR (.map (some b18)) (r_assign rfl rfl) ?_
 refine HL_nil ?_
 refine cR (sR (Sl.v Sl.nil) (r_assign rfl rfl) ?_)
 refine HL_nil ?_
 refine HC_seqJ (b59J1 R) ?_ ?_
 clear h; rintro E F ⟨out_12, h12, h⟩
 unfold b59j1 at h
 refine cR (sR _ (r_move rfl h12) ?_)
 refine sR (Sl.v out_12) (r_assign rfl rfl) ?_
 exact HL_nil (HC_ret (rt1 f59 R rfl rfl h))
 refine cR (sR (Sl.v now_2) (r_move rfl rfl) ?_)
 refine sR (.int .i64 (now_2.len : Int)) (r_lenSl rfl rfl underlying89) ?_
 refine sR (.int .i64 0) (r_move rfl rfl) ?_
 refine HL_nil ?_
 refine HC_block ?_
 obtain ⟨I1, m1, hI0, hr⟩ := h
 refine HC_loop (fun m1 E F => ∃ out_12_1 : Sl, ∃ v_21 : Int, E 0 = (.pointer a_0) ∧ E 1 = (.pointer b_1) ∧ E 3 = (.int .i64 c_3) ∧ E 4 = chosen_4 ∧ E 11 = (.map (some b18)) ∧ E 12 = (Sl.v out_12_1) ∧ E 19 = (Sl.v now_2) ∧ E 20 = (.int .i64 (now_2.len : Int)) ∧ E 21 = (.int .i64 v_21) ∧ I1 m1 out_12_1 v_21 F) m1 ⟨_, _, rfl, rfl, rfl, rfl, rfl, rfl, rfl, rfl, rfl, hI0⟩ ?_
 clear hI0; rintro m1 E F ⟨out_12_1, v_21, h0, h1, h3, h4, h11, h12, h19, h20, h21, hI⟩
 have h := hr m1 out_12_1 v_21 F hI
 clear hr hI
 unfold b59L1 at h
 refine cR (sR (.bool (decide (v_21 < (now_2.len : Int)))) (r_lss rfl h21 h20) ?_)
 refine HL_nil ?_
 refine HC_seq ?_
 refine HC_cond (t := (decide (v_21 < (now_2.len : Int)))) rfl (fun hc => ?_) (fun hc => ?_)
 replace h := h.1 (of_decide_eq_true hc)
 clear hc
 refine HC_skip ?_
 refine HC_seqJ (b59J2 (nx2 I1 m1) a_0 b_1 c_3 chosen_4 b18 now_2 v_21 R) ?_ ?_
 clear h; rintro E F ⟨out_12_2, h0, h1, h3, h4, h11, h12, h19, h20, h21, h⟩
 unfold b59j2 at h
 refine HC_region ?_
 refine sR (.int .i64 (IntKind.i64.wrap (v_21 + 1))) (r_add rfl h21 rfl) ?_
 refine sR (.int .i64 (IntKind.i64.wrap (v_21 + 1))) (r_move rfl rfl) ?_
 refine HL_nil ?_
 obtain ⟨m', hm, h⟩ := h
 exact ⟨m', hm, _, _, h0, h1, h3, h4, h11, h12, h19, h20, rfl, h⟩
 refine HC_block ?_
 refine cR ?_
 obtain ⟨a23_, hb23, hl23, hu23, h⟩ := h
 refine sR (.pointer (some (Addr.add a23_ (Int.toNat v_21 * 2)))) (w_indexAddr h19 h21 underlying89 sz92 hb23 hl23 hu23) ?_
 obtain ⟨v_24, hs24, hc24, h⟩ := h
 refine sR (.agg v_24) (w_loadN rfl underlying92 rfl sz92 hs24 hc24) ?_
 refine s_ef (k_alloc zr92 ?_)
 intro b14 hf_b14
 replace h := atE (h b14 hf_b14)
 refine s_ef0 (k_storeN (vs := v_24) rfl rfl sz92 (by decide) ?_)
 obtain ⟨hz1, hz2, c, e, hz3, hz4, hz5, h⟩ := h
 refine ⟨hz1, hz2, c, e, hz3, hz4, hz5, ?_⟩
 replace h := atE h
 refine HL_nil ?_
 refine HC_seqJ (b59J3 (nx2 I1 m1) a_0 b_1 c_3 chosen_4 b18 out_12_1 b14 now_2 v_21 R) ?_ ?_
 clear h; rintro E F ⟨inside_15, h0, h1, h3, h4, h11, h12, h14, h15, h19, h20, h21, h⟩
 unfold b59j3 at h
 refine HC_seq ?_
 refine cR (sR _ (r_move rfl h15) ?_)
 refine sR (.bool (!inside_15)) (r_not rfl rfl) ?_
 refine sR (.bool (!inside_15)) (r_move rfl rfl) ?_
 by_cases hc : (!inside_15) = true
 replace h := h.1 hc
 refine kN 76 hc ?_
 refine kN 77 hc ?_
 iterate 4 refine s_skip ?_
 refine sR (.bool true) (r_pt rfl rfl) ?_
 refine HL_nil ?_
 refine HC_condT rfl ?_
 refine HC_exit ?_
 show b59J2 (nx2 I1 m1) a_0 b_1 c_3 chosen_4 b18 now_2 v_21 R _ _
 exact ⟨_, h0, h1, h3, h4, h11, h12, h19, h20, h21, h⟩
 replace hc := eq_false_of_ne_true hc; replace h := h.2 hc
 refine kN 76 hc ?_
 refine kN 77 hc ?_
 refine sR chosen_4 (r_move rfl h4) ?_
 obtain ⟨v_79, hs79, hc79, h⟩ := h
 refine sR (.agg v_79) (w_loadN h14 underlying92 rfl sz92 hs79 hc79) ?_
 obtain ⟨_, _, _, hk1, hk2, h⟩ := h
 refine s_ef (k_callF (vs := [(.agg v_79)]) hk2 ((rfl : _ = chosen_4).trans hk1) (evC rfl evN) (h.mono ?_))
 clear h; rintro v F ⟨v_80, rfl, h⟩
 refine sR (.bool (!v_80)) (r_not rfl rfl) ?_
 refine sR (.bool (!v_80)) (r_pf rfl rfl) ?_
 refine HL_nil ?_
 refine HC_cond (t := (!v_80)) rfl (fun hc => ?_) (fun hc => ?_)
 replace h := h.1 hc
 clear hc
 refine HC_exit ?_
 show b59J2 (nx2 I1 m1) a_0 b_1 c_3 chosen_4 b18 now_2 v_21 R _ _
 exact ⟨_, h0, h1, h3, h4, h11, h12, h19, h20, h21, h⟩
 replace h := h.2 hc
 clear hc
 refine HC_skip ?_
 refine HC_seq ?_
 refine HC_draw0 (by kernel_rfl) (fun hp => ?_)
 refine gU 0 (.pointer a_0) rfl (fun _ => r_move rfl h0) hp ?_
 refine gU 1 (.pointer b_1) rfl (fun _ => r_move rfl h1) hp ?_
 refine gU 2 (.pointer a_0) rfl (fun _ => r_move rfl h0) hp ?_
 obtain ⟨a0a_, rfl, h⟩ := h
 refine gU 3 (.pointer (some a0a_)) rfl (fun _ => r_nilCheck rfl rfl) hp ?_
 refine gU 4 (.pointer (some (Addr.add a0a_ 17))) rfl (fun _ => w_fieldAddr rfl underlying79 rfl rfl sz77 rfl rfl) hp ?_
 obtain ⟨v_88, hc88, h⟩ := h
 refine gR 5 (Sl.v v_88) rfl (r_load1 rfl rfl underlying77 rfl hc88) hp (fun S5 q5 => ?_)
 replace hp := holdC (i := 5) (q5 _ (r_load1 rfl rfl underlying77 rfl hc88)) hp
 refine gU 6 (.pointer (some (Addr.mk b14 0 none))) rfl (fun _ => w_fieldAddr h14 underlying92 rfl rfl sz3 rfl rfl) hp ?_
 obtain ⟨v_90, hc90, h⟩ := h
 refine gR 7 (.int .i64 v_90) rfl (r_load1 rfl rfl underlying3 rfl hc90) hp (fun S7 q7 => ?_)
 replace hp := holdC (i := 7) (q7 _ (r_load1 rfl rfl underlying3 rfl hc90)) hp
 obtain ⟨a91_, hb91, hl91, hu91, h⟩ := h
 refine gU 8 (.pointer (some (Addr.add a91_ (Int.toNat v_90 * 8)))) rfl (fun _ => w_indexAddr rfl rfl underlying77 sz76 hb91 hl91 hu91) hp ?_
 obtain ⟨v_92, hs92, hc92, h⟩ := h
 refine gR 9 (.agg v_92) rfl (w_loadN rfl underlying76 rfl sz76 hs92 hc92) hp (fun S9 q9 => ?_)
 replace hp := holdC (i := 9) (q9 _ (w_loadN rfl underlying76 rfl sz76 hs92 hc92)) hp
 refine gU 10 (.pointer b_1) rfl (fun _ => r_move rfl h1) hp ?_
 obtain ⟨b1a_, rfl, h⟩ := h
 refine gU 11 (.pointer (some b1a_)) rfl (fun _ => r_nilCheck rfl rfl) hp ?_
 refine gU 12 (.pointer (some (Addr.add b1a_ 17))) rfl (fun _ => w_fieldAddr rfl underlying79 rfl rfl sz77 rfl rfl) hp ?_
 obtain ⟨v_96, hc96, h⟩ := h
 refine gR 13 (Sl.v v_96) rfl (r_load1 rfl rfl underlying77 rfl hc96) hp (fun S13 q13 => ?_)
 replace hp := holdC (i := 13) (q13 _ (r_load1 rfl rfl underlying77 rfl hc96)) hp
 refine gU 14 (.pointer (some (Addr.mk b14 1 none))) rfl (fun _ => w_fieldAddr h14 underlying92 rfl rfl sz3 rfl rfl) hp ?_
 obtain ⟨v_98, hc98, h⟩ := h
 refine gR 15 (.int .i64 v_98) rfl (r_load1 rfl rfl underlying3 rfl hc98) hp (fun S15 q15 => ?_)
 replace hp := holdC (i := 15) (q15 _ (r_load1 rfl rfl underlying3 rfl hc98)) hp
 obtain ⟨a99_, hb99, hl99, hu99, h⟩ := h
 refine gU 16 (.pointer (some (Addr.add a99_ (Int.toNat v_98 * 8)))) rfl (fun _ => w_indexAddr rfl rfl underlying77 sz76 hb99 hl99 hu99) hp ?_
 obtain ⟨v_100, hs100, hc100, h⟩ := h
 refine gR 17 (.agg v_100) rfl (w_loadN rfl underlying76 rfl sz76 hs100 hc100) hp (fun S17 q17 => ?_)
 replace hp := holdC (i := 17) (q17 _ (w_loadN rfl underlying76 rfl sz76 hs100 hc100)) hp
 refine gU 20 (.int .i64 0) rfl (fun _ => r_move rfl rfl) hp ?_
 refine RG_eff1 (i := 18) (by kernel_rfl) (g_op (Sp' := [(15, S15), (13, S13), (7, S7), (5, S5)]) rfl rfl (k_call (vs := [(.pointer (some a0a_)), (.pointer (some b1a_)), (.agg v_92), (.agg v_100)]) cb58 (evC rfl (evC rfl (evC rfl (evC rfl evN)))) (h.mono ?_)))
 clear h; rintro v F ⟨v_101, rfl, h⟩
 obtain ⟨hk_29, hk_30, hk_31, hk_32, h⟩ := h
 refine holdI (holdC (i := 15) (q15 _ (r_load1 rfl rfl underlying3 rfl hk_29)) (holdC (i := 13) (q13 _ (r_load1 rfl rfl underlying77 rfl hk_30)) (holdC (i := 7) (q7 _ (r_load1 rfl rfl underlying3 rfl hk_31)) (holdC (i := 5) (q5 _ (r_load1 rfl rfl underlying77 rfl hk_32)) hold0)))) (fun hp => ?_)
 refine gU 19 (.int .i64 (v_101.len : Int)) rfl (fun _ => r_lenSl rfl rfl underlying89) hp ?_
 refine RG_done (by kernel_rfl) ?_
 refine HC_block ?_
 obtain ⟨I2, m2, hI0, hr⟩ := h
 refine HC_loop (fun m2 E F => ∃ out_12_3 : Sl, ∃ v_103 : Int, E 0 = (.pointer (some a0a_)) ∧ E 1 = (.pointer (some b1a_)) ∧ E 3 = (.int .i64 c_3) ∧ E 4 = chosen_4 ∧ E 11 = (.map (some b18)) ∧ E 12 = (Sl.v out_12_3) ∧ E 19 = (Sl.v now_2) ∧ E 20 = (.int .i64 (now_2.len : Int)) ∧ E 21 = (.int .i64 v_21) ∧ E 101 = (Sl.v v_101) ∧ E 102 = (.int .i64 (v_101.len : Int)) ∧ E 103 = (.int .i64 v_103) ∧ I2 m2 out_12_3 v_103 F) m2 ⟨_, _, h0, h1, h3, h4, h11, h12, h19, h20, h21, rfl, rfl, rfl, hI0⟩ ?_
 clear hI0; rintro m2 E F ⟨out_12_3, v_103, h0, h1, h3, h4, h11, h12, h19, h20, h21, h101, h102, h103, hI⟩
 have h := hr m2 out_12_3 v_103 F hI
 clear hr hI
 unfold b59L2 at h
 refine cR (sR (.bool (decide (v_103 < (v_101.len : Int)))) (r_lss rfl h103 h102) ?_)
 refine HL_nil ?_
 refine HC_seq ?_
 refine HC_cond (t := (decide (v_103 < (v_101.len : Int)))) rfl (fun hc => ?_) (fun hc => ?_)
 replace h := h.1 (of_decide_eq_true hc)
 clear hc
 refine HC_skip ?_
 refine HC_seqJ (b59J4 (nx2 I1 m1) (nx2 I2 m2) a0a_ b1a_ c_3 chosen_4 b18 now_2 v_21 v_101 v_103 R) ?_ ?_
 clear h; rintro E F ⟨out_12_4, h0, h1, h3, h4, h11, h12, h19, h20, h21, h101, h102, h103, h⟩
 unfold b59j4 at h
 refine HC_region ?_
 refine sR (.int .i64 (IntKind.i64.wrap (v_103 + 1))) (r_add rfl h103 rfl) ?_
 refine sR (.int .i64 (IntKind.i64.wrap (v_103 + 1))) (r_move rfl rfl) ?_
 refine HL_nil ?_
 obtain ⟨m', hm, h⟩ := h
 exact ⟨m', hm, _, _, h0, h1, h3, h4, h11, h12, h19, h20, h21, h101, h102, rfl, h⟩
 refine HC_block ?_
 refine cR ?_
 obtain ⟨a105_, hb105, hl105, hu105, h⟩ := h
 refine sR (.pointer (some (Addr.add a105_ (Int.toNat v_103 * 2)))) (w_indexAddr h101 h103 underlying89 sz92 hb105 hl105 hu105) ?_
 obtain ⟨v_106, hs106, hc106, h⟩ := h
 refine sR (.agg v_106) (w_loadN rfl underlying92 rfl sz92 hs106 hc106) ?_
 refine s_ef (k_alloc zr92 ?_)
 intro b17 hf_b17
 replace h := atE (h b17 hf_b17)
 refine s_ef0 (k_storeN (vs := v_106) rfl rfl sz92 (by decide) ?_)
 obtain ⟨hz1, hz2, c, e, hz3, hz4, hz5, h⟩ := h
 refine ⟨hz1, hz2, c, e, hz3, hz4, hz5, ?_⟩
 replace h := atE h
 refine HL_nil ?_
 refine cR (sR _ (r_move rfl h11) ?_)
 obtain ⟨v_108, hs108, hc108, h⟩ := h
 refine sR (.agg v_108) (w_loadN rfl underlying92 rfl sz92 hs108 hc108) ?_
 obtain ⟨v_109, hc109, h⟩ := h
 refine sR (.bool v_109) (r_lookup rfl rfl rfl hc109) ?_
 refine sR (.bool (!v_109)) (r_not rfl rfl) ?_
 refine HL_nil ?_
 refine HC_cond (t := (!v_109)) rfl (fun hc => ?_) (fun hc => ?_)
 replace h := h.1 hc
 clear hc
 refine cR (sR _ (r_move rfl h11) ?_)
 obtain ⟨v_112, hs112, hc112, h⟩ := h
 refine sR (.agg v_112) (w_loadN rfl underlying92 rfl sz92 hs112 hc112) ?_
 refine s_ef0 (k_mapUpdate rfl rfl rfl (runs_mono _ _ h ?_))
 clear h; rintro _ F h
 refine HL_nil ?_
 refine HC_region ?_
 refine sR _ (r_move rfl h12) ?_
 obtain ⟨v_114, hs114, hc114, h⟩ := h
 refine sR (.agg v_114) (w_loadN rfl underlying92 rfl sz92 hs114 hc114) ?_
 obtain ⟨hz115, h⟩ := h
 refine s_ef (k_buildSlice (cells := v_114) underlying89 sz92 (by decide) zr92 rfl (evPC rfl evPN) (fillWhole hz115 rfl rfl) rfl ?_)
 intro b115 hf_b115
 replace h := atE (h b115 hf_b115)
 refine s_ef (k_append rfl rfl (runs_mono _ _ h ?_))
 clear h; rintro v F ⟨v_116, rfl, h⟩
 refine sR (Sl.v v_116) (r_assign rfl rfl) ?_
 refine HL_nil ?_
 show b59J4 (nx2 I1 m1) (nx2 I2 m2) a0a_ b1a_ c_3 chosen_4 b18 now_2 v_21 v_101 v_103 R _ _
 exact ⟨_, h0, h1, h3, h4, h11, rfl, h19, h20, h21, h101, h102, h103, h⟩
 replace h := h.2 hc
 clear hc
 refine HC_skip ?_
 show b59J4 (nx2 I1 m1) (nx2 I2 m2) a0a_ b1a_ c_3 chosen_4 b18 now_2 v_21 v_101 v_103 R _ _
 exact ⟨_, h0, h1, h3, h4, h11, h12, h19, h20, h21, h101, h102, h103, h⟩
 replace h := h.2 (of_decide_eq_false hc)
 clear hc
 refine HC_exit ?_
 show b59J2 (nx2 I1 m1) (some a0a_) (some b1a_) c_3 chosen_4 b18 now_2 v_21 R _ _
 exact ⟨_, h0, h1, h3, h4, h11, h12, h19, h20, h21, h⟩
 refine HC_draw0 (by kernel_rfl) (fun hp => ?_)
 refine gU 0 (.pointer a_0) rfl (fun _ => r_move rfl h0) hp ?_
 obtain ⟨a0a__1, rfl, h⟩ := h
 refine gU 1 (.pointer (some a0a__1)) rfl (fun _ => r_nilCheck rfl rfl) hp ?_
 refine gU 2 (.pointer (some a0a__1)) rfl (fun _ => w_fieldAddr rfl underlying79 rfl rfl sz25 rfl rfl) hp ?_
 obtain ⟨v_28, hc28, h⟩ := h
 refine gR 3 (Sl.v v_28) rfl (r_load1 rfl rfl underlying25 rfl hc28) hp (fun S3 q3 => ?_)
 replace hp := holdC (i := 3) (q3 _ (r_load1 rfl rfl underlying25 rfl hc28)) hp
 refine gU 4 (.pointer (some (Addr.mk b14 0 none))) rfl (fun _ => w_fieldAddr rfl underlying92 rfl rfl sz3 rfl rfl) hp ?_
 obtain ⟨v_30, hc30, h⟩ := h
 refine gR 5 (.int .i64 v_30) rfl (r_load1 rfl rfl underlying3 rfl hc30) hp (fun S5 q5 => ?_)
 replace hp := holdC (i := 5) (q5 _ (r_load1 rfl rfl underlying3 rfl hc30)) hp
 obtain ⟨a31_, hb31, hl31, hu31, h⟩ := h
 refine gU 6 (.pointer (some (Addr.add a31_ (Int.toNat v_30 * 5)))) rfl (fun _ => w_indexAddr rfl rfl underlying25 sz50 hb31 hl31 hu31) hp ?_
 refine gU 7 (.pointer (some (Addr.add (Addr.add a31_ (Int.toNat v_30 * 5)) 1))) rfl (fun _ => w_fieldAddr rfl underlying50 rfl rfl sz3 rfl rfl) hp ?_
 obtain ⟨v_33, hc33, h⟩ := h
 refine gR 8 (.int .i64 v_33) rfl (r_load1 rfl rfl underlying3 rfl hc33) hp (fun S8 q8 => ?_)
 replace hp := holdC (i := 8) (q8 _ (r_load1 rfl rfl underlying3 rfl hc33)) hp
 refine gU 9 (.int .i64 c_3) rfl (fun _ => r_move rfl h3) hp ?_
 refine gU 10 (.bool (decide (v_33 ≤ c_3))) rfl (fun _ => r_leq rfl rfl rfl) hp ?_
 refine gU 11 (.bool (decide (v_33 ≤ c_3))) rfl (fun _ => r_move rfl rfl) hp ?_
 by_cases hc : v_33 ≤ c_3
 replace h := h.1 hc
 refine RG_known (t := 35) (v := .bool true) (congrArg Value.bool (decide_eq_true hc)) ?_
 refine RG_known (t := 36) (v := .bool true) (congrArg Value.bool (decide_eq_true hc)) ?_
 refine gU 12 (.int .i64 c_3) rfl (fun _ => r_move rfl h3) hp ?_
 refine gU 13 (.pointer (some a0a__1)) rfl (fun _ => r_move rfl h0) hp ?_
 refine gU 14 (.pointer (some a0a__1)) rfl (fun _ => r_nilCheck rfl rfl) hp ?_
 refine gU 15 (.pointer (some a0a__1)) rfl (fun _ => w_fieldAddr rfl underlying79 rfl rfl sz25 rfl rfl) hp ?_
 obtain ⟨v_41, hc41, h⟩ := h
 refine gR 16 (Sl.v v_41) rfl (r_load1 rfl rfl underlying25 rfl hc41) hp (fun S16 q16 => ?_)
 replace hp := holdC (i := 16) (q16 _ (r_load1 rfl rfl underlying25 rfl hc41)) hp
 refine gU 17 (.pointer (some (Addr.mk b14 0 none))) rfl (fun _ => w_fieldAddr rfl underlying92 rfl rfl sz3 rfl rfl) hp ?_
 obtain ⟨v_43, hc43, h⟩ := h
 refine gR 18 (.int .i64 v_43) rfl (r_load1 rfl rfl underlying3 rfl hc43) hp (fun S18 q18 => ?_)
 replace hp := holdC (i := 18) (q18 _ (r_load1 rfl rfl underlying3 rfl hc43)) hp
 obtain ⟨a44_, hb44, hl44, hu44, h⟩ := h
 refine gU 19 (.pointer (some (Addr.add a44_ (Int.toNat v_43 * 5)))) rfl (fun _ => w_indexAddr rfl rfl underlying25 sz50 hb44 hl44 hu44) hp ?_
 refine gU 20 (.pointer (some (Addr.add (Addr.add a44_ (Int.toNat v_43 * 5)) 2))) rfl (fun _ => w_fieldAddr rfl underlying50 rfl rfl sz3 rfl rfl) hp ?_
 obtain ⟨v_46, hc46, h⟩ := h
 refine gR 21 (.int .i64 v_46) rfl (r_load1 rfl rfl underlying3 rfl hc46) hp (fun S21 q21 => ?_)
 replace hp := holdC (i := 21) (q21 _ (r_load1 rfl rfl underlying3 rfl hc46)) hp
 refine gU 22 (.bool (decide (c_3 ≤ v_46))) rfl (fun _ => r_leq rfl rfl rfl) hp ?_
 refine gU 23 (.bool (decide (c_3 ≤ v_46))) rfl (fun _ => r_pick rfl rfl (fun _ => rfl) (fun h => by cases h)) hp ?_
 refine gU 24 (.bool (decide (c_3 ≤ v_46))) rfl (fun _ => r_move rfl rfl) hp ?_
 by_cases hc : c_3 ≤ v_46
 replace h := h.1 hc
 refine RG_known (t := 47) (v := .bool true) (congrArg Value.bool (decide_eq_true hc)) ?_
 refine RG_known (t := 48) (v := .bool true) (congrArg Value.bool (decide_eq_true hc)) ?_
 refine RG_known (t := 49) (v := .bool true) (congrArg Value.bool (decide_eq_true hc)) ?_
 refine gU 25 (.pointer b_1) rfl (fun _ => r_move rfl h1) hp ?_
 obtain ⟨b1a__1, rfl, h⟩ := h
 refine gU 26 (.pointer (some b1a__1)) rfl (fun _ => r_nilCheck rfl rfl) hp ?_
 refine gU 27 (.pointer (some b1a__1)) rfl (fun _ => w_fieldAddr rfl underlying79 rfl rfl sz25 rfl rfl) hp ?_
 obtain ⟨v_53, hc53, h⟩ := h
 refine gR 28 (Sl.v v_53) rfl (r_load1 rfl rfl underlying25 rfl hc53) hp (fun S28 q28 => ?_)
 replace hp := holdC (i := 28) (q28 _ (r_load1 rfl rfl underlying25 rfl hc53)) hp
 refine gU 29 (.pointer (some (Addr.mk b14 1 none))) rfl (fun _ => w_fieldAddr rfl underlying92 rfl rfl sz3 rfl rfl) hp ?_
 obtain ⟨v_55, hc55, h⟩ := h
 refine gR 30 (.int .i64 v_55) rfl (r_load1 rfl rfl underlying3 rfl hc55) hp (fun S30 q30 => ?_)
 replace hp := holdC (i := 30) (q30 _ (r_load1 rfl rfl underlying3 rfl hc55)) hp
 obtain ⟨a56_, hb56, hl56, hu56, h⟩ := h
 refine gU 31 (.pointer (some (Addr.add a56_ (Int.toNat v_55 * 5)))) rfl (fun _ => w_indexAddr rfl rfl underlying25 sz50 hb56 hl56 hu56) hp ?_
 refine gU 32 (.pointer (some (Addr.add (Addr.add a56_ (Int.toNat v_55 * 5)) 1))) rfl (fun _ => w_fieldAddr rfl underlying50 rfl rfl sz3 rfl rfl) hp ?_
 obtain ⟨v_58, hc58, h⟩ := h
 refine gR 33 (.int .i64 v_58) rfl (r_load1 rfl rfl underlying3 rfl hc58) hp (fun S33 q33 => ?_)
 replace hp := holdC (i := 33) (q33 _ (r_load1 rfl rfl underlying3 rfl hc58)) hp
 refine gU 34 (.int .i64 c_3) rfl (fun _ => r_move rfl h3) hp ?_
 refine gU 35 (.bool (decide (v_58 ≤ c_3))) rfl (fun _ => r_leq rfl rfl rfl) hp ?_
 refine gU 36 (.bool (decide (v_58 ≤ c_3))) rfl (fun _ => r_pick rfl rfl (fun _ => rfl) (fun h => by cases h)) hp ?_
 refine gU 37 (.bool (decide (v_58 ≤ c_3))) rfl (fun _ => r_move rfl rfl) hp ?_
 by_cases hc : v_58 ≤ c_3
 replace h := h.1 hc
 refine RG_known (t := 60) (v := .bool true) (congrArg Value.bool (decide_eq_true hc)) ?_
 refine RG_known (t := 61) (v := .bool true) (congrArg Value.bool (decide_eq_true hc)) ?_
 refine RG_known (t := 62) (v := .bool true) (congrArg Value.bool (decide_eq_true hc)) ?_
 refine gU 38 (.int .i64 c_3) rfl (fun _ => r_move rfl h3) hp ?_
 refine gU 39 (.pointer (some b1a__1)) rfl (fun _ => r_move rfl h1) hp ?_
 refine gU 40 (.pointer (some b1a__1)) rfl (fun _ => r_nilCheck rfl rfl) hp ?_
 refine gU 41 (.pointer (some b1a__1)) rfl (fun _ => w_fieldAddr rfl underlying79 rfl rfl sz25 rfl rfl) hp ?_
 obtain ⟨v_67, hc67, h⟩ := h
 refine gR 42 (Sl.v v_67) rfl (r_load1 rfl rfl underlying25 rfl hc67) hp (fun S42 q42 => ?_)
 replace hp := holdC (i := 42) (q42 _ (r_load1 rfl rfl underlying25 rfl hc67)) hp
 refine gU 43 (.pointer (some (Addr.mk b14 1 none))) rfl (fun _ => w_fieldAddr rfl underlying92 rfl rfl sz3 rfl rfl) hp ?_
 obtain ⟨v_69, hc69, h⟩ := h
 refine gR 44 (.int .i64 v_69) rfl (r_load1 rfl rfl underlying3 rfl hc69) hp (fun S44 q44 => ?_)
 replace hp := holdC (i := 44) (q44 _ (r_load1 rfl rfl underlying3 rfl hc69)) hp
 obtain ⟨a70_, hb70, hl70, hu70, h⟩ := h
 refine gU 45 (.pointer (some (Addr.add a70_ (Int.toNat v_69 * 5)))) rfl (fun _ => w_indexAddr rfl rfl underlying25 sz50 hb70 hl70 hu70) hp ?_
 refine gU 46 (.pointer (some (Addr.add (Addr.add a70_ (Int.toNat v_69 * 5)) 2))) rfl (fun _ => w_fieldAddr rfl underlying50 rfl rfl sz3 rfl rfl) hp ?_
 obtain ⟨v_72, hc72, h⟩ := h
 refine gR 47 (.int .i64 v_72) rfl (r_load1 rfl rfl underlying3 rfl hc72) hp (fun S47 q47 => ?_)
 replace hp := holdC (i := 47) (q47 _ (r_load1 rfl rfl underlying3 rfl hc72)) hp
 refine gU 48 (.bool (decide (c_3 ≤ v_72))) rfl (fun _ => r_leq rfl rfl rfl) hp ?_
 refine gU 49 (.bool (decide (c_3 ≤ v_72))) rfl (fun _ => r_pick rfl rfl (fun _ => rfl) (fun h => by cases h)) hp ?_
 refine gU 50 (.bool (decide (c_3 ≤ v_72))) rfl (fun _ => r_assign rfl rfl) hp ?_
 refine RG_done (by kernel_rfl) ?_
 show b59J3 (nx2 I1 m1) (some a0a__1) (some b1a__1) c_3 chosen_4 b18 out_12_1 b14 now_2 v_21 R _ _
 exact ⟨_, h0, h1, h3, h4, h11, h12, rfl, rfl, h19, h20, h21, h⟩
 replace h := h.2 hc
 refine RG_known (t := 60) (v := .bool false) (congrArg Value.bool (decide_eq_false hc)) ?_
 refine RG_known (t := 61) (v := .bool false) (congrArg Value.bool (decide_eq_false hc)) ?_
 refine RG_known (t := 62) (v := .bool false) (congrArg Value.bool (decide_eq_false hc)) ?_
 refine gS 38 rfl hp ?_
 refine gS 39 rfl hp ?_
 refine gS 40 rfl hp ?_
 refine gS 41 rfl hp ?_
 refine gS 42 rfl hp ?_
 refine gS 43 rfl hp ?_
 refine gS 44 rfl hp ?_
 refine gS 45 rfl hp ?_
 refine gS 46 rfl hp ?_
 refine gS 47 rfl hp ?_
 refine gS 48 rfl hp ?_
 refine gU 49 (.bool false) rfl (fun _ => r_pick rfl rfl (fun h => by cases h) (fun _ => rfl)) hp ?_
 refine gU 50 (.bool false) rfl (fun _ => r_assign rfl rfl) hp ?_
 refine RG_done (by kernel_rfl) ?_
 show b59J3 (nx2 I1 m1) (some a0a__1) (some b1a__1) c_3 chosen_4 b18 out_12_1 b14 now_2 v_21 R _ _
 exact ⟨_, h0, h1, h3, h4, h11, h12, rfl, rfl, h19, h20, h21, h⟩
 replace h := h.2 hc
 refine RG_known (t := 47) (v := .bool false) (congrArg Value.bool (decide_eq_false hc)) ?_
 refine RG_known (t := 48) (v := .bool false) (congrArg Value.bool (decide_eq_false hc)) ?_
 refine RG_known (t := 49) (v := .bool false) (congrArg Value.bool (decide_eq_false hc)) ?_
 refine gS 25 rfl hp ?_
 refine gS 26 rfl hp ?_
 refine gS 27 rfl hp ?_
 refine gS 28 rfl hp ?_
 refine gS 29 rfl hp ?_
 refine gS 30 rfl hp ?_
 refine gS 31 rfl hp ?_
 refine gS 32 rfl hp ?_
 refine gS 33 rfl hp ?_
 refine gS 34 rfl hp ?_
 refine gS 35 rfl hp ?_
 refine gU 36 (.bool false) rfl (fun _ => r_pick rfl rfl (fun h => by cases h) (fun _ => rfl)) hp ?_
 refine gU 37 (.bool false) rfl (fun _ => r_move rfl rfl) hp ?_
 refine gS 38 rfl hp ?_
 refine gS 39 rfl hp ?_
 refine gS 40 rfl hp ?_
 refine gS 41 rfl hp ?_
 refine gS 42 rfl hp ?_
 refine gS 43 rfl hp ?_
 refine gS 44 rfl hp ?_
 refine gS 45 rfl hp ?_
 refine gS 46 rfl hp ?_
 refine gS 47 rfl hp ?_
 refine gS 48 rfl hp ?_
 refine gU 49 (.bool false) rfl (fun _ => r_pick rfl rfl (fun h => by cases h) (fun _ => rfl)) hp ?_
 refine gU 50 (.bool false) rfl (fun _ => r_assign rfl rfl) hp ?_
 refine RG_done (by kernel_rfl) ?_
 show b59J3 (nx2 I1 m1) (some a0a__1) b_1 c_3 chosen_4 b18 out_12_1 b14 now_2 v_21 R _ _
 exact ⟨_, h0, h1, h3, h4, h11, h12, rfl, rfl, h19, h20, h21, h⟩
 replace h := h.2 hc
 refine RG_known (t := 35) (v := .bool false) (congrArg Value.bool (decide_eq_false hc)) ?_
 refine RG_known (t := 36) (v := .bool false) (congrArg Value.bool (decide_eq_false hc)) ?_
 refine gS 12 rfl hp ?_
 refine gS 13 rfl hp ?_
 refine gS 14 rfl hp ?_
 refine gS 15 rfl hp ?_
 refine gS 16 rfl hp ?_
 refine gS 17 rfl hp ?_
 refine gS 18 rfl hp ?_
 refine gS 19 rfl hp ?_
 refine gS 20 rfl hp ?_
 refine gS 21 rfl hp ?_
 refine gS 22 rfl hp ?_
 refine gU 23 (.bool false) rfl (fun _ => r_pick rfl rfl (fun h => by cases h) (fun _ => rfl)) hp ?_
 refine gU 24 (.bool false) rfl (fun _ => r_move rfl rfl) hp ?_
 refine gS 25 rfl hp ?_
 refine gS 26 rfl hp ?_
 refine gS 27 rfl hp ?_
 refine gS 28 rfl hp ?_
 refine gS 29 rfl hp ?_
 refine gS 30 rfl hp ?_
 refine gS 31 rfl hp ?_
 refine gS 32 rfl hp ?_
 refine gS 33 rfl hp ?_
 refine gS 34 rfl hp ?_
 refine gS 35 rfl hp ?_
 refine gU 36 (.bool false) rfl (fun _ => r_pick rfl rfl (fun h => by cases h) (fun _ => rfl)) hp ?_
 refine gU 37 (.bool false) rfl (fun _ => r_move rfl rfl) hp ?_
 refine gS 38 rfl hp ?_
 refine gS 39 rfl hp ?_
 refine gS 40 rfl hp ?_
 refine gS 41 rfl hp ?_
 refine gS 42 rfl hp ?_
 refine gS 43 rfl hp ?_
 refine gS 44 rfl hp ?_
 refine gS 45 rfl hp ?_
 refine gS 46 rfl hp ?_
 refine gS 47 rfl hp ?_
 refine gS 48 rfl hp ?_
 refine gU 49 (.bool false) rfl (fun _ => r_pick rfl rfl (fun h => by cases h) (fun _ => rfl)) hp ?_
 refine gU 50 (.bool false) rfl (fun _ => r_assign rfl rfl) hp ?_
 refine RG_done (by kernel_rfl) ?_
 show b59J3 (nx2 I1 m1) (some a0a__1) b_1 c_3 chosen_4 b18 out_12_1 b14 now_2 v_21 R _ _
 exact ⟨_, h0, h1, h3, h4, h11, h12, rfl, rfl, h19, h20, h21, h⟩
 replace h := h.2 (of_decide_eq_false hc)
 clear hc
 refine HC_exit ?_
 show b59J1 R _ _
 exact ⟨_, h12, h⟩
 /- 60 koine.pattern.Common$1 -/
def b60 (x_0 : Array Value) (v_1 : Option Addr) (v_2 : Option Addr) (R : VP) (F : PH) :=
 ∀ b3, F b3 = none → atF (F.set b3 (.cells x_0 92)) fun F =>
 ∃ v1a_ : Addr, v_1 = some v1a_ ∧ ∃ v_8 : Option Nat, F.cell v1a_ = some (.map v_8) ∧
 ∃ v_9 : Array Value, v_9.size = 2 ∧ F.row (Addr.mk b3 0 none) v_9 ∧
 ∃ (v_10 : Int) (ok10_ : Bool), rdo prog (Instr.lookup 87 (.map v_8) (.agg v_9) true) F (.tuple #[(.int .i64 v_10), (.bool ok10_)]) ∧
 ((ok10_ = true →
  ∃ v2a_ : Addr, v_2 = some v2a_ ∧ ∃ v_16 : Int, F.cell v2a_ = some (.int .i64 v_16) ∧
  R (.bool (decide (v_10 = v_16))) F) ∧
 (ok10_ = false →
  R (.bool false) F))
theorem c60 {x_0 : Array Value} {v_1 : Option Addr} {v_2 : Option Addr} {R : VP} {F : PH} (h : b60 x_0 v_1 v_2 R F) : Spec prog 60 #[(.agg x_0), (.pointer v_1), (.pointer v_2)] F R := by
 refine spec_of (args := [(.agg x_0), (.pointer v_1), (.pointer v_2)]) func60 rfl ntmps60 rfl ?_
 unfold b60 at h
 refine cR ?_
 refine s_ef (k_box (cs := x_0) rfl rfl ?_)
 intro b3 hf_b3
 replace h := atE (h b3 hf_b3)
 refine sR (.bool false) (r_assign rfl rfl) ?_
 refine HL_nil ?_
 refine cR ?_
 obtain ⟨v1a_, rfl, h⟩ := h
 obtain ⟨v_8, hc8, h⟩ := h
 refine sR (.map v_8) (r_load1 rfl rfl underlying87 rfl hc8) ?_
 obtain ⟨v_9, hs9, hc9, h⟩ := h
 refine sR (.agg v_9) (w_loadN rfl underlying92 rfl sz92 hs9 hc9) ?_
 obtain ⟨v_10, ok10_, hc10, h⟩ := h
 refine sR (.tuple #[(.int .i64 v_10), (.bool ok10_)]) (r_lookup rfl rfl rfl hc10) ?_
 refine sR (.tuple #[(.int .i64 v_10), (.bool ok10_)]) (r_move rfl rfl) ?_
 refine sR (.int .i64 v_10) (r_extract rfl rfl rfl) ?_
 refine sR (.bool ok10_) (r_extract rfl rfl rfl) ?_
 refine sR (.int .i64 v_10) (r_assign rfl rfl) ?_
 refine sR (.bool ok10_) (r_assign rfl rfl) ?_
 refine HL_nil ?_
 refine cR (sR (.bool ok10_) (r_move rfl rfl) ?_)
 refine sR (.bool ok10_) (r_move rfl rfl) ?_
 by_cases hc : ok10_ = true
 replace h := h.1 hc
 refine kN 12 hc ?_
 refine kN 6 hc ?_
 refine kN 13 hc ?_
 refine kN 14 hc ?_
 refine sR (.int .i64 v_10) (r_move rfl rfl) ?_
 obtain ⟨v2a_, rfl, h⟩ := h
 obtain ⟨v_16, hc16, h⟩ := h
 refine sR (.int .i64 v_16) (r_load1 rfl rfl underlying3 rfl hc16) ?_
 refine sR (.bool (decide (v_10 = v_16))) (w_eql rfl rfl) ?_
 refine sR (.bool (decide (v_10 = v_16))) (r_pt rfl rfl) ?_
 refine sR (.bool (decide (v_10 = v_16))) (r_assign rfl rfl) ?_
 exact HL_nil (HC_ret (rt1 f60 R rfl rfl h))
 replace hc := eq_false_of_ne_true hc; replace h := h.2 hc
 refine kN 12 hc ?_
 refine kN 6 hc ?_
 refine kN 13 hc ?_
 refine kN 14 hc ?_
 iterate 3 refine s_skip ?_
 refine sR (.bool false) (r_pf rfl rfl) ?_
 refine sR (.bool false) (r_assign rfl rfl) ?_
 exact HL_nil (HC_ret (rt1 f60 R rfl rfl h))
 /- 31 koine.pattern.Common -/
def b31j2 (out_17 : Sl) (R : VP) (F : PH) :=
 ∃ v_131 : ByteArray, rdo prog (Conv.bytesToString (Sl.v out_17)) F (.string v_131) ∧
 R (.tuple #[(.string v_131), (.int .i64 0)]) F
abbrev b31J2 (R : VP) (E : En) (F : PH) : Prop := ∃ out_17 : Sl, E 17 = (Sl.v out_17) ∧ b31j2 out_17 R F
def b31j3 (N1 : Sl → Sl → Option Addr → PH → Prop) (p_0 : Sl) (q_1 : Sl) (v35a_ : Addr) (v37a_ : Addr) (b10 : Nat) (d18a_ : Addr) (now_11_1 : Sl) (out_17_2 : Sl) (R : VP) (F : PH) :=
 ∃ v_129 : Int, F.cell d18a_ = some (.int .i64 v_129) ∧
 ∀ b18_1, F b18_1 = none → atF (F.set b18_1 (.cells (#[.int .i64 0]) 3)) fun F =>
 ∃ c e, F (Addr.mk b18_1 0 none).block = some (.cells c e (0, 0)) ∧ (Addr.mk b18_1 0 none).spot = none ∧ (Addr.mk b18_1 0 none).off < c.size ∧
 atF (F.set (Addr.mk b18_1 0 none).block (.cells (c.setIfInBounds (Addr.mk b18_1 0 none).off (.int .i64 v_129)) e)) fun F =>
 ∃ v_82 : Int, F.cell (Addr.mk b18_1 0 none) = some (.int .i64 v_82) ∧
 ∃ c e, F (Addr.mk b18_1 0 none).block = some (.cells c e (0, 0)) ∧ (Addr.mk b18_1 0 none).spot = none ∧ (Addr.mk b18_1 0 none).off < c.size ∧
 atF (F.set (Addr.mk b18_1 0 none).block (.cells (c.setIfInBounds (Addr.mk b18_1 0 none).off (.int .i64 (IntKind.i64.wrap (v_82 - 1)))) e)) fun F =>
 N1 now_11_1 out_17_2 (some (Addr.mk b18_1 0 none)) F
abbrev b31J3 (N1 : Sl → Sl → Option Addr → PH → Prop) (p_0 : Sl) (q_1 : Sl) (v35a_ : Addr) (v37a_ : Addr) (b10 : Nat) (d18a_ : Addr) (R : VP) (E : En) (F : PH) : Prop := ∃ now_11_1 : Sl, ∃ out_17_2 : Sl, E 0 = (Sl.v p_0) ∧ E 1 = (Sl.v q_1) ∧ E 8 = (.pointer (some v35a_)) ∧ E 9 = (.pointer (some v37a_)) ∧ E 10 = (.pointer (some (Addr.mk b10 0 none))) ∧ E 11 = (Sl.v now_11_1) ∧ E 17 = (Sl.v out_17_2) ∧ E 18 = (.pointer (some d18a_)) ∧ b31j3 N1 p_0 q_1 v35a_ v37a_ b10 d18a_ now_11_1 out_17_2 R F
def b31j4 (N1 : Sl → Sl → Option Addr → PH → Prop) (p_0 : Sl) (q_1 : Sl) (v35a_ : Addr) (v37a_ : Addr) (b10 : Nat) (now_11 : Sl) (out_17_1 : Sl) (d18a_ : Addr) (least_19 : Int) (R : VP) (F : PH) :=
 ∀ b121, F b121 = none → atF (F.set b121 (.cells #[(.int .u8 (IntKind.u8.wrap least_19))] 5)) fun F =>
 runs prog (Builtin.append_ #[22, 22] 22 #[(Sl.v out_17_1), (Sl.v (Sl.mk (some (Addr.mk b121 0 none)) 1 1))]) F fun v F => ∃ v_122 : Sl, v = (Sl.v v_122) ∧
 Spec prog 59 #[(.pointer (some v35a_)), (.pointer (some v37a_)), (Sl.v now_11), (.int .i64 least_19), (.func (.func 60) #[] #[(.pointer (some (Addr.mk b10 0 none))), (.pointer (some d18a_))])] F fun v F => ∃ v_128 : Sl, v = (Sl.v v_128) ∧
 b31j3 N1 p_0 q_1 v35a_ v37a_ b10 d18a_ v_128 v_122 R F
abbrev b31J4 (N1 : Sl → Sl → Option Addr → PH → Prop) (p_0 : Sl) (q_1 : Sl) (v35a_ : Addr) (v37a_ : Addr) (b10 : Nat) (now_11 : Sl) (out_17_1 : Sl) (d18a_ : Addr) (R : VP) (E : En) (F : PH) : Prop := ∃ least_19 : Int, E 0 = (Sl.v p_0) ∧ E 1 = (Sl.v q_1) ∧ E 8 = (.pointer (some v35a_)) ∧ E 9 = (.pointer (some v37a_)) ∧ E 10 = (.pointer (some (Addr.mk b10 0 none))) ∧ E 11 = (Sl.v now_11) ∧ E 17 = (Sl.v out_17_1) ∧ E 18 = (.pointer (some d18a_)) ∧ E 19 = (.int .i64 least_19) ∧ b31j4 N1 p_0 q_1 v35a_ v37a_ b10 now_11 out_17_1 d18a_ least_19 R F
def b31j5 (N1 : Sl → Sl → Option Addr → PH → Prop) (N2 : Int → Int → PH → Prop) (p_0 : Sl) (q_1 : Sl) (v35a_ : Addr) (v37a_ : Addr) (b10 : Nat) (now_11 : Sl) (out_17_1 : Sl) (d18a_ : Addr) (v_86 : Int) (least_19_2 : Int) (R : VP) (F : PH) :=
 N2 least_19_2 (IntKind.i64.wrap (v_86 + 1)) F
abbrev b31J5 (N1 : Sl → Sl → Option Addr → PH → Prop) (N2 : Int → Int → PH → Prop) (p_0 : Sl) (q_1 : Sl) (v35a_ : Addr) (v37a_ : Addr) (b10 : Nat) (now_11 : Sl) (out_17_1 : Sl) (d18a_ : Addr) (v_86 : Int) (R : VP) (E : En) (F : PH) : Prop := ∃ least_19_2 : Int, E 0 = (Sl.v p_0) ∧ E 1 = (Sl.v q_1) ∧ E 8 = (.pointer (some v35a_)) ∧ E 9 = (.pointer (some v37a_)) ∧ E 10 = (.pointer (some (Addr.mk b10 0 none))) ∧ E 11 = (Sl.v now_11) ∧ E 17 = (Sl.v out_17_1) ∧ E 18 = (.pointer (some d18a_)) ∧ E 19 = (.int .i64 least_19_2) ∧ E 84 = (Sl.v now_11) ∧ E 85 = (.int .i64 (now_11.len : Int)) ∧ E 86 = (.int .i64 v_86) ∧ b31j5 N1 N2 p_0 q_1 v35a_ v37a_ b10 now_11 out_17_1 d18a_ v_86 least_19_2 R F
def b31j6 (N1 : Sl → Sl → Option Addr → PH → Prop) (N2 : Int → Int → PH → Prop) (p_0 : Sl) (q_1 : Sl) (v35a_ : Addr) (v37a_ : Addr) (b10 : Nat) (now_11 : Sl) (out_17_1 : Sl) (d18a_ : Addr) (least_19_1 : Int) (b21 : Nat) (v_86 : Int) (v_101 : Bool) (R : VP) (F : PH) :=
 ((v_101 = true →
  ∃ v_105 : Int, F.cell (Addr.mk b21 0 none) = some (.int .i64 v_105) ∧
  ∃ a106_ : Addr, p_0.base = some a106_ ∧ 0 ≤ v_105 ∧ v_105 < (p_0.len : Int) ∧
  ∃ v_108 : Int, F.cell (Addr.add (Addr.add a106_ (Int.toNat v_105 * 5)) 1) = some (.int .i64 v_108) ∧
  ∃ v_111 : Int, F.cell (Addr.mk b21 1 none) = some (.int .i64 v_111) ∧
  ∃ a112_ : Addr, q_1.base = some a112_ ∧ 0 ≤ v_111 ∧ v_111 < (q_1.len : Int) ∧
  ∃ v_114 : Int, F.cell (Addr.add (Addr.add a112_ (Int.toNat v_111 * 5)) 1) = some (.int .i64 v_114) ∧
  b31j5 N1 N2 p_0 q_1 v35a_ v37a_ b10 now_11 out_17_1 d18a_ v_86 (min least_19_1 (max v_108 v_114)) R F) ∧
 (v_101 = false →
  b31j5 N1 N2 p_0 q_1 v35a_ v37a_ b10 now_11 out_17_1 d18a_ v_86 least_19_1 R F))
abbrev b31J6 (N1 : Sl → Sl → Option Addr → PH → Prop) (N2 : Int → Int → PH → Prop) (p_0 : Sl) (q_1 : Sl) (v35a_ : Addr) (v37a_ : Addr) (b10 : Nat) (now_11 : Sl) (out_17_1 : Sl) (d18a_ : Addr) (least_19_1 : Int) (b21 : Nat) (v_86 : Int) (R : VP) (E : En) (F : PH) : Prop := ∃ v_101 : Bool, E 0 = (Sl.v p_0) ∧ E 1 = (Sl.v q_1) ∧ E 8 = (.pointer (some v35a_)) ∧ E 9 = (.pointer (some v37a_)) ∧ E 10 = (.pointer (some (Addr.mk b10 0 none))) ∧ E 11 = (Sl.v now_11) ∧ E 17 = (Sl.v out_17_1) ∧ E 18 = (.pointer (some d18a_)) ∧ E 19 = (.int .i64 least_19_1) ∧ E 21 = (.pointer (some (Addr.mk b21 0 none))) ∧ E 84 = (Sl.v now_11) ∧ E 85 = (.int .i64 (now_11.len : Int)) ∧ E 86 = (.int .i64 v_86) ∧ E 101 = (.bool v_101) ∧ b31j6 N1 N2 p_0 q_1 v35a_ v37a_ b10 now_11 out_17_1 d18a_ least_19_1 b21 v_86 v_101 R F
def b31L2 (N1 : Sl → Sl → Option Addr → PH → Prop) (N2 : Int → Int → PH → Prop) (p_0 : Sl) (q_1 : Sl) (v35a_ : Addr) (v37a_ : Addr) (b10 : Nat) (now_11 : Sl) (out_17_1 : Sl) (d18a_ : Addr) (R : VP) (least_19_1 : Int) (v_86 : Int) (F : PH) :=
 ((v_86 < (now_11.len : Int) →
  ∃ a88_ : Addr, now_11.base = some a88_ ∧ 0 ≤ v_86 ∧ v_86 < (now_11.len : Int) ∧
  ∃ v_89 : Array Value, v_89.size = 2 ∧ F.row (Addr.add a88_ (Int.toNat v_86 * 2)) v_89 ∧
  ∀ b21, F b21 = none → atF (F.set b21 (.cells (#[.int .i64 0, .int .i64 0]) 92)) fun F =>
  v_89.size = 2 ∧ (∀ v ∈ v_89.toList, storable v) ∧ ∃ c e, F (Addr.mk b21 0 none).block = some (.cells c e (0, 0)) ∧ (Addr.mk b21 0 none).spot = none ∧ (Addr.mk b21 0 none).off + 2 ≤ c.size ∧
  atF (F.set (Addr.mk b21 0 none).block (.cells (wr c (Addr.mk b21 0 none).off v_89.toList) e)) fun F =>
  ∃ v_91 : Option Nat, F.cell (Addr.mk b10 0 none) = some (.map v_91) ∧
  ∃ v_92 : Array Value, v_92.size = 2 ∧ F.row (Addr.mk b21 0 none) v_92 ∧
  ∃ (v_93 : Int) (ok93_ : Bool), rdo prog (Instr.lookup 87 (.map v_91) (.agg v_92) true) F (.tuple #[(.int .i64 v_93), (.bool ok93_)]) ∧
  ((ok93_ = true →
   ∃ v_99 : Int, F.cell d18a_ = some (.int .i64 v_99) ∧
   b31j6 N1 N2 p_0 q_1 v35a_ v37a_ b10 now_11 out_17_1 d18a_ least_19_1 b21 v_86 (decide (v_93 = v_99)) R F) ∧
  (ok93_ = false →
   b31j6 N1 N2 p_0 q_1 v35a_ v37a_ b10 now_11 out_17_1 d18a_ least_19_1 b21 v_86 false R F))) ∧
 (¬ (v_86 < (now_11.len : Int)) →
  b31j4 N1 p_0 q_1 v35a_ v37a_ b10 now_11 out_17_1 d18a_ least_19_1 R F))
def b31L1 (N1 : Sl → Sl → Option Addr → PH → Prop) (p_0 : Sl) (q_1 : Sl) (v35a_ : Addr) (v37a_ : Addr) (b10 : Nat) (R : VP) (now_11 : Sl) (out_17_1 : Sl) (d_18 : Option Addr) (F : PH) :=
 ∃ d18a_ : Addr, d_18 = some d18a_ ∧ ∃ v_80 : Int, F.cell d18a_ = some (.int .i64 v_80) ∧
 ((0 ≤ v_80 →
  (∃ (I2 : Nat → Int → Int → PH → Prop) (m2 : Nat), I2 m2 256 0 F ∧ ∀ m2 least_19_1 v_86 F, I2 m2 least_19_1 v_86 F →
   b31L2 N1 (nx2 I2 m2) p_0 q_1 v35a_ v37a_ b10 now_11 out_17_1 d18a_ R least_19_1 v_86 F)) ∧
 (¬ (0 ≤ v_80) →
  b31j2 out_17_1 R F))
def b31j1 (p_0 : Sl) (q_1 : Sl) (v35a_ : Addr) (v37a_ : Addr) (b10 : Nat) (v_51 : Sl) (best_12 : Int) (R : VP) (F : PH) :=
 ((best_12 < 0 →
  R (.tuple #[(.string (ByteArray.mk #[])), (.int .i64 3)]) F) ∧
 (¬ (best_12 < 0) →
  ∀ b78, F b78 = none → atF (F.set b78 (.cells #[] 5)) fun F =>
  ∀ b18, F b18 = none → atF (F.set b18 (.cells (#[.int .i64 0]) 3)) fun F =>
  ∃ c e, F (Addr.mk b18 0 none).block = some (.cells c e (0, 0)) ∧ (Addr.mk b18 0 none).spot = none ∧ (Addr.mk b18 0 none).off < c.size ∧
  atF (F.set (Addr.mk b18 0 none).block (.cells (c.setIfInBounds (Addr.mk b18 0 none).off (.int .i64 best_12)) e)) fun F =>
  (∃ (I1 : Nat → Sl → Sl → Option Addr → PH → Prop) (m1 : Nat), I1 m1 v_51 (Sl.mk (some (Addr.mk b78 0 none)) 0 0) (some (Addr.mk b18 0 none)) F ∧ ∀ m1 now_11 out_17_1 d_18 F, I1 m1 now_11 out_17_1 d_18 F →
   b31L1 (nx3 I1 m1) p_0 q_1 v35a_ v37a_ b10 R now_11 out_17_1 d_18 F)))
abbrev b31J1 (p_0 : Sl) (q_1 : Sl) (v35a_ : Addr) (v37a_ : Addr) (b10 : Nat) (v_51 : Sl) (R : VP) (E : En) (F : PH) : Prop := ∃ best_12 : Int, E 0 = (Sl.v p_0) ∧ E 1 = (Sl.v q_1) ∧ E 8 = (.pointer (some v35a_)) ∧ E 9 = (.pointer (some v37a_)) ∧ E 10 = (.pointer (some (Addr.mk b10 0 none))) ∧ E 11 = (Sl.v v_51) ∧ E 12 = (.int .i64 best_12) ∧ b31j1 p_0 q_1 v35a_ v37a_ b10 v_51 best_12 R F
def b31j7 (N3 : Int → Int → PH → Prop) (p_0 : Sl) (q_1 : Sl) (v35a_ : Addr) (v37a_ : Addr) (b10 : Nat) (v_51 : Sl) (v_54 : Int) (best_12_2 : Int) (R : VP) (F : PH) :=
 N3 best_12_2 (IntKind.i64.wrap (v_54 + 1)) F
abbrev b31J7 (N3 : Int → Int → PH → Prop) (p_0 : Sl) (q_1 : Sl) (v35a_ : Addr) (v37a_ : Addr) (b10 : Nat) (v_51 : Sl) (v_54 : Int) (R : VP) (E : En) (F : PH) : Prop := ∃ best_12_2 : Int, E 0 = (Sl.v p_0) ∧ E 1 = (Sl.v q_1) ∧ E 8 = (.pointer (some v35a_)) ∧ E 9 = (.pointer (some v37a_)) ∧ E 10 = (.pointer (some (Addr.mk b10 0 none))) ∧ E 11 = (Sl.v v_51) ∧ E 12 = (.int .i64 best_12_2) ∧ E 52 = (Sl.v v_51) ∧ E 53 = (.int .i64 (v_51.len : Int)) ∧ E 54 = (.int .i64 v_54) ∧ b31j7 N3 p_0 q_1 v35a_ v37a_ b10 v_51 v_54 best_12_2 R F
def b31L3 (N3 : Int → Int → PH → Prop) (p_0 : Sl) (q_1 : Sl) (v35a_ : Addr) (v37a_ : Addr) (b10 : Nat) (v_51 : Sl) (R : VP) (best_12_1 : Int) (v_54 : Int) (F : PH) :=
 ((v_54 < (v_51.len : Int) →
  ∃ a56_ : Addr, v_51.base = some a56_ ∧ 0 ≤ v_54 ∧ v_54 < (v_51.len : Int) ∧
  ∃ v_57 : Array Value, v_57.size = 2 ∧ F.row (Addr.add a56_ (Int.toNat v_54 * 2)) v_57 ∧
  ∀ b14, F b14 = none → atF (F.set b14 (.cells (#[.int .i64 0, .int .i64 0]) 92)) fun F =>
  v_57.size = 2 ∧ (∀ v ∈ v_57.toList, storable v) ∧ ∃ c e, F (Addr.mk b14 0 none).block = some (.cells c e (0, 0)) ∧ (Addr.mk b14 0 none).spot = none ∧ (Addr.mk b14 0 none).off + 2 ≤ c.size ∧
  atF (F.set (Addr.mk b14 0 none).block (.cells (wr c (Addr.mk b14 0 none).off v_57.toList) e)) fun F =>
  ∃ v_59 : Option Nat, F.cell (Addr.mk b10 0 none) = some (.map v_59) ∧
  ∃ v_60 : Array Value, v_60.size = 2 ∧ F.row (Addr.mk b14 0 none) v_60 ∧
  ∃ (v_61 : Int) (ok61_ : Bool), rdo prog (Instr.lookup 87 (.map v_59) (.agg v_60) true) F (.tuple #[(.int .i64 v_61), (.bool ok61_)]) ∧
  ((ok61_ = true →
   ((best_12_1 < 0 →
    b31j7 N3 p_0 q_1 v35a_ v37a_ b10 v_51 v_54 v_61 R F) ∧
   (¬ (best_12_1 < 0) →
    ((v_61 < best_12_1 →
     b31j7 N3 p_0 q_1 v35a_ v37a_ b10 v_51 v_54 v_61 R F) ∧
    (¬ (v_61 < best_12_1) →
     b31j7 N3 p_0 q_1 v35a_ v37a_ b10 v_51 v_54 best_12_1 R F))))) ∧
  (ok61_ = false →
   b31j7 N3 p_0 q_1 v35a_ v37a_ b10 v_51 v_54 best_12_1 R F))) ∧
 (¬ (v_54 < (v_51.len : Int)) →
  b31j1 p_0 q_1 v35a_ v37a_ b10 v_51 best_12_1 R F))
def b31 (p_0 : Sl) (q_1 : Sl) (R : VP) (F : PH) :=
 Spec prog 21 #[(Sl.v p_0)] F fun v F => ∃ v_25 : Int, v = (.int .i64 v_25) ∧
 ((v_25 ≠ 0 →
  R (.tuple #[(.string (ByteArray.mk #[])), (.int .i64 v_25)]) F) ∧
 (¬ (v_25 ≠ 0) →
  Spec prog 21 #[(Sl.v q_1)] F fun v F => ∃ v_30 : Int, v = (.int .i64 v_30) ∧
  ((v_30 ≠ 0 →
   R (.tuple #[(.string (ByteArray.mk #[])), (.int .i64 v_30)]) F) ∧
  (¬ (v_30 ≠ 0) →
   Spec prog 42 #[(Sl.v p_0)] F fun v F => ∃ v_35 : Option Addr, v = (.pointer v_35) ∧
   Spec prog 42 #[(Sl.v q_1)] F fun v F => ∃ v_37 : Option Addr, v = (.pointer v_37) ∧
   Spec prog 57 #[(.pointer v_35), (.pointer v_37)] F fun v F => ∃ v_40 : Option Nat, v = (.map v_40) ∧
   ∀ b10, F b10 = none → atF (F.set b10 (.cells (#[.map none]) 87)) fun F =>
   ∃ c e, F (Addr.mk b10 0 none).block = some (.cells c e (0, 0)) ∧ (Addr.mk b10 0 none).spot = none ∧ (Addr.mk b10 0 none).off < c.size ∧
   atF (F.set (Addr.mk b10 0 none).block (.cells (c.setIfInBounds (Addr.mk b10 0 none).off (.map v_40)) e)) fun F =>
   ∃ v35a_ : Addr, v_35 = some v35a_ ∧ ∃ v_46 : Array Value, v_46.size = 8 ∧ F.row (Addr.add v35a_ 1) v_46 ∧
   ∃ v37a_ : Addr, v_37 = some v37a_ ∧ ∃ v_50 : Array Value, v_50.size = 8 ∧ F.row (Addr.add v37a_ 1) v_50 ∧
   Spec prog 58 #[(.pointer (some v35a_)), (.pointer (some v37a_)), (.agg v_46), (.agg v_50)] F fun v F => ∃ v_51 : Sl, v = (Sl.v v_51) ∧
   (∃ (I3 : Nat → Int → Int → PH → Prop) (m3 : Nat), I3 m3 (-1 : Int) 0 F ∧ ∀ m3 best_12_1 v_54 F, I3 m3 best_12_1 v_54 F →
    b31L3 (nx2 I3 m3) p_0 q_1 v35a_ v37a_ b10 v_51 R best_12_1 v_54 F)))))
theorem c31 {p_0 : Sl} {q_1 : Sl} {R : VP} {F : PH} (h : b31 p_0 q_1 R F) : Spec prog 31 #[(Sl.v p_0), (Sl.v q_1)] F R := by
 refine spec_of (args := [(Sl.v p_0), (Sl.v q_1)]) func31 rfl ntmps31 rfl ?_
 unfold b31 at h
 refine cR (sR (.string (ByteArray.mk #[])) (r_assign rfl rfl) ?_)
 refine sR (.int .i64 0) (r_assign rfl rfl) ?_
 refine HL_nil ?_
 refine HC_seq ?_
 refine cR (sR (Sl.v p_0) (r_move rfl rfl) ?_)
 refine s_ef (k_call (vs := [(Sl.v p_0)]) cb21 (evC rfl evN) (h.mono ?_))
 clear h; rintro v F ⟨v_25, rfl, h⟩
 refine sR (.int .i64 v_25) (r_assign rfl rfl) ?_
 refine HL_nil ?_
 refine cR (sR (.int .i64 v_25) (r_move rfl rfl) ?_)
 refine sR (.bool (decide (v_25 ≠ 0))) (w_neq rfl rfl) ?_
 refine HL_nil ?_
 refine HC_cond (t := (decide (v_25 ≠ 0))) rfl (fun hc => ?_) (fun hc => ?_)
 replace h := h.1 (of_decide_eq_true hc)
 clear hc
 refine cR (sR (.int .i64 v_25) (r_move rfl rfl) ?_)
 refine sR (.string (ByteArray.mk #[])) (r_assign rfl rfl) ?_
 refine sR (.int .i64 v_25) (r_assign rfl rfl) ?_
 exact HL_nil (HC_ret (rt2 f31 R rfl rfl rfl h))
 replace h := h.2 (of_decide_eq_false hc)
 clear hc
 refine HC_skip ?_
 refine HC_seq ?_
 refine cR (sR (Sl.v q_1) (r_move rfl rfl) ?_)
 refine s_ef (k_call (vs := [(Sl.v q_1)]) cb21 (evC rfl evN) (h.mono ?_))
 clear h; rintro v F ⟨v_30, rfl, h⟩
 refine sR (.int .i64 v_30) (r_assign rfl rfl) ?_
 refine HL_nil ?_
 refine cR (sR (.int .i64 v_30) (r_move rfl rfl) ?_)
 refine sR (.bool (decide (v_30 ≠ 0))) (w_neq rfl rfl) ?_
 refine HL_nil ?_
 refine HC_cond (t := (decide (v_30 ≠ 0))) rfl (fun hc => ?_) (fun hc => ?_)
 replace h := h.1 (of_decide_eq_true hc)
 clear hc
 refine cR (sR (.int .i64 v_30) (r_move rfl rfl) ?_)
 refine sR (.string (ByteArray.mk #[])) (r_assign rfl rfl) ?_
 refine sR (.int .i64 v_30) (r_assign rfl rfl) ?_
 exact HL_nil (HC_ret (rt2 f31 R rfl rfl rfl h))
 replace h := h.2 (of_decide_eq_false hc)
 clear hc
 refine HC_skip ?_
 refine cR (sR (Sl.v p_0) (r_move rfl rfl) ?_)
 refine s_ef (k_call (vs := [(Sl.v p_0)]) cb42 (evC rfl evN) (h.mono ?_))
 clear h; rintro v F ⟨v_35, rfl, h⟩
 refine sR (Sl.v q_1) (r_move rfl rfl) ?_
 refine s_ef (k_call (vs := [(Sl.v q_1)]) cb42 (evC rfl evN) (h.mono ?_))
 clear h; rintro v F ⟨v_37, rfl, h⟩
 refine sR (.pointer v_35) (r_assign rfl rfl) ?_
 refine sR (.pointer v_37) (r_assign rfl rfl) ?_
 refine HL_nil ?_
 refine cR (sR (.pointer v_35) (r_move rfl rfl) ?_)
 refine sR (.pointer v_37) (r_move rfl rfl) ?_
 refine s_ef (k_call (vs := [(.pointer v_35), (.pointer v_37)]) cb57 (evC rfl (evC rfl evN)) (h.mono ?_))
 clear h; rintro v F ⟨v_40, rfl, h⟩
 refine s_ef (k_alloc zr87 ?_)
 intro b10 hf_b10
 replace h := atE (h b10 hf_b10)
 refine s_ef0 (k_store1 (v := (.map v_40)) rfl rfl sz87 rfl st_map ?_)
 obtain ⟨c, e, hz3, hz4, hz5, h⟩ := h
 refine ⟨c, e, hz3, hz4, hz5, ?_⟩
 replace h := atE h
 refine HL_nil ?_
 refine HC_seq ?_
 refine HC_draw0 (by kernel_rfl) (fun hp => ?_)
 refine gU 0 (.pointer v_35) rfl (fun _ => r_move rfl rfl) hp ?_
 refine gU 1 (.pointer v_37) rfl (fun _ => r_move rfl rfl) hp ?_
 refine gU 2 (.pointer v_35) rfl (fun _ => r_move rfl rfl) hp ?_
 obtain ⟨v35a_, rfl, h⟩ := h
 refine gU 3 (.pointer (some v35a_)) rfl (fun _ => r_nilCheck rfl rfl) hp ?_
 refine gU 4 (.pointer (some (Addr.add v35a_ 1))) rfl (fun _ => w_fieldAddr rfl underlying79 rfl rfl sz76 rfl rfl) hp ?_
 obtain ⟨v_46, hs46, hc46, h⟩ := h
 refine gR 5 (.agg v_46) rfl (w_loadN rfl underlying76 rfl sz76 hs46 hc46) hp (fun S5 q5 => ?_)
 replace hp := holdC (i := 5) (q5 _ (w_loadN rfl underlying76 rfl sz76 hs46 hc46)) hp
 refine gU 6 (.pointer v_37) rfl (fun _ => r_move rfl rfl) hp ?_
 obtain ⟨v37a_, rfl, h⟩ := h
 refine gU 7 (.pointer (some v37a_)) rfl (fun _ => r_nilCheck rfl rfl) hp ?_
 refine gU 8 (.pointer (some (Addr.add v37a_ 1))) rfl (fun _ => w_fieldAddr rfl underlying79 rfl rfl sz76 rfl rfl) hp ?_
 obtain ⟨v_50, hs50, hc50, h⟩ := h
 refine gR 9 (.agg v_50) rfl (w_loadN rfl underlying76 rfl sz76 hs50 hc50) hp (fun S9 q9 => ?_)
 replace hp := holdC (i := 9) (q9 _ (w_loadN rfl underlying76 rfl sz76 hs50 hc50)) hp
 refine RG_eff1 (i := 10) (by kernel_rfl) (g_op (Sp' := []) rfl rfl (k_call (vs := [(.pointer (some v35a_)), (.pointer (some v37a_)), (.agg v_46), (.agg v_50)]) cb58 (evC rfl (evC rfl (evC rfl (evC rfl evN)))) (h.mono ?_)))
 clear h; rintro v F ⟨v_51, rfl, h⟩
 refine holdI hold0 (fun hp => ?_)
 refine gU 11 (Sl.v v_51) rfl (fun _ => r_assign rfl rfl) hp ?_
 refine RG_done (by kernel_rfl) ?_
 refine cR (sR (.int .i64 (-1 : Int)) (r_assign rfl rfl) ?_)
 refine HL_nil ?_
 refine HC_seqJ (b31J1 p_0 q_1 v35a_ v37a_ b10 v_51 R) ?_ ?_
 clear h; rintro E F ⟨best_12, h0, h1, h8, h9, h10, h11, h12, h⟩
 unfold b31j1 at h
 refine HC_seq ?_
 refine cR (sR _ (r_move rfl h12) ?_)
 refine sR (.bool (decide (best_12 < 0))) (r_lss rfl rfl rfl) ?_
 refine HL_nil ?_
 refine HC_cond (t := (decide (best_12 < 0))) rfl (fun hc => ?_) (fun hc => ?_)
 replace h := h.1 (of_decide_eq_true hc)
 clear hc
 refine cR (sR (.string (ByteArray.mk #[])) (r_assign rfl rfl) ?_)
 refine sR (.int .i64 3) (r_assign rfl rfl) ?_
 exact HL_nil (HC_ret (rt2 f31 R rfl rfl rfl h))
 replace h := h.2 (of_decide_eq_false hc)
 clear hc
 refine HC_skip ?_
 refine cR ?_
 refine s_ef (k_buildSeq (l := []) underlying22 sz5 (by decide) zr5 rfl rfl trivial evPN ?_)
 intro b78 hf_b78
 replace h := atE (h b78 hf_b78)
 refine sR (Sl.v (Sl.mk (some (Addr.mk b78 0 none)) 0 0)) (r_assign rfl rfl) ?_
 refine HL_nil ?_
 refine HC_seqJ (b31J2 R) ?_ ?_
 clear h; rintro E F ⟨out_17, h17, h⟩
 unfold b31j2 at h
 refine cR (sR _ (r_move rfl h17) ?_)
 obtain ⟨v_131, hc131, h⟩ := h
 refine sR (.string v_131) (r_convBS rfl rfl underlying22 underlying9 underlying5 ⟨_, _, _, rfl⟩ hc131) ?_
 refine sR (.string v_131) (r_assign rfl rfl) ?_
 refine sR (.int .i64 0) (r_assign rfl rfl) ?_
 exact HL_nil (HC_ret (rt2 f31 R rfl rfl rfl h))
 refine cR (sR _ (r_move rfl h12) ?_)
 refine s_ef (k_alloc zr3 ?_)
 intro b18 hf_b18
 replace h := atE (h b18 hf_b18)
 refine s_ef0 (k_store1 (v := (.int .i64 best_12)) rfl rfl sz3 rfl st_int ?_)
 obtain ⟨c, e, hz3, hz4, hz5, h⟩ := h
 refine ⟨c, e, hz3, hz4, hz5, ?_⟩
 replace h := atE h
 refine HL_nil ?_
 refine HC_block ?_
 obtain ⟨I1, m1, hI0, hr⟩ := h
 refine HC_loop (fun m1 E F => ∃ now_11 : Sl, ∃ out_17_1 : Sl, ∃ d_18 : Option Addr, E 0 = (Sl.v p_0) ∧ E 1 = (Sl.v q_1) ∧ E 8 = (.pointer (some v35a_)) ∧ E 9 = (.pointer (some v37a_)) ∧ E 10 = (.pointer (some (Addr.mk b10 0 none))) ∧ E 11 = (Sl.v now_11) ∧ E 17 = (Sl.v out_17_1) ∧ E 18 = (.pointer d_18) ∧ I1 m1 now_11 out_17_1 d_18 F) m1 ⟨_, _, _, h0, h1, h8, h9, h10, h11, rfl, rfl, hI0⟩ ?_
 clear hI0; rintro m1 E F ⟨now_11, out_17_1, d_18, h0, h1, h8, h9, h10, h11, h17, h18, hI⟩
 have h := hr m1 now_11 out_17_1 d_18 F hI
 clear hr hI
 unfold b31L1 at h
 refine HC_seq ?_
 refine cR ?_
 obtain ⟨d18a_, rfl, h⟩ := h
 obtain ⟨v_80, hc80, h⟩ := h
 refine sR (.int .i64 v_80) (r_load1 rfl h18 underlying3 rfl hc80) ?_
 refine sR (.bool (decide (0 ≤ v_80))) (r_geq rfl rfl rfl) ?_
 refine HL_nil ?_
 refine HC_cond (t := (decide (0 ≤ v_80))) rfl (fun hc => ?_) (fun hc => ?_)
 replace h := h.1 (of_decide_eq_true hc)
 clear hc
 refine HC_skip ?_
 refine HC_seqJ (b31J3 (nx3 I1 m1) p_0 q_1 v35a_ v37a_ b10 d18a_ R) ?_ ?_
 clear h; rintro E F ⟨now_11_1, out_17_2, h0, h1, h8, h9, h10, h11, h17, h18, h⟩
 unfold b31j3 at h
 refine HC_seq ?_
 refine cR ?_
 obtain ⟨v_129, hc129, h⟩ := h
 refine sR (.int .i64 v_129) (r_load1 rfl h18 underlying3 rfl hc129) ?_
 refine HL_nil ?_
 refine HC_region ?_
 refine s_ef (k_alloc zr3 ?_)
 intro b18_1 hf_b18_1
 replace h := atE (h b18_1 hf_b18_1)
 refine s_ef0 (k_store1 (v := (.int .i64 v_129)) rfl rfl sz3 rfl st_int ?_)
 obtain ⟨c, e, hz3, hz4, hz5, h⟩ := h
 refine ⟨c, e, hz3, hz4, hz5, ?_⟩
 replace h := atE h
 refine HL_nil ?_
 refine HC_region ?_
 obtain ⟨v_82, hc82, h⟩ := h
 refine sR (.int .i64 v_82) (r_load1 rfl rfl underlying3 rfl hc82) ?_
 refine sR (.int .i64 (IntKind.i64.wrap (v_82 - 1))) (r_sub rfl rfl rfl) ?_
 refine s_ef0 (k_store1 (v := (.int .i64 (IntKind.i64.wrap (v_82 - 1)))) rfl rfl sz3 rfl st_int ?_)
 obtain ⟨c, e, hz3, hz4, hz5, h⟩ := h
 refine ⟨c, e, hz3, hz4, hz5, ?_⟩
 replace h := atE h
 refine HL_nil ?_
 obtain ⟨m', hm, h⟩ := h
 exact ⟨m', hm, _, _, _, h0, h1, h8, h9, h10, h11, h17, rfl, h⟩
 refine HC_block ?_
 refine cR (sR (.int .i64 256) (r_assign rfl rfl) ?_)
 refine HL_nil ?_
 refine HC_seqJ (b31J4 (nx3 I1 m1) p_0 q_1 v35a_ v37a_ b10 now_11 out_17_1 d18a_ R) ?_ ?_
 clear h; rintro E F ⟨least_19, h0, h1, h8, h9, h10, h11, h17, h18, h19, h⟩
 unfold b31j4 at h
 refine cR (sR _ (r_move rfl h17) ?_)
 refine sR _ (r_move rfl h19) ?_
 refine sR (.int .u8 (IntKind.u8.wrap least_19)) (r_convInt rfl rfl underlying3 underlying5) ?_
 refine s_ef (k_buildSeq (l := [(.int .u8 (IntKind.u8.wrap least_19))]) underlying22 sz5 (by decide) zr5 rfl rfl ⟨rfl, trivial⟩ (evPC rfl evPN) ?_)
 intro b121 hf_b121
 replace h := atE (h b121 hf_b121)
 refine s_ef (k_append rfl rfl (runs_mono _ _ h ?_))
 clear h; rintro v F ⟨v_122, rfl, h⟩
 refine sR (Sl.v v_122) (r_assign rfl rfl) ?_
 refine HL_nil ?_
 refine HC_region ?_
 refine sR _ (r_move rfl h8) ?_
 refine sR _ (r_move rfl h9) ?_
 refine sR _ (r_move rfl h11) ?_
 refine sR _ (r_move rfl h19) ?_
 refine sR (.func (.func 60) #[] #[(.pointer (some (Addr.mk b10 0 none))), (.pointer (some d18a_))]) (w_makeFunc evN (evC h10 (evC h18 evN))) ?_
 refine s_ef (k_call (vs := [(.pointer (some v35a_)), (.pointer (some v37a_)), (Sl.v now_11), (.int .i64 least_19), (.func (.func 60) #[] #[(.pointer (some (Addr.mk b10 0 none))), (.pointer (some d18a_))])]) cb59 (evC rfl (evC rfl (evC rfl (evC rfl (evC rfl evN))))) (h.mono ?_))
 clear h; rintro v F ⟨v_128, rfl, h⟩
 refine sR (Sl.v v_128) (r_assign rfl rfl) ?_
 refine HL_nil ?_
 show b31J3 (nx3 I1 m1) p_0 q_1 v35a_ v37a_ b10 d18a_ R _ _
 exact ⟨_, _, h0, h1, h8, h9, h10, rfl, rfl, h18, h⟩
 refine cR (sR _ (r_move rfl h11) ?_)
 refine sR (.int .i64 (now_11.len : Int)) (r_lenSl rfl rfl underlying89) ?_
 refine sR (.int .i64 0) (r_move rfl rfl) ?_
 refine HL_nil ?_
 refine HC_block ?_
 obtain ⟨I2, m2, hI0, hr⟩ := h
 refine HC_loop (fun m2 E F => ∃ least_19_1 : Int, ∃ v_86 : Int, E 0 = (Sl.v p_0) ∧ E 1 = (Sl.v q_1) ∧ E 8 = (.pointer (some v35a_)) ∧ E 9 = (.pointer (some v37a_)) ∧ E 10 = (.pointer (some (Addr.mk b10 0 none))) ∧ E 11 = (Sl.v now_11) ∧ E 17 = (Sl.v out_17_1) ∧ E 18 = (.pointer (some d18a_)) ∧ E 19 = (.int .i64 least_19_1) ∧ E 84 = (Sl.v now_11) ∧ E 85 = (.int .i64 (now_11.len : Int)) ∧ E 86 = (.int .i64 v_86) ∧ I2 m2 least_19_1 v_86 F) m2 ⟨_, _, h0, h1, h8, h9, h10, h11, h17, h18, rfl, rfl, rfl, rfl, hI0⟩ ?_
 clear hI0; rintro m2 E F ⟨least_19_1, v_86, h0, h1, h8, h9, h10, h11, h17, h18, h19, h84, h85, h86, hI⟩
 have h := hr m2 least_19_1 v_86 F hI
 clear hr hI
 unfold b31L2 at h
 refine cR (sR (.bool (decide (v_86 < (now_11.len : Int)))) (r_lss rfl h86 h85) ?_)
 refine HL_nil ?_
 refine HC_seq ?_
 refine HC_cond (t := (decide (v_86 < (now_11.len : Int)))) rfl (fun hc => ?_) (fun hc => ?_)
 replace h := h.1 (of_decide_eq_true hc)
 clear hc
 refine HC_skip ?_
 refine HC_seqJ (b31J5 (nx3 I1 m1) (nx2 I2 m2) p_0 q_1 v35a_ v37a_ b10 now_11 out_17_1 d18a_ v_86 R) ?_ ?_
 clear h; rintro E F ⟨least_19_2, h0, h1, h8, h9, h10, h11, h17, h18, h19, h84, h85, h86, h⟩
 unfold b31j5 at h
 refine HC_region ?_
 refine sR (.int .i64 (IntKind.i64.wrap (v_86 + 1))) (r_add rfl h86 rfl) ?_
 refine sR (.int .i64 (IntKind.i64.wrap (v_86 + 1))) (r_move rfl rfl) ?_
 refine HL_nil ?_
 obtain ⟨m', hm, h⟩ := h
 exact ⟨m', hm, _, _, h0, h1, h8, h9, h10, h11, h17, h18, h19, h84, h85, rfl, h⟩
 refine HC_block ?_
 refine cR ?_
 obtain ⟨a88_, hb88, hl88, hu88, h⟩ := h
 refine sR (.pointer (some (Addr.add a88_ (Int.toNat v_86 * 2)))) (w_indexAddr h84 h86 underlying89 sz92 hb88 hl88 hu88) ?_
 obtain ⟨v_89, hs89, hc89, h⟩ := h
 refine sR (.agg v_89) (w_loadN rfl underlying92 rfl sz92 hs89 hc89) ?_
 refine s_ef (k_alloc zr92 ?_)
 intro b21 hf_b21
 replace h := atE (h b21 hf_b21)
 refine s_ef0 (k_storeN (vs := v_89) rfl rfl sz92 (by decide) ?_)
 obtain ⟨hz1, hz2, c, e, hz3, hz4, hz5, h⟩ := h
 refine ⟨hz1, hz2, c, e, hz3, hz4, hz5, ?_⟩
 replace h := atE h
 refine HL_nil ?_
 refine cR ?_
 obtain ⟨v_91, hc91, h⟩ := h
 refine sR (.map v_91) (r_load1 rfl h10 underlying87 rfl hc91) ?_
 obtain ⟨v_92, hs92, hc92, h⟩ := h
 refine sR (.agg v_92) (w_loadN rfl underlying92 rfl sz92 hs92 hc92) ?_
 obtain ⟨v_93, ok93_, hc93, h⟩ := h
 refine sR (.tuple #[(.int .i64 v_93), (.bool ok93_)]) (r_lookup rfl rfl rfl hc93) ?_
 refine sR (.tuple #[(.int .i64 v_93), (.bool ok93_)]) (r_move rfl rfl) ?_
 refine sR (.int .i64 v_93) (r_extract rfl rfl rfl) ?_
 refine sR (.bool ok93_) (r_extract rfl rfl rfl) ?_
 refine sR (.int .i64 v_93) (r_assign rfl rfl) ?_
 refine sR (.bool ok93_) (r_assign rfl rfl) ?_
 refine HL_nil ?_
 refine HC_seqJ (b31J6 (nx3 I1 m1) (nx2 I2 m2) p_0 q_1 v35a_ v37a_ b10 now_11 out_17_1 d18a_ least_19_1 b21 v_86 R) ?_ ?_
 clear h; rintro E F ⟨v_101, h0, h1, h8, h9, h10, h11, h17, h18, h19, h21, h84, h85, h86, h101, h⟩
 unfold b31j6 at h
 refine HC_cond (t := v_101) h101 (fun hc => ?_) (fun hc => ?_)
 replace h := h.1 hc
 clear hc
 refine HC_draw0 (by kernel_rfl) (fun hp => ?_)
 refine gU 0 (.int .i64 least_19_1) rfl (fun _ => r_move rfl h19) hp ?_
 refine gU 1 (Sl.v p_0) rfl (fun _ => r_move rfl h0) hp ?_
 refine gU 2 (.pointer (some (Addr.mk b21 0 none))) rfl (fun _ => w_fieldAddr h21 underlying92 rfl rfl sz3 rfl rfl) hp ?_
 obtain ⟨v_105, hc105, h⟩ := h
 refine gR 3 (.int .i64 v_105) rfl (r_load1 rfl rfl underlying3 rfl hc105) hp (fun S3 q3 => ?_)
 replace hp := holdC (i := 3) (q3 _ (r_load1 rfl rfl underlying3 rfl hc105)) hp
 obtain ⟨a106_, hb106, hl106, hu106, h⟩ := h
 refine gU 4 (.pointer (some (Addr.add a106_ (Int.toNat v_105 * 5)))) rfl (fun _ => w_indexAddr rfl rfl underlying25 sz50 hb106 hl106 hu106) hp ?_
 refine gU 5 (.pointer (some (Addr.add (Addr.add a106_ (Int.toNat v_105 * 5)) 1))) rfl (fun _ => w_fieldAddr rfl underlying50 rfl rfl sz3 rfl rfl) hp ?_
 obtain ⟨v_108, hc108, h⟩ := h
 refine gR 6 (.int .i64 v_108) rfl (r_load1 rfl rfl underlying3 rfl hc108) hp (fun S6 q6 => ?_)
 replace hp := holdC (i := 6) (q6 _ (r_load1 rfl rfl underlying3 rfl hc108)) hp
 refine gU 7 (Sl.v q_1) rfl (fun _ => r_move rfl h1) hp ?_
 refine gU 8 (.pointer (some (Addr.mk b21 1 none))) rfl (fun _ => w_fieldAddr h21 underlying92 rfl rfl sz3 rfl rfl) hp ?_
 obtain ⟨v_111, hc111, h⟩ := h
 refine gR 9 (.int .i64 v_111) rfl (r_load1 rfl rfl underlying3 rfl hc111) hp (fun S9 q9 => ?_)
 replace hp := holdC (i := 9) (q9 _ (r_load1 rfl rfl underlying3 rfl hc111)) hp
 obtain ⟨a112_, hb112, hl112, hu112, h⟩ := h
 refine gU 10 (.pointer (some (Addr.add a112_ (Int.toNat v_111 * 5)))) rfl (fun _ => w_indexAddr rfl rfl underlying25 sz50 hb112 hl112 hu112) hp ?_
 refine gU 11 (.pointer (some (Addr.add (Addr.add a112_ (Int.toNat v_111 * 5)) 1))) rfl (fun _ => w_fieldAddr rfl underlying50 rfl rfl sz3 rfl rfl) hp ?_
 obtain ⟨v_114, hc114, h⟩ := h
 refine gR 12 (.int .i64 v_114) rfl (r_load1 rfl rfl underlying3 rfl hc114) hp (fun S12 q12 => ?_)
 replace hp := holdC (i := 12) (q12 _ (r_load1 rfl rfl underlying3 rfl hc114)) hp
 refine gU 13 (.int .i64 (max v_108 v_114)) rfl (fun _ => r_max2 rfl rfl rfl) hp ?_
 refine gU 14 (.int .i64 (min least_19_1 (max v_108 v_114))) rfl (fun _ => r_min2 rfl rfl rfl) hp ?_
 refine gU 15 (.int .i64 (min least_19_1 (max v_108 v_114))) rfl (fun _ => r_assign rfl rfl) hp ?_
 refine RG_done (by kernel_rfl) ?_
 show b31J5 (nx3 I1 m1) (nx2 I2 m2) p_0 q_1 v35a_ v37a_ b10 now_11 out_17_1 d18a_ v_86 R _ _
 exact ⟨_, h0, h1, h8, h9, h10, h11, h17, h18, rfl, h84, h85, h86, h⟩
 replace h := h.2 hc
 clear hc
 refine HC_skip ?_
 show b31J5 (nx3 I1 m1) (nx2 I2 m2) p_0 q_1 v35a_ v37a_ b10 now_11 out_17_1 d18a_ v_86 R _ _
 exact ⟨_, h0, h1, h8, h9, h10, h11, h17, h18, h19, h84, h85, h86, h⟩
 refine HC_region ?_
 refine sR (.bool ok93_) (r_move rfl rfl) ?_
 refine sR (.bool ok93_) (r_move rfl rfl) ?_
 by_cases hc : ok93_ = true
 replace h := h.1 hc
 refine kN 95 hc ?_
 refine kN 23 hc ?_
 refine kN 96 hc ?_
 refine kN 97 hc ?_
 refine sR (.int .i64 v_93) (r_move rfl rfl) ?_
 obtain ⟨v_99, hc99, h⟩ := h
 refine sR (.int .i64 v_99) (r_load1 rfl h18 underlying3 rfl hc99) ?_
 refine sR (.bool (decide (v_93 = v_99))) (w_eql rfl rfl) ?_
 refine sR (.bool (decide (v_93 = v_99))) (r_pt rfl rfl) ?_
 refine HL_nil ?_
 show b31J6 (nx3 I1 m1) (nx2 I2 m2) p_0 q_1 v35a_ v37a_ b10 now_11 out_17_1 d18a_ least_19_1 b21 v_86 R _ _
 exact ⟨_, h0, h1, h8, h9, h10, h11, h17, h18, h19, rfl, h84, h85, h86, rfl, h⟩
 replace hc := eq_false_of_ne_true hc; replace h := h.2 hc
 refine kN 95 hc ?_
 refine kN 23 hc ?_
 refine kN 96 hc ?_
 refine kN 97 hc ?_
 iterate 3 refine s_skip ?_
 refine sR (.bool false) (r_pf rfl rfl) ?_
 refine HL_nil ?_
 show b31J6 (nx3 I1 m1) (nx2 I2 m2) p_0 q_1 v35a_ v37a_ b10 now_11 out_17_1 d18a_ least_19_1 b21 v_86 R _ _
 exact ⟨_, h0, h1, h8, h9, h10, h11, h17, h18, h19, rfl, h84, h85, h86, rfl, h⟩
 replace h := h.2 (of_decide_eq_false hc)
 clear hc
 refine HC_exit ?_
 show b31J4 (nx3 I1 m1) p_0 q_1 v35a_ v37a_ b10 now_11 out_17_1 d18a_ R _ _
 exact ⟨_, h0, h1, h8, h9, h10, h11, h17, h18, h19, h⟩
 replace h := h.2 (of_decide_eq_false hc)
 clear hc
 refine HC_exit ?_
 show b31J2 R _ _
 exact ⟨_, h17, h⟩
 refine cR (sR (Sl.v v_51) (r_move rfl rfl) ?_)
 refine sR (.int .i64 (v_51.len : Int)) (r_lenSl rfl rfl underlying89) ?_
 refine sR (.int .i64 0) (r_move rfl rfl) ?_
 refine HL_nil ?_
 refine HC_block ?_
 obtain ⟨I3, m3, hI0, hr⟩ := h
 refine HC_loop (fun m3 E F => ∃ best_12_1 : Int, ∃ v_54 : Int, E 0 = (Sl.v p_0) ∧ E 1 = (Sl.v q_1) ∧ E 8 = (.pointer (some v35a_)) ∧ E 9 = (.pointer (some v37a_)) ∧ E 10 = (.pointer (some (Addr.mk b10 0 none))) ∧ E 11 = (Sl.v v_51) ∧ E 12 = (.int .i64 best_12_1) ∧ E 52 = (Sl.v v_51) ∧ E 53 = (.int .i64 (v_51.len : Int)) ∧ E 54 = (.int .i64 v_54) ∧ I3 m3 best_12_1 v_54 F) m3 ⟨_, _, rfl, rfl, rfl, rfl, rfl, rfl, rfl, rfl, rfl, rfl, hI0⟩ ?_
 clear hI0; rintro m3 E F ⟨best_12_1, v_54, h0, h1, h8, h9, h10, h11, h12, h52, h53, h54, hI⟩
 have h := hr m3 best_12_1 v_54 F hI
 clear hr hI
 unfold b31L3 at h
 refine cR (sR (.bool (decide (v_54 < (v_51.len : Int)))) (r_lss rfl h54 h53) ?_)
 refine HL_nil ?_
 refine HC_seq ?_
 refine HC_cond (t := (decide (v_54 < (v_51.len : Int)))) rfl (fun hc => ?_) (fun hc => ?_)
 replace h := h.1 (of_decide_eq_true hc)
 clear hc
 refine HC_skip ?_
 refine HC_seqJ (b31J7 (nx2 I3 m3) p_0 q_1 v35a_ v37a_ b10 v_51 v_54 R) ?_ ?_
 clear h; rintro E F ⟨best_12_2, h0, h1, h8, h9, h10, h11, h12, h52, h53, h54, h⟩
 unfold b31j7 at h
 refine HC_region ?_
 refine sR (.int .i64 (IntKind.i64.wrap (v_54 + 1))) (r_add rfl h54 rfl) ?_
 refine sR (.int .i64 (IntKind.i64.wrap (v_54 + 1))) (r_move rfl rfl) ?_
 refine HL_nil ?_
 obtain ⟨m', hm, h⟩ := h
 exact ⟨m', hm, _, _, h0, h1, h8, h9, h10, h11, h12, h52, h53, rfl, h⟩
 refine HC_block ?_
 refine cR ?_
 obtain ⟨a56_, hb56, hl56, hu56, h⟩ := h
 refine sR (.pointer (some (Addr.add a56_ (Int.toNat v_54 * 2)))) (w_indexAddr h52 h54 underlying89 sz92 hb56 hl56 hu56) ?_
 obtain ⟨v_57, hs57, hc57, h⟩ := h
 refine sR (.agg v_57) (w_loadN rfl underlying92 rfl sz92 hs57 hc57) ?_
 refine s_ef (k_alloc zr92 ?_)
 intro b14 hf_b14
 replace h := atE (h b14 hf_b14)
 refine s_ef0 (k_storeN (vs := v_57) rfl rfl sz92 (by decide) ?_)
 obtain ⟨hz1, hz2, c, e, hz3, hz4, hz5, h⟩ := h
 refine ⟨hz1, hz2, c, e, hz3, hz4, hz5, ?_⟩
 replace h := atE h
 refine HL_nil ?_
 refine cR ?_
 obtain ⟨v_59, hc59, h⟩ := h
 refine sR (.map v_59) (r_load1 rfl h10 underlying87 rfl hc59) ?_
 obtain ⟨v_60, hs60, hc60, h⟩ := h
 refine sR (.agg v_60) (w_loadN rfl underlying92 rfl sz92 hs60 hc60) ?_
 obtain ⟨v_61, ok61_, hc61, h⟩ := h
 refine sR (.tuple #[(.int .i64 v_61), (.bool ok61_)]) (r_lookup rfl rfl rfl hc61) ?_
 refine sR (.tuple #[(.int .i64 v_61), (.bool ok61_)]) (r_move rfl rfl) ?_
 refine sR (.int .i64 v_61) (r_extract rfl rfl rfl) ?_
 refine sR (.bool ok61_) (r_extract rfl rfl rfl) ?_
 refine sR (.int .i64 v_61) (r_assign rfl rfl) ?_
 refine sR (.bool ok61_) (r_assign rfl rfl) ?_
 refine HL_nil ?_
 refine cR (sR (.bool ok61_) (r_move rfl rfl) ?_)
 refine sR (.bool ok61_) (r_move rfl rfl) ?_
 by_cases hc : ok61_ = true
 replace h := h.1 hc
 refine kN 63 hc ?_
 refine kN 16 hc ?_
 refine kN 64 hc ?_
 refine kN 65 hc ?_
 refine sR _ (r_move rfl h12) ?_
 refine sR (.bool (decide (best_12_1 < 0))) (r_lss rfl rfl rfl) ?_
 refine sR (.bool (decide (best_12_1 < 0))) (r_move rfl rfl) ?_
 by_cases hc : best_12_1 < 0
 replace h := h.1 hc
 refine kN 67 (decide_eq_true hc) ?_
 refine kN 68 (decide_eq_true hc) ?_
 iterate 3 refine s_skip ?_
 refine sR (.bool true) (r_pt rfl rfl) ?_
 refine sR (.bool true) (r_pt rfl rfl) ?_
 refine HL_nil ?_
 refine HC_condT rfl ?_
 refine HC_region ?_
 refine sR (.int .i64 v_61) (r_move rfl rfl) ?_
 refine sR (.int .i64 v_61) (r_assign rfl rfl) ?_
 refine HL_nil ?_
 show b31J7 (nx2 I3 m3) p_0 q_1 v35a_ v37a_ b10 v_51 v_54 R _ _
 exact ⟨_, h0, h1, h8, h9, h10, h11, rfl, h52, h53, h54, h⟩
 replace h := h.2 hc
 refine kN 67 (decide_eq_false hc) ?_
 refine kN 68 (decide_eq_false hc) ?_
 refine sR (.int .i64 v_61) (r_move rfl rfl) ?_
 refine sR _ (r_move rfl h12) ?_
 refine sR (.bool (decide (v_61 < best_12_1))) (r_lss rfl rfl rfl) ?_
 refine sR (.bool (decide (v_61 < best_12_1))) (r_pf rfl rfl) ?_
 refine sR (.bool (decide (v_61 < best_12_1))) (r_pt rfl rfl) ?_
 refine HL_nil ?_
 refine HC_cond (t := (decide (v_61 < best_12_1))) rfl (fun hc => ?_) (fun hc => ?_)
 replace h := h.1 (of_decide_eq_true hc)
 clear hc
 refine HC_region ?_
 refine sR (.int .i64 v_61) (r_move rfl rfl) ?_
 refine sR (.int .i64 v_61) (r_assign rfl rfl) ?_
 refine HL_nil ?_
 show b31J7 (nx2 I3 m3) p_0 q_1 v35a_ v37a_ b10 v_51 v_54 R _ _
 exact ⟨_, h0, h1, h8, h9, h10, h11, rfl, h52, h53, h54, h⟩
 replace h := h.2 (of_decide_eq_false hc)
 clear hc
 refine HC_skip ?_
 show b31J7 (nx2 I3 m3) p_0 q_1 v35a_ v37a_ b10 v_51 v_54 R _ _
 exact ⟨_, h0, h1, h8, h9, h10, h11, h12, h52, h53, h54, h⟩
 replace hc := eq_false_of_ne_true hc; replace h := h.2 hc
 refine kN 63 hc ?_
 refine kN 16 hc ?_
 refine kN 64 hc ?_
 refine kN 65 hc ?_
 iterate 7 refine s_skip ?_
 refine sR (.bool false) (r_pf rfl rfl) ?_
 refine HL_nil ?_
 refine HC_condF rfl ?_
 refine HC_skip ?_
 show b31J7 (nx2 I3 m3) p_0 q_1 v35a_ v37a_ b10 v_51 v_54 R _ _
 exact ⟨_, h0, h1, h8, h9, h10, h11, h12, h52, h53, h54, h⟩
 replace h := h.2 (of_decide_eq_false hc)
 clear hc
 refine HC_exit ?_
 show b31J1 p_0 q_1 v35a_ v37a_ b10 v_51 R _ _
 exact ⟨_, h0, h1, h8, h9, h10, h11, h12, h⟩
 /- 29 koine.pattern.Shortest -/
def b29 (p_0 : Sl) (R : VP) (F : PH) :=
 Spec prog 31 #[(Sl.v p_0), (Sl.v p_0)] F fun v F => ∃ v_6 : ByteArray, ∃ v_6_1 : Int, v = (.tuple #[(.string v_6), (.int .i64 v_6_1)]) ∧
 R (.tuple #[(.string v_6), (.int .i64 v_6_1)]) F
theorem c29 {p_0 : Sl} {R : VP} {F : PH} (h : b29 p_0 R F) : Spec prog 29 #[(Sl.v p_0)] F R := by
 refine spec_of (args := [(Sl.v p_0)]) func29 rfl ntmps29 rfl ?_
 unfold b29 at h
 refine cR (sR (.string (ByteArray.mk #[])) (r_assign rfl rfl) ?_)
 refine sR (.int .i64 0) (r_assign rfl rfl) ?_
 refine HL_nil ?_
 refine cR (sR (Sl.v p_0) (r_move rfl rfl) ?_)
 refine sR (Sl.v p_0) (r_move rfl rfl) ?_
 refine s_ef (k_call (vs := [(Sl.v p_0), (Sl.v p_0)]) cb31 (evC rfl (evC rfl evN)) (h.mono ?_))
 clear h; rintro v F ⟨v_6, v_6_1, rfl, h⟩
 refine sR (.string v_6) (r_extract rfl rfl rfl) ?_
 refine sR (.int .i64 v_6_1) (r_extract rfl rfl rfl) ?_
 refine sR (.string v_6) (r_assign rfl rfl) ?_
 refine sR (.int .i64 v_6_1) (r_assign rfl rfl) ?_
 exact HL_nil (HC_ret (rt2 f29 R rfl rfl rfl h))
end Go.Proofs.YtnjcgpihfmklfaaDoor
