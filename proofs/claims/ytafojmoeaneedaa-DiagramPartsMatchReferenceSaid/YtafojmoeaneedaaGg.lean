/-
  What functions of the program do, in a clean form, each with the proof that its code does so. Printed by a program.
-/
import Derived.Test.YtafojmoeaneedaaGf
import Derived.Test.YtafojmoeaneedaaPho
namespace Go.Proofs.Ytafojmoeaneedaa
open Go Go.Proofs.Try
set_option maxRecDepth 10000
set_option maxHeartbeats 4000000
/- 86 koine.diagram.meets -/
def b86 (a_0 : Array Value) (b_1 : Array Value) (both_2 : Bool) (R : Value → PH → Prop) (F : PH) : Prop :=
 ∀ b3, F b3 = none → atF (F.set b3 (.cells a_0 28)) fun F =>
 ∀ b4, F b4 = none → atF (F.set b4 (.cells b_1 28)) fun F =>
 ∀ b5, F b5 = none → atF (F.set b5 (.cells #[(.bool both_2)] 4)) fun F =>
 ∀ b9, F b9 = none → atF (F.set b9 (.map #[] 0)) fun F =>
 ∀ b7, F b7 = none → atF (F.set b7 (.cells (#[.map none]) 121)) fun F =>
 ∃ c e, F (Addr.mk b7 0 none).block = some (.cells c e (0, 0)) ∧ (Addr.mk b7 0 none).spot = none ∧ (Addr.mk b7 0 none).off < c.size ∧
 atF (F.set (Addr.mk b7 0 none).block (.cells (c.setIfInBounds (Addr.mk b7 0 none).off (.map (some b9))) e)) fun F =>
 ∀ b8, F b8 = none → atF (F.set b8 (.cells (#[.nilFunc]) 122)) fun F =>
 ∃ c e, F (Addr.mk b8 0 none).block = some (.cells c e (0, 0)) ∧ (Addr.mk b8 0 none).spot = none ∧ (Addr.mk b8 0 none).off < c.size ∧
 atF (F.set (Addr.mk b8 0 none).block (.cells (c.setIfInBounds (Addr.mk b8 0 none).off (.func (.func 104) #[] #[(.pointer (some (Addr.mk b5 0 none))), (.pointer (some (Addr.mk b7 0 none))), (.pointer (some (Addr.mk b3 0 none))), (.pointer (some (Addr.mk b4 0 none))), (.pointer (some (Addr.mk b8 0 none)))])) e)) fun F =>
 ∃ v_11 : Value, F.cell (Addr.mk b8 0 none) = some v_11 ∧
 ∃ v_13 : Int, F.cell (Addr.mk b3 1 none) = some (.int .i64 v_13) ∧
 ∃ v_15 : Int, F.cell (Addr.mk b4 1 none) = some (.int .i64 v_15) ∧
 ∃ (k16 : Nat) (fst16 cap16 : Array Value), v_11 = Value.func (.func k16) fst16 cap16 ∧ callableB prog k16 = true ∧ Spec prog k16 (fst16 ++ ([(Value.int .i64 v_13), (Value.int .i64 v_15)]).toArray ++ cap16) F fun v F => ∃ v_16 : Bool, v = (Value.bool v_16) ∧
 R (.bool v_16) F
theorem c86 {a_0 : Array Value} {b_1 : Array Value} {both_2 : Bool} {R : Value → PH → Prop} {F : PH} (h : b86 a_0 b_1 both_2 R F) : Spec prog 86 #[(.agg a_0), (.agg b_1), (.bool both_2)] F R := by
 refine spec_of (args := [(.agg a_0), (.agg b_1), (.bool both_2)]) func86 rfl ntmps86 rfl ?_
 unfold b86 at h
 refine cR ?_
 refine s_ef (k_box (cs := a_0) rfl rfl ?_)
 intro b3 hf_b3
 replace h := atE (h b3 hf_b3)
 refine s_ef (k_box (cs := b_1) rfl rfl ?_)
 intro b4 hf_b4
 replace h := atE (h b4 hf_b4)
 refine s_ef (k_box (cs := #[(.bool both_2)]) rfl rfl ?_)
 intro b5 hf_b5
 replace h := atE (h b5 hf_b5)
 refine sR (.bool false) (r_assign rfl rfl) ?_
 refine HL_nil ?_
 refine cR ?_
 refine s_ef (k_makeMap0 ?_)
 intro b9 hf_b9
 replace h := atE (h b9 hf_b9)
 refine s_ef (k_alloc zr121 ?_)
 intro b7 hf_b7
 replace h := atE (h b7 hf_b7)
 refine s_ef0 (k_store1 (v := (.map (some b9))) rfl rfl sz121 rfl st_map ?_)
 obtain ⟨c, e, hz3, hz4, hz5, h⟩ := h
 refine ⟨c, e, hz3, hz4, hz5, ?_⟩
 replace h := atE h
 refine HL_nil ?_
 refine cR ?_
 refine s_ef (k_alloc zr122 ?_)
 intro b8 hf_b8
 replace h := atE (h b8 hf_b8)
 refine HL_nil ?_
 refine cR ?_
 refine sR (.func (.func 104) #[] #[(.pointer (some (Addr.mk b5 0 none))), (.pointer (some (Addr.mk b7 0 none))), (.pointer (some (Addr.mk b3 0 none))), (.pointer (some (Addr.mk b4 0 none))), (.pointer (some (Addr.mk b8 0 none)))]) (w_makeFunc evN (evC rfl (evC rfl (evC rfl (evC rfl (evC rfl evN)))))) ?_
 refine s_ef0 (k_store1 (v := (.func (.func 104) #[] #[(.pointer (some (Addr.mk b5 0 none))), (.pointer (some (Addr.mk b7 0 none))), (.pointer (some (Addr.mk b3 0 none))), (.pointer (some (Addr.mk b4 0 none))), (.pointer (some (Addr.mk b8 0 none)))])) rfl rfl sz122 rfl st_func ?_)
 obtain ⟨c, e, hz3, hz4, hz5, h⟩ := h
 refine ⟨c, e, hz3, hz4, hz5, ?_⟩
 replace h := atE h
 refine HL_nil ?_
 refine cR ?_
 obtain ⟨v_11, hc11, h⟩ := h
 refine sR v_11 (r_load1 rfl rfl underlying122 rfl hc11) ?_
 refine sR (.pointer (some (Addr.mk b3 1 none))) (w_fieldAddr (a' := (Addr.mk b3 1 none)) rfl underlying28 rfl rfl sz3 rfl rfl) ?_
 obtain ⟨v_13, hc13, h⟩ := h
 refine sR (.int .i64 v_13) (r_load1 rfl rfl underlying3 rfl hc13) ?_
 refine sR (.pointer (some (Addr.mk b4 1 none))) (w_fieldAddr (a' := (Addr.mk b4 1 none)) rfl underlying28 rfl rfl sz3 rfl rfl) ?_
 obtain ⟨v_15, hc15, h⟩ := h
 refine sR (.int .i64 v_15) (r_load1 rfl rfl underlying3 rfl hc15) ?_
 obtain ⟨_, _, _, hk1, hk2, h⟩ := h
 refine s_ef (k_callF (vs := [(.int .i64 v_13), (.int .i64 v_15)]) hk2 ((rfl : _ = v_11).trans hk1) (evC rfl (evC rfl evN)) (h.mono ?_))
 clear h; rintro v F ⟨v_16, rfl, h⟩
 refine sR (.bool v_16) (r_assign rfl rfl) ?_
 refine HL_nil ?_
 exact HC_ret (show endQ prog f86 R .ret _ _ from ⟨_, res1 rfl (rv_tmp rfl), h⟩)

/- 104 koine.diagram.meets$1 -/
def b104j1 (x_0 : Int) (y_1 : Int) (v_3 : Option Addr) (v_4 : Option Addr) (v_5 : Option Addr) (v_6 : Option Addr) (R : Value → PH → Prop) (F : PH) : Prop :=
 ((y_1 < (2 : Int) →
  R (.bool true) F) ∧
 (¬ (y_1 < (2 : Int)) →
  ∃ v3a_ : Addr, v_3 = some v3a_ ∧ ∃ v_27 : Option Nat, F.cell v3a_ = some (.map v_27) ∧
  ∃ v_31 : Bool, rdo prog (Instr.lookup 121 (.map v_27) (.agg (#[(.int .i64 x_0), (.int .i64 y_1)] : Array Value)) false) F (.bool v_31) ∧
  ((v_31 = true →
   R (.bool false) F) ∧
  (v_31 = false →
   ∃ v_32 : Option Nat, F.cell v3a_ = some (.map v_32) ∧
   runs prog (Instr.mapUpdate 121 (.map v_32) (.agg (#[(.int .i64 x_0), (.int .i64 y_1)] : Array Value)) (.bool true)) F fun _ F =>
   ∃ v4a_ : Addr, v_4 = some v4a_ ∧ ∃ v_36 : Array Value, v_36.size = 2 ∧ F.row v4a_ v_36 ∧
   ∃ v5a_ : Addr, v_5 = some v5a_ ∧ ∃ v_39 : Array Value, v_39.size = 2 ∧ F.row v5a_ v_39 ∧
   Spec prog 63 #[(.agg v_36), (.int .i64 x_0)] F fun v F => ∃ v_38 : Int, v = (.int .i64 v_38) ∧
   F.row v5a_ v_39 ∧ Spec prog 63 #[(.agg v_39), (.int .i64 y_1)] F fun v F => ∃ v_41 : Int, v = (.int .i64 v_41) ∧
   ∃ v_44 : Array Value, v_44.size = 2 ∧ F.row v4a_ v_44 ∧
   Spec prog 98 #[(.agg v_44), (.int .i64 x_0), (.int .i64 (min v_38 v_41))] F fun v F => ∃ v_47 : Int, ∃ v_47_1 : Int, v = (.tuple #[(.int .i64 v_47), (.int .i64 v_47_1)]) ∧
   ∃ v_51 : Array Value, v_51.size = 2 ∧ F.row v5a_ v_51 ∧
   Spec prog 98 #[(.agg v_51), (.int .i64 y_1), (.int .i64 (min v_38 v_41))] F fun v F => ∃ v_54 : Int, ∃ v_54_1 : Int, v = (.tuple #[(.int .i64 v_54), (.int .i64 v_54_1)]) ∧
   ∃ v6a_ : Addr, v_6 = some v6a_ ∧ ∃ v_57 : Value, F.cell v6a_ = some v_57 ∧
   ∃ (k60 : Nat) (fst60 cap60 : Array Value), v_57 = Value.func (.func k60) fst60 cap60 ∧ callableB prog k60 = true ∧ Spec prog k60 (fst60 ++ ([(Value.int .i64 v_47), (Value.int .i64 v_54)]).toArray ++ cap60) F fun v F => ∃ v_60 : Bool, v = (Value.bool v_60) ∧
   ((v_60 = true →
    R (.bool true) F) ∧
   (v_60 = false →
    ∃ v_62 : Value, F.cell v6a_ = some v_62 ∧
    ∃ (k65 : Nat) (fst65 cap65 : Array Value), v_62 = Value.func (.func k65) fst65 cap65 ∧ callableB prog k65 = true ∧ Spec prog k65 (fst65 ++ ([(Value.int .i64 v_47_1), (Value.int .i64 v_54_1)]).toArray ++ cap65) F fun v F => ∃ v_65 : Bool, v = (Value.bool v_65) ∧
    R (.bool v_65) F))))))
abbrev b104J1 (x_0 : Int) (y_1 : Int) (v_3 : Option Addr) (v_4 : Option Addr) (v_5 : Option Addr) (v_6 : Option Addr) (R : Value → PH → Prop) (E : En) (F : PH) : Prop := E 0 = (.int .i64 x_0) ∧ E 1 = (.int .i64 y_1) ∧ E 3 = (.pointer v_3) ∧ E 4 = (.pointer v_4) ∧ E 5 = (.pointer v_5) ∧ E 6 = (.pointer v_6) ∧ b104j1 x_0 y_1 v_3 v_4 v_5 v_6 R F
def b104 (x_0 : Int) (y_1 : Int) (v_2 : Option Addr) (v_3 : Option Addr) (v_4 : Option Addr) (v_5 : Option Addr) (v_6 : Option Addr) (R : Value → PH → Prop) (F : PH) : Prop :=
 ((x_0 = (0 : Int) →
  R (.bool false) F) ∧
 (¬ (x_0 = (0 : Int)) →
  ((y_1 < (2 : Int) →
   ∃ v2a_ : Addr, v_2 = some v2a_ ∧ ∃ v_22 : Bool, F.cell v2a_ = some (.bool v_22) ∧
   (((!((decide (y_1 = (1 : Int))) == v_22)) = true →
    R (.bool false) F) ∧
   ((!((decide (y_1 = (1 : Int))) == v_22)) = false →
    b104j1 x_0 y_1 v_3 v_4 v_5 v_6 R F))) ∧
  (¬ (y_1 < (2 : Int)) →
   b104j1 x_0 y_1 v_3 v_4 v_5 v_6 R F))))
theorem c104 {x_0 : Int} {y_1 : Int} {v_2 : Option Addr} {v_3 : Option Addr} {v_4 : Option Addr} {v_5 : Option Addr} {v_6 : Option Addr} {R : Value → PH → Prop} {F : PH} (h : b104 x_0 y_1 v_2 v_3 v_4 v_5 v_6 R F) : Spec prog 104 #[(.int .i64 x_0), (.int .i64 y_1), (.pointer v_2), (.pointer v_3), (.pointer v_4), (.pointer v_5), (.pointer v_6)] F R := by
 refine spec_of (args := [(.int .i64 x_0), (.int .i64 y_1), (.pointer v_2), (.pointer v_3), (.pointer v_4), (.pointer v_5), (.pointer v_6)]) func104 rfl ntmps104 rfl ?_
 unfold b104 at h
 refine cR ?_
 refine sR (.bool false) (r_assign rfl rfl) ?_
 refine HL_nil ?_
 refine HC_seq ?_
 refine cR ?_
 refine sR (.int .i64 x_0) (r_move rfl rfl) ?_
 refine sR (.bool (decide (x_0 = (0 : Int)))) (w_eql rfl rfl) ?_
 refine HL_nil ?_
 refine HC_cond (t := (decide (x_0 = (0 : Int)))) rfl (fun hc => ?_) (fun hc => ?_)
 ·
  replace h := h.1 (of_decide_eq_true hc)
  clear hc
  refine cR ?_
  refine sR (.bool false) (r_assign rfl rfl) ?_
  refine HL_nil ?_
  exact HC_ret (show endQ prog f104 R .ret _ _ from ⟨_, res1 rfl (rv_tmp rfl), h⟩)
 ·
  replace h := h.2 (of_decide_eq_false hc)
  clear hc
  refine HC_skip ?_
  refine HC_seqJ (b104J1 x_0 y_1 v_3 v_4 v_5 v_6 R) ?_ ?_
  ·
   clear h; rintro E F ⟨h0, h1, h3, h4, h5, h6, h⟩
   unfold b104j1 at h
   refine HC_seq ?_
   refine cR ?_
   refine sR (.int .i64 y_1) (r_move rfl h1) ?_
   refine sR (.bool (decide (y_1 < (2 : Int)))) (r_lss rfl rfl rfl) ?_
   refine HL_nil ?_
   refine HC_cond (t := (decide (y_1 < (2 : Int)))) rfl (fun hc => ?_) (fun hc => ?_)
   ·
    replace h := h.1 (of_decide_eq_true hc)
    clear hc
    refine cR ?_
    refine sR (.bool true) (r_assign rfl rfl) ?_
    refine HL_nil ?_
    exact HC_ret (show endQ prog f104 R .ret _ _ from ⟨_, res1 rfl (rv_tmp rfl), h⟩)
   ·
    replace h := h.2 (of_decide_eq_false hc)
    clear hc
    refine HC_skip ?_
    refine HC_seq ?_
    refine cR ?_
    obtain ⟨v3a_, rfl, h⟩ := h
    obtain ⟨v_27, hc27, h⟩ := h
    refine sR (.map v_27) (r_load1 rfl h3 underlying121 rfl hc27) ?_
    refine sR (.int .i64 x_0) (r_move rfl h0) ?_
    refine sR (.int .i64 y_1) (r_move rfl h1) ?_
    refine sR (.agg (#[(.int .i64 x_0), (.int .i64 y_1)] : Array Value)) (w_buildArray (cells := #[(.int .i64 x_0), (.int .i64 y_1)]) underlying123 zr123 sz3 (evPC rfl (evPC rfl evPN)) (fill1 rfl rfl rfl (fill1 rfl rfl rfl (fillN rfl)))) ?_
    obtain ⟨v_31, hc31, h⟩ := h
    refine sR (.bool v_31) (r_lookup rfl rfl rfl hc31) ?_
    refine HL_nil ?_
    refine HC_cond (t := v_31) rfl (fun hc => ?_) (fun hc => ?_)
    ·
     replace h := h.1 hc
     clear hc
     refine cR ?_
     refine sR (.bool false) (r_assign rfl rfl) ?_
     refine HL_nil ?_
     exact HC_ret (show endQ prog f104 R .ret _ _ from ⟨_, res1 rfl (rv_tmp rfl), h⟩)
    ·
     replace h := h.2 hc
     clear hc
     refine HC_skip ?_
     refine cR ?_
     obtain ⟨v_32, hc32, h⟩ := h
     refine sR (.map v_32) (r_load1 rfl h3 underlying121 rfl hc32) ?_
     refine sR (.int .i64 x_0) (r_move rfl h0) ?_
     refine sR (.int .i64 y_1) (r_move rfl h1) ?_
     refine sR (.agg (#[(.int .i64 x_0), (.int .i64 y_1)] : Array Value)) (w_buildArray (cells := #[(.int .i64 x_0), (.int .i64 y_1)]) underlying123 zr123 sz3 (evPC rfl (evPC rfl evPN)) (fill1 rfl rfl rfl (fill1 rfl rfl rfl (fillN rfl)))) ?_
     refine s_ef0 (k_mapUpdate rfl rfl rfl (runs_mono _ _ h ?_))
     clear h; rintro _ F h
     refine HL_nil ?_
     refine HC_seq ?_
     refine HC_draw0 (by kernel_rfl) (fun hp => ?_)
     obtain ⟨v4a_, rfl, h⟩ := h
     obtain ⟨v_36, hs36, hc36, h⟩ := h
     refine gR 0 (.agg v_36) rfl (w_loadN h4 underlying28 rfl sz28 hs36 hc36) hp (fun S0 q0 => ?_)
     replace hp := holdC (i := 0) (q0 _ (w_loadN h4 underlying28 rfl sz28 hs36 hc36)) hp
     refine gU 1 (.int .i64 x_0) rfl (fun _ => r_move rfl h0) hp ?_
     obtain ⟨v5a_, rfl, h⟩ := h
     obtain ⟨v_39, hs39, hc39, h⟩ := h
     refine gR 3 (.agg v_39) rfl (w_loadN h5 underlying28 rfl sz28 hs39 hc39) hp (fun S3 q3 => ?_)
     replace hp := holdC (i := 3) (q3 _ (w_loadN h5 underlying28 rfl sz28 hs39 hc39)) hp
     refine gU 4 (.int .i64 y_1) rfl (fun _ => r_move rfl h1) hp ?_
     refine RG_eff1 (i := 2) (by kernel_rfl) (g_op (Sp' := [(3, S3)]) rfl rfl (k_call (vs := [(.agg v_36), (.int .i64 x_0)]) cb63 (evC rfl (evC rfl evN)) (h.mono ?_)))
     clear h; rintro v F ⟨v_38, rfl, h⟩
     obtain ⟨hk_2, h⟩ := h
     refine holdI (holdC (i := 3) (q3 _ (w_loadN h5 underlying28 rfl sz28 hs39 hk_2)) hold0) (fun hp => ?_)
     refine RG_eff1 (i := 5) (by kernel_rfl) (g_op (Sp' := []) rfl rfl (k_call (vs := [(.agg v_39), (.int .i64 y_1)]) cb63 (evC rfl (evC rfl evN)) (h.mono ?_)))
     clear h; rintro v F ⟨v_41, rfl, h⟩
     refine holdI hold0 (fun hp => ?_)
     refine gU 6 (.int .i64 (min v_38 v_41)) rfl (fun _ => r_min2 rfl rfl rfl) hp ?_
     refine gU 7 (.int .i64 (min v_38 v_41)) rfl (fun _ => r_assign rfl rfl) hp ?_
     refine RG_done (by kernel_rfl) ?_
     refine cR ?_
     obtain ⟨v_44, hs44, hc44, h⟩ := h
     refine sR (.agg v_44) (w_loadN h4 underlying28 rfl sz28 hs44 hc44) ?_
     refine sR (.int .i64 x_0) (r_move rfl h0) ?_
     refine sR (.int .i64 (min v_38 v_41)) (r_move rfl rfl) ?_
     refine s_ef (k_call (vs := [(.agg v_44), (.int .i64 x_0), (.int .i64 (min v_38 v_41))]) cb98 (evC rfl (evC rfl (evC rfl evN))) (h.mono ?_))
     clear h; rintro v F ⟨v_47, v_47_1, rfl, h⟩
     refine sR (.tuple #[(.int .i64 v_47), (.int .i64 v_47_1)]) (r_move rfl rfl) ?_
     refine sR (.int .i64 v_47) (r_extract rfl rfl rfl) ?_
     refine sR (.int .i64 v_47_1) (r_extract rfl rfl rfl) ?_
     refine sR (.int .i64 v_47) (r_assign rfl rfl) ?_
     refine sR (.int .i64 v_47_1) (r_assign rfl rfl) ?_
     refine HL_nil ?_
     refine cR ?_
     obtain ⟨v_51, hs51, hc51, h⟩ := h
     refine sR (.agg v_51) (w_loadN h5 underlying28 rfl sz28 hs51 hc51) ?_
     refine sR (.int .i64 y_1) (r_move rfl h1) ?_
     refine sR (.int .i64 (min v_38 v_41)) (r_move rfl rfl) ?_
     refine s_ef (k_call (vs := [(.agg v_51), (.int .i64 y_1), (.int .i64 (min v_38 v_41))]) cb98 (evC rfl (evC rfl (evC rfl evN))) (h.mono ?_))
     clear h; rintro v F ⟨v_54, v_54_1, rfl, h⟩
     refine sR (.tuple #[(.int .i64 v_54), (.int .i64 v_54_1)]) (r_move rfl rfl) ?_
     refine sR (.int .i64 v_54) (r_extract rfl rfl rfl) ?_
     refine sR (.int .i64 v_54_1) (r_extract rfl rfl rfl) ?_
     refine sR (.int .i64 v_54) (r_assign rfl rfl) ?_
     refine sR (.int .i64 v_54_1) (r_assign rfl rfl) ?_
     refine HL_nil ?_
     refine cR ?_
     obtain ⟨v6a_, rfl, h⟩ := h
     obtain ⟨v_57, hc57, h⟩ := h
     refine sR v_57 (r_load1 rfl h6 underlying122 rfl hc57) ?_
     refine sR (.int .i64 v_47) (r_move rfl rfl) ?_
     refine sR (.int .i64 v_54) (r_move rfl rfl) ?_
     obtain ⟨_, _, _, hk1, hk2, h⟩ := h
     refine s_ef (k_callF (vs := [(.int .i64 v_47), (.int .i64 v_54)]) hk2 ((rfl : _ = v_57).trans hk1) (evC rfl (evC rfl evN)) (h.mono ?_))
     clear h; rintro v F ⟨v_60, rfl, h⟩
     refine sR (.bool v_60) (r_move rfl rfl) ?_
     by_cases hc : v_60 = true
     ·
      replace h := h.1 hc
      refine kN 60 hc ?_
      refine kN 61 hc ?_
      refine s_skip ?_
      refine s_skip ?_
      refine s_skip ?_
      refine s_skip ?_
      refine sR (.bool true) (r_pick rfl rfl (fun _ => rfl) (fun h => by cases h)) ?_
      refine sR (.bool true) (r_assign rfl rfl) ?_
      refine HL_nil ?_
      exact HC_ret (show endQ prog f104 R .ret _ _ from ⟨_, res1 rfl (rv_tmp rfl), h⟩)
     ·
      replace hc := eq_false_of_ne_true hc; replace h := h.2 hc
      refine kN 60 hc ?_
      refine kN 61 hc ?_
      obtain ⟨v_62, hc62, h⟩ := h
      refine sR v_62 (r_load1 rfl h6 underlying122 rfl hc62) ?_
      refine sR (.int .i64 v_47_1) (r_move rfl rfl) ?_
      refine sR (.int .i64 v_54_1) (r_move rfl rfl) ?_
      obtain ⟨_, _, _, hk1, hk2, h⟩ := h
      refine s_ef (k_callF (vs := [(.int .i64 v_47_1), (.int .i64 v_54_1)]) hk2 ((rfl : _ = v_62).trans hk1) (evC rfl (evC rfl evN)) (h.mono ?_))
      clear h; rintro v F ⟨v_65, rfl, h⟩
      refine sR (.bool v_65) (r_pick rfl rfl (fun h => by cases h) (fun _ => rfl)) ?_
      refine sR (.bool v_65) (r_assign rfl rfl) ?_
      refine HL_nil ?_
      exact HC_ret (show endQ prog f104 R .ret _ _ from ⟨_, res1 rfl (rv_tmp rfl), h⟩)
  ·
   skip
   refine cR ?_
   refine sR (.int .i64 y_1) (r_move rfl rfl) ?_
   refine sR (.bool (decide (y_1 < (2 : Int)))) (r_lss rfl rfl rfl) ?_
   refine sR (.bool (decide (y_1 < (2 : Int)))) (r_move rfl rfl) ?_
   by_cases hc : y_1 < (2 : Int)
   ·
    replace h := h.1 hc
    refine kN 18 (decide_eq_true hc) ?_
    refine kN 19 (decide_eq_true hc) ?_
    refine sR (.int .i64 y_1) (r_move rfl rfl) ?_
    refine sR (.bool (decide (y_1 = (1 : Int)))) (w_eql rfl rfl) ?_
    obtain ⟨v2a_, rfl, h⟩ := h
    obtain ⟨v_22, hc22, h⟩ := h
    refine sR (.bool v_22) (r_load1 rfl rfl underlying4 rfl hc22) ?_
    refine sR (.bool (!((decide (y_1 = (1 : Int))) == v_22))) (r_neqB rfl rfl rfl underlying4) ?_
    refine sR (.bool (!((decide (y_1 = (1 : Int))) == v_22))) (r_pick rfl rfl (fun _ => rfl) (fun h => by cases h)) ?_
    refine HL_nil ?_
    refine HC_cond (t := (!((decide (y_1 = (1 : Int))) == v_22))) rfl (fun hc => ?_) (fun hc => ?_)
    ·
     replace h := h.1 hc
     clear hc
     refine cR ?_
     refine sR (.bool false) (r_assign rfl rfl) ?_
     refine HL_nil ?_
     exact HC_ret (show endQ prog f104 R .ret _ _ from ⟨_, res1 rfl (rv_tmp rfl), h⟩)
    ·
     replace h := h.2 hc
     clear hc
     refine HC_skip ?_
     show b104J1 x_0 y_1 v_3 v_4 v_5 v_6 R _ _
     exact ⟨rfl, rfl, rfl, rfl, rfl, rfl, h⟩
   ·
    replace h := h.2 hc
    refine kN 18 (decide_eq_false hc) ?_
    refine kN 19 (decide_eq_false hc) ?_
    refine s_skip ?_
    refine s_skip ?_
    refine s_skip ?_
    refine s_skip ?_
    refine sR (.bool false) (r_pick rfl rfl (fun h => by cases h) (fun _ => rfl)) ?_
    refine HL_nil ?_
    refine HC_condF rfl ?_
    refine HC_skip ?_
    show b104J1 x_0 y_1 v_3 v_4 v_5 v_6 R _ _
    exact ⟨rfl, rfl, rfl, rfl, rfl, rfl, h⟩

/- 44 koine.diagram.Within -/
def b44 (a_0 : Array Value) (b_1 : Array Value) (R : Value → PH → Prop) (F : PH) : Prop :=
 ∀ b2, F b2 = none → atF (F.set b2 (.cells a_0 28)) fun F =>
 ∀ b3, F b3 = none → atF (F.set b3 (.cells b_1 28)) fun F =>
 ∃ v_5 : Array Value, v_5.size = 2 ∧ F.row (Addr.mk b2 0 none) v_5 ∧
 ∃ v_6 : Array Value, v_6.size = 2 ∧ F.row (Addr.mk b3 0 none) v_6 ∧
 v_5.size = 2 ∧ v_6.size = 2 ∧ ∀ b7, F b7 = none → atF (F.set b7 (.cells (wr (wr (#[.slice none 0 0, .int .i64 0, .slice none 0 0, .int .i64 0] : Array Value) 0 v_5.toList) 2 v_6.toList) 28)) fun F =>
 Spec prog 68 #[(Sl.v (Sl.mk (some (Addr.mk b7 0 none)) 2 2))] F fun v F => ∃ v_8 : Int, v = (.int .i64 v_8) ∧
 ((v_8 = (0 : Int) →
  ∃ v_11 : Array Value, v_11.size = 2 ∧ F.row (Addr.mk b2 0 none) v_11 ∧
  ∃ v_12 : Array Value, v_12.size = 2 ∧ F.row (Addr.mk b3 0 none) v_12 ∧
  Spec prog 86 #[(.agg v_11), (.agg v_12), (.bool false)] F fun v F => ∃ v_13 : Bool, v = (.bool v_13) ∧
  R (.bool (!v_13)) F) ∧
 (¬ (v_8 = (0 : Int)) →
  R (.bool false) F))
theorem c44 {a_0 : Array Value} {b_1 : Array Value} {R : Value → PH → Prop} {F : PH} (h : b44 a_0 b_1 R F) : Spec prog 44 #[(.agg a_0), (.agg b_1)] F R := by
 refine spec_of (args := [(.agg a_0), (.agg b_1)]) func44 rfl ntmps44 rfl ?_
 unfold b44 at h
 refine cR ?_
 refine s_ef (k_box (cs := a_0) rfl rfl ?_)
 intro b2 hf_b2
 replace h := atE (h b2 hf_b2)
 refine s_ef (k_box (cs := b_1) rfl rfl ?_)
 intro b3 hf_b3
 replace h := atE (h b3 hf_b3)
 refine sR (.bool false) (r_assign rfl rfl) ?_
 refine HL_nil ?_
 refine cR ?_
 obtain ⟨v_5, hs5, hc5, h⟩ := h
 refine sR (.agg v_5) (w_loadN rfl underlying28 rfl sz28 hs5 hc5) ?_
 obtain ⟨v_6, hs6, hc6, h⟩ := h
 refine sR (.agg v_6) (w_loadN rfl underlying28 rfl sz28 hs6 hc6) ?_
 obtain ⟨hz7_0, hz7_1, h⟩ := h
 refine s_ef (k_buildSlice (cells := (wr (wr (#[.slice none 0 0, .int .i64 0, .slice none 0 0, .int .i64 0] : Array Value) 0 v_5.toList) 2 v_6.toList)) underlying100 sz28 (by decide) zr28 ((zc_flat _ rfl _).trans (rfl : _ = (#[.slice none 0 0, .int .i64 0, .slice none 0 0, .int .i64 0] : Array Value))) (evPC rfl (evPC rfl evPN)) (fillA rfl hz7_0 (by first | rfl | (simp only [wr_size, Array.size_setIfInBounds]; rfl)) (fillA rfl hz7_1 (by first | rfl | (simp only [wr_size, Array.size_setIfInBounds]; rfl)) (fillN rfl))) rfl ?_)
 intro b7 hf_b7
 replace h := atE (h b7 hf_b7)
 refine s_ef (k_call (vs := [(Sl.v (Sl.mk (some (Addr.mk b7 0 none)) 2 2))]) cb68 (evC rfl evN) (h.mono ?_))
 clear h; rintro v F ⟨v_8, rfl, h⟩
 refine sR (.bool (decide (v_8 = (0 : Int)))) (w_eql rfl rfl) ?_
 refine sR (.bool (decide (v_8 = (0 : Int)))) (r_move rfl rfl) ?_
 by_cases hc : v_8 = (0 : Int)
 ·
  replace h := h.1 hc
  refine kN 9 (decide_eq_true hc) ?_
  refine kN 10 (decide_eq_true hc) ?_
  obtain ⟨v_11, hs11, hc11, h⟩ := h
  refine sR (.agg v_11) (w_loadN rfl underlying28 rfl sz28 hs11 hc11) ?_
  obtain ⟨v_12, hs12, hc12, h⟩ := h
  refine sR (.agg v_12) (w_loadN rfl underlying28 rfl sz28 hs12 hc12) ?_
  refine s_ef (k_call (vs := [(.agg v_11), (.agg v_12), (.bool false)]) cb86 (evC rfl (evC rfl (evC rfl evN))) (h.mono ?_))
  clear h; rintro v F ⟨v_13, rfl, h⟩
  refine sR (.bool (!v_13)) (r_not rfl rfl) ?_
  refine sR (.bool (!v_13)) (r_pick rfl rfl (fun _ => rfl) (fun h => by cases h)) ?_
  refine sR (.bool (!v_13)) (r_assign rfl rfl) ?_
  refine HL_nil ?_
  exact HC_ret (show endQ prog f44 R .ret _ _ from ⟨_, res1 rfl (rv_tmp rfl), h⟩)
 ·
  replace h := h.2 hc
  refine kN 9 (decide_eq_false hc) ?_
  refine kN 10 (decide_eq_false hc) ?_
  refine s_skip ?_
  refine s_skip ?_
  refine s_skip ?_
  refine s_skip ?_
  refine sR (.bool false) (r_pick rfl rfl (fun h => by cases h) (fun _ => rfl)) ?_
  refine sR (.bool false) (r_assign rfl rfl) ?_
  refine HL_nil ?_
  exact HC_ret (show endQ prog f44 R .ret _ _ from ⟨_, res1 rfl (rv_tmp rfl), h⟩)

/- 46 koine.diagram.Disjoint -/
def b46 (a_0 : Array Value) (b_1 : Array Value) (R : Value → PH → Prop) (F : PH) : Prop :=
 ∀ b2, F b2 = none → atF (F.set b2 (.cells a_0 28)) fun F =>
 ∀ b3, F b3 = none → atF (F.set b3 (.cells b_1 28)) fun F =>
 ∃ v_5 : Array Value, v_5.size = 2 ∧ F.row (Addr.mk b2 0 none) v_5 ∧
 ∃ v_6 : Array Value, v_6.size = 2 ∧ F.row (Addr.mk b3 0 none) v_6 ∧
 v_5.size = 2 ∧ v_6.size = 2 ∧ ∀ b7, F b7 = none → atF (F.set b7 (.cells (wr (wr (#[.slice none 0 0, .int .i64 0, .slice none 0 0, .int .i64 0] : Array Value) 0 v_5.toList) 2 v_6.toList) 28)) fun F =>
 Spec prog 68 #[(Sl.v (Sl.mk (some (Addr.mk b7 0 none)) 2 2))] F fun v F => ∃ v_8 : Int, v = (.int .i64 v_8) ∧
 ((v_8 = (0 : Int) →
  ∃ v_11 : Array Value, v_11.size = 2 ∧ F.row (Addr.mk b2 0 none) v_11 ∧
  ∃ v_12 : Array Value, v_12.size = 2 ∧ F.row (Addr.mk b3 0 none) v_12 ∧
  Spec prog 86 #[(.agg v_11), (.agg v_12), (.bool true)] F fun v F => ∃ v_13 : Bool, v = (.bool v_13) ∧
  R (.bool (!v_13)) F) ∧
 (¬ (v_8 = (0 : Int)) →
  R (.bool false) F))
theorem c46 {a_0 : Array Value} {b_1 : Array Value} {R : Value → PH → Prop} {F : PH} (h : b46 a_0 b_1 R F) : Spec prog 46 #[(.agg a_0), (.agg b_1)] F R := by
 refine spec_of (args := [(.agg a_0), (.agg b_1)]) func46 rfl ntmps46 rfl ?_
 unfold b46 at h
 refine cR ?_
 refine s_ef (k_box (cs := a_0) rfl rfl ?_)
 intro b2 hf_b2
 replace h := atE (h b2 hf_b2)
 refine s_ef (k_box (cs := b_1) rfl rfl ?_)
 intro b3 hf_b3
 replace h := atE (h b3 hf_b3)
 refine sR (.bool false) (r_assign rfl rfl) ?_
 refine HL_nil ?_
 refine cR ?_
 obtain ⟨v_5, hs5, hc5, h⟩ := h
 refine sR (.agg v_5) (w_loadN rfl underlying28 rfl sz28 hs5 hc5) ?_
 obtain ⟨v_6, hs6, hc6, h⟩ := h
 refine sR (.agg v_6) (w_loadN rfl underlying28 rfl sz28 hs6 hc6) ?_
 obtain ⟨hz7_0, hz7_1, h⟩ := h
 refine s_ef (k_buildSlice (cells := (wr (wr (#[.slice none 0 0, .int .i64 0, .slice none 0 0, .int .i64 0] : Array Value) 0 v_5.toList) 2 v_6.toList)) underlying100 sz28 (by decide) zr28 ((zc_flat _ rfl _).trans (rfl : _ = (#[.slice none 0 0, .int .i64 0, .slice none 0 0, .int .i64 0] : Array Value))) (evPC rfl (evPC rfl evPN)) (fillA rfl hz7_0 (by first | rfl | (simp only [wr_size, Array.size_setIfInBounds]; rfl)) (fillA rfl hz7_1 (by first | rfl | (simp only [wr_size, Array.size_setIfInBounds]; rfl)) (fillN rfl))) rfl ?_)
 intro b7 hf_b7
 replace h := atE (h b7 hf_b7)
 refine s_ef (k_call (vs := [(Sl.v (Sl.mk (some (Addr.mk b7 0 none)) 2 2))]) cb68 (evC rfl evN) (h.mono ?_))
 clear h; rintro v F ⟨v_8, rfl, h⟩
 refine sR (.bool (decide (v_8 = (0 : Int)))) (w_eql rfl rfl) ?_
 refine sR (.bool (decide (v_8 = (0 : Int)))) (r_move rfl rfl) ?_
 by_cases hc : v_8 = (0 : Int)
 ·
  replace h := h.1 hc
  refine kN 9 (decide_eq_true hc) ?_
  refine kN 10 (decide_eq_true hc) ?_
  obtain ⟨v_11, hs11, hc11, h⟩ := h
  refine sR (.agg v_11) (w_loadN rfl underlying28 rfl sz28 hs11 hc11) ?_
  obtain ⟨v_12, hs12, hc12, h⟩ := h
  refine sR (.agg v_12) (w_loadN rfl underlying28 rfl sz28 hs12 hc12) ?_
  refine s_ef (k_call (vs := [(.agg v_11), (.agg v_12), (.bool true)]) cb86 (evC rfl (evC rfl (evC rfl evN))) (h.mono ?_))
  clear h; rintro v F ⟨v_13, rfl, h⟩
  refine sR (.bool (!v_13)) (r_not rfl rfl) ?_
  refine sR (.bool (!v_13)) (r_pick rfl rfl (fun _ => rfl) (fun h => by cases h)) ?_
  refine sR (.bool (!v_13)) (r_assign rfl rfl) ?_
  refine HL_nil ?_
  exact HC_ret (show endQ prog f46 R .ret _ _ from ⟨_, res1 rfl (rv_tmp rfl), h⟩)
 ·
  replace h := h.2 hc
  refine kN 9 (decide_eq_false hc) ?_
  refine kN 10 (decide_eq_false hc) ?_
  refine s_skip ?_
  refine s_skip ?_
  refine s_skip ?_
  refine s_skip ?_
  refine sR (.bool false) (r_pick rfl rfl (fun h => by cases h) (fun _ => rfl)) ?_
  refine sR (.bool false) (r_assign rfl rfl) ?_
  refine HL_nil ?_
  exact HC_ret (show endQ prog f46 R .ret _ _ from ⟨_, res1 rfl (rv_tmp rfl), h⟩)

/- 56 koine.diagram.Support -/
def b56j1 (out_3 : Sl) (R : Value → PH → Prop) (F : PH) : Prop :=
 Spec prog 91 #[(Sl.v out_3)] F fun v F => v = Value.tuple #[] ∧
 Spec prog 92 #[(Sl.v out_3)] F fun v F => ∃ v_25 : Sl, v = (Sl.v v_25) ∧
 R (Sl.v v_25) F
abbrev b56J1 (R : Value → PH → Prop) (E : En) (F : PH) : Prop := ∃ out_3 : Sl, E 3 = (Sl.v out_3) ∧ b56j1 out_3 R F
def b56L1 (N1 : Sl → Int → PH → Prop) (v_10 : Sl) (R : Value → PH → Prop) (out_3_1 : Sl) (v_12 : Int) (F : PH) : Prop :=
 ((v_12 < (v_10.len : Int) →
  ∃ a14_ : Addr, v_10.base = some a14_ ∧ 0 ≤ v_12 ∧ v_12 < (v_10.len : Int) ∧
  ∃ v_15 : Array Value, v_15.size = 3 ∧ F.row (Addr.add a14_ (Int.toNat v_12 * 3)) v_15 ∧
  ∀ b5, F b5 = none → atF (F.set b5 (.cells (#[.int .i64 0, .int .i64 0, .int .i64 0]) 72)) fun F =>
  v_15.size = 3 ∧ (∀ v ∈ v_15.toList, storable v) ∧ ∃ c e, F (Addr.mk b5 0 none).block = some (.cells c e (0, 0)) ∧ (Addr.mk b5 0 none).spot = none ∧ (Addr.mk b5 0 none).off + 3 ≤ c.size ∧
  atF (F.set (Addr.mk b5 0 none).block (.cells (wr c (Addr.mk b5 0 none).off v_15.toList) e)) fun F =>
  ∃ v_18 : Int, F.cell (Addr.mk b5 0 none) = some (.int .i64 v_18) ∧
  ∀ b19, F b19 = none → atF (F.set b19 (.cells #[(.int .i64 v_18)] 3)) fun F =>
  runs prog (Builtin.append_ #[68, 68] 68 #[(Sl.v out_3_1), (Sl.v (Sl.mk (some (Addr.mk b19 0 none)) 1 1))]) F fun v F => ∃ v_20 : Sl, v = (Sl.v v_20) ∧
  N1 v_20 (IntKind.i64.wrap (v_12 + (1 : Int))) F) ∧
 (¬ (v_12 < (v_10.len : Int)) →
  b56j1 out_3_1 R F))
def b56 (a_0 : Array Value) (R : Value → PH → Prop) (F : PH) : Prop :=
 ∀ b1, F b1 = none → atF (F.set b1 (.cells a_0 28)) fun F =>
 ∃ v_6 : Array Value, v_6.size = 2 ∧ F.row (Addr.mk b1 0 none) v_6 ∧
 Spec prog 23 #[(.agg v_6)] F fun v F => ∃ v_7 : Int, v = (.int .i64 v_7) ∧
 ((v_7 ≠ (0 : Int) →
  R (Sl.v Sl.nil) F) ∧
 (¬ (v_7 ≠ (0 : Int)) →
  ∃ v_10 : Sl, F.cell (Addr.mk b1 0 none) = some (Sl.v v_10) ∧
  (∃ (I1 : Nat → Sl → Int → PH → Prop) (m1 : Nat), I1 m1 Sl.nil (0 : Int) F ∧ ∀ m1 out_3_1 v_12 F, I1 m1 out_3_1 v_12 F →
   b56L1 (fun out_3_1 v_12 F => ∃ m', m' < m1 ∧ I1 m' out_3_1 v_12 F) v_10 R out_3_1 v_12 F)))
theorem c56 {a_0 : Array Value} {R : Value → PH → Prop} {F : PH} (h : b56 a_0 R F) : Spec prog 56 #[(.agg a_0)] F R := by
 refine spec_of (args := [(.agg a_0)]) func56 rfl ntmps56 rfl ?_
 unfold b56 at h
 refine cR ?_
 refine s_ef (k_box (cs := a_0) rfl rfl ?_)
 intro b1 hf_b1
 replace h := atE (h b1 hf_b1)
 refine sR (Sl.v Sl.nil) (r_assign rfl rfl) ?_
 refine HL_nil ?_
 refine HC_seq ?_
 refine cR ?_
 obtain ⟨v_6, hs6, hc6, h⟩ := h
 refine sR (.agg v_6) (w_loadN rfl underlying28 rfl sz28 hs6 hc6) ?_
 refine s_ef (k_call (vs := [(.agg v_6)]) cb23 (evC rfl evN) (h.mono ?_))
 clear h; rintro v F ⟨v_7, rfl, h⟩
 refine sR (.bool (decide (v_7 ≠ (0 : Int)))) (w_neq rfl rfl) ?_
 refine HL_nil ?_
 refine HC_cond (t := (decide (v_7 ≠ (0 : Int)))) rfl (fun hc => ?_) (fun hc => ?_)
 ·
  replace h := h.1 (of_decide_eq_true hc)
  clear hc
  refine cR ?_
  refine sR (Sl.v Sl.nil) (r_assign rfl rfl) ?_
  refine HL_nil ?_
  exact HC_ret (show endQ prog f56 R .ret _ _ from ⟨_, res1 rfl (rv_tmp rfl), h⟩)
 ·
  replace h := h.2 (of_decide_eq_false hc)
  clear hc
  refine HC_skip ?_
  refine cR ?_
  refine sR (Sl.v Sl.nil) (r_assign rfl rfl) ?_
  refine HL_nil ?_
  refine HC_seqJ (b56J1 R) ?_ ?_
  ·
   clear h; rintro E F ⟨out_3, h3, h⟩
   unfold b56j1 at h
   refine cR ?_
   refine sR (Sl.v out_3) (r_move rfl h3) ?_
   refine s_ef (k_call (vs := [(Sl.v out_3)]) cb91 (evC rfl evN) (h.mono ?_))
   clear h; rintro v F ⟨rfl, h⟩
   refine HL_nil ?_
   refine cR ?_
   refine sR (Sl.v out_3) (r_move rfl h3) ?_
   refine s_ef (k_call (vs := [(Sl.v out_3)]) cb92 (evC rfl evN) (h.mono ?_))
   clear h; rintro v F ⟨v_25, rfl, h⟩
   refine sR (Sl.v v_25) (r_assign rfl rfl) ?_
   refine HL_nil ?_
   exact HC_ret (show endQ prog f56 R .ret _ _ from ⟨_, res1 rfl (rv_tmp rfl), h⟩)
  ·
   skip
   refine cR ?_
   refine sR (.pointer (some (Addr.mk b1 0 none))) (w_fieldAddr (a' := (Addr.mk b1 0 none)) rfl underlying28 rfl rfl sz26 rfl rfl) ?_
   obtain ⟨v_10, hc10, h⟩ := h
   refine sR (Sl.v v_10) (r_load1 rfl rfl underlying26 rfl hc10) ?_
   refine sR (.int .i64 (v_10.len : Int)) (r_lenSl rfl rfl underlying26) ?_
   refine sR (.int .i64 (0 : Int)) (r_move rfl rfl) ?_
   refine HL_nil ?_
   refine HC_block ?_
   obtain ⟨I1, m1, hI0, hr⟩ := h
   refine HC_loop (fun m1 E F => ∃ out_3_1 : Sl, ∃ v_12 : Int, E 3 = (Sl.v out_3_1) ∧ E 10 = (Sl.v v_10) ∧ E 11 = (.int .i64 (v_10.len : Int)) ∧ E 12 = (.int .i64 v_12) ∧ I1 m1 out_3_1 v_12 F) m1 ⟨_, _, rfl, rfl, rfl, rfl, hI0⟩ ?_
   clear hI0; rintro m1 E F ⟨out_3_1, v_12, h3, h10, h11, h12, hI⟩
   have h := hr m1 out_3_1 v_12 F hI
   clear hr hI
   unfold b56L1 at h
   refine cR ?_
   refine sR (.bool (decide (v_12 < (v_10.len : Int)))) (r_lss rfl h12 h11) ?_
   refine HL_nil ?_
   refine HC_seq ?_
   refine HC_cond (t := (decide (v_12 < (v_10.len : Int)))) rfl (fun hc => ?_) (fun hc => ?_)
   ·
    replace h := h.1 (of_decide_eq_true hc)
    clear hc
    refine HC_skip ?_
    refine HC_seq ?_
    refine HC_block ?_
    refine cR ?_
    obtain ⟨a14_, hb14, hl14, hu14, h⟩ := h
    refine sR (.pointer (some (Addr.add a14_ (Int.toNat v_12 * 3)))) (w_indexAddr h10 h12 underlying26 sz72 hb14 hl14 hu14) ?_
    obtain ⟨v_15, hs15, hc15, h⟩ := h
    refine sR (.agg v_15) (w_loadN rfl underlying72 rfl sz72 hs15 hc15) ?_
    refine s_ef (k_alloc zr72 ?_)
    intro b5 hf_b5
    replace h := atE (h b5 hf_b5)
    refine s_ef0 (k_storeN (vs := v_15) rfl rfl sz72 (by decide) ?_)
    obtain ⟨hz1, hz2, c, e, hz3, hz4, hz5, h⟩ := h
    refine ⟨hz1, hz2, c, e, hz3, hz4, hz5, ?_⟩
    replace h := atE h
    refine HL_nil ?_
    refine HC_region ?_
    refine sR (Sl.v out_3_1) (r_move rfl h3) ?_
    refine sR (.pointer (some (Addr.mk b5 0 none))) (w_fieldAddr (a' := (Addr.mk b5 0 none)) rfl underlying72 rfl rfl sz3 rfl rfl) ?_
    obtain ⟨v_18, hc18, h⟩ := h
    refine sR (.int .i64 v_18) (r_load1 rfl rfl underlying3 rfl hc18) ?_
    refine s_ef (k_buildSeq (l := [(.int .i64 v_18)]) underlying68 sz3 (by decide) zr3 rfl rfl ⟨rfl, trivial⟩ (evPC rfl evPN) ?_)
    intro b19 hf_b19
    replace h := atE (h b19 hf_b19)
    refine s_ef (k_append rfl rfl (runs_mono _ _ h ?_))
    clear h; rintro v F ⟨v_20, rfl, h⟩
    refine sR (Sl.v v_20) (r_assign rfl rfl) ?_
    refine HL_nil ?_
    refine HC_region ?_
    refine sR (.int .i64 (IntKind.i64.wrap (v_12 + (1 : Int)))) (r_add rfl h12 rfl) ?_
    refine sR (.int .i64 (IntKind.i64.wrap (v_12 + (1 : Int)))) (r_move rfl rfl) ?_
    refine HL_nil ?_
    obtain ⟨m', hm, h⟩ := h
    exact ⟨m', hm, _, _, rfl, h10, h11, rfl, h⟩
   ·
    replace h := h.2 (of_decide_eq_false hc)
    clear hc
    refine HC_exit ?_
    show b56J1 R _ _
    exact ⟨_, h3, h⟩

end Go.Proofs.Ytafojmoeaneedaa
