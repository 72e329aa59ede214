/-
  What functions of the program do, in a clean form, each with the proof that its code does so. Printed by a program.
-/
import Derived.Test.YtafojmoeaneedaaGf
import Derived.Test.YtafojmoeaneedaaPho
namespace Go.Proofs.Ytafojmoeaneedaa
open Go Go.Proofs.Try
set_option maxRecDepth 10000
set_option maxHeartbeats 4000000
/- 96 koine.diagram.newBuilder -/
def b96 (R : Value → PH → Prop) (F : PH) : Prop :=
 ∀ b1, F b1 = none → atF (F.set b1 (.map #[] 0)) fun F =>
 ∀ b3, F b3 = none → atF (F.set b3 (.cells (#[.slice none 0 0, (.map (some b1))] : Array Value) 84)) fun F =>
 R (.pointer (some (Addr.mk b3 0 none))) F
theorem c96 {R : Value → PH → Prop} {F : PH} (h : b96 R F) : Spec prog 96 #[] F R := by
 refine spec_of (args := []) func96 rfl ntmps96 rfl ?_
 unfold b96 at h
 refine cR ?_
 refine sR (.pointer none) (r_assign rfl rfl) ?_
 refine HL_nil ?_
 refine cR ?_
 refine s_ef (k_makeMap0 ?_)
 intro b1 hf_b1
 replace h := atE (h b1 hf_b1)
 refine sR (.agg (#[.slice none 0 0, (.map (some b1))] : Array Value)) (w_buildStruct (cells := #[.slice none 0 0, (.map (some b1))]) underlying84 zr84 kf84 (evPC rfl evPN) (fill1 (place_of rfl rfl sz82) rfl rfl (fillN rfl))) ?_
 refine s_ef (k_box (cs := (#[.slice none 0 0, (.map (some b1))] : Array Value)) rfl rfl ?_)
 intro b3 hf_b3
 replace h := atE (h b3 hf_b3)
 refine sR (.pointer (some (Addr.mk b3 0 none))) (r_assign rfl rfl) ?_
 refine HL_nil ?_
 exact HC_ret (show endQ prog f96 R .ret _ _ from ⟨_, res1 rfl (rv_tmp rfl), h⟩)

/- 99 (*koine.diagram.builder).branch -/
def b99 (b_0 : Option Addr) (v_1 : Int) (low_2 : Int) (high_3 : Int) (R : Value → PH → Prop) (F : PH) : Prop :=
 ((low_2 = high_3 →
  R (.int .i64 low_2) F) ∧
 (¬ (low_2 = high_3) →
  ∀ b9, F b9 = none → atF (F.set b9 (.cells (#[.int .i64 0, .int .i64 0, .int .i64 0]) 72)) fun F =>
  (#[(.int .i64 v_1), (.int .i64 low_2), (.int .i64 high_3)] : Array Value).size = 3 ∧ (∀ v ∈ (#[(.int .i64 v_1), (.int .i64 low_2), (.int .i64 high_3)] : Array Value).toList, storable v) ∧ ∃ c e, F (Addr.mk b9 0 none).block = some (.cells c e (0, 0)) ∧ (Addr.mk b9 0 none).spot = none ∧ (Addr.mk b9 0 none).off + 3 ≤ c.size ∧
  atF (F.set (Addr.mk b9 0 none).block (.cells (wr c (Addr.mk b9 0 none).off (#[(.int .i64 v_1), (.int .i64 low_2), (.int .i64 high_3)] : Array Value).toList) e)) fun F =>
  ∃ b0a_ : Addr, b_0 = some b0a_ ∧ ∃ v_24 : Option Nat, F.cell (Addr.add b0a_ 1) = some (.map v_24) ∧
  ∃ v_25 : Array Value, v_25.size = 3 ∧ F.row (Addr.mk b9 0 none) v_25 ∧
  ∃ (v_26 : Int) (ok26_ : Bool), rdo prog (Instr.lookup 82 (.map v_24) (.agg v_25) true) F (.tuple #[(.int .i64 v_26), (.bool ok26_)]) ∧
  (((!ok26_) = true →
   ∃ v_35 : Sl, F.cell b0a_ = some (Sl.v v_35) ∧
   ∃ v_36 : Array Value, v_36.size = 3 ∧ F.row (Addr.mk b9 0 none) v_36 ∧
   v_36.size = 3 ∧ ∀ b37, F b37 = none → atF (F.set b37 (.cells v_36 72)) fun F =>
   runs prog (Builtin.append_ #[26, 26] 26 #[(Sl.v v_35), (Sl.v (Sl.mk (some (Addr.mk b37 0 none)) 1 1))]) F fun v F => ∃ v_38 : Sl, v = (Sl.v v_38) ∧
   ∃ c e, F b0a_.block = some (.cells c e (0, 0)) ∧ b0a_.spot = none ∧ b0a_.off < c.size ∧
   atF (F.set b0a_.block (.cells (c.setIfInBounds b0a_.off (Sl.v v_38)) e)) fun F =>
   ∃ v_44 : Sl, F.cell b0a_ = some (Sl.v v_44) ∧
   ∃ v_50 : Option Nat, F.cell (Addr.add b0a_ 1) = some (.map v_50) ∧
   ∃ v_51 : Array Value, v_51.size = 3 ∧ F.row (Addr.mk b9 0 none) v_51 ∧
   runs prog (Instr.mapUpdate 82 (.map v_50) (.agg v_51) (.int .i64 (IntKind.i64.wrap ((v_44.len : Int) + (1 : Int))))) F fun _ F =>
   R (.int .i64 (IntKind.i64.wrap ((v_44.len : Int) + (1 : Int)))) F) ∧
  ((!ok26_) = false →
   R (.int .i64 v_26) F))))
theorem c99 {b_0 : Option Addr} {v_1 : Int} {low_2 : Int} {high_3 : Int} {R : Value → PH → Prop} {F : PH} (h : b99 b_0 v_1 low_2 high_3 R F) : Spec prog 99 #[(.pointer b_0), (.int .i64 v_1), (.int .i64 low_2), (.int .i64 high_3)] F R := by
 refine spec_of (args := [(.pointer b_0), (.int .i64 v_1), (.int .i64 low_2), (.int .i64 high_3)]) func99 rfl ntmps99 rfl ?_
 unfold b99 at h
 refine cR ?_
 refine sR (.int .i64 (0 : Int)) (r_assign rfl rfl) ?_
 refine HL_nil ?_
 refine HC_seq ?_
 refine cR ?_
 refine sR (.int .i64 low_2) (r_move rfl rfl) ?_
 refine sR (.int .i64 high_3) (r_move rfl rfl) ?_
 refine sR (.bool (decide (low_2 = high_3))) (w_eql rfl rfl) ?_
 refine HL_nil ?_
 refine HC_cond (t := (decide (low_2 = high_3))) rfl (fun hc => ?_) (fun hc => ?_)
 ·
  replace h := h.1 (of_decide_eq_true hc)
  clear hc
  refine cR ?_
  refine sR (.int .i64 low_2) (r_move rfl rfl) ?_
  refine sR (.int .i64 low_2) (r_assign rfl rfl) ?_
  refine HL_nil ?_
  exact HC_ret (show endQ prog f99 R .ret _ _ from ⟨_, res1 rfl (rv_tmp rfl), h⟩)
 ·
  replace h := h.2 (of_decide_eq_false hc)
  clear hc
  refine HC_skip ?_
  refine cR ?_
  refine sR (.int .i64 v_1) (r_move rfl rfl) ?_
  refine sR (.int .i64 low_2) (r_move rfl rfl) ?_
  refine sR (.int .i64 high_3) (r_move rfl rfl) ?_
  refine sR (.agg (#[(.int .i64 v_1), (.int .i64 low_2), (.int .i64 high_3)] : Array Value)) (w_buildStruct (cells := #[(.int .i64 v_1), (.int .i64 low_2), (.int .i64 high_3)]) underlying72 zr72 kf72 (evPC rfl (evPC rfl (evPC rfl evPN))) (fill1 (place_of rfl rfl sz3) rfl rfl (fill1 (place_of rfl rfl sz3) rfl rfl (fill1 (place_of rfl rfl sz3) rfl rfl (fillN rfl))))) ?_
  refine s_ef (k_alloc zr72 ?_)
  intro b9 hf_b9
  replace h := atE (h b9 hf_b9)
  refine s_ef0 (k_storeN (vs := (#[(.int .i64 v_1), (.int .i64 low_2), (.int .i64 high_3)] : Array Value)) rfl rfl sz72 (by decide) ?_)
  obtain ⟨hz1, hz2, c, e, hz3, hz4, hz5, h⟩ := h
  refine ⟨hz1, hz2, c, e, hz3, hz4, hz5, ?_⟩
  replace h := atE h
  refine HL_nil ?_
  refine HC_seq ?_
  refine HC_draw0 (by kernel_rfl) (fun hp => ?_)
  refine gU 0 (.pointer b_0) rfl (fun _ => r_move rfl rfl) hp ?_
  obtain ⟨b0a_, rfl, h⟩ := h
  refine gU 1 (.pointer (some b0a_)) rfl (fun _ => r_nilCheck rfl rfl) hp ?_
  refine gU 2 (.pointer (some (Addr.add b0a_ 1))) rfl (fun _ => w_fieldAddr (a' := (Addr.add b0a_ 1)) rfl underlying84 rfl rfl sz82 rfl rfl) hp ?_
  obtain ⟨v_24, hc24, h⟩ := h
  refine gR 3 (.map v_24) rfl (r_load1 rfl rfl underlying82 rfl hc24) hp (fun S3 q3 => ?_)
  replace hp := holdC (i := 3) (q3 _ (r_load1 rfl rfl underlying82 rfl hc24)) hp
  obtain ⟨v_25, hs25, hc25, h⟩ := h
  refine gR 4 (.agg v_25) rfl (w_loadN rfl underlying72 rfl sz72 hs25 hc25) hp (fun S4 q4 => ?_)
  replace hp := holdC (i := 4) (q4 _ (w_loadN rfl underlying72 rfl sz72 hs25 hc25)) hp
  obtain ⟨v_26, ok26_, hc26, h⟩ := h
  refine gR 5 (.tuple #[(.int .i64 v_26), (.bool ok26_)]) rfl (r_lookup rfl rfl rfl hc26) hp (fun S5 q5 => ?_)
  replace hp := holdC (i := 5) (q5 _ (r_lookup rfl rfl rfl hc26)) hp
  refine gU 6 (.tuple #[(.int .i64 v_26), (.bool ok26_)]) rfl (fun _ => r_move rfl rfl) hp ?_
  refine gU 7 (.int .i64 v_26) rfl (fun _ => r_extract rfl rfl rfl) hp ?_
  refine gU 8 (.bool ok26_) rfl (fun _ => r_extract rfl rfl rfl) hp ?_
  refine gU 9 (.int .i64 v_26) rfl (fun _ => r_assign rfl rfl) hp ?_
  refine gU 10 (.bool ok26_) rfl (fun _ => r_assign rfl rfl) hp ?_
  refine RG_done (by kernel_rfl) ?_
  refine HC_seq ?_
  refine cR ?_
  refine sR (.bool ok26_) (r_move rfl rfl) ?_
  refine sR (.bool (!ok26_)) (r_not rfl rfl) ?_
  refine HL_nil ?_
  refine HC_cond (t := (!ok26_)) rfl (fun hc => ?_) (fun hc => ?_)
  ·
   replace h := h.1 hc
   clear hc
   refine HC_seq ?_
   refine HC_draw0 (by kernel_rfl) (fun hp => ?_)
   refine gU 0 (.pointer (some b0a_)) rfl (fun _ => r_move rfl rfl) hp ?_
   refine gU 1 (.pointer (some b0a_)) rfl (fun _ => r_move rfl rfl) hp ?_
   refine gU 2 (.pointer (some b0a_)) rfl (fun _ => r_nilCheck rfl rfl) hp ?_
   refine gU 3 (.pointer (some b0a_)) rfl (fun _ => w_fieldAddr (a' := b0a_) rfl underlying84 rfl rfl sz26 rfl rfl) hp ?_
   obtain ⟨v_35, hc35, h⟩ := h
   refine gR 4 (Sl.v v_35) rfl (r_load1 rfl rfl underlying26 rfl hc35) hp (fun S4 q4 => ?_)
   replace hp := holdC (i := 4) (q4 _ (r_load1 rfl rfl underlying26 rfl hc35)) hp
   obtain ⟨v_36, hs36, hc36, h⟩ := h
   refine gR 5 (.agg v_36) rfl (w_loadN rfl underlying72 rfl sz72 hs36 hc36) hp (fun S5 q5 => ?_)
   replace hp := holdC (i := 5) (q5 _ (w_loadN rfl underlying72 rfl sz72 hs36 hc36)) hp
   obtain ⟨hz37, h⟩ := h
   refine RG_eff1 (i := 6) (by kernel_rfl) (g_op (Sp' := [(4, S4)]) rfl rfl (k_buildSlice (cells := v_36) underlying26 sz72 (by decide) zr72 rfl (evPC rfl evPN) (fillWhole hz37 rfl rfl) rfl ?_))
   intro b37 hf_b37
   replace h := atE (h b37 hf_b37)
   refine holdI (holdC (i := 4) (q4 _ (r_load1 rfl rfl underlying26 rfl (cell_set_fresh hf_b37 hc35))) hold0) (fun hp => ?_)
   refine RG_eff1 (i := 7) (by kernel_rfl) (g_op (Sp' := []) rfl rfl (k_append rfl rfl (runs_mono _ _ h ?_)))
   clear h; rintro v F ⟨v_38, rfl, h⟩
   refine holdI hold0 (fun hp => ?_)
   refine gU 8 (.pointer (some b0a_)) rfl (fun _ => r_nilCheck rfl rfl) hp ?_
   refine gU 9 (.pointer (some b0a_)) rfl (fun _ => w_fieldAddr (a' := b0a_) rfl underlying84 rfl rfl sz26 rfl rfl) hp ?_
   refine RG_eff1 (i := 10) (by kernel_rfl) (g_op0 (Sp' := []) rfl rfl (k_store1 (v := (Sl.v v_38)) rfl rfl sz26 rfl st_sl ?_))
   obtain ⟨c, e, hz3, hz4, hz5, h⟩ := h
   refine ⟨c, e, hz3, hz4, hz5, ?_⟩
   replace h := atE h
   refine holdI hold0 (fun hp => ?_)
   refine RG_done (by kernel_rfl) ?_
   refine cR ?_
   refine sR (.pointer (some b0a_)) (r_move rfl rfl) ?_
   refine sR (.pointer (some b0a_)) (r_nilCheck rfl rfl) ?_
   refine sR (.pointer (some b0a_)) (w_fieldAddr (a' := b0a_) rfl underlying84 rfl rfl sz26 rfl rfl) ?_
   obtain ⟨v_44, hc44, h⟩ := h
   refine sR (Sl.v v_44) (r_load1 rfl rfl underlying26 rfl hc44) ?_
   refine sR (.int .i64 (v_44.len : Int)) (r_lenSl rfl rfl underlying26) ?_
   refine sR (.int .i64 (IntKind.i64.wrap ((v_44.len : Int) + (1 : Int)))) (r_add rfl rfl rfl) ?_
   refine sR (.int .i64 (IntKind.i64.wrap ((v_44.len : Int) + (1 : Int)))) (r_assign rfl rfl) ?_
   refine HL_nil ?_
   refine HC_draw0 (by kernel_rfl) (fun hp => ?_)
   refine gU 0 (.pointer (some b0a_)) rfl (fun _ => r_move rfl rfl) hp ?_
   refine gU 1 (.pointer (some b0a_)) rfl (fun _ => r_nilCheck rfl rfl) hp ?_
   refine gU 2 (.pointer (some (Addr.add b0a_ 1))) rfl (fun _ => w_fieldAddr (a' := (Addr.add b0a_ 1)) rfl underlying84 rfl rfl sz82 rfl rfl) hp ?_
   obtain ⟨v_50, hc50, h⟩ := h
   refine gR 3 (.map v_50) rfl (r_load1 rfl rfl underlying82 rfl hc50) hp (fun S3 q3 => ?_)
   replace hp := holdC (i := 3) (q3 _ (r_load1 rfl rfl underlying82 rfl hc50)) hp
   obtain ⟨v_51, hs51, hc51, h⟩ := h
   refine gR 4 (.agg v_51) rfl (w_loadN rfl underlying72 rfl sz72 hs51 hc51) hp (fun S4 q4 => ?_)
   replace hp := holdC (i := 4) (q4 _ (w_loadN rfl underlying72 rfl sz72 hs51 hc51)) hp
   refine gU 5 (.int .i64 (IntKind.i64.wrap ((v_44.len : Int) + (1 : Int)))) rfl (fun _ => r_move rfl rfl) hp ?_
   refine RG_eff1 (i := 6) (by kernel_rfl) (g_op0 (Sp' := []) rfl rfl (k_mapUpdate rfl rfl rfl (runs_mono _ _ h ?_)))
   clear h; rintro _ F h
   refine holdI hold0 (fun hp => ?_)
   refine RG_done (by kernel_rfl) ?_
   refine cR ?_
   refine sR (.int .i64 (IntKind.i64.wrap ((v_44.len : Int) + (1 : Int)))) (r_move rfl rfl) ?_
   refine sR (.int .i64 (IntKind.i64.wrap ((v_44.len : Int) + (1 : Int)))) (r_assign rfl rfl) ?_
   refine HL_nil ?_
   exact HC_ret (show endQ prog f99 R .ret _ _ from ⟨_, res1 rfl (rv_tmp rfl), h⟩)
  ·
   replace h := h.2 hc
   clear hc
   refine HC_skip ?_
   refine cR ?_
   refine sR (.int .i64 v_26) (r_move rfl rfl) ?_
   refine sR (.int .i64 v_26) (r_assign rfl rfl) ?_
   refine HL_nil ?_
   exact HC_ret (show endQ prog f99 R .ret _ _ from ⟨_, res1 rfl (rv_tmp rfl), h⟩)

/- 95 (*koine.diagram.builder).diagram$1 -/
def b95 (n_0 : Int) (v_1 : Option Addr) (v_2 : Option Addr) (v_3 : Option Addr) (v_4 : Option Addr) (R : Value → PH → Prop) (F : PH) : Prop :=
 ∃ v1a_ : Addr, v_1 = some v1a_ ∧ ∃ v_13 : Option Nat, F.cell v1a_ = some (.map v_13) ∧
 ∃ (v_15 : Int) (ok15_ : Bool), rdo prog (Instr.lookup 109 (.map v_13) (.int .i64 n_0) true) F (.tuple #[(.int .i64 v_15), (.bool ok15_)]) ∧
 ((ok15_ = true →
  R (.int .i64 v_15) F) ∧
 (ok15_ = false →
  ∃ v2a_ : Addr, v_2 = some v2a_ ∧ ∃ v_20 : Option Addr, F.cell v2a_ = some (.pointer v_20) ∧
  ∃ v20a_ : Addr, v_20 = some v20a_ ∧ ∃ v_23 : Sl, F.cell v20a_ = some (Sl.v v_23) ∧
  ∃ a26_ : Addr, v_23.base = some a26_ ∧ 0 ≤ (IntKind.i64.wrap (n_0 - (2 : Int))) ∧ (IntKind.i64.wrap (n_0 - (2 : Int))) < (v_23.len : Int) ∧
  ∃ v_27 : Array Value, v_27.size = 3 ∧ F.row (Addr.add a26_ (Int.toNat (IntKind.i64.wrap (n_0 - (2 : Int))) * 3)) v_27 ∧
  ∀ b9, F b9 = none → atF (F.set b9 (.cells (#[.int .i64 0, .int .i64 0, .int .i64 0]) 72)) fun F =>
  v_27.size = 3 ∧ (∀ v ∈ v_27.toList, storable v) ∧ ∃ c e, F (Addr.mk b9 0 none).block = some (.cells c e (0, 0)) ∧ (Addr.mk b9 0 none).spot = none ∧ (Addr.mk b9 0 none).off + 3 ≤ c.size ∧
  atF (F.set (Addr.mk b9 0 none).block (.cells (wr c (Addr.mk b9 0 none).off v_27.toList) e)) fun F =>
  ∃ v3a_ : Addr, v_3 = some v3a_ ∧ ∃ v_28 : Value, F.cell v3a_ = some v_28 ∧
  ∃ v_30 : Int, F.cell (Addr.mk b9 1 none) = some (.int .i64 v_30) ∧
  ∃ (k31 : Nat) (fst31 cap31 : Array Value), v_28 = Value.func (.func k31) fst31 cap31 ∧ callableB prog k31 = true ∧ Spec prog k31 (fst31 ++ ([(Value.int .i64 v_30)]).toArray ++ cap31) F fun v F => ∃ v_31 : Int, v = (Value.int .i64 v_31) ∧
  ∃ v_32 : Value, F.cell v3a_ = some v_32 ∧
  ∃ v_34 : Int, F.cell (Addr.mk b9 2 none) = some (.int .i64 v_34) ∧
  ∃ (k35 : Nat) (fst35 cap35 : Array Value), v_32 = Value.func (.func k35) fst35 cap35 ∧ callableB prog k35 = true ∧ Spec prog k35 (fst35 ++ ([(Value.int .i64 v_34)]).toArray ++ cap35) F fun v F => ∃ v_35 : Int, v = (Value.int .i64 v_35) ∧
  ∃ v4a_ : Addr, v_4 = some v4a_ ∧ ∃ v_37 : Sl, F.cell v4a_ = some (Sl.v v_37) ∧
  ∃ v_39 : Int, F.cell (Addr.mk b9 0 none) = some (.int .i64 v_39) ∧
  (#[(.int .i64 v_39), (.int .i64 v_31), (.int .i64 v_35)] : Array Value).size = 3 ∧ ∀ b43, F b43 = none → atF (F.set b43 (.cells (#[(.int .i64 v_39), (.int .i64 v_31), (.int .i64 v_35)] : Array Value) 72)) fun F =>
  runs prog (Builtin.append_ #[26, 26] 26 #[(Sl.v v_37), (Sl.v (Sl.mk (some (Addr.mk b43 0 none)) 1 1))]) F fun v F => ∃ v_44 : Sl, v = (Sl.v v_44) ∧
  ∃ c e, F v4a_.block = some (.cells c e (0, 0)) ∧ v4a_.spot = none ∧ v4a_.off < c.size ∧
  atF (F.set v4a_.block (.cells (c.setIfInBounds v4a_.off (Sl.v v_44)) e)) fun F =>
  ∃ v_46 : Option Nat, F.cell v1a_ = some (.map v_46) ∧
  ∃ v_49 : Sl, F.cell v4a_ = some (Sl.v v_49) ∧
  runs prog (Instr.mapUpdate 109 (.map v_46) (.int .i64 n_0) (.int .i64 (IntKind.i64.wrap ((v_49.len : Int) + (1 : Int))))) F fun _ F =>
  ∃ v_52 : Option Nat, F.cell v1a_ = some (.map v_52) ∧
  ∃ v_54 : Int, rdo prog (Instr.lookup 109 (.map v_52) (.int .i64 n_0) false) F (.int .i64 v_54) ∧
  R (.int .i64 v_54) F))
theorem c95 {n_0 : Int} {v_1 : Option Addr} {v_2 : Option Addr} {v_3 : Option Addr} {v_4 : Option Addr} {R : Value → PH → Prop} {F : PH} (h : b95 n_0 v_1 v_2 v_3 v_4 R F) : Spec prog 95 #[(.int .i64 n_0), (.pointer v_1), (.pointer v_2), (.pointer v_3), (.pointer v_4)] F R := by
 refine spec_of (args := [(.int .i64 n_0), (.pointer v_1), (.pointer v_2), (.pointer v_3), (.pointer v_4)]) func95 rfl ntmps95 rfl ?_
 unfold b95 at h
 refine cR ?_
 refine sR (.int .i64 (0 : Int)) (r_assign rfl rfl) ?_
 refine HL_nil ?_
 refine HC_seq ?_
 refine cR ?_
 obtain ⟨v1a_, rfl, h⟩ := h
 obtain ⟨v_13, hc13, h⟩ := h
 refine sR (.map v_13) (r_load1 rfl rfl underlying109 rfl hc13) ?_
 refine sR (.int .i64 n_0) (r_move rfl rfl) ?_
 obtain ⟨v_15, ok15_, hc15, h⟩ := h
 refine sR (.tuple #[(.int .i64 v_15), (.bool ok15_)]) (r_lookup rfl rfl rfl hc15) ?_
 refine sR (.tuple #[(.int .i64 v_15), (.bool ok15_)]) (r_move rfl rfl) ?_
 refine sR (.int .i64 v_15) (r_extract rfl rfl rfl) ?_
 refine sR (.bool ok15_) (r_extract rfl rfl rfl) ?_
 refine sR (.int .i64 v_15) (r_assign rfl rfl) ?_
 refine sR (.bool ok15_) (r_assign rfl rfl) ?_
 refine HL_nil ?_
 refine cR ?_
 refine sR (.bool ok15_) (r_move rfl rfl) ?_
 refine HL_nil ?_
 refine HC_cond (t := ok15_) rfl (fun hc => ?_) (fun hc => ?_)
 ·
  replace h := h.1 hc
  clear hc
  refine cR ?_
  refine sR (.int .i64 v_15) (r_move rfl rfl) ?_
  refine sR (.int .i64 v_15) (r_assign rfl rfl) ?_
  refine HL_nil ?_
  exact HC_ret (show endQ prog f95 R .ret _ _ from ⟨_, res1 rfl (rv_tmp rfl), h⟩)
 ·
  replace h := h.2 hc
  clear hc
  refine HC_skip ?_
  refine cR ?_
  obtain ⟨v2a_, rfl, h⟩ := h
  obtain ⟨v_20, hc20, h⟩ := h
  refine sR (.pointer v_20) (r_load1 rfl rfl underlying81 rfl hc20) ?_
  obtain ⟨v20a_, rfl, h⟩ := h
  refine sR (.pointer (some v20a_)) (r_nilCheck rfl rfl) ?_
  refine sR (.pointer (some v20a_)) (w_fieldAddr (a' := v20a_) rfl underlying84 rfl rfl sz26 rfl rfl) ?_
  obtain ⟨v_23, hc23, h⟩ := h
  refine sR (Sl.v v_23) (r_load1 rfl rfl underlying26 rfl hc23) ?_
  refine sR (.int .i64 n_0) (r_move rfl rfl) ?_
  refine sR (.int .i64 (IntKind.i64.wrap (n_0 - (2 : Int)))) (r_sub rfl rfl rfl) ?_
  obtain ⟨a26_, hb26, hl26, hu26, h⟩ := h
  refine sR (.pointer (some (Addr.add a26_ (Int.toNat (IntKind.i64.wrap (n_0 - (2 : Int))) * 3)))) (w_indexAddr rfl rfl underlying26 sz72 hb26 hl26 hu26) ?_
  obtain ⟨v_27, hs27, hc27, h⟩ := h
  refine sR (.agg v_27) (w_loadN rfl underlying72 rfl sz72 hs27 hc27) ?_
  refine s_ef (k_alloc zr72 ?_)
  intro b9 hf_b9
  replace h := atE (h b9 hf_b9)
  refine s_ef0 (k_storeN (vs := v_27) rfl rfl sz72 (by decide) ?_)
  obtain ⟨hz1, hz2, c, e, hz3, hz4, hz5, h⟩ := h
  refine ⟨hz1, hz2, c, e, hz3, hz4, hz5, ?_⟩
  replace h := atE h
  refine HL_nil ?_
  refine cR ?_
  obtain ⟨v3a_, rfl, h⟩ := h
  obtain ⟨v_28, hc28, h⟩ := h
  refine sR v_28 (r_load1 rfl rfl underlying94 rfl hc28) ?_
  refine sR (.pointer (some (Addr.mk b9 1 none))) (w_fieldAddr (a' := (Addr.mk b9 1 none)) rfl underlying72 rfl rfl sz3 rfl rfl) ?_
  obtain ⟨v_30, hc30, h⟩ := h
  refine sR (.int .i64 v_30) (r_load1 rfl rfl underlying3 rfl hc30) ?_
  obtain ⟨_, _, _, hk1, hk2, h⟩ := h
  refine s_ef (k_callF (vs := [(.int .i64 v_30)]) hk2 ((rfl : _ = v_28).trans hk1) (evC rfl evN) (h.mono ?_))
  clear h; rintro v F ⟨v_31, rfl, h⟩
  refine sR (.int .i64 v_31) (r_assign rfl rfl) ?_
  refine HL_nil ?_
  refine cR ?_
  obtain ⟨v_32, hc32, h⟩ := h
  refine sR v_32 (r_load1 rfl rfl underlying94 rfl hc32) ?_
  refine sR (.pointer (some (Addr.mk b9 2 none))) (w_fieldAddr (a' := (Addr.mk b9 2 none)) rfl underlying72 rfl rfl sz3 rfl rfl) ?_
  obtain ⟨v_34, hc34, h⟩ := h
  refine sR (.int .i64 v_34) (r_load1 rfl rfl underlying3 rfl hc34) ?_
  obtain ⟨_, _, _, hk1, hk2, h⟩ := h
  refine s_ef (k_callF (vs := [(.int .i64 v_34)]) hk2 ((rfl : _ = v_32).trans hk1) (evC rfl evN) (h.mono ?_))
  clear h; rintro v F ⟨v_35, rfl, h⟩
  refine sR (.int .i64 v_35) (r_assign rfl rfl) ?_
  refine HL_nil ?_
  refine cR ?_
  obtain ⟨v4a_, rfl, h⟩ := h
  refine sR (.pointer (some v4a_)) (w_fieldAddr (a' := v4a_) rfl underlying28 rfl rfl sz26 rfl rfl) ?_
  obtain ⟨v_37, hc37, h⟩ := h
  refine sR (Sl.v v_37) (r_load1 rfl rfl underlying26 rfl hc37) ?_
  refine sR (.pointer (some (Addr.mk b9 0 none))) (w_fieldAddr (a' := (Addr.mk b9 0 none)) rfl underlying72 rfl rfl sz3 rfl rfl) ?_
  obtain ⟨v_39, hc39, h⟩ := h
  refine sR (.int .i64 v_39) (r_load1 rfl rfl underlying3 rfl hc39) ?_
  refine sR (.int .i64 v_31) (r_move rfl rfl) ?_
  refine sR (.int .i64 v_35) (r_move rfl rfl) ?_
  refine sR (.agg (#[(.int .i64 v_39), (.int .i64 v_31), (.int .i64 v_35)] : Array Value)) (w_buildStruct (cells := #[(.int .i64 v_39), (.int .i64 v_31), (.int .i64 v_35)]) underlying72 zr72 kf72 (evPC rfl (evPC rfl (evPC rfl evPN))) (fill1 (place_of rfl rfl sz3) rfl rfl (fill1 (place_of rfl rfl sz3) rfl rfl (fill1 (place_of rfl rfl sz3) rfl rfl (fillN rfl))))) ?_
  obtain ⟨hz43, h⟩ := h
  refine s_ef (k_buildSlice (cells := (#[(.int .i64 v_39), (.int .i64 v_31), (.int .i64 v_35)] : Array Value)) underlying26 sz72 (by decide) zr72 rfl (evPC rfl evPN) (fillWhole hz43 rfl rfl) rfl ?_)
  intro b43 hf_b43
  replace h := atE (h b43 hf_b43)
  refine s_ef (k_append rfl rfl (runs_mono _ _ h ?_))
  clear h; rintro v F ⟨v_44, rfl, h⟩
  refine sR (.pointer (some v4a_)) (w_fieldAddr (a' := v4a_) rfl underlying28 rfl rfl sz26 rfl rfl) ?_
  refine s_ef0 (k_store1 (v := (Sl.v v_44)) rfl rfl sz26 rfl st_sl ?_)
  obtain ⟨c, e, hz3, hz4, hz5, h⟩ := h
  refine ⟨c, e, hz3, hz4, hz5, ?_⟩
  replace h := atE h
  refine HL_nil ?_
  refine cR ?_
  obtain ⟨v_46, hc46, h⟩ := h
  refine sR (.map v_46) (r_load1 rfl rfl underlying109 rfl hc46) ?_
  refine sR (.int .i64 n_0) (r_move rfl rfl) ?_
  refine sR (.pointer (some v4a_)) (w_fieldAddr (a' := v4a_) rfl underlying28 rfl rfl sz26 rfl rfl) ?_
  obtain ⟨v_49, hc49, h⟩ := h
  refine sR (Sl.v v_49) (r_load1 rfl rfl underlying26 rfl hc49) ?_
  refine sR (.int .i64 (v_49.len : Int)) (r_lenSl rfl rfl underlying26) ?_
  refine sR (.int .i64 (IntKind.i64.wrap ((v_49.len : Int) + (1 : Int)))) (r_add rfl rfl rfl) ?_
  refine s_ef0 (k_mapUpdate rfl rfl rfl (runs_mono _ _ h ?_))
  clear h; rintro _ F h
  refine HL_nil ?_
  refine cR ?_
  obtain ⟨v_52, hc52, h⟩ := h
  refine sR (.map v_52) (r_load1 rfl rfl underlying109 rfl hc52) ?_
  refine sR (.int .i64 n_0) (r_move rfl rfl) ?_
  obtain ⟨v_54, hc54, h⟩ := h
  refine sR (.int .i64 v_54) (r_lookup rfl rfl rfl hc54) ?_
  refine sR (.int .i64 v_54) (r_assign rfl rfl) ?_
  refine HL_nil ?_
  exact HC_ret (show endQ prog f95 R .ret _ _ from ⟨_, res1 rfl (rv_tmp rfl), h⟩)

/- 64 (*koine.diagram.builder).diagram -/
def b64 (b_0 : Option Addr) (root_1 : Int) (R : Value → PH → Prop) (F : PH) : Prop :=
 ∀ b2, F b2 = none → atF (F.set b2 (.cells #[(.pointer b_0)] 81)) fun F =>
 ∀ b4, F b4 = none → atF (F.set b4 (.cells (#[.slice none 0 0, .int .i64 0]) 28)) fun F =>
 ∀ b5, F b5 = none → atF (F.set b5 (.cells (#[.slice none 0 0, .int .i64 0]) 28)) fun F =>
 (#[.slice none 0 0, .int .i64 0] : Array Value).size = 2 ∧ (∀ v ∈ (#[.slice none 0 0, .int .i64 0] : Array Value).toList, storable v) ∧ ∃ c e, F (Addr.mk b5 0 none).block = some (.cells c e (0, 0)) ∧ (Addr.mk b5 0 none).spot = none ∧ (Addr.mk b5 0 none).off + 2 ≤ c.size ∧
 atF (F.set (Addr.mk b5 0 none).block (.cells (wr c (Addr.mk b5 0 none).off (#[.slice none 0 0, .int .i64 0] : Array Value).toList) e)) fun F =>
 ∀ b9, F b9 = none → atF (F.set b9 (.map #[] 0)) fun F =>
 runs prog (Instr.mapUpdate 109 (.map (some b9)) (.int .i64 (0 : Int)) (.int .i64 (0 : Int))) F fun _ F =>
 runs prog (Instr.mapUpdate 109 (.map (some b9)) (.int .i64 (1 : Int)) (.int .i64 (1 : Int))) F fun _ F =>
 ∀ b6, F b6 = none → atF (F.set b6 (.cells (#[.map none]) 109)) fun F =>
 ∃ c e, F (Addr.mk b6 0 none).block = some (.cells c e (0, 0)) ∧ (Addr.mk b6 0 none).spot = none ∧ (Addr.mk b6 0 none).off < c.size ∧
 atF (F.set (Addr.mk b6 0 none).block (.cells (c.setIfInBounds (Addr.mk b6 0 none).off (.map (some b9))) e)) fun F =>
 ∀ b7, F b7 = none → atF (F.set b7 (.cells (#[.nilFunc]) 94)) fun F =>
 ∃ c e, F (Addr.mk b7 0 none).block = some (.cells c e (0, 0)) ∧ (Addr.mk b7 0 none).spot = none ∧ (Addr.mk b7 0 none).off < c.size ∧
 atF (F.set (Addr.mk b7 0 none).block (.cells (c.setIfInBounds (Addr.mk b7 0 none).off (.func (.func 95) #[] #[(.pointer (some (Addr.mk b6 0 none))), (.pointer (some (Addr.mk b2 0 none))), (.pointer (some (Addr.mk b7 0 none))), (.pointer (some (Addr.mk b5 0 none)))])) e)) fun F =>
 ∃ v_12 : Value, F.cell (Addr.mk b7 0 none) = some v_12 ∧
 ∃ (k14 : Nat) (fst14 cap14 : Array Value), v_12 = Value.func (.func k14) fst14 cap14 ∧ callableB prog k14 = true ∧ Spec prog k14 (fst14 ++ ([(Value.int .i64 root_1)]).toArray ++ cap14) F fun v F => ∃ v_14 : Int, v = (Value.int .i64 v_14) ∧
 ∃ c e, F (Addr.mk b5 1 none).block = some (.cells c e (0, 0)) ∧ (Addr.mk b5 1 none).spot = none ∧ (Addr.mk b5 1 none).off < c.size ∧
 atF (F.set (Addr.mk b5 1 none).block (.cells (c.setIfInBounds (Addr.mk b5 1 none).off (.int .i64 v_14)) e)) fun F =>
 ∃ v_16 : Array Value, v_16.size = 2 ∧ F.row (Addr.mk b5 0 none) v_16 ∧
 v_16.size = 2 ∧ (∀ v ∈ v_16.toList, storable v) ∧ ∃ c e, F (Addr.mk b4 0 none).block = some (.cells c e (0, 0)) ∧ (Addr.mk b4 0 none).spot = none ∧ (Addr.mk b4 0 none).off + 2 ≤ c.size ∧
 atF (F.set (Addr.mk b4 0 none).block (.cells (wr c (Addr.mk b4 0 none).off v_16.toList) e)) fun F =>
 ∃ vres_4 : Array Value, vres_4.size = 2 ∧ F.row (Addr.mk b4 0 none) vres_4 ∧ R (.agg vres_4) F
theorem c64 {b_0 : Option Addr} {root_1 : Int} {R : Value → PH → Prop} {F : PH} (h : b64 b_0 root_1 R F) : Spec prog 64 #[(.pointer b_0), (.int .i64 root_1)] F R := by
 refine spec_of (args := [(.pointer b_0), (.int .i64 root_1)]) func64 rfl ntmps64 rfl ?_
 unfold b64 at h
 refine cR ?_
 refine s_ef (k_box (cs := #[(.pointer b_0)]) rfl rfl ?_)
 intro b2 hf_b2
 replace h := atE (h b2 hf_b2)
 refine s_ef (k_alloc zr28 ?_)
 intro b4 hf_b4
 replace h := atE (h b4 hf_b4)
 refine HL_nil ?_
 refine cR ?_
 refine sR (.agg (#[.slice none 0 0, .int .i64 0] : Array Value)) (w_buildStruct (cells := #[.slice none 0 0, .int .i64 0]) underlying28 zr28 kf28 (evPN) (fillN rfl)) ?_
 refine s_ef (k_alloc zr28 ?_)
 intro b5 hf_b5
 replace h := atE (h b5 hf_b5)
 refine s_ef0 (k_storeN (vs := (#[.slice none 0 0, .int .i64 0] : Array Value)) rfl rfl sz28 (by decide) ?_)
 obtain ⟨hz1, hz2, c, e, hz3, hz4, hz5, h⟩ := h
 refine ⟨hz1, hz2, c, e, hz3, hz4, hz5, ?_⟩
 replace h := atE h
 refine HL_nil ?_
 refine cR ?_
 refine s_ef (k_makeMap0 ?_)
 intro b9 hf_b9
 replace h := atE (h b9 hf_b9)
 refine s_ef0 (k_insert rfl rfl rfl (runs_mono _ _ h ?_))
 clear h; rintro _ F h
 refine s_ef0 (k_insert rfl rfl rfl (runs_mono _ _ h ?_))
 clear h; rintro _ F h
 refine sR (.map (some b9)) (r_move rfl rfl) ?_
 refine s_ef (k_alloc zr109 ?_)
 intro b6 hf_b6
 replace h := atE (h b6 hf_b6)
 refine s_ef0 (k_store1 (v := (.map (some b9))) rfl rfl sz109 rfl st_map ?_)
 obtain ⟨c, e, hz3, hz4, hz5, h⟩ := h
 refine ⟨c, e, hz3, hz4, hz5, ?_⟩
 replace h := atE h
 refine HL_nil ?_
 refine cR ?_
 refine s_ef (k_alloc zr94 ?_)
 intro b7 hf_b7
 replace h := atE (h b7 hf_b7)
 refine HL_nil ?_
 refine cR ?_
 refine sR (.func (.func 95) #[] #[(.pointer (some (Addr.mk b6 0 none))), (.pointer (some (Addr.mk b2 0 none))), (.pointer (some (Addr.mk b7 0 none))), (.pointer (some (Addr.mk b5 0 none)))]) (w_makeFunc evN (evC rfl (evC rfl (evC rfl (evC rfl evN))))) ?_
 refine s_ef0 (k_store1 (v := (.func (.func 95) #[] #[(.pointer (some (Addr.mk b6 0 none))), (.pointer (some (Addr.mk b2 0 none))), (.pointer (some (Addr.mk b7 0 none))), (.pointer (some (Addr.mk b5 0 none)))])) rfl rfl sz94 rfl st_func ?_)
 obtain ⟨c, e, hz3, hz4, hz5, h⟩ := h
 refine ⟨c, e, hz3, hz4, hz5, ?_⟩
 replace h := atE h
 refine HL_nil ?_
 refine cR ?_
 obtain ⟨v_12, hc12, h⟩ := h
 refine sR v_12 (r_load1 rfl rfl underlying94 rfl hc12) ?_
 refine sR (.int .i64 root_1) (r_move rfl rfl) ?_
 obtain ⟨_, _, _, hk1, hk2, h⟩ := h
 refine s_ef (k_callF (vs := [(.int .i64 root_1)]) hk2 ((rfl : _ = v_12).trans hk1) (evC rfl evN) (h.mono ?_))
 clear h; rintro v F ⟨v_14, rfl, h⟩
 refine sR (.pointer (some (Addr.mk b5 1 none))) (w_fieldAddr (a' := (Addr.mk b5 1 none)) rfl underlying28 rfl rfl sz3 rfl rfl) ?_
 refine s_ef0 (k_store1 (v := (.int .i64 v_14)) rfl rfl sz3 rfl st_int ?_)
 obtain ⟨c, e, hz3, hz4, hz5, h⟩ := h
 refine ⟨c, e, hz3, hz4, hz5, ?_⟩
 replace h := atE h
 refine HL_nil ?_
 refine cR ?_
 obtain ⟨v_16, hs16, hc16, h⟩ := h
 refine sR (.agg v_16) (w_loadN rfl underlying28 rfl sz28 hs16 hc16) ?_
 refine s_ef0 (k_storeN (vs := v_16) rfl rfl sz28 (by decide) ?_)
 obtain ⟨hz1, hz2, c, e, hz3, hz4, hz5, h⟩ := h
 refine ⟨hz1, hz2, c, e, hz3, hz4, hz5, ?_⟩
 replace h := atE h
 refine HL_nil ?_
 obtain ⟨vres_4, hs4, hr4, h⟩ := h
 exact HC_ret (show endQ prog f64 R .ret _ _ from ⟨_, res1 rfl (rv_cellN rfl underlying28 rfl sz28 hs4 hr4), h⟩)

/- 63 koine.diagram.level -/
def b63 (d_0 : Array Value) (n_1 : Int) (R : Value → PH → Prop) (F : PH) : Prop :=
 ∀ b2, F b2 = none → atF (F.set b2 (.cells d_0 28)) fun F =>
 ((n_1 < (2 : Int) →
  R (.int .i64 (64 : Int)) F) ∧
 (¬ (n_1 < (2 : Int)) →
  ∃ v_8 : Sl, F.cell (Addr.mk b2 0 none) = some (Sl.v v_8) ∧
  ∃ a11_ : Addr, v_8.base = some a11_ ∧ 0 ≤ (IntKind.i64.wrap (n_1 - (2 : Int))) ∧ (IntKind.i64.wrap (n_1 - (2 : Int))) < (v_8.len : Int) ∧
  ∃ v_13 : Int, F.cell (Addr.add a11_ (Int.toNat (IntKind.i64.wrap (n_1 - (2 : Int))) * 3)) = some (.int .i64 v_13) ∧
  R (.int .i64 v_13) F))
theorem c63 {d_0 : Array Value} {n_1 : Int} {R : Value → PH → Prop} {F : PH} (h : b63 d_0 n_1 R F) : Spec prog 63 #[(.agg d_0), (.int .i64 n_1)] F R := by
 refine spec_of (args := [(.agg d_0), (.int .i64 n_1)]) func63 rfl ntmps63 rfl ?_
 unfold b63 at h
 refine cR ?_
 refine s_ef (k_box (cs := d_0) rfl rfl ?_)
 intro b2 hf_b2
 replace h := atE (h b2 hf_b2)
 refine sR (.int .i64 (0 : Int)) (r_assign rfl rfl) ?_
 refine HL_nil ?_
 refine HC_seq ?_
 refine cR ?_
 refine sR (.int .i64 n_1) (r_move rfl rfl) ?_
 refine sR (.bool (decide (n_1 < (2 : Int)))) (r_lss rfl rfl rfl) ?_
 refine HL_nil ?_
 refine HC_cond (t := (decide (n_1 < (2 : Int)))) rfl (fun hc => ?_) (fun hc => ?_)
 ·
  replace h := h.1 (of_decide_eq_true hc)
  clear hc
  refine cR ?_
  refine sR (.int .i64 (64 : Int)) (r_assign rfl rfl) ?_
  refine HL_nil ?_
  exact HC_ret (show endQ prog f63 R .ret _ _ from ⟨_, res1 rfl (rv_tmp rfl), h⟩)
 ·
  replace h := h.2 (of_decide_eq_false hc)
  clear hc
  refine HC_skip ?_
  refine cR ?_
  refine sR (.pointer (some (Addr.mk b2 0 none))) (w_fieldAddr (a' := (Addr.mk b2 0 none)) rfl underlying28 rfl rfl sz26 rfl rfl) ?_
  obtain ⟨v_8, hc8, h⟩ := h
  refine sR (Sl.v v_8) (r_load1 rfl rfl underlying26 rfl hc8) ?_
  refine sR (.int .i64 n_1) (r_move rfl rfl) ?_
  refine sR (.int .i64 (IntKind.i64.wrap (n_1 - (2 : Int)))) (r_sub rfl rfl rfl) ?_
  obtain ⟨a11_, hb11, hl11, hu11, h⟩ := h
  refine sR (.pointer (some (Addr.add a11_ (Int.toNat (IntKind.i64.wrap (n_1 - (2 : Int))) * 3)))) (w_indexAddr rfl rfl underlying26 sz72 hb11 hl11 hu11) ?_
  refine sR (.pointer (some (Addr.add a11_ (Int.toNat (IntKind.i64.wrap (n_1 - (2 : Int))) * 3)))) (w_fieldAddr (a' := (Addr.add a11_ (Int.toNat (IntKind.i64.wrap (n_1 - (2 : Int))) * 3))) rfl underlying72 rfl rfl sz3 rfl rfl) ?_
  obtain ⟨v_13, hc13, h⟩ := h
  refine sR (.int .i64 v_13) (r_load1 rfl rfl underlying3 rfl hc13) ?_
  refine sR (.int .i64 v_13) (r_assign rfl rfl) ?_
  refine HL_nil ?_
  exact HC_ret (show endQ prog f63 R .ret _ _ from ⟨_, res1 rfl (rv_tmp rfl), h⟩)

/- 98 koine.diagram.sides -/
def b98 (d_0 : Array Value) (n_1 : Int) (v_2 : Int) (R : Value → PH → Prop) (F : PH) : Prop :=
 ∀ b3, F b3 = none → atF (F.set b3 (.cells d_0 28)) fun F =>
 ∃ v_8 : Array Value, v_8.size = 2 ∧ F.row (Addr.mk b3 0 none) v_8 ∧
 Spec prog 63 #[(.agg v_8), (.int .i64 n_1)] F fun v F => ∃ v_10 : Int, v = (.int .i64 v_10) ∧
 ((v_10 ≠ v_2 →
  R (.tuple #[(.int .i64 n_1), (.int .i64 n_1)]) F) ∧
 (¬ (v_10 ≠ v_2) →
  ∃ v_16 : Sl, F.cell (Addr.mk b3 0 none) = some (Sl.v v_16) ∧
  ∃ a19_ : Addr, v_16.base = some a19_ ∧ 0 ≤ (IntKind.i64.wrap (n_1 - (2 : Int))) ∧ (IntKind.i64.wrap (n_1 - (2 : Int))) < (v_16.len : Int) ∧
  ∃ v_21 : Int, F.cell (Addr.add (Addr.add a19_ (Int.toNat (IntKind.i64.wrap (n_1 - (2 : Int))) * 3)) 1) = some (.int .i64 v_21) ∧
  ∃ v_23 : Sl, F.cell (Addr.mk b3 0 none) = some (Sl.v v_23) ∧
  ∃ a26_ : Addr, v_23.base = some a26_ ∧ 0 ≤ (IntKind.i64.wrap (n_1 - (2 : Int))) ∧ (IntKind.i64.wrap (n_1 - (2 : Int))) < (v_23.len : Int) ∧
  ∃ v_28 : Int, F.cell (Addr.add (Addr.add a26_ (Int.toNat (IntKind.i64.wrap (n_1 - (2 : Int))) * 3)) 2) = some (.int .i64 v_28) ∧
  R (.tuple #[(.int .i64 v_21), (.int .i64 v_28)]) F))
theorem c98 {d_0 : Array Value} {n_1 : Int} {v_2 : Int} {R : Value → PH → Prop} {F : PH} (h : b98 d_0 n_1 v_2 R F) : Spec prog 98 #[(.agg d_0), (.int .i64 n_1), (.int .i64 v_2)] F R := by
 refine spec_of (args := [(.agg d_0), (.int .i64 n_1), (.int .i64 v_2)]) func98 rfl ntmps98 rfl ?_
 unfold b98 at h
 refine cR ?_
 refine s_ef (k_box (cs := d_0) rfl rfl ?_)
 intro b3 hf_b3
 replace h := atE (h b3 hf_b3)
 refine sR (.int .i64 (0 : Int)) (r_assign rfl rfl) ?_
 refine sR (.int .i64 (0 : Int)) (r_assign rfl rfl) ?_
 refine HL_nil ?_
 refine HC_seq ?_
 refine cR ?_
 obtain ⟨v_8, hs8, hc8, h⟩ := h
 refine sR (.agg v_8) (w_loadN rfl underlying28 rfl sz28 hs8 hc8) ?_
 refine sR (.int .i64 n_1) (r_move rfl rfl) ?_
 refine s_ef (k_call (vs := [(.agg v_8), (.int .i64 n_1)]) cb63 (evC rfl (evC rfl evN)) (h.mono ?_))
 clear h; rintro v F ⟨v_10, rfl, h⟩
 refine sR (.int .i64 v_2) (r_move rfl rfl) ?_
 refine sR (.bool (decide (v_10 ≠ v_2))) (w_neq rfl rfl) ?_
 refine HL_nil ?_
 refine HC_cond (t := (decide (v_10 ≠ v_2))) rfl (fun hc => ?_) (fun hc => ?_)
 ·
  replace h := h.1 (of_decide_eq_true hc)
  clear hc
  refine cR ?_
  refine sR (.int .i64 n_1) (r_move rfl rfl) ?_
  refine sR (.int .i64 n_1) (r_move rfl rfl) ?_
  refine sR (.int .i64 n_1) (r_assign rfl rfl) ?_
  refine sR (.int .i64 n_1) (r_assign rfl rfl) ?_
  refine HL_nil ?_
  exact HC_ret (show endQ prog f98 R .ret _ _ from ⟨_, res2 rfl (rv_tmp rfl) (rv_tmp rfl), h⟩)
 ·
  replace h := h.2 (of_decide_eq_false hc)
  clear hc
  refine HC_skip ?_
  refine HC_seq ?_
  refine HC_draw0 (by kernel_rfl) (fun hp => ?_)
  refine gU 0 (.pointer (some (Addr.mk b3 0 none))) rfl (fun _ => w_fieldAddr (a' := (Addr.mk b3 0 none)) rfl underlying28 rfl rfl sz26 rfl rfl) hp ?_
  obtain ⟨v_16, hc16, h⟩ := h
  refine gR 1 (Sl.v v_16) rfl (r_load1 rfl rfl underlying26 rfl hc16) hp (fun S1 q1 => ?_)
  replace hp := holdC (i := 1) (q1 _ (r_load1 rfl rfl underlying26 rfl hc16)) hp
  refine gU 2 (.int .i64 n_1) rfl (fun _ => r_move rfl rfl) hp ?_
  refine gU 3 (.int .i64 (IntKind.i64.wrap (n_1 - (2 : Int)))) rfl (fun _ => r_sub rfl rfl rfl) hp ?_
  obtain ⟨a19_, hb19, hl19, hu19, h⟩ := h
  refine gU 4 (.pointer (some (Addr.add a19_ (Int.toNat (IntKind.i64.wrap (n_1 - (2 : Int))) * 3)))) rfl (fun _ => w_indexAddr rfl rfl underlying26 sz72 hb19 hl19 hu19) hp ?_
  refine gU 5 (.pointer (some (Addr.add (Addr.add a19_ (Int.toNat (IntKind.i64.wrap (n_1 - (2 : Int))) * 3)) 1))) rfl (fun _ => w_fieldAddr (a' := (Addr.add (Addr.add a19_ (Int.toNat (IntKind.i64.wrap (n_1 - (2 : Int))) * 3)) 1)) rfl underlying72 rfl rfl sz3 rfl rfl) hp ?_
  obtain ⟨v_21, hc21, h⟩ := h
  refine gR 6 (.int .i64 v_21) rfl (r_load1 rfl rfl underlying3 rfl hc21) hp (fun S6 q6 => ?_)
  replace hp := holdC (i := 6) (q6 _ (r_load1 rfl rfl underlying3 rfl hc21)) hp
  refine gU 7 (.pointer (some (Addr.mk b3 0 none))) rfl (fun _ => w_fieldAddr (a' := (Addr.mk b3 0 none)) rfl underlying28 rfl rfl sz26 rfl rfl) hp ?_
  obtain ⟨v_23, hc23, h⟩ := h
  refine gR 8 (Sl.v v_23) rfl (r_load1 rfl rfl underlying26 rfl hc23) hp (fun S8 q8 => ?_)
  replace hp := holdC (i := 8) (q8 _ (r_load1 rfl rfl underlying26 rfl hc23)) hp
  refine gU 9 (.int .i64 n_1) rfl (fun _ => r_move rfl rfl) hp ?_
  refine gU 10 (.int .i64 (IntKind.i64.wrap (n_1 - (2 : Int)))) rfl (fun _ => r_sub rfl rfl rfl) hp ?_
  obtain ⟨a26_, hb26, hl26, hu26, h⟩ := h
  refine gU 11 (.pointer (some (Addr.add a26_ (Int.toNat (IntKind.i64.wrap (n_1 - (2 : Int))) * 3)))) rfl (fun _ => w_indexAddr rfl rfl underlying26 sz72 hb26 hl26 hu26) hp ?_
  refine gU 12 (.pointer (some (Addr.add (Addr.add a26_ (Int.toNat (IntKind.i64.wrap (n_1 - (2 : Int))) * 3)) 2))) rfl (fun _ => w_fieldAddr (a' := (Addr.add (Addr.add a26_ (Int.toNat (IntKind.i64.wrap (n_1 - (2 : Int))) * 3)) 2)) rfl underlying72 rfl rfl sz3 rfl rfl) hp ?_
  obtain ⟨v_28, hc28, h⟩ := h
  refine gR 13 (.int .i64 v_28) rfl (r_load1 rfl rfl underlying3 rfl hc28) hp (fun S13 q13 => ?_)
  replace hp := holdC (i := 13) (q13 _ (r_load1 rfl rfl underlying3 rfl hc28)) hp
  refine gU 14 (.int .i64 v_21) rfl (fun _ => r_assign rfl rfl) hp ?_
  refine gU 15 (.int .i64 v_28) rfl (fun _ => r_assign rfl rfl) hp ?_
  refine RG_done (by kernel_rfl) ?_
  exact HC_ret (show endQ prog f98 R .ret _ _ from ⟨_, res2 rfl (rv_tmp rfl) (rv_tmp rfl), h⟩)

/- 24 koine.diagram.Same -/
def b24 (a_0 : Array Value) (b_1 : Array Value) (R : Value → PH → Prop) (F : PH) : Prop :=
 ∀ b2, F b2 = none → atF (F.set b2 (.cells a_0 28)) fun F =>
 ∀ b3, F b3 = none → atF (F.set b3 (.cells b_1 28)) fun F =>
 ∃ v_6 : Int, F.cell (Addr.mk b2 1 none) = some (.int .i64 v_6) ∧
 ∃ v_8 : Int, F.cell (Addr.mk b3 1 none) = some (.int .i64 v_8) ∧
 ((v_6 = v_8 →
  ∃ v_12 : Sl, F.cell (Addr.mk b2 0 none) = some (Sl.v v_12) ∧
  ∃ v_14 : Sl, F.cell (Addr.mk b3 0 none) = some (Sl.v v_14) ∧
  Spec prog 65 #[(Sl.v v_12), (Sl.v v_14)] F fun v F => ∃ v_15 : Bool, v = (.bool v_15) ∧
  R (.bool v_15) F) ∧
 (¬ (v_6 = v_8) →
  R (.bool false) F))
theorem c24 {a_0 : Array Value} {b_1 : Array Value} {R : Value → PH → Prop} {F : PH} (h : b24 a_0 b_1 R F) : Spec prog 24 #[(.agg a_0), (.agg b_1)] F R := by
 refine spec_of (args := [(.agg a_0), (.agg b_1)]) func24 rfl ntmps24 rfl ?_
 unfold b24 at h
 refine cR ?_
 refine s_ef (k_box (cs := a_0) rfl rfl ?_)
 intro b2 hf_b2
 replace h := atE (h b2 hf_b2)
 refine s_ef (k_box (cs := b_1) rfl rfl ?_)
 intro b3 hf_b3
 replace h := atE (h b3 hf_b3)
 refine sR (.bool false) (r_assign rfl rfl) ?_
 refine HL_nil ?_
 refine cR ?_
 refine sR (.pointer (some (Addr.mk b2 1 none))) (w_fieldAddr (a' := (Addr.mk b2 1 none)) rfl underlying28 rfl rfl sz3 rfl rfl) ?_
 obtain ⟨v_6, hc6, h⟩ := h
 refine sR (.int .i64 v_6) (r_load1 rfl rfl underlying3 rfl hc6) ?_
 refine sR (.pointer (some (Addr.mk b3 1 none))) (w_fieldAddr (a' := (Addr.mk b3 1 none)) rfl underlying28 rfl rfl sz3 rfl rfl) ?_
 obtain ⟨v_8, hc8, h⟩ := h
 refine sR (.int .i64 v_8) (r_load1 rfl rfl underlying3 rfl hc8) ?_
 refine sR (.bool (decide (v_6 = v_8))) (w_eql rfl rfl) ?_
 refine sR (.bool (decide (v_6 = v_8))) (r_move rfl rfl) ?_
 by_cases hc : v_6 = v_8
 ·
  replace h := h.1 hc
  refine kN 9 (decide_eq_true hc) ?_
  refine kN 10 (decide_eq_true hc) ?_
  refine sR (.pointer (some (Addr.mk b2 0 none))) (w_fieldAddr (a' := (Addr.mk b2 0 none)) rfl underlying28 rfl rfl sz26 rfl rfl) ?_
  obtain ⟨v_12, hc12, h⟩ := h
  refine sR (Sl.v v_12) (r_load1 rfl rfl underlying26 rfl hc12) ?_
  refine sR (.pointer (some (Addr.mk b3 0 none))) (w_fieldAddr (a' := (Addr.mk b3 0 none)) rfl underlying28 rfl rfl sz26 rfl rfl) ?_
  obtain ⟨v_14, hc14, h⟩ := h
  refine sR (Sl.v v_14) (r_load1 rfl rfl underlying26 rfl hc14) ?_
  refine s_ef (k_call (vs := [(Sl.v v_12), (Sl.v v_14)]) cb65 (evC rfl (evC rfl evN)) (h.mono ?_))
  clear h; rintro v F ⟨v_15, rfl, h⟩
  refine sR (.bool v_15) (r_pick rfl rfl (fun _ => rfl) (fun h => by cases h)) ?_
  refine sR (.bool v_15) (r_assign rfl rfl) ?_
  refine HL_nil ?_
  exact HC_ret (show endQ prog f24 R .ret _ _ from ⟨_, res1 rfl (rv_tmp rfl), h⟩)
 ·
  replace h := h.2 hc
  refine kN 9 (decide_eq_false hc) ?_
  refine kN 10 (decide_eq_false hc) ?_
  refine s_skip ?_
  refine s_skip ?_
  refine s_skip ?_
  refine s_skip ?_
  refine s_skip ?_
  refine sR (.bool false) (r_pick rfl rfl (fun h => by cases h) (fun _ => rfl)) ?_
  refine sR (.bool false) (r_assign rfl rfl) ?_
  refine HL_nil ?_
  exact HC_ret (show endQ prog f24 R .ret _ _ from ⟨_, res1 rfl (rv_tmp rfl), h⟩)

/- 65 slices.Equal[[]koine.api.Branch,koine.api.Branch] -/
def b65j1 (R : Value → PH → Prop) (F : PH) : Prop :=
 R (.bool true) F
abbrev b65J1 (R : Value → PH → Prop) (E : En) (F : PH) : Prop := b65j1 R F
def b65L1 (N1 : Int → PH → Prop) (s1_0 : Sl) (s2_1 : Sl) (R : Value → PH → Prop) (v_13 : Int) (F : PH) : Prop :=
 ((v_13 < (s1_0.len : Int) →
  ∃ a18_ : Addr, s1_0.base = some a18_ ∧ 0 ≤ v_13 ∧ v_13 < (s1_0.len : Int) ∧
  ∃ v_19 : Array Value, v_19.size = 3 ∧ F.row (Addr.add a18_ (Int.toNat v_13 * 3)) v_19 ∧
  ∃ a22_ : Addr, s2_1.base = some a22_ ∧ 0 ≤ v_13 ∧ v_13 < (s2_1.len : Int) ∧
  ∃ v_23 : Array Value, v_23.size = 3 ∧ F.row (Addr.add a22_ (Int.toNat v_13 * 3)) v_23 ∧
  ∃ v_24 : Bool, (∀ F, rdo prog (Op.equal 72 (.agg v_19) (.agg v_23)) F v_24) ∧
  (((!v_24) = true →
   R (.bool false) F) ∧
  ((!v_24) = false →
   N1 (IntKind.i64.wrap (v_13 + (1 : Int))) F))) ∧
 (¬ (v_13 < (s1_0.len : Int)) →
  b65j1 R F))
def b65 (s1_0 : Sl) (s2_1 : Sl) (R : Value → PH → Prop) (F : PH) : Prop :=
 (((s1_0.len : Int) ≠ (s2_1.len : Int) →
  R (.bool false) F) ∧
 (¬ ((s1_0.len : Int) ≠ (s2_1.len : Int)) →
  (∃ (I1 : Nat → Int → PH → Prop) (m1 : Nat), I1 m1 (0 : Int) F ∧ ∀ m1 v_13 F, I1 m1 v_13 F →
   b65L1 (fun v_13 F => ∃ m', m' < m1 ∧ I1 m' v_13 F) s1_0 s2_1 R v_13 F)))
theorem c65 {s1_0 : Sl} {s2_1 : Sl} {R : Value → PH → Prop} {F : PH} (h : b65 s1_0 s2_1 R F) : Spec prog 65 #[(Sl.v s1_0), (Sl.v s2_1)] F R := by
 refine spec_of (args := [(Sl.v s1_0), (Sl.v s2_1)]) func65 rfl ntmps65 rfl ?_
 unfold b65 at h
 refine cR ?_
 refine sR (.bool false) (r_assign rfl rfl) ?_
 refine HL_nil ?_
 refine HC_seq ?_
 refine cR ?_
 refine sR (Sl.v s1_0) (r_move rfl rfl) ?_
 refine sR (.int .i64 (s1_0.len : Int)) (r_lenSl rfl rfl underlying26) ?_
 refine sR (Sl.v s2_1) (r_move rfl rfl) ?_
 refine sR (.int .i64 (s2_1.len : Int)) (r_lenSl rfl rfl underlying26) ?_
 refine sR (.bool (decide ((s1_0.len : Int) ≠ (s2_1.len : Int)))) (w_neq rfl rfl) ?_
 refine HL_nil ?_
 refine HC_cond (t := (decide ((s1_0.len : Int) ≠ (s2_1.len : Int)))) rfl (fun hc => ?_) (fun hc => ?_)
 ·
  replace h := h.1 (of_decide_eq_true hc)
  clear hc
  refine cR ?_
  refine sR (.bool false) (r_assign rfl rfl) ?_
  refine HL_nil ?_
  exact HC_ret (show endQ prog f65 R .ret _ _ from ⟨_, res1 rfl (rv_tmp rfl), h⟩)
 ·
  replace h := h.2 (of_decide_eq_false hc)
  clear hc
  refine HC_skip ?_
  refine HC_seqJ (b65J1 R) ?_ ?_
  ·
   clear h; rintro E F h
   unfold b65J1 at h; unfold b65j1 at h
   refine cR ?_
   refine sR (.bool true) (r_assign rfl rfl) ?_
   refine HL_nil ?_
   exact HC_ret (show endQ prog f65 R .ret _ _ from ⟨_, res1 rfl (rv_tmp rfl), h⟩)
  ·
   skip
   refine cR ?_
   refine sR (Sl.v s1_0) (r_move rfl rfl) ?_
   refine sR (.int .i64 (s1_0.len : Int)) (r_lenSl rfl rfl underlying26) ?_
   refine sR (.int .i64 (0 : Int)) (r_move rfl rfl) ?_
   refine HL_nil ?_
   refine HC_block ?_
   obtain ⟨I1, m1, hI0, hr⟩ := h
   refine HC_loop (fun m1 E F => ∃ v_13 : Int, E 0 = (Sl.v s1_0) ∧ E 1 = (Sl.v s2_1) ∧ E 12 = (.int .i64 (s1_0.len : Int)) ∧ E 13 = (.int .i64 v_13) ∧ I1 m1 v_13 F) m1 ⟨_, rfl, rfl, rfl, rfl, hI0⟩ ?_
   clear hI0; rintro m1 E F ⟨v_13, h0, h1, h12, h13, hI⟩
   have h := hr m1 v_13 F hI
   clear hr hI
   unfold b65L1 at h
   refine cR ?_
   refine sR (.bool (decide (v_13 < (s1_0.len : Int)))) (r_lss rfl h13 h12) ?_
   refine HL_nil ?_
   refine HC_seq ?_
   refine HC_cond (t := (decide (v_13 < (s1_0.len : Int)))) rfl (fun hc => ?_) (fun hc => ?_)
   ·
    replace h := h.1 (of_decide_eq_true hc)
    clear hc
    refine HC_skip ?_
    refine HC_seq ?_
    refine HC_block ?_
    refine cR ?_
    refine sR (.int .i64 v_13) (r_move rfl h13) ?_
    refine sR (.int .i64 v_13) (r_assign rfl rfl) ?_
    refine HL_nil ?_
    refine HC_seq ?_
    refine HC_draw0 (by kernel_rfl) (fun hp => ?_)
    refine gU 0 (Sl.v s1_0) rfl (fun _ => r_move rfl h0) hp ?_
    refine gU 1 (.int .i64 v_13) rfl (fun _ => r_move rfl rfl) hp ?_
    obtain ⟨a18_, hb18, hl18, hu18, h⟩ := h
    refine gU 2 (.pointer (some (Addr.add a18_ (Int.toNat v_13 * 3)))) rfl (fun _ => w_indexAddr rfl rfl underlying26 sz72 hb18 hl18 hu18) hp ?_
    obtain ⟨v_19, hs19, hc19, h⟩ := h
    refine gR 3 (.agg v_19) rfl (w_loadN rfl underlying72 rfl sz72 hs19 hc19) hp (fun S3 q3 => ?_)
    replace hp := holdC (i := 3) (q3 _ (w_loadN rfl underlying72 rfl sz72 hs19 hc19)) hp
    refine gU 4 (Sl.v s2_1) rfl (fun _ => r_move rfl h1) hp ?_
    refine gU 5 (.int .i64 v_13) rfl (fun _ => r_move rfl rfl) hp ?_
    obtain ⟨a22_, hb22, hl22, hu22, h⟩ := h
    refine gU 6 (.pointer (some (Addr.add a22_ (Int.toNat v_13 * 3)))) rfl (fun _ => w_indexAddr rfl rfl underlying26 sz72 hb22 hl22 hu22) hp ?_
    obtain ⟨v_23, hs23, hc23, h⟩ := h
    refine gR 7 (.agg v_23) rfl (w_loadN rfl underlying72 rfl sz72 hs23 hc23) hp (fun S7 q7 => ?_)
    replace hp := holdC (i := 7) (q7 _ (w_loadN rfl underlying72 rfl sz72 hs23 hc23)) hp
    obtain ⟨v_24, hx24, h⟩ := h
    refine gU 8 (.bool (!v_24)) rfl (fun _ => r_neqAg rfl rfl rfl eg72 (hx24 _)) hp ?_
    refine RG_done (by kernel_rfl) ?_
    refine HC_cond (t := (!v_24)) rfl (fun hc => ?_) (fun hc => ?_)
    ·
     replace h := h.1 hc
     clear hc
     refine cR ?_
     refine sR (.bool false) (r_assign rfl rfl) ?_
     refine HL_nil ?_
     exact HC_ret (show endQ prog f65 R .ret _ _ from ⟨_, res1 rfl (rv_tmp rfl), h⟩)
    ·
     replace h := h.2 hc
     clear hc
     refine HC_skip ?_
     refine HC_region ?_
     refine sR (.int .i64 (IntKind.i64.wrap (v_13 + (1 : Int)))) (r_add rfl h13 rfl) ?_
     refine sR (.int .i64 (IntKind.i64.wrap (v_13 + (1 : Int)))) (r_move rfl rfl) ?_
     refine HL_nil ?_
     obtain ⟨m', hm, h⟩ := h
     exact ⟨m', hm, _, h0, h1, h12, rfl, h⟩
   ·
    replace h := h.2 (of_decide_eq_false hc)
    clear hc
    refine HC_exit ?_
    exact h

end Go.Proofs.Ytafojmoeaneedaa
