/-
  What functions of the program do, in a clean form, each with the proof that its code does so. Printed by a program.
-/
import Derived.Test.YtnjcgpihfmklfaaDoorGf
import Derived.Test.YtnjcgpihfmklfaaDoorPhp
namespace Go.Proofs.YtnjcgpihfmklfaaDoor
open Go Go.Proofs.Tryd
set_option maxRecDepth 10000
set_option maxHeartbeats 4000000
/- 27 koine.koineref04.Same -/
def b27j1 (R : VP) (F : PH) :=
 R (.bool true) F
abbrev b27J1 (R : VP) (E : En) (F : PH) : Prop := b27j1 R F
def b27L1 (N1 : Int → PH → Prop) (p_0 : Sl) (q_1 : Sl) (R : VP) (i_5 : Int) (F : PH) :=
 ((i_5 < (p_0.len : Int) →
  ∃ a19_ : Addr, p_0.base = some a19_ ∧ 0 ≤ i_5 ∧ i_5 < (p_0.len : Int) ∧
  ∃ v_20 : Array Value, v_20.size = 5 ∧ F.row (Addr.add a19_ (Int.toNat i_5 * 5)) v_20 ∧
  ∃ a23_ : Addr, q_1.base = some a23_ ∧ 0 ≤ i_5 ∧ i_5 < (q_1.len : Int) ∧
  ∃ v_24 : Array Value, v_24.size = 5 ∧ F.row (Addr.add a23_ (Int.toNat i_5 * 5)) v_24 ∧
  ∃ v_25 : Bool, (∀ F, rdo prog (Op.equal 50 (.agg v_20) (.agg v_24)) F v_25) ∧
  (((!v_25) = true →
   R (.bool false) F) ∧
  ((!v_25) = false →
   N1 (IntKind.i64.wrap (i_5 + 1)) F))) ∧
 (¬ (i_5 < (p_0.len : Int)) →
  b27j1 R F))
def b27 (p_0 : Sl) (q_1 : Sl) (R : VP) (F : PH) :=
 (((p_0.len : Int) ≠ (q_1.len : Int) →
  R (.bool false) F) ∧
 (¬ ((p_0.len : Int) ≠ (q_1.len : Int)) →
  (∃ (I1 : Nat → Int → PH → Prop) (m1 : Nat), I1 m1 0 F ∧ ∀ m1 i_5 F, I1 m1 i_5 F →
   b27L1 (nx1 I1 m1) p_0 q_1 R i_5 F)))
theorem c27 {p_0 : Sl} {q_1 : Sl} {R : VP} {F : PH} (h : b27 p_0 q_1 R F) : Spec prog 27 #[(Sl.v p_0), (Sl.v q_1)] F R := by
 refine spec_of (args := [(Sl.v p_0), (Sl.v q_1)]) func27 rfl ntmps27 rfl ?_
 unfold b27 at h
 refine cR (sR (.bool false) (r_assign rfl rfl) ?_)
 refine HL_nil ?_
 refine HC_seq ?_
 refine cR (sR (Sl.v p_0) (r_move rfl rfl) ?_)
 refine sR (.int .i64 (p_0.len : Int)) (r_lenSl rfl rfl underlying25) ?_
 refine sR (Sl.v q_1) (r_move rfl rfl) ?_
 refine sR (.int .i64 (q_1.len : Int)) (r_lenSl rfl rfl underlying25) ?_
 refine sR (.bool (decide ((p_0.len : Int) ≠ (q_1.len : Int)))) (w_neq rfl rfl) ?_
 refine HL_nil ?_
 refine HC_cond (t := (decide ((p_0.len : Int) ≠ (q_1.len : Int)))) rfl (fun hc => ?_) (fun hc => ?_)
 replace h := h.1 (of_decide_eq_true hc)
 clear hc
 refine cR (sR (.bool false) (r_assign rfl rfl) ?_)
 exact HL_nil (HC_ret (rt1 f27 R rfl rfl h))
 replace h := h.2 (of_decide_eq_false hc)
 clear hc
 refine HC_skip ?_
 refine HC_seqJ (b27J1 R) ?_ ?_
 clear h; rintro E F h
 unfold b27J1 at h; unfold b27j1 at h
 refine cR (sR (.bool true) (r_assign rfl rfl) ?_)
 exact HL_nil (HC_ret (rt1 f27 R rfl rfl h))
 refine cR (sR (.int .i64 0) (r_assign rfl rfl) ?_)
 refine HL_nil ?_
 refine HC_block ?_
 obtain ⟨I1, m1, hI0, hr⟩ := h
 refine HC_loop (fun m1 E F => ∃ i_5 : Int, E 0 = (Sl.v p_0) ∧ E 1 = (Sl.v q_1) ∧ E 5 = (.int .i64 i_5) ∧ I1 m1 i_5 F) m1 ⟨_, rfl, rfl, rfl, hI0⟩ ?_
 clear hI0; rintro m1 E F ⟨i_5, h0, h1, h5, hI⟩
 have h := hr m1 i_5 F hI
 clear hr hI
 unfold b27L1 at h
 refine HC_seq ?_
 refine cR (sR _ (r_move rfl h5) ?_)
 refine sR _ (r_move rfl h0) ?_
 refine sR (.int .i64 (p_0.len : Int)) (r_lenSl rfl rfl underlying25) ?_
 refine sR (.bool (decide (i_5 < (p_0.len : Int)))) (r_lss rfl rfl rfl) ?_
 refine HL_nil ?_
 refine HC_cond (t := (decide (i_5 < (p_0.len : Int)))) rfl (fun hc => ?_) (fun hc => ?_)
 replace h := h.1 (of_decide_eq_true hc)
 clear hc
 refine HC_skip ?_
 refine HC_seq ?_
 refine HC_block ?_
 refine HC_seq ?_
 refine HC_draw0 (by kernel_rfl) (fun hp => ?_)
 refine gU 0 (Sl.v p_0) rfl (fun _ => r_move rfl h0) hp ?_
 refine gU 1 (.int .i64 i_5) rfl (fun _ => r_move rfl h5) hp ?_
 obtain ⟨a19_, hb19, hl19, hu19, h⟩ := h
 refine gU 2 (.pointer (some (Addr.add a19_ (Int.toNat i_5 * 5)))) rfl (fun _ => w_indexAddr rfl rfl underlying25 sz50 hb19 hl19 hu19) hp ?_
 obtain ⟨v_20, hs20, hc20, h⟩ := h
 refine gR 3 (.agg v_20) rfl (w_loadN rfl underlying50 rfl sz50 hs20 hc20) hp (fun S3 q3 => ?_)
 replace hp := holdC (i := 3) (q3 _ (w_loadN rfl underlying50 rfl sz50 hs20 hc20)) hp
 refine gU 4 (Sl.v q_1) rfl (fun _ => r_move rfl h1) hp ?_
 refine gU 5 (.int .i64 i_5) rfl (fun _ => r_move rfl h5) hp ?_
 obtain ⟨a23_, hb23, hl23, hu23, h⟩ := h
 refine gU 6 (.pointer (some (Addr.add a23_ (Int.toNat i_5 * 5)))) rfl (fun _ => w_indexAddr rfl rfl underlying25 sz50 hb23 hl23 hu23) hp ?_
 obtain ⟨v_24, hs24, hc24, h⟩ := h
 refine gR 7 (.agg v_24) rfl (w_loadN rfl underlying50 rfl sz50 hs24 hc24) hp (fun S7 q7 => ?_)
 replace hp := holdC (i := 7) (q7 _ (w_loadN rfl underlying50 rfl sz50 hs24 hc24)) hp
 obtain ⟨v_25, hx25, h⟩ := h
 refine gU 8 (.bool (!v_25)) rfl (fun _ => r_neqAg rfl rfl rfl eg50 (hx25 _)) hp ?_
 refine RG_done (by kernel_rfl) ?_
 refine HC_cond (t := (!v_25)) rfl (fun hc => ?_) (fun hc => ?_)
 replace h := h.1 hc
 clear hc
 refine cR (sR (.bool false) (r_assign rfl rfl) ?_)
 exact HL_nil (HC_ret (rt1 f27 R rfl rfl h))
 replace h := h.2 hc
 clear hc
 refine HC_skip ?_
 refine HC_region ?_
 refine sR _ (r_move rfl h5) ?_
 refine sR (.int .i64 (IntKind.i64.wrap (i_5 + 1))) (r_add rfl rfl rfl) ?_
 refine sR (.int .i64 (IntKind.i64.wrap (i_5 + 1))) (r_assign rfl rfl) ?_
 refine HL_nil ?_
 obtain ⟨m', hm, h⟩ := h
 exact ⟨m', hm, _, h0, h1, rfl, h⟩
 replace h := h.2 (of_decide_eq_false hc)
 clear hc
 refine HC_exit ?_
 exact h
 /- 28 koine.koinelaw04.repeated -/
end Go.Proofs.YtnjcgpihfmklfaaDoor
