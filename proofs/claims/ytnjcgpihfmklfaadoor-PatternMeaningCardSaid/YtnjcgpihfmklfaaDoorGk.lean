/-
  What functions of the program do, in a clean form, each with the proof that its code does so. Printed by a program.
-/
import Derived.Test.YtnjcgpihfmklfaaDoorGf
import Derived.Test.YtnjcgpihfmklfaaDoorPhp
namespace Go.Proofs.YtnjcgpihfmklfaaDoor
open Go Go.Proofs.Tryd
set_option maxRecDepth 10000
set_option maxHeartbeats 4000000
/- 33 koine.koinelaw04.word -/
def b33j1 (out_5 : Sl) (R : Value → PH → Prop) (F : PH) : Prop :=
 ∃ v_29 : ByteArray, rdo prog (Conv.bytesToString (Sl.v out_5)) F (.string v_29) ∧
 R (.string v_29) F
abbrev b33J1 (R : Value → PH → Prop) (E : En) (F : PH) : Prop := ∃ out_5 : Sl, E 5 = (Sl.v out_5) ∧ b33j1 out_5 R F
def b33L1 (N1 : Sl → Int → PH → Prop) (l_0 : Sl) (most_1 : Int) (R : Value → PH → Prop) (out_5_1 : Sl) (i_6 : Int) (F : PH) : Prop :=
 ((i_6 < (l_0.len : Int) →
  ((i_6 < most_1 →
   ∃ a22_ : Addr, l_0.base = some a22_ ∧ 0 ≤ i_6 ∧ i_6 < (l_0.len : Int) ∧
   ∃ v_23 : Int, F.cell (Addr.add a22_ (Int.toNat i_6 * 1)) = some (.int .u8 v_23) ∧
   ∀ b26, F b26 = none → atF (F.set b26 (.cells #[(.int .u8 (IntKind.u8.wrap ((97 : Int) + (Int.tmod v_23 (3 : Int)))))] 5)) fun F =>
   runs prog (Builtin.append_ #[22, 22] 22 #[(Sl.v out_5_1), (Sl.v (Sl.mk (some (Addr.mk b26 0 none)) 1 1))]) F fun v F => ∃ v_27 : Sl, v = (Sl.v v_27) ∧
   N1 v_27 (IntKind.i64.wrap (i_6 + (1 : Int))) F) ∧
  (¬ (i_6 < most_1) →
   b33j1 out_5_1 R F))) ∧
 (¬ (i_6 < (l_0.len : Int)) →
  b33j1 out_5_1 R F))
def b33 (l_0 : Sl) (most_1 : Int) (R : Value → PH → Prop) (F : PH) : Prop :=
 ∀ b7, F b7 = none → atF (F.set b7 (.cells #[] 5)) fun F =>
 (∃ (I1 : Nat → Sl → Int → PH → Prop) (m1 : Nat), I1 m1 (Sl.mk (some (Addr.mk b7 0 none)) 0 0) (0 : Int) F ∧ ∀ m1 out_5_1 i_6 F, I1 m1 out_5_1 i_6 F →
  b33L1 (fun y1_0 y1_1 F => ∃ m', m' < m1 ∧ I1 m' y1_0 y1_1 F) l_0 most_1 R out_5_1 i_6 F)
theorem c33 {l_0 : Sl} {most_1 : Int} {R : Value → PH → Prop} {F : PH} (h : b33 l_0 most_1 R F) : Spec prog 33 #[(Sl.v l_0), (.int .i64 most_1)] F R := by
 refine spec_of (args := [(Sl.v l_0), (.int .i64 most_1)]) func33 rfl ntmps33 rfl ?_
 unfold b33 at h
 refine cR ?_
 refine sR (.string (ByteArray.mk #[])) (r_assign rfl rfl) ?_
 refine HL_nil ?_
 refine cR ?_
 refine s_ef (k_buildSeq (l := []) underlying22 sz5 (by decide) zr5 rfl rfl trivial evPN ?_)
 intro b7 hf_b7
 replace h := atE (h b7 hf_b7)
 refine sR (Sl.v (Sl.mk (some (Addr.mk b7 0 none)) 0 0)) (r_assign rfl rfl) ?_
 refine HL_nil ?_
 refine HC_seqJ (b33J1 R) ?_ ?_
 ·
  clear h; rintro E F ⟨out_5, h5, h⟩
  unfold b33j1 at h
  refine cR ?_
  refine sR (Sl.v out_5) (r_move rfl h5) ?_
  obtain ⟨v_29, hc29, h⟩ := h
  refine sR (.string v_29) (r_convBS rfl rfl underlying22 underlying9 underlying5 ⟨_, _, _, rfl⟩ hc29) ?_
  refine sR (.string v_29) (r_assign rfl rfl) ?_
  refine HL_nil ?_
  exact HC_ret (show endQ prog f33 R .ret _ _ from ⟨_, res1 rfl (rv_tmp rfl), h⟩)
 ·
  skip
  refine cR ?_
  refine sR (.int .i64 (0 : Int)) (r_assign rfl rfl) ?_
  refine HL_nil ?_
  refine HC_block ?_
  obtain ⟨I1, m1, hI0, hr⟩ := h
  refine HC_loop (fun m1 E F => ∃ out_5_1 : Sl, ∃ i_6 : Int, E 0 = (Sl.v l_0) ∧ E 1 = (.int .i64 most_1) ∧ E 5 = (Sl.v out_5_1) ∧ E 6 = (.int .i64 i_6) ∧ I1 m1 out_5_1 i_6 F) m1 ⟨_, _, rfl, rfl, rfl, rfl, hI0⟩ ?_
  clear hI0; rintro m1 E F ⟨out_5_1, i_6, h0, h1, h5, h6, hI⟩
  have h := hr m1 out_5_1 i_6 F hI
  clear hr hI
  unfold b33L1 at h
  refine HC_seq ?_
  refine cR ?_
  refine sR (.int .i64 i_6) (r_move rfl h6) ?_
  refine sR (Sl.v l_0) (r_move rfl h0) ?_
  refine sR (.int .i64 (l_0.len : Int)) (r_lenSl rfl rfl underlying22) ?_
  refine sR (.bool (decide (i_6 < (l_0.len : Int)))) (r_lss rfl rfl rfl) ?_
  refine sR (.bool (decide (i_6 < (l_0.len : Int)))) (r_move rfl rfl) ?_
  by_cases hc : i_6 < (l_0.len : Int)
  ·
   replace h := h.1 hc
   refine kN 11 (decide_eq_true hc) ?_
   refine kN 12 (decide_eq_true hc) ?_
   refine sR (.int .i64 i_6) (r_move rfl h6) ?_
   refine sR (.int .i64 most_1) (r_move rfl h1) ?_
   refine sR (.bool (decide (i_6 < most_1))) (r_lss rfl rfl rfl) ?_
   refine sR (.bool (decide (i_6 < most_1))) (r_pick rfl rfl (fun _ => rfl) (fun h => by cases h)) ?_
   refine HL_nil ?_
   refine HC_cond (t := (decide (i_6 < most_1))) rfl (fun hc => ?_) (fun hc => ?_)
   ·
    replace h := h.1 (of_decide_eq_true hc)
    clear hc
    refine HC_skip ?_
    refine HC_seq ?_
    refine HC_block ?_
    refine HC_region ?_
    refine sR (Sl.v out_5_1) (r_move rfl h5) ?_
    refine sR (Sl.v l_0) (r_move rfl h0) ?_
    refine sR (.int .i64 i_6) (r_move rfl h6) ?_
    obtain ⟨a22_, hb22, hl22, hu22, h⟩ := h
    refine sR (.pointer (some (Addr.add a22_ (Int.toNat i_6 * 1)))) (w_indexAddr rfl rfl underlying22 sz5 hb22 hl22 hu22) ?_
    obtain ⟨v_23, hc23, h⟩ := h
    refine sR (.int .u8 v_23) (r_load1 rfl rfl underlying5 rfl hc23) ?_
    refine sR (.int .u8 (Int.tmod v_23 (3 : Int))) (r_rem rfl rfl rfl (by decide)) ?_
    refine sR (.int .u8 (IntKind.u8.wrap ((97 : Int) + (Int.tmod v_23 (3 : Int))))) (r_add rfl rfl rfl) ?_
    refine s_ef (k_buildSeq (l := [(.int .u8 (IntKind.u8.wrap ((97 : Int) + (Int.tmod v_23 (3 : Int)))))]) underlying22 sz5 (by decide) zr5 rfl rfl ⟨rfl, trivial⟩ (evPC rfl evPN) ?_)
    intro b26 hf_b26
    replace h := atE (h b26 hf_b26)
    refine s_ef (k_append rfl rfl (runs_mono _ _ h ?_))
    clear h; rintro v F ⟨v_27, rfl, h⟩
    refine sR (Sl.v v_27) (r_assign rfl rfl) ?_
    refine HL_nil ?_
    refine HC_region ?_
    refine sR (.int .i64 i_6) (r_move rfl h6) ?_
    refine sR (.int .i64 (IntKind.i64.wrap (i_6 + (1 : Int)))) (r_add rfl rfl rfl) ?_
    refine sR (.int .i64 (IntKind.i64.wrap (i_6 + (1 : Int)))) (r_assign rfl rfl) ?_
    refine HL_nil ?_
    obtain ⟨m', hm, h⟩ := h
    exact ⟨m', hm, _, _, h0, h1, rfl, rfl, h⟩
   ·
    replace h := h.2 (of_decide_eq_false hc)
    clear hc
    refine HC_exit ?_
    show b33J1 R _ _
    exact ⟨_, h5, h⟩
  ·
   replace h := h.2 hc
   refine kN 11 (decide_eq_false hc) ?_
   refine kN 12 (decide_eq_false hc) ?_
   refine s_skip ?_
   refine s_skip ?_
   refine s_skip ?_
   refine sR (.bool false) (r_pick rfl rfl (fun h => by cases h) (fun _ => rfl)) ?_
   refine HL_nil ?_
   refine HC_condF rfl ?_
   refine HC_exit ?_
   show b33J1 R _ _
   exact ⟨_, h5, h⟩

end Go.Proofs.YtnjcgpihfmklfaaDoor
