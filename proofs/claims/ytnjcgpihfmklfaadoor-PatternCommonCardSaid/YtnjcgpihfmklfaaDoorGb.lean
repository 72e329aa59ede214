/-
  What functions of the program do, in a clean form, each with the proof that its code does so. Printed by a program.
-/
import Derived.Test.YtnjcgpihfmklfaaDoorGf
import Derived.Test.YtnjcgpihfmklfaaDoorPhp
namespace Go.Proofs.YtnjcgpihfmklfaaDoor
open Go Go.Proofs.Tryd
set_option maxRecDepth 10000
set_option maxHeartbeats 4000000
/- 90 koine.koineref04.plain -/
def b90j1 (b_0 : Int) (R : Value → PH → Prop) (F : PH) : Prop :=
 (((33 : Int) ≤ b_0 →
  R (.bool (decide (b_0 ≤ (126 : Int)))) F) ∧
 (¬ ((33 : Int) ≤ b_0) →
  R (.bool false) F))
abbrev b90J1 (b_0 : Int) (R : Value → PH → Prop) (E : En) (F : PH) : Prop := E 0 = (.int .u8 b_0) ∧ b90j1 b_0 R F
def b90L1 (N1 : Int → PH → Prop) (b_0 : Int) (R : Value → PH → Prop) (i_3 : Int) (F : PH) : Prop :=
 ((i_3 < (8 : Int) →
  0 ≤ i_3 ∧ i_3 < ((ByteArray.mk #[40, 41, 42, 45, 91, 92, 93, 124]).size : Int) ∧
  ∃ (hx : Int.toNat i_3 < (ByteArray.mk #[40, 41, 42, 45, 91, 92, 93, 124]).size) (v_10 : Int), v_10 = (((ByteArray.mk #[40, 41, 42, 45, 91, 92, 93, 124])[Int.toNat i_3]'hx).toNat : Int) ∧
  ((b_0 = v_10 →
   R (.bool false) F) ∧
  (¬ (b_0 = v_10) →
   N1 (IntKind.i64.wrap (i_3 + (1 : Int))) F))) ∧
 (¬ (i_3 < (8 : Int)) →
  b90j1 b_0 R F))
def b90 (b_0 : Int) (R : Value → PH → Prop) (F : PH) : Prop :=
 (∃ (I1 : Nat → Int → PH → Prop) (m1 : Nat), I1 m1 (0 : Int) F ∧ ∀ m1 i_3 F, I1 m1 i_3 F →
  b90L1 (fun y1_0 F => ∃ m', m' < m1 ∧ I1 m' y1_0 F) b_0 R i_3 F)
theorem c90 {b_0 : Int} {R : Value → PH → Prop} {F : PH} (h : b90 b_0 R F) : Spec prog 90 #[(.int .u8 b_0)] F R := by
 refine spec_of (args := [(.int .u8 b_0)]) func90 rfl ntmps90 rfl ?_
 unfold b90 at h
 refine cR ?_
 refine sR (.bool false) (r_assign rfl rfl) ?_
 refine HL_nil ?_
 refine HC_seqJ (b90J1 b_0 R) ?_ ?_
 ·
  clear h; rintro E F ⟨h0, h⟩
  unfold b90j1 at h
  refine cR ?_
  refine sR (.int .u8 b_0) (r_move rfl h0) ?_
  refine sR (.bool (decide ((33 : Int) ≤ b_0))) (r_geq rfl rfl rfl) ?_
  refine sR (.bool (decide ((33 : Int) ≤ b_0))) (r_move rfl rfl) ?_
  by_cases hc : (33 : Int) ≤ b_0
  ·
   replace h := h.1 hc
   refine kN 13 (decide_eq_true hc) ?_
   refine kN 14 (decide_eq_true hc) ?_
   refine sR (.int .u8 b_0) (r_move rfl h0) ?_
   refine sR (.bool (decide (b_0 ≤ (126 : Int)))) (r_leq rfl rfl rfl) ?_
   refine sR (.bool (decide (b_0 ≤ (126 : Int)))) (r_pick rfl rfl (fun _ => rfl) (fun h => by cases h)) ?_
   refine sR (.bool (decide (b_0 ≤ (126 : Int)))) (r_assign rfl rfl) ?_
   refine HL_nil ?_
   exact HC_ret (show endQ prog f90 R .ret _ _ from ⟨_, res1 rfl (rv_tmp rfl), h⟩)
  ·
   replace h := h.2 hc
   refine kN 13 (decide_eq_false hc) ?_
   refine kN 14 (decide_eq_false hc) ?_
   refine s_skip ?_
   refine s_skip ?_
   refine sR (.bool false) (r_pick rfl rfl (fun h => by cases h) (fun _ => rfl)) ?_
   refine sR (.bool false) (r_assign rfl rfl) ?_
   refine HL_nil ?_
   exact HC_ret (show endQ prog f90 R .ret _ _ from ⟨_, res1 rfl (rv_tmp rfl), h⟩)
 ·
  skip
  refine cR ?_
  refine sR (.int .i64 (0 : Int)) (r_assign rfl rfl) ?_
  refine HL_nil ?_
  refine HC_block ?_
  obtain ⟨I1, m1, hI0, hr⟩ := h
  refine HC_loop (fun m1 E F => ∃ i_3 : Int, E 0 = (.int .u8 b_0) ∧ E 3 = (.int .i64 i_3) ∧ I1 m1 i_3 F) m1 ⟨_, rfl, rfl, hI0⟩ ?_
  clear hI0; rintro m1 E F ⟨i_3, h0, h3, hI⟩
  have h := hr m1 i_3 F hI
  clear hr hI
  unfold b90L1 at h
  refine HC_seq ?_
  refine cR ?_
  refine sR (.int .i64 i_3) (r_move rfl h3) ?_
  refine sR (.bool (decide (i_3 < (8 : Int)))) (r_lss rfl rfl rfl) ?_
  refine HL_nil ?_
  refine HC_cond (t := (decide (i_3 < (8 : Int)))) rfl (fun hc => ?_) (fun hc => ?_)
  ·
   replace h := h.1 (of_decide_eq_true hc)
   clear hc
   refine HC_skip ?_
   refine HC_seq ?_
   refine HC_block ?_
   refine cR ?_
   refine sR (.int .u8 b_0) (r_move rfl h0) ?_
   refine sR (.int .i64 i_3) (r_move rfl h3) ?_
   obtain ⟨hl10, hu10, hx10, v_10, hv10, h⟩ := h
   refine sR (.int .u8 v_10) (w_indexStr rfl rfl underlying9 hl10 hu10 hv10) ?_
   refine sR (.bool (decide (b_0 = v_10))) (w_eql rfl rfl) ?_
   refine HL_nil ?_
   refine HC_cond (t := (decide (b_0 = v_10))) rfl (fun hc => ?_) (fun hc => ?_)
   ·
    replace h := h.1 (of_decide_eq_true hc)
    clear hc
    refine cR ?_
    refine sR (.bool false) (r_assign rfl rfl) ?_
    refine HL_nil ?_
    exact HC_ret (show endQ prog f90 R .ret _ _ from ⟨_, res1 rfl (rv_tmp rfl), h⟩)
   ·
    replace h := h.2 (of_decide_eq_false hc)
    clear hc
    refine HC_skip ?_
    refine HC_region ?_
    refine sR (.int .i64 i_3) (r_move rfl h3) ?_
    refine sR (.int .i64 (IntKind.i64.wrap (i_3 + (1 : Int)))) (r_add rfl rfl rfl) ?_
    refine sR (.int .i64 (IntKind.i64.wrap (i_3 + (1 : Int)))) (r_assign rfl rfl) ?_
    refine HL_nil ?_
    obtain ⟨m', hm, h⟩ := h
    exact ⟨m', hm, _, h0, rfl, h⟩
  ·
   replace h := h.2 (of_decide_eq_false hc)
   clear hc
   refine HC_exit ?_
   show b90J1 b_0 R _ _
   exact ⟨h0, h⟩

/- 97 koine.koineref04.digit -/
def b97j1 (R : Value → PH → Prop) (F : PH) : Prop :=
 R (.int .i64 (-1 : Int)) F
abbrev b97J1 (R : Value → PH → Prop) (E : En) (F : PH) : Prop := b97j1 R F
def b97L1 (N1 : Int → PH → Prop) (b_0 : Int) (R : Value → PH → Prop) (i_3 : Int) (F : PH) : Prop :=
 ((i_3 < (16 : Int) →
  0 ≤ i_3 ∧ i_3 < ((ByteArray.mk #[48, 49, 50, 51, 52, 53, 54, 55, 56, 57, 97, 98, 99, 100, 101, 102]).size : Int) ∧
  ∃ (hx : Int.toNat i_3 < (ByteArray.mk #[48, 49, 50, 51, 52, 53, 54, 55, 56, 57, 97, 98, 99, 100, 101, 102]).size) (v_10 : Int), v_10 = (((ByteArray.mk #[48, 49, 50, 51, 52, 53, 54, 55, 56, 57, 97, 98, 99, 100, 101, 102])[Int.toNat i_3]'hx).toNat : Int) ∧
  ((b_0 = v_10 →
   R (.int .i64 i_3) F) ∧
  (¬ (b_0 = v_10) →
   N1 (IntKind.i64.wrap (i_3 + (1 : Int))) F))) ∧
 (¬ (i_3 < (16 : Int)) →
  b97j1 R F))
def b97 (b_0 : Int) (R : Value → PH → Prop) (F : PH) : Prop :=
 (∃ (I1 : Nat → Int → PH → Prop) (m1 : Nat), I1 m1 (0 : Int) F ∧ ∀ m1 i_3 F, I1 m1 i_3 F →
  b97L1 (fun y1_0 F => ∃ m', m' < m1 ∧ I1 m' y1_0 F) b_0 R i_3 F)
theorem c97 {b_0 : Int} {R : Value → PH → Prop} {F : PH} (h : b97 b_0 R F) : Spec prog 97 #[(.int .u8 b_0)] F R := by
 refine spec_of (args := [(.int .u8 b_0)]) func97 rfl ntmps97 rfl ?_
 unfold b97 at h
 refine cR ?_
 refine sR (.int .i64 (0 : Int)) (r_assign rfl rfl) ?_
 refine HL_nil ?_
 refine HC_seqJ (b97J1 R) ?_ ?_
 ·
  clear h; rintro E F h
  unfold b97J1 at h; unfold b97j1 at h
  refine cR ?_
  refine sR (.int .i64 (-1 : Int)) (r_assign rfl rfl) ?_
  refine HL_nil ?_
  exact HC_ret (show endQ prog f97 R .ret _ _ from ⟨_, res1 rfl (rv_tmp rfl), h⟩)
 ·
  skip
  refine cR ?_
  refine sR (.int .i64 (0 : Int)) (r_assign rfl rfl) ?_
  refine HL_nil ?_
  refine HC_block ?_
  obtain ⟨I1, m1, hI0, hr⟩ := h
  refine HC_loop (fun m1 E F => ∃ i_3 : Int, E 0 = (.int .u8 b_0) ∧ E 3 = (.int .i64 i_3) ∧ I1 m1 i_3 F) m1 ⟨_, rfl, rfl, hI0⟩ ?_
  clear hI0; rintro m1 E F ⟨i_3, h0, h3, hI⟩
  have h := hr m1 i_3 F hI
  clear hr hI
  unfold b97L1 at h
  refine HC_seq ?_
  refine cR ?_
  refine sR (.int .i64 i_3) (r_move rfl h3) ?_
  refine sR (.bool (decide (i_3 < (16 : Int)))) (r_lss rfl rfl rfl) ?_
  refine HL_nil ?_
  refine HC_cond (t := (decide (i_3 < (16 : Int)))) rfl (fun hc => ?_) (fun hc => ?_)
  ·
   replace h := h.1 (of_decide_eq_true hc)
   clear hc
   refine HC_skip ?_
   refine HC_seq ?_
   refine HC_block ?_
   refine cR ?_
   refine sR (.int .u8 b_0) (r_move rfl h0) ?_
   refine sR (.int .i64 i_3) (r_move rfl h3) ?_
   obtain ⟨hl10, hu10, hx10, v_10, hv10, h⟩ := h
   refine sR (.int .u8 v_10) (w_indexStr rfl rfl underlying9 hl10 hu10 hv10) ?_
   refine sR (.bool (decide (b_0 = v_10))) (w_eql rfl rfl) ?_
   refine HL_nil ?_
   refine HC_cond (t := (decide (b_0 = v_10))) rfl (fun hc => ?_) (fun hc => ?_)
   ·
    replace h := h.1 (of_decide_eq_true hc)
    clear hc
    refine cR ?_
    refine sR (.int .i64 i_3) (r_move rfl h3) ?_
    refine sR (.int .i64 i_3) (r_assign rfl rfl) ?_
    refine HL_nil ?_
    exact HC_ret (show endQ prog f97 R .ret _ _ from ⟨_, res1 rfl (rv_tmp rfl), h⟩)
   ·
    replace h := h.2 (of_decide_eq_false hc)
    clear hc
    refine HC_skip ?_
    refine HC_region ?_
    refine sR (.int .i64 i_3) (r_move rfl h3) ?_
    refine sR (.int .i64 (IntKind.i64.wrap (i_3 + (1 : Int)))) (r_add rfl rfl rfl) ?_
    refine sR (.int .i64 (IntKind.i64.wrap (i_3 + (1 : Int)))) (r_assign rfl rfl) ?_
    refine HL_nil ?_
    obtain ⟨m', hm, h⟩ := h
    exact ⟨m', hm, _, h0, rfl, h⟩
  ·
   replace h := h.2 (of_decide_eq_false hc)
   clear hc
   refine HC_exit ?_
   exact h

/- 96 koine.koineref04.character -/
def b96j2 (s_0 : ByteArray) (at_1 : Int) (v_55 : Bool) (R : Value → PH → Prop) (F : PH) : Prop :=
 ((v_55 = true →
  0 ≤ (IntKind.i64.wrap (at_1 + (2 : Int))) ∧ (IntKind.i64.wrap (at_1 + (2 : Int))) < (s_0.size : Int) ∧
  ∃ (hx : Int.toNat (IntKind.i64.wrap (at_1 + (2 : Int))) < s_0.size) (v_59 : Int), v_59 = ((s_0[Int.toNat (IntKind.i64.wrap (at_1 + (2 : Int)))]'hx).toNat : Int) ∧
  0 ≤ (IntKind.i64.wrap (at_1 + (3 : Int))) ∧ (IntKind.i64.wrap (at_1 + (3 : Int))) < (s_0.size : Int) ∧
  ∃ (hx : Int.toNat (IntKind.i64.wrap (at_1 + (3 : Int))) < s_0.size) (v_65 : Int), v_65 = ((s_0[Int.toNat (IntKind.i64.wrap (at_1 + (3 : Int)))]'hx).toNat : Int) ∧
  Spec prog 97 #[(.int .u8 v_59)] F fun v F => ∃ v_60 : Int, v = (.int .i64 v_60) ∧
  Spec prog 97 #[(.int .u8 v_65)] F fun v F => ∃ v_66 : Int, v = (.int .i64 v_66) ∧
  R (.tuple #[(.int .i64 (IntKind.i64.wrap ((IntKind.i64.wrap ((16 : Int) * v_60)) + v_66))), (.int .i64 (IntKind.i64.wrap (at_1 + (4 : Int))))]) F) ∧
 (v_55 = false →
  R (.tuple #[(.int .i64 (0 : Int)), (.int .i64 (-1 : Int))]) F))
abbrev b96J2 (s_0 : ByteArray) (at_1 : Int) (R : Value → PH → Prop) (E : En) (F : PH) : Prop := ∃ v_55 : Bool, E 0 = (.string s_0) ∧ E 1 = (.int .i64 at_1) ∧ E 55 = (.bool v_55) ∧ b96j2 s_0 at_1 v_55 R F
def b96j1 (s_0 : ByteArray) (at_1 : Int) (v_15 : Bool) (R : Value → PH → Prop) (F : PH) : Prop :=
 ((v_15 = true →
  0 ≤ at_1 ∧ at_1 < (s_0.size : Int) ∧
  ∃ (hx : Int.toNat at_1 < s_0.size) (v_18 : Int), v_18 = ((s_0[Int.toNat at_1]'hx).toNat : Int) ∧
  R (.tuple #[(.int .i64 (IntKind.i64.wrap v_18)), (.int .i64 (IntKind.i64.wrap (at_1 + (1 : Int))))]) F) ∧
 (v_15 = false →
  (((IntKind.i64.wrap (at_1 + (3 : Int))) < (s_0.size : Int) →
   0 ≤ at_1 ∧ at_1 < (s_0.size : Int) ∧
   ∃ (hx : Int.toNat at_1 < s_0.size) (v_30 : Int), v_30 = ((s_0[Int.toNat at_1]'hx).toNat : Int) ∧
   ((v_30 = (92 : Int) →
    0 ≤ (IntKind.i64.wrap (at_1 + (1 : Int))) ∧ (IntKind.i64.wrap (at_1 + (1 : Int))) < (s_0.size : Int) ∧
    ∃ (hx : Int.toNat (IntKind.i64.wrap (at_1 + (1 : Int))) < s_0.size) (v_37 : Int), v_37 = ((s_0[Int.toNat (IntKind.i64.wrap (at_1 + (1 : Int)))]'hx).toNat : Int) ∧
    ((v_37 = (120 : Int) →
     0 ≤ (IntKind.i64.wrap (at_1 + (2 : Int))) ∧ (IntKind.i64.wrap (at_1 + (2 : Int))) < (s_0.size : Int) ∧
     ∃ (hx : Int.toNat (IntKind.i64.wrap (at_1 + (2 : Int))) < s_0.size) (v_44 : Int), v_44 = ((s_0[Int.toNat (IntKind.i64.wrap (at_1 + (2 : Int)))]'hx).toNat : Int) ∧
     Spec prog 97 #[(.int .u8 v_44)] F fun v F => ∃ v_45 : Int, v = (.int .i64 v_45) ∧
     (((0 : Int) ≤ v_45 →
      0 ≤ (IntKind.i64.wrap (at_1 + (3 : Int))) ∧ (IntKind.i64.wrap (at_1 + (3 : Int))) < (s_0.size : Int) ∧
      ∃ (hx : Int.toNat (IntKind.i64.wrap (at_1 + (3 : Int))) < s_0.size) (v_52 : Int), v_52 = ((s_0[Int.toNat (IntKind.i64.wrap (at_1 + (3 : Int)))]'hx).toNat : Int) ∧
      Spec prog 97 #[(.int .u8 v_52)] F fun v F => ∃ v_53 : Int, v = (.int .i64 v_53) ∧
      b96j2 s_0 at_1 (decide ((0 : Int) ≤ v_53)) R F) ∧
     (¬ ((0 : Int) ≤ v_45) →
      b96j2 s_0 at_1 false R F))) ∧
    (¬ (v_37 = (120 : Int)) →
     b96j2 s_0 at_1 false R F))) ∧
   (¬ (v_30 = (92 : Int)) →
    b96j2 s_0 at_1 false R F))) ∧
  (¬ ((IntKind.i64.wrap (at_1 + (3 : Int))) < (s_0.size : Int)) →
   b96j2 s_0 at_1 false R F))))
abbrev b96J1 (s_0 : ByteArray) (at_1 : Int) (R : Value → PH → Prop) (E : En) (F : PH) : Prop := ∃ v_15 : Bool, E 0 = (.string s_0) ∧ E 1 = (.int .i64 at_1) ∧ E 15 = (.bool v_15) ∧ b96j1 s_0 at_1 v_15 R F
def b96 (s_0 : ByteArray) (at_1 : Int) (R : Value → PH → Prop) (F : PH) : Prop :=
 ((at_1 < (s_0.size : Int) →
  0 ≤ at_1 ∧ at_1 < (s_0.size : Int) ∧
  ∃ (hx : Int.toNat at_1 < s_0.size) (v_13 : Int), v_13 = ((s_0[Int.toNat at_1]'hx).toNat : Int) ∧
  Spec prog 90 #[(.int .u8 v_13)] F fun v F => ∃ v_14 : Bool, v = (.bool v_14) ∧
  b96j1 s_0 at_1 v_14 R F) ∧
 (¬ (at_1 < (s_0.size : Int)) →
  b96j1 s_0 at_1 false R F))
theorem c96 {s_0 : ByteArray} {at_1 : Int} {R : Value → PH → Prop} {F : PH} (h : b96 s_0 at_1 R F) : Spec prog 96 #[(.string s_0), (.int .i64 at_1)] F R := by
 refine spec_of (args := [(.string s_0), (.int .i64 at_1)]) func96 rfl ntmps96 rfl ?_
 unfold b96 at h
 refine cR ?_
 refine sR (.int .i64 (0 : Int)) (r_assign rfl rfl) ?_
 refine sR (.int .i64 (0 : Int)) (r_assign rfl rfl) ?_
 refine HL_nil ?_
 refine HC_seq ?_
 refine HC_seqJ (b96J1 s_0 at_1 R) ?_ ?_
 ·
  clear h; rintro E F ⟨v_15, h0, h1, h15, h⟩
  unfold b96j1 at h
  refine HC_cond (t := v_15) h15 (fun hc => ?_) (fun hc => ?_)
  ·
   replace h := h.1 hc
   clear hc
   refine cR ?_
   refine sR (.string s_0) (r_move rfl h0) ?_
   refine sR (.int .i64 at_1) (r_move rfl h1) ?_
   obtain ⟨hl18, hu18, hx18, v_18, hv18, h⟩ := h
   refine sR (.int .u8 v_18) (w_indexStr rfl rfl underlying9 hl18 hu18 hv18) ?_
   refine sR (.int .i64 (IntKind.i64.wrap v_18)) (r_convInt rfl rfl underlying5 underlying3) ?_
   refine sR (.int .i64 at_1) (r_move rfl h1) ?_
   refine sR (.int .i64 (IntKind.i64.wrap (at_1 + (1 : Int)))) (r_add rfl rfl rfl) ?_
   refine sR (.int .i64 (IntKind.i64.wrap v_18)) (r_assign rfl rfl) ?_
   refine sR (.int .i64 (IntKind.i64.wrap (at_1 + (1 : Int)))) (r_assign rfl rfl) ?_
   refine HL_nil ?_
   exact HC_ret (show endQ prog f96 R .ret _ _ from ⟨_, res2 rfl (rv_tmp rfl) (rv_tmp rfl), h⟩)
  ·
   replace h := h.2 hc
   clear hc
   refine HC_skip ?_
   refine HC_seq ?_
   refine HC_seqJ (b96J2 s_0 at_1 R) ?_ ?_
   ·
    clear h; rintro E F ⟨v_55, h0, h1, h55, h⟩
    unfold b96j2 at h
    refine HC_cond (t := v_55) h55 (fun hc => ?_) (fun hc => ?_)
    ·
     replace h := h.1 hc
     clear hc
     refine HC_seq ?_
     refine HC_draw0 (by kernel_rfl) (fun hp => ?_)
     refine gU 0 (.string s_0) rfl (fun _ => r_move rfl h0) hp ?_
     refine gU 1 (.int .i64 at_1) rfl (fun _ => r_move rfl h1) hp ?_
     refine gU 2 (.int .i64 (IntKind.i64.wrap (at_1 + (2 : Int)))) rfl (fun _ => r_add rfl rfl rfl) hp ?_
     obtain ⟨hl59, hu59, hx59, v_59, hv59, h⟩ := h
     refine gU 3 (.int .u8 v_59) rfl (fun _ => w_indexStr rfl rfl underlying9 hl59 hu59 hv59) hp ?_
     refine gU 6 (.string s_0) rfl (fun _ => r_move rfl h0) hp ?_
     refine gU 7 (.int .i64 at_1) rfl (fun _ => r_move rfl h1) hp ?_
     refine gU 8 (.int .i64 (IntKind.i64.wrap (at_1 + (3 : Int)))) rfl (fun _ => r_add rfl rfl rfl) hp ?_
     obtain ⟨hl65, hu65, hx65, v_65, hv65, h⟩ := h
     refine gU 9 (.int .u8 v_65) rfl (fun _ => w_indexStr rfl rfl underlying9 hl65 hu65 hv65) hp ?_
     refine gU 12 (.int .i64 at_1) rfl (fun _ => r_move rfl h1) hp ?_
     refine gU 13 (.int .i64 (IntKind.i64.wrap (at_1 + (4 : Int)))) rfl (fun _ => r_add rfl rfl rfl) hp ?_
     refine RG_eff1 (i := 4) (by kernel_rfl) (g_op (Sp' := []) rfl rfl (k_call (vs := [(.int .u8 v_59)]) cb97 (evC rfl evN) (h.mono ?_)))
     clear h; rintro v F ⟨v_60, rfl, h⟩
     refine holdI hold0 (fun hp => ?_)
     refine gU 5 (.int .i64 (IntKind.i64.wrap ((16 : Int) * v_60))) rfl (fun _ => r_mul rfl rfl rfl) hp ?_
     refine RG_eff1 (i := 10) (by kernel_rfl) (g_op (Sp' := []) rfl rfl (k_call (vs := [(.int .u8 v_65)]) cb97 (evC rfl evN) (h.mono ?_)))
     clear h; rintro v F ⟨v_66, rfl, h⟩
     refine holdI hold0 (fun hp => ?_)
     refine gU 11 (.int .i64 (IntKind.i64.wrap ((IntKind.i64.wrap ((16 : Int) * v_60)) + v_66))) rfl (fun _ => r_add rfl rfl rfl) hp ?_
     refine gU 14 (.int .i64 (IntKind.i64.wrap ((IntKind.i64.wrap ((16 : Int) * v_60)) + v_66))) rfl (fun _ => r_assign rfl rfl) hp ?_
     refine gU 15 (.int .i64 (IntKind.i64.wrap (at_1 + (4 : Int)))) rfl (fun _ => r_assign rfl rfl) hp ?_
     refine RG_done (by kernel_rfl) ?_
     exact HC_ret (show endQ prog f96 R .ret _ _ from ⟨_, res2 rfl (rv_tmp rfl) (rv_tmp rfl), h⟩)
    ·
     replace h := h.2 hc
     clear hc
     refine HC_skip ?_
     refine cR ?_
     refine sR (.int .i64 (0 : Int)) (r_assign rfl rfl) ?_
     refine sR (.int .i64 (-1 : Int)) (r_assign rfl rfl) ?_
     refine HL_nil ?_
     exact HC_ret (show endQ prog f96 R .ret _ _ from ⟨_, res2 rfl (rv_tmp rfl) (rv_tmp rfl), h⟩)
   ·
    skip
    refine HC_region ?_
    refine sR (.int .i64 at_1) (r_move rfl h1) ?_
    refine sR (.int .i64 (IntKind.i64.wrap (at_1 + (3 : Int)))) (r_add rfl rfl rfl) ?_
    refine sR (.string s_0) (r_move rfl h0) ?_
    refine sR (.int .i64 (s_0.size : Int)) (r_lenStr rfl rfl underlying9) ?_
    refine sR (.bool (decide ((IntKind.i64.wrap (at_1 + (3 : Int))) < (s_0.size : Int)))) (r_lss rfl rfl rfl) ?_
    refine sR (.bool (decide ((IntKind.i64.wrap (at_1 + (3 : Int))) < (s_0.size : Int)))) (r_move rfl rfl) ?_
    by_cases hc : (IntKind.i64.wrap (at_1 + (3 : Int))) < (s_0.size : Int)
    ·
     replace h := h.1 hc
     refine kN 26 (decide_eq_true hc) ?_
     refine kN 27 (decide_eq_true hc) ?_
     refine sR (.string s_0) (r_move rfl h0) ?_
     refine sR (.int .i64 at_1) (r_move rfl h1) ?_
     obtain ⟨hl30, hu30, hx30, v_30, hv30, h⟩ := h
     refine sR (.int .u8 v_30) (w_indexStr rfl rfl underlying9 hl30 hu30 hv30) ?_
     refine sR (.bool (decide (v_30 = (92 : Int)))) (w_eql rfl rfl) ?_
     refine sR (.bool (decide (v_30 = (92 : Int)))) (r_pick rfl rfl (fun _ => rfl) (fun h => by cases h)) ?_
     refine sR (.bool (decide (v_30 = (92 : Int)))) (r_move rfl rfl) ?_
     by_cases hc : v_30 = (92 : Int)
     ·
      replace h := h.1 hc
      refine kN 31 (decide_eq_true hc) ?_
      refine kN 32 (decide_eq_true hc) ?_
      refine kN 33 (decide_eq_true hc) ?_
      refine sR (.string s_0) (r_move rfl h0) ?_
      refine sR (.int .i64 at_1) (r_move rfl h1) ?_
      refine sR (.int .i64 (IntKind.i64.wrap (at_1 + (1 : Int)))) (r_add rfl rfl rfl) ?_
      obtain ⟨hl37, hu37, hx37, v_37, hv37, h⟩ := h
      refine sR (.int .u8 v_37) (w_indexStr rfl rfl underlying9 hl37 hu37 hv37) ?_
      refine sR (.bool (decide (v_37 = (120 : Int)))) (w_eql rfl rfl) ?_
      refine sR (.bool (decide (v_37 = (120 : Int)))) (r_pick rfl rfl (fun _ => rfl) (fun h => by cases h)) ?_
      refine sR (.bool (decide (v_37 = (120 : Int)))) (r_move rfl rfl) ?_
      by_cases hc : v_37 = (120 : Int)
      ·
       replace h := h.1 hc
       refine kN 38 (decide_eq_true hc) ?_
       refine kN 39 (decide_eq_true hc) ?_
       refine kN 40 (decide_eq_true hc) ?_
       refine sR (.string s_0) (r_move rfl h0) ?_
       refine sR (.int .i64 at_1) (r_move rfl h1) ?_
       refine sR (.int .i64 (IntKind.i64.wrap (at_1 + (2 : Int)))) (r_add rfl rfl rfl) ?_
       obtain ⟨hl44, hu44, hx44, v_44, hv44, h⟩ := h
       refine sR (.int .u8 v_44) (w_indexStr rfl rfl underlying9 hl44 hu44 hv44) ?_
       refine s_ef (k_call (vs := [(.int .u8 v_44)]) cb97 (evC rfl evN) (h.mono ?_))
       clear h; rintro v F ⟨v_45, rfl, h⟩
       refine sR (.bool (decide ((0 : Int) ≤ v_45))) (r_geq rfl rfl rfl) ?_
       refine sR (.bool (decide ((0 : Int) ≤ v_45))) (r_pick rfl rfl (fun _ => rfl) (fun h => by cases h)) ?_
       refine sR (.bool (decide ((0 : Int) ≤ v_45))) (r_move rfl rfl) ?_
       by_cases hc : (0 : Int) ≤ v_45
       ·
        replace h := h.1 hc
        refine kN 46 (decide_eq_true hc) ?_
        refine kN 47 (decide_eq_true hc) ?_
        refine kN 48 (decide_eq_true hc) ?_
        refine sR (.string s_0) (r_move rfl h0) ?_
        refine sR (.int .i64 at_1) (r_move rfl h1) ?_
        refine sR (.int .i64 (IntKind.i64.wrap (at_1 + (3 : Int)))) (r_add rfl rfl rfl) ?_
        obtain ⟨hl52, hu52, hx52, v_52, hv52, h⟩ := h
        refine sR (.int .u8 v_52) (w_indexStr rfl rfl underlying9 hl52 hu52 hv52) ?_
        refine s_ef (k_call (vs := [(.int .u8 v_52)]) cb97 (evC rfl evN) (h.mono ?_))
        clear h; rintro v F ⟨v_53, rfl, h⟩
        refine sR (.bool (decide ((0 : Int) ≤ v_53))) (r_geq rfl rfl rfl) ?_
        refine sR (.bool (decide ((0 : Int) ≤ v_53))) (r_pick rfl rfl (fun _ => rfl) (fun h => by cases h)) ?_
        refine HL_nil ?_
        show b96J2 s_0 at_1 R _ _
        exact ⟨_, h0, h1, rfl, h⟩
       ·
        replace h := h.2 hc
        refine kN 46 (decide_eq_false hc) ?_
        refine kN 47 (decide_eq_false hc) ?_
        refine kN 48 (decide_eq_false hc) ?_
        refine s_skip ?_
        refine s_skip ?_
        refine s_skip ?_
        refine s_skip ?_
        refine s_skip ?_
        refine s_skip ?_
        refine sR (.bool false) (r_pick rfl rfl (fun h => by cases h) (fun _ => rfl)) ?_
        refine HL_nil ?_
        show b96J2 s_0 at_1 R _ _
        exact ⟨_, h0, h1, rfl, h⟩
      ·
       replace h := h.2 hc
       refine kN 38 (decide_eq_false hc) ?_
       refine kN 39 (decide_eq_false hc) ?_
       refine kN 40 (decide_eq_false hc) ?_
       refine s_skip ?_
       refine s_skip ?_
       refine s_skip ?_
       refine s_skip ?_
       refine s_skip ?_
       refine s_skip ?_
       refine sR (.bool false) (r_pick rfl rfl (fun h => by cases h) (fun _ => rfl)) ?_
       refine sR (.bool false) (r_move rfl rfl) ?_
       refine s_skip ?_
       refine s_skip ?_
       refine s_skip ?_
       refine s_skip ?_
       refine s_skip ?_
       refine s_skip ?_
       refine sR (.bool false) (r_pick rfl rfl (fun h => by cases h) (fun _ => rfl)) ?_
       refine HL_nil ?_
       show b96J2 s_0 at_1 R _ _
       exact ⟨_, h0, h1, rfl, h⟩
     ·
      replace h := h.2 hc
      refine kN 31 (decide_eq_false hc) ?_
      refine kN 32 (decide_eq_false hc) ?_
      refine kN 33 (decide_eq_false hc) ?_
      refine s_skip ?_
      refine s_skip ?_
      refine s_skip ?_
      refine s_skip ?_
      refine s_skip ?_
      refine sR (.bool false) (r_pick rfl rfl (fun h => by cases h) (fun _ => rfl)) ?_
      refine sR (.bool false) (r_move rfl rfl) ?_
      refine s_skip ?_
      refine s_skip ?_
      refine s_skip ?_
      refine s_skip ?_
      refine s_skip ?_
      refine s_skip ?_
      refine sR (.bool false) (r_pick rfl rfl (fun h => by cases h) (fun _ => rfl)) ?_
      refine sR (.bool false) (r_move rfl rfl) ?_
      refine s_skip ?_
      refine s_skip ?_
      refine s_skip ?_
      refine s_skip ?_
      refine s_skip ?_
      refine s_skip ?_
      refine sR (.bool false) (r_pick rfl rfl (fun h => by cases h) (fun _ => rfl)) ?_
      refine HL_nil ?_
      show b96J2 s_0 at_1 R _ _
      exact ⟨_, h0, h1, rfl, h⟩
    ·
     replace h := h.2 hc
     refine kN 26 (decide_eq_false hc) ?_
     refine kN 27 (decide_eq_false hc) ?_
     refine s_skip ?_
     refine s_skip ?_
     refine s_skip ?_
     refine s_skip ?_
     refine sR (.bool false) (r_pick rfl rfl (fun h => by cases h) (fun _ => rfl)) ?_
     refine sR (.bool false) (r_move rfl rfl) ?_
     refine s_skip ?_
     refine s_skip ?_
     refine s_skip ?_
     refine s_skip ?_
     refine s_skip ?_
     refine sR (.bool false) (r_pick rfl rfl (fun h => by cases h) (fun _ => rfl)) ?_
     refine sR (.bool false) (r_move rfl rfl) ?_
     refine s_skip ?_
     refine s_skip ?_
     refine s_skip ?_
     refine s_skip ?_
     refine s_skip ?_
     refine s_skip ?_
     refine sR (.bool false) (r_pick rfl rfl (fun h => by cases h) (fun _ => rfl)) ?_
     refine sR (.bool false) (r_move rfl rfl) ?_
     refine s_skip ?_
     refine s_skip ?_
     refine s_skip ?_
     refine s_skip ?_
     refine s_skip ?_
     refine s_skip ?_
     refine sR (.bool false) (r_pick rfl rfl (fun h => by cases h) (fun _ => rfl)) ?_
     refine HL_nil ?_
     show b96J2 s_0 at_1 R _ _
     exact ⟨_, h0, h1, rfl, h⟩
 ·
  skip
  refine HC_region ?_
  refine sR (.int .i64 at_1) (r_move rfl rfl) ?_
  refine sR (.string s_0) (r_move rfl rfl) ?_
  refine sR (.int .i64 (s_0.size : Int)) (r_lenStr rfl rfl underlying9) ?_
  refine sR (.bool (decide (at_1 < (s_0.size : Int)))) (r_lss rfl rfl rfl) ?_
  refine sR (.bool (decide (at_1 < (s_0.size : Int)))) (r_move rfl rfl) ?_
  by_cases hc : at_1 < (s_0.size : Int)
  ·
   replace h := h.1 hc
   refine kN 9 (decide_eq_true hc) ?_
   refine kN 10 (decide_eq_true hc) ?_
   refine sR (.string s_0) (r_move rfl rfl) ?_
   refine sR (.int .i64 at_1) (r_move rfl rfl) ?_
   obtain ⟨hl13, hu13, hx13, v_13, hv13, h⟩ := h
   refine sR (.int .u8 v_13) (w_indexStr rfl rfl underlying9 hl13 hu13 hv13) ?_
   refine s_ef (k_call (vs := [(.int .u8 v_13)]) cb90 (evC rfl evN) (h.mono ?_))
   clear h; rintro v F ⟨v_14, rfl, h⟩
   refine sR (.bool v_14) (r_pick rfl rfl (fun _ => rfl) (fun h => by cases h)) ?_
   refine HL_nil ?_
   show b96J1 s_0 at_1 R _ _
   exact ⟨_, rfl, rfl, rfl, h⟩
  ·
   replace h := h.2 hc
   refine kN 9 (decide_eq_false hc) ?_
   refine kN 10 (decide_eq_false hc) ?_
   refine s_skip ?_
   refine s_skip ?_
   refine s_skip ?_
   refine s_skip ?_
   refine sR (.bool false) (r_pick rfl rfl (fun h => by cases h) (fun _ => rfl)) ?_
   refine HL_nil ?_
   show b96J1 s_0 at_1 R _ _
   exact ⟨_, rfl, rfl, rfl, h⟩

/- 81 koine.koineref04.byteAt -/
def b81 (s_0 : ByteArray) (at_1 : Int) (R : Value → PH → Prop) (F : PH) : Prop :=
 ((at_1 < (s_0.size : Int) →
  0 ≤ at_1 ∧ at_1 < (s_0.size : Int) ∧
  ∃ (hx : Int.toNat at_1 < s_0.size) (v_11 : Int), v_11 = ((s_0[Int.toNat at_1]'hx).toNat : Int) ∧
  R (.int .u8 v_11) F) ∧
 (¬ (at_1 < (s_0.size : Int)) →
  R (.int .u8 (0 : Int)) F))
theorem c81 {s_0 : ByteArray} {at_1 : Int} {R : Value → PH → Prop} {F : PH} (h : b81 s_0 at_1 R F) : Spec prog 81 #[(.string s_0), (.int .i64 at_1)] F R := by
 refine spec_of (args := [(.string s_0), (.int .i64 at_1)]) func81 rfl ntmps81 rfl ?_
 unfold b81 at h
 refine cR ?_
 refine sR (.int .u8 (0 : Int)) (r_assign rfl rfl) ?_
 refine HL_nil ?_
 refine HC_seq ?_
 refine cR ?_
 refine sR (.int .i64 at_1) (r_move rfl rfl) ?_
 refine sR (.string s_0) (r_move rfl rfl) ?_
 refine sR (.int .i64 (s_0.size : Int)) (r_lenStr rfl rfl underlying9) ?_
 refine sR (.bool (decide (at_1 < (s_0.size : Int)))) (r_lss rfl rfl rfl) ?_
 refine HL_nil ?_
 refine HC_cond (t := (decide (at_1 < (s_0.size : Int)))) rfl (fun hc => ?_) (fun hc => ?_)
 ·
  replace h := h.1 (of_decide_eq_true hc)
  clear hc
  refine cR ?_
  refine sR (.string s_0) (r_move rfl rfl) ?_
  refine sR (.int .i64 at_1) (r_move rfl rfl) ?_
  obtain ⟨hl11, hu11, hx11, v_11, hv11, h⟩ := h
  refine sR (.int .u8 v_11) (w_indexStr rfl rfl underlying9 hl11 hu11 hv11) ?_
  refine sR (.int .u8 v_11) (r_assign rfl rfl) ?_
  refine HL_nil ?_
  exact HC_ret (show endQ prog f81 R .ret _ _ from ⟨_, res1 rfl (rv_tmp rfl), h⟩)
 ·
  replace h := h.2 (of_decide_eq_false hc)
  clear hc
  refine HC_skip ?_
  refine cR ?_
  refine sR (.int .u8 (0 : Int)) (r_assign rfl rfl) ?_
  refine HL_nil ?_
  exact HC_ret (show endQ prog f81 R .ret _ _ from ⟨_, res1 rfl (rv_tmp rfl), h⟩)

/- 38 koine.koineref04.empty -/
def b38 (R : Value → PH → Prop) (F : PH) : Prop :=
 (#[(.int .i64 (0 : Int)), .int .i64 0, .int .i64 0, .int .i64 0, .int .i64 0] : Array Value).size = 5 ∧ ∀ b2, F b2 = none → atF (F.set b2 (.cells (#[(.int .i64 (0 : Int)), .int .i64 0, .int .i64 0, .int .i64 0, .int .i64 0] : Array Value) 50)) fun F =>
 R (Sl.v (Sl.mk (some (Addr.mk b2 0 none)) 1 1)) F
theorem c38 {R : Value → PH → Prop} {F : PH} (h : b38 R F) : Spec prog 38 #[] F R := by
 refine spec_of (args := []) func38 rfl ntmps38 rfl ?_
 unfold b38 at h
 refine cR ?_
 refine sR (Sl.v Sl.nil) (r_assign rfl rfl) ?_
 refine HL_nil ?_
 refine cR ?_
 refine sR (.agg (#[(.int .i64 (0 : Int)), .int .i64 0, .int .i64 0, .int .i64 0, .int .i64 0] : Array Value)) (w_buildStruct (cells := #[(.int .i64 (0 : Int)), .int .i64 0, .int .i64 0, .int .i64 0, .int .i64 0]) underlying50 zr50 kf50 (evPC rfl evPN) (fill1 (place_of rfl rfl sz3) rfl rfl (fillN rfl))) ?_
 obtain ⟨hz2, h⟩ := h
 refine s_ef (k_buildSlice (cells := (#[(.int .i64 (0 : Int)), .int .i64 0, .int .i64 0, .int .i64 0, .int .i64 0] : Array Value)) underlying25 sz50 (by decide) zr50 rfl (evPC rfl evPN) (fillWhole hz2 rfl rfl) rfl ?_)
 intro b2 hf_b2
 replace h := atE (h b2 hf_b2)
 refine sR (Sl.v (Sl.mk (some (Addr.mk b2 0 none)) 1 1)) (r_assign rfl rfl) ?_
 refine HL_nil ?_
 exact HC_ret (show endQ prog f38 R .ret _ _ from ⟨_, res1 rfl (rv_tmp rfl), h⟩)

/- 39 koine.koineref04.one -/
def b39 (lo_0 : Int) (hi_1 : Int) (R : Value → PH → Prop) (F : PH) : Prop :=
 (#[(.int .i64 (1 : Int)), (.int .i64 lo_0), (.int .i64 hi_1), .int .i64 0, .int .i64 0] : Array Value).size = 5 ∧ ∀ b8, F b8 = none → atF (F.set b8 (.cells (#[(.int .i64 (1 : Int)), (.int .i64 lo_0), (.int .i64 hi_1), .int .i64 0, .int .i64 0] : Array Value) 50)) fun F =>
 R (Sl.v (Sl.mk (some (Addr.mk b8 0 none)) 1 1)) F
theorem c39 {lo_0 : Int} {hi_1 : Int} {R : Value → PH → Prop} {F : PH} (h : b39 lo_0 hi_1 R F) : Spec prog 39 #[(.int .i64 lo_0), (.int .i64 hi_1)] F R := by
 refine spec_of (args := [(.int .i64 lo_0), (.int .i64 hi_1)]) func39 rfl ntmps39 rfl ?_
 unfold b39 at h
 refine cR ?_
 refine sR (Sl.v Sl.nil) (r_assign rfl rfl) ?_
 refine HL_nil ?_
 refine cR ?_
 refine sR (.int .i64 lo_0) (r_move rfl rfl) ?_
 refine sR (.int .i64 hi_1) (r_move rfl rfl) ?_
 refine sR (.agg (#[(.int .i64 (1 : Int)), (.int .i64 lo_0), (.int .i64 hi_1), .int .i64 0, .int .i64 0] : Array Value)) (w_buildStruct (cells := #[(.int .i64 (1 : Int)), (.int .i64 lo_0), (.int .i64 hi_1), .int .i64 0, .int .i64 0]) underlying50 zr50 kf50 (evPC rfl (evPC rfl (evPC rfl evPN))) (fill1 (place_of rfl rfl sz3) rfl rfl (fill1 (place_of rfl rfl sz3) rfl rfl (fill1 (place_of rfl rfl sz3) rfl rfl (fillN rfl))))) ?_
 obtain ⟨hz8, h⟩ := h
 refine s_ef (k_buildSlice (cells := (#[(.int .i64 (1 : Int)), (.int .i64 lo_0), (.int .i64 hi_1), .int .i64 0, .int .i64 0] : Array Value)) underlying25 sz50 (by decide) zr50 rfl (evPC rfl evPN) (fillWhole hz8 rfl rfl) rfl ?_)
 intro b8 hf_b8
 replace h := atE (h b8 hf_b8)
 refine sR (Sl.v (Sl.mk (some (Addr.mk b8 0 none)) 1 1)) (r_assign rfl rfl) ?_
 refine HL_nil ?_
 exact HC_ret (show endQ prog f39 R .ret _ _ from ⟨_, res1 rfl (rv_tmp rfl), h⟩)

/- 40 koine.koineref04.repeat -/
def b40 (p_0 : Sl) (R : Value → PH → Prop) (F : PH) : Prop :=
 ∀ b4, F b4 = none → atF (F.set b4 (.cells #[] 50)) fun F =>
 runs prog (Builtin.append_ #[25, 25] 25 #[(Sl.v (Sl.mk (some (Addr.mk b4 0 none)) 0 0)), (Sl.v p_0)]) F fun v F => ∃ v_6 : Sl, v = (Sl.v v_6) ∧
 (#[(.int .i64 (4 : Int)), .int .i64 0, .int .i64 0, (.int .i64 (IntKind.i64.wrap ((p_0.len : Int) - (1 : Int)))), .int .i64 0] : Array Value).size = 5 ∧ ∀ b12, F b12 = none → atF (F.set b12 (.cells (#[(.int .i64 (4 : Int)), .int .i64 0, .int .i64 0, (.int .i64 (IntKind.i64.wrap ((p_0.len : Int) - (1 : Int)))), .int .i64 0] : Array Value) 50)) fun F =>
 runs prog (Builtin.append_ #[25, 25] 25 #[(Sl.v v_6), (Sl.v (Sl.mk (some (Addr.mk b12 0 none)) 1 1))]) F fun v F => ∃ v_13 : Sl, v = (Sl.v v_13) ∧
 R (Sl.v v_13) F
theorem c40 {p_0 : Sl} {R : Value → PH → Prop} {F : PH} (h : b40 p_0 R F) : Spec prog 40 #[(Sl.v p_0)] F R := by
 refine spec_of (args := [(Sl.v p_0)]) func40 rfl ntmps40 rfl ?_
 unfold b40 at h
 refine cR ?_
 refine sR (Sl.v Sl.nil) (r_assign rfl rfl) ?_
 refine HL_nil ?_
 refine cR ?_
 refine s_ef (k_buildSlice (cells := #[]) underlying25 sz50 (by decide) zr50 ((zc_flat _ rfl _).trans (rfl : _ = (#[] : Array Value))) evPN (fillN rfl) rfl ?_)
 intro b4 hf_b4
 replace h := atE (h b4 hf_b4)
 refine sR (Sl.v p_0) (r_move rfl rfl) ?_
 refine s_ef (k_append rfl rfl (runs_mono _ _ h ?_))
 clear h; rintro v F ⟨v_6, rfl, h⟩
 refine sR (Sl.v v_6) (r_assign rfl rfl) ?_
 refine HL_nil ?_
 refine cR ?_
 refine sR (Sl.v v_6) (r_move rfl rfl) ?_
 refine sR (Sl.v p_0) (r_move rfl rfl) ?_
 refine sR (.int .i64 (p_0.len : Int)) (r_lenSl rfl rfl underlying25) ?_
 refine sR (.int .i64 (IntKind.i64.wrap ((p_0.len : Int) - (1 : Int)))) (r_sub rfl rfl rfl) ?_
 refine sR (.agg (#[(.int .i64 (4 : Int)), .int .i64 0, .int .i64 0, (.int .i64 (IntKind.i64.wrap ((p_0.len : Int) - (1 : Int)))), .int .i64 0] : Array Value)) (w_buildStruct (cells := #[(.int .i64 (4 : Int)), .int .i64 0, .int .i64 0, (.int .i64 (IntKind.i64.wrap ((p_0.len : Int) - (1 : Int)))), .int .i64 0]) underlying50 zr50 kf50 (evPC rfl (evPC rfl evPN)) (fill1 (place_of rfl rfl sz3) rfl rfl (fill1 (place_of rfl rfl sz3) rfl rfl (fillN rfl)))) ?_
 obtain ⟨hz12, h⟩ := h
 refine s_ef (k_buildSlice (cells := (#[(.int .i64 (4 : Int)), .int .i64 0, .int .i64 0, (.int .i64 (IntKind.i64.wrap ((p_0.len : Int) - (1 : Int)))), .int .i64 0] : Array Value)) underlying25 sz50 (by decide) zr50 rfl (evPC rfl evPN) (fillWhole hz12 rfl rfl) rfl ?_)
 intro b12 hf_b12
 replace h := atE (h b12 hf_b12)
 refine s_ef (k_append rfl rfl (runs_mono _ _ h ?_))
 clear h; rintro v F ⟨v_13, rfl, h⟩
 refine sR (Sl.v v_13) (r_assign rfl rfl) ?_
 refine HL_nil ?_
 exact HC_ret (show endQ prog f40 R .ret _ _ from ⟨_, res1 rfl (rv_tmp rfl), h⟩)

/- 52 koine.koineref04.operands -/
def b52j1 (kind_0 : Int) (v_5 : Bool) (R : Value → PH → Prop) (F : PH) : Prop :=
 ((v_5 = true →
  R (.tuple #[(.int .i64 (0 : Int)), (.bool true)]) F) ∧
 (v_5 = false →
  ((kind_0 = (4 : Int) →
   R (.tuple #[(.int .i64 (1 : Int)), (.bool true)]) F) ∧
  (¬ (kind_0 = (4 : Int)) →
   ((kind_0 = (2 : Int) →
    ((kind_0 = (2 : Int) →
     R (.tuple #[(.int .i64 (2 : Int)), (.bool true)]) F) ∧
    (¬ (kind_0 = (2 : Int)) →
     R (.tuple #[(.int .i64 (0 : Int)), (.bool false)]) F))) ∧
   (¬ (kind_0 = (2 : Int)) →
    ((kind_0 = (3 : Int) →
     R (.tuple #[(.int .i64 (2 : Int)), (.bool true)]) F) ∧
    (¬ (kind_0 = (3 : Int)) →
     R (.tuple #[(.int .i64 (0 : Int)), (.bool false)]) F))))))))
abbrev b52J1 (kind_0 : Int) (R : Value → PH → Prop) (E : En) (F : PH) : Prop := ∃ v_5 : Bool, E 4 = (.int .i64 kind_0) ∧ E 5 = (.bool v_5) ∧ b52j1 kind_0 v_5 R F
def b52 (kind_0 : Int) (R : Value → PH → Prop) (F : PH) : Prop :=
 ((kind_0 = (0 : Int) →
  b52j1 kind_0 (decide (kind_0 = (0 : Int))) R F) ∧
 (¬ (kind_0 = (0 : Int)) →
  b52j1 kind_0 (decide (kind_0 = (1 : Int))) R F))
theorem c52 {kind_0 : Int} {R : Value → PH → Prop} {F : PH} (h : b52 kind_0 R F) : Spec prog 52 #[(.int .i64 kind_0)] F R := by
 refine spec_of (args := [(.int .i64 kind_0)]) func52 rfl ntmps52 rfl ?_
 unfold b52 at h
 refine cR ?_
 refine sR (.int .i64 (0 : Int)) (r_assign rfl rfl) ?_
 refine sR (.bool false) (r_assign rfl rfl) ?_
 refine HL_nil ?_
 refine HC_seq ?_
 refine cR ?_
 refine sR (.int .i64 kind_0) (r_move rfl rfl) ?_
 refine HL_nil ?_
 refine HC_block ?_
 refine HC_seqJ (b52J1 kind_0 R) ?_ ?_
 ·
  clear h; rintro E F ⟨v_5, h4, h5, h⟩
  unfold b52j1 at h
  refine HC_cond (t := v_5) h5 (fun hc => ?_) (fun hc => ?_)
  ·
   replace h := h.1 hc
   clear hc
   refine cR ?_
   refine sR (.int .i64 (0 : Int)) (r_assign rfl rfl) ?_
   refine sR (.bool true) (r_assign rfl rfl) ?_
   refine HL_nil ?_
   exact HC_ret (show endQ prog f52 R .ret _ _ from ⟨_, res2 rfl (rv_tmp rfl) (rv_tmp rfl), h⟩)
  ·
   replace h := h.2 hc
   clear hc
   refine cR ?_
   refine sR (.bool (decide (kind_0 = (4 : Int)))) (w_eql h4 rfl) ?_
   refine sR (.bool (decide (kind_0 = (4 : Int)))) (r_assign rfl rfl) ?_
   refine HL_nil ?_
   refine HC_cond (t := (decide (kind_0 = (4 : Int)))) rfl (fun hc => ?_) (fun hc => ?_)
   ·
    replace h := h.1 (of_decide_eq_true hc)
    clear hc
    refine cR ?_
    refine sR (.int .i64 (1 : Int)) (r_assign rfl rfl) ?_
    refine sR (.bool true) (r_assign rfl rfl) ?_
    refine HL_nil ?_
    exact HC_ret (show endQ prog f52 R .ret _ _ from ⟨_, res2 rfl (rv_tmp rfl) (rv_tmp rfl), h⟩)
   ·
    replace h := h.2 (of_decide_eq_false hc)
    clear hc
    refine HC_seq ?_
    refine cR ?_
    refine sR (.bool (decide (kind_0 = (2 : Int)))) (w_eql h4 rfl) ?_
    refine sR (.bool (decide (kind_0 = (2 : Int)))) (r_assign rfl rfl) ?_
    refine HL_nil ?_
    refine HC_cond (t := (decide (kind_0 = (2 : Int)))) rfl (fun hc => ?_) (fun hc => ?_)
    ·
     replace h := h.1 (of_decide_eq_true hc)
     clear hc
     refine HC_skip ?_
     refine HC_cond (t := (decide (kind_0 = (2 : Int)))) rfl (fun hc => ?_) (fun hc => ?_)
     ·
      replace h := h.1 (of_decide_eq_true hc)
      clear hc
      refine cR ?_
      refine sR (.int .i64 (2 : Int)) (r_assign rfl rfl) ?_
      refine sR (.bool true) (r_assign rfl rfl) ?_
      refine HL_nil ?_
      exact HC_ret (show endQ prog f52 R .ret _ _ from ⟨_, res2 rfl (rv_tmp rfl) (rv_tmp rfl), h⟩)
     ·
      replace h := h.2 (of_decide_eq_false hc)
      clear hc
      refine HC_skip ?_
      refine cR ?_
      refine sR (.int .i64 (0 : Int)) (r_assign rfl rfl) ?_
      refine sR (.bool false) (r_assign rfl rfl) ?_
      refine HL_nil ?_
      exact HC_ret (show endQ prog f52 R .ret _ _ from ⟨_, res2 rfl (rv_tmp rfl) (rv_tmp rfl), h⟩)
    ·
     replace h := h.2 (of_decide_eq_false hc)
     clear hc
     refine HC_region ?_
     refine sR (.bool (decide (kind_0 = (3 : Int)))) (w_eql h4 rfl) ?_
     refine sR (.bool (decide (kind_0 = (3 : Int)))) (r_assign rfl rfl) ?_
     refine HL_nil ?_
     refine HC_cond (t := (decide (kind_0 = (3 : Int)))) rfl (fun hc => ?_) (fun hc => ?_)
     ·
      replace h := h.1 (of_decide_eq_true hc)
      clear hc
      refine cR ?_
      refine sR (.int .i64 (2 : Int)) (r_assign rfl rfl) ?_
      refine sR (.bool true) (r_assign rfl rfl) ?_
      refine HL_nil ?_
      exact HC_ret (show endQ prog f52 R .ret _ _ from ⟨_, res2 rfl (rv_tmp rfl) (rv_tmp rfl), h⟩)
     ·
      replace h := h.2 (of_decide_eq_false hc)
      clear hc
      refine HC_skip ?_
      refine cR ?_
      refine sR (.int .i64 (0 : Int)) (r_assign rfl rfl) ?_
      refine sR (.bool false) (r_assign rfl rfl) ?_
      refine HL_nil ?_
      exact HC_ret (show endQ prog f52 R .ret _ _ from ⟨_, res2 rfl (rv_tmp rfl) (rv_tmp rfl), h⟩)
 ·
  skip
  refine cR ?_
  refine sR (.bool (decide (kind_0 = (0 : Int)))) (w_eql rfl rfl) ?_
  refine sR (.bool (decide (kind_0 = (0 : Int)))) (r_assign rfl rfl) ?_
  refine HL_nil ?_
  refine HC_cond (t := (decide (kind_0 = (0 : Int)))) rfl (fun hc => ?_) (fun hc => ?_)
  ·
   replace h := h.1 (of_decide_eq_true hc)
   clear hc
   refine HC_skip ?_
   show b52J1 kind_0 R _ _
   exact ⟨_, rfl, rfl, h⟩
  ·
   replace h := h.2 (of_decide_eq_false hc)
   clear hc
   refine HC_region ?_
   refine sR (.bool (decide (kind_0 = (1 : Int)))) (w_eql rfl rfl) ?_
   refine sR (.bool (decide (kind_0 = (1 : Int)))) (r_assign rfl rfl) ?_
   refine HL_nil ?_
   show b52J1 kind_0 R _ _
   exact ⟨_, rfl, rfl, h⟩

/- 41 koine.koineref04.join -/
def b41j1 (kind_0 : Int) (p_1 : Sl) (q_2 : Sl) (out_7 : Sl) (R : Value → PH → Prop) (F : PH) : Prop :=
 (#[(.int .i64 kind_0), .int .i64 0, .int .i64 0, (.int .i64 (IntKind.i64.wrap ((p_1.len : Int) - (1 : Int)))), (.int .i64 (IntKind.i64.wrap ((IntKind.i64.wrap ((p_1.len : Int) + (q_2.len : Int))) - (1 : Int))))] : Array Value).size = 5 ∧ ∀ b63, F b63 = none → atF (F.set b63 (.cells (#[(.int .i64 kind_0), .int .i64 0, .int .i64 0, (.int .i64 (IntKind.i64.wrap ((p_1.len : Int) - (1 : Int)))), (.int .i64 (IntKind.i64.wrap ((IntKind.i64.wrap ((p_1.len : Int) + (q_2.len : Int))) - (1 : Int))))] : Array Value) 50)) fun F =>
 runs prog (Builtin.append_ #[25, 25] 25 #[(Sl.v out_7), (Sl.v (Sl.mk (some (Addr.mk b63 0 none)) 1 1))]) F fun v F => ∃ v_64 : Sl, v = (Sl.v v_64) ∧
 R (Sl.v v_64) F
abbrev b41J1 (kind_0 : Int) (p_1 : Sl) (q_2 : Sl) (R : Value → PH → Prop) (E : En) (F : PH) : Prop := ∃ out_7 : Sl, E 0 = (.int .i64 kind_0) ∧ E 1 = (Sl.v p_1) ∧ E 2 = (Sl.v q_2) ∧ E 7 = (Sl.v out_7) ∧ b41j1 kind_0 p_1 q_2 out_7 R F
def b41j3 (N1 : Sl → Int → PH → Prop) (kind_0 : Int) (p_1 : Sl) (q_2 : Sl) (out_7_1 : Sl) (i_8 : Int) (b9 : Nat) (R : Value → PH → Prop) (F : PH) : Prop :=
 ∃ v_48 : Array Value, v_48.size = 5 ∧ F.row (Addr.mk b9 0 none) v_48 ∧
 v_48.size = 5 ∧ ∀ b49, F b49 = none → atF (F.set b49 (.cells v_48 50)) fun F =>
 runs prog (Builtin.append_ #[25, 25] 25 #[(Sl.v out_7_1), (Sl.v (Sl.mk (some (Addr.mk b49 0 none)) 1 1))]) F fun v F => ∃ v_50 : Sl, v = (Sl.v v_50) ∧
 N1 v_50 (IntKind.i64.wrap (i_8 + (1 : Int))) F
abbrev b41J3 (N1 : Sl → Int → PH → Prop) (kind_0 : Int) (p_1 : Sl) (q_2 : Sl) (out_7_1 : Sl) (i_8 : Int) (b9 : Nat) (R : Value → PH → Prop) (E : En) (F : PH) : Prop := E 0 = (.int .i64 kind_0) ∧ E 1 = (Sl.v p_1) ∧ E 2 = (Sl.v q_2) ∧ E 7 = (Sl.v out_7_1) ∧ E 8 = (.int .i64 i_8) ∧ E 9 = (.pointer (some (Addr.mk b9 0 none))) ∧ b41j3 N1 kind_0 p_1 q_2 out_7_1 i_8 b9 R F
def b41j2 (N1 : Sl → Int → PH → Prop) (kind_0 : Int) (p_1 : Sl) (q_2 : Sl) (out_7_1 : Sl) (i_8 : Int) (b9 : Nat) (v_28 : Int) (R : Value → PH → Prop) (F : PH) : Prop :=
 (((2 : Int) ≤ v_28 →
  ∃ v_42 : Int, F.cell (Addr.mk b9 4 none) = some (.int .i64 v_42) ∧
  ∃ c e, F (Addr.mk b9 4 none).block = some (.cells c e (0, 0)) ∧ (Addr.mk b9 4 none).spot = none ∧ (Addr.mk b9 4 none).off < c.size ∧
  atF (F.set (Addr.mk b9 4 none).block (.cells (c.setIfInBounds (Addr.mk b9 4 none).off (.int .i64 (IntKind.i64.wrap (v_42 + (p_1.len : Int))))) e)) fun F =>
  b41j3 N1 kind_0 p_1 q_2 out_7_1 i_8 b9 R F) ∧
 (¬ ((2 : Int) ≤ v_28) →
  b41j3 N1 kind_0 p_1 q_2 out_7_1 i_8 b9 R F))
abbrev b41J2 (N1 : Sl → Int → PH → Prop) (kind_0 : Int) (p_1 : Sl) (q_2 : Sl) (out_7_1 : Sl) (i_8 : Int) (b9 : Nat) (v_28 : Int) (R : Value → PH → Prop) (E : En) (F : PH) : Prop := E 0 = (.int .i64 kind_0) ∧ E 1 = (Sl.v p_1) ∧ E 2 = (Sl.v q_2) ∧ E 7 = (Sl.v out_7_1) ∧ E 8 = (.int .i64 i_8) ∧ E 9 = (.pointer (some (Addr.mk b9 0 none))) ∧ E 10 = (.int .i64 v_28) ∧ b41j2 N1 kind_0 p_1 q_2 out_7_1 i_8 b9 v_28 R F
def b41L1 (N1 : Sl → Int → PH → Prop) (kind_0 : Int) (p_1 : Sl) (q_2 : Sl) (R : Value → PH → Prop) (out_7_1 : Sl) (i_8 : Int) (F : PH) : Prop :=
 ((i_8 < (q_2.len : Int) →
  ∃ a23_ : Addr, q_2.base = some a23_ ∧ 0 ≤ i_8 ∧ i_8 < (q_2.len : Int) ∧
  ∃ v_24 : Array Value, v_24.size = 5 ∧ F.row (Addr.add a23_ (Int.toNat i_8 * 5)) v_24 ∧
  ∀ b9, F b9 = none → atF (F.set b9 (.cells (#[.int .i64 0, .int .i64 0, .int .i64 0, .int .i64 0, .int .i64 0]) 50)) fun F =>
  v_24.size = 5 ∧ (∀ v ∈ v_24.toList, storable v) ∧ ∃ c e, F (Addr.mk b9 0 none).block = some (.cells c e (0, 0)) ∧ (Addr.mk b9 0 none).spot = none ∧ (Addr.mk b9 0 none).off + 5 ≤ c.size ∧
  atF (F.set (Addr.mk b9 0 none).block (.cells (wr c (Addr.mk b9 0 none).off v_24.toList) e)) fun F =>
  ∃ v_27 : Int, F.cell (Addr.mk b9 0 none) = some (.int .i64 v_27) ∧
  Spec prog 52 #[(.int .i64 v_27)] F fun v F => ∃ v_28 : Int, ∃ v_28_1 : Bool, v = (.tuple #[(.int .i64 v_28), (.bool v_28_1)]) ∧
  (((1 : Int) ≤ v_28 →
   ∃ v_34 : Int, F.cell (Addr.mk b9 3 none) = some (.int .i64 v_34) ∧
   ∃ c e, F (Addr.mk b9 3 none).block = some (.cells c e (0, 0)) ∧ (Addr.mk b9 3 none).spot = none ∧ (Addr.mk b9 3 none).off < c.size ∧
   atF (F.set (Addr.mk b9 3 none).block (.cells (c.setIfInBounds (Addr.mk b9 3 none).off (.int .i64 (IntKind.i64.wrap (v_34 + (p_1.len : Int))))) e)) fun F =>
   b41j2 N1 kind_0 p_1 q_2 out_7_1 i_8 b9 v_28 R F) ∧
  (¬ ((1 : Int) ≤ v_28) →
   b41j2 N1 kind_0 p_1 q_2 out_7_1 i_8 b9 v_28 R F))) ∧
 (¬ (i_8 < (q_2.len : Int)) →
  b41j1 kind_0 p_1 q_2 out_7_1 R F))
def b41 (kind_0 : Int) (p_1 : Sl) (q_2 : Sl) (R : Value → PH → Prop) (F : PH) : Prop :=
 ∀ b12, F b12 = none → atF (F.set b12 (.cells #[] 50)) fun F =>
 runs prog (Builtin.append_ #[25, 25] 25 #[(Sl.v (Sl.mk (some (Addr.mk b12 0 none)) 0 0)), (Sl.v p_1)]) F fun v F => ∃ v_14 : Sl, v = (Sl.v v_14) ∧
 (∃ (I1 : Nat → Sl → Int → PH → Prop) (m1 : Nat), I1 m1 v_14 (0 : Int) F ∧ ∀ m1 out_7_1 i_8 F, I1 m1 out_7_1 i_8 F →
  b41L1 (fun y1_0 y1_1 F => ∃ m', m' < m1 ∧ I1 m' y1_0 y1_1 F) kind_0 p_1 q_2 R out_7_1 i_8 F)
theorem c41 {kind_0 : Int} {p_1 : Sl} {q_2 : Sl} {R : Value → PH → Prop} {F : PH} (h : b41 kind_0 p_1 q_2 R F) : Spec prog 41 #[(.int .i64 kind_0), (Sl.v p_1), (Sl.v q_2)] F R := by
 refine spec_of (args := [(.int .i64 kind_0), (Sl.v p_1), (Sl.v q_2)]) func41 rfl ntmps41 rfl ?_
 unfold b41 at h
 refine cR ?_
 refine sR (Sl.v Sl.nil) (r_assign rfl rfl) ?_
 refine HL_nil ?_
 refine cR ?_
 refine s_ef (k_buildSlice (cells := #[]) underlying25 sz50 (by decide) zr50 ((zc_flat _ rfl _).trans (rfl : _ = (#[] : Array Value))) evPN (fillN rfl) rfl ?_)
 intro b12 hf_b12
 replace h := atE (h b12 hf_b12)
 refine sR (Sl.v p_1) (r_move rfl rfl) ?_
 refine s_ef (k_append rfl rfl (runs_mono _ _ h ?_))
 clear h; rintro v F ⟨v_14, rfl, h⟩
 refine sR (Sl.v v_14) (r_assign rfl rfl) ?_
 refine HL_nil ?_
 refine HC_seqJ (b41J1 kind_0 p_1 q_2 R) ?_ ?_
 ·
  clear h; rintro E F ⟨out_7, h0, h1, h2, h7, h⟩
  unfold b41j1 at h
  refine cR ?_
  refine sR (Sl.v out_7) (r_move rfl h7) ?_
  refine sR (.int .i64 kind_0) (r_move rfl h0) ?_
  refine sR (Sl.v p_1) (r_move rfl h1) ?_
  refine sR (.int .i64 (p_1.len : Int)) (r_lenSl rfl rfl underlying25) ?_
  refine sR (.int .i64 (IntKind.i64.wrap ((p_1.len : Int) - (1 : Int)))) (r_sub rfl rfl rfl) ?_
  refine sR (Sl.v p_1) (r_move rfl h1) ?_
  refine sR (.int .i64 (p_1.len : Int)) (r_lenSl rfl rfl underlying25) ?_
  refine sR (Sl.v q_2) (r_move rfl h2) ?_
  refine sR (.int .i64 (q_2.len : Int)) (r_lenSl rfl rfl underlying25) ?_
  refine sR (.int .i64 (IntKind.i64.wrap ((p_1.len : Int) + (q_2.len : Int)))) (r_add rfl rfl rfl) ?_
  refine sR (.int .i64 (IntKind.i64.wrap ((IntKind.i64.wrap ((p_1.len : Int) + (q_2.len : Int))) - (1 : Int)))) (r_sub rfl rfl rfl) ?_
  refine sR (.agg (#[(.int .i64 kind_0), .int .i64 0, .int .i64 0, (.int .i64 (IntKind.i64.wrap ((p_1.len : Int) - (1 : Int)))), (.int .i64 (IntKind.i64.wrap ((IntKind.i64.wrap ((p_1.len : Int) + (q_2.len : Int))) - (1 : Int))))] : Array Value)) (w_buildStruct (cells := #[(.int .i64 kind_0), .int .i64 0, .int .i64 0, (.int .i64 (IntKind.i64.wrap ((p_1.len : Int) - (1 : Int)))), (.int .i64 (IntKind.i64.wrap ((IntKind.i64.wrap ((p_1.len : Int) + (q_2.len : Int))) - (1 : Int))))]) underlying50 zr50 kf50 (evPC rfl (evPC rfl (evPC rfl evPN))) (fill1 (place_of rfl rfl sz3) rfl rfl (fill1 (place_of rfl rfl sz3) rfl rfl (fill1 (place_of rfl rfl sz3) rfl rfl (fillN rfl))))) ?_
  obtain ⟨hz63, h⟩ := h
  refine s_ef (k_buildSlice (cells := (#[(.int .i64 kind_0), .int .i64 0, .int .i64 0, (.int .i64 (IntKind.i64.wrap ((p_1.len : Int) - (1 : Int)))), (.int .i64 (IntKind.i64.wrap ((IntKind.i64.wrap ((p_1.len : Int) + (q_2.len : Int))) - (1 : Int))))] : Array Value)) underlying25 sz50 (by decide) zr50 rfl (evPC rfl evPN) (fillWhole hz63 rfl rfl) rfl ?_)
  intro b63 hf_b63
  replace h := atE (h b63 hf_b63)
  refine s_ef (k_append rfl rfl (runs_mono _ _ h ?_))
  clear h; rintro v F ⟨v_64, rfl, h⟩
  refine sR (Sl.v v_64) (r_assign rfl rfl) ?_
  refine HL_nil ?_
  exact HC_ret (show endQ prog f41 R .ret _ _ from ⟨_, res1 rfl (rv_tmp rfl), h⟩)
 ·
  skip
  refine cR ?_
  refine sR (.int .i64 (0 : Int)) (r_assign rfl rfl) ?_
  refine HL_nil ?_
  refine HC_block ?_
  obtain ⟨I1, m1, hI0, hr⟩ := h
  refine HC_loop (fun m1 E F => ∃ out_7_1 : Sl, ∃ i_8 : Int, E 0 = (.int .i64 kind_0) ∧ E 1 = (Sl.v p_1) ∧ E 2 = (Sl.v q_2) ∧ E 7 = (Sl.v out_7_1) ∧ E 8 = (.int .i64 i_8) ∧ I1 m1 out_7_1 i_8 F) m1 ⟨_, _, rfl, rfl, rfl, rfl, rfl, hI0⟩ ?_
  clear hI0; rintro m1 E F ⟨out_7_1, i_8, h0, h1, h2, h7, h8, hI⟩
  have h := hr m1 out_7_1 i_8 F hI
  clear hr hI
  unfold b41L1 at h
  refine HC_seq ?_
  refine cR ?_
  refine sR (.int .i64 i_8) (r_move rfl h8) ?_
  refine sR (Sl.v q_2) (r_move rfl h2) ?_
  refine sR (.int .i64 (q_2.len : Int)) (r_lenSl rfl rfl underlying25) ?_
  refine sR (.bool (decide (i_8 < (q_2.len : Int)))) (r_lss rfl rfl rfl) ?_
  refine HL_nil ?_
  refine HC_cond (t := (decide (i_8 < (q_2.len : Int)))) rfl (fun hc => ?_) (fun hc => ?_)
  ·
   replace h := h.1 (of_decide_eq_true hc)
   clear hc
   refine HC_skip ?_
   refine HC_seq ?_
   refine HC_block ?_
   refine cR ?_
   refine sR (Sl.v q_2) (r_move rfl h2) ?_
   refine sR (.int .i64 i_8) (r_move rfl h8) ?_
   obtain ⟨a23_, hb23, hl23, hu23, h⟩ := h
   refine sR (.pointer (some (Addr.add a23_ (Int.toNat i_8 * 5)))) (w_indexAddr rfl rfl underlying25 sz50 hb23 hl23 hu23) ?_
   obtain ⟨v_24, hs24, hc24, h⟩ := h
   refine sR (.agg v_24) (w_loadN rfl underlying50 rfl sz50 hs24 hc24) ?_
   refine s_ef (k_alloc zr50 ?_)
   intro b9 hf_b9
   replace h := atE (h b9 hf_b9)
   refine s_ef0 (k_storeN (vs := v_24) rfl rfl sz50 (by decide) ?_)
   obtain ⟨hz1, hz2, c, e, hz3, hz4, hz5, h⟩ := h
   refine ⟨hz1, hz2, c, e, hz3, hz4, hz5, ?_⟩
   replace h := atE h
   refine HL_nil ?_
   refine cR ?_
   refine sR (.pointer (some (Addr.mk b9 0 none))) (w_fieldAddr (a' := (Addr.mk b9 0 none)) rfl underlying50 rfl rfl sz3 rfl rfl) ?_
   obtain ⟨v_27, hc27, h⟩ := h
   refine sR (.int .i64 v_27) (r_load1 rfl rfl underlying3 rfl hc27) ?_
   refine s_ef (k_call (vs := [(.int .i64 v_27)]) cb52 (evC rfl evN) (h.mono ?_))
   clear h; rintro v F ⟨v_28, v_28_1, rfl, h⟩
   refine sR (.tuple #[(.int .i64 v_28), (.bool v_28_1)]) (r_move rfl rfl) ?_
   refine sR (.int .i64 v_28) (r_extract rfl rfl rfl) ?_
   refine sR (.bool v_28_1) (r_extract rfl rfl rfl) ?_
   refine sR (.int .i64 v_28) (r_assign rfl rfl) ?_
   refine sR (.bool v_28_1) (r_assign rfl rfl) ?_
   refine HL_nil ?_
   refine HC_seqJ (b41J2 (fun y1_0 y1_1 F => ∃ m', m' < m1 ∧ I1 m' y1_0 y1_1 F) kind_0 p_1 q_2 out_7_1 i_8 b9 v_28 R) ?_ ?_
   ·
    clear h; rintro E F ⟨h0, h1, h2, h7, h8, h9, h10, h⟩
    unfold b41j2 at h
    refine HC_seqJ (b41J3 (fun y1_0 y1_1 F => ∃ m', m' < m1 ∧ I1 m' y1_0 y1_1 F) kind_0 p_1 q_2 out_7_1 i_8 b9 R) ?_ ?_
    ·
     clear h; rintro E F ⟨h0, h1, h2, h7, h8, h9, h⟩
     unfold b41j3 at h
     refine HC_region ?_
     refine sR (Sl.v out_7_1) (r_move rfl h7) ?_
     obtain ⟨v_48, hs48, hc48, h⟩ := h
     refine sR (.agg v_48) (w_loadN h9 underlying50 rfl sz50 hs48 hc48) ?_
     obtain ⟨hz49, h⟩ := h
     refine s_ef (k_buildSlice (cells := v_48) underlying25 sz50 (by decide) zr50 rfl (evPC rfl evPN) (fillWhole hz49 rfl rfl) rfl ?_)
     intro b49 hf_b49
     replace h := atE (h b49 hf_b49)
     refine s_ef (k_append rfl rfl (runs_mono _ _ h ?_))
     clear h; rintro v F ⟨v_50, rfl, h⟩
     refine sR (Sl.v v_50) (r_assign rfl rfl) ?_
     refine HL_nil ?_
     refine HC_region ?_
     refine sR (.int .i64 i_8) (r_move rfl h8) ?_
     refine sR (.int .i64 (IntKind.i64.wrap (i_8 + (1 : Int)))) (r_add rfl rfl rfl) ?_
     refine sR (.int .i64 (IntKind.i64.wrap (i_8 + (1 : Int)))) (r_assign rfl rfl) ?_
     refine HL_nil ?_
     obtain ⟨m', hm, h⟩ := h
     exact ⟨m', hm, _, _, h0, h1, h2, rfl, rfl, h⟩
    ·
     skip
     refine cR ?_
     refine sR (.int .i64 v_28) (r_move rfl h10) ?_
     refine sR (.bool (decide ((2 : Int) ≤ v_28))) (r_geq rfl rfl rfl) ?_
     refine HL_nil ?_
     refine HC_cond (t := (decide ((2 : Int) ≤ v_28))) rfl (fun hc => ?_) (fun hc => ?_)
     ·
      replace h := h.1 (of_decide_eq_true hc)
      clear hc
      refine HC_region ?_
      refine sR (.pointer (some (Addr.mk b9 4 none))) (w_fieldAddr (a' := (Addr.mk b9 4 none)) h9 underlying50 rfl rfl sz3 rfl rfl) ?_
      obtain ⟨v_42, hc42, h⟩ := h
      refine sR (.int .i64 v_42) (r_load1 rfl rfl underlying3 rfl hc42) ?_
      refine sR (Sl.v p_1) (r_move rfl h1) ?_
      refine sR (.int .i64 (p_1.len : Int)) (r_lenSl rfl rfl underlying25) ?_
      refine sR (.int .i64 (IntKind.i64.wrap (v_42 + (p_1.len : Int)))) (r_add rfl rfl rfl) ?_
      refine sR (.pointer (some (Addr.mk b9 4 none))) (w_fieldAddr (a' := (Addr.mk b9 4 none)) h9 underlying50 rfl rfl sz3 rfl rfl) ?_
      refine s_ef0 (k_store1 (v := (.int .i64 (IntKind.i64.wrap (v_42 + (p_1.len : Int))))) rfl rfl sz3 rfl st_int ?_)
      obtain ⟨c, e, hz3, hz4, hz5, h⟩ := h
      refine ⟨c, e, hz3, hz4, hz5, ?_⟩
      replace h := atE h
      refine HL_nil ?_
      show b41J3 (fun y1_0 y1_1 F => ∃ m', m' < m1 ∧ I1 m' y1_0 y1_1 F) kind_0 p_1 q_2 out_7_1 i_8 b9 R _ _
      exact ⟨h0, h1, h2, h7, h8, h9, h⟩
     ·
      replace h := h.2 (of_decide_eq_false hc)
      clear hc
      refine HC_skip ?_
      show b41J3 (fun y1_0 y1_1 F => ∃ m', m' < m1 ∧ I1 m' y1_0 y1_1 F) kind_0 p_1 q_2 out_7_1 i_8 b9 R _ _
      exact ⟨h0, h1, h2, h7, h8, h9, h⟩
   ·
    skip
    refine cR ?_
    refine sR (.int .i64 v_28) (r_move rfl rfl) ?_
    refine sR (.bool (decide ((1 : Int) ≤ v_28))) (r_geq rfl rfl rfl) ?_
    refine HL_nil ?_
    refine HC_cond (t := (decide ((1 : Int) ≤ v_28))) rfl (fun hc => ?_) (fun hc => ?_)
    ·
     replace h := h.1 (of_decide_eq_true hc)
     clear hc
     refine HC_region ?_
     refine sR (.pointer (some (Addr.mk b9 3 none))) (w_fieldAddr (a' := (Addr.mk b9 3 none)) rfl underlying50 rfl rfl sz3 rfl rfl) ?_
     obtain ⟨v_34, hc34, h⟩ := h
     refine sR (.int .i64 v_34) (r_load1 rfl rfl underlying3 rfl hc34) ?_
     refine sR (Sl.v p_1) (r_move rfl h1) ?_
     refine sR (.int .i64 (p_1.len : Int)) (r_lenSl rfl rfl underlying25) ?_
     refine sR (.int .i64 (IntKind.i64.wrap (v_34 + (p_1.len : Int)))) (r_add rfl rfl rfl) ?_
     refine sR (.pointer (some (Addr.mk b9 3 none))) (w_fieldAddr (a' := (Addr.mk b9 3 none)) rfl underlying50 rfl rfl sz3 rfl rfl) ?_
     refine s_ef0 (k_store1 (v := (.int .i64 (IntKind.i64.wrap (v_34 + (p_1.len : Int))))) rfl rfl sz3 rfl st_int ?_)
     obtain ⟨c, e, hz3, hz4, hz5, h⟩ := h
     refine ⟨c, e, hz3, hz4, hz5, ?_⟩
     replace h := atE h
     refine HL_nil ?_
     show b41J2 (fun y1_0 y1_1 F => ∃ m', m' < m1 ∧ I1 m' y1_0 y1_1 F) kind_0 p_1 q_2 out_7_1 i_8 b9 v_28 R _ _
     exact ⟨h0, h1, h2, h7, h8, rfl, rfl, h⟩
    ·
     replace h := h.2 (of_decide_eq_false hc)
     clear hc
     refine HC_skip ?_
     show b41J2 (fun y1_0 y1_1 F => ∃ m', m' < m1 ∧ I1 m' y1_0 y1_1 F) kind_0 p_1 q_2 out_7_1 i_8 b9 v_28 R _ _
     exact ⟨h0, h1, h2, h7, h8, rfl, rfl, h⟩
  ·
   replace h := h.2 (of_decide_eq_false hc)
   clear hc
   refine HC_exit ?_
   show b41J1 kind_0 p_1 q_2 R _ _
   exact ⟨_, h0, h1, h2, h7, h⟩

/- 94 koine.koineref04.atom -/
def b94j1 (s_0 : ByteArray) (at_1 : Int) (v_68 : Bool) (R : Value → PH → Prop) (F : PH) : Prop :=
 ((v_68 = true →
  Spec prog 38 #[] F fun v F => ∃ v_69 : Sl, v = (Sl.v v_69) ∧
  R (.tuple #[(Sl.v v_69), (.int .i64 (IntKind.i64.wrap (at_1 + (2 : Int))))]) F) ∧
 (v_68 = false →
  Spec prog 81 #[(.string s_0), (.int .i64 at_1)] F fun v F => ∃ v_74 : Int, v = (.int .u8 v_74) ∧
  ((v_74 = (40 : Int) →
   Spec prog 56 #[(.string s_0), (.int .i64 (IntKind.i64.wrap (at_1 + (1 : Int))))] F fun v F => ∃ v_80 : Sl, ∃ v_80_1 : Int, v = (.tuple #[(Sl.v v_80), (.int .i64 v_80_1)]) ∧
   ((v_80_1 < (0 : Int) →
    R (.tuple #[(Sl.v Sl.nil), (.int .i64 (-1 : Int))]) F) ∧
   (¬ (v_80_1 < (0 : Int)) →
    Spec prog 81 #[(.string s_0), (.int .i64 v_80_1)] F fun v F => ∃ v_88 : Int, v = (.int .u8 v_88) ∧
    ((v_88 ≠ (41 : Int) →
     R (.tuple #[(Sl.v Sl.nil), (.int .i64 (-1 : Int))]) F) ∧
    (¬ (v_88 ≠ (41 : Int)) →
     R (.tuple #[(Sl.v v_80), (.int .i64 (IntKind.i64.wrap (v_80_1 + (1 : Int))))]) F))))) ∧
  (¬ (v_74 = (40 : Int)) →
   Spec prog 96 #[(.string s_0), (.int .i64 at_1)] F fun v F => ∃ v_97 : Int, ∃ v_97_1 : Int, v = (.tuple #[(.int .i64 v_97), (.int .i64 v_97_1)]) ∧
   ((v_97_1 < (0 : Int) →
    R (.tuple #[(Sl.v Sl.nil), (.int .i64 (-1 : Int))]) F) ∧
   (¬ (v_97_1 < (0 : Int)) →
    Spec prog 39 #[(.int .i64 v_97), (.int .i64 v_97)] F fun v F => ∃ v_104 : Sl, v = (Sl.v v_104) ∧
    R (.tuple #[(Sl.v v_104), (.int .i64 v_97_1)]) F))))))
abbrev b94J1 (s_0 : ByteArray) (at_1 : Int) (R : Value → PH → Prop) (E : En) (F : PH) : Prop := ∃ v_68 : Bool, E 0 = (.string s_0) ∧ E 1 = (.int .i64 at_1) ∧ E 68 = (.bool v_68) ∧ b94j1 s_0 at_1 v_68 R F
def b94 (s_0 : ByteArray) (at_1 : Int) (R : Value → PH → Prop) (F : PH) : Prop :=
 Spec prog 81 #[(.string s_0), (.int .i64 at_1)] F fun v F => ∃ v_16 : Int, v = (.int .u8 v_16) ∧
 ((v_16 = (91 : Int) →
  Spec prog 96 #[(.string s_0), (.int .i64 (IntKind.i64.wrap (at_1 + (1 : Int))))] F fun v F => ∃ v_22 : Int, ∃ v_22_1 : Int, v = (.tuple #[(.int .i64 v_22), (.int .i64 v_22_1)]) ∧
  ((v_22_1 < (0 : Int) →
   R (.tuple #[(Sl.v Sl.nil), (.int .i64 (-1 : Int))]) F) ∧
  (¬ (v_22_1 < (0 : Int)) →
   Spec prog 81 #[(.string s_0), (.int .i64 v_22_1)] F fun v F => ∃ v_30 : Int, v = (.int .u8 v_30) ∧
   ((v_30 ≠ (45 : Int) →
    R (.tuple #[(Sl.v Sl.nil), (.int .i64 (-1 : Int))]) F) ∧
   (¬ (v_30 ≠ (45 : Int)) →
    Spec prog 96 #[(.string s_0), (.int .i64 (IntKind.i64.wrap (v_22_1 + (1 : Int))))] F fun v F => ∃ v_37 : Int, ∃ v_37_1 : Int, v = (.tuple #[(.int .i64 v_37), (.int .i64 v_37_1)]) ∧
    ((v_37_1 < (0 : Int) →
     R (.tuple #[(Sl.v Sl.nil), (.int .i64 (-1 : Int))]) F) ∧
    (¬ (v_37_1 < (0 : Int)) →
     Spec prog 81 #[(.string s_0), (.int .i64 v_37_1)] F fun v F => ∃ v_45 : Int, v = (.int .u8 v_45) ∧
     ((v_45 ≠ (93 : Int) →
      R (.tuple #[(Sl.v Sl.nil), (.int .i64 (-1 : Int))]) F) ∧
     (¬ (v_45 ≠ (93 : Int)) →
      ((v_37 < v_22 →
       R (.tuple #[(Sl.v Sl.nil), (.int .i64 (-1 : Int))]) F) ∧
      (¬ (v_37 < v_22) →
       Spec prog 39 #[(.int .i64 v_22), (.int .i64 v_37)] F fun v F => ∃ v_55 : Sl, v = (Sl.v v_55) ∧
       R (.tuple #[(Sl.v v_55), (.int .i64 (IntKind.i64.wrap (v_37_1 + (1 : Int))))]) F))))))))))) ∧
 (¬ (v_16 = (91 : Int)) →
  Spec prog 81 #[(.string s_0), (.int .i64 at_1)] F fun v F => ∃ v_60 : Int, v = (.int .u8 v_60) ∧
  ((v_60 = (40 : Int) →
   Spec prog 81 #[(.string s_0), (.int .i64 (IntKind.i64.wrap (at_1 + (1 : Int))))] F fun v F => ∃ v_66 : Int, v = (.int .u8 v_66) ∧
   b94j1 s_0 at_1 (decide (v_66 = (41 : Int))) R F) ∧
  (¬ (v_60 = (40 : Int)) →
   b94j1 s_0 at_1 false R F))))
theorem c94 {s_0 : ByteArray} {at_1 : Int} {R : Value → PH → Prop} {F : PH} (h : b94 s_0 at_1 R F) : Spec prog 94 #[(.string s_0), (.int .i64 at_1)] F R := by
 refine spec_of (args := [(.string s_0), (.int .i64 at_1)]) func94 rfl ntmps94 rfl ?_
 unfold b94 at h
 refine cR ?_
 refine sR (Sl.v Sl.nil) (r_assign rfl rfl) ?_
 refine sR (.int .i64 (0 : Int)) (r_assign rfl rfl) ?_
 refine HL_nil ?_
 refine HC_seq ?_
 refine cR ?_
 refine sR (.string s_0) (r_move rfl rfl) ?_
 refine sR (.int .i64 at_1) (r_move rfl rfl) ?_
 refine s_ef (k_call (vs := [(.string s_0), (.int .i64 at_1)]) cb81 (evC rfl (evC rfl evN)) (h.mono ?_))
 clear h; rintro v F ⟨v_16, rfl, h⟩
 refine sR (.bool (decide (v_16 = (91 : Int)))) (w_eql rfl rfl) ?_
 refine HL_nil ?_
 refine HC_cond (t := (decide (v_16 = (91 : Int)))) rfl (fun hc => ?_) (fun hc => ?_)
 ·
  replace h := h.1 (of_decide_eq_true hc)
  clear hc
  refine cR ?_
  refine sR (.string s_0) (r_move rfl rfl) ?_
  refine sR (.int .i64 at_1) (r_move rfl rfl) ?_
  refine sR (.int .i64 (IntKind.i64.wrap (at_1 + (1 : Int)))) (r_add rfl rfl rfl) ?_
  refine s_ef (k_call (vs := [(.string s_0), (.int .i64 (IntKind.i64.wrap (at_1 + (1 : Int))))]) cb96 (evC rfl (evC rfl evN)) (h.mono ?_))
  clear h; rintro v F ⟨v_22, v_22_1, rfl, h⟩
  refine sR (.tuple #[(.int .i64 v_22), (.int .i64 v_22_1)]) (r_move rfl rfl) ?_
  refine sR (.int .i64 v_22) (r_extract rfl rfl rfl) ?_
  refine sR (.int .i64 v_22_1) (r_extract rfl rfl rfl) ?_
  refine sR (.int .i64 v_22) (r_assign rfl rfl) ?_
  refine sR (.int .i64 v_22_1) (r_assign rfl rfl) ?_
  refine HL_nil ?_
  refine HC_seq ?_
  refine cR ?_
  refine sR (.int .i64 v_22_1) (r_move rfl rfl) ?_
  refine sR (.bool (decide (v_22_1 < (0 : Int)))) (r_lss rfl rfl rfl) ?_
  refine sR (.bool (decide (v_22_1 < (0 : Int)))) (r_move rfl rfl) ?_
  by_cases hc : v_22_1 < (0 : Int)
  ·
   replace h := h.1 hc
   refine kN 26 (decide_eq_true hc) ?_
   refine kN 27 (decide_eq_true hc) ?_
   refine s_skip ?_
   refine s_skip ?_
   refine s_skip ?_
   refine s_skip ?_
   refine sR (.bool true) (r_pick rfl rfl (fun _ => rfl) (fun h => by cases h)) ?_
   refine HL_nil ?_
   refine HC_condT rfl ?_
   refine cR ?_
   refine sR (Sl.v Sl.nil) (r_assign rfl rfl) ?_
   refine sR (.int .i64 (-1 : Int)) (r_assign rfl rfl) ?_
   refine HL_nil ?_
   exact HC_ret (show endQ prog f94 R .ret _ _ from ⟨_, res2 rfl (rv_tmp rfl) (rv_tmp rfl), h⟩)
  ·
   replace h := h.2 hc
   refine kN 26 (decide_eq_false hc) ?_
   refine kN 27 (decide_eq_false hc) ?_
   refine sR (.string s_0) (r_move rfl rfl) ?_
   refine sR (.int .i64 v_22_1) (r_move rfl rfl) ?_
   refine s_ef (k_call (vs := [(.string s_0), (.int .i64 v_22_1)]) cb81 (evC rfl (evC rfl evN)) (h.mono ?_))
   clear h; rintro v F ⟨v_30, rfl, h⟩
   refine sR (.bool (decide (v_30 ≠ (45 : Int)))) (w_neq rfl rfl) ?_
   refine sR (.bool (decide (v_30 ≠ (45 : Int)))) (r_pick rfl rfl (fun h => by cases h) (fun _ => rfl)) ?_
   refine HL_nil ?_
   refine HC_cond (t := (decide (v_30 ≠ (45 : Int)))) rfl (fun hc => ?_) (fun hc => ?_)
   ·
    replace h := h.1 (of_decide_eq_true hc)
    clear hc
    refine cR ?_
    refine sR (Sl.v Sl.nil) (r_assign rfl rfl) ?_
    refine sR (.int .i64 (-1 : Int)) (r_assign rfl rfl) ?_
    refine HL_nil ?_
    exact HC_ret (show endQ prog f94 R .ret _ _ from ⟨_, res2 rfl (rv_tmp rfl) (rv_tmp rfl), h⟩)
   ·
    replace h := h.2 (of_decide_eq_false hc)
    clear hc
    refine HC_skip ?_
    refine cR ?_
    refine sR (.string s_0) (r_move rfl rfl) ?_
    refine sR (.int .i64 v_22_1) (r_move rfl rfl) ?_
    refine sR (.int .i64 (IntKind.i64.wrap (v_22_1 + (1 : Int)))) (r_add rfl rfl rfl) ?_
    refine s_ef (k_call (vs := [(.string s_0), (.int .i64 (IntKind.i64.wrap (v_22_1 + (1 : Int))))]) cb96 (evC rfl (evC rfl evN)) (h.mono ?_))
    clear h; rintro v F ⟨v_37, v_37_1, rfl, h⟩
    refine sR (.tuple #[(.int .i64 v_37), (.int .i64 v_37_1)]) (r_move rfl rfl) ?_
    refine sR (.int .i64 v_37) (r_extract rfl rfl rfl) ?_
    refine sR (.int .i64 v_37_1) (r_extract rfl rfl rfl) ?_
    refine sR (.int .i64 v_37) (r_assign rfl rfl) ?_
    refine sR (.int .i64 v_37_1) (r_assign rfl rfl) ?_
    refine HL_nil ?_
    refine HC_seq ?_
    refine cR ?_
    refine sR (.int .i64 v_37_1) (r_move rfl rfl) ?_
    refine sR (.bool (decide (v_37_1 < (0 : Int)))) (r_lss rfl rfl rfl) ?_
    refine sR (.bool (decide (v_37_1 < (0 : Int)))) (r_move rfl rfl) ?_
    by_cases hc : v_37_1 < (0 : Int)
    ·
     replace h := h.1 hc
     refine kN 41 (decide_eq_true hc) ?_
     refine kN 42 (decide_eq_true hc) ?_
     refine s_skip ?_
     refine s_skip ?_
     refine s_skip ?_
     refine s_skip ?_
     refine sR (.bool true) (r_pick rfl rfl (fun _ => rfl) (fun h => by cases h)) ?_
     refine sR (.bool true) (r_move rfl rfl) ?_
     refine s_skip ?_
     refine s_skip ?_
     refine s_skip ?_
     refine sR (.bool true) (r_pick rfl rfl (fun _ => rfl) (fun h => by cases h)) ?_
     refine HL_nil ?_
     refine HC_condT rfl ?_
     refine cR ?_
     refine sR (Sl.v Sl.nil) (r_assign rfl rfl) ?_
     refine sR (.int .i64 (-1 : Int)) (r_assign rfl rfl) ?_
     refine HL_nil ?_
     exact HC_ret (show endQ prog f94 R .ret _ _ from ⟨_, res2 rfl (rv_tmp rfl) (rv_tmp rfl), h⟩)
    ·
     replace h := h.2 hc
     refine kN 41 (decide_eq_false hc) ?_
     refine kN 42 (decide_eq_false hc) ?_
     refine sR (.string s_0) (r_move rfl rfl) ?_
     refine sR (.int .i64 v_37_1) (r_move rfl rfl) ?_
     refine s_ef (k_call (vs := [(.string s_0), (.int .i64 v_37_1)]) cb81 (evC rfl (evC rfl evN)) (h.mono ?_))
     clear h; rintro v F ⟨v_45, rfl, h⟩
     refine sR (.bool (decide (v_45 ≠ (93 : Int)))) (w_neq rfl rfl) ?_
     refine sR (.bool (decide (v_45 ≠ (93 : Int)))) (r_pick rfl rfl (fun h => by cases h) (fun _ => rfl)) ?_
     refine sR (.bool (decide (v_45 ≠ (93 : Int)))) (r_move rfl rfl) ?_
     by_cases hc : v_45 ≠ (93 : Int)
     ·
      replace h := h.1 hc
      refine kN 46 (decide_eq_true hc) ?_
      refine kN 47 (decide_eq_true hc) ?_
      refine kN 48 (decide_eq_true hc) ?_
      refine s_skip ?_
      refine s_skip ?_
      refine s_skip ?_
      refine sR (.bool true) (r_pick rfl rfl (fun _ => rfl) (fun h => by cases h)) ?_
      refine HL_nil ?_
      refine HC_condT rfl ?_
      refine cR ?_
      refine sR (Sl.v Sl.nil) (r_assign rfl rfl) ?_
      refine sR (.int .i64 (-1 : Int)) (r_assign rfl rfl) ?_
      refine HL_nil ?_
      exact HC_ret (show endQ prog f94 R .ret _ _ from ⟨_, res2 rfl (rv_tmp rfl) (rv_tmp rfl), h⟩)
     ·
      replace h := h.2 hc
      refine kN 46 (decide_eq_false hc) ?_
      refine kN 47 (decide_eq_false hc) ?_
      refine kN 48 (decide_eq_false hc) ?_
      refine sR (.int .i64 v_22) (r_move rfl rfl) ?_
      refine sR (.int .i64 v_37) (r_move rfl rfl) ?_
      refine sR (.bool (decide (v_37 < v_22))) (r_gtr rfl rfl rfl) ?_
      refine sR (.bool (decide (v_37 < v_22))) (r_pick rfl rfl (fun h => by cases h) (fun _ => rfl)) ?_
      refine HL_nil ?_
      refine HC_cond (t := (decide (v_37 < v_22))) rfl (fun hc => ?_) (fun hc => ?_)
      ·
       replace h := h.1 (of_decide_eq_true hc)
       clear hc
       refine cR ?_
       refine sR (Sl.v Sl.nil) (r_assign rfl rfl) ?_
       refine sR (.int .i64 (-1 : Int)) (r_assign rfl rfl) ?_
       refine HL_nil ?_
       exact HC_ret (show endQ prog f94 R .ret _ _ from ⟨_, res2 rfl (rv_tmp rfl) (rv_tmp rfl), h⟩)
      ·
       replace h := h.2 (of_decide_eq_false hc)
       clear hc
       refine HC_skip ?_
       refine cR ?_
       refine sR (.int .i64 v_22) (r_move rfl rfl) ?_
       refine sR (.int .i64 v_37) (r_move rfl rfl) ?_
       refine s_ef (k_call (vs := [(.int .i64 v_22), (.int .i64 v_37)]) cb39 (evC rfl (evC rfl evN)) (h.mono ?_))
       clear h; rintro v F ⟨v_55, rfl, h⟩
       refine sR (.int .i64 v_37_1) (r_move rfl rfl) ?_
       refine sR (.int .i64 (IntKind.i64.wrap (v_37_1 + (1 : Int)))) (r_add rfl rfl rfl) ?_
       refine sR (Sl.v v_55) (r_assign rfl rfl) ?_
       refine sR (.int .i64 (IntKind.i64.wrap (v_37_1 + (1 : Int)))) (r_assign rfl rfl) ?_
       refine HL_nil ?_
       exact HC_ret (show endQ prog f94 R .ret _ _ from ⟨_, res2 rfl (rv_tmp rfl) (rv_tmp rfl), h⟩)
 ·
  replace h := h.2 (of_decide_eq_false hc)
  clear hc
  refine HC_skip ?_
  refine HC_seq ?_
  refine HC_seqJ (b94J1 s_0 at_1 R) ?_ ?_
  ·
   clear h; rintro E F ⟨v_68, h0, h1, h68, h⟩
   unfold b94j1 at h
   refine HC_cond (t := v_68) h68 (fun hc => ?_) (fun hc => ?_)
   ·
    replace h := h.1 hc
    clear hc
    refine cR ?_
    refine s_ef (k_call (vs := []) cb38 evN (h.mono ?_))
    clear h; rintro v F ⟨v_69, rfl, h⟩
    refine sR (.int .i64 at_1) (r_move rfl h1) ?_
    refine sR (.int .i64 (IntKind.i64.wrap (at_1 + (2 : Int)))) (r_add rfl rfl rfl) ?_
    refine sR (Sl.v v_69) (r_assign rfl rfl) ?_
    refine sR (.int .i64 (IntKind.i64.wrap (at_1 + (2 : Int)))) (r_assign rfl rfl) ?_
    refine HL_nil ?_
    exact HC_ret (show endQ prog f94 R .ret _ _ from ⟨_, res2 rfl (rv_tmp rfl) (rv_tmp rfl), h⟩)
   ·
    replace h := h.2 hc
    clear hc
    refine HC_skip ?_
    refine HC_seq ?_
    refine cR ?_
    refine sR (.string s_0) (r_move rfl h0) ?_
    refine sR (.int .i64 at_1) (r_move rfl h1) ?_
    refine s_ef (k_call (vs := [(.string s_0), (.int .i64 at_1)]) cb81 (evC rfl (evC rfl evN)) (h.mono ?_))
    clear h; rintro v F ⟨v_74, rfl, h⟩
    refine sR (.bool (decide (v_74 = (40 : Int)))) (w_eql rfl rfl) ?_
    refine HL_nil ?_
    refine HC_cond (t := (decide (v_74 = (40 : Int)))) rfl (fun hc => ?_) (fun hc => ?_)
    ·
     replace h := h.1 (of_decide_eq_true hc)
     clear hc
     refine cR ?_
     refine sR (.string s_0) (r_move rfl h0) ?_
     refine sR (.int .i64 at_1) (r_move rfl h1) ?_
     refine sR (.int .i64 (IntKind.i64.wrap (at_1 + (1 : Int)))) (r_add rfl rfl rfl) ?_
     refine s_ef (k_call (vs := [(.string s_0), (.int .i64 (IntKind.i64.wrap (at_1 + (1 : Int))))]) cb56 (evC rfl (evC rfl evN)) (h.mono ?_))
     clear h; rintro v F ⟨v_80, v_80_1, rfl, h⟩
     refine sR (.tuple #[(Sl.v v_80), (.int .i64 v_80_1)]) (r_move rfl rfl) ?_
     refine sR (Sl.v v_80) (r_extract rfl rfl rfl) ?_
     refine sR (.int .i64 v_80_1) (r_extract rfl rfl rfl) ?_
     refine sR (Sl.v v_80) (r_assign rfl rfl) ?_
     refine sR (.int .i64 v_80_1) (r_assign rfl rfl) ?_
     refine HL_nil ?_
     refine HC_seq ?_
     refine cR ?_
     refine sR (.int .i64 v_80_1) (r_move rfl rfl) ?_
     refine sR (.bool (decide (v_80_1 < (0 : Int)))) (r_lss rfl rfl rfl) ?_
     refine sR (.bool (decide (v_80_1 < (0 : Int)))) (r_move rfl rfl) ?_
     by_cases hc : v_80_1 < (0 : Int)
     ·
      replace h := h.1 hc
      refine kN 84 (decide_eq_true hc) ?_
      refine kN 85 (decide_eq_true hc) ?_
      refine s_skip ?_
      refine s_skip ?_
      refine s_skip ?_
      refine s_skip ?_
      refine sR (.bool true) (r_pick rfl rfl (fun _ => rfl) (fun h => by cases h)) ?_
      refine HL_nil ?_
      refine HC_condT rfl ?_
      refine cR ?_
      refine sR (Sl.v Sl.nil) (r_assign rfl rfl) ?_
      refine sR (.int .i64 (-1 : Int)) (r_assign rfl rfl) ?_
      refine HL_nil ?_
      exact HC_ret (show endQ prog f94 R .ret _ _ from ⟨_, res2 rfl (rv_tmp rfl) (rv_tmp rfl), h⟩)
     ·
      replace h := h.2 hc
      refine kN 84 (decide_eq_false hc) ?_
      refine kN 85 (decide_eq_false hc) ?_
      refine sR (.string s_0) (r_move rfl h0) ?_
      refine sR (.int .i64 v_80_1) (r_move rfl rfl) ?_
      refine s_ef (k_call (vs := [(.string s_0), (.int .i64 v_80_1)]) cb81 (evC rfl (evC rfl evN)) (h.mono ?_))
      clear h; rintro v F ⟨v_88, rfl, h⟩
      refine sR (.bool (decide (v_88 ≠ (41 : Int)))) (w_neq rfl rfl) ?_
      refine sR (.bool (decide (v_88 ≠ (41 : Int)))) (r_pick rfl rfl (fun h => by cases h) (fun _ => rfl)) ?_
      refine HL_nil ?_
      refine HC_cond (t := (decide (v_88 ≠ (41 : Int)))) rfl (fun hc => ?_) (fun hc => ?_)
      ·
       replace h := h.1 (of_decide_eq_true hc)
       clear hc
       refine cR ?_
       refine sR (Sl.v Sl.nil) (r_assign rfl rfl) ?_
       refine sR (.int .i64 (-1 : Int)) (r_assign rfl rfl) ?_
       refine HL_nil ?_
       exact HC_ret (show endQ prog f94 R .ret _ _ from ⟨_, res2 rfl (rv_tmp rfl) (rv_tmp rfl), h⟩)
      ·
       replace h := h.2 (of_decide_eq_false hc)
       clear hc
       refine HC_skip ?_
       refine cR ?_
       refine sR (Sl.v v_80) (r_move rfl rfl) ?_
       refine sR (.int .i64 v_80_1) (r_move rfl rfl) ?_
       refine sR (.int .i64 (IntKind.i64.wrap (v_80_1 + (1 : Int)))) (r_add rfl rfl rfl) ?_
       refine sR (Sl.v v_80) (r_assign rfl rfl) ?_
       refine sR (.int .i64 (IntKind.i64.wrap (v_80_1 + (1 : Int)))) (r_assign rfl rfl) ?_
       refine HL_nil ?_
       exact HC_ret (show endQ prog f94 R .ret _ _ from ⟨_, res2 rfl (rv_tmp rfl) (rv_tmp rfl), h⟩)
    ·
     replace h := h.2 (of_decide_eq_false hc)
     clear hc
     refine HC_skip ?_
     refine cR ?_
     refine sR (.string s_0) (r_move rfl h0) ?_
     refine sR (.int .i64 at_1) (r_move rfl h1) ?_
     refine s_ef (k_call (vs := [(.string s_0), (.int .i64 at_1)]) cb96 (evC rfl (evC rfl evN)) (h.mono ?_))
     clear h; rintro v F ⟨v_97, v_97_1, rfl, h⟩
     refine sR (.tuple #[(.int .i64 v_97), (.int .i64 v_97_1)]) (r_move rfl rfl) ?_
     refine sR (.int .i64 v_97) (r_extract rfl rfl rfl) ?_
     refine sR (.int .i64 v_97_1) (r_extract rfl rfl rfl) ?_
     refine sR (.int .i64 v_97) (r_assign rfl rfl) ?_
     refine sR (.int .i64 v_97_1) (r_assign rfl rfl) ?_
     refine HL_nil ?_
     refine HC_seq ?_
     refine cR ?_
     refine sR (.int .i64 v_97_1) (r_move rfl rfl) ?_
     refine sR (.bool (decide (v_97_1 < (0 : Int)))) (r_lss rfl rfl rfl) ?_
     refine HL_nil ?_
     refine HC_cond (t := (decide (v_97_1 < (0 : Int)))) rfl (fun hc => ?_) (fun hc => ?_)
     ·
      replace h := h.1 (of_decide_eq_true hc)
      clear hc
      refine cR ?_
      refine sR (Sl.v Sl.nil) (r_assign rfl rfl) ?_
      refine sR (.int .i64 (-1 : Int)) (r_assign rfl rfl) ?_
      refine HL_nil ?_
      exact HC_ret (show endQ prog f94 R .ret _ _ from ⟨_, res2 rfl (rv_tmp rfl) (rv_tmp rfl), h⟩)
     ·
      replace h := h.2 (of_decide_eq_false hc)
      clear hc
      refine HC_skip ?_
      refine cR ?_
      refine sR (.int .i64 v_97) (r_move rfl rfl) ?_
      refine sR (.int .i64 v_97) (r_move rfl rfl) ?_
      refine s_ef (k_call (vs := [(.int .i64 v_97), (.int .i64 v_97)]) cb39 (evC rfl (evC rfl evN)) (h.mono ?_))
      clear h; rintro v F ⟨v_104, rfl, h⟩
      refine sR (.int .i64 v_97_1) (r_move rfl rfl) ?_
      refine sR (Sl.v v_104) (r_assign rfl rfl) ?_
      refine sR (.int .i64 v_97_1) (r_assign rfl rfl) ?_
      refine HL_nil ?_
      exact HC_ret (show endQ prog f94 R .ret _ _ from ⟨_, res2 rfl (rv_tmp rfl) (rv_tmp rfl), h⟩)
  ·
   skip
   refine HC_region ?_
   refine sR (.string s_0) (r_move rfl rfl) ?_
   refine sR (.int .i64 at_1) (r_move rfl rfl) ?_
   refine s_ef (k_call (vs := [(.string s_0), (.int .i64 at_1)]) cb81 (evC rfl (evC rfl evN)) (h.mono ?_))
   clear h; rintro v F ⟨v_60, rfl, h⟩
   refine sR (.bool (decide (v_60 = (40 : Int)))) (w_eql rfl rfl) ?_
   refine sR (.bool (decide (v_60 = (40 : Int)))) (r_move rfl rfl) ?_
   by_cases hc : v_60 = (40 : Int)
   ·
    replace h := h.1 hc
    refine kN 61 (decide_eq_true hc) ?_
    refine kN 62 (decide_eq_true hc) ?_
    refine sR (.string s_0) (r_move rfl rfl) ?_
    refine sR (.int .i64 at_1) (r_move rfl rfl) ?_
    refine sR (.int .i64 (IntKind.i64.wrap (at_1 + (1 : Int)))) (r_add rfl rfl rfl) ?_
    refine s_ef (k_call (vs := [(.string s_0), (.int .i64 (IntKind.i64.wrap (at_1 + (1 : Int))))]) cb81 (evC rfl (evC rfl evN)) (h.mono ?_))
    clear h; rintro v F ⟨v_66, rfl, h⟩
    refine sR (.bool (decide (v_66 = (41 : Int)))) (w_eql rfl rfl) ?_
    refine sR (.bool (decide (v_66 = (41 : Int)))) (r_pick rfl rfl (fun _ => rfl) (fun h => by cases h)) ?_
    refine HL_nil ?_
    show b94J1 s_0 at_1 R _ _
    exact ⟨_, rfl, rfl, rfl, h⟩
   ·
    replace h := h.2 hc
    refine kN 61 (decide_eq_false hc) ?_
    refine kN 62 (decide_eq_false hc) ?_
    refine s_skip ?_
    refine s_skip ?_
    refine s_skip ?_
    refine s_skip ?_
    refine s_skip ?_
    refine sR (.bool false) (r_pick rfl rfl (fun h => by cases h) (fun _ => rfl)) ?_
    refine HL_nil ?_
    show b94J1 s_0 at_1 R _ _
    exact ⟨_, rfl, rfl, rfl, h⟩

/- 92 koine.koineref04.repetition -/
def b92j1 (p_6 : Sl) (next_7 : Int) (R : Value → PH → Prop) (F : PH) : Prop :=
 R (.tuple #[(Sl.v p_6), (.int .i64 next_7)]) F
abbrev b92J1 (R : Value → PH → Prop) (E : En) (F : PH) : Prop := ∃ p_6 : Sl, ∃ next_7 : Int, E 6 = (Sl.v p_6) ∧ E 7 = (.int .i64 next_7) ∧ b92j1 p_6 next_7 R F
def b92L1 (N1 : Sl → Int → PH → Prop) (s_0 : ByteArray) (R : Value → PH → Prop) (p_6_1 : Sl) (next_7_1 : Int) (F : PH) : Prop :=
 (((0 : Int) ≤ next_7_1 →
  Spec prog 81 #[(.string s_0), (.int .i64 next_7_1)] F fun v F => ∃ v_19 : Int, v = (.int .u8 v_19) ∧
  ((v_19 = (42 : Int) →
   Spec prog 40 #[(Sl.v p_6_1)] F fun v F => ∃ v_23 : Sl, v = (Sl.v v_23) ∧
   N1 v_23 (IntKind.i64.wrap (next_7_1 + (1 : Int))) F) ∧
  (¬ (v_19 = (42 : Int)) →
   b92j1 p_6_1 next_7_1 R F))) ∧
 (¬ ((0 : Int) ≤ next_7_1) →
  b92j1 p_6_1 next_7_1 R F))
def b92 (s_0 : ByteArray) (at_1 : Int) (R : Value → PH → Prop) (F : PH) : Prop :=
 Spec prog 94 #[(.string s_0), (.int .i64 at_1)] F fun v F => ∃ v_11 : Sl, ∃ v_11_1 : Int, v = (.tuple #[(Sl.v v_11), (.int .i64 v_11_1)]) ∧
 (∃ (I1 : Nat → Sl → Int → PH → Prop) (m1 : Nat), I1 m1 v_11 v_11_1 F ∧ ∀ m1 p_6_1 next_7_1 F, I1 m1 p_6_1 next_7_1 F →
  b92L1 (fun y1_0 y1_1 F => ∃ m', m' < m1 ∧ I1 m' y1_0 y1_1 F) s_0 R p_6_1 next_7_1 F)
theorem c92 {s_0 : ByteArray} {at_1 : Int} {R : Value → PH → Prop} {F : PH} (h : b92 s_0 at_1 R F) : Spec prog 92 #[(.string s_0), (.int .i64 at_1)] F R := by
 refine spec_of (args := [(.string s_0), (.int .i64 at_1)]) func92 rfl ntmps92 rfl ?_
 unfold b92 at h
 refine cR ?_
 refine sR (Sl.v Sl.nil) (r_assign rfl rfl) ?_
 refine sR (.int .i64 (0 : Int)) (r_assign rfl rfl) ?_
 refine HL_nil ?_
 refine cR ?_
 refine sR (.string s_0) (r_move rfl rfl) ?_
 refine sR (.int .i64 at_1) (r_move rfl rfl) ?_
 refine s_ef (k_call (vs := [(.string s_0), (.int .i64 at_1)]) cb94 (evC rfl (evC rfl evN)) (h.mono ?_))
 clear h; rintro v F ⟨v_11, v_11_1, rfl, h⟩
 refine sR (.tuple #[(Sl.v v_11), (.int .i64 v_11_1)]) (r_move rfl rfl) ?_
 refine sR (Sl.v v_11) (r_extract rfl rfl rfl) ?_
 refine sR (.int .i64 v_11_1) (r_extract rfl rfl rfl) ?_
 refine sR (Sl.v v_11) (r_assign rfl rfl) ?_
 refine sR (.int .i64 v_11_1) (r_assign rfl rfl) ?_
 refine HL_nil ?_
 refine HC_seqJ (b92J1 R) ?_ ?_
 ·
  clear h; rintro E F ⟨p_6, next_7, h6, h7, h⟩
  unfold b92j1 at h
  refine cR ?_
  refine sR (Sl.v p_6) (r_move rfl h6) ?_
  refine sR (.int .i64 next_7) (r_move rfl h7) ?_
  refine sR (Sl.v p_6) (r_assign rfl rfl) ?_
  refine sR (.int .i64 next_7) (r_assign rfl rfl) ?_
  refine HL_nil ?_
  exact HC_ret (show endQ prog f92 R .ret _ _ from ⟨_, res2 rfl (rv_tmp rfl) (rv_tmp rfl), h⟩)
 ·
  skip
  refine HC_block ?_
  obtain ⟨I1, m1, hI0, hr⟩ := h
  refine HC_loop (fun m1 E F => ∃ p_6_1 : Sl, ∃ next_7_1 : Int, E 0 = (.string s_0) ∧ E 6 = (Sl.v p_6_1) ∧ E 7 = (.int .i64 next_7_1) ∧ I1 m1 p_6_1 next_7_1 F) m1 ⟨_, _, rfl, rfl, rfl, hI0⟩ ?_
  clear hI0; rintro m1 E F ⟨p_6_1, next_7_1, h0, h6, h7, hI⟩
  have h := hr m1 p_6_1 next_7_1 F hI
  clear hr hI
  unfold b92L1 at h
  refine HC_seq ?_
  refine cR ?_
  refine sR (.int .i64 next_7_1) (r_move rfl h7) ?_
  refine sR (.bool (decide ((0 : Int) ≤ next_7_1))) (r_geq rfl rfl rfl) ?_
  refine sR (.bool (decide ((0 : Int) ≤ next_7_1))) (r_move rfl rfl) ?_
  by_cases hc : (0 : Int) ≤ next_7_1
  ·
   replace h := h.1 hc
   refine kN 15 (decide_eq_true hc) ?_
   refine kN 16 (decide_eq_true hc) ?_
   refine sR (.string s_0) (r_move rfl h0) ?_
   refine sR (.int .i64 next_7_1) (r_move rfl h7) ?_
   refine s_ef (k_call (vs := [(.string s_0), (.int .i64 next_7_1)]) cb81 (evC rfl (evC rfl evN)) (h.mono ?_))
   clear h; rintro v F ⟨v_19, rfl, h⟩
   refine sR (.bool (decide (v_19 = (42 : Int)))) (w_eql rfl rfl) ?_
   refine sR (.bool (decide (v_19 = (42 : Int)))) (r_pick rfl rfl (fun _ => rfl) (fun h => by cases h)) ?_
   refine HL_nil ?_
   refine HC_cond (t := (decide (v_19 = (42 : Int)))) rfl (fun hc => ?_) (fun hc => ?_)
   ·
    replace h := h.1 (of_decide_eq_true hc)
    clear hc
    refine HC_skip ?_
    refine HC_block ?_
    refine cR ?_
    refine sR (Sl.v p_6_1) (r_move rfl h6) ?_
    refine s_ef (k_call (vs := [(Sl.v p_6_1)]) cb40 (evC rfl evN) (h.mono ?_))
    clear h; rintro v F ⟨v_23, rfl, h⟩
    refine sR (Sl.v v_23) (r_assign rfl rfl) ?_
    refine HL_nil ?_
    refine HC_region ?_
    refine sR (.int .i64 next_7_1) (r_move rfl h7) ?_
    refine sR (.int .i64 (IntKind.i64.wrap (next_7_1 + (1 : Int)))) (r_add rfl rfl rfl) ?_
    refine sR (.int .i64 (IntKind.i64.wrap (next_7_1 + (1 : Int)))) (r_assign rfl rfl) ?_
    refine HL_nil ?_
    obtain ⟨m', hm, h⟩ := h
    exact ⟨m', hm, _, _, h0, rfl, rfl, h⟩
   ·
    replace h := h.2 (of_decide_eq_false hc)
    clear hc
    refine HC_exit ?_
    show b92J1 R _ _
    exact ⟨_, _, h6, h7, h⟩
  ·
   replace h := h.2 hc
   refine kN 15 (decide_eq_false hc) ?_
   refine kN 16 (decide_eq_false hc) ?_
   refine s_skip ?_
   refine s_skip ?_
   refine s_skip ?_
   refine s_skip ?_
   refine sR (.bool false) (r_pick rfl rfl (fun h => by cases h) (fun _ => rfl)) ?_
   refine HL_nil ?_
   refine HC_condF rfl ?_
   refine HC_exit ?_
   show b92J1 R _ _
   exact ⟨_, _, h6, h7, h⟩

/- 80 koine.koineref04.sequence -/
def b80j1 (p_6 : Sl) (next_7 : Int) (R : Value → PH → Prop) (F : PH) : Prop :=
 R (.tuple #[(Sl.v p_6), (.int .i64 next_7)]) F
abbrev b80J1 (R : Value → PH → Prop) (E : En) (F : PH) : Prop := ∃ p_6 : Sl, ∃ next_7 : Int, E 6 = (Sl.v p_6) ∧ E 7 = (.int .i64 next_7) ∧ b80j1 p_6 next_7 R F
def b80L1 (N1 : Sl → Int → PH → Prop) (s_0 : ByteArray) (R : Value → PH → Prop) (p_6_1 : Sl) (next_7_1 : Int) (F : PH) : Prop :=
 (((0 : Int) ≤ next_7_1 →
  ((next_7_1 < (s_0.size : Int) →
   0 ≤ next_7_1 ∧ next_7_1 < (s_0.size : Int) ∧
   ∃ (hx : Int.toNat next_7_1 < s_0.size) (v_27 : Int), v_27 = ((s_0[Int.toNat next_7_1]'hx).toNat : Int) ∧
   ((v_27 ≠ (124 : Int) →
    0 ≤ next_7_1 ∧ next_7_1 < (s_0.size : Int) ∧
    ∃ (hx : Int.toNat next_7_1 < s_0.size) (v_33 : Int), v_33 = ((s_0[Int.toNat next_7_1]'hx).toNat : Int) ∧
    ((v_33 ≠ (41 : Int) →
     Spec prog 92 #[(.string s_0), (.int .i64 next_7_1)] F fun v F => ∃ v_39 : Sl, ∃ v_39_1 : Int, v = (.tuple #[(Sl.v v_39), (.int .i64 v_39_1)]) ∧
     Spec prog 41 #[(.int .i64 (2 : Int)), (Sl.v p_6_1), (Sl.v v_39)] F fun v F => ∃ v_44 : Sl, v = (Sl.v v_44) ∧
     N1 v_44 v_39_1 F) ∧
    (¬ (v_33 ≠ (41 : Int)) →
     b80j1 p_6_1 next_7_1 R F))) ∧
   (¬ (v_27 ≠ (124 : Int)) →
    b80j1 p_6_1 next_7_1 R F))) ∧
  (¬ (next_7_1 < (s_0.size : Int)) →
   b80j1 p_6_1 next_7_1 R F))) ∧
 (¬ ((0 : Int) ≤ next_7_1) →
  b80j1 p_6_1 next_7_1 R F))
def b80 (s_0 : ByteArray) (at_1 : Int) (R : Value → PH → Prop) (F : PH) : Prop :=
 Spec prog 92 #[(.string s_0), (.int .i64 at_1)] F fun v F => ∃ v_13 : Sl, ∃ v_13_1 : Int, v = (.tuple #[(Sl.v v_13), (.int .i64 v_13_1)]) ∧
 (∃ (I1 : Nat → Sl → Int → PH → Prop) (m1 : Nat), I1 m1 v_13 v_13_1 F ∧ ∀ m1 p_6_1 next_7_1 F, I1 m1 p_6_1 next_7_1 F →
  b80L1 (fun y1_0 y1_1 F => ∃ m', m' < m1 ∧ I1 m' y1_0 y1_1 F) s_0 R p_6_1 next_7_1 F)
theorem c80 {s_0 : ByteArray} {at_1 : Int} {R : Value → PH → Prop} {F : PH} (h : b80 s_0 at_1 R F) : Spec prog 80 #[(.string s_0), (.int .i64 at_1)] F R := by
 refine spec_of (args := [(.string s_0), (.int .i64 at_1)]) func80 rfl ntmps80 rfl ?_
 unfold b80 at h
 refine cR ?_
 refine sR (Sl.v Sl.nil) (r_assign rfl rfl) ?_
 refine sR (.int .i64 (0 : Int)) (r_assign rfl rfl) ?_
 refine HL_nil ?_
 refine cR ?_
 refine sR (.string s_0) (r_move rfl rfl) ?_
 refine sR (.int .i64 at_1) (r_move rfl rfl) ?_
 refine s_ef (k_call (vs := [(.string s_0), (.int .i64 at_1)]) cb92 (evC rfl (evC rfl evN)) (h.mono ?_))
 clear h; rintro v F ⟨v_13, v_13_1, rfl, h⟩
 refine sR (.tuple #[(Sl.v v_13), (.int .i64 v_13_1)]) (r_move rfl rfl) ?_
 refine sR (Sl.v v_13) (r_extract rfl rfl rfl) ?_
 refine sR (.int .i64 v_13_1) (r_extract rfl rfl rfl) ?_
 refine sR (Sl.v v_13) (r_assign rfl rfl) ?_
 refine sR (.int .i64 v_13_1) (r_assign rfl rfl) ?_
 refine HL_nil ?_
 refine HC_seqJ (b80J1 R) ?_ ?_
 ·
  clear h; rintro E F ⟨p_6, next_7, h6, h7, h⟩
  unfold b80j1 at h
  refine cR ?_
  refine sR (Sl.v p_6) (r_move rfl h6) ?_
  refine sR (.int .i64 next_7) (r_move rfl h7) ?_
  refine sR (Sl.v p_6) (r_assign rfl rfl) ?_
  refine sR (.int .i64 next_7) (r_assign rfl rfl) ?_
  refine HL_nil ?_
  exact HC_ret (show endQ prog f80 R .ret _ _ from ⟨_, res2 rfl (rv_tmp rfl) (rv_tmp rfl), h⟩)
 ·
  skip
  refine HC_block ?_
  obtain ⟨I1, m1, hI0, hr⟩ := h
  refine HC_loop (fun m1 E F => ∃ p_6_1 : Sl, ∃ next_7_1 : Int, E 0 = (.string s_0) ∧ E 6 = (Sl.v p_6_1) ∧ E 7 = (.int .i64 next_7_1) ∧ I1 m1 p_6_1 next_7_1 F) m1 ⟨_, _, rfl, rfl, rfl, hI0⟩ ?_
  clear hI0; rintro m1 E F ⟨p_6_1, next_7_1, h0, h6, h7, hI⟩
  have h := hr m1 p_6_1 next_7_1 F hI
  clear hr hI
  unfold b80L1 at h
  refine HC_seq ?_
  refine cR ?_
  refine sR (.int .i64 next_7_1) (r_move rfl h7) ?_
  refine sR (.bool (decide ((0 : Int) ≤ next_7_1))) (r_geq rfl rfl rfl) ?_
  refine sR (.bool (decide ((0 : Int) ≤ next_7_1))) (r_move rfl rfl) ?_
  by_cases hc : (0 : Int) ≤ next_7_1
  ·
   replace h := h.1 hc
   refine kN 17 (decide_eq_true hc) ?_
   refine kN 18 (decide_eq_true hc) ?_
   refine sR (.int .i64 next_7_1) (r_move rfl h7) ?_
   refine sR (.string s_0) (r_move rfl h0) ?_
   refine sR (.int .i64 (s_0.size : Int)) (r_lenStr rfl rfl underlying9) ?_
   refine sR (.bool (decide (next_7_1 < (s_0.size : Int)))) (r_lss rfl rfl rfl) ?_
   refine sR (.bool (decide (next_7_1 < (s_0.size : Int)))) (r_pick rfl rfl (fun _ => rfl) (fun h => by cases h)) ?_
   refine sR (.bool (decide (next_7_1 < (s_0.size : Int)))) (r_move rfl rfl) ?_
   by_cases hc : next_7_1 < (s_0.size : Int)
   ·
    replace h := h.1 hc
    refine kN 22 (decide_eq_true hc) ?_
    refine kN 23 (decide_eq_true hc) ?_
    refine kN 24 (decide_eq_true hc) ?_
    refine sR (.string s_0) (r_move rfl h0) ?_
    refine sR (.int .i64 next_7_1) (r_move rfl h7) ?_
    obtain ⟨hl27, hu27, hx27, v_27, hv27, h⟩ := h
    refine sR (.int .u8 v_27) (w_indexStr rfl rfl underlying9 hl27 hu27 hv27) ?_
    refine sR (.bool (decide (v_27 ≠ (124 : Int)))) (w_neq rfl rfl) ?_
    refine sR (.bool (decide (v_27 ≠ (124 : Int)))) (r_pick rfl rfl (fun _ => rfl) (fun h => by cases h)) ?_
    refine sR (.bool (decide (v_27 ≠ (124 : Int)))) (r_move rfl rfl) ?_
    by_cases hc : v_27 ≠ (124 : Int)
    ·
     replace h := h.1 hc
     refine kN 28 (decide_eq_true hc) ?_
     refine kN 29 (decide_eq_true hc) ?_
     refine kN 30 (decide_eq_true hc) ?_
     refine sR (.string s_0) (r_move rfl h0) ?_
     refine sR (.int .i64 next_7_1) (r_move rfl h7) ?_
     obtain ⟨hl33, hu33, hx33, v_33, hv33, h⟩ := h
     refine sR (.int .u8 v_33) (w_indexStr rfl rfl underlying9 hl33 hu33 hv33) ?_
     refine sR (.bool (decide (v_33 ≠ (41 : Int)))) (w_neq rfl rfl) ?_
     refine sR (.bool (decide (v_33 ≠ (41 : Int)))) (r_pick rfl rfl (fun _ => rfl) (fun h => by cases h)) ?_
     refine HL_nil ?_
     refine HC_cond (t := (decide (v_33 ≠ (41 : Int)))) rfl (fun hc => ?_) (fun hc => ?_)
     ·
      replace h := h.1 (of_decide_eq_true hc)
      clear hc
      refine HC_skip ?_
      refine HC_block ?_
      refine cR ?_
      refine sR (.string s_0) (r_move rfl h0) ?_
      refine sR (.int .i64 next_7_1) (r_move rfl h7) ?_
      refine s_ef (k_call (vs := [(.string s_0), (.int .i64 next_7_1)]) cb92 (evC rfl (evC rfl evN)) (h.mono ?_))
      clear h; rintro v F ⟨v_39, v_39_1, rfl, h⟩
      refine sR (.tuple #[(Sl.v v_39), (.int .i64 v_39_1)]) (r_move rfl rfl) ?_
      refine sR (Sl.v v_39) (r_extract rfl rfl rfl) ?_
      refine sR (.int .i64 v_39_1) (r_extract rfl rfl rfl) ?_
      refine sR (Sl.v v_39) (r_assign rfl rfl) ?_
      refine sR (.int .i64 v_39_1) (r_assign rfl rfl) ?_
      refine HL_nil ?_
      refine cR ?_
      refine sR (Sl.v p_6_1) (r_move rfl h6) ?_
      refine sR (Sl.v v_39) (r_move rfl rfl) ?_
      refine s_ef (k_call (vs := [(.int .i64 (2 : Int)), (Sl.v p_6_1), (Sl.v v_39)]) cb41 (evC rfl (evC rfl (evC rfl evN))) (h.mono ?_))
      clear h; rintro v F ⟨v_44, rfl, h⟩
      refine sR (Sl.v v_44) (r_assign rfl rfl) ?_
      refine HL_nil ?_
      refine HC_region ?_
      refine sR (.int .i64 v_39_1) (r_move rfl rfl) ?_
      refine sR (.int .i64 v_39_1) (r_assign rfl rfl) ?_
      refine HL_nil ?_
      obtain ⟨m', hm, h⟩ := h
      exact ⟨m', hm, _, _, h0, rfl, rfl, h⟩
     ·
      replace h := h.2 (of_decide_eq_false hc)
      clear hc
      refine HC_exit ?_
      show b80J1 R _ _
      exact ⟨_, _, h6, h7, h⟩
    ·
     replace h := h.2 hc
     refine kN 28 (decide_eq_false hc) ?_
     refine kN 29 (decide_eq_false hc) ?_
     refine kN 30 (decide_eq_false hc) ?_
     refine s_skip ?_
     refine s_skip ?_
     refine s_skip ?_
     refine s_skip ?_
     refine sR (.bool false) (r_pick rfl rfl (fun h => by cases h) (fun _ => rfl)) ?_
     refine HL_nil ?_
     refine HC_condF rfl ?_
     refine HC_exit ?_
     show b80J1 R _ _
     exact ⟨_, _, h6, h7, h⟩
   ·
    replace h := h.2 hc
    refine kN 22 (decide_eq_false hc) ?_
    refine kN 23 (decide_eq_false hc) ?_
    refine kN 24 (decide_eq_false hc) ?_
    refine s_skip ?_
    refine s_skip ?_
    refine s_skip ?_
    refine s_skip ?_
    refine sR (.bool false) (r_pick rfl rfl (fun h => by cases h) (fun _ => rfl)) ?_
    refine sR (.bool false) (r_move rfl rfl) ?_
    refine s_skip ?_
    refine s_skip ?_
    refine s_skip ?_
    refine s_skip ?_
    refine sR (.bool false) (r_pick rfl rfl (fun h => by cases h) (fun _ => rfl)) ?_
    refine HL_nil ?_
    refine HC_condF rfl ?_
    refine HC_exit ?_
    show b80J1 R _ _
    exact ⟨_, _, h6, h7, h⟩
  ·
   replace h := h.2 hc
   refine kN 17 (decide_eq_false hc) ?_
   refine kN 18 (decide_eq_false hc) ?_
   refine s_skip ?_
   refine s_skip ?_
   refine s_skip ?_
   refine s_skip ?_
   refine sR (.bool false) (r_pick rfl rfl (fun h => by cases h) (fun _ => rfl)) ?_
   refine sR (.bool false) (r_move rfl rfl) ?_
   refine s_skip ?_
   refine s_skip ?_
   refine s_skip ?_
   refine s_skip ?_
   refine sR (.bool false) (r_pick rfl rfl (fun h => by cases h) (fun _ => rfl)) ?_
   refine sR (.bool false) (r_move rfl rfl) ?_
   refine s_skip ?_
   refine s_skip ?_
   refine s_skip ?_
   refine s_skip ?_
   refine sR (.bool false) (r_pick rfl rfl (fun h => by cases h) (fun _ => rfl)) ?_
   refine HL_nil ?_
   refine HC_condF rfl ?_
   refine HC_exit ?_
   show b80J1 R _ _
   exact ⟨_, _, h6, h7, h⟩

/- 56 koine.koineref04.alternatives -/
def b56j1 (p_6 : Sl) (next_7 : Int) (R : Value → PH → Prop) (F : PH) : Prop :=
 R (.tuple #[(Sl.v p_6), (.int .i64 next_7)]) F
abbrev b56J1 (R : Value → PH → Prop) (E : En) (F : PH) : Prop := ∃ p_6 : Sl, ∃ next_7 : Int, E 6 = (Sl.v p_6) ∧ E 7 = (.int .i64 next_7) ∧ b56j1 p_6 next_7 R F
def b56L1 (N1 : Sl → Int → PH → Prop) (s_0 : ByteArray) (R : Value → PH → Prop) (p_6_1 : Sl) (next_7_1 : Int) (F : PH) : Prop :=
 (((0 : Int) ≤ next_7_1 →
  Spec prog 81 #[(.string s_0), (.int .i64 next_7_1)] F fun v F => ∃ v_21 : Int, v = (.int .u8 v_21) ∧
  ((v_21 = (124 : Int) →
   Spec prog 80 #[(.string s_0), (.int .i64 (IntKind.i64.wrap (next_7_1 + (1 : Int))))] F fun v F => ∃ v_28 : Sl, ∃ v_28_1 : Int, v = (.tuple #[(Sl.v v_28), (.int .i64 v_28_1)]) ∧
   Spec prog 41 #[(.int .i64 (3 : Int)), (Sl.v p_6_1), (Sl.v v_28)] F fun v F => ∃ v_33 : Sl, v = (Sl.v v_33) ∧
   N1 v_33 v_28_1 F) ∧
  (¬ (v_21 = (124 : Int)) →
   b56j1 p_6_1 next_7_1 R F))) ∧
 (¬ ((0 : Int) ≤ next_7_1) →
  b56j1 p_6_1 next_7_1 R F))
def b56 (s_0 : ByteArray) (at_1 : Int) (R : Value → PH → Prop) (F : PH) : Prop :=
 Spec prog 80 #[(.string s_0), (.int .i64 at_1)] F fun v F => ∃ v_13 : Sl, ∃ v_13_1 : Int, v = (.tuple #[(Sl.v v_13), (.int .i64 v_13_1)]) ∧
 (∃ (I1 : Nat → Sl → Int → PH → Prop) (m1 : Nat), I1 m1 v_13 v_13_1 F ∧ ∀ m1 p_6_1 next_7_1 F, I1 m1 p_6_1 next_7_1 F →
  b56L1 (fun y1_0 y1_1 F => ∃ m', m' < m1 ∧ I1 m' y1_0 y1_1 F) s_0 R p_6_1 next_7_1 F)
theorem c56 {s_0 : ByteArray} {at_1 : Int} {R : Value → PH → Prop} {F : PH} (h : b56 s_0 at_1 R F) : Spec prog 56 #[(.string s_0), (.int .i64 at_1)] F R := by
 refine spec_of (args := [(.string s_0), (.int .i64 at_1)]) func56 rfl ntmps56 rfl ?_
 unfold b56 at h
 refine cR ?_
 refine sR (Sl.v Sl.nil) (r_assign rfl rfl) ?_
 refine sR (.int .i64 (0 : Int)) (r_assign rfl rfl) ?_
 refine HL_nil ?_
 refine cR ?_
 refine sR (.string s_0) (r_move rfl rfl) ?_
 refine sR (.int .i64 at_1) (r_move rfl rfl) ?_
 refine s_ef (k_call (vs := [(.string s_0), (.int .i64 at_1)]) cb80 (evC rfl (evC rfl evN)) (h.mono ?_))
 clear h; rintro v F ⟨v_13, v_13_1, rfl, h⟩
 refine sR (.tuple #[(Sl.v v_13), (.int .i64 v_13_1)]) (r_move rfl rfl) ?_
 refine sR (Sl.v v_13) (r_extract rfl rfl rfl) ?_
 refine sR (.int .i64 v_13_1) (r_extract rfl rfl rfl) ?_
 refine sR (Sl.v v_13) (r_assign rfl rfl) ?_
 refine sR (.int .i64 v_13_1) (r_assign rfl rfl) ?_
 refine HL_nil ?_
 refine HC_seqJ (b56J1 R) ?_ ?_
 ·
  clear h; rintro E F ⟨p_6, next_7, h6, h7, h⟩
  unfold b56j1 at h
  refine cR ?_
  refine sR (Sl.v p_6) (r_move rfl h6) ?_
  refine sR (.int .i64 next_7) (r_move rfl h7) ?_
  refine sR (Sl.v p_6) (r_assign rfl rfl) ?_
  refine sR (.int .i64 next_7) (r_assign rfl rfl) ?_
  refine HL_nil ?_
  exact HC_ret (show endQ prog f56 R .ret _ _ from ⟨_, res2 rfl (rv_tmp rfl) (rv_tmp rfl), h⟩)
 ·
  skip
  refine HC_block ?_
  obtain ⟨I1, m1, hI0, hr⟩ := h
  refine HC_loop (fun m1 E F => ∃ p_6_1 : Sl, ∃ next_7_1 : Int, E 0 = (.string s_0) ∧ E 6 = (Sl.v p_6_1) ∧ E 7 = (.int .i64 next_7_1) ∧ I1 m1 p_6_1 next_7_1 F) m1 ⟨_, _, rfl, rfl, rfl, hI0⟩ ?_
  clear hI0; rintro m1 E F ⟨p_6_1, next_7_1, h0, h6, h7, hI⟩
  have h := hr m1 p_6_1 next_7_1 F hI
  clear hr hI
  unfold b56L1 at h
  refine HC_seq ?_
  refine cR ?_
  refine sR (.int .i64 next_7_1) (r_move rfl h7) ?_
  refine sR (.bool (decide ((0 : Int) ≤ next_7_1))) (r_geq rfl rfl rfl) ?_
  refine sR (.bool (decide ((0 : Int) ≤ next_7_1))) (r_move rfl rfl) ?_
  by_cases hc : (0 : Int) ≤ next_7_1
  ·
   replace h := h.1 hc
   refine kN 17 (decide_eq_true hc) ?_
   refine kN 18 (decide_eq_true hc) ?_
   refine sR (.string s_0) (r_move rfl h0) ?_
   refine sR (.int .i64 next_7_1) (r_move rfl h7) ?_
   refine s_ef (k_call (vs := [(.string s_0), (.int .i64 next_7_1)]) cb81 (evC rfl (evC rfl evN)) (h.mono ?_))
   clear h; rintro v F ⟨v_21, rfl, h⟩
   refine sR (.bool (decide (v_21 = (124 : Int)))) (w_eql rfl rfl) ?_
   refine sR (.bool (decide (v_21 = (124 : Int)))) (r_pick rfl rfl (fun _ => rfl) (fun h => by cases h)) ?_
   refine HL_nil ?_
   refine HC_cond (t := (decide (v_21 = (124 : Int)))) rfl (fun hc => ?_) (fun hc => ?_)
   ·
    replace h := h.1 (of_decide_eq_true hc)
    clear hc
    refine HC_skip ?_
    refine HC_block ?_
    refine cR ?_
    refine sR (.string s_0) (r_move rfl h0) ?_
    refine sR (.int .i64 next_7_1) (r_move rfl h7) ?_
    refine sR (.int .i64 (IntKind.i64.wrap (next_7_1 + (1 : Int)))) (r_add rfl rfl rfl) ?_
    refine s_ef (k_call (vs := [(.string s_0), (.int .i64 (IntKind.i64.wrap (next_7_1 + (1 : Int))))]) cb80 (evC rfl (evC rfl evN)) (h.mono ?_))
    clear h; rintro v F ⟨v_28, v_28_1, rfl, h⟩
    refine sR (.tuple #[(Sl.v v_28), (.int .i64 v_28_1)]) (r_move rfl rfl) ?_
    refine sR (Sl.v v_28) (r_extract rfl rfl rfl) ?_
    refine sR (.int .i64 v_28_1) (r_extract rfl rfl rfl) ?_
    refine sR (Sl.v v_28) (r_assign rfl rfl) ?_
    refine sR (.int .i64 v_28_1) (r_assign rfl rfl) ?_
    refine HL_nil ?_
    refine cR ?_
    refine sR (Sl.v p_6_1) (r_move rfl h6) ?_
    refine sR (Sl.v v_28) (r_move rfl rfl) ?_
    refine s_ef (k_call (vs := [(.int .i64 (3 : Int)), (Sl.v p_6_1), (Sl.v v_28)]) cb41 (evC rfl (evC rfl (evC rfl evN))) (h.mono ?_))
    clear h; rintro v F ⟨v_33, rfl, h⟩
    refine sR (Sl.v v_33) (r_assign rfl rfl) ?_
    refine HL_nil ?_
    refine HC_region ?_
    refine sR (.int .i64 v_28_1) (r_move rfl rfl) ?_
    refine sR (.int .i64 v_28_1) (r_assign rfl rfl) ?_
    refine HL_nil ?_
    obtain ⟨m', hm, h⟩ := h
    exact ⟨m', hm, _, _, h0, rfl, rfl, h⟩
   ·
    replace h := h.2 (of_decide_eq_false hc)
    clear hc
    refine HC_exit ?_
    show b56J1 R _ _
    exact ⟨_, _, h6, h7, h⟩
  ·
   replace h := h.2 hc
   refine kN 17 (decide_eq_false hc) ?_
   refine kN 18 (decide_eq_false hc) ?_
   refine s_skip ?_
   refine s_skip ?_
   refine s_skip ?_
   refine s_skip ?_
   refine sR (.bool false) (r_pick rfl rfl (fun h => by cases h) (fun _ => rfl)) ?_
   refine HL_nil ?_
   refine HC_condF rfl ?_
   refine HC_exit ?_
   show b56J1 R _ _
   exact ⟨_, _, h6, h7, h⟩

/- 26 koine.koineref04.Parse -/
def b26 (s_0 : ByteArray) (R : Value → PH → Prop) (F : PH) : Prop :=
 (((8192 : Int) < (s_0.size : Int) →
  R (.tuple #[(Sl.v Sl.nil), (.int .i64 (2 : Int))]) F) ∧
 (¬ ((8192 : Int) < (s_0.size : Int)) →
  Spec prog 56 #[(.string s_0), (.int .i64 (0 : Int))] F fun v F => ∃ v_11 : Sl, ∃ v_11_1 : Int, v = (.tuple #[(Sl.v v_11), (.int .i64 v_11_1)]) ∧
  ((v_11_1 ≠ (s_0.size : Int) →
   R (.tuple #[(Sl.v Sl.nil), (.int .i64 (40 : Int))]) F) ∧
  (¬ (v_11_1 ≠ (s_0.size : Int)) →
   (((512 : Int) < (v_11.len : Int) →
    R (.tuple #[(Sl.v Sl.nil), (.int .i64 (2 : Int))]) F) ∧
   (¬ ((512 : Int) < (v_11.len : Int)) →
    R (.tuple #[(Sl.v v_11), (.int .i64 (0 : Int))]) F))))))
theorem c26 {s_0 : ByteArray} {R : Value → PH → Prop} {F : PH} (h : b26 s_0 R F) : Spec prog 26 #[(.string s_0)] F R := by
 refine spec_of (args := [(.string s_0)]) func26 rfl ntmps26 rfl ?_
 unfold b26 at h
 refine cR ?_
 refine sR (Sl.v Sl.nil) (r_assign rfl rfl) ?_
 refine sR (.int .i64 (0 : Int)) (r_assign rfl rfl) ?_
 refine HL_nil ?_
 refine HC_seq ?_
 refine cR ?_
 refine sR (.string s_0) (r_move rfl rfl) ?_
 refine sR (.int .i64 (s_0.size : Int)) (r_lenStr rfl rfl underlying9) ?_
 refine sR (.bool (decide ((8192 : Int) < (s_0.size : Int)))) (r_gtr rfl rfl rfl) ?_
 refine HL_nil ?_
 refine HC_cond (t := (decide ((8192 : Int) < (s_0.size : Int)))) rfl (fun hc => ?_) (fun hc => ?_)
 ·
  replace h := h.1 (of_decide_eq_true hc)
  clear hc
  refine cR ?_
  refine sR (Sl.v Sl.nil) (r_assign rfl rfl) ?_
  refine sR (.int .i64 (2 : Int)) (r_assign rfl rfl) ?_
  refine HL_nil ?_
  exact HC_ret (show endQ prog f26 R .ret _ _ from ⟨_, res2 rfl (rv_tmp rfl) (rv_tmp rfl), h⟩)
 ·
  replace h := h.2 (of_decide_eq_false hc)
  clear hc
  refine HC_skip ?_
  refine cR ?_
  refine sR (.string s_0) (r_move rfl rfl) ?_
  refine s_ef (k_call (vs := [(.string s_0), (.int .i64 (0 : Int))]) cb56 (evC rfl (evC rfl evN)) (h.mono ?_))
  clear h; rintro v F ⟨v_11, v_11_1, rfl, h⟩
  refine sR (.tuple #[(Sl.v v_11), (.int .i64 v_11_1)]) (r_move rfl rfl) ?_
  refine sR (Sl.v v_11) (r_extract rfl rfl rfl) ?_
  refine sR (.int .i64 v_11_1) (r_extract rfl rfl rfl) ?_
  refine sR (Sl.v v_11) (r_assign rfl rfl) ?_
  refine sR (.int .i64 v_11_1) (r_assign rfl rfl) ?_
  refine HL_nil ?_
  refine HC_seq ?_
  refine cR ?_
  refine sR (.int .i64 v_11_1) (r_move rfl rfl) ?_
  refine sR (.string s_0) (r_move rfl rfl) ?_
  refine sR (.int .i64 (s_0.size : Int)) (r_lenStr rfl rfl underlying9) ?_
  refine sR (.bool (decide (v_11_1 ≠ (s_0.size : Int)))) (w_neq rfl rfl) ?_
  refine HL_nil ?_
  refine HC_cond (t := (decide (v_11_1 ≠ (s_0.size : Int)))) rfl (fun hc => ?_) (fun hc => ?_)
  ·
   replace h := h.1 (of_decide_eq_true hc)
   clear hc
   refine cR ?_
   refine sR (Sl.v Sl.nil) (r_assign rfl rfl) ?_
   refine sR (.int .i64 (40 : Int)) (r_assign rfl rfl) ?_
   refine HL_nil ?_
   exact HC_ret (show endQ prog f26 R .ret _ _ from ⟨_, res2 rfl (rv_tmp rfl) (rv_tmp rfl), h⟩)
  ·
   replace h := h.2 (of_decide_eq_false hc)
   clear hc
   refine HC_skip ?_
   refine HC_seq ?_
   refine cR ?_
   refine sR (Sl.v v_11) (r_move rfl rfl) ?_
   refine sR (.int .i64 (v_11.len : Int)) (r_lenSl rfl rfl underlying25) ?_
   refine sR (.bool (decide ((512 : Int) < (v_11.len : Int)))) (r_gtr rfl rfl rfl) ?_
   refine HL_nil ?_
   refine HC_cond (t := (decide ((512 : Int) < (v_11.len : Int)))) rfl (fun hc => ?_) (fun hc => ?_)
   ·
    replace h := h.1 (of_decide_eq_true hc)
    clear hc
    refine cR ?_
    refine sR (Sl.v Sl.nil) (r_assign rfl rfl) ?_
    refine sR (.int .i64 (2 : Int)) (r_assign rfl rfl) ?_
    refine HL_nil ?_
    exact HC_ret (show endQ prog f26 R .ret _ _ from ⟨_, res2 rfl (rv_tmp rfl) (rv_tmp rfl), h⟩)
   ·
    replace h := h.2 (of_decide_eq_false hc)
    clear hc
    refine HC_skip ?_
    refine cR ?_
    refine sR (Sl.v v_11) (r_move rfl rfl) ?_
    refine sR (Sl.v v_11) (r_assign rfl rfl) ?_
    refine sR (.int .i64 (0 : Int)) (r_assign rfl rfl) ?_
    refine HL_nil ?_
    exact HC_ret (show endQ prog f26 R .ret _ _ from ⟨_, res2 rfl (rv_tmp rfl) (rv_tmp rfl), h⟩)

end Go.Proofs.YtnjcgpihfmklfaaDoor
