/-
  What functions of the program do, in a clean form, each with the proof that its code does so. Printed by a program.
-/
import Derived.Test.YtnjcgpihfmklfaaDoorGf
import Derived.Test.YtnjcgpihfmklfaaDoorPhp
namespace Go.Proofs.YtnjcgpihfmklfaaDoor
open Go Go.Proofs.Tryd
set_option maxRecDepth 10000
set_option maxHeartbeats 4000000
/- 9 koine.koinelaw04.PatternShortest -/
def b9j2 (v_11 : Bool) (R : Value → PH → Prop) (F : PH) : Prop :=
 R (.bool v_11) F
abbrev b9J2 (v_11 : Bool) (R : Value → PH → Prop) (E : En) (F : PH) : Prop := E 3 = (.bool v_11) ∧ b9j2 v_11 R F
def b9j3 (N1 : Sl → Int → PH → Prop) (v_11 : Bool) (v_13 : Sl) (v_16 : ByteArray) (v_16_1 : Int) (i_8 : Int) (words_7_1 : Sl) (R : Value → PH → Prop) (F : PH) : Prop :=
 N1 words_7_1 (IntKind.i64.wrap (i_8 + (1 : Int))) F
abbrev b9J3 (N1 : Sl → Int → PH → Prop) (v_11 : Bool) (v_13 : Sl) (v_16 : ByteArray) (v_16_1 : Int) (i_8 : Int) (R : Value → PH → Prop) (E : En) (F : PH) : Prop := ∃ words_7_1 : Sl, E 3 = (.bool v_11) ∧ E 4 = (Sl.v v_13) ∧ E 5 = (.string v_16) ∧ E 6 = (.int .i64 v_16_1) ∧ E 7 = (Sl.v words_7_1) ∧ E 8 = (.int .i64 i_8) ∧ b9j3 N1 v_11 v_13 v_16 v_16_1 i_8 words_7_1 R F
def b9j4 (N1 : Sl → Int → PH → Prop) (N2 : Sl → Int → PH → Prop) (v_11 : Bool) (v_13 : Sl) (v_16 : ByteArray) (v_16_1 : Int) (i_8 : Int) (b_9 : Int) (words_7_3 : Sl) (R : Value → PH → Prop) (F : PH) : Prop :=
 N2 words_7_3 (IntKind.i64.wrap (b_9 + (1 : Int))) F
abbrev b9J4 (N1 : Sl → Int → PH → Prop) (N2 : Sl → Int → PH → Prop) (v_11 : Bool) (v_13 : Sl) (v_16 : ByteArray) (v_16_1 : Int) (i_8 : Int) (b_9 : Int) (R : Value → PH → Prop) (E : En) (F : PH) : Prop := ∃ words_7_3 : Sl, E 3 = (.bool v_11) ∧ E 4 = (Sl.v v_13) ∧ E 5 = (.string v_16) ∧ E 6 = (.int .i64 v_16_1) ∧ E 7 = (Sl.v words_7_3) ∧ E 8 = (.int .i64 i_8) ∧ E 9 = (.int .i64 b_9) ∧ b9j4 N1 N2 v_11 v_13 v_16 v_16_1 i_8 b_9 words_7_3 R F
def b9j5 (N1 : Sl → Int → PH → Prop) (N2 : Sl → Int → PH → Prop) (v_11 : Bool) (v_13 : Sl) (v_16 : ByteArray) (v_16_1 : Int) (words_7_2 : Sl) (i_8 : Int) (b_9 : Int) (v_53 : ByteArray) (R : Value → PH → Prop) (F : PH) : Prop :=
 Spec prog 23 #[(Sl.v v_13), (.string (v_53 ++ ((ByteArray.mk #[97, 98, 99]).extract (Int.toNat b_9) (Int.toNat (IntKind.i64.wrap (b_9 + (1 : Int)))))))] F fun v F => ∃ v_83 : Bool, v = (.bool v_83) ∧
 ((v_83 = true →
  R (.bool false) F) ∧
 (v_83 = false →
  ((((v_53 ++ ((ByteArray.mk #[97, 98, 99]).extract (Int.toNat b_9) (Int.toNat (IntKind.i64.wrap (b_9 + (1 : Int)))))).size : Int) < (5 : Int) →
   ∀ b89, F b89 = none → atF (F.set b89 (.cells #[(.string (v_53 ++ ((ByteArray.mk #[97, 98, 99]).extract (Int.toNat b_9) (Int.toNat (IntKind.i64.wrap (b_9 + (1 : Int)))))))] 9)) fun F =>
   runs prog (Builtin.append_ #[46, 46] 46 #[(Sl.v words_7_2), (Sl.v (Sl.mk (some (Addr.mk b89 0 none)) 1 1))]) F fun v F => ∃ v_90 : Sl, v = (Sl.v v_90) ∧
   b9j4 N1 N2 v_11 v_13 v_16 v_16_1 i_8 b_9 v_90 R F) ∧
  (¬ (((v_53 ++ ((ByteArray.mk #[97, 98, 99]).extract (Int.toNat b_9) (Int.toNat (IntKind.i64.wrap (b_9 + (1 : Int)))))).size : Int) < (5 : Int)) →
   b9j4 N1 N2 v_11 v_13 v_16 v_16_1 i_8 b_9 words_7_2 R F))))
abbrev b9J5 (N1 : Sl → Int → PH → Prop) (N2 : Sl → Int → PH → Prop) (v_11 : Bool) (v_13 : Sl) (v_16 : ByteArray) (v_16_1 : Int) (words_7_2 : Sl) (i_8 : Int) (b_9 : Int) (v_53 : ByteArray) (R : Value → PH → Prop) (E : En) (F : PH) : Prop := E 3 = (.bool v_11) ∧ E 4 = (Sl.v v_13) ∧ E 5 = (.string v_16) ∧ E 6 = (.int .i64 v_16_1) ∧ E 7 = (Sl.v words_7_2) ∧ E 8 = (.int .i64 i_8) ∧ E 9 = (.int .i64 b_9) ∧ E 10 = (.string (v_53 ++ ((ByteArray.mk #[97, 98, 99]).extract (Int.toNat b_9) (Int.toNat (IntKind.i64.wrap (b_9 + (1 : Int))))))) ∧ b9j5 N1 N2 v_11 v_13 v_16 v_16_1 words_7_2 i_8 b_9 v_53 R F
def b9L2 (N1 : Sl → Int → PH → Prop) (N2 : Sl → Int → PH → Prop) (v_11 : Bool) (v_13 : Sl) (v_16 : ByteArray) (v_16_1 : Int) (i_8 : Int) (R : Value → PH → Prop) (words_7_2 : Sl) (b_9 : Int) (F : PH) : Prop :=
 ((b_9 < (3 : Int) →
  ∃ a52_ : Addr, words_7_2.base = some a52_ ∧ 0 ≤ i_8 ∧ i_8 < (words_7_2.len : Int) ∧
  ∃ v_53 : ByteArray, F.cell (Addr.add a52_ (Int.toNat i_8 * 1)) = some (.string v_53) ∧
  0 ≤ b_9 ∧ 0 ≤ (IntKind.i64.wrap (b_9 + (1 : Int))) ∧ (Int.toNat b_9) ≤ (Int.toNat (IntKind.i64.wrap (b_9 + (1 : Int)))) ∧ (Int.toNat (IntKind.i64.wrap (b_9 + (1 : Int)))) ≤ (ByteArray.mk #[97, 98, 99]).size ∧ 
  v_53.size + ((ByteArray.mk #[97, 98, 99]).extract (Int.toNat b_9) (Int.toNat (IntKind.i64.wrap (b_9 + (1 : Int))))).size ≤ 9223372036854775807 ∧
  ((v_16_1 = (0 : Int) →
   (((v_16.size : Int) < ((v_53 ++ ((ByteArray.mk #[97, 98, 99]).extract (Int.toNat b_9) (Int.toNat (IntKind.i64.wrap (b_9 + (1 : Int)))))).size : Int) →
    R (.bool v_11) F) ∧
   (¬ ((v_16.size : Int) < ((v_53 ++ ((ByteArray.mk #[97, 98, 99]).extract (Int.toNat b_9) (Int.toNat (IntKind.i64.wrap (b_9 + (1 : Int)))))).size : Int)) →
    ((((v_53 ++ ((ByteArray.mk #[97, 98, 99]).extract (Int.toNat b_9) (Int.toNat (IntKind.i64.wrap (b_9 + (1 : Int)))))).size : Int) = (v_16.size : Int) →
     (((!(Op.bytesLess (v_53 ++ ((ByteArray.mk #[97, 98, 99]).extract (Int.toNat b_9) (Int.toNat (IntKind.i64.wrap (b_9 + (1 : Int)))))).toList v_16.toList)) = true →
      R (.bool v_11) F) ∧
     ((!(Op.bytesLess (v_53 ++ ((ByteArray.mk #[97, 98, 99]).extract (Int.toNat b_9) (Int.toNat (IntKind.i64.wrap (b_9 + (1 : Int)))))).toList v_16.toList)) = false →
      b9j5 N1 N2 v_11 v_13 v_16 v_16_1 words_7_2 i_8 b_9 v_53 R F))) ∧
    (¬ (((v_53 ++ ((ByteArray.mk #[97, 98, 99]).extract (Int.toNat b_9) (Int.toNat (IntKind.i64.wrap (b_9 + (1 : Int)))))).size : Int) = (v_16.size : Int)) →
     b9j5 N1 N2 v_11 v_13 v_16 v_16_1 words_7_2 i_8 b_9 v_53 R F))))) ∧
  (¬ (v_16_1 = (0 : Int)) →
   b9j5 N1 N2 v_11 v_13 v_16 v_16_1 words_7_2 i_8 b_9 v_53 R F))) ∧
 (¬ (b_9 < (3 : Int)) →
  b9j3 N1 v_11 v_13 v_16 v_16_1 i_8 words_7_2 R F))
def b9L1 (N1 : Sl → Int → PH → Prop) (v_11 : Bool) (v_13 : Sl) (v_16 : ByteArray) (v_16_1 : Int) (R : Value → PH → Prop) (words_7 : Sl) (i_8 : Int) (F : PH) : Prop :=
 ((i_8 < (words_7.len : Int) →
  (∃ (I2 : Nat → Sl → Int → PH → Prop) (m2 : Nat), I2 m2 words_7 (0 : Int) F ∧ ∀ m2 words_7_2 b_9 F, I2 m2 words_7_2 b_9 F →
   b9L2 N1 (fun y2_0 y2_1 F => ∃ m', m' < m2 ∧ I2 m' y2_0 y2_1 F) v_11 v_13 v_16 v_16_1 i_8 R words_7_2 b_9 F)) ∧
 (¬ (i_8 < (words_7.len : Int)) →
  b9j2 v_11 R F))
def b9j1 (v_11 : Bool) (v_13 : Sl) (v_16 : ByteArray) (v_16_1 : Int) (R : Value → PH → Prop) (F : PH) : Prop :=
 ∀ b39, F b39 = none → atF (F.set b39 (.cells #[(.string (ByteArray.mk #[]))] 9)) fun F =>
 (∃ (I1 : Nat → Sl → Int → PH → Prop) (m1 : Nat), I1 m1 (Sl.mk (some (Addr.mk b39 0 none)) 1 1) (0 : Int) F ∧ ∀ m1 words_7 i_8 F, I1 m1 words_7 i_8 F →
  b9L1 (fun y1_0 y1_1 F => ∃ m', m' < m1 ∧ I1 m' y1_0 y1_1 F) v_11 v_13 v_16 v_16_1 R words_7 i_8 F)
abbrev b9J1 (v_11 : Bool) (v_13 : Sl) (v_16 : ByteArray) (v_16_1 : Int) (R : Value → PH → Prop) (E : En) (F : PH) : Prop := E 3 = (.bool v_11) ∧ E 4 = (Sl.v v_13) ∧ E 5 = (.string v_16) ∧ E 6 = (.int .i64 v_16_1) ∧ b9j1 v_11 v_13 v_16 v_16_1 R F
def b9 (l_0 : Sl) (R : Value → PH → Prop) (F : PH) : Prop :=
 Spec prog 15 #[] F fun v F => ∃ v_11 : Bool, v = (.bool v_11) ∧
 Spec prog 16 #[(Sl.v l_0), (.int .i64 (14 : Int))] F fun v F => ∃ v_13 : Sl, v = (Sl.v v_13) ∧
 Spec prog 29 #[(Sl.v v_13)] F fun v F => ∃ v_16 : ByteArray, ∃ v_16_1 : Int, v = (.tuple #[(.string v_16), (.int .i64 v_16_1)]) ∧
 ((v_16_1 ≠ (0 : Int) →
  ((v_16_1 ≠ (3 : Int) →
   R (.bool false) F) ∧
  (¬ (v_16_1 ≠ (3 : Int)) →
   ((v_16_1 = (0 : Int) →
    (((v_16.toList == (ByteArray.mk #[]).toList) = true →
     R (.bool false) F) ∧
    ((v_16.toList == (ByteArray.mk #[]).toList) = false →
     Spec prog 23 #[(Sl.v v_13), (.string v_16)] F fun v F => ∃ v_34 : Bool, v = (.bool v_34) ∧
     (((!v_34) = true →
      R (.bool false) F) ∧
     ((!v_34) = false →
      b9j1 v_11 v_13 v_16 v_16_1 R F))))) ∧
   (¬ (v_16_1 = (0 : Int)) →
    b9j1 v_11 v_13 v_16 v_16_1 R F))))) ∧
 (¬ (v_16_1 ≠ (0 : Int)) →
  ((v_16_1 = (0 : Int) →
   (((v_16.toList == (ByteArray.mk #[]).toList) = true →
    R (.bool false) F) ∧
   ((v_16.toList == (ByteArray.mk #[]).toList) = false →
    Spec prog 23 #[(Sl.v v_13), (.string v_16)] F fun v F => ∃ v_34_1 : Bool, v = (.bool v_34_1) ∧
    (((!v_34_1) = true →
     R (.bool false) F) ∧
    ((!v_34_1) = false →
     b9j1 v_11 v_13 v_16 v_16_1 R F))))) ∧
  (¬ (v_16_1 = (0 : Int)) →
   b9j1 v_11 v_13 v_16 v_16_1 R F))))
theorem c9 {l_0 : Sl} {R : Value → PH → Prop} {F : PH} (h : b9 l_0 R F) : Spec prog 9 #[(Sl.v l_0)] F R := by
 refine spec_of (args := [(Sl.v l_0)]) func9 rfl ntmps9 rfl ?_
 unfold b9 at h
 refine cR ?_
 refine sR (.bool false) (r_assign rfl rfl) ?_
 refine HL_nil ?_
 refine cR ?_
 refine s_ef (k_call (vs := []) cb15 evN (h.mono ?_))
 clear h; rintro v F ⟨v_11, rfl, h⟩
 refine sR (.bool v_11) (r_assign rfl rfl) ?_
 refine HL_nil ?_
 refine cR ?_
 refine sR (Sl.v l_0) (r_move rfl rfl) ?_
 refine s_ef (k_call (vs := [(Sl.v l_0), (.int .i64 (14 : Int))]) cb16 (evC rfl (evC rfl evN)) (h.mono ?_))
 clear h; rintro v F ⟨v_13, rfl, h⟩
 refine sR (Sl.v v_13) (r_assign rfl rfl) ?_
 refine HL_nil ?_
 refine cR ?_
 refine sR (Sl.v v_13) (r_move rfl rfl) ?_
 refine s_ef (k_call (vs := [(Sl.v v_13)]) cb29 (evC rfl evN) (h.mono ?_))
 clear h; rintro v F ⟨v_16, v_16_1, rfl, h⟩
 refine sR (.tuple #[(.string v_16), (.int .i64 v_16_1)]) (r_move rfl rfl) ?_
 refine sR (.string v_16) (r_extract rfl rfl rfl) ?_
 refine sR (.int .i64 v_16_1) (r_extract rfl rfl rfl) ?_
 refine sR (.string v_16) (r_assign rfl rfl) ?_
 refine sR (.int .i64 v_16_1) (r_assign rfl rfl) ?_
 refine HL_nil ?_
 refine HC_seqJ (b9J1 v_11 v_13 v_16 v_16_1 R) ?_ ?_
 ·
  clear h; rintro E F ⟨h3, h4, h5, h6, h⟩
  unfold b9j1 at h
  refine cR ?_
  refine s_ef (k_buildSeq (l := [(.string (ByteArray.mk #[]))]) underlying46 sz9 (by decide) zr9 rfl rfl ⟨rfl, trivial⟩ (evPC rfl evPN) ?_)
  intro b39 hf_b39
  replace h := atE (h b39 hf_b39)
  refine sR (Sl.v (Sl.mk (some (Addr.mk b39 0 none)) 1 1)) (r_assign rfl rfl) ?_
  refine HL_nil ?_
  refine HC_seqJ (b9J2 v_11 R) ?_ ?_
  ·
   clear h; rintro E F ⟨h3, h⟩
   unfold b9j2 at h
   refine cR ?_
   refine sR (.bool v_11) (r_move rfl h3) ?_
   refine sR (.bool v_11) (r_assign rfl rfl) ?_
   refine HL_nil ?_
   exact HC_ret (show endQ prog f9 R .ret _ _ from ⟨_, res1 rfl (rv_tmp rfl), h⟩)
  ·
   skip
   refine cR ?_
   refine sR (.int .i64 (0 : Int)) (r_assign rfl rfl) ?_
   refine HL_nil ?_
   refine HC_block ?_
   obtain ⟨I1, m1, hI0, hr⟩ := h
   refine HC_loop (fun m1 E F => ∃ words_7 : Sl, ∃ i_8 : Int, E 3 = (.bool v_11) ∧ E 4 = (Sl.v v_13) ∧ E 5 = (.string v_16) ∧ E 6 = (.int .i64 v_16_1) ∧ E 7 = (Sl.v words_7) ∧ E 8 = (.int .i64 i_8) ∧ I1 m1 words_7 i_8 F) m1 ⟨_, _, h3, h4, h5, h6, rfl, rfl, hI0⟩ ?_
   clear hI0; rintro m1 E F ⟨words_7, i_8, h3, h4, h5, h6, h7, h8, hI⟩
   have h := hr m1 words_7 i_8 F hI
   clear hr hI
   unfold b9L1 at h
   refine HC_seq ?_
   refine cR ?_
   refine sR (.int .i64 i_8) (r_move rfl h8) ?_
   refine sR (Sl.v words_7) (r_move rfl h7) ?_
   refine sR (.int .i64 (words_7.len : Int)) (r_lenSl rfl rfl underlying46) ?_
   refine sR (.bool (decide (i_8 < (words_7.len : Int)))) (r_lss rfl rfl rfl) ?_
   refine HL_nil ?_
   refine HC_cond (t := (decide (i_8 < (words_7.len : Int)))) rfl (fun hc => ?_) (fun hc => ?_)
   ·
    replace h := h.1 (of_decide_eq_true hc)
    clear hc
    refine HC_skip ?_
    refine HC_seqJ (b9J3 (fun y1_0 y1_1 F => ∃ m', m' < m1 ∧ I1 m' y1_0 y1_1 F) v_11 v_13 v_16 v_16_1 i_8 R) ?_ ?_
    ·
     clear h; rintro E F ⟨words_7_1, h3, h4, h5, h6, h7, h8, h⟩
     unfold b9j3 at h
     refine HC_region ?_
     refine sR (.int .i64 i_8) (r_move rfl h8) ?_
     refine sR (.int .i64 (IntKind.i64.wrap (i_8 + (1 : Int)))) (r_add rfl rfl rfl) ?_
     refine sR (.int .i64 (IntKind.i64.wrap (i_8 + (1 : Int)))) (r_assign rfl rfl) ?_
     refine HL_nil ?_
     obtain ⟨m', hm, h⟩ := h
     exact ⟨m', hm, _, _, h3, h4, h5, h6, h7, rfl, h⟩
    ·
     skip
     refine HC_block ?_
     refine cR ?_
     refine sR (.int .i64 (0 : Int)) (r_assign rfl rfl) ?_
     refine HL_nil ?_
     refine HC_block ?_
     obtain ⟨I2, m2, hI0, hr⟩ := h
     refine HC_loop (fun m2 E F => ∃ words_7_2 : Sl, ∃ b_9 : Int, E 3 = (.bool v_11) ∧ E 4 = (Sl.v v_13) ∧ E 5 = (.string v_16) ∧ E 6 = (.int .i64 v_16_1) ∧ E 7 = (Sl.v words_7_2) ∧ E 8 = (.int .i64 i_8) ∧ E 9 = (.int .i64 b_9) ∧ I2 m2 words_7_2 b_9 F) m2 ⟨_, _, h3, h4, h5, h6, h7, h8, rfl, hI0⟩ ?_
     clear hI0; rintro m2 E F ⟨words_7_2, b_9, h3, h4, h5, h6, h7, h8, h9, hI⟩
     have h := hr m2 words_7_2 b_9 F hI
     clear hr hI
     unfold b9L2 at h
     refine HC_seq ?_
     refine cR ?_
     refine sR (.int .i64 b_9) (r_move rfl h9) ?_
     refine sR (.bool (decide (b_9 < (3 : Int)))) (r_lss rfl rfl rfl) ?_
     refine HL_nil ?_
     refine HC_cond (t := (decide (b_9 < (3 : Int)))) rfl (fun hc => ?_) (fun hc => ?_)
     ·
      replace h := h.1 (of_decide_eq_true hc)
      clear hc
      refine HC_skip ?_
      refine HC_seqJ (b9J4 (fun y1_0 y1_1 F => ∃ m', m' < m1 ∧ I1 m' y1_0 y1_1 F) (fun y2_0 y2_1 F => ∃ m', m' < m2 ∧ I2 m' y2_0 y2_1 F) v_11 v_13 v_16 v_16_1 i_8 b_9 R) ?_ ?_
      ·
       clear h; rintro E F ⟨words_7_3, h3, h4, h5, h6, h7, h8, h9, h⟩
       unfold b9j4 at h
       refine HC_region ?_
       refine sR (.int .i64 b_9) (r_move rfl h9) ?_
       refine sR (.int .i64 (IntKind.i64.wrap (b_9 + (1 : Int)))) (r_add rfl rfl rfl) ?_
       refine sR (.int .i64 (IntKind.i64.wrap (b_9 + (1 : Int)))) (r_assign rfl rfl) ?_
       refine HL_nil ?_
       obtain ⟨m', hm, h⟩ := h
       exact ⟨m', hm, _, _, h3, h4, h5, h6, h7, h8, rfl, h⟩
      ·
       skip
       refine HC_block ?_
       refine HC_seq ?_
       refine HC_draw0 (by kernel_rfl) (fun hp => ?_)
       refine gU 0 (Sl.v words_7_2) rfl (fun _ => r_move rfl h7) hp ?_
       refine gU 1 (.int .i64 i_8) rfl (fun _ => r_move rfl h8) hp ?_
       obtain ⟨a52_, hb52, hl52, hu52, h⟩ := h
       refine gU 2 (.pointer (some (Addr.add a52_ (Int.toNat i_8 * 1)))) rfl (fun _ => w_indexAddr rfl rfl underlying46 sz9 hb52 hl52 hu52) hp ?_
       obtain ⟨v_53, hc53, h⟩ := h
       refine gR 3 (.string v_53) rfl (r_load1 rfl rfl underlying9 rfl hc53) hp (fun S3 q3 => ?_)
       replace hp := holdC (i := 3) (q3 _ (r_load1 rfl rfl underlying9 rfl hc53)) hp
       refine gU 4 (.int .i64 b_9) rfl (fun _ => r_move rfl h9) hp ?_
       refine gU 5 (.int .i64 b_9) rfl (fun _ => r_move rfl h9) hp ?_
       refine gU 6 (.int .i64 (IntKind.i64.wrap (b_9 + (1 : Int)))) rfl (fun _ => r_add rfl rfl rfl) hp ?_
       obtain ⟨hq57_0, hq57_1, hr57_0, hr57_1, h⟩ := h
       refine gU 7 (.string ((ByteArray.mk #[97, 98, 99]).extract (Int.toNat b_9) (Int.toNat (IntKind.i64.wrap (b_9 + (1 : Int)))))) rfl (fun _ => r_sliceStr rfl rfl underlying9 (bo_ev rfl hq57_0) (bo_ev rfl hq57_1) hr57_0 hr57_1) hp ?_
       obtain ⟨hx58, h⟩ := h
       refine gU 8 (.string (v_53 ++ ((ByteArray.mk #[97, 98, 99]).extract (Int.toNat b_9) (Int.toNat (IntKind.i64.wrap (b_9 + (1 : Int))))))) rfl (fun _ => r_addS rfl rfl rfl hx58) hp ?_
       refine gU 9 (.string (v_53 ++ ((ByteArray.mk #[97, 98, 99]).extract (Int.toNat b_9) (Int.toNat (IntKind.i64.wrap (b_9 + (1 : Int))))))) rfl (fun _ => r_assign rfl rfl) hp ?_
       refine RG_done (by kernel_rfl) ?_
       refine HC_seqJ (b9J5 (fun y1_0 y1_1 F => ∃ m', m' < m1 ∧ I1 m' y1_0 y1_1 F) (fun y2_0 y2_1 F => ∃ m', m' < m2 ∧ I2 m' y2_0 y2_1 F) v_11 v_13 v_16 v_16_1 words_7_2 i_8 b_9 v_53 R) ?_ ?_
       ·
        clear h; rintro E F ⟨h3, h4, h5, h6, h7, h8, h9, h10, h⟩
        unfold b9j5 at h
        refine HC_seq ?_
        refine cR ?_
        refine sR (Sl.v v_13) (r_move rfl h4) ?_
        refine sR (.string (v_53 ++ ((ByteArray.mk #[97, 98, 99]).extract (Int.toNat b_9) (Int.toNat (IntKind.i64.wrap (b_9 + (1 : Int))))))) (r_move rfl h10) ?_
        refine s_ef (k_call (vs := [(Sl.v v_13), (.string (v_53 ++ ((ByteArray.mk #[97, 98, 99]).extract (Int.toNat b_9) (Int.toNat (IntKind.i64.wrap (b_9 + (1 : Int)))))))]) cb23 (evC rfl (evC rfl evN)) (h.mono ?_))
        clear h; rintro v F ⟨v_83, rfl, h⟩
        refine HL_nil ?_
        refine HC_cond (t := v_83) rfl (fun hc => ?_) (fun hc => ?_)
        ·
         replace h := h.1 hc
         clear hc
         refine cR ?_
         refine sR (.bool false) (r_assign rfl rfl) ?_
         refine HL_nil ?_
         exact HC_ret (show endQ prog f9 R .ret _ _ from ⟨_, res1 rfl (rv_tmp rfl), h⟩)
        ·
         replace h := h.2 hc
         clear hc
         refine HC_skip ?_
         refine cR ?_
         refine sR (.string (v_53 ++ ((ByteArray.mk #[97, 98, 99]).extract (Int.toNat b_9) (Int.toNat (IntKind.i64.wrap (b_9 + (1 : Int))))))) (r_move rfl h10) ?_
         refine sR (.int .i64 ((v_53 ++ ((ByteArray.mk #[97, 98, 99]).extract (Int.toNat b_9) (Int.toNat (IntKind.i64.wrap (b_9 + (1 : Int)))))).size : Int)) (r_lenStr rfl rfl underlying9) ?_
         refine sR (.bool (decide (((v_53 ++ ((ByteArray.mk #[97, 98, 99]).extract (Int.toNat b_9) (Int.toNat (IntKind.i64.wrap (b_9 + (1 : Int)))))).size : Int) < (5 : Int)))) (r_lss rfl rfl rfl) ?_
         refine HL_nil ?_
         refine HC_cond (t := (decide (((v_53 ++ ((ByteArray.mk #[97, 98, 99]).extract (Int.toNat b_9) (Int.toNat (IntKind.i64.wrap (b_9 + (1 : Int)))))).size : Int) < (5 : Int)))) rfl (fun hc => ?_) (fun hc => ?_)
         ·
          replace h := h.1 (of_decide_eq_true hc)
          clear hc
          refine HC_region ?_
          refine sR (Sl.v words_7_2) (r_move rfl h7) ?_
          refine sR (.string (v_53 ++ ((ByteArray.mk #[97, 98, 99]).extract (Int.toNat b_9) (Int.toNat (IntKind.i64.wrap (b_9 + (1 : Int))))))) (r_move rfl h10) ?_
          refine s_ef (k_buildSeq (l := [(.string (v_53 ++ ((ByteArray.mk #[97, 98, 99]).extract (Int.toNat b_9) (Int.toNat (IntKind.i64.wrap (b_9 + (1 : Int)))))))]) underlying46 sz9 (by decide) zr9 rfl rfl ⟨rfl, trivial⟩ (evPC rfl evPN) ?_)
          intro b89 hf_b89
          replace h := atE (h b89 hf_b89)
          refine s_ef (k_append rfl rfl (runs_mono _ _ h ?_))
          clear h; rintro v F ⟨v_90, rfl, h⟩
          refine sR (Sl.v v_90) (r_assign rfl rfl) ?_
          refine HL_nil ?_
          show b9J4 (fun y1_0 y1_1 F => ∃ m', m' < m1 ∧ I1 m' y1_0 y1_1 F) (fun y2_0 y2_1 F => ∃ m', m' < m2 ∧ I2 m' y2_0 y2_1 F) v_11 v_13 v_16 v_16_1 i_8 b_9 R _ _
          exact ⟨_, h3, h4, h5, h6, rfl, h8, h9, h⟩
         ·
          replace h := h.2 (of_decide_eq_false hc)
          clear hc
          refine HC_skip ?_
          show b9J4 (fun y1_0 y1_1 F => ∃ m', m' < m1 ∧ I1 m' y1_0 y1_1 F) (fun y2_0 y2_1 F => ∃ m', m' < m2 ∧ I2 m' y2_0 y2_1 F) v_11 v_13 v_16 v_16_1 i_8 b_9 R _ _
          exact ⟨_, h3, h4, h5, h6, h7, h8, h9, h⟩
       ·
        skip
        refine cR ?_
        refine sR (.int .i64 v_16_1) (r_move rfl h6) ?_
        refine sR (.bool (decide (v_16_1 = (0 : Int)))) (w_eql rfl rfl) ?_
        refine sR (.bool (decide (v_16_1 = (0 : Int)))) (r_move rfl rfl) ?_
        by_cases hc : v_16_1 = (0 : Int)
        ·
         replace h := h.1 hc
         refine kN 60 (decide_eq_true hc) ?_
         refine kN 61 (decide_eq_true hc) ?_
         refine sR (.string (v_53 ++ ((ByteArray.mk #[97, 98, 99]).extract (Int.toNat b_9) (Int.toNat (IntKind.i64.wrap (b_9 + (1 : Int))))))) (r_move rfl rfl) ?_
         refine sR (.int .i64 ((v_53 ++ ((ByteArray.mk #[97, 98, 99]).extract (Int.toNat b_9) (Int.toNat (IntKind.i64.wrap (b_9 + (1 : Int)))))).size : Int)) (r_lenStr rfl rfl underlying9) ?_
         refine sR (.string v_16) (r_move rfl h5) ?_
         refine sR (.int .i64 (v_16.size : Int)) (r_lenStr rfl rfl underlying9) ?_
         refine sR (.bool (decide ((v_16.size : Int) < ((v_53 ++ ((ByteArray.mk #[97, 98, 99]).extract (Int.toNat b_9) (Int.toNat (IntKind.i64.wrap (b_9 + (1 : Int)))))).size : Int)))) (r_gtr rfl rfl rfl) ?_
         refine sR (.bool (decide ((v_16.size : Int) < ((v_53 ++ ((ByteArray.mk #[97, 98, 99]).extract (Int.toNat b_9) (Int.toNat (IntKind.i64.wrap (b_9 + (1 : Int)))))).size : Int)))) (r_move rfl rfl) ?_
         by_cases hc : (v_16.size : Int) < ((v_53 ++ ((ByteArray.mk #[97, 98, 99]).extract (Int.toNat b_9) (Int.toNat (IntKind.i64.wrap (b_9 + (1 : Int)))))).size : Int)
         ·
          replace h := h.1 hc
          refine kN 66 (decide_eq_true hc) ?_
          refine kN 67 (decide_eq_true hc) ?_
          refine s_skip ?_
          refine s_skip ?_
          refine s_skip ?_
          refine s_skip ?_
          refine s_skip ?_
          refine s_skip ?_
          refine s_skip ?_
          refine s_skip ?_
          refine s_skip ?_
          refine s_skip ?_
          refine sR (.bool true) (r_pick rfl rfl (fun _ => rfl) (fun h => by cases h)) ?_
          refine sR (.bool true) (r_pick rfl rfl (fun _ => rfl) (fun h => by cases h)) ?_
          refine HL_nil ?_
          refine HC_condT rfl ?_
          refine cR ?_
          refine sR (.bool v_11) (r_move rfl h3) ?_
          refine sR (.bool v_11) (r_assign rfl rfl) ?_
          refine HL_nil ?_
          exact HC_ret (show endQ prog f9 R .ret _ _ from ⟨_, res1 rfl (rv_tmp rfl), h⟩)
         ·
          replace h := h.2 hc
          refine kN 66 (decide_eq_false hc) ?_
          refine kN 67 (decide_eq_false hc) ?_
          refine sR (.string (v_53 ++ ((ByteArray.mk #[97, 98, 99]).extract (Int.toNat b_9) (Int.toNat (IntKind.i64.wrap (b_9 + (1 : Int))))))) (r_move rfl rfl) ?_
          refine sR (.int .i64 ((v_53 ++ ((ByteArray.mk #[97, 98, 99]).extract (Int.toNat b_9) (Int.toNat (IntKind.i64.wrap (b_9 + (1 : Int)))))).size : Int)) (r_lenStr rfl rfl underlying9) ?_
          refine sR (.string v_16) (r_move rfl h5) ?_
          refine sR (.int .i64 (v_16.size : Int)) (r_lenStr rfl rfl underlying9) ?_
          refine sR (.bool (decide (((v_53 ++ ((ByteArray.mk #[97, 98, 99]).extract (Int.toNat b_9) (Int.toNat (IntKind.i64.wrap (b_9 + (1 : Int)))))).size : Int) = (v_16.size : Int)))) (w_eql rfl rfl) ?_
          refine sR (.bool (decide (((v_53 ++ ((ByteArray.mk #[97, 98, 99]).extract (Int.toNat b_9) (Int.toNat (IntKind.i64.wrap (b_9 + (1 : Int)))))).size : Int) = (v_16.size : Int)))) (r_move rfl rfl) ?_
          by_cases hc : ((v_53 ++ ((ByteArray.mk #[97, 98, 99]).extract (Int.toNat b_9) (Int.toNat (IntKind.i64.wrap (b_9 + (1 : Int)))))).size : Int) = (v_16.size : Int)
          ·
           replace h := h.1 hc
           refine kN 72 (decide_eq_true hc) ?_
           refine kN 73 (decide_eq_true hc) ?_
           refine sR (.string (v_53 ++ ((ByteArray.mk #[97, 98, 99]).extract (Int.toNat b_9) (Int.toNat (IntKind.i64.wrap (b_9 + (1 : Int))))))) (r_move rfl rfl) ?_
           refine sR (.string v_16) (r_move rfl h5) ?_
           refine sR (.bool (!(Op.bytesLess (v_53 ++ ((ByteArray.mk #[97, 98, 99]).extract (Int.toNat b_9) (Int.toNat (IntKind.i64.wrap (b_9 + (1 : Int)))))).toList v_16.toList))) (r_geqS rfl rfl rfl) ?_
           refine sR (.bool (!(Op.bytesLess (v_53 ++ ((ByteArray.mk #[97, 98, 99]).extract (Int.toNat b_9) (Int.toNat (IntKind.i64.wrap (b_9 + (1 : Int)))))).toList v_16.toList))) (r_pick rfl rfl (fun _ => rfl) (fun h => by cases h)) ?_
           refine sR (.bool (!(Op.bytesLess (v_53 ++ ((ByteArray.mk #[97, 98, 99]).extract (Int.toNat b_9) (Int.toNat (IntKind.i64.wrap (b_9 + (1 : Int)))))).toList v_16.toList))) (r_pick rfl rfl (fun h => by cases h) (fun _ => rfl)) ?_
           refine sR (.bool (!(Op.bytesLess (v_53 ++ ((ByteArray.mk #[97, 98, 99]).extract (Int.toNat b_9) (Int.toNat (IntKind.i64.wrap (b_9 + (1 : Int)))))).toList v_16.toList))) (r_pick rfl rfl (fun _ => rfl) (fun h => by cases h)) ?_
           refine HL_nil ?_
           refine HC_cond (t := (!(Op.bytesLess (v_53 ++ ((ByteArray.mk #[97, 98, 99]).extract (Int.toNat b_9) (Int.toNat (IntKind.i64.wrap (b_9 + (1 : Int)))))).toList v_16.toList))) rfl (fun hc => ?_) (fun hc => ?_)
           ·
            replace h := h.1 hc
            clear hc
            refine cR ?_
            refine sR (.bool v_11) (r_move rfl h3) ?_
            refine sR (.bool v_11) (r_assign rfl rfl) ?_
            refine HL_nil ?_
            exact HC_ret (show endQ prog f9 R .ret _ _ from ⟨_, res1 rfl (rv_tmp rfl), h⟩)
           ·
            replace h := h.2 hc
            clear hc
            refine HC_skip ?_
            show b9J5 (fun y1_0 y1_1 F => ∃ m', m' < m1 ∧ I1 m' y1_0 y1_1 F) (fun y2_0 y2_1 F => ∃ m', m' < m2 ∧ I2 m' y2_0 y2_1 F) v_11 v_13 v_16 v_16_1 words_7_2 i_8 b_9 v_53 R _ _
            exact ⟨h3, h4, h5, h6, h7, h8, h9, rfl, h⟩
          ·
           replace h := h.2 hc
           refine kN 72 (decide_eq_false hc) ?_
           refine kN 73 (decide_eq_false hc) ?_
           refine s_skip ?_
           refine s_skip ?_
           refine s_skip ?_
           refine sR (.bool false) (r_pick rfl rfl (fun h => by cases h) (fun _ => rfl)) ?_
           refine sR (.bool false) (r_pick rfl rfl (fun h => by cases h) (fun _ => rfl)) ?_
           refine sR (.bool false) (r_pick rfl rfl (fun _ => rfl) (fun h => by cases h)) ?_
           refine HL_nil ?_
           refine HC_condF rfl ?_
           refine HC_skip ?_
           show b9J5 (fun y1_0 y1_1 F => ∃ m', m' < m1 ∧ I1 m' y1_0 y1_1 F) (fun y2_0 y2_1 F => ∃ m', m' < m2 ∧ I2 m' y2_0 y2_1 F) v_11 v_13 v_16 v_16_1 words_7_2 i_8 b_9 v_53 R _ _
           exact ⟨h3, h4, h5, h6, h7, h8, h9, rfl, h⟩
        ·
         replace h := h.2 hc
         refine kN 60 (decide_eq_false hc) ?_
         refine kN 61 (decide_eq_false hc) ?_
         refine s_skip ?_
         refine s_skip ?_
         refine s_skip ?_
         refine s_skip ?_
         refine s_skip ?_
         refine s_skip ?_
         refine s_skip ?_
         refine s_skip ?_
         refine s_skip ?_
         refine s_skip ?_
         refine s_skip ?_
         refine s_skip ?_
         refine s_skip ?_
         refine s_skip ?_
         refine s_skip ?_
         refine s_skip ?_
         refine s_skip ?_
         refine sR (.bool false) (r_pick rfl rfl (fun h => by cases h) (fun _ => rfl)) ?_
         refine HL_nil ?_
         refine HC_condF rfl ?_
         refine HC_skip ?_
         show b9J5 (fun y1_0 y1_1 F => ∃ m', m' < m1 ∧ I1 m' y1_0 y1_1 F) (fun y2_0 y2_1 F => ∃ m', m' < m2 ∧ I2 m' y2_0 y2_1 F) v_11 v_13 v_16 v_16_1 words_7_2 i_8 b_9 v_53 R _ _
         exact ⟨h3, h4, h5, h6, h7, h8, h9, rfl, h⟩
     ·
      replace h := h.2 (of_decide_eq_false hc)
      clear hc
      refine HC_exit ?_
      show b9J3 (fun y1_0 y1_1 F => ∃ m', m' < m1 ∧ I1 m' y1_0 y1_1 F) v_11 v_13 v_16 v_16_1 i_8 R _ _
      exact ⟨_, h3, h4, h5, h6, h7, h8, h⟩
   ·
    replace h := h.2 (of_decide_eq_false hc)
    clear hc
    refine HC_exit ?_
    show b9J2 v_11 R _ _
    exact ⟨h3, h⟩
 ·
  skip
  refine cR ?_
  refine sR (.int .i64 v_16_1) (r_move rfl rfl) ?_
  refine sR (.bool (decide (v_16_1 ≠ (0 : Int)))) (w_neq rfl rfl) ?_
  refine sR (.bool (decide (v_16_1 ≠ (0 : Int)))) (r_move rfl rfl) ?_
  by_cases hc : v_16_1 ≠ (0 : Int)
  ·
   replace h := h.1 hc
   refine kN 20 (decide_eq_true hc) ?_
   refine kN 21 (decide_eq_true hc) ?_
   refine sR (.int .i64 v_16_1) (r_move rfl rfl) ?_
   refine sR (.bool (decide (v_16_1 ≠ (3 : Int)))) (w_neq rfl rfl) ?_
   refine sR (.bool (decide (v_16_1 ≠ (3 : Int)))) (r_pick rfl rfl (fun _ => rfl) (fun h => by cases h)) ?_
   refine sR (.bool (decide (v_16_1 ≠ (3 : Int)))) (r_move rfl rfl) ?_
   by_cases hc : v_16_1 ≠ (3 : Int)
   ·
    replace h := h.1 hc
    refine kN 23 (decide_eq_true hc) ?_
    refine kN 24 (decide_eq_true hc) ?_
    refine kN 25 (decide_eq_true hc) ?_
    refine s_skip ?_
    refine s_skip ?_
    refine s_skip ?_
    refine s_skip ?_
    refine s_skip ?_
    refine s_skip ?_
    refine s_skip ?_
    refine s_skip ?_
    refine s_skip ?_
    refine s_skip ?_
    refine s_skip ?_
    refine s_skip ?_
    refine sR (.bool true) (r_pick rfl rfl (fun _ => rfl) (fun h => by cases h)) ?_
    refine HL_nil ?_
    refine HC_condT rfl ?_
    refine cR ?_
    refine sR (.bool false) (r_assign rfl rfl) ?_
    refine HL_nil ?_
    exact HC_ret (show endQ prog f9 R .ret _ _ from ⟨_, res1 rfl (rv_tmp rfl), h⟩)
   ·
    replace h := h.2 hc
    refine kN 23 (decide_eq_false hc) ?_
    refine kN 24 (decide_eq_false hc) ?_
    refine kN 25 (decide_eq_false hc) ?_
    refine sR (.int .i64 v_16_1) (r_move rfl rfl) ?_
    refine sR (.bool (decide (v_16_1 = (0 : Int)))) (w_eql rfl rfl) ?_
    refine sR (.bool (decide (v_16_1 = (0 : Int)))) (r_move rfl rfl) ?_
    by_cases hc : v_16_1 = (0 : Int)
    ·
     replace h := h.1 hc
     refine kN 27 (decide_eq_true hc) ?_
     refine kN 28 (decide_eq_true hc) ?_
     refine sR (.string v_16) (r_move rfl rfl) ?_
     refine sR (.bool (v_16.toList == (ByteArray.mk #[]).toList)) (r_eqlS rfl rfl rfl) ?_
     refine sR (.bool (v_16.toList == (ByteArray.mk #[]).toList)) (r_move rfl rfl) ?_
     by_cases hc : (v_16.toList == (ByteArray.mk #[]).toList) = true
     ·
      replace h := h.1 hc
      refine kN 30 hc ?_
      refine kN 31 hc ?_
      refine s_skip ?_
      refine s_skip ?_
      refine s_skip ?_
      refine s_skip ?_
      refine sR (.bool true) (r_pick rfl rfl (fun _ => rfl) (fun h => by cases h)) ?_
      refine sR (.bool true) (r_pick rfl rfl (fun _ => rfl) (fun h => by cases h)) ?_
      refine sR (.bool true) (r_pick rfl rfl (fun h => by cases h) (fun _ => rfl)) ?_
      refine HL_nil ?_
      refine HC_condT rfl ?_
      refine cR ?_
      refine sR (.bool false) (r_assign rfl rfl) ?_
      refine HL_nil ?_
      exact HC_ret (show endQ prog f9 R .ret _ _ from ⟨_, res1 rfl (rv_tmp rfl), h⟩)
     ·
      replace hc := eq_false_of_ne_true hc; replace h := h.2 hc
      refine kN 30 hc ?_
      refine kN 31 hc ?_
      refine sR (Sl.v v_13) (r_move rfl rfl) ?_
      refine sR (.string v_16) (r_move rfl rfl) ?_
      refine s_ef (k_call (vs := [(Sl.v v_13), (.string v_16)]) cb23 (evC rfl (evC rfl evN)) (h.mono ?_))
      clear h; rintro v F ⟨v_34, rfl, h⟩
      refine sR (.bool (!v_34)) (r_not rfl rfl) ?_
      refine sR (.bool (!v_34)) (r_pick rfl rfl (fun h => by cases h) (fun _ => rfl)) ?_
      refine sR (.bool (!v_34)) (r_pick rfl rfl (fun _ => rfl) (fun h => by cases h)) ?_
      refine sR (.bool (!v_34)) (r_pick rfl rfl (fun h => by cases h) (fun _ => rfl)) ?_
      refine HL_nil ?_
      refine HC_cond (t := (!v_34)) rfl (fun hc => ?_) (fun hc => ?_)
      ·
       replace h := h.1 hc
       clear hc
       refine cR ?_
       refine sR (.bool false) (r_assign rfl rfl) ?_
       refine HL_nil ?_
       exact HC_ret (show endQ prog f9 R .ret _ _ from ⟨_, res1 rfl (rv_tmp rfl), h⟩)
      ·
       replace h := h.2 hc
       clear hc
       refine HC_skip ?_
       show b9J1 v_11 v_13 v_16 v_16_1 R _ _
       exact ⟨rfl, rfl, rfl, rfl, h⟩
    ·
     replace h := h.2 hc
     refine kN 27 (decide_eq_false hc) ?_
     refine kN 28 (decide_eq_false hc) ?_
     refine s_skip ?_
     refine s_skip ?_
     refine s_skip ?_
     refine s_skip ?_
     refine s_skip ?_
     refine s_skip ?_
     refine s_skip ?_
     refine s_skip ?_
     refine sR (.bool false) (r_pick rfl rfl (fun h => by cases h) (fun _ => rfl)) ?_
     refine sR (.bool false) (r_pick rfl rfl (fun h => by cases h) (fun _ => rfl)) ?_
     refine HL_nil ?_
     refine HC_condF rfl ?_
     refine HC_skip ?_
     show b9J1 v_11 v_13 v_16 v_16_1 R _ _
     exact ⟨rfl, rfl, rfl, rfl, h⟩
  ·
   replace h := h.2 hc
   refine kN 20 (decide_eq_false hc) ?_
   refine kN 21 (decide_eq_false hc) ?_
   refine s_skip ?_
   refine s_skip ?_
   refine sR (.bool false) (r_pick rfl rfl (fun h => by cases h) (fun _ => rfl)) ?_
   refine sR (.bool false) (r_move rfl rfl) ?_
   refine sR (.int .i64 v_16_1) (r_move rfl rfl) ?_
   refine sR (.bool (decide (v_16_1 = (0 : Int)))) (w_eql rfl rfl) ?_
   refine sR (.bool (decide (v_16_1 = (0 : Int)))) (r_move rfl rfl) ?_
   by_cases hc : v_16_1 = (0 : Int)
   ·
    replace h := h.1 hc
    refine kN 27 (decide_eq_true hc) ?_
    refine kN 28 (decide_eq_true hc) ?_
    refine sR (.string v_16) (r_move rfl rfl) ?_
    refine sR (.bool (v_16.toList == (ByteArray.mk #[]).toList)) (r_eqlS rfl rfl rfl) ?_
    refine sR (.bool (v_16.toList == (ByteArray.mk #[]).toList)) (r_move rfl rfl) ?_
    by_cases hc : (v_16.toList == (ByteArray.mk #[]).toList) = true
    ·
     replace h := h.1 hc
     refine kN 30 hc ?_
     refine kN 31 hc ?_
     refine s_skip ?_
     refine s_skip ?_
     refine s_skip ?_
     refine s_skip ?_
     refine sR (.bool true) (r_pick rfl rfl (fun _ => rfl) (fun h => by cases h)) ?_
     refine sR (.bool true) (r_pick rfl rfl (fun _ => rfl) (fun h => by cases h)) ?_
     refine sR (.bool true) (r_pick rfl rfl (fun h => by cases h) (fun _ => rfl)) ?_
     refine HL_nil ?_
     refine HC_condT rfl ?_
     refine cR ?_
     refine sR (.bool false) (r_assign rfl rfl) ?_
     refine HL_nil ?_
     exact HC_ret (show endQ prog f9 R .ret _ _ from ⟨_, res1 rfl (rv_tmp rfl), h⟩)
    ·
     replace hc := eq_false_of_ne_true hc; replace h := h.2 hc
     refine kN 30 hc ?_
     refine kN 31 hc ?_
     refine sR (Sl.v v_13) (r_move rfl rfl) ?_
     refine sR (.string v_16) (r_move rfl rfl) ?_
     refine s_ef (k_call (vs := [(Sl.v v_13), (.string v_16)]) cb23 (evC rfl (evC rfl evN)) (h.mono ?_))
     clear h; rintro v F ⟨v_34_1, rfl, h⟩
     refine sR (.bool (!v_34_1)) (r_not rfl rfl) ?_
     refine sR (.bool (!v_34_1)) (r_pick rfl rfl (fun h => by cases h) (fun _ => rfl)) ?_
     refine sR (.bool (!v_34_1)) (r_pick rfl rfl (fun _ => rfl) (fun h => by cases h)) ?_
     refine sR (.bool (!v_34_1)) (r_pick rfl rfl (fun h => by cases h) (fun _ => rfl)) ?_
     refine HL_nil ?_
     refine HC_cond (t := (!v_34_1)) rfl (fun hc => ?_) (fun hc => ?_)
     ·
      replace h := h.1 hc
      clear hc
      refine cR ?_
      refine sR (.bool false) (r_assign rfl rfl) ?_
      refine HL_nil ?_
      exact HC_ret (show endQ prog f9 R .ret _ _ from ⟨_, res1 rfl (rv_tmp rfl), h⟩)
     ·
      replace h := h.2 hc
      clear hc
      refine HC_skip ?_
      show b9J1 v_11 v_13 v_16 v_16_1 R _ _
      exact ⟨rfl, rfl, rfl, rfl, h⟩
   ·
    replace h := h.2 hc
    refine kN 27 (decide_eq_false hc) ?_
    refine kN 28 (decide_eq_false hc) ?_
    refine s_skip ?_
    refine s_skip ?_
    refine s_skip ?_
    refine s_skip ?_
    refine s_skip ?_
    refine s_skip ?_
    refine s_skip ?_
    refine s_skip ?_
    refine sR (.bool false) (r_pick rfl rfl (fun h => by cases h) (fun _ => rfl)) ?_
    refine sR (.bool false) (r_pick rfl rfl (fun h => by cases h) (fun _ => rfl)) ?_
    refine HL_nil ?_
    refine HC_condF rfl ?_
    refine HC_skip ?_
    show b9J1 v_11 v_13 v_16 v_16_1 R _ _
    exact ⟨rfl, rfl, rfl, rfl, h⟩

end Go.Proofs.YtnjcgpihfmklfaaDoor
