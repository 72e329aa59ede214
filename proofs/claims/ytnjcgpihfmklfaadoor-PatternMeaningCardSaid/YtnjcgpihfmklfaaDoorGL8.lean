/-
  What functions of the program do, in a clean form, each with the proof that its code does so. Printed by a program.
-/
import Derived.Test.YtnjcgpihfmklfaaDoorGf
import Derived.Test.YtnjcgpihfmklfaaDoorPhp
namespace Go.Proofs.YtnjcgpihfmklfaaDoor
open Go Go.Proofs.Tryd
set_option maxRecDepth 10000
set_option maxHeartbeats 4000000
/- 8 koine.koinelaw04.PatternLongest -/
def b8j2 (v_16 : Bool) (v_18 : Sl) (v_20 : ByteArray) (at_2 : Int) (v_31 : Int) (R : Value → PH → Prop) (F : PH) : Prop :=
 v_20.size + (ByteArray.mk #[97]).size ≤ 9223372036854775807 ∧
 Spec prog 17 #[(Sl.v v_18), (.string (v_20 ++ (ByteArray.mk #[97]))), (.int .i64 (Int.tmod (IntKind.i64.wrap at_2) (IntKind.i64.wrap ((v_20.size : Int) + (1 : Int)))))] F fun v F => ∃ v_87 : Int, ∃ v_87_1 : Bool, v = (.tuple #[(.int .i64 v_87), (.bool v_87_1)]) ∧
 ((v_31 ≤ v_87 →
  R (.bool v_16) F) ∧
 (¬ (v_31 ≤ v_87) →
  R (.bool false) F))
abbrev b8J2 (v_16 : Bool) (v_18 : Sl) (v_20 : ByteArray) (at_2 : Int) (v_31 : Int) (R : Value → PH → Prop) (E : En) (F : PH) : Prop := E 7 = (.bool v_16) ∧ E 8 = (Sl.v v_18) ∧ E 9 = (.string v_20) ∧ E 10 = (.int .i64 (Int.tmod (IntKind.i64.wrap at_2) (IntKind.i64.wrap ((v_20.size : Int) + (1 : Int))))) ∧ E 11 = (.int .i64 v_31) ∧ b8j2 v_16 v_18 v_20 at_2 v_31 R F
def b8L1 (N1 : Int → PH → Prop) (v_16 : Bool) (v_18 : Sl) (v_20 : ByteArray) (at_2 : Int) (v_31 : Int) (R : Value → PH → Prop) (vm_13 : Int) (F : PH) : Prop :=
 (((IntKind.i64.wrap ((Int.tmod (IntKind.i64.wrap at_2) (IntKind.i64.wrap ((v_20.size : Int) + (1 : Int)))) + vm_13)) ≤ (v_20.size : Int) →
  0 ≤ (Int.tmod (IntKind.i64.wrap at_2) (IntKind.i64.wrap ((v_20.size : Int) + (1 : Int)))) ∧ 0 ≤ (IntKind.i64.wrap ((Int.tmod (IntKind.i64.wrap at_2) (IntKind.i64.wrap ((v_20.size : Int) + (1 : Int)))) + vm_13)) ∧ (Int.toNat (Int.tmod (IntKind.i64.wrap at_2) (IntKind.i64.wrap ((v_20.size : Int) + (1 : Int))))) ≤ (Int.toNat (IntKind.i64.wrap ((Int.tmod (IntKind.i64.wrap at_2) (IntKind.i64.wrap ((v_20.size : Int) + (1 : Int)))) + vm_13))) ∧ (Int.toNat (IntKind.i64.wrap ((Int.tmod (IntKind.i64.wrap at_2) (IntKind.i64.wrap ((v_20.size : Int) + (1 : Int)))) + vm_13))) ≤ v_20.size ∧ 
  Spec prog 23 #[(Sl.v v_18), (.string (v_20.extract (Int.toNat (Int.tmod (IntKind.i64.wrap at_2) (IntKind.i64.wrap ((v_20.size : Int) + (1 : Int))))) (Int.toNat (IntKind.i64.wrap ((Int.tmod (IntKind.i64.wrap at_2) (IntKind.i64.wrap ((v_20.size : Int) + (1 : Int)))) + vm_13)))))] F fun v F => ∃ v_81 : Bool, v = (.bool v_81) ∧
  ((v_81 = true →
   R (.bool false) F) ∧
  (v_81 = false →
   N1 (IntKind.i64.wrap (vm_13 + (1 : Int))) F))) ∧
 (¬ ((IntKind.i64.wrap ((Int.tmod (IntKind.i64.wrap at_2) (IntKind.i64.wrap ((v_20.size : Int) + (1 : Int)))) + vm_13)) ≤ (v_20.size : Int)) →
  b8j2 v_16 v_18 v_20 at_2 v_31 R F))
def b8j1 (v_16 : Bool) (v_18 : Sl) (v_20 : ByteArray) (at_2 : Int) (v_31 : Int) (R : Value → PH → Prop) (F : PH) : Prop :=
 (∃ (I1 : Nat → Int → PH → Prop) (m1 : Nat), I1 m1 (IntKind.i64.wrap (v_31 + (1 : Int))) F ∧ ∀ m1 vm_13 F, I1 m1 vm_13 F →
  b8L1 (fun y1_0 F => ∃ m', m' < m1 ∧ I1 m' y1_0 F) v_16 v_18 v_20 at_2 v_31 R vm_13 F)
abbrev b8J1 (v_16 : Bool) (v_18 : Sl) (v_20 : ByteArray) (at_2 : Int) (v_31 : Int) (R : Value → PH → Prop) (E : En) (F : PH) : Prop := E 7 = (.bool v_16) ∧ E 8 = (Sl.v v_18) ∧ E 9 = (.string v_20) ∧ E 10 = (.int .i64 (Int.tmod (IntKind.i64.wrap at_2) (IntKind.i64.wrap ((v_20.size : Int) + (1 : Int))))) ∧ E 11 = (.int .i64 v_31) ∧ b8j1 v_16 v_18 v_20 at_2 v_31 R F
def b8 (l_0 : Sl) (w_1 : Sl) (at_2 : Int) (R : Value → PH → Prop) (F : PH) : Prop :=
 Spec prog 15 #[] F fun v F => ∃ v_16 : Bool, v = (.bool v_16) ∧
 Spec prog 16 #[(Sl.v l_0), (.int .i64 (30 : Int))] F fun v F => ∃ v_18 : Sl, v = (Sl.v v_18) ∧
 Spec prog 33 #[(Sl.v w_1), (.int .i64 (16 : Int))] F fun v F => ∃ v_20 : ByteArray, v = (.string v_20) ∧
 (IntKind.i64.wrap ((v_20.size : Int) + (1 : Int))) ≠ 0 ∧ Spec prog 17 #[(Sl.v v_18), (.string v_20), (.int .i64 (Int.tmod (IntKind.i64.wrap at_2) (IntKind.i64.wrap ((v_20.size : Int) + (1 : Int)))))] F fun v F => ∃ v_31 : Int, ∃ v_31_1 : Bool, v = (.tuple #[(.int .i64 v_31), (.bool v_31_1)]) ∧
 ((v_31 < (0 : Int) →
  R (.bool false) F) ∧
 (¬ (v_31 < (0 : Int)) →
  (((v_20.size : Int) < (IntKind.i64.wrap ((Int.tmod (IntKind.i64.wrap at_2) (IntKind.i64.wrap ((v_20.size : Int) + (1 : Int)))) + v_31)) →
   R (.bool false) F) ∧
  (¬ ((v_20.size : Int) < (IntKind.i64.wrap ((Int.tmod (IntKind.i64.wrap at_2) (IntKind.i64.wrap ((v_20.size : Int) + (1 : Int)))) + v_31))) →
   (((!(v_31_1 == (decide ((0 : Int) < v_31)))) = true →
    R (.bool false) F) ∧
   ((!(v_31_1 == (decide ((0 : Int) < v_31)))) = false →
    ((v_31_1 = true →
     0 ≤ (Int.tmod (IntKind.i64.wrap at_2) (IntKind.i64.wrap ((v_20.size : Int) + (1 : Int)))) ∧ 0 ≤ (IntKind.i64.wrap ((Int.tmod (IntKind.i64.wrap at_2) (IntKind.i64.wrap ((v_20.size : Int) + (1 : Int)))) + v_31)) ∧ (Int.toNat (Int.tmod (IntKind.i64.wrap at_2) (IntKind.i64.wrap ((v_20.size : Int) + (1 : Int))))) ≤ (Int.toNat (IntKind.i64.wrap ((Int.tmod (IntKind.i64.wrap at_2) (IntKind.i64.wrap ((v_20.size : Int) + (1 : Int)))) + v_31))) ∧ (Int.toNat (IntKind.i64.wrap ((Int.tmod (IntKind.i64.wrap at_2) (IntKind.i64.wrap ((v_20.size : Int) + (1 : Int)))) + v_31))) ≤ v_20.size ∧ 
     Spec prog 23 #[(Sl.v v_18), (.string (v_20.extract (Int.toNat (Int.tmod (IntKind.i64.wrap at_2) (IntKind.i64.wrap ((v_20.size : Int) + (1 : Int))))) (Int.toNat (IntKind.i64.wrap ((Int.tmod (IntKind.i64.wrap at_2) (IntKind.i64.wrap ((v_20.size : Int) + (1 : Int)))) + v_31)))))] F fun v F => ∃ v_60 : Bool, v = (.bool v_60) ∧
     (((!v_60) = true →
      R (.bool false) F) ∧
     ((!v_60) = false →
      b8j1 v_16 v_18 v_20 at_2 v_31 R F))) ∧
    (v_31_1 = false →
     b8j1 v_16 v_18 v_20 at_2 v_31 R F))))))))
theorem c8 {l_0 : Sl} {w_1 : Sl} {at_2 : Int} {R : Value → PH → Prop} {F : PH} (h : b8 l_0 w_1 at_2 R F) : Spec prog 8 #[(Sl.v l_0), (Sl.v w_1), (.int .u8 at_2)] F R := by
 refine spec_of (args := [(Sl.v l_0), (Sl.v w_1), (.int .u8 at_2)]) func8 rfl ntmps8 rfl ?_
 unfold b8 at h
 refine cR ?_
 refine sR (.bool false) (r_assign rfl rfl) ?_
 refine HL_nil ?_
 refine cR ?_
 refine s_ef (k_call (vs := []) cb15 evN (h.mono ?_))
 clear h; rintro v F ⟨v_16, rfl, h⟩
 refine sR (.bool v_16) (r_assign rfl rfl) ?_
 refine HL_nil ?_
 refine cR ?_
 refine sR (Sl.v l_0) (r_move rfl rfl) ?_
 refine s_ef (k_call (vs := [(Sl.v l_0), (.int .i64 (30 : Int))]) cb16 (evC rfl (evC rfl evN)) (h.mono ?_))
 clear h; rintro v F ⟨v_18, rfl, h⟩
 refine sR (Sl.v v_18) (r_assign rfl rfl) ?_
 refine HL_nil ?_
 refine cR ?_
 refine sR (Sl.v w_1) (r_move rfl rfl) ?_
 refine s_ef (k_call (vs := [(Sl.v w_1), (.int .i64 (16 : Int))]) cb33 (evC rfl (evC rfl evN)) (h.mono ?_))
 clear h; rintro v F ⟨v_20, rfl, h⟩
 refine sR (.string v_20) (r_assign rfl rfl) ?_
 refine HL_nil ?_
 refine cR ?_
 refine sR (.int .u8 at_2) (r_move rfl rfl) ?_
 refine sR (.int .i64 (IntKind.i64.wrap at_2)) (r_convInt rfl rfl underlying5 underlying3) ?_
 refine sR (.string v_20) (r_move rfl rfl) ?_
 refine sR (.int .i64 (v_20.size : Int)) (r_lenStr rfl rfl underlying9) ?_
 refine sR (.int .i64 (IntKind.i64.wrap ((v_20.size : Int) + (1 : Int)))) (r_add rfl rfl rfl) ?_
 obtain ⟨hd26, h⟩ := h
 refine sR (.int .i64 (Int.tmod (IntKind.i64.wrap at_2) (IntKind.i64.wrap ((v_20.size : Int) + (1 : Int))))) (r_rem rfl rfl rfl hd26) ?_
 refine sR (.int .i64 (Int.tmod (IntKind.i64.wrap at_2) (IntKind.i64.wrap ((v_20.size : Int) + (1 : Int))))) (r_assign rfl rfl) ?_
 refine HL_nil ?_
 refine cR ?_
 refine sR (Sl.v v_18) (r_move rfl rfl) ?_
 refine sR (.string v_20) (r_move rfl rfl) ?_
 refine sR (.int .i64 (Int.tmod (IntKind.i64.wrap at_2) (IntKind.i64.wrap ((v_20.size : Int) + (1 : Int))))) (r_move rfl rfl) ?_
 refine s_ef (k_call (vs := [(Sl.v v_18), (.string v_20), (.int .i64 (Int.tmod (IntKind.i64.wrap at_2) (IntKind.i64.wrap ((v_20.size : Int) + (1 : Int)))))]) cb17 (evC rfl (evC rfl (evC rfl evN))) (h.mono ?_))
 clear h; rintro v F ⟨v_31, v_31_1, rfl, h⟩
 refine sR (.tuple #[(.int .i64 v_31), (.bool v_31_1)]) (r_move rfl rfl) ?_
 refine sR (.int .i64 v_31) (r_extract rfl rfl rfl) ?_
 refine sR (.bool v_31_1) (r_extract rfl rfl rfl) ?_
 refine sR (.int .i64 v_31) (r_assign rfl rfl) ?_
 refine sR (.bool v_31_1) (r_assign rfl rfl) ?_
 refine HL_nil ?_
 refine HC_seqJ (b8J1 v_16 v_18 v_20 at_2 v_31 R) ?_ ?_
 ·
  clear h; rintro E F ⟨h7, h8, h9, h10, h11, h⟩
  unfold b8j1 at h
  refine HC_seqJ (b8J2 v_16 v_18 v_20 at_2 v_31 R) ?_ ?_
  ·
   clear h; rintro E F ⟨h7, h8, h9, h10, h11, h⟩
   unfold b8j2 at h
   refine cR ?_
   refine sR (Sl.v v_18) (r_move rfl h8) ?_
   refine sR (.string v_20) (r_move rfl h9) ?_
   obtain ⟨hx85, h⟩ := h
   refine sR (.string (v_20 ++ (ByteArray.mk #[97]))) (r_addS rfl rfl rfl hx85) ?_
   refine sR (.int .i64 (Int.tmod (IntKind.i64.wrap at_2) (IntKind.i64.wrap ((v_20.size : Int) + (1 : Int))))) (r_move rfl h10) ?_
   refine s_ef (k_call (vs := [(Sl.v v_18), (.string (v_20 ++ (ByteArray.mk #[97]))), (.int .i64 (Int.tmod (IntKind.i64.wrap at_2) (IntKind.i64.wrap ((v_20.size : Int) + (1 : Int)))))]) cb17 (evC rfl (evC rfl (evC rfl evN))) (h.mono ?_))
   clear h; rintro v F ⟨v_87, v_87_1, rfl, h⟩
   refine sR (.tuple #[(.int .i64 v_87), (.bool v_87_1)]) (r_move rfl rfl) ?_
   refine sR (.int .i64 v_87) (r_extract rfl rfl rfl) ?_
   refine sR (.bool v_87_1) (r_extract rfl rfl rfl) ?_
   refine sR (.int .i64 v_87) (r_assign rfl rfl) ?_
   refine sR (.bool v_87_1) (r_assign rfl rfl) ?_
   refine HL_nil ?_
   refine cR ?_
   refine sR (.int .i64 v_87) (r_move rfl rfl) ?_
   refine sR (.int .i64 v_31) (r_move rfl h11) ?_
   refine sR (.bool (decide (v_31 ≤ v_87))) (r_geq rfl rfl rfl) ?_
   refine sR (.bool (decide (v_31 ≤ v_87))) (r_move rfl rfl) ?_
   by_cases hc : v_31 ≤ v_87
   ·
    replace h := h.1 hc
    refine kN 92 (decide_eq_true hc) ?_
    refine kN 93 (decide_eq_true hc) ?_
    refine sR (.bool v_16) (r_move rfl h7) ?_
    refine sR (.bool v_16) (r_pick rfl rfl (fun _ => rfl) (fun h => by cases h)) ?_
    refine sR (.bool v_16) (r_assign rfl rfl) ?_
    refine HL_nil ?_
    exact HC_ret (show endQ prog f8 R .ret _ _ from ⟨_, res1 rfl (rv_tmp rfl), h⟩)
   ·
    replace h := h.2 hc
    refine kN 92 (decide_eq_false hc) ?_
    refine kN 93 (decide_eq_false hc) ?_
    refine s_skip ?_
    refine sR (.bool false) (r_pick rfl rfl (fun h => by cases h) (fun _ => rfl)) ?_
    refine sR (.bool false) (r_assign rfl rfl) ?_
    refine HL_nil ?_
    exact HC_ret (show endQ prog f8 R .ret _ _ from ⟨_, res1 rfl (rv_tmp rfl), h⟩)
  ·
   skip
   refine cR ?_
   refine sR (.int .i64 v_31) (r_move rfl h11) ?_
   refine sR (.int .i64 (IntKind.i64.wrap (v_31 + (1 : Int)))) (r_add rfl rfl rfl) ?_
   refine sR (.int .i64 (IntKind.i64.wrap (v_31 + (1 : Int)))) (r_assign rfl rfl) ?_
   refine HL_nil ?_
   refine HC_block ?_
   obtain ⟨I1, m1, hI0, hr⟩ := h
   refine HC_loop (fun m1 E F => ∃ vm_13 : Int, E 7 = (.bool v_16) ∧ E 8 = (Sl.v v_18) ∧ E 9 = (.string v_20) ∧ E 10 = (.int .i64 (Int.tmod (IntKind.i64.wrap at_2) (IntKind.i64.wrap ((v_20.size : Int) + (1 : Int))))) ∧ E 11 = (.int .i64 v_31) ∧ E 13 = (.int .i64 vm_13) ∧ I1 m1 vm_13 F) m1 ⟨_, h7, h8, h9, h10, h11, rfl, hI0⟩ ?_
   clear hI0; rintro m1 E F ⟨vm_13, h7, h8, h9, h10, h11, h13, hI⟩
   have h := hr m1 vm_13 F hI
   clear hr hI
   unfold b8L1 at h
   refine HC_seq ?_
   refine cR ?_
   refine sR (.int .i64 (Int.tmod (IntKind.i64.wrap at_2) (IntKind.i64.wrap ((v_20.size : Int) + (1 : Int))))) (r_move rfl h10) ?_
   refine sR (.int .i64 vm_13) (r_move rfl h13) ?_
   refine sR (.int .i64 (IntKind.i64.wrap ((Int.tmod (IntKind.i64.wrap at_2) (IntKind.i64.wrap ((v_20.size : Int) + (1 : Int)))) + vm_13))) (r_add rfl rfl rfl) ?_
   refine sR (.string v_20) (r_move rfl h9) ?_
   refine sR (.int .i64 (v_20.size : Int)) (r_lenStr rfl rfl underlying9) ?_
   refine sR (.bool (decide ((IntKind.i64.wrap ((Int.tmod (IntKind.i64.wrap at_2) (IntKind.i64.wrap ((v_20.size : Int) + (1 : Int)))) + vm_13)) ≤ (v_20.size : Int)))) (r_leq rfl rfl rfl) ?_
   refine HL_nil ?_
   refine HC_cond (t := (decide ((IntKind.i64.wrap ((Int.tmod (IntKind.i64.wrap at_2) (IntKind.i64.wrap ((v_20.size : Int) + (1 : Int)))) + vm_13)) ≤ (v_20.size : Int)))) rfl (fun hc => ?_) (fun hc => ?_)
   ·
    replace h := h.1 (of_decide_eq_true hc)
    clear hc
    refine HC_skip ?_
    refine HC_seq ?_
    refine HC_block ?_
    refine cR ?_
    refine sR (Sl.v v_18) (r_move rfl h8) ?_
    refine sR (.string v_20) (r_move rfl h9) ?_
    refine sR (.int .i64 (Int.tmod (IntKind.i64.wrap at_2) (IntKind.i64.wrap ((v_20.size : Int) + (1 : Int))))) (r_move rfl h10) ?_
    refine sR (.int .i64 (Int.tmod (IntKind.i64.wrap at_2) (IntKind.i64.wrap ((v_20.size : Int) + (1 : Int))))) (r_move rfl h10) ?_
    refine sR (.int .i64 vm_13) (r_move rfl h13) ?_
    refine sR (.int .i64 (IntKind.i64.wrap ((Int.tmod (IntKind.i64.wrap at_2) (IntKind.i64.wrap ((v_20.size : Int) + (1 : Int)))) + vm_13))) (r_add rfl rfl rfl) ?_
    obtain ⟨hq80_0, hq80_1, hr80_0, hr80_1, h⟩ := h
    refine sR (.string (v_20.extract (Int.toNat (Int.tmod (IntKind.i64.wrap at_2) (IntKind.i64.wrap ((v_20.size : Int) + (1 : Int))))) (Int.toNat (IntKind.i64.wrap ((Int.tmod (IntKind.i64.wrap at_2) (IntKind.i64.wrap ((v_20.size : Int) + (1 : Int)))) + vm_13))))) (r_sliceStr rfl rfl underlying9 (bo_ev rfl hq80_0) (bo_ev rfl hq80_1) hr80_0 hr80_1) ?_
    refine s_ef (k_call (vs := [(Sl.v v_18), (.string (v_20.extract (Int.toNat (Int.tmod (IntKind.i64.wrap at_2) (IntKind.i64.wrap ((v_20.size : Int) + (1 : Int))))) (Int.toNat (IntKind.i64.wrap ((Int.tmod (IntKind.i64.wrap at_2) (IntKind.i64.wrap ((v_20.size : Int) + (1 : Int)))) + vm_13)))))]) cb23 (evC rfl (evC rfl evN)) (h.mono ?_))
    clear h; rintro v F ⟨v_81, rfl, h⟩
    refine HL_nil ?_
    refine HC_cond (t := v_81) rfl (fun hc => ?_) (fun hc => ?_)
    ·
     replace h := h.1 hc
     clear hc
     refine cR ?_
     refine sR (.bool false) (r_assign rfl rfl) ?_
     refine HL_nil ?_
     exact HC_ret (show endQ prog f8 R .ret _ _ from ⟨_, res1 rfl (rv_tmp rfl), h⟩)
    ·
     replace h := h.2 hc
     clear hc
     refine HC_skip ?_
     refine HC_region ?_
     refine sR (.int .i64 vm_13) (r_move rfl h13) ?_
     refine sR (.int .i64 (IntKind.i64.wrap (vm_13 + (1 : Int)))) (r_add rfl rfl rfl) ?_
     refine sR (.int .i64 (IntKind.i64.wrap (vm_13 + (1 : Int)))) (r_assign rfl rfl) ?_
     refine HL_nil ?_
     obtain ⟨m', hm, h⟩ := h
     exact ⟨m', hm, _, h7, h8, h9, h10, h11, rfl, h⟩
   ·
    replace h := h.2 (of_decide_eq_false hc)
    clear hc
    refine HC_exit ?_
    show b8J2 v_16 v_18 v_20 at_2 v_31 R _ _
    exact ⟨h7, h8, h9, h10, h11, h⟩
 ·
  skip
  refine cR ?_
  refine sR (.int .i64 v_31) (r_move rfl rfl) ?_
  refine sR (.bool (decide (v_31 < (0 : Int)))) (r_lss rfl rfl rfl) ?_
  refine sR (.bool (decide (v_31 < (0 : Int)))) (r_move rfl rfl) ?_
  by_cases hc : v_31 < (0 : Int)
  ·
   replace h := h.1 hc
   refine kN 35 (decide_eq_true hc) ?_
   refine kN 36 (decide_eq_true hc) ?_
   refine s_skip ?_
   refine s_skip ?_
   refine s_skip ?_
   refine s_skip ?_
   refine s_skip ?_
   refine s_skip ?_
   refine sR (.bool true) (r_pick rfl rfl (fun _ => rfl) (fun h => by cases h)) ?_
   refine sR (.bool true) (r_move rfl rfl) ?_
   refine s_skip ?_
   refine s_skip ?_
   refine s_skip ?_
   refine s_skip ?_
   refine sR (.bool true) (r_pick rfl rfl (fun _ => rfl) (fun h => by cases h)) ?_
   refine sR (.bool true) (r_move rfl rfl) ?_
   refine s_skip ?_
   refine s_skip ?_
   refine s_skip ?_
   refine s_skip ?_
   refine s_skip ?_
   refine s_skip ?_
   refine s_skip ?_
   refine s_skip ?_
   refine s_skip ?_
   refine s_skip ?_
   refine s_skip ?_
   refine s_skip ?_
   refine sR (.bool true) (r_pick rfl rfl (fun _ => rfl) (fun h => by cases h)) ?_
   refine HL_nil ?_
   refine HC_condT rfl ?_
   refine cR ?_
   refine sR (.bool false) (r_assign rfl rfl) ?_
   refine HL_nil ?_
   exact HC_ret (show endQ prog f8 R .ret _ _ from ⟨_, res1 rfl (rv_tmp rfl), h⟩)
  ·
   replace h := h.2 hc
   refine kN 35 (decide_eq_false hc) ?_
   refine kN 36 (decide_eq_false hc) ?_
   refine sR (.int .i64 (Int.tmod (IntKind.i64.wrap at_2) (IntKind.i64.wrap ((v_20.size : Int) + (1 : Int))))) (r_move rfl rfl) ?_
   refine sR (.int .i64 v_31) (r_move rfl rfl) ?_
   refine sR (.int .i64 (IntKind.i64.wrap ((Int.tmod (IntKind.i64.wrap at_2) (IntKind.i64.wrap ((v_20.size : Int) + (1 : Int)))) + v_31))) (r_add rfl rfl rfl) ?_
   refine sR (.string v_20) (r_move rfl rfl) ?_
   refine sR (.int .i64 (v_20.size : Int)) (r_lenStr rfl rfl underlying9) ?_
   refine sR (.bool (decide ((v_20.size : Int) < (IntKind.i64.wrap ((Int.tmod (IntKind.i64.wrap at_2) (IntKind.i64.wrap ((v_20.size : Int) + (1 : Int)))) + v_31))))) (r_gtr rfl rfl rfl) ?_
   refine sR (.bool (decide ((v_20.size : Int) < (IntKind.i64.wrap ((Int.tmod (IntKind.i64.wrap at_2) (IntKind.i64.wrap ((v_20.size : Int) + (1 : Int)))) + v_31))))) (r_pick rfl rfl (fun h => by cases h) (fun _ => rfl)) ?_
   refine sR (.bool (decide ((v_20.size : Int) < (IntKind.i64.wrap ((Int.tmod (IntKind.i64.wrap at_2) (IntKind.i64.wrap ((v_20.size : Int) + (1 : Int)))) + v_31))))) (r_move rfl rfl) ?_
   by_cases hc : (v_20.size : Int) < (IntKind.i64.wrap ((Int.tmod (IntKind.i64.wrap at_2) (IntKind.i64.wrap ((v_20.size : Int) + (1 : Int)))) + v_31))
   ·
    replace h := h.1 hc
    refine kN 42 (decide_eq_true hc) ?_
    refine kN 43 (decide_eq_true hc) ?_
    refine kN 44 (decide_eq_true hc) ?_
    refine s_skip ?_
    refine s_skip ?_
    refine s_skip ?_
    refine s_skip ?_
    refine sR (.bool true) (r_pick rfl rfl (fun _ => rfl) (fun h => by cases h)) ?_
    refine sR (.bool true) (r_move rfl rfl) ?_
    refine s_skip ?_
    refine s_skip ?_
    refine s_skip ?_
    refine s_skip ?_
    refine s_skip ?_
    refine s_skip ?_
    refine s_skip ?_
    refine s_skip ?_
    refine s_skip ?_
    refine s_skip ?_
    refine s_skip ?_
    refine s_skip ?_
    refine sR (.bool true) (r_pick rfl rfl (fun _ => rfl) (fun h => by cases h)) ?_
    refine HL_nil ?_
    refine HC_condT rfl ?_
    refine cR ?_
    refine sR (.bool false) (r_assign rfl rfl) ?_
    refine HL_nil ?_
    exact HC_ret (show endQ prog f8 R .ret _ _ from ⟨_, res1 rfl (rv_tmp rfl), h⟩)
   ·
    replace h := h.2 hc
    refine kN 42 (decide_eq_false hc) ?_
    refine kN 43 (decide_eq_false hc) ?_
    refine kN 44 (decide_eq_false hc) ?_
    refine sR (.bool v_31_1) (r_move rfl rfl) ?_
    refine sR (.int .i64 v_31) (r_move rfl rfl) ?_
    refine sR (.bool (decide ((0 : Int) < v_31))) (r_gtr rfl rfl rfl) ?_
    refine sR (.bool (!(v_31_1 == (decide ((0 : Int) < v_31))))) (r_neqB rfl rfl rfl underlying4) ?_
    refine sR (.bool (!(v_31_1 == (decide ((0 : Int) < v_31))))) (r_pick rfl rfl (fun h => by cases h) (fun _ => rfl)) ?_
    refine sR (.bool (!(v_31_1 == (decide ((0 : Int) < v_31))))) (r_move rfl rfl) ?_
    by_cases hc : (!(v_31_1 == (decide ((0 : Int) < v_31)))) = true
    ·
     replace h := h.1 hc
     refine kN 48 hc ?_
     refine kN 49 hc ?_
     refine kN 50 hc ?_
     refine s_skip ?_
     refine s_skip ?_
     refine s_skip ?_
     refine s_skip ?_
     refine s_skip ?_
     refine s_skip ?_
     refine s_skip ?_
     refine s_skip ?_
     refine s_skip ?_
     refine s_skip ?_
     refine s_skip ?_
     refine s_skip ?_
     refine sR (.bool true) (r_pick rfl rfl (fun _ => rfl) (fun h => by cases h)) ?_
     refine HL_nil ?_
     refine HC_condT rfl ?_
     refine cR ?_
     refine sR (.bool false) (r_assign rfl rfl) ?_
     refine HL_nil ?_
     exact HC_ret (show endQ prog f8 R .ret _ _ from ⟨_, res1 rfl (rv_tmp rfl), h⟩)
    ·
     replace hc := eq_false_of_ne_true hc; replace h := h.2 hc
     refine kN 48 hc ?_
     refine kN 49 hc ?_
     refine kN 50 hc ?_
     refine sR (.bool v_31_1) (r_move rfl rfl) ?_
     refine sR (.bool v_31_1) (r_move rfl rfl) ?_
     by_cases hc : v_31_1 = true
     ·
      replace h := h.1 hc
      refine kN 33 hc ?_
      refine kN 12 hc ?_
      refine kN 45 hc ?_
      refine kN 51 hc ?_
      refine kN 52 hc ?_
      refine sR (Sl.v v_18) (r_move rfl rfl) ?_
      refine sR (.string v_20) (r_move rfl rfl) ?_
      refine sR (.int .i64 (Int.tmod (IntKind.i64.wrap at_2) (IntKind.i64.wrap ((v_20.size : Int) + (1 : Int))))) (r_move rfl rfl) ?_
      refine sR (.int .i64 (Int.tmod (IntKind.i64.wrap at_2) (IntKind.i64.wrap ((v_20.size : Int) + (1 : Int))))) (r_move rfl rfl) ?_
      refine sR (.int .i64 v_31) (r_move rfl rfl) ?_
      refine sR (.int .i64 (IntKind.i64.wrap ((Int.tmod (IntKind.i64.wrap at_2) (IntKind.i64.wrap ((v_20.size : Int) + (1 : Int)))) + v_31))) (r_add rfl rfl rfl) ?_
      obtain ⟨hq59_0, hq59_1, hr59_0, hr59_1, h⟩ := h
      refine sR (.string (v_20.extract (Int.toNat (Int.tmod (IntKind.i64.wrap at_2) (IntKind.i64.wrap ((v_20.size : Int) + (1 : Int))))) (Int.toNat (IntKind.i64.wrap ((Int.tmod (IntKind.i64.wrap at_2) (IntKind.i64.wrap ((v_20.size : Int) + (1 : Int)))) + v_31))))) (r_sliceStr rfl rfl underlying9 (bo_ev rfl hq59_0) (bo_ev rfl hq59_1) hr59_0 hr59_1) ?_
      refine s_ef (k_call (vs := [(Sl.v v_18), (.string (v_20.extract (Int.toNat (Int.tmod (IntKind.i64.wrap at_2) (IntKind.i64.wrap ((v_20.size : Int) + (1 : Int))))) (Int.toNat (IntKind.i64.wrap ((Int.tmod (IntKind.i64.wrap at_2) (IntKind.i64.wrap ((v_20.size : Int) + (1 : Int)))) + v_31)))))]) cb23 (evC rfl (evC rfl evN)) (h.mono ?_))
      clear h; rintro v F ⟨v_60, rfl, h⟩
      refine sR (.bool (!v_60)) (r_not rfl rfl) ?_
      refine sR (.bool (!v_60)) (r_pick rfl rfl (fun _ => rfl) (fun h => by cases h)) ?_
      refine sR (.bool (!v_60)) (r_pick rfl rfl (fun h => by cases h) (fun _ => rfl)) ?_
      refine HL_nil ?_
      refine HC_cond (t := (!v_60)) rfl (fun hc => ?_) (fun hc => ?_)
      ·
       replace h := h.1 hc
       clear hc
       refine cR ?_
       refine sR (.bool false) (r_assign rfl rfl) ?_
       refine HL_nil ?_
       exact HC_ret (show endQ prog f8 R .ret _ _ from ⟨_, res1 rfl (rv_tmp rfl), h⟩)
      ·
       replace h := h.2 hc
       clear hc
       refine HC_skip ?_
       show b8J1 v_16 v_18 v_20 at_2 v_31 R _ _
       exact ⟨rfl, rfl, rfl, rfl, rfl, h⟩
     ·
      replace hc := eq_false_of_ne_true hc; replace h := h.2 hc
      refine kN 33 hc ?_
      refine kN 12 hc ?_
      refine kN 45 hc ?_
      refine kN 51 hc ?_
      refine kN 52 hc ?_
      refine s_skip ?_
      refine s_skip ?_
      refine s_skip ?_
      refine s_skip ?_
      refine s_skip ?_
      refine s_skip ?_
      refine s_skip ?_
      refine s_skip ?_
      refine s_skip ?_
      refine sR (.bool false) (r_pick rfl rfl (fun h => by cases h) (fun _ => rfl)) ?_
      refine sR (.bool false) (r_pick rfl rfl (fun h => by cases h) (fun _ => rfl)) ?_
      refine HL_nil ?_
      refine HC_condF rfl ?_
      refine HC_skip ?_
      show b8J1 v_16 v_18 v_20 at_2 v_31 R _ _
      exact ⟨rfl, rfl, rfl, rfl, rfl, h⟩

end Go.Proofs.YtnjcgpihfmklfaaDoor
