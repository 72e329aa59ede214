/-
  What functions of the program do, in a clean form, each with the proof that its code does so. Printed by a program.
-/
import Derived.Test.YtnjcgpihfmklfaaDoorGf
import Derived.Test.YtnjcgpihfmklfaaDoorPhp
namespace Go.Proofs.YtnjcgpihfmklfaaDoor
open Go Go.Proofs.Tryd
set_option maxRecDepth 10000
set_option maxHeartbeats 4000000
/- 7 koine.koinelaw04.PatternMeaning -/
def b7j2 (v_25 : Bool) (v_31 : ByteArray) (v_49 : Sl) (v_59 : Sl) (v_66 : Sl) (split_21 : Bool) (more_22 : Bool) (either_24 : Bool) (R : Value → PH → Prop) (F : PH) : Prop :=
 Spec prog 23 #[(Sl.v v_49), (.string v_31)] F fun v F => ∃ v_139 : Bool, v = (.bool v_139) ∧
 (((v_139 == split_21) = true →
  Spec prog 23 #[(Sl.v v_59), (.string v_31)] F fun v F => ∃ v_145 : Bool, v = (.bool v_145) ∧
  (((v_145 == either_24) = true →
   Spec prog 23 #[(Sl.v v_66), (.string v_31)] F fun v F => ∃ v_152 : Bool, v = (.bool v_152) ∧
   (((v_152 == more_22) = true →
    R (.bool v_25) F) ∧
   ((v_152 == more_22) = false →
    R (.bool false) F))) ∧
  ((v_145 == either_24) = false →
   R (.bool false) F))) ∧
 ((v_139 == split_21) = false →
  R (.bool false) F))
abbrev b7J2 (v_25 : Bool) (v_31 : ByteArray) (v_49 : Sl) (v_59 : Sl) (v_66 : Sl) (split_21 : Bool) (more_22 : Bool) (R : Value → PH → Prop) (E : En) (F : PH) : Prop := ∃ either_24 : Bool, E 7 = (.bool v_25) ∧ E 10 = (.string v_31) ∧ E 15 = (Sl.v v_49) ∧ E 17 = (Sl.v v_59) ∧ E 19 = (Sl.v v_66) ∧ E 21 = (.bool split_21) ∧ E 22 = (.bool more_22) ∧ E 24 = (.bool either_24) ∧ b7j2 v_25 v_31 v_49 v_59 v_66 split_21 more_22 either_24 R F
def b7j1 (v_25 : Bool) (v_27 : Sl) (v_29 : Sl) (v_31 : ByteArray) (v_49 : Sl) (v_59 : Sl) (v_66 : Sl) (split_21 : Bool) (more_22 : Bool) (R : Value → PH → Prop) (F : PH) : Prop :=
 Spec prog 23 #[(Sl.v v_27), (.string v_31)] F fun v F => ∃ v_131 : Bool, v = (.bool v_131) ∧
 ((v_131 = true →
  b7j2 v_25 v_31 v_49 v_59 v_66 split_21 more_22 true R F) ∧
 (v_131 = false →
  Spec prog 23 #[(Sl.v v_29), (.string v_31)] F fun v F => ∃ v_135 : Bool, v = (.bool v_135) ∧
  b7j2 v_25 v_31 v_49 v_59 v_66 split_21 more_22 v_135 R F))
abbrev b7J1 (v_25 : Bool) (v_27 : Sl) (v_29 : Sl) (v_31 : ByteArray) (v_49 : Sl) (v_59 : Sl) (v_66 : Sl) (R : Value → PH → Prop) (E : En) (F : PH) : Prop := ∃ split_21 : Bool, ∃ more_22 : Bool, E 7 = (.bool v_25) ∧ E 8 = (Sl.v v_27) ∧ E 9 = (Sl.v v_29) ∧ E 10 = (.string v_31) ∧ E 15 = (Sl.v v_49) ∧ E 17 = (Sl.v v_59) ∧ E 19 = (Sl.v v_66) ∧ E 21 = (.bool split_21) ∧ E 22 = (.bool more_22) ∧ b7j1 v_25 v_27 v_29 v_31 v_49 v_59 v_66 split_21 more_22 R F
def b7j3 (N1 : Bool → Bool → Int → PH → Prop) (v_25 : Bool) (v_27 : Sl) (v_29 : Sl) (v_31 : ByteArray) (v_49 : Sl) (v_59 : Sl) (v_66 : Sl) (k_23 : Int) (split_21_2 : Bool) (more_22_2 : Bool) (R : Value → PH → Prop) (F : PH) : Prop :=
 N1 split_21_2 more_22_2 (IntKind.i64.wrap (k_23 + (1 : Int))) F
abbrev b7J3 (N1 : Bool → Bool → Int → PH → Prop) (v_25 : Bool) (v_27 : Sl) (v_29 : Sl) (v_31 : ByteArray) (v_49 : Sl) (v_59 : Sl) (v_66 : Sl) (k_23 : Int) (R : Value → PH → Prop) (E : En) (F : PH) : Prop := ∃ split_21_2 : Bool, ∃ more_22_2 : Bool, E 7 = (.bool v_25) ∧ E 8 = (Sl.v v_27) ∧ E 9 = (Sl.v v_29) ∧ E 10 = (.string v_31) ∧ E 15 = (Sl.v v_49) ∧ E 17 = (Sl.v v_59) ∧ E 19 = (Sl.v v_66) ∧ E 21 = (.bool split_21_2) ∧ E 22 = (.bool more_22_2) ∧ E 23 = (.int .i64 k_23) ∧ b7j3 N1 v_25 v_27 v_29 v_31 v_49 v_59 v_66 k_23 split_21_2 more_22_2 R F
def b7j4 (N1 : Bool → Bool → Int → PH → Prop) (v_25 : Bool) (v_27 : Sl) (v_29 : Sl) (v_31 : ByteArray) (v_49 : Sl) (v_59 : Sl) (v_66 : Sl) (more_22_1 : Bool) (k_23 : Int) (split_21_3 : Bool) (R : Value → PH → Prop) (F : PH) : Prop :=
 ((more_22_1 = true →
  b7j3 N1 v_25 v_27 v_29 v_31 v_49 v_59 v_66 k_23 split_21_3 true R F) ∧
 (more_22_1 = false →
  (((0 : Int) < k_23 →
   0 ≤ k_23 ∧ 0 ≤ (Int.toNat k_23) ∧ (Int.toNat k_23) ≤ v_31.size ∧ 
   Spec prog 23 #[(Sl.v v_27), (.string (v_31.extract 0 (Int.toNat k_23)))] F fun v F => ∃ v_119 : Bool, v = (.bool v_119) ∧
   ((v_119 = true →
    0 ≤ k_23 ∧ (Int.toNat k_23) ≤ v_31.size ∧ v_31.size ≤ v_31.size ∧ 
    Spec prog 23 #[(Sl.v v_66), (.string (v_31.extract (Int.toNat k_23) v_31.size))] F fun v F => ∃ v_126 : Bool, v = (.bool v_126) ∧
    b7j3 N1 v_25 v_27 v_29 v_31 v_49 v_59 v_66 k_23 split_21_3 v_126 R F) ∧
   (v_119 = false →
    b7j3 N1 v_25 v_27 v_29 v_31 v_49 v_59 v_66 k_23 split_21_3 false R F))) ∧
  (¬ ((0 : Int) < k_23) →
   b7j3 N1 v_25 v_27 v_29 v_31 v_49 v_59 v_66 k_23 split_21_3 false R F))))
abbrev b7J4 (N1 : Bool → Bool → Int → PH → Prop) (v_25 : Bool) (v_27 : Sl) (v_29 : Sl) (v_31 : ByteArray) (v_49 : Sl) (v_59 : Sl) (v_66 : Sl) (more_22_1 : Bool) (k_23 : Int) (R : Value → PH → Prop) (E : En) (F : PH) : Prop := ∃ split_21_3 : Bool, E 7 = (.bool v_25) ∧ E 8 = (Sl.v v_27) ∧ E 9 = (Sl.v v_29) ∧ E 10 = (.string v_31) ∧ E 15 = (Sl.v v_49) ∧ E 17 = (Sl.v v_59) ∧ E 19 = (Sl.v v_66) ∧ E 21 = (.bool split_21_3) ∧ E 22 = (.bool more_22_1) ∧ E 23 = (.int .i64 k_23) ∧ b7j4 N1 v_25 v_27 v_29 v_31 v_49 v_59 v_66 more_22_1 k_23 split_21_3 R F
def b7L1 (N1 : Bool → Bool → Int → PH → Prop) (v_25 : Bool) (v_27 : Sl) (v_29 : Sl) (v_31 : ByteArray) (v_49 : Sl) (v_59 : Sl) (v_66 : Sl) (R : Value → PH → Prop) (split_21_1 : Bool) (more_22_1 : Bool) (k_23 : Int) (F : PH) : Prop :=
 ((k_23 ≤ (v_31.size : Int) →
  ((split_21_1 = true →
   b7j4 N1 v_25 v_27 v_29 v_31 v_49 v_59 v_66 more_22_1 k_23 true R F) ∧
  (split_21_1 = false →
   0 ≤ k_23 ∧ 0 ≤ (Int.toNat k_23) ∧ (Int.toNat k_23) ≤ v_31.size ∧ 
   Spec prog 23 #[(Sl.v v_27), (.string (v_31.extract 0 (Int.toNat k_23)))] F fun v F => ∃ v_101 : Bool, v = (.bool v_101) ∧
   ((v_101 = true →
    0 ≤ k_23 ∧ (Int.toNat k_23) ≤ v_31.size ∧ v_31.size ≤ v_31.size ∧ 
    Spec prog 23 #[(Sl.v v_29), (.string (v_31.extract (Int.toNat k_23) v_31.size))] F fun v F => ∃ v_107 : Bool, v = (.bool v_107) ∧
    b7j4 N1 v_25 v_27 v_29 v_31 v_49 v_59 v_66 more_22_1 k_23 v_107 R F) ∧
   (v_101 = false →
    b7j4 N1 v_25 v_27 v_29 v_31 v_49 v_59 v_66 more_22_1 k_23 false R F))))) ∧
 (¬ (k_23 ≤ (v_31.size : Int)) →
  b7j1 v_25 v_27 v_29 v_31 v_49 v_59 v_66 split_21_1 more_22_1 R F))
def b7 (l_0 : Sl) (vm_1 : Sl) (w_2 : Sl) (R : Value → PH → Prop) (F : PH) : Prop :=
 Spec prog 15 #[] F fun v F => ∃ v_25 : Bool, v = (.bool v_25) ∧
 Spec prog 16 #[(Sl.v l_0), (.int .i64 (20 : Int))] F fun v F => ∃ v_27 : Sl, v = (Sl.v v_27) ∧
 Spec prog 16 #[(Sl.v vm_1), (.int .i64 (20 : Int))] F fun v F => ∃ v_29 : Sl, v = (Sl.v v_29) ∧
 Spec prog 33 #[(Sl.v w_2), (.int .i64 (8 : Int))] F fun v F => ∃ v_31 : ByteArray, v = (.string v_31) ∧
 Spec prog 19 #[(Sl.v v_27)] F fun v F => ∃ v_34 : ByteArray, ∃ v_34_1 : Int, v = (.tuple #[(.string v_34), (.int .i64 v_34_1)]) ∧
 Spec prog 19 #[(Sl.v v_29)] F fun v F => ∃ v_39 : ByteArray, ∃ v_39_1 : Int, v = (.tuple #[(.string v_39), (.int .i64 v_39_1)]) ∧
 (ByteArray.mk #[40]).size + v_34.size ≤ 9223372036854775807 ∧
 ((ByteArray.mk #[40]) ++ v_34).size + (ByteArray.mk #[41, 40]).size ≤ 9223372036854775807 ∧
 (((ByteArray.mk #[40]) ++ v_34) ++ (ByteArray.mk #[41, 40])).size + v_39.size ≤ 9223372036854775807 ∧
 ((((ByteArray.mk #[40]) ++ v_34) ++ (ByteArray.mk #[41, 40])) ++ v_39).size + (ByteArray.mk #[41]).size ≤ 9223372036854775807 ∧
 Spec prog 25 #[(.string (((((ByteArray.mk #[40]) ++ v_34) ++ (ByteArray.mk #[41, 40])) ++ v_39) ++ (ByteArray.mk #[41])))] F fun v F => ∃ v_49 : Sl, ∃ v_49_1 : Int, v = (.tuple #[(Sl.v v_49), (.int .i64 v_49_1)]) ∧
 (ByteArray.mk #[40]).size + v_34.size ≤ 9223372036854775807 ∧
 ((ByteArray.mk #[40]) ++ v_34).size + (ByteArray.mk #[41, 124, 40]).size ≤ 9223372036854775807 ∧
 (((ByteArray.mk #[40]) ++ v_34) ++ (ByteArray.mk #[41, 124, 40])).size + v_39.size ≤ 9223372036854775807 ∧
 ((((ByteArray.mk #[40]) ++ v_34) ++ (ByteArray.mk #[41, 124, 40])) ++ v_39).size + (ByteArray.mk #[41]).size ≤ 9223372036854775807 ∧
 Spec prog 25 #[(.string (((((ByteArray.mk #[40]) ++ v_34) ++ (ByteArray.mk #[41, 124, 40])) ++ v_39) ++ (ByteArray.mk #[41])))] F fun v F => ∃ v_59 : Sl, ∃ v_59_1 : Int, v = (.tuple #[(Sl.v v_59), (.int .i64 v_59_1)]) ∧
 (ByteArray.mk #[40]).size + v_34.size ≤ 9223372036854775807 ∧
 ((ByteArray.mk #[40]) ++ v_34).size + (ByteArray.mk #[41, 42]).size ≤ 9223372036854775807 ∧
 Spec prog 25 #[(.string (((ByteArray.mk #[40]) ++ v_34) ++ (ByteArray.mk #[41, 42])))] F fun v F => ∃ v_66 : Sl, ∃ v_66_1 : Int, v = (.tuple #[(Sl.v v_66), (.int .i64 v_66_1)]) ∧
 ((v_34_1 ≠ (0 : Int) →
  R (.bool false) F) ∧
 (¬ (v_34_1 ≠ (0 : Int)) →
  ((v_39_1 ≠ (0 : Int) →
   R (.bool false) F) ∧
  (¬ (v_39_1 ≠ (0 : Int)) →
   ((v_49_1 ≠ (0 : Int) →
    R (.bool false) F) ∧
   (¬ (v_49_1 ≠ (0 : Int)) →
    ((v_59_1 ≠ (0 : Int) →
     R (.bool false) F) ∧
    (¬ (v_59_1 ≠ (0 : Int)) →
     ((v_66_1 ≠ (0 : Int) →
      R (.bool false) F) ∧
     (¬ (v_66_1 ≠ (0 : Int)) →
      (∃ (I1 : Nat → Bool → Bool → Int → PH → Prop) (m1 : Nat), I1 m1 false (v_31.toList == (ByteArray.mk #[]).toList) (0 : Int) F ∧ ∀ m1 split_21_1 more_22_1 k_23 F, I1 m1 split_21_1 more_22_1 k_23 F →
       b7L1 (fun y1_0 y1_1 y1_2 F => ∃ m', m' < m1 ∧ I1 m' y1_0 y1_1 y1_2 F) v_25 v_27 v_29 v_31 v_49 v_59 v_66 R split_21_1 more_22_1 k_23 F)))))))))))
theorem c7 {l_0 : Sl} {vm_1 : Sl} {w_2 : Sl} {R : Value → PH → Prop} {F : PH} (h : b7 l_0 vm_1 w_2 R F) : Spec prog 7 #[(Sl.v l_0), (Sl.v vm_1), (Sl.v w_2)] F R := by
 refine spec_of (args := [(Sl.v l_0), (Sl.v vm_1), (Sl.v w_2)]) func7 rfl ntmps7 rfl ?_
 unfold b7 at h
 refine cR ?_
 refine sR (.bool false) (r_assign rfl rfl) ?_
 refine HL_nil ?_
 refine cR ?_
 refine s_ef (k_call (vs := []) cb15 evN (h.mono ?_))
 clear h; rintro v F ⟨v_25, rfl, h⟩
 refine sR (.bool v_25) (r_assign rfl rfl) ?_
 refine HL_nil ?_
 refine cR ?_
 refine sR (Sl.v l_0) (r_move rfl rfl) ?_
 refine s_ef (k_call (vs := [(Sl.v l_0), (.int .i64 (20 : Int))]) cb16 (evC rfl (evC rfl evN)) (h.mono ?_))
 clear h; rintro v F ⟨v_27, rfl, h⟩
 refine sR (Sl.v v_27) (r_assign rfl rfl) ?_
 refine HL_nil ?_
 refine cR ?_
 refine sR (Sl.v vm_1) (r_move rfl rfl) ?_
 refine s_ef (k_call (vs := [(Sl.v vm_1), (.int .i64 (20 : Int))]) cb16 (evC rfl (evC rfl evN)) (h.mono ?_))
 clear h; rintro v F ⟨v_29, rfl, h⟩
 refine sR (Sl.v v_29) (r_assign rfl rfl) ?_
 refine HL_nil ?_
 refine cR ?_
 refine sR (Sl.v w_2) (r_move rfl rfl) ?_
 refine s_ef (k_call (vs := [(Sl.v w_2), (.int .i64 (8 : Int))]) cb33 (evC rfl (evC rfl evN)) (h.mono ?_))
 clear h; rintro v F ⟨v_31, rfl, h⟩
 refine sR (.string v_31) (r_assign rfl rfl) ?_
 refine HL_nil ?_
 refine cR ?_
 refine sR (Sl.v v_27) (r_move rfl rfl) ?_
 refine s_ef (k_call (vs := [(Sl.v v_27)]) cb19 (evC rfl evN) (h.mono ?_))
 clear h; rintro v F ⟨v_34, v_34_1, rfl, h⟩
 refine sR (.tuple #[(.string v_34), (.int .i64 v_34_1)]) (r_move rfl rfl) ?_
 refine sR (.string v_34) (r_extract rfl rfl rfl) ?_
 refine sR (.int .i64 v_34_1) (r_extract rfl rfl rfl) ?_
 refine sR (.string v_34) (r_assign rfl rfl) ?_
 refine sR (.int .i64 v_34_1) (r_assign rfl rfl) ?_
 refine HL_nil ?_
 refine cR ?_
 refine sR (Sl.v v_29) (r_move rfl rfl) ?_
 refine s_ef (k_call (vs := [(Sl.v v_29)]) cb19 (evC rfl evN) (h.mono ?_))
 clear h; rintro v F ⟨v_39, v_39_1, rfl, h⟩
 refine sR (.tuple #[(.string v_39), (.int .i64 v_39_1)]) (r_move rfl rfl) ?_
 refine sR (.string v_39) (r_extract rfl rfl rfl) ?_
 refine sR (.int .i64 v_39_1) (r_extract rfl rfl rfl) ?_
 refine sR (.string v_39) (r_assign rfl rfl) ?_
 refine sR (.int .i64 v_39_1) (r_assign rfl rfl) ?_
 refine HL_nil ?_
 refine cR ?_
 refine sR (.string v_34) (r_move rfl rfl) ?_
 obtain ⟨hx44, h⟩ := h
 refine sR (.string ((ByteArray.mk #[40]) ++ v_34)) (r_addS rfl rfl rfl hx44) ?_
 obtain ⟨hx45, h⟩ := h
 refine sR (.string (((ByteArray.mk #[40]) ++ v_34) ++ (ByteArray.mk #[41, 40]))) (r_addS rfl rfl rfl hx45) ?_
 refine sR (.string v_39) (r_move rfl rfl) ?_
 obtain ⟨hx47, h⟩ := h
 refine sR (.string ((((ByteArray.mk #[40]) ++ v_34) ++ (ByteArray.mk #[41, 40])) ++ v_39)) (r_addS rfl rfl rfl hx47) ?_
 obtain ⟨hx48, h⟩ := h
 refine sR (.string (((((ByteArray.mk #[40]) ++ v_34) ++ (ByteArray.mk #[41, 40])) ++ v_39) ++ (ByteArray.mk #[41]))) (r_addS rfl rfl rfl hx48) ?_
 refine s_ef (k_call (vs := [(.string (((((ByteArray.mk #[40]) ++ v_34) ++ (ByteArray.mk #[41, 40])) ++ v_39) ++ (ByteArray.mk #[41])))]) cb25 (evC rfl evN) (h.mono ?_))
 clear h; rintro v F ⟨v_49, v_49_1, rfl, h⟩
 refine sR (.tuple #[(Sl.v v_49), (.int .i64 v_49_1)]) (r_move rfl rfl) ?_
 refine sR (Sl.v v_49) (r_extract rfl rfl rfl) ?_
 refine sR (.int .i64 v_49_1) (r_extract rfl rfl rfl) ?_
 refine sR (Sl.v v_49) (r_assign rfl rfl) ?_
 refine sR (.int .i64 v_49_1) (r_assign rfl rfl) ?_
 refine HL_nil ?_
 refine cR ?_
 refine sR (.string v_34) (r_move rfl rfl) ?_
 obtain ⟨hx54, h⟩ := h
 refine sR (.string ((ByteArray.mk #[40]) ++ v_34)) (r_addS rfl rfl rfl hx54) ?_
 obtain ⟨hx55, h⟩ := h
 refine sR (.string (((ByteArray.mk #[40]) ++ v_34) ++ (ByteArray.mk #[41, 124, 40]))) (r_addS rfl rfl rfl hx55) ?_
 refine sR (.string v_39) (r_move rfl rfl) ?_
 obtain ⟨hx57, h⟩ := h
 refine sR (.string ((((ByteArray.mk #[40]) ++ v_34) ++ (ByteArray.mk #[41, 124, 40])) ++ v_39)) (r_addS rfl rfl rfl hx57) ?_
 obtain ⟨hx58, h⟩ := h
 refine sR (.string (((((ByteArray.mk #[40]) ++ v_34) ++ (ByteArray.mk #[41, 124, 40])) ++ v_39) ++ (ByteArray.mk #[41]))) (r_addS rfl rfl rfl hx58) ?_
 refine s_ef (k_call (vs := [(.string (((((ByteArray.mk #[40]) ++ v_34) ++ (ByteArray.mk #[41, 124, 40])) ++ v_39) ++ (ByteArray.mk #[41])))]) cb25 (evC rfl evN) (h.mono ?_))
 clear h; rintro v F ⟨v_59, v_59_1, rfl, h⟩
 refine sR (.tuple #[(Sl.v v_59), (.int .i64 v_59_1)]) (r_move rfl rfl) ?_
 refine sR (Sl.v v_59) (r_extract rfl rfl rfl) ?_
 refine sR (.int .i64 v_59_1) (r_extract rfl rfl rfl) ?_
 refine sR (Sl.v v_59) (r_assign rfl rfl) ?_
 refine sR (.int .i64 v_59_1) (r_assign rfl rfl) ?_
 refine HL_nil ?_
 refine cR ?_
 refine sR (.string v_34) (r_move rfl rfl) ?_
 obtain ⟨hx64, h⟩ := h
 refine sR (.string ((ByteArray.mk #[40]) ++ v_34)) (r_addS rfl rfl rfl hx64) ?_
 obtain ⟨hx65, h⟩ := h
 refine sR (.string (((ByteArray.mk #[40]) ++ v_34) ++ (ByteArray.mk #[41, 42]))) (r_addS rfl rfl rfl hx65) ?_
 refine s_ef (k_call (vs := [(.string (((ByteArray.mk #[40]) ++ v_34) ++ (ByteArray.mk #[41, 42])))]) cb25 (evC rfl evN) (h.mono ?_))
 clear h; rintro v F ⟨v_66, v_66_1, rfl, h⟩
 refine sR (.tuple #[(Sl.v v_66), (.int .i64 v_66_1)]) (r_move rfl rfl) ?_
 refine sR (Sl.v v_66) (r_extract rfl rfl rfl) ?_
 refine sR (.int .i64 v_66_1) (r_extract rfl rfl rfl) ?_
 refine sR (Sl.v v_66) (r_assign rfl rfl) ?_
 refine sR (.int .i64 v_66_1) (r_assign rfl rfl) ?_
 refine HL_nil ?_
 refine HC_seq ?_
 refine cR ?_
 refine sR (.int .i64 v_34_1) (r_move rfl rfl) ?_
 refine sR (.bool (decide (v_34_1 ≠ (0 : Int)))) (w_neq rfl rfl) ?_
 refine sR (.bool (decide (v_34_1 ≠ (0 : Int)))) (r_move rfl rfl) ?_
 by_cases hc : v_34_1 ≠ (0 : Int)
 ·
  replace h := h.1 hc
  refine kN 70 (decide_eq_true hc) ?_
  refine kN 71 (decide_eq_true hc) ?_
  refine s_skip ?_
  refine s_skip ?_
  refine sR (.bool true) (r_pick rfl rfl (fun _ => rfl) (fun h => by cases h)) ?_
  refine sR (.bool true) (r_move rfl rfl) ?_
  refine s_skip ?_
  refine s_skip ?_
  refine sR (.bool true) (r_pick rfl rfl (fun _ => rfl) (fun h => by cases h)) ?_
  refine sR (.bool true) (r_move rfl rfl) ?_
  refine s_skip ?_
  refine s_skip ?_
  refine sR (.bool true) (r_pick rfl rfl (fun _ => rfl) (fun h => by cases h)) ?_
  refine sR (.bool true) (r_move rfl rfl) ?_
  refine s_skip ?_
  refine s_skip ?_
  refine sR (.bool true) (r_pick rfl rfl (fun _ => rfl) (fun h => by cases h)) ?_
  refine HL_nil ?_
  refine HC_condT rfl ?_
  refine cR ?_
  refine sR (.bool false) (r_assign rfl rfl) ?_
  refine HL_nil ?_
  exact HC_ret (show endQ prog f7 R .ret _ _ from ⟨_, res1 rfl (rv_tmp rfl), h⟩)
 ·
  replace h := h.2 hc
  refine kN 70 (decide_eq_false hc) ?_
  refine kN 71 (decide_eq_false hc) ?_
  refine sR (.int .i64 v_39_1) (r_move rfl rfl) ?_
  refine sR (.bool (decide (v_39_1 ≠ (0 : Int)))) (w_neq rfl rfl) ?_
  refine sR (.bool (decide (v_39_1 ≠ (0 : Int)))) (r_pick rfl rfl (fun h => by cases h) (fun _ => rfl)) ?_
  refine sR (.bool (decide (v_39_1 ≠ (0 : Int)))) (r_move rfl rfl) ?_
  by_cases hc : v_39_1 ≠ (0 : Int)
  ·
   replace h := h.1 hc
   refine kN 73 (decide_eq_true hc) ?_
   refine kN 74 (decide_eq_true hc) ?_
   refine kN 75 (decide_eq_true hc) ?_
   refine s_skip ?_
   refine s_skip ?_
   refine sR (.bool true) (r_pick rfl rfl (fun _ => rfl) (fun h => by cases h)) ?_
   refine sR (.bool true) (r_move rfl rfl) ?_
   refine s_skip ?_
   refine s_skip ?_
   refine sR (.bool true) (r_pick rfl rfl (fun _ => rfl) (fun h => by cases h)) ?_
   refine sR (.bool true) (r_move rfl rfl) ?_
   refine s_skip ?_
   refine s_skip ?_
   refine sR (.bool true) (r_pick rfl rfl (fun _ => rfl) (fun h => by cases h)) ?_
   refine HL_nil ?_
   refine HC_condT rfl ?_
   refine cR ?_
   refine sR (.bool false) (r_assign rfl rfl) ?_
   refine HL_nil ?_
   exact HC_ret (show endQ prog f7 R .ret _ _ from ⟨_, res1 rfl (rv_tmp rfl), h⟩)
  ·
   replace h := h.2 hc
   refine kN 73 (decide_eq_false hc) ?_
   refine kN 74 (decide_eq_false hc) ?_
   refine kN 75 (decide_eq_false hc) ?_
   refine sR (.int .i64 v_49_1) (r_move rfl rfl) ?_
   refine sR (.bool (decide (v_49_1 ≠ (0 : Int)))) (w_neq rfl rfl) ?_
   refine sR (.bool (decide (v_49_1 ≠ (0 : Int)))) (r_pick rfl rfl (fun h => by cases h) (fun _ => rfl)) ?_
   refine sR (.bool (decide (v_49_1 ≠ (0 : Int)))) (r_move rfl rfl) ?_
   by_cases hc : v_49_1 ≠ (0 : Int)
   ·
    replace h := h.1 hc
    refine kN 77 (decide_eq_true hc) ?_
    refine kN 78 (decide_eq_true hc) ?_
    refine kN 79 (decide_eq_true hc) ?_
    refine s_skip ?_
    refine s_skip ?_
    refine sR (.bool true) (r_pick rfl rfl (fun _ => rfl) (fun h => by cases h)) ?_
    refine sR (.bool true) (r_move rfl rfl) ?_
    refine s_skip ?_
    refine s_skip ?_
    refine sR (.bool true) (r_pick rfl rfl (fun _ => rfl) (fun h => by cases h)) ?_
    refine HL_nil ?_
    refine HC_condT rfl ?_
    refine cR ?_
    refine sR (.bool false) (r_assign rfl rfl) ?_
    refine HL_nil ?_
    exact HC_ret (show endQ prog f7 R .ret _ _ from ⟨_, res1 rfl (rv_tmp rfl), h⟩)
   ·
    replace h := h.2 hc
    refine kN 77 (decide_eq_false hc) ?_
    refine kN 78 (decide_eq_false hc) ?_
    refine kN 79 (decide_eq_false hc) ?_
    refine sR (.int .i64 v_59_1) (r_move rfl rfl) ?_
    refine sR (.bool (decide (v_59_1 ≠ (0 : Int)))) (w_neq rfl rfl) ?_
    refine sR (.bool (decide (v_59_1 ≠ (0 : Int)))) (r_pick rfl rfl (fun h => by cases h) (fun _ => rfl)) ?_
    refine sR (.bool (decide (v_59_1 ≠ (0 : Int)))) (r_move rfl rfl) ?_
    by_cases hc : v_59_1 ≠ (0 : Int)
    ·
     replace h := h.1 hc
     refine kN 81 (decide_eq_true hc) ?_
     refine kN 82 (decide_eq_true hc) ?_
     refine kN 83 (decide_eq_true hc) ?_
     refine s_skip ?_
     refine s_skip ?_
     refine sR (.bool true) (r_pick rfl rfl (fun _ => rfl) (fun h => by cases h)) ?_
     refine HL_nil ?_
     refine HC_condT rfl ?_
     refine cR ?_
     refine sR (.bool false) (r_assign rfl rfl) ?_
     refine HL_nil ?_
     exact HC_ret (show endQ prog f7 R .ret _ _ from ⟨_, res1 rfl (rv_tmp rfl), h⟩)
    ·
     replace h := h.2 hc
     refine kN 81 (decide_eq_false hc) ?_
     refine kN 82 (decide_eq_false hc) ?_
     refine kN 83 (decide_eq_false hc) ?_
     refine sR (.int .i64 v_66_1) (r_move rfl rfl) ?_
     refine sR (.bool (decide (v_66_1 ≠ (0 : Int)))) (w_neq rfl rfl) ?_
     refine sR (.bool (decide (v_66_1 ≠ (0 : Int)))) (r_pick rfl rfl (fun h => by cases h) (fun _ => rfl)) ?_
     refine HL_nil ?_
     refine HC_cond (t := (decide (v_66_1 ≠ (0 : Int)))) rfl (fun hc => ?_) (fun hc => ?_)
     ·
      replace h := h.1 (of_decide_eq_true hc)
      clear hc
      refine cR ?_
      refine sR (.bool false) (r_assign rfl rfl) ?_
      refine HL_nil ?_
      exact HC_ret (show endQ prog f7 R .ret _ _ from ⟨_, res1 rfl (rv_tmp rfl), h⟩)
     ·
      replace h := h.2 (of_decide_eq_false hc)
      clear hc
      refine HC_skip ?_
      refine cR ?_
      refine sR (.bool false) (r_assign rfl rfl) ?_
      refine HL_nil ?_
      refine cR ?_
      refine sR (.string v_31) (r_move rfl rfl) ?_
      refine sR (.bool (v_31.toList == (ByteArray.mk #[]).toList)) (r_eqlS rfl rfl rfl) ?_
      refine sR (.bool (v_31.toList == (ByteArray.mk #[]).toList)) (r_assign rfl rfl) ?_
      refine HL_nil ?_
      refine HC_seqJ (b7J1 v_25 v_27 v_29 v_31 v_49 v_59 v_66 R) ?_ ?_
      ·
       clear h; rintro E F ⟨split_21, more_22, h7, h8, h9, h10, h15, h17, h19, h21, h22, h⟩
       unfold b7j1 at h
       refine HC_seqJ (b7J2 v_25 v_31 v_49 v_59 v_66 split_21 more_22 R) ?_ ?_
       ·
        clear h; rintro E F ⟨either_24, h7, h10, h15, h17, h19, h21, h22, h24, h⟩
        unfold b7j2 at h
        refine cR ?_
        refine sR (Sl.v v_49) (r_move rfl h15) ?_
        refine sR (.string v_31) (r_move rfl h10) ?_
        refine s_ef (k_call (vs := [(Sl.v v_49), (.string v_31)]) cb23 (evC rfl (evC rfl evN)) (h.mono ?_))
        clear h; rintro v F ⟨v_139, rfl, h⟩
        refine sR (.bool split_21) (r_move rfl h21) ?_
        refine sR (.bool (v_139 == split_21)) (r_eqlB rfl rfl rfl underlying4) ?_
        refine sR (.bool (v_139 == split_21)) (r_move rfl rfl) ?_
        by_cases hc : (v_139 == split_21) = true
        ·
         replace h := h.1 hc
         refine kN 141 hc ?_
         refine kN 142 hc ?_
         refine sR (Sl.v v_59) (r_move rfl h17) ?_
         refine sR (.string v_31) (r_move rfl h10) ?_
         refine s_ef (k_call (vs := [(Sl.v v_59), (.string v_31)]) cb23 (evC rfl (evC rfl evN)) (h.mono ?_))
         clear h; rintro v F ⟨v_145, rfl, h⟩
         refine sR (.bool either_24) (r_move rfl h24) ?_
         refine sR (.bool (v_145 == either_24)) (r_eqlB rfl rfl rfl underlying4) ?_
         refine sR (.bool (v_145 == either_24)) (r_pick rfl rfl (fun _ => rfl) (fun h => by cases h)) ?_
         refine sR (.bool (v_145 == either_24)) (r_move rfl rfl) ?_
         by_cases hc : (v_145 == either_24) = true
         ·
          replace h := h.1 hc
          refine kN 147 hc ?_
          refine kN 148 hc ?_
          refine kN 149 hc ?_
          refine sR (Sl.v v_66) (r_move rfl h19) ?_
          refine sR (.string v_31) (r_move rfl h10) ?_
          refine s_ef (k_call (vs := [(Sl.v v_66), (.string v_31)]) cb23 (evC rfl (evC rfl evN)) (h.mono ?_))
          clear h; rintro v F ⟨v_152, rfl, h⟩
          refine sR (.bool more_22) (r_move rfl h22) ?_
          refine sR (.bool (v_152 == more_22)) (r_eqlB rfl rfl rfl underlying4) ?_
          refine sR (.bool (v_152 == more_22)) (r_pick rfl rfl (fun _ => rfl) (fun h => by cases h)) ?_
          refine sR (.bool (v_152 == more_22)) (r_move rfl rfl) ?_
          by_cases hc : (v_152 == more_22) = true
          ·
           replace h := h.1 hc
           refine kN 154 hc ?_
           refine kN 155 hc ?_
           refine kN 156 hc ?_
           refine sR (.bool v_25) (r_move rfl h7) ?_
           refine sR (.bool v_25) (r_pick rfl rfl (fun _ => rfl) (fun h => by cases h)) ?_
           refine sR (.bool v_25) (r_assign rfl rfl) ?_
           refine HL_nil ?_
           exact HC_ret (show endQ prog f7 R .ret _ _ from ⟨_, res1 rfl (rv_tmp rfl), h⟩)
          ·
           replace hc := eq_false_of_ne_true hc; replace h := h.2 hc
           refine kN 154 hc ?_
           refine kN 155 hc ?_
           refine kN 156 hc ?_
           refine s_skip ?_
           refine sR (.bool false) (r_pick rfl rfl (fun h => by cases h) (fun _ => rfl)) ?_
           refine sR (.bool false) (r_assign rfl rfl) ?_
           refine HL_nil ?_
           exact HC_ret (show endQ prog f7 R .ret _ _ from ⟨_, res1 rfl (rv_tmp rfl), h⟩)
         ·
          replace hc := eq_false_of_ne_true hc; replace h := h.2 hc
          refine kN 147 hc ?_
          refine kN 148 hc ?_
          refine kN 149 hc ?_
          refine s_skip ?_
          refine s_skip ?_
          refine s_skip ?_
          refine s_skip ?_
          refine s_skip ?_
          refine sR (.bool false) (r_pick rfl rfl (fun h => by cases h) (fun _ => rfl)) ?_
          refine sR (.bool false) (r_move rfl rfl) ?_
          refine s_skip ?_
          refine sR (.bool false) (r_pick rfl rfl (fun h => by cases h) (fun _ => rfl)) ?_
          refine sR (.bool false) (r_assign rfl rfl) ?_
          refine HL_nil ?_
          exact HC_ret (show endQ prog f7 R .ret _ _ from ⟨_, res1 rfl (rv_tmp rfl), h⟩)
        ·
         replace hc := eq_false_of_ne_true hc; replace h := h.2 hc
         refine kN 141 hc ?_
         refine kN 142 hc ?_
         refine s_skip ?_
         refine s_skip ?_
         refine s_skip ?_
         refine s_skip ?_
         refine s_skip ?_
         refine sR (.bool false) (r_pick rfl rfl (fun h => by cases h) (fun _ => rfl)) ?_
         refine sR (.bool false) (r_move rfl rfl) ?_
         refine s_skip ?_
         refine s_skip ?_
         refine s_skip ?_
         refine s_skip ?_
         refine s_skip ?_
         refine sR (.bool false) (r_pick rfl rfl (fun h => by cases h) (fun _ => rfl)) ?_
         refine sR (.bool false) (r_move rfl rfl) ?_
         refine s_skip ?_
         refine sR (.bool false) (r_pick rfl rfl (fun h => by cases h) (fun _ => rfl)) ?_
         refine sR (.bool false) (r_assign rfl rfl) ?_
         refine HL_nil ?_
         exact HC_ret (show endQ prog f7 R .ret _ _ from ⟨_, res1 rfl (rv_tmp rfl), h⟩)
       ·
        skip
        refine HC_region ?_
        refine sR (Sl.v v_27) (r_move rfl h8) ?_
        refine sR (.string v_31) (r_move rfl h10) ?_
        refine s_ef (k_call (vs := [(Sl.v v_27), (.string v_31)]) cb23 (evC rfl (evC rfl evN)) (h.mono ?_))
        clear h; rintro v F ⟨v_131, rfl, h⟩
        refine sR (.bool v_131) (r_move rfl rfl) ?_
        by_cases hc : v_131 = true
        ·
         replace h := h.1 hc
         refine kN 131 hc ?_
         refine kN 132 hc ?_
         refine s_skip ?_
         refine s_skip ?_
         refine s_skip ?_
         refine sR (.bool true) (r_pick rfl rfl (fun _ => rfl) (fun h => by cases h)) ?_
         refine sR (.bool true) (r_assign rfl rfl) ?_
         refine HL_nil ?_
         show b7J2 v_25 v_31 v_49 v_59 v_66 split_21 more_22 R _ _
         exact ⟨_, h7, h10, h15, h17, h19, h21, h22, rfl, h⟩
        ·
         replace hc := eq_false_of_ne_true hc; replace h := h.2 hc
         refine kN 131 hc ?_
         refine kN 132 hc ?_
         refine sR (Sl.v v_29) (r_move rfl h9) ?_
         refine sR (.string v_31) (r_move rfl h10) ?_
         refine s_ef (k_call (vs := [(Sl.v v_29), (.string v_31)]) cb23 (evC rfl (evC rfl evN)) (h.mono ?_))
         clear h; rintro v F ⟨v_135, rfl, h⟩
         refine sR (.bool v_135) (r_pick rfl rfl (fun h => by cases h) (fun _ => rfl)) ?_
         refine sR (.bool v_135) (r_assign rfl rfl) ?_
         refine HL_nil ?_
         show b7J2 v_25 v_31 v_49 v_59 v_66 split_21 more_22 R _ _
         exact ⟨_, h7, h10, h15, h17, h19, h21, h22, rfl, h⟩
      ·
       skip
       refine cR ?_
       refine sR (.int .i64 (0 : Int)) (r_assign rfl rfl) ?_
       refine HL_nil ?_
       refine HC_block ?_
       obtain ⟨I1, m1, hI0, hr⟩ := h
       refine HC_loop (fun m1 E F => ∃ split_21_1 : Bool, ∃ more_22_1 : Bool, ∃ k_23 : Int, E 7 = (.bool v_25) ∧ E 8 = (Sl.v v_27) ∧ E 9 = (Sl.v v_29) ∧ E 10 = (.string v_31) ∧ E 15 = (Sl.v v_49) ∧ E 17 = (Sl.v v_59) ∧ E 19 = (Sl.v v_66) ∧ E 21 = (.bool split_21_1) ∧ E 22 = (.bool more_22_1) ∧ E 23 = (.int .i64 k_23) ∧ I1 m1 split_21_1 more_22_1 k_23 F) m1 ⟨_, _, _, rfl, rfl, rfl, rfl, rfl, rfl, rfl, rfl, rfl, rfl, hI0⟩ ?_
       clear hI0; rintro m1 E F ⟨split_21_1, more_22_1, k_23, h7, h8, h9, h10, h15, h17, h19, h21, h22, h23, hI⟩
       have h := hr m1 split_21_1 more_22_1 k_23 F hI
       clear hr hI
       unfold b7L1 at h
       refine HC_seq ?_
       refine cR ?_
       refine sR (.int .i64 k_23) (r_move rfl h23) ?_
       refine sR (.string v_31) (r_move rfl h10) ?_
       refine sR (.int .i64 (v_31.size : Int)) (r_lenStr rfl rfl underlying9) ?_
       refine sR (.bool (decide (k_23 ≤ (v_31.size : Int)))) (r_leq rfl rfl rfl) ?_
       refine HL_nil ?_
       refine HC_cond (t := (decide (k_23 ≤ (v_31.size : Int)))) rfl (fun hc => ?_) (fun hc => ?_)
       ·
        replace h := h.1 (of_decide_eq_true hc)
        clear hc
        refine HC_skip ?_
        refine HC_seqJ (b7J3 (fun y1_0 y1_1 y1_2 F => ∃ m', m' < m1 ∧ I1 m' y1_0 y1_1 y1_2 F) v_25 v_27 v_29 v_31 v_49 v_59 v_66 k_23 R) ?_ ?_
        ·
         clear h; rintro E F ⟨split_21_2, more_22_2, h7, h8, h9, h10, h15, h17, h19, h21, h22, h23, h⟩
         unfold b7j3 at h
         refine HC_region ?_
         refine sR (.int .i64 k_23) (r_move rfl h23) ?_
         refine sR (.int .i64 (IntKind.i64.wrap (k_23 + (1 : Int)))) (r_add rfl rfl rfl) ?_
         refine sR (.int .i64 (IntKind.i64.wrap (k_23 + (1 : Int)))) (r_assign rfl rfl) ?_
         refine HL_nil ?_
         obtain ⟨m', hm, h⟩ := h
         exact ⟨m', hm, _, _, _, h7, h8, h9, h10, h15, h17, h19, h21, h22, rfl, h⟩
        ·
         skip
         refine HC_block ?_
         refine HC_seqJ (b7J4 (fun y1_0 y1_1 y1_2 F => ∃ m', m' < m1 ∧ I1 m' y1_0 y1_1 y1_2 F) v_25 v_27 v_29 v_31 v_49 v_59 v_66 more_22_1 k_23 R) ?_ ?_
         ·
          clear h; rintro E F ⟨split_21_3, h7, h8, h9, h10, h15, h17, h19, h21, h22, h23, h⟩
          unfold b7j4 at h
          refine HC_region ?_
          refine sR (.bool more_22_1) (r_move rfl h22) ?_
          refine sR (.bool more_22_1) (r_move rfl rfl) ?_
          by_cases hc : more_22_1 = true
          ·
           replace h := h.1 hc
           refine HL_known (t := 22) (v := .bool true) (h22.trans (congrArg Value.bool hc)) ?_
           refine kN 110 hc ?_
           refine kN 111 hc ?_
           refine s_skip ?_
           refine s_skip ?_
           refine s_skip ?_
           refine s_skip ?_
           refine s_skip ?_
           refine s_skip ?_
           refine s_skip ?_
           refine s_skip ?_
           refine s_skip ?_
           refine s_skip ?_
           refine s_skip ?_
           refine s_skip ?_
           refine s_skip ?_
           refine s_skip ?_
           refine s_skip ?_
           refine s_skip ?_
           refine sR (.bool true) (r_pick rfl rfl (fun _ => rfl) (fun h => by cases h)) ?_
           refine sR (.bool true) (r_assign rfl rfl) ?_
           refine HL_nil ?_
           show b7J3 (fun y1_0 y1_1 y1_2 F => ∃ m', m' < m1 ∧ I1 m' y1_0 y1_1 y1_2 F) v_25 v_27 v_29 v_31 v_49 v_59 v_66 k_23 R _ _
           exact ⟨_, _, h7, h8, h9, h10, h15, h17, h19, h21, rfl, h23, h⟩
          ·
           replace hc := eq_false_of_ne_true hc; replace h := h.2 hc
           refine HL_known (t := 22) (v := .bool false) (h22.trans (congrArg Value.bool hc)) ?_
           refine kN 110 hc ?_
           refine kN 111 hc ?_
           refine sR (.int .i64 k_23) (r_move rfl h23) ?_
           refine sR (.bool (decide ((0 : Int) < k_23))) (r_gtr rfl rfl rfl) ?_
           refine sR (.bool (decide ((0 : Int) < k_23))) (r_move rfl rfl) ?_
           by_cases hc : (0 : Int) < k_23
           ·
            replace h := h.1 hc
            refine kN 113 (decide_eq_true hc) ?_
            refine kN 114 (decide_eq_true hc) ?_
            refine sR (Sl.v v_27) (r_move rfl h8) ?_
            refine sR (.string v_31) (r_move rfl h10) ?_
            refine sR (.int .i64 k_23) (r_move rfl h23) ?_
            obtain ⟨hq118_0, hr118_0, hr118_1, h⟩ := h
            refine sR (.string (v_31.extract 0 (Int.toNat k_23))) (r_sliceStr rfl rfl underlying9 bo_none (bo_ev rfl hq118_0) hr118_0 hr118_1) ?_
            refine s_ef (k_call (vs := [(Sl.v v_27), (.string (v_31.extract 0 (Int.toNat k_23)))]) cb23 (evC rfl (evC rfl evN)) (h.mono ?_))
            clear h; rintro v F ⟨v_119, rfl, h⟩
            refine sR (.bool v_119) (r_pick rfl rfl (fun _ => rfl) (fun h => by cases h)) ?_
            refine sR (.bool v_119) (r_move rfl rfl) ?_
            by_cases hc : v_119 = true
            ·
             replace h := h.1 hc
             refine kN 119 hc ?_
             refine kN 120 hc ?_
             refine kN 121 hc ?_
             refine sR (Sl.v v_66) (r_move rfl h19) ?_
             refine sR (.string v_31) (r_move rfl h10) ?_
             refine sR (.int .i64 k_23) (r_move rfl h23) ?_
             obtain ⟨hq125_0, hr125_0, hr125_1, h⟩ := h
             refine sR (.string (v_31.extract (Int.toNat k_23) v_31.size)) (r_sliceStr rfl rfl underlying9 (bo_ev rfl hq125_0) bo_none hr125_0 hr125_1) ?_
             refine s_ef (k_call (vs := [(Sl.v v_66), (.string (v_31.extract (Int.toNat k_23) v_31.size))]) cb23 (evC rfl (evC rfl evN)) (h.mono ?_))
             clear h; rintro v F ⟨v_126, rfl, h⟩
             refine sR (.bool v_126) (r_pick rfl rfl (fun _ => rfl) (fun h => by cases h)) ?_
             refine sR (.bool v_126) (r_pick rfl rfl (fun h => by cases h) (fun _ => rfl)) ?_
             refine sR (.bool v_126) (r_assign rfl rfl) ?_
             refine HL_nil ?_
             show b7J3 (fun y1_0 y1_1 y1_2 F => ∃ m', m' < m1 ∧ I1 m' y1_0 y1_1 y1_2 F) v_25 v_27 v_29 v_31 v_49 v_59 v_66 k_23 R _ _
             exact ⟨_, _, h7, h8, h9, h10, h15, h17, h19, h21, rfl, h23, h⟩
            ·
             replace hc := eq_false_of_ne_true hc; replace h := h.2 hc
             refine kN 119 hc ?_
             refine kN 120 hc ?_
             refine kN 121 hc ?_
             refine s_skip ?_
             refine s_skip ?_
             refine s_skip ?_
             refine s_skip ?_
             refine s_skip ?_
             refine sR (.bool false) (r_pick rfl rfl (fun h => by cases h) (fun _ => rfl)) ?_
             refine sR (.bool false) (r_pick rfl rfl (fun h => by cases h) (fun _ => rfl)) ?_
             refine sR (.bool false) (r_assign rfl rfl) ?_
             refine HL_nil ?_
             show b7J3 (fun y1_0 y1_1 y1_2 F => ∃ m', m' < m1 ∧ I1 m' y1_0 y1_1 y1_2 F) v_25 v_27 v_29 v_31 v_49 v_59 v_66 k_23 R _ _
             exact ⟨_, _, h7, h8, h9, h10, h15, h17, h19, h21, rfl, h23, h⟩
           ·
            replace h := h.2 hc
            refine kN 113 (decide_eq_false hc) ?_
            refine kN 114 (decide_eq_false hc) ?_
            refine s_skip ?_
            refine s_skip ?_
            refine s_skip ?_
            refine s_skip ?_
            refine s_skip ?_
            refine sR (.bool false) (r_pick rfl rfl (fun h => by cases h) (fun _ => rfl)) ?_
            refine sR (.bool false) (r_move rfl rfl) ?_
            refine s_skip ?_
            refine s_skip ?_
            refine s_skip ?_
            refine s_skip ?_
            refine s_skip ?_
            refine sR (.bool false) (r_pick rfl rfl (fun h => by cases h) (fun _ => rfl)) ?_
            refine sR (.bool false) (r_pick rfl rfl (fun h => by cases h) (fun _ => rfl)) ?_
            refine sR (.bool false) (r_assign rfl rfl) ?_
            refine HL_nil ?_
            show b7J3 (fun y1_0 y1_1 y1_2 F => ∃ m', m' < m1 ∧ I1 m' y1_0 y1_1 y1_2 F) v_25 v_27 v_29 v_31 v_49 v_59 v_66 k_23 R _ _
            exact ⟨_, _, h7, h8, h9, h10, h15, h17, h19, h21, rfl, h23, h⟩
         ·
          skip
          refine HC_region ?_
          refine sR (.bool split_21_1) (r_move rfl h21) ?_
          refine sR (.bool split_21_1) (r_move rfl rfl) ?_
          by_cases hc : split_21_1 = true
          ·
           replace h := h.1 hc
           refine HL_known (t := 21) (v := .bool true) (h21.trans (congrArg Value.bool hc)) ?_
           refine kN 95 hc ?_
           refine kN 96 hc ?_
           refine s_skip ?_
           refine s_skip ?_
           refine s_skip ?_
           refine s_skip ?_
           refine s_skip ?_
           refine s_skip ?_
           refine s_skip ?_
           refine s_skip ?_
           refine s_skip ?_
           refine s_skip ?_
           refine s_skip ?_
           refine s_skip ?_
           refine sR (.bool true) (r_pick rfl rfl (fun _ => rfl) (fun h => by cases h)) ?_
           refine sR (.bool true) (r_assign rfl rfl) ?_
           refine HL_nil ?_
           show b7J4 (fun y1_0 y1_1 y1_2 F => ∃ m', m' < m1 ∧ I1 m' y1_0 y1_1 y1_2 F) v_25 v_27 v_29 v_31 v_49 v_59 v_66 more_22_1 k_23 R _ _
           exact ⟨_, h7, h8, h9, h10, h15, h17, h19, rfl, h22, h23, h⟩
          ·
           replace hc := eq_false_of_ne_true hc; replace h := h.2 hc
           refine HL_known (t := 21) (v := .bool false) (h21.trans (congrArg Value.bool hc)) ?_
           refine kN 95 hc ?_
           refine kN 96 hc ?_
           refine sR (Sl.v v_27) (r_move rfl h8) ?_
           refine sR (.string v_31) (r_move rfl h10) ?_
           refine sR (.int .i64 k_23) (r_move rfl h23) ?_
           obtain ⟨hq100_0, hr100_0, hr100_1, h⟩ := h
           refine sR (.string (v_31.extract 0 (Int.toNat k_23))) (r_sliceStr rfl rfl underlying9 bo_none (bo_ev rfl hq100_0) hr100_0 hr100_1) ?_
           refine s_ef (k_call (vs := [(Sl.v v_27), (.string (v_31.extract 0 (Int.toNat k_23)))]) cb23 (evC rfl (evC rfl evN)) (h.mono ?_))
           clear h; rintro v F ⟨v_101, rfl, h⟩
           refine sR (.bool v_101) (r_move rfl rfl) ?_
           by_cases hc : v_101 = true
           ·
            replace h := h.1 hc
            refine kN 101 hc ?_
            refine kN 102 hc ?_
            refine sR (Sl.v v_29) (r_move rfl h9) ?_
            refine sR (.string v_31) (r_move rfl h10) ?_
            refine sR (.int .i64 k_23) (r_move rfl h23) ?_
            obtain ⟨hq106_0, hr106_0, hr106_1, h⟩ := h
            refine sR (.string (v_31.extract (Int.toNat k_23) v_31.size)) (r_sliceStr rfl rfl underlying9 (bo_ev rfl hq106_0) bo_none hr106_0 hr106_1) ?_
            refine s_ef (k_call (vs := [(Sl.v v_29), (.string (v_31.extract (Int.toNat k_23) v_31.size))]) cb23 (evC rfl (evC rfl evN)) (h.mono ?_))
            clear h; rintro v F ⟨v_107, rfl, h⟩
            refine sR (.bool v_107) (r_pick rfl rfl (fun _ => rfl) (fun h => by cases h)) ?_
            refine sR (.bool v_107) (r_pick rfl rfl (fun h => by cases h) (fun _ => rfl)) ?_
            refine sR (.bool v_107) (r_assign rfl rfl) ?_
            refine HL_nil ?_
            show b7J4 (fun y1_0 y1_1 y1_2 F => ∃ m', m' < m1 ∧ I1 m' y1_0 y1_1 y1_2 F) v_25 v_27 v_29 v_31 v_49 v_59 v_66 more_22_1 k_23 R _ _
            exact ⟨_, h7, h8, h9, h10, h15, h17, h19, rfl, h22, h23, h⟩
           ·
            replace hc := eq_false_of_ne_true hc; replace h := h.2 hc
            refine kN 101 hc ?_
            refine kN 102 hc ?_
            refine s_skip ?_
            refine s_skip ?_
            refine s_skip ?_
            refine s_skip ?_
            refine s_skip ?_
            refine sR (.bool false) (r_pick rfl rfl (fun h => by cases h) (fun _ => rfl)) ?_
            refine sR (.bool false) (r_pick rfl rfl (fun h => by cases h) (fun _ => rfl)) ?_
            refine sR (.bool false) (r_assign rfl rfl) ?_
            refine HL_nil ?_
            show b7J4 (fun y1_0 y1_1 y1_2 F => ∃ m', m' < m1 ∧ I1 m' y1_0 y1_1 y1_2 F) v_25 v_27 v_29 v_31 v_49 v_59 v_66 more_22_1 k_23 R _ _
            exact ⟨_, h7, h8, h9, h10, h15, h17, h19, rfl, h22, h23, h⟩
       ·
        replace h := h.2 (of_decide_eq_false hc)
        clear hc
        refine HC_exit ?_
        show b7J1 v_25 v_27 v_29 v_31 v_49 v_59 v_66 R _ _
        exact ⟨_, _, h7, h8, h9, h10, h15, h17, h19, h21, h22, h⟩

end Go.Proofs.YtnjcgpihfmklfaaDoor
