/-
  What functions of the program do, in a clean form, each with the proof that its code does so. Printed by a program.
-/
import Derived.Test.YtnjcgpihfmklfaaDoorGf
import Derived.Test.YtnjcgpihfmklfaaDoorPho
namespace Go.Proofs.YtnjcgpihfmklfaaDoor
open Go Go.Proofs.Tryd
set_option maxRecDepth 10000
set_option maxHeartbeats 4000000
/- 11 koine.koinelaw04.PatternStrings -/
def b11j2 (v_17 : Bool) (v_19 : Sl) (v_22 : Sl) (R : VP) (F : PH) :=
 Spec prog 19 #[(Sl.v v_19)] F fun v F => ∃ v_113 : ByteArray, ∃ v_113_1 : Int, v = (.tuple #[(.string v_113), (.int .i64 v_113_1)]) ∧
 Spec prog 19 #[(Sl.v v_22)] F fun v F => ∃ v_118 : ByteArray, ∃ v_118_1 : Int, v = (.tuple #[(.string v_118), (.int .i64 v_118_1)]) ∧
 Spec prog 25 #[(.string v_113)] F fun v F => ∃ v_123 : Sl, ∃ v_123_1 : Int, v = (.tuple #[(Sl.v v_123), (.int .i64 v_123_1)]) ∧
 ((v_113_1 = 0 →
  ((v_118_1 = 0 →
   ((v_123_1 = 0 →
    (((v_113.toList == v_118.toList) = true →
     Spec prog 27 #[(Sl.v v_123), (Sl.v v_19)] F fun v F => ∃ v_144 : Bool, v = (.bool v_144) ∧
     ((v_144 = true →
      R (.bool v_17) F) ∧
     (v_144 = false →
      R (.bool false) F))) ∧
    ((v_113.toList == v_118.toList) = false →
     R (.bool false) F))) ∧
   (¬ (v_123_1 = 0) →
    R (.bool false) F))) ∧
  (¬ (v_118_1 = 0) →
   R (.bool false) F))) ∧
 (¬ (v_113_1 = 0) →
  R (.bool false) F))
abbrev b11J2 (v_17 : Bool) (v_19 : Sl) (v_22 : Sl) (R : VP) (E : En) (F : PH) : Prop := E 5 = (.bool v_17) ∧ E 6 = (Sl.v v_19) ∧ E 7 = (Sl.v v_22) ∧ b11j2 v_17 v_19 v_22 R F
def b11j3 (N1 : Int → PH → Prop) (v_17 : Bool) (v_19 : Sl) (v_22 : Sl) (swap_1 : Int) (k_10 : Int) (R : VP) (F : PH) :=
 N1 (IntKind.i64.wrap (k_10 + 1)) F
abbrev b11J3 (N1 : Int → PH → Prop) (v_17 : Bool) (v_19 : Sl) (v_22 : Sl) (swap_1 : Int) (k_10 : Int) (R : VP) (E : En) (F : PH) : Prop := E 5 = (.bool v_17) ∧ E 6 = (Sl.v v_19) ∧ E 7 = (Sl.v v_22) ∧ E 8 = (.int .i64 (Int.tmod (IntKind.i64.wrap swap_1) (v_19.len : Int))) ∧ E 10 = (.int .i64 k_10) ∧ b11j3 N1 v_17 v_19 v_22 swap_1 k_10 R F
def b11j5 (N1 : Int → PH → Prop) (v_17 : Bool) (v_19 : Sl) (v_22 : Sl) (swap_1 : Int) (k_10 : Int) (v_99 : Bool) (R : VP) (F : PH) :=
 ((v_99 = true →
  ∃ a104_ : Addr, v_22.base = some a104_ ∧ 0 ≤ k_10 ∧ k_10 < (v_22.len : Int) ∧
  ∃ v_106 : Int, F.cell (Addr.add (Addr.add a104_ (Int.toNat k_10 * 5)) 4) = some (.int .i64 v_106) ∧
  Spec prog 35 #[(.int .i64 v_106), (.int .i64 (Int.tmod (IntKind.i64.wrap swap_1) (v_19.len : Int)))] F fun v F => ∃ v_108 : Int, v = (.int .i64 v_108) ∧
  ∃ a109_ : Addr, v_22.base = some a109_ ∧ 0 ≤ k_10 ∧ k_10 < (v_22.len : Int) ∧
  ∃ c e, F (Addr.add (Addr.add a109_ (Int.toNat k_10 * 5)) 4).block = some (.cells c e (0, 0)) ∧ (Addr.add (Addr.add a109_ (Int.toNat k_10 * 5)) 4).spot = none ∧ (Addr.add (Addr.add a109_ (Int.toNat k_10 * 5)) 4).off < c.size ∧
  atF (F.set (Addr.add (Addr.add a109_ (Int.toNat k_10 * 5)) 4).block (.cells (c.setIfInBounds (Addr.add (Addr.add a109_ (Int.toNat k_10 * 5)) 4).off (.int .i64 v_108)) e)) fun F =>
  b11j3 N1 v_17 v_19 v_22 swap_1 k_10 R F) ∧
 (v_99 = false →
  b11j3 N1 v_17 v_19 v_22 swap_1 k_10 R F))
abbrev b11J5 (N1 : Int → PH → Prop) (v_17 : Bool) (v_19 : Sl) (v_22 : Sl) (swap_1 : Int) (k_10 : Int) (R : VP) (E : En) (F : PH) : Prop := ∃ v_99 : Bool, E 5 = (.bool v_17) ∧ E 6 = (Sl.v v_19) ∧ E 7 = (Sl.v v_22) ∧ E 8 = (.int .i64 (Int.tmod (IntKind.i64.wrap swap_1) (v_19.len : Int))) ∧ E 10 = (.int .i64 k_10) ∧ E 99 = (.bool v_99) ∧ b11j5 N1 v_17 v_19 v_22 swap_1 k_10 v_99 R F
def b11j4 (N1 : Int → PH → Prop) (v_17 : Bool) (v_19 : Sl) (v_22 : Sl) (swap_1 : Int) (k_10 : Int) (R : VP) (F : PH) :=
 ∃ a88_ : Addr, v_22.base = some a88_ ∧ 0 ≤ k_10 ∧ k_10 < (v_22.len : Int) ∧
 ∃ v_90 : Int, F.cell (Addr.add a88_ (Int.toNat k_10 * 5)) = some (.int .i64 v_90) ∧
 ((v_90 = 2 →
  b11j5 N1 v_17 v_19 v_22 swap_1 k_10 true R F) ∧
 (¬ (v_90 = 2) →
  ∃ a95_ : Addr, v_22.base = some a95_ ∧ 0 ≤ k_10 ∧ k_10 < (v_22.len : Int) ∧
  ∃ v_97 : Int, F.cell (Addr.add a95_ (Int.toNat k_10 * 5)) = some (.int .i64 v_97) ∧
  b11j5 N1 v_17 v_19 v_22 swap_1 k_10 (decide (v_97 = 3)) R F))
abbrev b11J4 (N1 : Int → PH → Prop) (v_17 : Bool) (v_19 : Sl) (v_22 : Sl) (swap_1 : Int) (k_10 : Int) (R : VP) (E : En) (F : PH) : Prop := E 5 = (.bool v_17) ∧ E 6 = (Sl.v v_19) ∧ E 7 = (Sl.v v_22) ∧ E 8 = (.int .i64 (Int.tmod (IntKind.i64.wrap swap_1) (v_19.len : Int))) ∧ E 10 = (.int .i64 k_10) ∧ b11j4 N1 v_17 v_19 v_22 swap_1 k_10 R F
def b11L1 (N1 : Int → PH → Prop) (v_17 : Bool) (v_19 : Sl) (v_22 : Sl) (swap_1 : Int) (R : VP) (k_10 : Int) (F : PH) :=
 ((k_10 < (v_22.len : Int) →
  ∃ a71_ : Addr, v_22.base = some a71_ ∧ 0 ≤ k_10 ∧ k_10 < (v_22.len : Int) ∧
  ∃ v_73 : Int, F.cell (Addr.add a71_ (Int.toNat k_10 * 5)) = some (.int .i64 v_73) ∧
  ((2 ≤ v_73 →
   ∃ a79_ : Addr, v_22.base = some a79_ ∧ 0 ≤ k_10 ∧ k_10 < (v_22.len : Int) ∧
   ∃ v_81 : Int, F.cell (Addr.add (Addr.add a79_ (Int.toNat k_10 * 5)) 3) = some (.int .i64 v_81) ∧
   Spec prog 35 #[(.int .i64 v_81), (.int .i64 (Int.tmod (IntKind.i64.wrap swap_1) (v_19.len : Int)))] F fun v F => ∃ v_83 : Int, v = (.int .i64 v_83) ∧
   ∃ a84_ : Addr, v_22.base = some a84_ ∧ 0 ≤ k_10 ∧ k_10 < (v_22.len : Int) ∧
   ∃ c e, F (Addr.add (Addr.add a84_ (Int.toNat k_10 * 5)) 3).block = some (.cells c e (0, 0)) ∧ (Addr.add (Addr.add a84_ (Int.toNat k_10 * 5)) 3).spot = none ∧ (Addr.add (Addr.add a84_ (Int.toNat k_10 * 5)) 3).off < c.size ∧
   atF (F.set (Addr.add (Addr.add a84_ (Int.toNat k_10 * 5)) 3).block (.cells (c.setIfInBounds (Addr.add (Addr.add a84_ (Int.toNat k_10 * 5)) 3).off (.int .i64 v_83)) e)) fun F =>
   b11j4 N1 v_17 v_19 v_22 swap_1 k_10 R F) ∧
  (¬ (2 ≤ v_73) →
   b11j4 N1 v_17 v_19 v_22 swap_1 k_10 R F))) ∧
 (¬ (k_10 < (v_22.len : Int)) →
  b11j2 v_17 v_19 v_22 R F))
def b11j1 (v_17 : Bool) (v_19 : Sl) (v_22 : Sl) (swap_1 : Int) (free_9 : Bool) (R : VP) (F : PH) :=
 ((free_9 = true →
  ∃ a50_ : Addr, v_19.base = some a50_ ∧ 0 ≤ (IntKind.i64.wrap ((Int.tmod (IntKind.i64.wrap swap_1) (v_19.len : Int)) + 1)) ∧ (IntKind.i64.wrap ((Int.tmod (IntKind.i64.wrap swap_1) (v_19.len : Int)) + 1)) < (v_19.len : Int) ∧
  ∃ v_51 : Array Value, v_51.size = 5 ∧ F.row (Addr.add a50_ (Int.toNat (IntKind.i64.wrap ((Int.tmod (IntKind.i64.wrap swap_1) (v_19.len : Int)) + 1)) * 5)) v_51 ∧
  ∃ a52_ : Addr, v_22.base = some a52_ ∧ 0 ≤ (Int.tmod (IntKind.i64.wrap swap_1) (v_19.len : Int)) ∧ (Int.tmod (IntKind.i64.wrap swap_1) (v_19.len : Int)) < (v_22.len : Int) ∧
  v_51.size = 5 ∧ (∀ v ∈ v_51.toList, storable v) ∧ ∃ c e, F (Addr.add a52_ (Int.toNat (Int.tmod (IntKind.i64.wrap swap_1) (v_19.len : Int)) * 5)).block = some (.cells c e (0, 0)) ∧ (Addr.add a52_ (Int.toNat (Int.tmod (IntKind.i64.wrap swap_1) (v_19.len : Int)) * 5)).spot = none ∧ (Addr.add a52_ (Int.toNat (Int.tmod (IntKind.i64.wrap swap_1) (v_19.len : Int)) * 5)).off + 5 ≤ c.size ∧
  atF (F.set (Addr.add a52_ (Int.toNat (Int.tmod (IntKind.i64.wrap swap_1) (v_19.len : Int)) * 5)).block (.cells (wr c (Addr.add a52_ (Int.toNat (Int.tmod (IntKind.i64.wrap swap_1) (v_19.len : Int)) * 5)).off v_51.toList) e)) fun F =>
  ∃ a58_ : Addr, v_19.base = some a58_ ∧ 0 ≤ (Int.tmod (IntKind.i64.wrap swap_1) (v_19.len : Int)) ∧ (Int.tmod (IntKind.i64.wrap swap_1) (v_19.len : Int)) < (v_19.len : Int) ∧
  ∃ v_59 : Array Value, v_59.size = 5 ∧ F.row (Addr.add a58_ (Int.toNat (Int.tmod (IntKind.i64.wrap swap_1) (v_19.len : Int)) * 5)) v_59 ∧
  ∃ a60_ : Addr, v_22.base = some a60_ ∧ 0 ≤ (IntKind.i64.wrap ((Int.tmod (IntKind.i64.wrap swap_1) (v_19.len : Int)) + 1)) ∧ (IntKind.i64.wrap ((Int.tmod (IntKind.i64.wrap swap_1) (v_19.len : Int)) + 1)) < (v_22.len : Int) ∧
  v_59.size = 5 ∧ (∀ v ∈ v_59.toList, storable v) ∧ ∃ c e, F (Addr.add a60_ (Int.toNat (IntKind.i64.wrap ((Int.tmod (IntKind.i64.wrap swap_1) (v_19.len : Int)) + 1)) * 5)).block = some (.cells c e (0, 0)) ∧ (Addr.add a60_ (Int.toNat (IntKind.i64.wrap ((Int.tmod (IntKind.i64.wrap swap_1) (v_19.len : Int)) + 1)) * 5)).spot = none ∧ (Addr.add a60_ (Int.toNat (IntKind.i64.wrap ((Int.tmod (IntKind.i64.wrap swap_1) (v_19.len : Int)) + 1)) * 5)).off + 5 ≤ c.size ∧
  atF (F.set (Addr.add a60_ (Int.toNat (IntKind.i64.wrap ((Int.tmod (IntKind.i64.wrap swap_1) (v_19.len : Int)) + 1)) * 5)).block (.cells (wr c (Addr.add a60_ (Int.toNat (IntKind.i64.wrap ((Int.tmod (IntKind.i64.wrap swap_1) (v_19.len : Int)) + 1)) * 5)).off v_59.toList) e)) fun F =>
  (∃ (I1 : Nat → Int → PH → Prop) (m1 : Nat), I1 m1 (IntKind.i64.wrap ((Int.tmod (IntKind.i64.wrap swap_1) (v_19.len : Int)) + 2)) F ∧ ∀ m1 k_10 F, I1 m1 k_10 F →
   b11L1 (nx1 I1 m1) v_17 v_19 v_22 swap_1 R k_10 F)) ∧
 (free_9 = false →
  b11j2 v_17 v_19 v_22 R F))
abbrev b11J1 (v_17 : Bool) (v_19 : Sl) (v_22 : Sl) (swap_1 : Int) (R : VP) (E : En) (F : PH) : Prop := ∃ free_9 : Bool, E 5 = (.bool v_17) ∧ E 6 = (Sl.v v_19) ∧ E 7 = (Sl.v v_22) ∧ E 8 = (.int .i64 (Int.tmod (IntKind.i64.wrap swap_1) (v_19.len : Int))) ∧ E 9 = (.bool free_9) ∧ b11j1 v_17 v_19 v_22 swap_1 free_9 R F
def b11 (l_0 : Sl) (swap_1 : Int) (R : VP) (F : PH) :=
 Spec prog 15 #[] F fun v F => ∃ v_17 : Bool, v = (.bool v_17) ∧
 Spec prog 16 #[(Sl.v l_0), (.int .i64 40)] F fun v F => ∃ v_19 : Sl, v = (Sl.v v_19) ∧
 ∀ b20, F b20 = none → atF (F.set b20 (.cells #[] 50)) fun F =>
 runs prog (Builtin.append_ #[25, 25] 25 #[(Sl.v (Sl.mk (some (Addr.mk b20 0 none)) 0 0)), (Sl.v v_19)]) F fun v F => ∃ v_22 : Sl, v = (Sl.v v_22) ∧
 (v_19.len : Int) ≠ 0 ∧ (((IntKind.i64.wrap ((Int.tmod (IntKind.i64.wrap swap_1) (v_19.len : Int)) + 1)) < (IntKind.i64.wrap ((v_19.len : Int) - 1)) →
  ∃ a38_ : Addr, v_19.base = some a38_ ∧ 0 ≤ (IntKind.i64.wrap ((Int.tmod (IntKind.i64.wrap swap_1) (v_19.len : Int)) + 1)) ∧ (IntKind.i64.wrap ((Int.tmod (IntKind.i64.wrap swap_1) (v_19.len : Int)) + 1)) < (v_19.len : Int) ∧
  ∃ v_39 : Array Value, v_39.size = 5 ∧ F.row (Addr.add a38_ (Int.toNat (IntKind.i64.wrap ((Int.tmod (IntKind.i64.wrap swap_1) (v_19.len : Int)) + 1)) * 5)) v_39 ∧
  Spec prog 34 #[(.agg v_39), (.int .i64 (Int.tmod (IntKind.i64.wrap swap_1) (v_19.len : Int)))] F fun v F => ∃ v_41 : Bool, v = (.bool v_41) ∧
  b11j1 v_17 v_19 v_22 swap_1 (!v_41) R F) ∧
 (¬ ((IntKind.i64.wrap ((Int.tmod (IntKind.i64.wrap swap_1) (v_19.len : Int)) + 1)) < (IntKind.i64.wrap ((v_19.len : Int) - 1))) →
  b11j1 v_17 v_19 v_22 swap_1 false R F))
theorem c11 {l_0 : Sl} {swap_1 : Int} {R : VP} {F : PH} (h : b11 l_0 swap_1 R F) : Spec prog 11 #[(Sl.v l_0), (.int .u8 swap_1)] F R := by
 refine spec_of (args := [(Sl.v l_0), (.int .u8 swap_1)]) func11 rfl ntmps11 rfl ?_
 unfold b11 at h
 refine cR (sR (.bool false) (r_assign rfl rfl) ?_)
 refine HL_nil ?_
 refine cR ?_
 refine s_ef (k_call (vs := []) cb15 evN (h.mono ?_))
 clear h; rintro v F ⟨v_17, rfl, h⟩
 refine sR (.bool v_17) (r_assign rfl rfl) ?_
 refine HL_nil ?_
 refine cR (sR (Sl.v l_0) (r_move rfl rfl) ?_)
 refine s_ef (k_call (vs := [(Sl.v l_0), (.int .i64 40)]) cb16 (evC rfl (evC rfl evN)) (h.mono ?_))
 clear h; rintro v F ⟨v_19, rfl, h⟩
 refine sR (Sl.v v_19) (r_assign rfl rfl) ?_
 refine HL_nil ?_
 refine cR ?_
 refine s_ef (k_buildSlice (cells := #[]) underlying25 sz50 (by decide) zr50 ((zc_flat _ rfl _).trans (rfl : _ = (#[] : Array Value))) evPN (fillN rfl) rfl ?_)
 intro b20 hf_b20
 replace h := atE (h b20 hf_b20)
 refine sR (Sl.v v_19) (r_move rfl rfl) ?_
 refine s_ef (k_append rfl rfl (runs_mono _ _ h ?_))
 clear h; rintro v F ⟨v_22, rfl, h⟩
 refine sR (Sl.v v_22) (r_assign rfl rfl) ?_
 refine HL_nil ?_
 refine cR (sR (.int .u8 swap_1) (r_move rfl rfl) ?_)
 refine sR (.int .i64 (IntKind.i64.wrap swap_1)) (r_convInt rfl rfl underlying5 underlying3) ?_
 refine sR (Sl.v v_19) (r_move rfl rfl) ?_
 refine sR (.int .i64 (v_19.len : Int)) (r_lenSl rfl rfl underlying25) ?_
 obtain ⟨hd27, h⟩ := h
 refine sR (.int .i64 (Int.tmod (IntKind.i64.wrap swap_1) (v_19.len : Int))) (r_rem rfl rfl rfl hd27) ?_
 refine sR (.int .i64 (Int.tmod (IntKind.i64.wrap swap_1) (v_19.len : Int))) (r_assign rfl rfl) ?_
 refine HL_nil ?_
 refine HC_seqJ (b11J1 v_17 v_19 v_22 swap_1 R) ?_ ?_
 clear h; rintro E F ⟨free_9, h5, h6, h7, h8, h9, h⟩
 unfold b11j1 at h
 refine HC_seqJ (b11J2 v_17 v_19 v_22 R) ?_ ?_
 clear h; rintro E F ⟨h5, h6, h7, h⟩
 unfold b11j2 at h
 refine cR (sR _ (r_move rfl h6) ?_)
 refine s_ef (k_call (vs := [(Sl.v v_19)]) cb19 (evC rfl evN) (h.mono ?_))
 clear h; rintro v F ⟨v_113, v_113_1, rfl, h⟩
 refine sR (.tuple #[(.string v_113), (.int .i64 v_113_1)]) (r_move rfl rfl) ?_
 refine sR (.string v_113) (r_extract rfl rfl rfl) ?_
 refine sR (.int .i64 v_113_1) (r_extract rfl rfl rfl) ?_
 refine sR (.string v_113) (r_assign rfl rfl) ?_
 refine sR (.int .i64 v_113_1) (r_assign rfl rfl) ?_
 refine HL_nil ?_
 refine cR (sR _ (r_move rfl h7) ?_)
 refine s_ef (k_call (vs := [(Sl.v v_22)]) cb19 (evC rfl evN) (h.mono ?_))
 clear h; rintro v F ⟨v_118, v_118_1, rfl, h⟩
 refine sR (.tuple #[(.string v_118), (.int .i64 v_118_1)]) (r_move rfl rfl) ?_
 refine sR (.string v_118) (r_extract rfl rfl rfl) ?_
 refine sR (.int .i64 v_118_1) (r_extract rfl rfl rfl) ?_
 refine sR (.string v_118) (r_assign rfl rfl) ?_
 refine sR (.int .i64 v_118_1) (r_assign rfl rfl) ?_
 refine HL_nil ?_
 refine cR (sR (.string v_113) (r_move rfl rfl) ?_)
 refine s_ef (k_call (vs := [(.string v_113)]) cb25 (evC rfl evN) (h.mono ?_))
 clear h; rintro v F ⟨v_123, v_123_1, rfl, h⟩
 refine sR (.tuple #[(Sl.v v_123), (.int .i64 v_123_1)]) (r_move rfl rfl) ?_
 refine sR (Sl.v v_123) (r_extract rfl rfl rfl) ?_
 refine sR (.int .i64 v_123_1) (r_extract rfl rfl rfl) ?_
 refine sR (Sl.v v_123) (r_assign rfl rfl) ?_
 refine sR (.int .i64 v_123_1) (r_assign rfl rfl) ?_
 refine HL_nil ?_
 refine cR (sR (.int .i64 v_113_1) (r_move rfl rfl) ?_)
 refine sR (.bool (decide (v_113_1 = 0))) (w_eql rfl rfl) ?_
 refine sR (.bool (decide (v_113_1 = 0))) (r_move rfl rfl) ?_
 by_cases hc : v_113_1 = 0
 replace h := h.1 hc
 refine kN 127 (decide_eq_true hc) ?_
 refine kN 128 (decide_eq_true hc) ?_
 refine sR (.int .i64 v_118_1) (r_move rfl rfl) ?_
 refine sR (.bool (decide (v_118_1 = 0))) (w_eql rfl rfl) ?_
 refine sR (.bool (decide (v_118_1 = 0))) (r_pt rfl rfl) ?_
 refine sR (.bool (decide (v_118_1 = 0))) (r_move rfl rfl) ?_
 by_cases hc : v_118_1 = 0
 replace h := h.1 hc
 refine kN 130 (decide_eq_true hc) ?_
 refine kN 131 (decide_eq_true hc) ?_
 refine kN 132 (decide_eq_true hc) ?_
 refine sR (.int .i64 v_123_1) (r_move rfl rfl) ?_
 refine sR (.bool (decide (v_123_1 = 0))) (w_eql rfl rfl) ?_
 refine sR (.bool (decide (v_123_1 = 0))) (r_pt rfl rfl) ?_
 refine sR (.bool (decide (v_123_1 = 0))) (r_move rfl rfl) ?_
 by_cases hc : v_123_1 = 0
 replace h := h.1 hc
 refine kN 134 (decide_eq_true hc) ?_
 refine kN 135 (decide_eq_true hc) ?_
 refine kN 136 (decide_eq_true hc) ?_
 refine sR (.string v_113) (r_move rfl rfl) ?_
 refine sR (.string v_118) (r_move rfl rfl) ?_
 refine sR (.bool (v_113.toList == v_118.toList)) (r_eqlS rfl rfl rfl) ?_
 refine sR (.bool (v_113.toList == v_118.toList)) (r_pt rfl rfl) ?_
 refine sR (.bool (v_113.toList == v_118.toList)) (r_move rfl rfl) ?_
 by_cases hc : (v_113.toList == v_118.toList) = true
 replace h := h.1 hc
 refine kN 139 hc ?_
 refine kN 140 hc ?_
 refine kN 141 hc ?_
 refine sR (Sl.v v_123) (r_move rfl rfl) ?_
 refine sR _ (r_move rfl h6) ?_
 refine s_ef (k_call (vs := [(Sl.v v_123), (Sl.v v_19)]) cb27 (evC rfl (evC rfl evN)) (h.mono ?_))
 clear h; rintro v F ⟨v_144, rfl, h⟩
 refine sR (.bool v_144) (r_pt rfl rfl) ?_
 refine sR (.bool v_144) (r_move rfl rfl) ?_
 by_cases hc : v_144 = true
 replace h := h.1 hc
 refine kN 144 hc ?_
 refine kN 145 hc ?_
 refine kN 146 hc ?_
 refine sR _ (r_move rfl h5) ?_
 refine sR (.bool v_17) (r_pt rfl rfl) ?_
 refine sR (.bool v_17) (r_assign rfl rfl) ?_
 exact HL_nil (HC_ret (rt1 f11 R rfl rfl h))
 replace hc := eq_false_of_ne_true hc; replace h := h.2 hc
 refine kN 144 hc ?_
 refine kN 145 hc ?_
 refine kN 146 hc ?_
 refine s_skip ?_
 refine sR (.bool false) (r_pf rfl rfl) ?_
 refine sR (.bool false) (r_assign rfl rfl) ?_
 exact HL_nil (HC_ret (rt1 f11 R rfl rfl h))
 replace hc := eq_false_of_ne_true hc; replace h := h.2 hc
 refine kN 139 hc ?_
 refine kN 140 hc ?_
 refine kN 141 hc ?_
 iterate 3 refine s_skip ?_
 refine sR (.bool false) (r_pf rfl rfl) ?_
 refine sR (.bool false) (r_move rfl rfl) ?_
 refine s_skip ?_
 refine sR (.bool false) (r_pf rfl rfl) ?_
 refine sR (.bool false) (r_assign rfl rfl) ?_
 exact HL_nil (HC_ret (rt1 f11 R rfl rfl h))
 replace h := h.2 hc
 refine kN 134 (decide_eq_false hc) ?_
 refine kN 135 (decide_eq_false hc) ?_
 refine kN 136 (decide_eq_false hc) ?_
 iterate 3 refine s_skip ?_
 refine sR (.bool false) (r_pf rfl rfl) ?_
 refine sR (.bool false) (r_move rfl rfl) ?_
 iterate 3 refine s_skip ?_
 refine sR (.bool false) (r_pf rfl rfl) ?_
 refine sR (.bool false) (r_move rfl rfl) ?_
 refine s_skip ?_
 refine sR (.bool false) (r_pf rfl rfl) ?_
 refine sR (.bool false) (r_assign rfl rfl) ?_
 exact HL_nil (HC_ret (rt1 f11 R rfl rfl h))
 replace h := h.2 hc
 refine kN 130 (decide_eq_false hc) ?_
 refine kN 131 (decide_eq_false hc) ?_
 refine kN 132 (decide_eq_false hc) ?_
 iterate 2 refine s_skip ?_
 refine sR (.bool false) (r_pf rfl rfl) ?_
 refine sR (.bool false) (r_move rfl rfl) ?_
 iterate 3 refine s_skip ?_
 refine sR (.bool false) (r_pf rfl rfl) ?_
 refine sR (.bool false) (r_move rfl rfl) ?_
 iterate 3 refine s_skip ?_
 refine sR (.bool false) (r_pf rfl rfl) ?_
 refine sR (.bool false) (r_move rfl rfl) ?_
 refine s_skip ?_
 refine sR (.bool false) (r_pf rfl rfl) ?_
 refine sR (.bool false) (r_assign rfl rfl) ?_
 exact HL_nil (HC_ret (rt1 f11 R rfl rfl h))
 replace h := h.2 hc
 refine kN 127 (decide_eq_false hc) ?_
 refine kN 128 (decide_eq_false hc) ?_
 iterate 2 refine s_skip ?_
 refine sR (.bool false) (r_pf rfl rfl) ?_
 refine sR (.bool false) (r_move rfl rfl) ?_
 iterate 2 refine s_skip ?_
 refine sR (.bool false) (r_pf rfl rfl) ?_
 refine sR (.bool false) (r_move rfl rfl) ?_
 iterate 3 refine s_skip ?_
 refine sR (.bool false) (r_pf rfl rfl) ?_
 refine sR (.bool false) (r_move rfl rfl) ?_
 iterate 3 refine s_skip ?_
 refine sR (.bool false) (r_pf rfl rfl) ?_
 refine sR (.bool false) (r_move rfl rfl) ?_
 refine s_skip ?_
 refine sR (.bool false) (r_pf rfl rfl) ?_
 refine sR (.bool false) (r_assign rfl rfl) ?_
 exact HL_nil (HC_ret (rt1 f11 R rfl rfl h))
 refine cR (sR _ (r_move rfl h9) ?_)
 refine HL_nil ?_
 refine HC_cond (t := free_9) rfl (fun hc => ?_) (fun hc => ?_)
 replace h := h.1 hc
 clear hc
 refine cR (sR _ (r_move rfl h7) ?_)
 refine sR _ (r_move rfl h8) ?_
 refine sR _ (r_move rfl h6) ?_
 refine sR _ (r_move rfl h8) ?_
 refine sR (.int .i64 (IntKind.i64.wrap ((Int.tmod (IntKind.i64.wrap swap_1) (v_19.len : Int)) + 1))) (r_add rfl rfl rfl) ?_
 obtain ⟨a50_, hb50, hl50, hu50, h⟩ := h
 refine sR (.pointer (some (Addr.add a50_ (Int.toNat (IntKind.i64.wrap ((Int.tmod (IntKind.i64.wrap swap_1) (v_19.len : Int)) + 1)) * 5)))) (w_indexAddr rfl rfl underlying25 sz50 hb50 hl50 hu50) ?_
 obtain ⟨v_51, hs51, hc51, h⟩ := h
 refine sR (.agg v_51) (w_loadN rfl underlying50 rfl sz50 hs51 hc51) ?_
 obtain ⟨a52_, hb52, hl52, hu52, h⟩ := h
 refine sR (.pointer (some (Addr.add a52_ (Int.toNat (Int.tmod (IntKind.i64.wrap swap_1) (v_19.len : Int)) * 5)))) (w_indexAddr rfl rfl underlying25 sz50 hb52 hl52 hu52) ?_
 refine s_ef0 (k_storeN (vs := v_51) rfl rfl sz50 (by decide) ?_)
 obtain ⟨hz1, hz2, c, e, hz3, hz4, hz5, h⟩ := h
 refine ⟨hz1, hz2, c, e, hz3, hz4, hz5, ?_⟩
 replace h := atE h
 refine HL_nil ?_
 refine cR (sR _ (r_move rfl h7) ?_)
 refine sR _ (r_move rfl h8) ?_
 refine sR (.int .i64 (IntKind.i64.wrap ((Int.tmod (IntKind.i64.wrap swap_1) (v_19.len : Int)) + 1))) (r_add rfl rfl rfl) ?_
 refine sR _ (r_move rfl h6) ?_
 refine sR _ (r_move rfl h8) ?_
 obtain ⟨a58_, hb58, hl58, hu58, h⟩ := h
 refine sR (.pointer (some (Addr.add a58_ (Int.toNat (Int.tmod (IntKind.i64.wrap swap_1) (v_19.len : Int)) * 5)))) (w_indexAddr rfl rfl underlying25 sz50 hb58 hl58 hu58) ?_
 obtain ⟨v_59, hs59, hc59, h⟩ := h
 refine sR (.agg v_59) (w_loadN rfl underlying50 rfl sz50 hs59 hc59) ?_
 obtain ⟨a60_, hb60, hl60, hu60, h⟩ := h
 refine sR (.pointer (some (Addr.add a60_ (Int.toNat (IntKind.i64.wrap ((Int.tmod (IntKind.i64.wrap swap_1) (v_19.len : Int)) + 1)) * 5)))) (w_indexAddr rfl rfl underlying25 sz50 hb60 hl60 hu60) ?_
 refine s_ef0 (k_storeN (vs := v_59) rfl rfl sz50 (by decide) ?_)
 obtain ⟨hz1, hz2, c, e, hz3, hz4, hz5, h⟩ := h
 refine ⟨hz1, hz2, c, e, hz3, hz4, hz5, ?_⟩
 replace h := atE h
 refine HL_nil ?_
 refine cR (sR _ (r_move rfl h8) ?_)
 refine sR (.int .i64 (IntKind.i64.wrap ((Int.tmod (IntKind.i64.wrap swap_1) (v_19.len : Int)) + 2))) (r_add rfl rfl rfl) ?_
 refine sR (.int .i64 (IntKind.i64.wrap ((Int.tmod (IntKind.i64.wrap swap_1) (v_19.len : Int)) + 2))) (r_assign rfl rfl) ?_
 refine HL_nil ?_
 refine HC_block ?_
 obtain ⟨I1, m1, hI0, hr⟩ := h
 refine HC_loop (fun m1 E F => ∃ k_10 : Int, E 5 = (.bool v_17) ∧ E 6 = (Sl.v v_19) ∧ E 7 = (Sl.v v_22) ∧ E 8 = (.int .i64 (Int.tmod (IntKind.i64.wrap swap_1) (v_19.len : Int))) ∧ E 10 = (.int .i64 k_10) ∧ I1 m1 k_10 F) m1 ⟨_, h5, h6, h7, h8, rfl, hI0⟩ ?_
 clear hI0; rintro m1 E F ⟨k_10, h5, h6, h7, h8, h10, hI⟩
 have h := hr m1 k_10 F hI
 clear hr hI
 unfold b11L1 at h
 refine HC_seq ?_
 refine cR (sR _ (r_move rfl h10) ?_)
 refine sR _ (r_move rfl h7) ?_
 refine sR (.int .i64 (v_22.len : Int)) (r_lenSl rfl rfl underlying25) ?_
 refine sR (.bool (decide (k_10 < (v_22.len : Int)))) (r_lss rfl rfl rfl) ?_
 refine HL_nil ?_
 refine HC_cond (t := (decide (k_10 < (v_22.len : Int)))) rfl (fun hc => ?_) (fun hc => ?_)
 replace h := h.1 (of_decide_eq_true hc)
 clear hc
 refine HC_skip ?_
 refine HC_seqJ (b11J3 (nx1 I1 m1) v_17 v_19 v_22 swap_1 k_10 R) ?_ ?_
 clear h; rintro E F ⟨h5, h6, h7, h8, h10, h⟩
 unfold b11j3 at h
 refine HC_region ?_
 refine sR _ (r_move rfl h10) ?_
 refine sR (.int .i64 (IntKind.i64.wrap (k_10 + 1))) (r_add rfl rfl rfl) ?_
 refine sR (.int .i64 (IntKind.i64.wrap (k_10 + 1))) (r_assign rfl rfl) ?_
 refine HL_nil ?_
 obtain ⟨m', hm, h⟩ := h
 exact ⟨m', hm, _, h5, h6, h7, h8, rfl, h⟩
 refine HC_block ?_
 refine HC_seqJ (b11J4 (nx1 I1 m1) v_17 v_19 v_22 swap_1 k_10 R) ?_ ?_
 clear h; rintro E F ⟨h5, h6, h7, h8, h10, h⟩
 unfold b11j4 at h
 refine HC_seqJ (b11J5 (nx1 I1 m1) v_17 v_19 v_22 swap_1 k_10 R) ?_ ?_
 clear h; rintro E F ⟨v_99, h5, h6, h7, h8, h10, h99, h⟩
 unfold b11j5 at h
 refine HC_cond (t := v_99) h99 (fun hc => ?_) (fun hc => ?_)
 replace h := h.1 hc
 clear hc
 refine HC_region ?_
 refine sR _ (r_move rfl h7) ?_
 refine sR _ (r_move rfl h10) ?_
 refine sR _ (r_move rfl h7) ?_
 refine sR _ (r_move rfl h10) ?_
 obtain ⟨a104_, hb104, hl104, hu104, h⟩ := h
 refine sR (.pointer (some (Addr.add a104_ (Int.toNat k_10 * 5)))) (w_indexAddr rfl rfl underlying25 sz50 hb104 hl104 hu104) ?_
 refine sR (.pointer (some (Addr.add (Addr.add a104_ (Int.toNat k_10 * 5)) 4))) (w_fieldAddr rfl underlying50 rfl rfl sz3 rfl rfl) ?_
 obtain ⟨v_106, hc106, h⟩ := h
 refine sR (.int .i64 v_106) (r_load1 rfl rfl underlying3 rfl hc106) ?_
 refine sR _ (r_move rfl h8) ?_
 refine s_ef (k_call (vs := [(.int .i64 v_106), (.int .i64 (Int.tmod (IntKind.i64.wrap swap_1) (v_19.len : Int)))]) cb35 (evC rfl (evC rfl evN)) (h.mono ?_))
 clear h; rintro v F ⟨v_108, rfl, h⟩
 obtain ⟨a109_, hb109, hl109, hu109, h⟩ := h
 refine sR (.pointer (some (Addr.add a109_ (Int.toNat k_10 * 5)))) (w_indexAddr rfl rfl underlying25 sz50 hb109 hl109 hu109) ?_
 refine sR (.pointer (some (Addr.add (Addr.add a109_ (Int.toNat k_10 * 5)) 4))) (w_fieldAddr rfl underlying50 rfl rfl sz3 rfl rfl) ?_
 refine s_ef0 (k_store1 (v := (.int .i64 v_108)) rfl rfl sz3 rfl st_int ?_)
 obtain ⟨c, e, hz3, hz4, hz5, h⟩ := h
 refine ⟨c, e, hz3, hz4, hz5, ?_⟩
 replace h := atE h
 refine HL_nil ?_
 show b11J3 (nx1 I1 m1) v_17 v_19 v_22 swap_1 k_10 R _ _
 exact ⟨h5, h6, h7, h8, h10, h⟩
 replace h := h.2 hc
 clear hc
 refine HC_skip ?_
 show b11J3 (nx1 I1 m1) v_17 v_19 v_22 swap_1 k_10 R _ _
 exact ⟨h5, h6, h7, h8, h10, h⟩
 refine HC_region ?_
 refine sR _ (r_move rfl h7) ?_
 refine sR _ (r_move rfl h10) ?_
 obtain ⟨a88_, hb88, hl88, hu88, h⟩ := h
 refine sR (.pointer (some (Addr.add a88_ (Int.toNat k_10 * 5)))) (w_indexAddr rfl rfl underlying25 sz50 hb88 hl88 hu88) ?_
 refine sR (.pointer (some (Addr.add a88_ (Int.toNat k_10 * 5)))) (w_fieldAddr rfl underlying50 rfl rfl sz3 rfl rfl) ?_
 obtain ⟨v_90, hc90, h⟩ := h
 refine sR (.int .i64 v_90) (r_load1 rfl rfl underlying3 rfl hc90) ?_
 refine sR (.bool (decide (v_90 = 2))) (w_eql rfl rfl) ?_
 refine sR (.bool (decide (v_90 = 2))) (r_move rfl rfl) ?_
 by_cases hc : v_90 = 2
 replace h := h.1 hc
 refine kN 91 (decide_eq_true hc) ?_
 refine kN 92 (decide_eq_true hc) ?_
 iterate 6 refine s_skip ?_
 refine sR (.bool true) (r_pt rfl rfl) ?_
 refine HL_nil ?_
 show b11J5 (nx1 I1 m1) v_17 v_19 v_22 swap_1 k_10 R _ _
 exact ⟨_, h5, h6, h7, h8, h10, rfl, h⟩
 replace h := h.2 hc
 refine kN 91 (decide_eq_false hc) ?_
 refine kN 92 (decide_eq_false hc) ?_
 refine sR _ (r_move rfl h7) ?_
 refine sR _ (r_move rfl h10) ?_
 obtain ⟨a95_, hb95, hl95, hu95, h⟩ := h
 refine sR (.pointer (some (Addr.add a95_ (Int.toNat k_10 * 5)))) (w_indexAddr rfl rfl underlying25 sz50 hb95 hl95 hu95) ?_
 refine sR (.pointer (some (Addr.add a95_ (Int.toNat k_10 * 5)))) (w_fieldAddr rfl underlying50 rfl rfl sz3 rfl rfl) ?_
 obtain ⟨v_97, hc97, h⟩ := h
 refine sR (.int .i64 v_97) (r_load1 rfl rfl underlying3 rfl hc97) ?_
 refine sR (.bool (decide (v_97 = 3))) (w_eql rfl rfl) ?_
 refine sR (.bool (decide (v_97 = 3))) (r_pf rfl rfl) ?_
 refine HL_nil ?_
 show b11J5 (nx1 I1 m1) v_17 v_19 v_22 swap_1 k_10 R _ _
 exact ⟨_, h5, h6, h7, h8, h10, rfl, h⟩
 refine cR (sR _ (r_move rfl h7) ?_)
 refine sR _ (r_move rfl h10) ?_
 obtain ⟨a71_, hb71, hl71, hu71, h⟩ := h
 refine sR (.pointer (some (Addr.add a71_ (Int.toNat k_10 * 5)))) (w_indexAddr rfl rfl underlying25 sz50 hb71 hl71 hu71) ?_
 refine sR (.pointer (some (Addr.add a71_ (Int.toNat k_10 * 5)))) (w_fieldAddr rfl underlying50 rfl rfl sz3 rfl rfl) ?_
 obtain ⟨v_73, hc73, h⟩ := h
 refine sR (.int .i64 v_73) (r_load1 rfl rfl underlying3 rfl hc73) ?_
 refine sR (.bool (decide (2 ≤ v_73))) (r_geq rfl rfl rfl) ?_
 refine HL_nil ?_
 refine HC_cond (t := (decide (2 ≤ v_73))) rfl (fun hc => ?_) (fun hc => ?_)
 replace h := h.1 (of_decide_eq_true hc)
 clear hc
 refine HC_region ?_
 refine sR _ (r_move rfl h7) ?_
 refine sR _ (r_move rfl h10) ?_
 refine sR _ (r_move rfl h7) ?_
 refine sR _ (r_move rfl h10) ?_
 obtain ⟨a79_, hb79, hl79, hu79, h⟩ := h
 refine sR (.pointer (some (Addr.add a79_ (Int.toNat k_10 * 5)))) (w_indexAddr rfl rfl underlying25 sz50 hb79 hl79 hu79) ?_
 refine sR (.pointer (some (Addr.add (Addr.add a79_ (Int.toNat k_10 * 5)) 3))) (w_fieldAddr rfl underlying50 rfl rfl sz3 rfl rfl) ?_
 obtain ⟨v_81, hc81, h⟩ := h
 refine sR (.int .i64 v_81) (r_load1 rfl rfl underlying3 rfl hc81) ?_
 refine sR _ (r_move rfl h8) ?_
 refine s_ef (k_call (vs := [(.int .i64 v_81), (.int .i64 (Int.tmod (IntKind.i64.wrap swap_1) (v_19.len : Int)))]) cb35 (evC rfl (evC rfl evN)) (h.mono ?_))
 clear h; rintro v F ⟨v_83, rfl, h⟩
 obtain ⟨a84_, hb84, hl84, hu84, h⟩ := h
 refine sR (.pointer (some (Addr.add a84_ (Int.toNat k_10 * 5)))) (w_indexAddr rfl rfl underlying25 sz50 hb84 hl84 hu84) ?_
 refine sR (.pointer (some (Addr.add (Addr.add a84_ (Int.toNat k_10 * 5)) 3))) (w_fieldAddr rfl underlying50 rfl rfl sz3 rfl rfl) ?_
 refine s_ef0 (k_store1 (v := (.int .i64 v_83)) rfl rfl sz3 rfl st_int ?_)
 obtain ⟨c, e, hz3, hz4, hz5, h⟩ := h
 refine ⟨c, e, hz3, hz4, hz5, ?_⟩
 replace h := atE h
 refine HL_nil ?_
 show b11J4 (nx1 I1 m1) v_17 v_19 v_22 swap_1 k_10 R _ _
 exact ⟨h5, h6, h7, h8, h10, h⟩
 replace h := h.2 (of_decide_eq_false hc)
 clear hc
 refine HC_skip ?_
 show b11J4 (nx1 I1 m1) v_17 v_19 v_22 swap_1 k_10 R _ _
 exact ⟨h5, h6, h7, h8, h10, h⟩
 replace h := h.2 (of_decide_eq_false hc)
 clear hc
 refine HC_exit ?_
 show b11J2 v_17 v_19 v_22 R _ _
 exact ⟨h5, h6, h7, h⟩
 replace h := h.2 hc
 clear hc
 refine HC_skip ?_
 show b11J2 v_17 v_19 v_22 R _ _
 exact ⟨h5, h6, h7, h⟩
 refine HC_region ?_
 refine sR (.int .i64 (Int.tmod (IntKind.i64.wrap swap_1) (v_19.len : Int))) (r_move rfl rfl) ?_
 refine sR (.int .i64 (IntKind.i64.wrap ((Int.tmod (IntKind.i64.wrap swap_1) (v_19.len : Int)) + 1))) (r_add rfl rfl rfl) ?_
 refine sR (Sl.v v_19) (r_move rfl rfl) ?_
 refine sR (.int .i64 (v_19.len : Int)) (r_lenSl rfl rfl underlying25) ?_
 refine sR (.int .i64 (IntKind.i64.wrap ((v_19.len : Int) - 1))) (r_sub rfl rfl rfl) ?_
 refine sR (.bool (decide ((IntKind.i64.wrap ((Int.tmod (IntKind.i64.wrap swap_1) (v_19.len : Int)) + 1)) < (IntKind.i64.wrap ((v_19.len : Int) - 1))))) (r_lss rfl rfl rfl) ?_
 refine sR (.bool (decide ((IntKind.i64.wrap ((Int.tmod (IntKind.i64.wrap swap_1) (v_19.len : Int)) + 1)) < (IntKind.i64.wrap ((v_19.len : Int) - 1))))) (r_move rfl rfl) ?_
 by_cases hc : (IntKind.i64.wrap ((Int.tmod (IntKind.i64.wrap swap_1) (v_19.len : Int)) + 1)) < (IntKind.i64.wrap ((v_19.len : Int) - 1))
 replace h := h.1 hc
 refine kN 33 (decide_eq_true hc) ?_
 refine kN 34 (decide_eq_true hc) ?_
 refine sR (Sl.v v_19) (r_move rfl rfl) ?_
 refine sR (.int .i64 (Int.tmod (IntKind.i64.wrap swap_1) (v_19.len : Int))) (r_move rfl rfl) ?_
 refine sR (.int .i64 (IntKind.i64.wrap ((Int.tmod (IntKind.i64.wrap swap_1) (v_19.len : Int)) + 1))) (r_add rfl rfl rfl) ?_
 obtain ⟨a38_, hb38, hl38, hu38, h⟩ := h
 refine sR (.pointer (some (Addr.add a38_ (Int.toNat (IntKind.i64.wrap ((Int.tmod (IntKind.i64.wrap swap_1) (v_19.len : Int)) + 1)) * 5)))) (w_indexAddr rfl rfl underlying25 sz50 hb38 hl38 hu38) ?_
 obtain ⟨v_39, hs39, hc39, h⟩ := h
 refine sR (.agg v_39) (w_loadN rfl underlying50 rfl sz50 hs39 hc39) ?_
 refine sR (.int .i64 (Int.tmod (IntKind.i64.wrap swap_1) (v_19.len : Int))) (r_move rfl rfl) ?_
 refine s_ef (k_call (vs := [(.agg v_39), (.int .i64 (Int.tmod (IntKind.i64.wrap swap_1) (v_19.len : Int)))]) cb34 (evC rfl (evC rfl evN)) (h.mono ?_))
 clear h; rintro v F ⟨v_41, rfl, h⟩
 refine sR (.bool (!v_41)) (r_not rfl rfl) ?_
 refine sR (.bool (!v_41)) (r_pt rfl rfl) ?_
 refine sR (.bool (!v_41)) (r_assign rfl rfl) ?_
 refine HL_nil ?_
 show b11J1 v_17 v_19 v_22 swap_1 R _ _
 exact ⟨_, rfl, rfl, rfl, rfl, rfl, h⟩
 replace h := h.2 hc
 refine kN 33 (decide_eq_false hc) ?_
 refine kN 34 (decide_eq_false hc) ?_
 iterate 8 refine s_skip ?_
 refine sR (.bool false) (r_pf rfl rfl) ?_
 refine sR (.bool false) (r_assign rfl rfl) ?_
 refine HL_nil ?_
 show b11J1 v_17 v_19 v_22 swap_1 R _ _
 exact ⟨_, rfl, rfl, rfl, rfl, rfl, h⟩
end Go.Proofs.YtnjcgpihfmklfaaDoor
