/-
  What functions of the program do, in a clean form, each with the proof that its code does so. Printed by a program.
-/
import Derived.Test.YtnjcgpihfmklfaaDoorGf
import Derived.Test.YtnjcgpihfmklfaaDoorPho
namespace Go.Proofs.YtnjcgpihfmklfaaDoor
open Go Go.Proofs.Tryd
set_option maxRecDepth 10000
set_option maxHeartbeats 4000000
/- 15 koine.koinelaw04.sanity -/
def b15j1 (v_19 : Sl) (v_24 : Int) (v_24_1 : Bool) (v_29 : ByteArray) (v_43 : ByteArray) (v_53 : ByteArray) (codes_17 : Bool) (R : VP) (F : PH) :=
 ((codes_17 = true →
  (((v_19.len : Int) = 6 →
   Spec prog 23 #[(Sl.v v_19), (.string (ByteArray.mk #[97, 98, 99, 98]))] F fun v F => ∃ v_94 : Bool, v = (.bool v_94) ∧
   ((v_94 = true →
    Spec prog 23 #[(Sl.v v_19), (.string (ByteArray.mk #[98, 97]))] F fun v F => ∃ v_98 : Bool, v = (.bool v_98) ∧
    (((!v_98) = true →
     ((v_24_1 = true →
      ((v_24 = 3 →
       (((v_29.toList == (ByteArray.mk #[97]).toList) = true →
        (((v_43.toList == (ByteArray.mk #[105, 102]).toList) = true →
         R (.bool (v_53.toList == (ByteArray.mk #[97, 40, 98, 99, 41]).toList)) F) ∧
        ((v_43.toList == (ByteArray.mk #[105, 102]).toList) = false →
         R (.bool false) F))) ∧
       ((v_29.toList == (ByteArray.mk #[97]).toList) = false →
        R (.bool false) F))) ∧
      (¬ (v_24 = 3) →
       R (.bool false) F))) ∧
     (v_24_1 = false →
      R (.bool false) F))) ∧
    ((!v_98) = false →
     R (.bool false) F))) ∧
   (v_94 = false →
    R (.bool false) F))) ∧
  (¬ ((v_19.len : Int) = 6) →
   R (.bool false) F))) ∧
 (codes_17 = false →
  R (.bool false) F))
abbrev b15J1 (v_19 : Sl) (v_24 : Int) (v_24_1 : Bool) (v_29 : ByteArray) (v_43 : ByteArray) (v_53 : ByteArray) (R : VP) (E : En) (F : PH) : Prop := ∃ codes_17 : Bool, E 1 = (Sl.v v_19) ∧ E 3 = (.int .i64 v_24) ∧ E 4 = (.bool v_24_1) ∧ E 5 = (.string v_29) ∧ E 11 = (.string v_43) ∧ E 13 = (.string v_53) ∧ E 17 = (.bool codes_17) ∧ b15j1 v_19 v_24 v_24_1 v_29 v_43 v_53 codes_17 R F
def b15 (R : VP) (F : PH) :=
 Spec prog 25 #[(.string (ByteArray.mk #[97, 40, 98, 124, 99, 41, 42]))] F fun v F => ∃ v_19 : Sl, ∃ v_19_1 : Int, v = (.tuple #[(Sl.v v_19), (.int .i64 v_19_1)]) ∧
 Spec prog 17 #[(Sl.v v_19), (.string (ByteArray.mk #[120, 97, 98, 99, 100])), (.int .i64 1)] F fun v F => ∃ v_24 : Int, ∃ v_24_1 : Bool, v = (.tuple #[(.int .i64 v_24), (.bool v_24_1)]) ∧
 Spec prog 29 #[(Sl.v v_19)] F fun v F => ∃ v_29 : ByteArray, ∃ v_29_1 : Int, v = (.tuple #[(.string v_29), (.int .i64 v_29_1)]) ∧
 Spec prog 25 #[(.string (ByteArray.mk #[91, 97, 45, 122, 93, 40, 91, 97, 45, 122, 93, 41, 42]))] F fun v F => ∃ v_33 : Sl, ∃ v_33_1 : Int, v = (.tuple #[(Sl.v v_33), (.int .i64 v_33_1)]) ∧
 Spec prog 25 #[(.string (ByteArray.mk #[105, 40, 102, 124, 110, 41]))] F fun v F => ∃ v_37 : Sl, ∃ v_37_1 : Int, v = (.tuple #[(Sl.v v_37), (.int .i64 v_37_1)]) ∧
 Spec prog 31 #[(Sl.v v_33), (Sl.v v_37)] F fun v F => ∃ v_43 : ByteArray, ∃ v_43_1 : Int, v = (.tuple #[(.string v_43), (.int .i64 v_43_1)]) ∧
 (#[(.int .i64 1), (.int .i64 97), (.int .i64 97), .int .i64 0, .int .i64 0] : Array Value).size = 5 ∧ (#[(.int .i64 1), (.int .i64 98), (.int .i64 98), .int .i64 0, .int .i64 0] : Array Value).size = 5 ∧ (#[(.int .i64 1), (.int .i64 99), (.int .i64 99), .int .i64 0, .int .i64 0] : Array Value).size = 5 ∧ (#[(.int .i64 2), .int .i64 0, .int .i64 0, (.int .i64 1), (.int .i64 2)] : Array Value).size = 5 ∧ (#[(.int .i64 2), .int .i64 0, .int .i64 0, (.int .i64 0), (.int .i64 3)] : Array Value).size = 5 ∧ ∀ b52, F b52 = none → atF (F.set b52 (.cells (wr (wr (wr (wr (wr (#[.int .i64 0, .int .i64 0, .int .i64 0, .int .i64 0, .int .i64 0, .int .i64 0, .int .i64 0, .int .i64 0, .int .i64 0, .int .i64 0, .int .i64 0, .int .i64 0, .int .i64 0, .int .i64 0, .int .i64 0, .int .i64 0, .int .i64 0, .int .i64 0, .int .i64 0, .int .i64 0, .int .i64 0, .int .i64 0, .int .i64 0, .int .i64 0, .int .i64 0] : Array Value) 0 (#[(.int .i64 1), (.int .i64 97), (.int .i64 97), .int .i64 0, .int .i64 0] : Array Value).toList) 5 (#[(.int .i64 1), (.int .i64 98), (.int .i64 98), .int .i64 0, .int .i64 0] : Array Value).toList) 10 (#[(.int .i64 1), (.int .i64 99), (.int .i64 99), .int .i64 0, .int .i64 0] : Array Value).toList) 15 (#[(.int .i64 2), .int .i64 0, .int .i64 0, (.int .i64 1), (.int .i64 2)] : Array Value).toList) 20 (#[(.int .i64 2), .int .i64 0, .int .i64 0, (.int .i64 0), (.int .i64 3)] : Array Value).toList) 50)) fun F =>
 Spec prog 19 #[(Sl.v (Sl.mk (some (Addr.mk b52 0 none)) 5 5))] F fun v F => ∃ v_53 : ByteArray, ∃ v_53_1 : Int, v = (.tuple #[(.string v_53), (.int .i64 v_53_1)]) ∧
 Spec prog 25 #[(.string (ByteArray.mk #[91, 98, 45, 97, 93]))] F fun v F => ∃ v_57 : Sl, ∃ v_57_1 : Int, v = (.tuple #[(Sl.v v_57), (.int .i64 v_57_1)]) ∧
 ((v_19_1 = 0 →
  ((v_29_1 = 0 →
   ((v_33_1 = 0 →
    ((v_37_1 = 0 →
     ((v_43_1 = 0 →
      ((v_53_1 = 0 →
       b15j1 v_19 v_24 v_24_1 v_29 v_43 v_53 (decide (v_57_1 = 40)) R F) ∧
      (¬ (v_53_1 = 0) →
       b15j1 v_19 v_24 v_24_1 v_29 v_43 v_53 false R F))) ∧
     (¬ (v_43_1 = 0) →
      b15j1 v_19 v_24 v_24_1 v_29 v_43 v_53 false R F))) ∧
    (¬ (v_37_1 = 0) →
     b15j1 v_19 v_24 v_24_1 v_29 v_43 v_53 false R F))) ∧
   (¬ (v_33_1 = 0) →
    b15j1 v_19 v_24 v_24_1 v_29 v_43 v_53 false R F))) ∧
  (¬ (v_29_1 = 0) →
   b15j1 v_19 v_24 v_24_1 v_29 v_43 v_53 false R F))) ∧
 (¬ (v_19_1 = 0) →
  b15j1 v_19 v_24 v_24_1 v_29 v_43 v_53 false R F))
theorem c15 {R : VP} {F : PH} (h : b15 R F) : Spec prog 15 #[] F R := by
 refine spec_of (args := []) func15 rfl ntmps15 rfl ?_
 unfold b15 at h
 refine cR (sR (.bool false) (r_assign rfl rfl) ?_)
 refine HL_nil ?_
 refine cR ?_
 refine s_ef (k_call (vs := [(.string (ByteArray.mk #[97, 40, 98, 124, 99, 41, 42]))]) cb25 (evC rfl evN) (h.mono ?_))
 clear h; rintro v F ⟨v_19, v_19_1, rfl, h⟩
 refine sR (.tuple #[(Sl.v v_19), (.int .i64 v_19_1)]) (r_move rfl rfl) ?_
 refine sR (Sl.v v_19) (r_extract rfl rfl rfl) ?_
 refine sR (.int .i64 v_19_1) (r_extract rfl rfl rfl) ?_
 refine sR (Sl.v v_19) (r_assign rfl rfl) ?_
 refine sR (.int .i64 v_19_1) (r_assign rfl rfl) ?_
 refine HL_nil ?_
 refine cR (sR (Sl.v v_19) (r_move rfl rfl) ?_)
 refine s_ef (k_call (vs := [(Sl.v v_19), (.string (ByteArray.mk #[120, 97, 98, 99, 100])), (.int .i64 1)]) cb17 (evC rfl (evC rfl (evC rfl evN))) (h.mono ?_))
 clear h; rintro v F ⟨v_24, v_24_1, rfl, h⟩
 refine sR (.tuple #[(.int .i64 v_24), (.bool v_24_1)]) (r_move rfl rfl) ?_
 refine sR (.int .i64 v_24) (r_extract rfl rfl rfl) ?_
 refine sR (.bool v_24_1) (r_extract rfl rfl rfl) ?_
 refine sR (.int .i64 v_24) (r_assign rfl rfl) ?_
 refine sR (.bool v_24_1) (r_assign rfl rfl) ?_
 refine HL_nil ?_
 refine cR (sR (Sl.v v_19) (r_move rfl rfl) ?_)
 refine s_ef (k_call (vs := [(Sl.v v_19)]) cb29 (evC rfl evN) (h.mono ?_))
 clear h; rintro v F ⟨v_29, v_29_1, rfl, h⟩
 refine sR (.tuple #[(.string v_29), (.int .i64 v_29_1)]) (r_move rfl rfl) ?_
 refine sR (.string v_29) (r_extract rfl rfl rfl) ?_
 refine sR (.int .i64 v_29_1) (r_extract rfl rfl rfl) ?_
 refine sR (.string v_29) (r_assign rfl rfl) ?_
 refine sR (.int .i64 v_29_1) (r_assign rfl rfl) ?_
 refine HL_nil ?_
 refine cR ?_
 refine s_ef (k_call (vs := [(.string (ByteArray.mk #[91, 97, 45, 122, 93, 40, 91, 97, 45, 122, 93, 41, 42]))]) cb25 (evC rfl evN) (h.mono ?_))
 clear h; rintro v F ⟨v_33, v_33_1, rfl, h⟩
 refine sR (.tuple #[(Sl.v v_33), (.int .i64 v_33_1)]) (r_move rfl rfl) ?_
 refine sR (Sl.v v_33) (r_extract rfl rfl rfl) ?_
 refine sR (.int .i64 v_33_1) (r_extract rfl rfl rfl) ?_
 refine sR (Sl.v v_33) (r_assign rfl rfl) ?_
 refine sR (.int .i64 v_33_1) (r_assign rfl rfl) ?_
 refine HL_nil ?_
 refine cR ?_
 refine s_ef (k_call (vs := [(.string (ByteArray.mk #[105, 40, 102, 124, 110, 41]))]) cb25 (evC rfl evN) (h.mono ?_))
 clear h; rintro v F ⟨v_37, v_37_1, rfl, h⟩
 refine sR (.tuple #[(Sl.v v_37), (.int .i64 v_37_1)]) (r_move rfl rfl) ?_
 refine sR (Sl.v v_37) (r_extract rfl rfl rfl) ?_
 refine sR (.int .i64 v_37_1) (r_extract rfl rfl rfl) ?_
 refine sR (Sl.v v_37) (r_assign rfl rfl) ?_
 refine sR (.int .i64 v_37_1) (r_assign rfl rfl) ?_
 refine HL_nil ?_
 refine cR (sR (Sl.v v_33) (r_move rfl rfl) ?_)
 refine sR (Sl.v v_37) (r_move rfl rfl) ?_
 refine s_ef (k_call (vs := [(Sl.v v_33), (Sl.v v_37)]) cb31 (evC rfl (evC rfl evN)) (h.mono ?_))
 clear h; rintro v F ⟨v_43, v_43_1, rfl, h⟩
 refine sR (.tuple #[(.string v_43), (.int .i64 v_43_1)]) (r_move rfl rfl) ?_
 refine sR (.string v_43) (r_extract rfl rfl rfl) ?_
 refine sR (.int .i64 v_43_1) (r_extract rfl rfl rfl) ?_
 refine sR (.string v_43) (r_assign rfl rfl) ?_
 refine sR (.int .i64 v_43_1) (r_assign rfl rfl) ?_
 refine HL_nil ?_
 refine cR (sR (.agg (#[(.int .i64 1), (.int .i64 97), (.int .i64 97), .int .i64 0, .int .i64 0] : Array Value)) (w_buildStruct (cells := #[(.int .i64 1), (.int .i64 97), (.int .i64 97), .int .i64 0, .int .i64 0]) underlying50 zr50 kf50 (evPC rfl (evPC rfl (evPC rfl evPN))) (fill1 (place_of rfl rfl sz3) rfl rfl (fill1 (place_of rfl rfl sz3) rfl rfl (fill1 (place_of rfl rfl sz3) rfl rfl (fillN rfl))))) ?_)
 refine sR (.agg (#[(.int .i64 1), (.int .i64 98), (.int .i64 98), .int .i64 0, .int .i64 0] : Array Value)) (w_buildStruct (cells := #[(.int .i64 1), (.int .i64 98), (.int .i64 98), .int .i64 0, .int .i64 0]) underlying50 zr50 kf50 (evPC rfl (evPC rfl (evPC rfl evPN))) (fill1 (place_of rfl rfl sz3) rfl rfl (fill1 (place_of rfl rfl sz3) rfl rfl (fill1 (place_of rfl rfl sz3) rfl rfl (fillN rfl))))) ?_
 refine sR (.agg (#[(.int .i64 1), (.int .i64 99), (.int .i64 99), .int .i64 0, .int .i64 0] : Array Value)) (w_buildStruct (cells := #[(.int .i64 1), (.int .i64 99), (.int .i64 99), .int .i64 0, .int .i64 0]) underlying50 zr50 kf50 (evPC rfl (evPC rfl (evPC rfl evPN))) (fill1 (place_of rfl rfl sz3) rfl rfl (fill1 (place_of rfl rfl sz3) rfl rfl (fill1 (place_of rfl rfl sz3) rfl rfl (fillN rfl))))) ?_
 refine sR (.agg (#[(.int .i64 2), .int .i64 0, .int .i64 0, (.int .i64 1), (.int .i64 2)] : Array Value)) (w_buildStruct (cells := #[(.int .i64 2), .int .i64 0, .int .i64 0, (.int .i64 1), (.int .i64 2)]) underlying50 zr50 kf50 (evPC rfl (evPC rfl (evPC rfl evPN))) (fill1 (place_of rfl rfl sz3) rfl rfl (fill1 (place_of rfl rfl sz3) rfl rfl (fill1 (place_of rfl rfl sz3) rfl rfl (fillN rfl))))) ?_
 refine sR (.agg (#[(.int .i64 2), .int .i64 0, .int .i64 0, (.int .i64 0), (.int .i64 3)] : Array Value)) (w_buildStruct (cells := #[(.int .i64 2), .int .i64 0, .int .i64 0, (.int .i64 0), (.int .i64 3)]) underlying50 zr50 kf50 (evPC rfl (evPC rfl (evPC rfl evPN))) (fill1 (place_of rfl rfl sz3) rfl rfl (fill1 (place_of rfl rfl sz3) rfl rfl (fill1 (place_of rfl rfl sz3) rfl rfl (fillN rfl))))) ?_
 obtain ⟨hz52_0, hz52_1, hz52_2, hz52_3, hz52_4, h⟩ := h
 refine s_ef (k_buildSlice (cells := (wr (wr (wr (wr (wr (#[.int .i64 0, .int .i64 0, .int .i64 0, .int .i64 0, .int .i64 0, .int .i64 0, .int .i64 0, .int .i64 0, .int .i64 0, .int .i64 0, .int .i64 0, .int .i64 0, .int .i64 0, .int .i64 0, .int .i64 0, .int .i64 0, .int .i64 0, .int .i64 0, .int .i64 0, .int .i64 0, .int .i64 0, .int .i64 0, .int .i64 0, .int .i64 0, .int .i64 0] : Array Value) 0 (#[(.int .i64 1), (.int .i64 97), (.int .i64 97), .int .i64 0, .int .i64 0] : Array Value).toList) 5 (#[(.int .i64 1), (.int .i64 98), (.int .i64 98), .int .i64 0, .int .i64 0] : Array Value).toList) 10 (#[(.int .i64 1), (.int .i64 99), (.int .i64 99), .int .i64 0, .int .i64 0] : Array Value).toList) 15 (#[(.int .i64 2), .int .i64 0, .int .i64 0, (.int .i64 1), (.int .i64 2)] : Array Value).toList) 20 (#[(.int .i64 2), .int .i64 0, .int .i64 0, (.int .i64 0), (.int .i64 3)] : Array Value).toList)) underlying25 sz50 (by decide) zr50 ((zc_flat _ rfl _).trans (rfl : _ = (#[.int .i64 0, .int .i64 0, .int .i64 0, .int .i64 0, .int .i64 0, .int .i64 0, .int .i64 0, .int .i64 0, .int .i64 0, .int .i64 0, .int .i64 0, .int .i64 0, .int .i64 0, .int .i64 0, .int .i64 0, .int .i64 0, .int .i64 0, .int .i64 0, .int .i64 0, .int .i64 0, .int .i64 0, .int .i64 0, .int .i64 0, .int .i64 0, .int .i64 0] : Array Value))) (evPC rfl (evPC rfl (evPC rfl (evPC rfl (evPC rfl evPN))))) (fillA rfl hz52_0 (by first | rfl | (simp only [wr_size, Array.size_setIfInBounds]; rfl)) (fillA rfl hz52_1 (by first | rfl | (simp only [wr_size, Array.size_setIfInBounds]; rfl)) (fillA rfl hz52_2 (by first | rfl | (simp only [wr_size, Array.size_setIfInBounds]; rfl)) (fillA rfl hz52_3 (by first | rfl | (simp only [wr_size, Array.size_setIfInBounds]; rfl)) (fillA rfl hz52_4 (by first | rfl | (simp only [wr_size, Array.size_setIfInBounds]; rfl)) (fillN rfl)))))) rfl ?_)
 intro b52 hf_b52
 replace h := atE (h b52 hf_b52)
 refine s_ef (k_call (vs := [(Sl.v (Sl.mk (some (Addr.mk b52 0 none)) 5 5))]) cb19 (evC rfl evN) (h.mono ?_))
 clear h; rintro v F ⟨v_53, v_53_1, rfl, h⟩
 refine sR (.tuple #[(.string v_53), (.int .i64 v_53_1)]) (r_move rfl rfl) ?_
 refine sR (.string v_53) (r_extract rfl rfl rfl) ?_
 refine sR (.int .i64 v_53_1) (r_extract rfl rfl rfl) ?_
 refine sR (.string v_53) (r_assign rfl rfl) ?_
 refine sR (.int .i64 v_53_1) (r_assign rfl rfl) ?_
 refine HL_nil ?_
 refine cR ?_
 refine s_ef (k_call (vs := [(.string (ByteArray.mk #[91, 98, 45, 97, 93]))]) cb25 (evC rfl evN) (h.mono ?_))
 clear h; rintro v F ⟨v_57, v_57_1, rfl, h⟩
 refine sR (.tuple #[(Sl.v v_57), (.int .i64 v_57_1)]) (r_move rfl rfl) ?_
 refine sR (Sl.v v_57) (r_extract rfl rfl rfl) ?_
 refine sR (.int .i64 v_57_1) (r_extract rfl rfl rfl) ?_
 refine sR (Sl.v v_57) (r_assign rfl rfl) ?_
 refine sR (.int .i64 v_57_1) (r_assign rfl rfl) ?_
 refine HL_nil ?_
 refine HC_seqJ (b15J1 v_19 v_24 v_24_1 v_29 v_43 v_53 R) ?_ ?_
 clear h; rintro E F ⟨codes_17, h1, h3, h4, h5, h11, h13, h17, h⟩
 unfold b15j1 at h
 refine cR (sR _ (r_move rfl h17) ?_)
 refine sR (.bool codes_17) (r_move rfl rfl) ?_
 by_cases hc : codes_17 = true
 replace h := h.1 hc
 refine HL_known (t := 17) (v := .bool true) (h17.trans (congrArg Value.bool hc)) ?_
 refine kN 86 hc ?_
 refine kN 87 hc ?_
 refine sR _ (r_move rfl h1) ?_
 refine sR (.int .i64 (v_19.len : Int)) (r_lenSl rfl rfl underlying25) ?_
 refine sR (.bool (decide ((v_19.len : Int) = 6))) (w_eql rfl rfl) ?_
 refine sR (.bool (decide ((v_19.len : Int) = 6))) (r_pt rfl rfl) ?_
 refine sR (.bool (decide ((v_19.len : Int) = 6))) (r_move rfl rfl) ?_
 by_cases hc : (v_19.len : Int) = 6
 replace h := h.1 hc
 refine kN 90 (decide_eq_true hc) ?_
 refine kN 91 (decide_eq_true hc) ?_
 refine kN 92 (decide_eq_true hc) ?_
 refine sR _ (r_move rfl h1) ?_
 refine s_ef (k_call (vs := [(Sl.v v_19), (.string (ByteArray.mk #[97, 98, 99, 98]))]) cb23 (evC rfl (evC rfl evN)) (h.mono ?_))
 clear h; rintro v F ⟨v_94, rfl, h⟩
 refine sR (.bool v_94) (r_pt rfl rfl) ?_
 refine sR (.bool v_94) (r_move rfl rfl) ?_
 by_cases hc : v_94 = true
 replace h := h.1 hc
 refine kN 94 hc ?_
 refine kN 95 hc ?_
 refine kN 96 hc ?_
 refine sR _ (r_move rfl h1) ?_
 refine s_ef (k_call (vs := [(Sl.v v_19), (.string (ByteArray.mk #[98, 97]))]) cb23 (evC rfl (evC rfl evN)) (h.mono ?_))
 clear h; rintro v F ⟨v_98, rfl, h⟩
 refine sR (.bool (!v_98)) (r_not rfl rfl) ?_
 refine sR (.bool (!v_98)) (r_pt rfl rfl) ?_
 refine sR (.bool (!v_98)) (r_move rfl rfl) ?_
 by_cases hc : (!v_98) = true
 replace h := h.1 hc
 refine kN 99 hc ?_
 refine kN 100 hc ?_
 refine kN 101 hc ?_
 refine sR _ (r_move rfl h4) ?_
 refine sR (.bool v_24_1) (r_pt rfl rfl) ?_
 refine sR (.bool v_24_1) (r_move rfl rfl) ?_
 by_cases hc : v_24_1 = true
 replace h := h.1 hc
 refine HL_known (t := 4) (v := .bool true) (h4.trans (congrArg Value.bool hc)) ?_
 refine kN 102 hc ?_
 refine kN 103 hc ?_
 refine kN 104 hc ?_
 refine sR _ (r_move rfl h3) ?_
 refine sR (.bool (decide (v_24 = 3))) (w_eql rfl rfl) ?_
 refine sR (.bool (decide (v_24 = 3))) (r_pt rfl rfl) ?_
 refine sR (.bool (decide (v_24 = 3))) (r_move rfl rfl) ?_
 by_cases hc : v_24 = 3
 replace h := h.1 hc
 refine kN 106 (decide_eq_true hc) ?_
 refine kN 107 (decide_eq_true hc) ?_
 refine kN 108 (decide_eq_true hc) ?_
 refine sR _ (r_move rfl h5) ?_
 refine sR (.bool (v_29.toList == (ByteArray.mk #[97]).toList)) (r_eqlS rfl rfl rfl) ?_
 refine sR (.bool (v_29.toList == (ByteArray.mk #[97]).toList)) (r_pt rfl rfl) ?_
 refine sR (.bool (v_29.toList == (ByteArray.mk #[97]).toList)) (r_move rfl rfl) ?_
 by_cases hc : (v_29.toList == (ByteArray.mk #[97]).toList) = true
 replace h := h.1 hc
 refine kN 110 hc ?_
 refine kN 111 hc ?_
 refine kN 112 hc ?_
 refine sR _ (r_move rfl h11) ?_
 refine sR (.bool (v_43.toList == (ByteArray.mk #[105, 102]).toList)) (r_eqlS rfl rfl rfl) ?_
 refine sR (.bool (v_43.toList == (ByteArray.mk #[105, 102]).toList)) (r_pt rfl rfl) ?_
 refine sR (.bool (v_43.toList == (ByteArray.mk #[105, 102]).toList)) (r_move rfl rfl) ?_
 by_cases hc : (v_43.toList == (ByteArray.mk #[105, 102]).toList) = true
 replace h := h.1 hc
 refine kN 114 hc ?_
 refine kN 115 hc ?_
 refine kN 116 hc ?_
 refine sR _ (r_move rfl h13) ?_
 refine sR (.bool (v_53.toList == (ByteArray.mk #[97, 40, 98, 99, 41]).toList)) (r_eqlS rfl rfl rfl) ?_
 refine sR (.bool (v_53.toList == (ByteArray.mk #[97, 40, 98, 99, 41]).toList)) (r_pt rfl rfl) ?_
 refine sR (.bool (v_53.toList == (ByteArray.mk #[97, 40, 98, 99, 41]).toList)) (r_assign rfl rfl) ?_
 exact HL_nil (HC_ret (rt1 f15 R rfl rfl h))
 replace hc := eq_false_of_ne_true hc; replace h := h.2 hc
 refine kN 114 hc ?_
 refine kN 115 hc ?_
 refine kN 116 hc ?_
 iterate 2 refine s_skip ?_
 refine sR (.bool false) (r_pf rfl rfl) ?_
 refine sR (.bool false) (r_assign rfl rfl) ?_
 exact HL_nil (HC_ret (rt1 f15 R rfl rfl h))
 replace hc := eq_false_of_ne_true hc; replace h := h.2 hc
 refine kN 110 hc ?_
 refine kN 111 hc ?_
 refine kN 112 hc ?_
 iterate 2 refine s_skip ?_
 refine sR (.bool false) (r_pf rfl rfl) ?_
 refine sR (.bool false) (r_move rfl rfl) ?_
 iterate 2 refine s_skip ?_
 refine sR (.bool false) (r_pf rfl rfl) ?_
 refine sR (.bool false) (r_assign rfl rfl) ?_
 exact HL_nil (HC_ret (rt1 f15 R rfl rfl h))
 replace h := h.2 hc
 refine kN 106 (decide_eq_false hc) ?_
 refine kN 107 (decide_eq_false hc) ?_
 refine kN 108 (decide_eq_false hc) ?_
 iterate 2 refine s_skip ?_
 refine sR (.bool false) (r_pf rfl rfl) ?_
 refine sR (.bool false) (r_move rfl rfl) ?_
 iterate 2 refine s_skip ?_
 refine sR (.bool false) (r_pf rfl rfl) ?_
 refine sR (.bool false) (r_move rfl rfl) ?_
 iterate 2 refine s_skip ?_
 refine sR (.bool false) (r_pf rfl rfl) ?_
 refine sR (.bool false) (r_assign rfl rfl) ?_
 exact HL_nil (HC_ret (rt1 f15 R rfl rfl h))
 replace hc := eq_false_of_ne_true hc; replace h := h.2 hc
 refine HL_known (t := 4) (v := .bool false) (h4.trans (congrArg Value.bool hc)) ?_
 refine kN 102 hc ?_
 refine kN 103 hc ?_
 refine kN 104 hc ?_
 iterate 2 refine s_skip ?_
 refine sR (.bool false) (r_pf rfl rfl) ?_
 refine sR (.bool false) (r_move rfl rfl) ?_
 iterate 2 refine s_skip ?_
 refine sR (.bool false) (r_pf rfl rfl) ?_
 refine sR (.bool false) (r_move rfl rfl) ?_
 iterate 2 refine s_skip ?_
 refine sR (.bool false) (r_pf rfl rfl) ?_
 refine sR (.bool false) (r_move rfl rfl) ?_
 iterate 2 refine s_skip ?_
 refine sR (.bool false) (r_pf rfl rfl) ?_
 refine sR (.bool false) (r_assign rfl rfl) ?_
 exact HL_nil (HC_ret (rt1 f15 R rfl rfl h))
 replace hc := eq_false_of_ne_true hc; replace h := h.2 hc
 refine kN 99 hc ?_
 refine kN 100 hc ?_
 refine kN 101 hc ?_
 refine s_skip ?_
 refine sR (.bool false) (r_pf rfl rfl) ?_
 refine sR (.bool false) (r_move rfl rfl) ?_
 iterate 2 refine s_skip ?_
 refine sR (.bool false) (r_pf rfl rfl) ?_
 refine sR (.bool false) (r_move rfl rfl) ?_
 iterate 2 refine s_skip ?_
 refine sR (.bool false) (r_pf rfl rfl) ?_
 refine sR (.bool false) (r_move rfl rfl) ?_
 iterate 2 refine s_skip ?_
 refine sR (.bool false) (r_pf rfl rfl) ?_
 refine sR (.bool false) (r_move rfl rfl) ?_
 iterate 2 refine s_skip ?_
 refine sR (.bool false) (r_pf rfl rfl) ?_
 refine sR (.bool false) (r_assign rfl rfl) ?_
 exact HL_nil (HC_ret (rt1 f15 R rfl rfl h))
 replace hc := eq_false_of_ne_true hc; replace h := h.2 hc
 refine kN 94 hc ?_
 refine kN 95 hc ?_
 refine kN 96 hc ?_
 iterate 3 refine s_skip ?_
 refine sR (.bool false) (r_pf rfl rfl) ?_
 refine sR (.bool false) (r_move rfl rfl) ?_
 refine s_skip ?_
 refine sR (.bool false) (r_pf rfl rfl) ?_
 refine sR (.bool false) (r_move rfl rfl) ?_
 iterate 2 refine s_skip ?_
 refine sR (.bool false) (r_pf rfl rfl) ?_
 refine sR (.bool false) (r_move rfl rfl) ?_
 iterate 2 refine s_skip ?_
 refine sR (.bool false) (r_pf rfl rfl) ?_
 refine sR (.bool false) (r_move rfl rfl) ?_
 iterate 2 refine s_skip ?_
 refine sR (.bool false) (r_pf rfl rfl) ?_
 refine sR (.bool false) (r_move rfl rfl) ?_
 iterate 2 refine s_skip ?_
 refine sR (.bool false) (r_pf rfl rfl) ?_
 refine sR (.bool false) (r_assign rfl rfl) ?_
 exact HL_nil (HC_ret (rt1 f15 R rfl rfl h))
 replace h := h.2 hc
 refine kN 90 (decide_eq_false hc) ?_
 refine kN 91 (decide_eq_false hc) ?_
 refine kN 92 (decide_eq_false hc) ?_
 iterate 2 refine s_skip ?_
 refine sR (.bool false) (r_pf rfl rfl) ?_
 refine sR (.bool false) (r_move rfl rfl) ?_
 iterate 3 refine s_skip ?_
 refine sR (.bool false) (r_pf rfl rfl) ?_
 refine sR (.bool false) (r_move rfl rfl) ?_
 refine s_skip ?_
 refine sR (.bool false) (r_pf rfl rfl) ?_
 refine sR (.bool false) (r_move rfl rfl) ?_
 iterate 2 refine s_skip ?_
 refine sR (.bool false) (r_pf rfl rfl) ?_
 refine sR (.bool false) (r_move rfl rfl) ?_
 iterate 2 refine s_skip ?_
 refine sR (.bool false) (r_pf rfl rfl) ?_
 refine sR (.bool false) (r_move rfl rfl) ?_
 iterate 2 refine s_skip ?_
 refine sR (.bool false) (r_pf rfl rfl) ?_
 refine sR (.bool false) (r_move rfl rfl) ?_
 iterate 2 refine s_skip ?_
 refine sR (.bool false) (r_pf rfl rfl) ?_
 refine sR (.bool false) (r_assign rfl rfl) ?_
 exact HL_nil (HC_ret (rt1 f15 R rfl rfl h))
 replace hc := eq_false_of_ne_true hc; replace h := h.2 hc
 refine HL_known (t := 17) (v := .bool false) (h17.trans (congrArg Value.bool hc)) ?_
 refine kN 86 hc ?_
 refine kN 87 hc ?_
 iterate 3 refine s_skip ?_
 refine sR (.bool false) (r_pf rfl rfl) ?_
 refine sR (.bool false) (r_move rfl rfl) ?_
 iterate 2 refine s_skip ?_
 refine sR (.bool false) (r_pf rfl rfl) ?_
 refine sR (.bool false) (r_move rfl rfl) ?_
 iterate 3 refine s_skip ?_
 refine sR (.bool false) (r_pf rfl rfl) ?_
 refine sR (.bool false) (r_move rfl rfl) ?_
 refine s_skip ?_
 refine sR (.bool false) (r_pf rfl rfl) ?_
 refine sR (.bool false) (r_move rfl rfl) ?_
 iterate 2 refine s_skip ?_
 refine sR (.bool false) (r_pf rfl rfl) ?_
 refine sR (.bool false) (r_move rfl rfl) ?_
 iterate 2 refine s_skip ?_
 refine sR (.bool false) (r_pf rfl rfl) ?_
 refine sR (.bool false) (r_move rfl rfl) ?_
 iterate 2 refine s_skip ?_
 refine sR (.bool false) (r_pf rfl rfl) ?_
 refine sR (.bool false) (r_move rfl rfl) ?_
 iterate 2 refine s_skip ?_
 refine sR (.bool false) (r_pf rfl rfl) ?_
 refine sR (.bool false) (r_assign rfl rfl) ?_
 exact HL_nil (HC_ret (rt1 f15 R rfl rfl h))
 refine HC_region ?_
 refine sR (.int .i64 v_19_1) (r_move rfl rfl) ?_
 refine sR (.bool (decide (v_19_1 = 0))) (w_eql rfl rfl) ?_
 refine sR (.bool (decide (v_19_1 = 0))) (r_move rfl rfl) ?_
 by_cases hc : v_19_1 = 0
 replace h := h.1 hc
 refine kN 61 (decide_eq_true hc) ?_
 refine kN 62 (decide_eq_true hc) ?_
 refine sR (.int .i64 v_29_1) (r_move rfl rfl) ?_
 refine sR (.bool (decide (v_29_1 = 0))) (w_eql rfl rfl) ?_
 refine sR (.bool (decide (v_29_1 = 0))) (r_pt rfl rfl) ?_
 refine sR (.bool (decide (v_29_1 = 0))) (r_move rfl rfl) ?_
 by_cases hc : v_29_1 = 0
 replace h := h.1 hc
 refine kN 64 (decide_eq_true hc) ?_
 refine kN 65 (decide_eq_true hc) ?_
 refine kN 66 (decide_eq_true hc) ?_
 refine sR (.int .i64 v_33_1) (r_move rfl rfl) ?_
 refine sR (.bool (decide (v_33_1 = 0))) (w_eql rfl rfl) ?_
 refine sR (.bool (decide (v_33_1 = 0))) (r_pt rfl rfl) ?_
 refine sR (.bool (decide (v_33_1 = 0))) (r_move rfl rfl) ?_
 by_cases hc : v_33_1 = 0
 replace h := h.1 hc
 refine kN 68 (decide_eq_true hc) ?_
 refine kN 69 (decide_eq_true hc) ?_
 refine kN 70 (decide_eq_true hc) ?_
 refine sR (.int .i64 v_37_1) (r_move rfl rfl) ?_
 refine sR (.bool (decide (v_37_1 = 0))) (w_eql rfl rfl) ?_
 refine sR (.bool (decide (v_37_1 = 0))) (r_pt rfl rfl) ?_
 refine sR (.bool (decide (v_37_1 = 0))) (r_move rfl rfl) ?_
 by_cases hc : v_37_1 = 0
 replace h := h.1 hc
 refine kN 72 (decide_eq_true hc) ?_
 refine kN 73 (decide_eq_true hc) ?_
 refine kN 74 (decide_eq_true hc) ?_
 refine sR (.int .i64 v_43_1) (r_move rfl rfl) ?_
 refine sR (.bool (decide (v_43_1 = 0))) (w_eql rfl rfl) ?_
 refine sR (.bool (decide (v_43_1 = 0))) (r_pt rfl rfl) ?_
 refine sR (.bool (decide (v_43_1 = 0))) (r_move rfl rfl) ?_
 by_cases hc : v_43_1 = 0
 replace h := h.1 hc
 refine kN 76 (decide_eq_true hc) ?_
 refine kN 77 (decide_eq_true hc) ?_
 refine kN 78 (decide_eq_true hc) ?_
 refine sR (.int .i64 v_53_1) (r_move rfl rfl) ?_
 refine sR (.bool (decide (v_53_1 = 0))) (w_eql rfl rfl) ?_
 refine sR (.bool (decide (v_53_1 = 0))) (r_pt rfl rfl) ?_
 refine sR (.bool (decide (v_53_1 = 0))) (r_move rfl rfl) ?_
 by_cases hc : v_53_1 = 0
 replace h := h.1 hc
 refine kN 80 (decide_eq_true hc) ?_
 refine kN 81 (decide_eq_true hc) ?_
 refine kN 82 (decide_eq_true hc) ?_
 refine sR (.int .i64 v_57_1) (r_move rfl rfl) ?_
 refine sR (.bool (decide (v_57_1 = 40))) (w_eql rfl rfl) ?_
 refine sR (.bool (decide (v_57_1 = 40))) (r_pt rfl rfl) ?_
 refine sR (.bool (decide (v_57_1 = 40))) (r_assign rfl rfl) ?_
 refine HL_nil ?_
 show b15J1 v_19 v_24 v_24_1 v_29 v_43 v_53 R _ _
 exact ⟨_, rfl, rfl, rfl, rfl, rfl, rfl, rfl, h⟩
 replace h := h.2 hc
 refine kN 80 (decide_eq_false hc) ?_
 refine kN 81 (decide_eq_false hc) ?_
 refine kN 82 (decide_eq_false hc) ?_
 iterate 2 refine s_skip ?_
 refine sR (.bool false) (r_pf rfl rfl) ?_
 refine sR (.bool false) (r_assign rfl rfl) ?_
 refine HL_nil ?_
 show b15J1 v_19 v_24 v_24_1 v_29 v_43 v_53 R _ _
 exact ⟨_, rfl, rfl, rfl, rfl, rfl, rfl, rfl, h⟩
 replace h := h.2 hc
 refine kN 76 (decide_eq_false hc) ?_
 refine kN 77 (decide_eq_false hc) ?_
 refine kN 78 (decide_eq_false hc) ?_
 iterate 2 refine s_skip ?_
 refine sR (.bool false) (r_pf rfl rfl) ?_
 refine sR (.bool false) (r_move rfl rfl) ?_
 iterate 2 refine s_skip ?_
 refine sR (.bool false) (r_pf rfl rfl) ?_
 refine sR (.bool false) (r_assign rfl rfl) ?_
 refine HL_nil ?_
 show b15J1 v_19 v_24 v_24_1 v_29 v_43 v_53 R _ _
 exact ⟨_, rfl, rfl, rfl, rfl, rfl, rfl, rfl, h⟩
 replace h := h.2 hc
 refine kN 72 (decide_eq_false hc) ?_
 refine kN 73 (decide_eq_false hc) ?_
 refine kN 74 (decide_eq_false hc) ?_
 iterate 2 refine s_skip ?_
 refine sR (.bool false) (r_pf rfl rfl) ?_
 refine sR (.bool false) (r_move rfl rfl) ?_
 iterate 2 refine s_skip ?_
 refine sR (.bool false) (r_pf rfl rfl) ?_
 refine sR (.bool false) (r_move rfl rfl) ?_
 iterate 2 refine s_skip ?_
 refine sR (.bool false) (r_pf rfl rfl) ?_
 refine sR (.bool false) (r_assign rfl rfl) ?_
 refine HL_nil ?_
 show b15J1 v_19 v_24 v_24_1 v_29 v_43 v_53 R _ _
 exact ⟨_, rfl, rfl, rfl, rfl, rfl, rfl, rfl, h⟩
 replace h := h.2 hc
 refine kN 68 (decide_eq_false hc) ?_
 refine kN 69 (decide_eq_false hc) ?_
 refine kN 70 (decide_eq_false hc) ?_
 iterate 2 refine s_skip ?_
 refine sR (.bool false) (r_pf rfl rfl) ?_
 refine sR (.bool false) (r_move rfl rfl) ?_
 iterate 2 refine s_skip ?_
 refine sR (.bool false) (r_pf rfl rfl) ?_
 refine sR (.bool false) (r_move rfl rfl) ?_
 iterate 2 refine s_skip ?_
 refine sR (.bool false) (r_pf rfl rfl) ?_
 refine sR (.bool false) (r_move rfl rfl) ?_
 iterate 2 refine s_skip ?_
 refine sR (.bool false) (r_pf rfl rfl) ?_
 refine sR (.bool false) (r_assign rfl rfl) ?_
 refine HL_nil ?_
 show b15J1 v_19 v_24 v_24_1 v_29 v_43 v_53 R _ _
 exact ⟨_, rfl, rfl, rfl, rfl, rfl, rfl, rfl, h⟩
 replace h := h.2 hc
 refine kN 64 (decide_eq_false hc) ?_
 refine kN 65 (decide_eq_false hc) ?_
 refine kN 66 (decide_eq_false hc) ?_
 iterate 2 refine s_skip ?_
 refine sR (.bool false) (r_pf rfl rfl) ?_
 refine sR (.bool false) (r_move rfl rfl) ?_
 iterate 2 refine s_skip ?_
 refine sR (.bool false) (r_pf rfl rfl) ?_
 refine sR (.bool false) (r_move rfl rfl) ?_
 iterate 2 refine s_skip ?_
 refine sR (.bool false) (r_pf rfl rfl) ?_
 refine sR (.bool false) (r_move rfl rfl) ?_
 iterate 2 refine s_skip ?_
 refine sR (.bool false) (r_pf rfl rfl) ?_
 refine sR (.bool false) (r_move rfl rfl) ?_
 iterate 2 refine s_skip ?_
 refine sR (.bool false) (r_pf rfl rfl) ?_
 refine sR (.bool false) (r_assign rfl rfl) ?_
 refine HL_nil ?_
 show b15J1 v_19 v_24 v_24_1 v_29 v_43 v_53 R _ _
 exact ⟨_, rfl, rfl, rfl, rfl, rfl, rfl, rfl, h⟩
 replace h := h.2 hc
 refine kN 61 (decide_eq_false hc) ?_
 refine kN 62 (decide_eq_false hc) ?_
 iterate 2 refine s_skip ?_
 refine sR (.bool false) (r_pf rfl rfl) ?_
 refine sR (.bool false) (r_move rfl rfl) ?_
 iterate 2 refine s_skip ?_
 refine sR (.bool false) (r_pf rfl rfl) ?_
 refine sR (.bool false) (r_move rfl rfl) ?_
 iterate 2 refine s_skip ?_
 refine sR (.bool false) (r_pf rfl rfl) ?_
 refine sR (.bool false) (r_move rfl rfl) ?_
 iterate 2 refine s_skip ?_
 refine sR (.bool false) (r_pf rfl rfl) ?_
 refine sR (.bool false) (r_move rfl rfl) ?_
 iterate 2 refine s_skip ?_
 refine sR (.bool false) (r_pf rfl rfl) ?_
 refine sR (.bool false) (r_move rfl rfl) ?_
 iterate 2 refine s_skip ?_
 refine sR (.bool false) (r_pf rfl rfl) ?_
 refine sR (.bool false) (r_assign rfl rfl) ?_
 refine HL_nil ?_
 show b15J1 v_19 v_24 v_24_1 v_29 v_43 v_53 R _ _
 exact ⟨_, rfl, rfl, rfl, rfl, rfl, rfl, rfl, h⟩
end Go.Proofs.YtnjcgpihfmklfaaDoor
