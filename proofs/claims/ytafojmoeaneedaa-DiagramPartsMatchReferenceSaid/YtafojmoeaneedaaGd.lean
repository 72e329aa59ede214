/-
  What functions of the program do, in a clean form, each with the proof that its code does so. Printed by a program.
-/
import Derived.Test.YtafojmoeaneedaaGf
import Derived.Test.YtafojmoeaneedaaPho
namespace Go.Proofs.Ytafojmoeaneedaa
open Go Go.Proofs.Try
set_option maxRecDepth 10000
set_option maxHeartbeats 4000000
/- 32 koine.diagram.Count -/
def b32j2 (b2 : Nat) (b9 : Nat) (b10 : Nat) (R : Value → PH → Prop) (F : PH) : Prop :=
 ∃ v_103 : Int, F.cell (Addr.mk b2 1 none) = some (.int .i64 v_103) ∧
 Spec prog 75 #[(.int .i64 v_103), (.int .i64 (0 : Int)), (.pointer (some (Addr.mk b9 0 none))), (.pointer (some (Addr.mk b10 0 none)))] F fun v F => ∃ v_104 : Sl, ∃ v_104_1 : Int, v = (.tuple #[(Sl.v v_104), (.int .i64 v_104_1)]) ∧
 R (.tuple #[(Sl.v v_104), (.int .i64 v_104_1)]) F
abbrev b32J2 (b2 : Nat) (b9 : Nat) (b10 : Nat) (R : Value → PH → Prop) (E : En) (F : PH) : Prop := E 2 = (.pointer (some (Addr.mk b2 0 none))) ∧ E 11 = (.func (.func 75) #[] #[(.pointer (some (Addr.mk b9 0 none))), (.pointer (some (Addr.mk b10 0 none)))]) ∧ b32j2 b2 b9 b10 R F
def b32L1 (N1 : Int → PH → Prop) (b2 : Nat) (b9 : Nat) (b10 : Nat) (v_55 : Sl) (R : Value → PH → Prop) (v_57 : Int) (F : PH) : Prop :=
 ((v_57 < (v_55.len : Int) →
  ∃ a60_ : Addr, v_55.base = some a60_ ∧ 0 ≤ v_57 ∧ v_57 < (v_55.len : Int) ∧
  ∃ v_61 : Array Value, v_61.size = 3 ∧ F.row (Addr.add a60_ (Int.toNat v_57 * 3)) v_61 ∧
  ∀ b13, F b13 = none → atF (F.set b13 (.cells (#[.int .i64 0, .int .i64 0, .int .i64 0]) 72)) fun F =>
  v_61.size = 3 ∧ (∀ v ∈ v_61.toList, storable v) ∧ ∃ c e, F (Addr.mk b13 0 none).block = some (.cells c e (0, 0)) ∧ (Addr.mk b13 0 none).spot = none ∧ (Addr.mk b13 0 none).off + 3 ≤ c.size ∧
  atF (F.set (Addr.mk b13 0 none).block (.cells (wr c (Addr.mk b13 0 none).off v_61.toList) e)) fun F =>
  ∃ v_65 : Int, F.cell (Addr.mk b13 1 none) = some (.int .i64 v_65) ∧
  ∃ v_67 : Int, F.cell (Addr.mk b13 0 none) = some (.int .i64 v_67) ∧
  Spec prog 75 #[(.int .i64 v_65), (.int .i64 (IntKind.i64.wrap (v_67 + (1 : Int)))), (.pointer (some (Addr.mk b9 0 none))), (.pointer (some (Addr.mk b10 0 none)))] F fun v F => ∃ v_69 : Sl, ∃ v_69_1 : Int, v = (.tuple #[(Sl.v v_69), (.int .i64 v_69_1)]) ∧
  ∃ v_75 : Int, F.cell (Addr.mk b13 2 none) = some (.int .i64 v_75) ∧
  ∃ v_77 : Int, F.cell (Addr.mk b13 0 none) = some (.int .i64 v_77) ∧
  Spec prog 75 #[(.int .i64 v_75), (.int .i64 (IntKind.i64.wrap (v_77 + (1 : Int)))), (.pointer (some (Addr.mk b9 0 none))), (.pointer (some (Addr.mk b10 0 none)))] F fun v F => ∃ v_79 : Sl, ∃ v_79_1 : Int, v = (.tuple #[(Sl.v v_79), (.int .i64 v_79_1)]) ∧
  Spec prog 33 #[(Sl.v v_69), (Sl.v v_79)] F fun v F => ∃ v_85 : Sl, ∃ v_85_1 : Int, v = (.tuple #[(Sl.v v_85), (.int .i64 v_85_1)]) ∧
  (((max (max v_69_1 v_79_1) v_85_1) ≠ (0 : Int) →
   R (.tuple #[(Sl.v Sl.nil), (.int .i64 (max (max v_69_1 v_79_1) v_85_1))]) F) ∧
  (¬ ((max (max v_69_1 v_79_1) v_85_1) ≠ (0 : Int)) →
   ∃ v_95 : Sl, F.cell (Addr.mk b9 0 none) = some (Sl.v v_95) ∧
   ∃ a99_ : Addr, v_95.base = some a99_ ∧ 0 ≤ (IntKind.i64.wrap (v_57 + (2 : Int))) ∧ (IntKind.i64.wrap (v_57 + (2 : Int))) < (v_95.len : Int) ∧
   ∃ c e, F (Addr.add a99_ (Int.toNat (IntKind.i64.wrap (v_57 + (2 : Int))) * 1)).block = some (.cells c e (0, 0)) ∧ (Addr.add a99_ (Int.toNat (IntKind.i64.wrap (v_57 + (2 : Int))) * 1)).spot = none ∧ (Addr.add a99_ (Int.toNat (IntKind.i64.wrap (v_57 + (2 : Int))) * 1)).off < c.size ∧
   atF (F.set (Addr.add a99_ (Int.toNat (IntKind.i64.wrap (v_57 + (2 : Int))) * 1)).block (.cells (c.setIfInBounds (Addr.add a99_ (Int.toNat (IntKind.i64.wrap (v_57 + (2 : Int))) * 1)).off (Sl.v v_85)) e)) fun F =>
   N1 (IntKind.i64.wrap (v_57 + (1 : Int))) F))) ∧
 (¬ (v_57 < (v_55.len : Int)) →
  b32j2 b2 b9 b10 R F))
def b32j1 (b2 : Nat) (b3 : Nat) (R : Value → PH → Prop) (F : PH) : Prop :=
 ∃ v_45 : Sl, F.cell (Addr.mk b2 0 none) = some (Sl.v v_45) ∧
 runs prog (Instr.makeSlice 93 (.int .i64 (IntKind.i64.wrap ((v_45.len : Int) + (2 : Int)))) (.int .i64 (IntKind.i64.wrap ((v_45.len : Int) + (2 : Int))))) F fun v F => ∃ v_48 : Sl, v = (Sl.v v_48) ∧
 ∀ b9, F b9 = none → atF (F.set b9 (.cells (#[.slice none 0 0]) 93)) fun F =>
 ∃ c e, F (Addr.mk b9 0 none).block = some (.cells c e (0, 0)) ∧ (Addr.mk b9 0 none).spot = none ∧ (Addr.mk b9 0 none).off < c.size ∧
 atF (F.set (Addr.mk b9 0 none).block (.cells (c.setIfInBounds (Addr.mk b9 0 none).off (Sl.v v_48)) e)) fun F =>
 ∃ v_49 : Sl, F.cell (Addr.mk b9 0 none) = some (Sl.v v_49) ∧
 Spec prog 35 #[(.int .u64 (1 : Int))] F fun v F => ∃ v_50 : Sl, v = (Sl.v v_50) ∧
 F.cell (Addr.mk b9 0 none) = some (Sl.v v_49) ∧ ∃ a51_ : Addr, v_49.base = some a51_ ∧ 0 ≤ (1 : Int) ∧ (1 : Int) < (v_49.len : Int) ∧
 ∃ c e, F (Addr.add a51_ (Int.toNat (1 : Int) * 1)).block = some (.cells c e (0, 0)) ∧ (Addr.add a51_ (Int.toNat (1 : Int) * 1)).spot = none ∧ (Addr.add a51_ (Int.toNat (1 : Int) * 1)).off < c.size ∧
 atF (F.set (Addr.add a51_ (Int.toNat (1 : Int) * 1)).block (.cells (c.setIfInBounds (Addr.add a51_ (Int.toNat (1 : Int) * 1)).off (Sl.v v_50)) e)) fun F =>
 ∀ b10, F b10 = none → atF (F.set b10 (.cells (#[.nilFunc]) 94)) fun F =>
 ∃ c e, F (Addr.mk b10 0 none).block = some (.cells c e (0, 0)) ∧ (Addr.mk b10 0 none).spot = none ∧ (Addr.mk b10 0 none).off < c.size ∧
 atF (F.set (Addr.mk b10 0 none).block (.cells (c.setIfInBounds (Addr.mk b10 0 none).off (.func (.func 74) #[] #[(.pointer (some (Addr.mk b3 0 none))), (.pointer (some (Addr.mk b2 0 none)))])) e)) fun F =>
 ∃ v_55 : Sl, F.cell (Addr.mk b2 0 none) = some (Sl.v v_55) ∧
 (∃ (I1 : Nat → Int → PH → Prop) (m1 : Nat), I1 m1 (0 : Int) F ∧ ∀ m1 v_57 F, I1 m1 v_57 F →
  b32L1 (fun v_57 F => ∃ m', m' < m1 ∧ I1 m' v_57 F) b2 b9 b10 v_55 R v_57 F)
abbrev b32J1 (b2 : Nat) (b3 : Nat) (R : Value → PH → Prop) (E : En) (F : PH) : Prop := E 2 = (.pointer (some (Addr.mk b2 0 none))) ∧ E 3 = (.pointer (some (Addr.mk b3 0 none))) ∧ b32j1 b2 b3 R F
def b32L2 (N2 : Int → PH → Prop) (b2 : Nat) (b3 : Nat) (v_33 : Sl) (R : Value → PH → Prop) (v_35 : Int) (F : PH) : Prop :=
 ((v_35 < (v_33.len : Int) →
  ∃ a37_ : Addr, v_33.base = some a37_ ∧ 0 ≤ v_35 ∧ v_35 < (v_33.len : Int) ∧
  ∃ v_38 : Array Value, v_38.size = 3 ∧ F.row (Addr.add a37_ (Int.toNat v_35 * 3)) v_38 ∧
  ∀ b8, F b8 = none → atF (F.set b8 (.cells (#[.int .i64 0, .int .i64 0, .int .i64 0]) 72)) fun F =>
  v_38.size = 3 ∧ (∀ v ∈ v_38.toList, storable v) ∧ ∃ c e, F (Addr.mk b8 0 none).block = some (.cells c e (0, 0)) ∧ (Addr.mk b8 0 none).spot = none ∧ (Addr.mk b8 0 none).off + 3 ≤ c.size ∧
  atF (F.set (Addr.mk b8 0 none).block (.cells (wr c (Addr.mk b8 0 none).off v_38.toList) e)) fun F =>
  ∃ v_40 : Int, F.cell (Addr.mk b8 0 none) = some (.int .i64 v_40) ∧
  ∃ v_41 : Int, F.cell (Addr.mk b3 0 none) = some (.int .i64 v_41) ∧
  ((v_41 ≤ v_40 →
   R (.tuple #[(Sl.v Sl.nil), (.int .i64 (1 : Int))]) F) ∧
  (¬ (v_41 ≤ v_40) →
   N2 (IntKind.i64.wrap (v_35 + (1 : Int))) F))) ∧
 (¬ (v_35 < (v_33.len : Int)) →
  b32j1 b2 b3 R F))
def b32 (a_0 : Array Value) (n_1 : Int) (R : Value → PH → Prop) (F : PH) : Prop :=
 ∀ b2, F b2 = none → atF (F.set b2 (.cells a_0 28)) fun F =>
 ∀ b3, F b3 = none → atF (F.set b3 (.cells #[(.int .i64 n_1)] 3)) fun F =>
 ∃ v_21 : Array Value, v_21.size = 2 ∧ F.row (Addr.mk b2 0 none) v_21 ∧
 Spec prog 23 #[(.agg v_21)] F fun v F => ∃ v_22 : Int, v = (.int .i64 v_22) ∧
 ((v_22 ≠ (0 : Int) →
  R (.tuple #[(Sl.v Sl.nil), (.int .i64 v_22)]) F) ∧
 (¬ (v_22 ≠ (0 : Int)) →
  ∃ v_26 : Int, F.cell (Addr.mk b3 0 none) = some (.int .i64 v_26) ∧
  ((v_26 < (0 : Int) →
   R (.tuple #[(Sl.v Sl.nil), (.int .i64 (1 : Int))]) F) ∧
  (¬ (v_26 < (0 : Int)) →
   ∃ v_29 : Int, F.cell (Addr.mk b3 0 none) = some (.int .i64 v_29) ∧
   (((64 : Int) < v_29 →
    R (.tuple #[(Sl.v Sl.nil), (.int .i64 (1 : Int))]) F) ∧
   (¬ ((64 : Int) < v_29) →
    ∃ v_33 : Sl, F.cell (Addr.mk b2 0 none) = some (Sl.v v_33) ∧
    (∃ (I2 : Nat → Int → PH → Prop) (m2 : Nat), I2 m2 (0 : Int) F ∧ ∀ m2 v_35 F, I2 m2 v_35 F →
     b32L2 (fun v_35 F => ∃ m', m' < m2 ∧ I2 m' v_35 F) b2 b3 v_33 R v_35 F)))))))
theorem c32 {a_0 : Array Value} {n_1 : Int} {R : Value → PH → Prop} {F : PH} (h : b32 a_0 n_1 R F) : Spec prog 32 #[(.agg a_0), (.int .i64 n_1)] F R := by
 refine spec_of (args := [(.agg a_0), (.int .i64 n_1)]) func32 rfl ntmps32 rfl ?_
 unfold b32 at h
 refine cR ?_
 refine s_ef (k_box (cs := a_0) rfl rfl ?_)
 intro b2 hf_b2
 replace h := atE (h b2 hf_b2)
 refine s_ef (k_box (cs := #[(.int .i64 n_1)]) rfl rfl ?_)
 intro b3 hf_b3
 replace h := atE (h b3 hf_b3)
 refine sR (Sl.v Sl.nil) (r_assign rfl rfl) ?_
 refine sR (.int .i64 (0 : Int)) (r_assign rfl rfl) ?_
 refine HL_nil ?_
 refine HC_seq ?_
 refine cR ?_
 obtain ⟨v_21, hs21, hc21, h⟩ := h
 refine sR (.agg v_21) (w_loadN rfl underlying28 rfl sz28 hs21 hc21) ?_
 refine s_ef (k_call (vs := [(.agg v_21)]) cb23 (evC rfl evN) (h.mono ?_))
 clear h; rintro v F ⟨v_22, rfl, h⟩
 refine sR (.int .i64 v_22) (r_assign rfl rfl) ?_
 refine HL_nil ?_
 refine cR ?_
 refine sR (.int .i64 v_22) (r_move rfl rfl) ?_
 refine sR (.bool (decide (v_22 ≠ (0 : Int)))) (w_neq rfl rfl) ?_
 refine HL_nil ?_
 refine HC_cond (t := (decide (v_22 ≠ (0 : Int)))) rfl (fun hc => ?_) (fun hc => ?_)
 ·
  replace h := h.1 (of_decide_eq_true hc)
  clear hc
  refine cR ?_
  refine sR (.int .i64 v_22) (r_move rfl rfl) ?_
  refine sR (Sl.v Sl.nil) (r_assign rfl rfl) ?_
  refine sR (.int .i64 v_22) (r_assign rfl rfl) ?_
  refine HL_nil ?_
  exact HC_ret (show endQ prog f32 R .ret _ _ from ⟨_, res2 rfl (rv_tmp rfl) (rv_tmp rfl), h⟩)
 ·
  replace h := h.2 (of_decide_eq_false hc)
  clear hc
  refine HC_skip ?_
  refine HC_seq ?_
  refine cR ?_
  obtain ⟨v_26, hc26, h⟩ := h
  refine sR (.int .i64 v_26) (r_load1 rfl rfl underlying3 rfl hc26) ?_
  refine sR (.bool (decide (v_26 < (0 : Int)))) (r_lss rfl rfl rfl) ?_
  refine sR (.bool (decide (v_26 < (0 : Int)))) (r_move rfl rfl) ?_
  by_cases hc : v_26 < (0 : Int)
  ·
   replace h := h.1 hc
   refine kN 27 (decide_eq_true hc) ?_
   refine kN 28 (decide_eq_true hc) ?_
   refine s_skip ?_
   refine s_skip ?_
   refine sR (.bool true) (r_pick rfl rfl (fun _ => rfl) (fun h => by cases h)) ?_
   refine HL_nil ?_
   refine HC_condT rfl ?_
   refine cR ?_
   refine sR (Sl.v Sl.nil) (r_assign rfl rfl) ?_
   refine sR (.int .i64 (1 : Int)) (r_assign rfl rfl) ?_
   refine HL_nil ?_
   exact HC_ret (show endQ prog f32 R .ret _ _ from ⟨_, res2 rfl (rv_tmp rfl) (rv_tmp rfl), h⟩)
  ·
   replace h := h.2 hc
   refine kN 27 (decide_eq_false hc) ?_
   refine kN 28 (decide_eq_false hc) ?_
   obtain ⟨v_29, hc29, h⟩ := h
   refine sR (.int .i64 v_29) (r_load1 rfl rfl underlying3 rfl hc29) ?_
   refine sR (.bool (decide ((64 : Int) < v_29))) (r_gtr rfl rfl rfl) ?_
   refine sR (.bool (decide ((64 : Int) < v_29))) (r_pick rfl rfl (fun h => by cases h) (fun _ => rfl)) ?_
   refine HL_nil ?_
   refine HC_cond (t := (decide ((64 : Int) < v_29))) rfl (fun hc => ?_) (fun hc => ?_)
   ·
    replace h := h.1 (of_decide_eq_true hc)
    clear hc
    refine cR ?_
    refine sR (Sl.v Sl.nil) (r_assign rfl rfl) ?_
    refine sR (.int .i64 (1 : Int)) (r_assign rfl rfl) ?_
    refine HL_nil ?_
    exact HC_ret (show endQ prog f32 R .ret _ _ from ⟨_, res2 rfl (rv_tmp rfl) (rv_tmp rfl), h⟩)
   ·
    replace h := h.2 (of_decide_eq_false hc)
    clear hc
    refine HC_skip ?_
    refine HC_seqJ (b32J1 b2 b3 R) ?_ ?_
    ·
     clear h; rintro E F ⟨h2, h3, h⟩
     unfold b32j1 at h
     refine cR ?_
     refine sR (.pointer (some (Addr.mk b2 0 none))) (w_fieldAddr (a' := (Addr.mk b2 0 none)) h2 underlying28 rfl rfl sz26 rfl rfl) ?_
     obtain ⟨v_45, hc45, h⟩ := h
     refine sR (Sl.v v_45) (r_load1 rfl rfl underlying26 rfl hc45) ?_
     refine sR (.int .i64 (v_45.len : Int)) (r_lenSl rfl rfl underlying26) ?_
     refine sR (.int .i64 (IntKind.i64.wrap ((v_45.len : Int) + (2 : Int)))) (r_add rfl rfl rfl) ?_
     refine s_ef (k_makeSlice rfl rfl (runs_mono _ _ h ?_))
     clear h; rintro v F ⟨v_48, rfl, h⟩
     refine s_ef (k_alloc zr93 ?_)
     intro b9 hf_b9
     replace h := atE (h b9 hf_b9)
     refine s_ef0 (k_store1 (v := (Sl.v v_48)) rfl rfl sz93 rfl st_sl ?_)
     obtain ⟨c, e, hz3, hz4, hz5, h⟩ := h
     refine ⟨c, e, hz3, hz4, hz5, ?_⟩
     replace h := atE h
     refine HL_nil ?_
     refine HC_seq ?_
     refine HC_draw0 (by kernel_rfl) (fun hp => ?_)
     obtain ⟨v_49, hc49, h⟩ := h
     refine gR 0 (Sl.v v_49) rfl (r_load1 rfl rfl underlying93 rfl hc49) hp (fun S0 q0 => ?_)
     replace hp := holdC (i := 0) (q0 _ (r_load1 rfl rfl underlying93 rfl hc49)) hp
     refine RG_eff1 (i := 1) (by kernel_rfl) (g_op (Sp' := [(0, S0)]) rfl rfl (k_call (vs := [(.int .u64 (1 : Int))]) cb35 (evC rfl evN) (h.mono ?_)))
     clear h; rintro v F ⟨v_50, rfl, h⟩
     obtain ⟨hk_2, h⟩ := h
     refine holdI (holdC (i := 0) (q0 _ (r_load1 rfl rfl underlying93 rfl hk_2)) hold0) (fun hp => ?_)
     obtain ⟨a51_, hb51, hl51, hu51, h⟩ := h
     refine gU 2 (.pointer (some (Addr.add a51_ (Int.toNat (1 : Int) * 1)))) rfl (fun _ => w_indexAddr rfl rfl underlying93 sz57 hb51 hl51 hu51) hp ?_
     refine RG_eff1 (i := 3) (by kernel_rfl) (g_op0 (Sp' := []) rfl rfl (k_store1 (v := (Sl.v v_50)) rfl rfl sz57 rfl st_sl ?_))
     obtain ⟨c, e, hz3, hz4, hz5, h⟩ := h
     refine ⟨c, e, hz3, hz4, hz5, ?_⟩
     replace h := atE h
     refine holdI hold0 (fun hp => ?_)
     refine RG_done (by kernel_rfl) ?_
     refine cR ?_
     refine sR (.func (.func 74) #[] #[(.pointer (some (Addr.mk b3 0 none))), (.pointer (some (Addr.mk b2 0 none)))]) (w_makeFunc evN (evC h3 (evC h2 evN))) ?_
     refine s_ef (k_alloc zr94 ?_)
     intro b10 hf_b10
     replace h := atE (h b10 hf_b10)
     refine s_ef0 (k_store1 (v := (.func (.func 74) #[] #[(.pointer (some (Addr.mk b3 0 none))), (.pointer (some (Addr.mk b2 0 none)))])) rfl rfl sz94 rfl st_func ?_)
     obtain ⟨c, e, hz3, hz4, hz5, h⟩ := h
     refine ⟨c, e, hz3, hz4, hz5, ?_⟩
     replace h := atE h
     refine HL_nil ?_
     refine cR ?_
     refine sR (.func (.func 75) #[] #[(.pointer (some (Addr.mk b9 0 none))), (.pointer (some (Addr.mk b10 0 none)))]) (w_makeFunc evN (evC rfl (evC rfl evN))) ?_
     refine sR (.func (.func 75) #[] #[(.pointer (some (Addr.mk b9 0 none))), (.pointer (some (Addr.mk b10 0 none)))]) (r_assign rfl rfl) ?_
     refine HL_nil ?_
     refine HC_seqJ (b32J2 b2 b9 b10 R) ?_ ?_
     ·
      clear h; rintro E F ⟨h2, h11, h⟩
      unfold b32j2 at h
      refine cR ?_
      refine sR (.func (.func 75) #[] #[(.pointer (some (Addr.mk b9 0 none))), (.pointer (some (Addr.mk b10 0 none)))]) (r_move rfl h11) ?_
      refine sR (.pointer (some (Addr.mk b2 1 none))) (w_fieldAddr (a' := (Addr.mk b2 1 none)) h2 underlying28 rfl rfl sz3 rfl rfl) ?_
      obtain ⟨v_103, hc103, h⟩ := h
      refine sR (.int .i64 v_103) (r_load1 rfl rfl underlying3 rfl hc103) ?_
      refine s_ef (k_callF (vs := [(.int .i64 v_103), (.int .i64 (0 : Int))]) cb75 rfl (evC rfl (evC rfl evN)) (h.mono ?_))
      clear h; rintro v F ⟨v_104, v_104_1, rfl, h⟩
      refine sR (Sl.v v_104) (r_extract rfl rfl rfl) ?_
      refine sR (.int .i64 v_104_1) (r_extract rfl rfl rfl) ?_
      refine sR (Sl.v v_104) (r_assign rfl rfl) ?_
      refine sR (.int .i64 v_104_1) (r_assign rfl rfl) ?_
      refine HL_nil ?_
      exact HC_ret (show endQ prog f32 R .ret _ _ from ⟨_, res2 rfl (rv_tmp rfl) (rv_tmp rfl), h⟩)
     ·
      skip
      refine cR ?_
      refine sR (.pointer (some (Addr.mk b2 0 none))) (w_fieldAddr (a' := (Addr.mk b2 0 none)) h2 underlying28 rfl rfl sz26 rfl rfl) ?_
      obtain ⟨v_55, hc55, h⟩ := h
      refine sR (Sl.v v_55) (r_load1 rfl rfl underlying26 rfl hc55) ?_
      refine sR (.int .i64 (v_55.len : Int)) (r_lenSl rfl rfl underlying26) ?_
      refine sR (.int .i64 (0 : Int)) (r_move rfl rfl) ?_
      refine HL_nil ?_
      refine HC_block ?_
      obtain ⟨I1, m1, hI0, hr⟩ := h
      refine HC_loop (fun m1 E F => ∃ v_57 : Int, E 2 = (.pointer (some (Addr.mk b2 0 none))) ∧ E 9 = (.pointer (some (Addr.mk b9 0 none))) ∧ E 11 = (.func (.func 75) #[] #[(.pointer (some (Addr.mk b9 0 none))), (.pointer (some (Addr.mk b10 0 none)))]) ∧ E 55 = (Sl.v v_55) ∧ E 56 = (.int .i64 (v_55.len : Int)) ∧ E 57 = (.int .i64 v_57) ∧ I1 m1 v_57 F) m1 ⟨_, h2, rfl, rfl, rfl, rfl, rfl, hI0⟩ ?_
      clear hI0; rintro m1 E F ⟨v_57, h2, h9, h11, h55, h56, h57, hI⟩
      have h := hr m1 v_57 F hI
      clear hr hI
      unfold b32L1 at h
      refine cR ?_
      refine sR (.bool (decide (v_57 < (v_55.len : Int)))) (r_lss rfl h57 h56) ?_
      refine HL_nil ?_
      refine HC_seq ?_
      refine HC_cond (t := (decide (v_57 < (v_55.len : Int)))) rfl (fun hc => ?_) (fun hc => ?_)
      ·
       replace h := h.1 (of_decide_eq_true hc)
       clear hc
       refine HC_skip ?_
       refine HC_seq ?_
       refine HC_block ?_
       refine cR ?_
       refine sR (.int .i64 v_57) (r_move rfl h57) ?_
       obtain ⟨a60_, hb60, hl60, hu60, h⟩ := h
       refine sR (.pointer (some (Addr.add a60_ (Int.toNat v_57 * 3)))) (w_indexAddr h55 h57 underlying26 sz72 hb60 hl60 hu60) ?_
       obtain ⟨v_61, hs61, hc61, h⟩ := h
       refine sR (.agg v_61) (w_loadN rfl underlying72 rfl sz72 hs61 hc61) ?_
       refine s_ef (k_alloc zr72 ?_)
       intro b13 hf_b13
       replace h := atE (h b13 hf_b13)
       refine sR (.int .i64 v_57) (r_assign rfl rfl) ?_
       refine s_ef0 (k_storeN (vs := v_61) rfl rfl sz72 (by decide) ?_)
       obtain ⟨hz1, hz2, c, e, hz3, hz4, hz5, h⟩ := h
       refine ⟨hz1, hz2, c, e, hz3, hz4, hz5, ?_⟩
       replace h := atE h
       refine HL_nil ?_
       refine cR ?_
       refine sR (.func (.func 75) #[] #[(.pointer (some (Addr.mk b9 0 none))), (.pointer (some (Addr.mk b10 0 none)))]) (r_move rfl h11) ?_
       refine sR (.pointer (some (Addr.mk b13 1 none))) (w_fieldAddr (a' := (Addr.mk b13 1 none)) rfl underlying72 rfl rfl sz3 rfl rfl) ?_
       obtain ⟨v_65, hc65, h⟩ := h
       refine sR (.int .i64 v_65) (r_load1 rfl rfl underlying3 rfl hc65) ?_
       refine sR (.pointer (some (Addr.mk b13 0 none))) (w_fieldAddr (a' := (Addr.mk b13 0 none)) rfl underlying72 rfl rfl sz3 rfl rfl) ?_
       obtain ⟨v_67, hc67, h⟩ := h
       refine sR (.int .i64 v_67) (r_load1 rfl rfl underlying3 rfl hc67) ?_
       refine sR (.int .i64 (IntKind.i64.wrap (v_67 + (1 : Int)))) (r_add rfl rfl rfl) ?_
       refine s_ef (k_callF (vs := [(.int .i64 v_65), (.int .i64 (IntKind.i64.wrap (v_67 + (1 : Int))))]) cb75 rfl (evC rfl (evC rfl evN)) (h.mono ?_))
       clear h; rintro v F ⟨v_69, v_69_1, rfl, h⟩
       refine sR (.tuple #[(Sl.v v_69), (.int .i64 v_69_1)]) (r_move rfl rfl) ?_
       refine sR (Sl.v v_69) (r_extract rfl rfl rfl) ?_
       refine sR (.int .i64 v_69_1) (r_extract rfl rfl rfl) ?_
       refine sR (Sl.v v_69) (r_assign rfl rfl) ?_
       refine sR (.int .i64 v_69_1) (r_assign rfl rfl) ?_
       refine HL_nil ?_
       refine cR ?_
       refine sR (.func (.func 75) #[] #[(.pointer (some (Addr.mk b9 0 none))), (.pointer (some (Addr.mk b10 0 none)))]) (r_move rfl h11) ?_
       refine sR (.pointer (some (Addr.mk b13 2 none))) (w_fieldAddr (a' := (Addr.mk b13 2 none)) rfl underlying72 rfl rfl sz3 rfl rfl) ?_
       obtain ⟨v_75, hc75, h⟩ := h
       refine sR (.int .i64 v_75) (r_load1 rfl rfl underlying3 rfl hc75) ?_
       refine sR (.pointer (some (Addr.mk b13 0 none))) (w_fieldAddr (a' := (Addr.mk b13 0 none)) rfl underlying72 rfl rfl sz3 rfl rfl) ?_
       obtain ⟨v_77, hc77, h⟩ := h
       refine sR (.int .i64 v_77) (r_load1 rfl rfl underlying3 rfl hc77) ?_
       refine sR (.int .i64 (IntKind.i64.wrap (v_77 + (1 : Int)))) (r_add rfl rfl rfl) ?_
       refine s_ef (k_callF (vs := [(.int .i64 v_75), (.int .i64 (IntKind.i64.wrap (v_77 + (1 : Int))))]) cb75 rfl (evC rfl (evC rfl evN)) (h.mono ?_))
       clear h; rintro v F ⟨v_79, v_79_1, rfl, h⟩
       refine sR (.tuple #[(Sl.v v_79), (.int .i64 v_79_1)]) (r_move rfl rfl) ?_
       refine sR (Sl.v v_79) (r_extract rfl rfl rfl) ?_
       refine sR (.int .i64 v_79_1) (r_extract rfl rfl rfl) ?_
       refine sR (Sl.v v_79) (r_assign rfl rfl) ?_
       refine sR (.int .i64 v_79_1) (r_assign rfl rfl) ?_
       refine HL_nil ?_
       refine cR ?_
       refine sR (Sl.v v_69) (r_move rfl rfl) ?_
       refine sR (Sl.v v_79) (r_move rfl rfl) ?_
       refine s_ef (k_call (vs := [(Sl.v v_69), (Sl.v v_79)]) cb33 (evC rfl (evC rfl evN)) (h.mono ?_))
       clear h; rintro v F ⟨v_85, v_85_1, rfl, h⟩
       refine sR (.tuple #[(Sl.v v_85), (.int .i64 v_85_1)]) (r_move rfl rfl) ?_
       refine sR (Sl.v v_85) (r_extract rfl rfl rfl) ?_
       refine sR (.int .i64 v_85_1) (r_extract rfl rfl rfl) ?_
       refine sR (Sl.v v_85) (r_assign rfl rfl) ?_
       refine sR (.int .i64 v_85_1) (r_assign rfl rfl) ?_
       refine HL_nil ?_
       refine HC_seq ?_
       refine cR ?_
       refine sR (.int .i64 v_69_1) (r_move rfl rfl) ?_
       refine sR (.int .i64 v_79_1) (r_move rfl rfl) ?_
       refine sR (.int .i64 v_85_1) (r_move rfl rfl) ?_
       refine sR (.int .i64 (max (max v_69_1 v_79_1) v_85_1)) (r_max3 rfl rfl rfl rfl) ?_
       refine sR (.int .i64 (max (max v_69_1 v_79_1) v_85_1)) (r_assign rfl rfl) ?_
       refine HL_nil ?_
       refine cR ?_
       refine sR (.int .i64 (max (max v_69_1 v_79_1) v_85_1)) (r_move rfl rfl) ?_
       refine sR (.bool (decide ((max (max v_69_1 v_79_1) v_85_1) ≠ (0 : Int)))) (w_neq rfl rfl) ?_
       refine HL_nil ?_
       refine HC_cond (t := (decide ((max (max v_69_1 v_79_1) v_85_1) ≠ (0 : Int)))) rfl (fun hc => ?_) (fun hc => ?_)
       ·
        replace h := h.1 (of_decide_eq_true hc)
        clear hc
        refine cR ?_
        refine sR (.int .i64 (max (max v_69_1 v_79_1) v_85_1)) (r_move rfl rfl) ?_
        refine sR (Sl.v Sl.nil) (r_assign rfl rfl) ?_
        refine sR (.int .i64 (max (max v_69_1 v_79_1) v_85_1)) (r_assign rfl rfl) ?_
        refine HL_nil ?_
        exact HC_ret (show endQ prog f32 R .ret _ _ from ⟨_, res2 rfl (rv_tmp rfl) (rv_tmp rfl), h⟩)
       ·
        replace h := h.2 (of_decide_eq_false hc)
        clear hc
        refine HC_skip ?_
        refine HC_region ?_
        obtain ⟨v_95, hc95, h⟩ := h
        refine sR (Sl.v v_95) (r_load1 rfl h9 underlying93 rfl hc95) ?_
        refine sR (.int .i64 v_57) (r_move rfl rfl) ?_
        refine sR (.int .i64 (IntKind.i64.wrap (v_57 + (2 : Int)))) (r_add rfl rfl rfl) ?_
        refine sR (Sl.v v_85) (r_move rfl rfl) ?_
        obtain ⟨a99_, hb99, hl99, hu99, h⟩ := h
        refine sR (.pointer (some (Addr.add a99_ (Int.toNat (IntKind.i64.wrap (v_57 + (2 : Int))) * 1)))) (w_indexAddr rfl rfl underlying93 sz57 hb99 hl99 hu99) ?_
        refine s_ef0 (k_store1 (v := (Sl.v v_85)) rfl rfl sz57 rfl st_sl ?_)
        obtain ⟨c, e, hz3, hz4, hz5, h⟩ := h
        refine ⟨c, e, hz3, hz4, hz5, ?_⟩
        replace h := atE h
        refine HL_nil ?_
        refine HC_region ?_
        refine sR (.int .i64 (IntKind.i64.wrap (v_57 + (1 : Int)))) (r_add rfl h57 rfl) ?_
        refine sR (.int .i64 (IntKind.i64.wrap (v_57 + (1 : Int)))) (r_move rfl rfl) ?_
        refine HL_nil ?_
        obtain ⟨m', hm, h⟩ := h
        exact ⟨m', hm, _, h2, h9, h11, h55, h56, rfl, h⟩
      ·
       replace h := h.2 (of_decide_eq_false hc)
       clear hc
       refine HC_exit ?_
       show b32J2 b2 b9 b10 R _ _
       exact ⟨h2, h11, h⟩
    ·
     skip
     refine cR ?_
     refine sR (.pointer (some (Addr.mk b2 0 none))) (w_fieldAddr (a' := (Addr.mk b2 0 none)) rfl underlying28 rfl rfl sz26 rfl rfl) ?_
     obtain ⟨v_33, hc33, h⟩ := h
     refine sR (Sl.v v_33) (r_load1 rfl rfl underlying26 rfl hc33) ?_
     refine sR (.int .i64 (v_33.len : Int)) (r_lenSl rfl rfl underlying26) ?_
     refine sR (.int .i64 (0 : Int)) (r_move rfl rfl) ?_
     refine HL_nil ?_
     refine HC_block ?_
     obtain ⟨I2, m2, hI0, hr⟩ := h
     refine HC_loop (fun m2 E F => ∃ v_35 : Int, E 2 = (.pointer (some (Addr.mk b2 0 none))) ∧ E 3 = (.pointer (some (Addr.mk b3 0 none))) ∧ E 33 = (Sl.v v_33) ∧ E 34 = (.int .i64 (v_33.len : Int)) ∧ E 35 = (.int .i64 v_35) ∧ I2 m2 v_35 F) m2 ⟨_, rfl, rfl, rfl, rfl, rfl, hI0⟩ ?_
     clear hI0; rintro m2 E F ⟨v_35, h2, h3, h33, h34, h35, hI⟩
     have h := hr m2 v_35 F hI
     clear hr hI
     unfold b32L2 at h
     refine cR ?_
     refine sR (.bool (decide (v_35 < (v_33.len : Int)))) (r_lss rfl h35 h34) ?_
     refine HL_nil ?_
     refine HC_seq ?_
     refine HC_cond (t := (decide (v_35 < (v_33.len : Int)))) rfl (fun hc => ?_) (fun hc => ?_)
     ·
      replace h := h.1 (of_decide_eq_true hc)
      clear hc
      refine HC_skip ?_
      refine HC_seq ?_
      refine HC_block ?_
      refine cR ?_
      obtain ⟨a37_, hb37, hl37, hu37, h⟩ := h
      refine sR (.pointer (some (Addr.add a37_ (Int.toNat v_35 * 3)))) (w_indexAddr h33 h35 underlying26 sz72 hb37 hl37 hu37) ?_
      obtain ⟨v_38, hs38, hc38, h⟩ := h
      refine sR (.agg v_38) (w_loadN rfl underlying72 rfl sz72 hs38 hc38) ?_
      refine s_ef (k_alloc zr72 ?_)
      intro b8 hf_b8
      replace h := atE (h b8 hf_b8)
      refine s_ef0 (k_storeN (vs := v_38) rfl rfl sz72 (by decide) ?_)
      obtain ⟨hz1, hz2, c, e, hz3, hz4, hz5, h⟩ := h
      refine ⟨hz1, hz2, c, e, hz3, hz4, hz5, ?_⟩
      replace h := atE h
      refine HL_nil ?_
      refine cR ?_
      refine sR (.pointer (some (Addr.mk b8 0 none))) (w_fieldAddr (a' := (Addr.mk b8 0 none)) rfl underlying72 rfl rfl sz3 rfl rfl) ?_
      obtain ⟨v_40, hc40, h⟩ := h
      refine sR (.int .i64 v_40) (r_load1 rfl rfl underlying3 rfl hc40) ?_
      obtain ⟨v_41, hc41, h⟩ := h
      refine sR (.int .i64 v_41) (r_load1 rfl h3 underlying3 rfl hc41) ?_
      refine sR (.bool (decide (v_41 ≤ v_40))) (r_geq rfl rfl rfl) ?_
      refine HL_nil ?_
      refine HC_cond (t := (decide (v_41 ≤ v_40))) rfl (fun hc => ?_) (fun hc => ?_)
      ·
       replace h := h.1 (of_decide_eq_true hc)
       clear hc
       refine cR ?_
       refine sR (Sl.v Sl.nil) (r_assign rfl rfl) ?_
       refine sR (.int .i64 (1 : Int)) (r_assign rfl rfl) ?_
       refine HL_nil ?_
       exact HC_ret (show endQ prog f32 R .ret _ _ from ⟨_, res2 rfl (rv_tmp rfl) (rv_tmp rfl), h⟩)
      ·
       replace h := h.2 (of_decide_eq_false hc)
       clear hc
       refine HC_skip ?_
       refine HC_region ?_
       refine sR (.int .i64 (IntKind.i64.wrap (v_35 + (1 : Int)))) (r_add rfl h35 rfl) ?_
       refine sR (.int .i64 (IntKind.i64.wrap (v_35 + (1 : Int)))) (r_move rfl rfl) ?_
       refine HL_nil ?_
       obtain ⟨m', hm, h⟩ := h
       exact ⟨m', hm, _, h2, h3, h33, h34, rfl, h⟩
     ·
      replace h := h.2 (of_decide_eq_false hc)
      clear hc
      refine HC_exit ?_
      show b32J1 b2 b3 R _ _
      exact ⟨h2, h3, h⟩

/- 74 koine.diagram.Count$1 -/
def b74 (x_0 : Int) (v_1 : Option Addr) (v_2 : Option Addr) (R : Value → PH → Prop) (F : PH) : Prop :=
 ∃ v1a_ : Addr, v_1 = some v1a_ ∧ ∃ v_5 : Int, F.cell v1a_ = some (.int .i64 v_5) ∧
 ∃ v2a_ : Addr, v_2 = some v2a_ ∧ ∃ v_6 : Array Value, v_6.size = 2 ∧ F.row v2a_ v_6 ∧
 Spec prog 63 #[(.agg v_6), (.int .i64 x_0)] F fun v F => ∃ v_8 : Int, v = (.int .i64 v_8) ∧
 F.cell v1a_ = some (.int .i64 v_5) ∧ R (.int .i64 (min v_5 v_8)) F
theorem c74 {x_0 : Int} {v_1 : Option Addr} {v_2 : Option Addr} {R : Value → PH → Prop} {F : PH} (h : b74 x_0 v_1 v_2 R F) : Spec prog 74 #[(.int .i64 x_0), (.pointer v_1), (.pointer v_2)] F R := by
 refine spec_of (args := [(.int .i64 x_0), (.pointer v_1), (.pointer v_2)]) func74 rfl ntmps74 rfl ?_
 unfold b74 at h
 refine cR ?_
 refine sR (.int .i64 (0 : Int)) (r_assign rfl rfl) ?_
 refine HL_nil ?_
 refine HC_seq ?_
 refine HC_draw0 (by kernel_rfl) (fun hp => ?_)
 obtain ⟨v1a_, rfl, h⟩ := h
 obtain ⟨v_5, hc5, h⟩ := h
 refine gR 0 (.int .i64 v_5) rfl (r_load1 rfl rfl underlying3 rfl hc5) hp (fun S0 q0 => ?_)
 replace hp := holdC (i := 0) (q0 _ (r_load1 rfl rfl underlying3 rfl hc5)) hp
 obtain ⟨v2a_, rfl, h⟩ := h
 obtain ⟨v_6, hs6, hc6, h⟩ := h
 refine gR 1 (.agg v_6) rfl (w_loadN rfl underlying28 rfl sz28 hs6 hc6) hp (fun S1 q1 => ?_)
 replace hp := holdC (i := 1) (q1 _ (w_loadN rfl underlying28 rfl sz28 hs6 hc6)) hp
 refine gU 2 (.int .i64 x_0) rfl (fun _ => r_move rfl rfl) hp ?_
 refine RG_eff1 (i := 3) (by kernel_rfl) (g_op (Sp' := [(0, S0)]) rfl rfl (k_call (vs := [(.agg v_6), (.int .i64 x_0)]) cb63 (evC rfl (evC rfl evN)) (h.mono ?_)))
 clear h; rintro v F ⟨v_8, rfl, h⟩
 obtain ⟨hk_2, h⟩ := h
 refine holdI (holdC (i := 0) (q0 _ (r_load1 rfl rfl underlying3 rfl hk_2)) hold0) (fun hp => ?_)
 refine gU 4 (.int .i64 (min v_5 v_8)) rfl (fun _ => r_min2 rfl rfl rfl) hp ?_
 refine gU 5 (.int .i64 (min v_5 v_8)) rfl (fun _ => r_assign rfl rfl) hp ?_
 refine RG_done (by kernel_rfl) ?_
 exact HC_ret (show endQ prog f74 R .ret _ _ from ⟨_, res1 rfl (rv_tmp rfl), h⟩)

/- 75 koine.diagram.Count$2 -/
def b75j1 (out_8 : Sl) (R : Value → PH → Prop) (F : PH) : Prop :=
 R (.tuple #[(Sl.v out_8), (.int .i64 (0 : Int))]) F
abbrev b75J1 (R : Value → PH → Prop) (E : En) (F : PH) : Prop := ∃ out_8 : Sl, E 8 = (Sl.v out_8) ∧ b75j1 out_8 R F
def b75L1 (N1 : Sl → Int → PH → Prop) (v_17 : Int) (from_1 : Int) (R : Value → PH → Prop) (out_8_1 : Sl) (v_20 : Int) (F : PH) : Prop :=
 ((v_20 < (IntKind.i64.wrap (v_17 - from_1)) →
  Spec prog 33 #[(Sl.v out_8_1), (Sl.v out_8_1)] F fun v F => ∃ v_25 : Sl, ∃ v_25_1 : Int, v = (.tuple #[(Sl.v v_25), (.int .i64 v_25_1)]) ∧
  ((v_25_1 ≠ (0 : Int) →
   R (.tuple #[(Sl.v Sl.nil), (.int .i64 v_25_1)]) F) ∧
  (¬ (v_25_1 ≠ (0 : Int)) →
   N1 v_25 (IntKind.i64.wrap (v_20 + (1 : Int))) F))) ∧
 (¬ (v_20 < (IntKind.i64.wrap (v_17 - from_1))) →
  b75j1 out_8_1 R F))
def b75 (x_0 : Int) (from_1 : Int) (v_2 : Option Addr) (v_3 : Option Addr) (R : Value → PH → Prop) (F : PH) : Prop :=
 ∃ v2a_ : Addr, v_2 = some v2a_ ∧ ∃ v_11 : Sl, F.cell v2a_ = some (Sl.v v_11) ∧
 ∃ a13_ : Addr, v_11.base = some a13_ ∧ 0 ≤ x_0 ∧ x_0 < (v_11.len : Int) ∧
 ∃ v_14 : Sl, F.cell (Addr.add a13_ (Int.toNat x_0 * 1)) = some (Sl.v v_14) ∧
 ∃ v3a_ : Addr, v_3 = some v3a_ ∧ ∃ v_15 : Value, F.cell v3a_ = some v_15 ∧
 ∃ (k17 : Nat) (fst17 cap17 : Array Value), v_15 = Value.func (.func k17) fst17 cap17 ∧ callableB prog k17 = true ∧ Spec prog k17 (fst17 ++ ([(Value.int .i64 x_0)]).toArray ++ cap17) F fun v F => ∃ v_17 : Int, v = (Value.int .i64 v_17) ∧
 (∃ (I1 : Nat → Sl → Int → PH → Prop) (m1 : Nat), I1 m1 v_14 (0 : Int) F ∧ ∀ m1 out_8_1 v_20 F, I1 m1 out_8_1 v_20 F →
  b75L1 (fun out_8_1 v_20 F => ∃ m', m' < m1 ∧ I1 m' out_8_1 v_20 F) v_17 from_1 R out_8_1 v_20 F)
theorem c75 {x_0 : Int} {from_1 : Int} {v_2 : Option Addr} {v_3 : Option Addr} {R : Value → PH → Prop} {F : PH} (h : b75 x_0 from_1 v_2 v_3 R F) : Spec prog 75 #[(.int .i64 x_0), (.int .i64 from_1), (.pointer v_2), (.pointer v_3)] F R := by
 refine spec_of (args := [(.int .i64 x_0), (.int .i64 from_1), (.pointer v_2), (.pointer v_3)]) func75 rfl ntmps75 rfl ?_
 unfold b75 at h
 refine cR ?_
 refine sR (Sl.v Sl.nil) (r_assign rfl rfl) ?_
 refine sR (.int .i64 (0 : Int)) (r_assign rfl rfl) ?_
 refine HL_nil ?_
 refine cR ?_
 obtain ⟨v2a_, rfl, h⟩ := h
 obtain ⟨v_11, hc11, h⟩ := h
 refine sR (Sl.v v_11) (r_load1 rfl rfl underlying93 rfl hc11) ?_
 refine sR (.int .i64 x_0) (r_move rfl rfl) ?_
 obtain ⟨a13_, hb13, hl13, hu13, h⟩ := h
 refine sR (.pointer (some (Addr.add a13_ (Int.toNat x_0 * 1)))) (w_indexAddr rfl rfl underlying93 sz57 hb13 hl13 hu13) ?_
 obtain ⟨v_14, hc14, h⟩ := h
 refine sR (Sl.v v_14) (r_load1 rfl rfl underlying57 rfl hc14) ?_
 refine sR (Sl.v v_14) (r_assign rfl rfl) ?_
 refine HL_nil ?_
 refine HC_seqJ (b75J1 R) ?_ ?_
 ·
  clear h; rintro E F ⟨out_8, h8, h⟩
  unfold b75j1 at h
  refine cR ?_
  refine sR (Sl.v out_8) (r_move rfl h8) ?_
  refine sR (Sl.v out_8) (r_assign rfl rfl) ?_
  refine sR (.int .i64 (0 : Int)) (r_assign rfl rfl) ?_
  refine HL_nil ?_
  exact HC_ret (show endQ prog f75 R .ret _ _ from ⟨_, res2 rfl (rv_tmp rfl) (rv_tmp rfl), h⟩)
 ·
  skip
  refine cR ?_
  obtain ⟨v3a_, rfl, h⟩ := h
  obtain ⟨v_15, hc15, h⟩ := h
  refine sR v_15 (r_load1 rfl rfl underlying94 rfl hc15) ?_
  refine sR (.int .i64 x_0) (r_move rfl rfl) ?_
  obtain ⟨_, _, _, hk1, hk2, h⟩ := h
  refine s_ef (k_callF (vs := [(.int .i64 x_0)]) hk2 ((rfl : _ = v_15).trans hk1) (evC rfl evN) (h.mono ?_))
  clear h; rintro v F ⟨v_17, rfl, h⟩
  refine sR (.int .i64 from_1) (r_move rfl rfl) ?_
  refine sR (.int .i64 (IntKind.i64.wrap (v_17 - from_1))) (r_sub rfl rfl rfl) ?_
  refine sR (.int .i64 (0 : Int)) (r_move rfl rfl) ?_
  refine HL_nil ?_
  refine HC_block ?_
  obtain ⟨I1, m1, hI0, hr⟩ := h
  refine HC_loop (fun m1 E F => ∃ out_8_1 : Sl, ∃ v_20 : Int, E 8 = (Sl.v out_8_1) ∧ E 19 = (.int .i64 (IntKind.i64.wrap (v_17 - from_1))) ∧ E 20 = (.int .i64 v_20) ∧ I1 m1 out_8_1 v_20 F) m1 ⟨_, _, rfl, rfl, rfl, hI0⟩ ?_
  clear hI0; rintro m1 E F ⟨out_8_1, v_20, h8, h19, h20, hI⟩
  have h := hr m1 out_8_1 v_20 F hI
  clear hr hI
  unfold b75L1 at h
  refine cR ?_
  refine sR (.bool (decide (v_20 < (IntKind.i64.wrap (v_17 - from_1))))) (r_lss rfl h20 h19) ?_
  refine HL_nil ?_
  refine HC_seq ?_
  refine HC_cond (t := (decide (v_20 < (IntKind.i64.wrap (v_17 - from_1))))) rfl (fun hc => ?_) (fun hc => ?_)
  ·
   replace h := h.1 (of_decide_eq_true hc)
   clear hc
   refine HC_skip ?_
   refine HC_seq ?_
   refine HC_block ?_
   refine cR ?_
   refine sR (Sl.v out_8_1) (r_move rfl h8) ?_
   refine sR (Sl.v out_8_1) (r_move rfl h8) ?_
   refine s_ef (k_call (vs := [(Sl.v out_8_1), (Sl.v out_8_1)]) cb33 (evC rfl (evC rfl evN)) (h.mono ?_))
   clear h; rintro v F ⟨v_25, v_25_1, rfl, h⟩
   refine sR (.tuple #[(Sl.v v_25), (.int .i64 v_25_1)]) (r_move rfl rfl) ?_
   refine sR (Sl.v v_25) (r_extract rfl rfl rfl) ?_
   refine sR (.int .i64 v_25_1) (r_extract rfl rfl rfl) ?_
   refine sR (Sl.v v_25) (r_assign rfl rfl) ?_
   refine sR (.int .i64 v_25_1) (r_assign rfl rfl) ?_
   refine HL_nil ?_
   refine HC_seq ?_
   refine cR ?_
   refine sR (.int .i64 v_25_1) (r_move rfl rfl) ?_
   refine sR (.bool (decide (v_25_1 ≠ (0 : Int)))) (w_neq rfl rfl) ?_
   refine HL_nil ?_
   refine HC_cond (t := (decide (v_25_1 ≠ (0 : Int)))) rfl (fun hc => ?_) (fun hc => ?_)
   ·
    replace h := h.1 (of_decide_eq_true hc)
    clear hc
    refine cR ?_
    refine sR (.int .i64 v_25_1) (r_move rfl rfl) ?_
    refine sR (Sl.v Sl.nil) (r_assign rfl rfl) ?_
    refine sR (.int .i64 v_25_1) (r_assign rfl rfl) ?_
    refine HL_nil ?_
    exact HC_ret (show endQ prog f75 R .ret _ _ from ⟨_, res2 rfl (rv_tmp rfl) (rv_tmp rfl), h⟩)
   ·
    replace h := h.2 (of_decide_eq_false hc)
    clear hc
    refine HC_skip ?_
    refine HC_region ?_
    refine sR (Sl.v v_25) (r_move rfl rfl) ?_
    refine sR (Sl.v v_25) (r_assign rfl rfl) ?_
    refine HL_nil ?_
    refine HC_region ?_
    refine sR (.int .i64 (IntKind.i64.wrap (v_20 + (1 : Int)))) (r_add rfl h20 rfl) ?_
    refine sR (.int .i64 (IntKind.i64.wrap (v_20 + (1 : Int)))) (r_move rfl rfl) ?_
    refine HL_nil ?_
    obtain ⟨m', hm, h⟩ := h
    exact ⟨m', hm, _, _, rfl, h19, rfl, h⟩
  ·
   replace h := h.2 (of_decide_eq_false hc)
   clear hc
   refine HC_exit ?_
   show b75J1 R _ _
   exact ⟨_, h8, h⟩

/- 33 koine.natural.Add -/
def b33j2 (a_0_1 : Sl) (v_27 : Sl) (carry_7 : Int) (R : Value → PH → Prop) (F : PH) : Prop :=
 ∃ a67_ : Addr, v_27.base = some a67_ ∧ 0 ≤ (a_0_1.len : Int) ∧ (a_0_1.len : Int) < (v_27.len : Int) ∧
 ∃ c e, F (Addr.add a67_ (Int.toNat (a_0_1.len : Int) * 1)).block = some (.cells c e (0, 0)) ∧ (Addr.add a67_ (Int.toNat (a_0_1.len : Int) * 1)).spot = none ∧ (Addr.add a67_ (Int.toNat (a_0_1.len : Int) * 1)).off < c.size ∧
 atF (F.set (Addr.add a67_ (Int.toNat (a_0_1.len : Int) * 1)).block (.cells (c.setIfInBounds (Addr.add a67_ (Int.toNat (a_0_1.len : Int) * 1)).off (.int .u32 (IntKind.u32.wrap carry_7))) e)) fun F =>
 Spec prog 77 #[(Sl.v v_27)] F fun v F => ∃ v_69 : Sl, ∃ v_69_1 : Int, v = (.tuple #[(Sl.v v_69), (.int .i64 v_69_1)]) ∧
 R (.tuple #[(Sl.v v_69), (.int .i64 v_69_1)]) F
abbrev b33J2 (a_0_1 : Sl) (v_27 : Sl) (R : Value → PH → Prop) (E : En) (F : PH) : Prop := ∃ carry_7 : Int, E 0 = (Sl.v a_0_1) ∧ E 6 = (Sl.v v_27) ∧ E 7 = (.int .u64 carry_7) ∧ b33j2 a_0_1 v_27 carry_7 R F
def b33j3 (N1 : Int → Int → PH → Prop) (a_0_1 : Sl) (b_1_1 : Sl) (v_27 : Sl) (v_33 : Int) (carry_7_2 : Int) (R : Value → PH → Prop) (F : PH) : Prop :=
 ∃ a58_ : Addr, v_27.base = some a58_ ∧ 0 ≤ v_33 ∧ v_33 < (v_27.len : Int) ∧
 ∃ c e, F (Addr.add a58_ (Int.toNat v_33 * 1)).block = some (.cells c e (0, 0)) ∧ (Addr.add a58_ (Int.toNat v_33 * 1)).spot = none ∧ (Addr.add a58_ (Int.toNat v_33 * 1)).off < c.size ∧
 atF (F.set (Addr.add a58_ (Int.toNat v_33 * 1)).block (.cells (c.setIfInBounds (Addr.add a58_ (Int.toNat v_33 * 1)).off (.int .u32 (IntKind.u32.wrap carry_7_2))) e)) fun F =>
 N1 (Int.fdiv carry_7_2 (2 ^ (min (Int.toNat (32 : Int)) (IntKind.u64).bits))) (IntKind.i64.wrap (v_33 + (1 : Int))) F
abbrev b33J3 (N1 : Int → Int → PH → Prop) (a_0_1 : Sl) (b_1_1 : Sl) (v_27 : Sl) (v_33 : Int) (R : Value → PH → Prop) (E : En) (F : PH) : Prop := ∃ carry_7_2 : Int, E 0 = (Sl.v a_0_1) ∧ E 1 = (Sl.v b_1_1) ∧ E 6 = (Sl.v v_27) ∧ E 7 = (.int .u64 carry_7_2) ∧ E 8 = (.int .i64 v_33) ∧ E 32 = (.int .i64 (a_0_1.len : Int)) ∧ E 33 = (.int .i64 v_33) ∧ b33j3 N1 a_0_1 b_1_1 v_27 v_33 carry_7_2 R F
def b33L1 (N1 : Int → Int → PH → Prop) (a_0_1 : Sl) (b_1_1 : Sl) (v_27 : Sl) (R : Value → PH → Prop) (carry_7_1 : Int) (v_33 : Int) (F : PH) : Prop :=
 ((v_33 < (a_0_1.len : Int) →
  ∃ a39_ : Addr, v_27.base = some a39_ ∧ 0 ≤ v_33 ∧ v_33 < (v_27.len : Int) ∧
  ∃ v_40 : Int, F.cell (Addr.add a39_ (Int.toNat v_33 * 1)) = some (.int .u32 v_40) ∧
  ((v_33 < (b_1_1.len : Int) →
   ∃ a50_ : Addr, b_1_1.base = some a50_ ∧ 0 ≤ v_33 ∧ v_33 < (b_1_1.len : Int) ∧
   ∃ v_51 : Int, F.cell (Addr.add a50_ (Int.toNat v_33 * 1)) = some (.int .u32 v_51) ∧
   b33j3 N1 a_0_1 b_1_1 v_27 v_33 (IntKind.u64.wrap ((IntKind.u64.wrap (carry_7_1 + (IntKind.u64.wrap v_40))) + (IntKind.u64.wrap v_51))) R F) ∧
  (¬ (v_33 < (b_1_1.len : Int)) →
   b33j3 N1 a_0_1 b_1_1 v_27 v_33 (IntKind.u64.wrap (carry_7_1 + (IntKind.u64.wrap v_40))) R F))) ∧
 (¬ (v_33 < (a_0_1.len : Int)) →
  b33j2 a_0_1 v_27 carry_7_1 R F))
def b33j1 (a_0_1 : Sl) (b_1_1 : Sl) (R : Value → PH → Prop) (F : PH) : Prop :=
 runs prog (Instr.makeSlice 57 (.int .i64 (IntKind.i64.wrap ((a_0_1.len : Int) + (1 : Int)))) (.int .i64 (IntKind.i64.wrap ((a_0_1.len : Int) + (1 : Int))))) F fun v F => ∃ v_27 : Sl, v = (Sl.v v_27) ∧
 runs prog (Builtin.copy_ #[57, 57] 3 #[(Sl.v v_27), (Sl.v a_0_1)]) F fun v F => ∃ v_30 : Int, v = (.int .i64 v_30) ∧
 (∃ (I1 : Nat → Int → Int → PH → Prop) (m1 : Nat), I1 m1 (0 : Int) (0 : Int) F ∧ ∀ m1 carry_7_1 v_33 F, I1 m1 carry_7_1 v_33 F →
  b33L1 (fun carry_7_1 v_33 F => ∃ m', m' < m1 ∧ I1 m' carry_7_1 v_33 F) a_0_1 b_1_1 v_27 R carry_7_1 v_33 F)
abbrev b33J1 (R : Value → PH → Prop) (E : En) (F : PH) : Prop := ∃ a_0_1 : Sl, ∃ b_1_1 : Sl, E 0 = (Sl.v a_0_1) ∧ E 1 = (Sl.v b_1_1) ∧ b33j1 a_0_1 b_1_1 R F
def b33 (a_0 : Sl) (b_1 : Sl) (R : Value → PH → Prop) (F : PH) : Prop :=
 Spec prog 76 #[(Sl.v a_0)] F fun v F => ∃ v_10 : Bool, v = (.bool v_10) ∧
 (((!v_10) = true →
  R (.tuple #[(Sl.v Sl.nil), (.int .i64 (1 : Int))]) F) ∧
 ((!v_10) = false →
  Spec prog 76 #[(Sl.v b_1)] F fun v F => ∃ v_14 : Bool, v = (.bool v_14) ∧
  (((!v_14) = true →
   R (.tuple #[(Sl.v Sl.nil), (.int .i64 (1 : Int))]) F) ∧
  ((!v_14) = false →
   (((a_0.len : Int) < (b_1.len : Int) →
    b33j1 b_1 a_0 R F) ∧
   (¬ ((a_0.len : Int) < (b_1.len : Int)) →
    b33j1 a_0 b_1 R F))))))
theorem c33 {a_0 : Sl} {b_1 : Sl} {R : Value → PH → Prop} {F : PH} (h : b33 a_0 b_1 R F) : Spec prog 33 #[(Sl.v a_0), (Sl.v b_1)] F R := by
 refine spec_of (args := [(Sl.v a_0), (Sl.v b_1)]) func33 rfl ntmps33 rfl ?_
 unfold b33 at h
 refine cR ?_
 refine sR (Sl.v Sl.nil) (r_assign rfl rfl) ?_
 refine sR (.int .i64 (0 : Int)) (r_assign rfl rfl) ?_
 refine HL_nil ?_
 refine HC_seq ?_
 refine cR ?_
 refine sR (Sl.v a_0) (r_move rfl rfl) ?_
 refine s_ef (k_call (vs := [(Sl.v a_0)]) cb76 (evC rfl evN) (h.mono ?_))
 clear h; rintro v F ⟨v_10, rfl, h⟩
 refine sR (.bool (!v_10)) (r_not rfl rfl) ?_
 refine sR (.bool (!v_10)) (r_move rfl rfl) ?_
 by_cases hc : (!v_10) = true
 ·
  replace h := h.1 hc
  refine kN 11 hc ?_
  refine kN 12 hc ?_
  refine s_skip ?_
  refine s_skip ?_
  refine s_skip ?_
  refine sR (.bool true) (r_pick rfl rfl (fun _ => rfl) (fun h => by cases h)) ?_
  refine HL_nil ?_
  refine HC_condT rfl ?_
  refine cR ?_
  refine sR (Sl.v Sl.nil) (r_assign rfl rfl) ?_
  refine sR (.int .i64 (1 : Int)) (r_assign rfl rfl) ?_
  refine HL_nil ?_
  exact HC_ret (show endQ prog f33 R .ret _ _ from ⟨_, res2 rfl (rv_tmp rfl) (rv_tmp rfl), h⟩)
 ·
  replace hc := eq_false_of_ne_true hc; replace h := h.2 hc
  refine kN 11 hc ?_
  refine kN 12 hc ?_
  refine sR (Sl.v b_1) (r_move rfl rfl) ?_
  refine s_ef (k_call (vs := [(Sl.v b_1)]) cb76 (evC rfl evN) (h.mono ?_))
  clear h; rintro v F ⟨v_14, rfl, h⟩
  refine sR (.bool (!v_14)) (r_not rfl rfl) ?_
  refine sR (.bool (!v_14)) (r_pick rfl rfl (fun h => by cases h) (fun _ => rfl)) ?_
  refine HL_nil ?_
  refine HC_cond (t := (!v_14)) rfl (fun hc => ?_) (fun hc => ?_)
  ·
   replace h := h.1 hc
   clear hc
   refine cR ?_
   refine sR (Sl.v Sl.nil) (r_assign rfl rfl) ?_
   refine sR (.int .i64 (1 : Int)) (r_assign rfl rfl) ?_
   refine HL_nil ?_
   exact HC_ret (show endQ prog f33 R .ret _ _ from ⟨_, res2 rfl (rv_tmp rfl) (rv_tmp rfl), h⟩)
  ·
   replace h := h.2 hc
   clear hc
   refine HC_skip ?_
   refine HC_seqJ (b33J1 R) ?_ ?_
   ·
    clear h; rintro E F ⟨a_0_1, b_1_1, h0, h1, h⟩
    unfold b33j1 at h
    refine cR ?_
    refine sR (Sl.v a_0_1) (r_move rfl h0) ?_
    refine sR (.int .i64 (a_0_1.len : Int)) (r_lenSl rfl rfl underlying57) ?_
    refine sR (.int .i64 (IntKind.i64.wrap ((a_0_1.len : Int) + (1 : Int)))) (r_add rfl rfl rfl) ?_
    refine s_ef (k_makeSlice rfl rfl (runs_mono _ _ h ?_))
    clear h; rintro v F ⟨v_27, rfl, h⟩
    refine sR (Sl.v v_27) (r_assign rfl rfl) ?_
    refine HL_nil ?_
    refine cR ?_
    refine sR (Sl.v v_27) (r_move rfl rfl) ?_
    refine sR (Sl.v a_0_1) (r_move rfl h0) ?_
    refine s_ef (k_copy rfl rfl (runs_mono _ _ h ?_))
    clear h; rintro v F ⟨v_30, rfl, h⟩
    refine HL_nil ?_
    refine cR ?_
    refine sR (.int .u64 (0 : Int)) (r_assign rfl rfl) ?_
    refine HL_nil ?_
    refine HC_seqJ (b33J2 a_0_1 v_27 R) ?_ ?_
    ·
     clear h; rintro E F ⟨carry_7, h0, h6, h7, h⟩
     unfold b33j2 at h
     refine cR ?_
     refine sR (Sl.v v_27) (r_move rfl h6) ?_
     refine sR (Sl.v a_0_1) (r_move rfl h0) ?_
     refine sR (.int .i64 (a_0_1.len : Int)) (r_lenSl rfl rfl underlying57) ?_
     refine sR (.int .u64 carry_7) (r_move rfl h7) ?_
     refine sR (.int .u32 (IntKind.u32.wrap carry_7)) (r_convInt rfl rfl underlying38 underlying75) ?_
     obtain ⟨a67_, hb67, hl67, hu67, h⟩ := h
     refine sR (.pointer (some (Addr.add a67_ (Int.toNat (a_0_1.len : Int) * 1)))) (w_indexAddr rfl rfl underlying57 sz75 hb67 hl67 hu67) ?_
     refine s_ef0 (k_store1 (v := (.int .u32 (IntKind.u32.wrap carry_7))) rfl rfl sz75 rfl st_int ?_)
     obtain ⟨c, e, hz3, hz4, hz5, h⟩ := h
     refine ⟨c, e, hz3, hz4, hz5, ?_⟩
     replace h := atE h
     refine HL_nil ?_
     refine cR ?_
     refine sR (Sl.v v_27) (r_move rfl h6) ?_
     refine s_ef (k_call (vs := [(Sl.v v_27)]) cb77 (evC rfl evN) (h.mono ?_))
     clear h; rintro v F ⟨v_69, v_69_1, rfl, h⟩
     refine sR (Sl.v v_69) (r_extract rfl rfl rfl) ?_
     refine sR (.int .i64 v_69_1) (r_extract rfl rfl rfl) ?_
     refine sR (Sl.v v_69) (r_assign rfl rfl) ?_
     refine sR (.int .i64 v_69_1) (r_assign rfl rfl) ?_
     refine HL_nil ?_
     exact HC_ret (show endQ prog f33 R .ret _ _ from ⟨_, res2 rfl (rv_tmp rfl) (rv_tmp rfl), h⟩)
    ·
     skip
     refine cR ?_
     refine sR (Sl.v a_0_1) (r_move rfl h0) ?_
     refine sR (.int .i64 (a_0_1.len : Int)) (r_lenSl rfl rfl underlying57) ?_
     refine sR (.int .i64 (0 : Int)) (r_move rfl rfl) ?_
     refine HL_nil ?_
     refine HC_block ?_
     obtain ⟨I1, m1, hI0, hr⟩ := h
     refine HC_loop (fun m1 E F => ∃ carry_7_1 : Int, ∃ v_33 : Int, E 0 = (Sl.v a_0_1) ∧ E 1 = (Sl.v b_1_1) ∧ E 6 = (Sl.v v_27) ∧ E 7 = (.int .u64 carry_7_1) ∧ E 32 = (.int .i64 (a_0_1.len : Int)) ∧ E 33 = (.int .i64 v_33) ∧ I1 m1 carry_7_1 v_33 F) m1 ⟨_, _, h0, h1, rfl, rfl, rfl, rfl, hI0⟩ ?_
     clear hI0; rintro m1 E F ⟨carry_7_1, v_33, h0, h1, h6, h7, h32, h33, hI⟩
     have h := hr m1 carry_7_1 v_33 F hI
     clear hr hI
     unfold b33L1 at h
     refine cR ?_
     refine sR (.bool (decide (v_33 < (a_0_1.len : Int)))) (r_lss rfl h33 h32) ?_
     refine HL_nil ?_
     refine HC_seq ?_
     refine HC_cond (t := (decide (v_33 < (a_0_1.len : Int)))) rfl (fun hc => ?_) (fun hc => ?_)
     ·
      replace h := h.1 (of_decide_eq_true hc)
      clear hc
      refine HC_skip ?_
      refine HC_seq ?_
      refine HC_block ?_
      refine cR ?_
      refine sR (.int .i64 v_33) (r_move rfl h33) ?_
      refine sR (.int .i64 v_33) (r_assign rfl rfl) ?_
      refine HL_nil ?_
      refine cR ?_
      refine sR (.int .u64 carry_7_1) (r_move rfl h7) ?_
      refine sR (Sl.v v_27) (r_move rfl h6) ?_
      refine sR (.int .i64 v_33) (r_move rfl rfl) ?_
      obtain ⟨a39_, hb39, hl39, hu39, h⟩ := h
      refine sR (.pointer (some (Addr.add a39_ (Int.toNat v_33 * 1)))) (w_indexAddr rfl rfl underlying57 sz75 hb39 hl39 hu39) ?_
      obtain ⟨v_40, hc40, h⟩ := h
      refine sR (.int .u32 v_40) (r_load1 rfl rfl underlying75 rfl hc40) ?_
      refine sR (.int .u64 (IntKind.u64.wrap v_40)) (r_convInt rfl rfl underlying75 underlying38) ?_
      refine sR (.int .u64 (IntKind.u64.wrap (carry_7_1 + (IntKind.u64.wrap v_40)))) (r_add rfl rfl rfl) ?_
      refine sR (.int .u64 (IntKind.u64.wrap (carry_7_1 + (IntKind.u64.wrap v_40)))) (r_assign rfl rfl) ?_
      refine HL_nil ?_
      refine HC_seqJ (b33J3 (fun carry_7_1 v_33 F => ∃ m', m' < m1 ∧ I1 m' carry_7_1 v_33 F) a_0_1 b_1_1 v_27 v_33 R) ?_ ?_
      ·
       clear h; rintro E F ⟨carry_7_2, h0, h1, h6, h7, h8, h32, h33, h⟩
       unfold b33j3 at h
       refine cR ?_
       refine sR (Sl.v v_27) (r_move rfl h6) ?_
       refine sR (.int .i64 v_33) (r_move rfl h8) ?_
       refine sR (.int .u64 carry_7_2) (r_move rfl h7) ?_
       refine sR (.int .u32 (IntKind.u32.wrap carry_7_2)) (r_convInt rfl rfl underlying38 underlying75) ?_
       obtain ⟨a58_, hb58, hl58, hu58, h⟩ := h
       refine sR (.pointer (some (Addr.add a58_ (Int.toNat v_33 * 1)))) (w_indexAddr rfl rfl underlying57 sz75 hb58 hl58 hu58) ?_
       refine s_ef0 (k_store1 (v := (.int .u32 (IntKind.u32.wrap carry_7_2))) rfl rfl sz75 rfl st_int ?_)
       obtain ⟨c, e, hz3, hz4, hz5, h⟩ := h
       refine ⟨c, e, hz3, hz4, hz5, ?_⟩
       replace h := atE h
       refine HL_nil ?_
       refine HC_region ?_
       refine sR (.int .u64 carry_7_2) (r_move rfl h7) ?_
       refine sR (.int .u64 (Int.fdiv carry_7_2 (2 ^ (min (Int.toNat (32 : Int)) (IntKind.u64).bits)))) (r_shr rfl rfl rfl (by decide)) ?_
       refine sR (.int .u64 (Int.fdiv carry_7_2 (2 ^ (min (Int.toNat (32 : Int)) (IntKind.u64).bits)))) (r_assign rfl rfl) ?_
       refine HL_nil ?_
       refine HC_region ?_
       refine sR (.int .i64 (IntKind.i64.wrap (v_33 + (1 : Int)))) (r_add rfl h33 rfl) ?_
       refine sR (.int .i64 (IntKind.i64.wrap (v_33 + (1 : Int)))) (r_move rfl rfl) ?_
       refine HL_nil ?_
       obtain ⟨m', hm, h⟩ := h
       exact ⟨m', hm, _, _, h0, h1, h6, rfl, h32, rfl, h⟩
      ·
       skip
       refine cR ?_
       refine sR (.int .i64 v_33) (r_move rfl rfl) ?_
       refine sR (Sl.v b_1_1) (r_move rfl h1) ?_
       refine sR (.int .i64 (b_1_1.len : Int)) (r_lenSl rfl rfl underlying57) ?_
       refine sR (.bool (decide (v_33 < (b_1_1.len : Int)))) (r_lss rfl rfl rfl) ?_
       refine HL_nil ?_
       refine HC_cond (t := (decide (v_33 < (b_1_1.len : Int)))) rfl (fun hc => ?_) (fun hc => ?_)
       ·
        replace h := h.1 (of_decide_eq_true hc)
        clear hc
        refine HC_region ?_
        refine sR (.int .u64 (IntKind.u64.wrap (carry_7_1 + (IntKind.u64.wrap v_40)))) (r_move rfl rfl) ?_
        refine sR (Sl.v b_1_1) (r_move rfl h1) ?_
        refine sR (.int .i64 v_33) (r_move rfl rfl) ?_
        obtain ⟨a50_, hb50, hl50, hu50, h⟩ := h
        refine sR (.pointer (some (Addr.add a50_ (Int.toNat v_33 * 1)))) (w_indexAddr rfl rfl underlying57 sz75 hb50 hl50 hu50) ?_
        obtain ⟨v_51, hc51, h⟩ := h
        refine sR (.int .u32 v_51) (r_load1 rfl rfl underlying75 rfl hc51) ?_
        refine sR (.int .u64 (IntKind.u64.wrap v_51)) (r_convInt rfl rfl underlying75 underlying38) ?_
        refine sR (.int .u64 (IntKind.u64.wrap ((IntKind.u64.wrap (carry_7_1 + (IntKind.u64.wrap v_40))) + (IntKind.u64.wrap v_51)))) (r_add rfl rfl rfl) ?_
        refine sR (.int .u64 (IntKind.u64.wrap ((IntKind.u64.wrap (carry_7_1 + (IntKind.u64.wrap v_40))) + (IntKind.u64.wrap v_51)))) (r_assign rfl rfl) ?_
        refine HL_nil ?_
        show b33J3 (fun carry_7_1 v_33 F => ∃ m', m' < m1 ∧ I1 m' carry_7_1 v_33 F) a_0_1 b_1_1 v_27 v_33 R _ _
        exact ⟨_, h0, h1, h6, rfl, rfl, h32, h33, h⟩
       ·
        replace h := h.2 (of_decide_eq_false hc)
        clear hc
        refine HC_skip ?_
        show b33J3 (fun carry_7_1 v_33 F => ∃ m', m' < m1 ∧ I1 m' carry_7_1 v_33 F) a_0_1 b_1_1 v_27 v_33 R _ _
        exact ⟨_, h0, h1, h6, rfl, rfl, h32, h33, h⟩
     ·
      replace h := h.2 (of_decide_eq_false hc)
      clear hc
      refine HC_exit ?_
      show b33J2 a_0_1 v_27 R _ _
      exact ⟨_, h0, h6, h7, h⟩
   ·
    skip
    refine cR ?_
    refine sR (Sl.v a_0) (r_move rfl rfl) ?_
    refine sR (.int .i64 (a_0.len : Int)) (r_lenSl rfl rfl underlying57) ?_
    refine sR (Sl.v b_1) (r_move rfl rfl) ?_
    refine sR (.int .i64 (b_1.len : Int)) (r_lenSl rfl rfl underlying57) ?_
    refine sR (.bool (decide ((a_0.len : Int) < (b_1.len : Int)))) (r_lss rfl rfl rfl) ?_
    refine HL_nil ?_
    refine HC_cond (t := (decide ((a_0.len : Int) < (b_1.len : Int)))) rfl (fun hc => ?_) (fun hc => ?_)
    ·
     replace h := h.1 (of_decide_eq_true hc)
     clear hc
     refine HC_region ?_
     refine sR (Sl.v b_1) (r_move rfl rfl) ?_
     refine sR (Sl.v a_0) (r_move rfl rfl) ?_
     refine sR (Sl.v b_1) (r_assign rfl rfl) ?_
     refine sR (Sl.v a_0) (r_assign rfl rfl) ?_
     refine HL_nil ?_
     show b33J1 R _ _
     exact ⟨_, _, rfl, rfl, h⟩
    ·
     replace h := h.2 (of_decide_eq_false hc)
     clear hc
     refine HC_skip ?_
     show b33J1 R _ _
     exact ⟨_, _, rfl, rfl, h⟩

/- 76 koine.natural.Valid -/
def b76 (a_0 : Sl) (R : Value → PH → Prop) (F : PH) : Prop :=
 (((a_0.len : Int) ≤ (1024 : Int) →
  (((a_0.len : Int) = (0 : Int) →
   R (.bool true) F) ∧
  (¬ ((a_0.len : Int) = (0 : Int)) →
   ∃ a15_ : Addr, a_0.base = some a15_ ∧ 0 ≤ (IntKind.i64.wrap ((a_0.len : Int) - (1 : Int))) ∧ (IntKind.i64.wrap ((a_0.len : Int) - (1 : Int))) < (a_0.len : Int) ∧
   ∃ v_16 : Int, F.cell (Addr.add a15_ (Int.toNat (IntKind.i64.wrap ((a_0.len : Int) - (1 : Int))) * 1)) = some (.int .u32 v_16) ∧
   R (.bool (decide (v_16 ≠ (0 : Int)))) F))) ∧
 (¬ ((a_0.len : Int) ≤ (1024 : Int)) →
  R (.bool false) F))
theorem c76 {a_0 : Sl} {R : Value → PH → Prop} {F : PH} (h : b76 a_0 R F) : Spec prog 76 #[(Sl.v a_0)] F R := by
 refine spec_of (args := [(Sl.v a_0)]) func76 rfl ntmps76 rfl ?_
 unfold b76 at h
 refine cR ?_
 refine sR (.bool false) (r_assign rfl rfl) ?_
 refine HL_nil ?_
 refine cR ?_
 refine sR (Sl.v a_0) (r_move rfl rfl) ?_
 refine sR (.int .i64 (a_0.len : Int)) (r_lenSl rfl rfl underlying57) ?_
 refine sR (.bool (decide ((a_0.len : Int) ≤ (1024 : Int)))) (r_leq rfl rfl rfl) ?_
 refine sR (.bool (decide ((a_0.len : Int) ≤ (1024 : Int)))) (r_move rfl rfl) ?_
 by_cases hc : (a_0.len : Int) ≤ (1024 : Int)
 ·
  replace h := h.1 hc
  refine kN 5 (decide_eq_true hc) ?_
  refine kN 6 (decide_eq_true hc) ?_
  refine sR (Sl.v a_0) (r_move rfl rfl) ?_
  refine sR (.int .i64 (a_0.len : Int)) (r_lenSl rfl rfl underlying57) ?_
  refine sR (.bool (decide ((a_0.len : Int) = (0 : Int)))) (w_eql rfl rfl) ?_
  refine sR (.bool (decide ((a_0.len : Int) = (0 : Int)))) (r_move rfl rfl) ?_
  by_cases hc : (a_0.len : Int) = (0 : Int)
  ·
   replace h := h.1 hc
   refine kN 9 (decide_eq_true hc) ?_
   refine kN 10 (decide_eq_true hc) ?_
   refine s_skip ?_
   refine s_skip ?_
   refine s_skip ?_
   refine s_skip ?_
   refine s_skip ?_
   refine s_skip ?_
   refine s_skip ?_
   refine sR (.bool true) (r_pick rfl rfl (fun _ => rfl) (fun h => by cases h)) ?_
   refine sR (.bool true) (r_pick rfl rfl (fun _ => rfl) (fun h => by cases h)) ?_
   refine sR (.bool true) (r_assign rfl rfl) ?_
   refine HL_nil ?_
   exact HC_ret (show endQ prog f76 R .ret _ _ from ⟨_, res1 rfl (rv_tmp rfl), h⟩)
  ·
   replace h := h.2 hc
   refine kN 9 (decide_eq_false hc) ?_
   refine kN 10 (decide_eq_false hc) ?_
   refine sR (Sl.v a_0) (r_move rfl rfl) ?_
   refine sR (Sl.v a_0) (r_move rfl rfl) ?_
   refine sR (.int .i64 (a_0.len : Int)) (r_lenSl rfl rfl underlying57) ?_
   refine sR (.int .i64 (IntKind.i64.wrap ((a_0.len : Int) - (1 : Int)))) (r_sub rfl rfl rfl) ?_
   obtain ⟨a15_, hb15, hl15, hu15, h⟩ := h
   refine sR (.pointer (some (Addr.add a15_ (Int.toNat (IntKind.i64.wrap ((a_0.len : Int) - (1 : Int))) * 1)))) (w_indexAddr rfl rfl underlying57 sz75 hb15 hl15 hu15) ?_
   obtain ⟨v_16, hc16, h⟩ := h
   refine sR (.int .u32 v_16) (r_load1 rfl rfl underlying75 rfl hc16) ?_
   refine sR (.bool (decide (v_16 ≠ (0 : Int)))) (w_neq rfl rfl) ?_
   refine sR (.bool (decide (v_16 ≠ (0 : Int)))) (r_pick rfl rfl (fun h => by cases h) (fun _ => rfl)) ?_
   refine sR (.bool (decide (v_16 ≠ (0 : Int)))) (r_pick rfl rfl (fun _ => rfl) (fun h => by cases h)) ?_
   refine sR (.bool (decide (v_16 ≠ (0 : Int)))) (r_assign rfl rfl) ?_
   refine HL_nil ?_
   exact HC_ret (show endQ prog f76 R .ret _ _ from ⟨_, res1 rfl (rv_tmp rfl), h⟩)
 ·
  replace h := h.2 hc
  refine kN 5 (decide_eq_false hc) ?_
  refine kN 6 (decide_eq_false hc) ?_
  refine s_skip ?_
  refine s_skip ?_
  refine s_skip ?_
  refine s_skip ?_
  refine s_skip ?_
  refine s_skip ?_
  refine s_skip ?_
  refine s_skip ?_
  refine s_skip ?_
  refine s_skip ?_
  refine s_skip ?_
  refine s_skip ?_
  refine sR (.bool false) (r_pick rfl rfl (fun h => by cases h) (fun _ => rfl)) ?_
  refine sR (.bool false) (r_assign rfl rfl) ?_
  refine HL_nil ?_
  exact HC_ret (show endQ prog f76 R .ret _ _ from ⟨_, res1 rfl (rv_tmp rfl), h⟩)

/- 77 koine.natural.trim -/
def b77j1 (a_0 : Sl) (n_4 : Int) (R : Value → PH → Prop) (F : PH) : Prop :=
 (((1024 : Int) < n_4 →
  R (.tuple #[(Sl.v Sl.nil), (.int .i64 (2 : Int))]) F) ∧
 (¬ ((1024 : Int) < n_4) →
  0 ≤ n_4 ∧ 0 ≤ (Int.toNat n_4) ∧ (Int.toNat n_4) ≤ a_0.cap ∧ 
  R (.tuple #[(Sl.v (Sl.cut a_0 1 0 (Int.toNat n_4) a_0.cap)), (.int .i64 (0 : Int))]) F))
abbrev b77J1 (a_0 : Sl) (R : Value → PH → Prop) (E : En) (F : PH) : Prop := ∃ n_4 : Int, E 0 = (Sl.v a_0) ∧ E 4 = (.int .i64 n_4) ∧ b77j1 a_0 n_4 R F
def b77L1 (N1 : Int → PH → Prop) (a_0 : Sl) (R : Value → PH → Prop) (n_4_1 : Int) (F : PH) : Prop :=
 (((0 : Int) < n_4_1 →
  ∃ a13_ : Addr, a_0.base = some a13_ ∧ 0 ≤ (IntKind.i64.wrap (n_4_1 - (1 : Int))) ∧ (IntKind.i64.wrap (n_4_1 - (1 : Int))) < (a_0.len : Int) ∧
  ∃ v_14 : Int, F.cell (Addr.add a13_ (Int.toNat (IntKind.i64.wrap (n_4_1 - (1 : Int))) * 1)) = some (.int .u32 v_14) ∧
  ((v_14 = (0 : Int) →
   N1 (IntKind.i64.wrap (n_4_1 - (1 : Int))) F) ∧
  (¬ (v_14 = (0 : Int)) →
   b77j1 a_0 n_4_1 R F))) ∧
 (¬ ((0 : Int) < n_4_1) →
  b77j1 a_0 n_4_1 R F))
def b77 (a_0 : Sl) (R : Value → PH → Prop) (F : PH) : Prop :=
 (∃ (I1 : Nat → Int → PH → Prop) (m1 : Nat), I1 m1 (a_0.len : Int) F ∧ ∀ m1 n_4_1 F, I1 m1 n_4_1 F →
  b77L1 (fun n_4_1 F => ∃ m', m' < m1 ∧ I1 m' n_4_1 F) a_0 R n_4_1 F)
theorem c77 {a_0 : Sl} {R : Value → PH → Prop} {F : PH} (h : b77 a_0 R F) : Spec prog 77 #[(Sl.v a_0)] F R := by
 refine spec_of (args := [(Sl.v a_0)]) func77 rfl ntmps77 rfl ?_
 unfold b77 at h
 refine cR ?_
 refine sR (Sl.v Sl.nil) (r_assign rfl rfl) ?_
 refine sR (.int .i64 (0 : Int)) (r_assign rfl rfl) ?_
 refine HL_nil ?_
 refine cR ?_
 refine sR (Sl.v a_0) (r_move rfl rfl) ?_
 refine sR (.int .i64 (a_0.len : Int)) (r_lenSl rfl rfl underlying57) ?_
 refine sR (.int .i64 (a_0.len : Int)) (r_assign rfl rfl) ?_
 refine HL_nil ?_
 refine HC_seqJ (b77J1 a_0 R) ?_ ?_
 ·
  clear h; rintro E F ⟨n_4, h0, h4, h⟩
  unfold b77j1 at h
  refine HC_seq ?_
  refine cR ?_
  refine sR (.int .i64 n_4) (r_move rfl h4) ?_
  refine sR (.bool (decide ((1024 : Int) < n_4))) (r_gtr rfl rfl rfl) ?_
  refine HL_nil ?_
  refine HC_cond (t := (decide ((1024 : Int) < n_4))) rfl (fun hc => ?_) (fun hc => ?_)
  ·
   replace h := h.1 (of_decide_eq_true hc)
   clear hc
   refine cR ?_
   refine sR (Sl.v Sl.nil) (r_assign rfl rfl) ?_
   refine sR (.int .i64 (2 : Int)) (r_assign rfl rfl) ?_
   refine HL_nil ?_
   exact HC_ret (show endQ prog f77 R .ret _ _ from ⟨_, res2 rfl (rv_tmp rfl) (rv_tmp rfl), h⟩)
  ·
   replace h := h.2 (of_decide_eq_false hc)
   clear hc
   refine HC_skip ?_
   refine cR ?_
   refine sR (Sl.v a_0) (r_move rfl h0) ?_
   refine sR (.int .i64 n_4) (r_move rfl h4) ?_
   obtain ⟨hq23_0, hr23_0, hr23_1, h⟩ := h
   refine sR (Sl.v (Sl.cut a_0 1 0 (Int.toNat n_4) a_0.cap)) (r_sliceSl rfl rfl underlying57 sz75 bo_none (bo_ev rfl hq23_0) hr23_0 hr23_1) ?_
   refine sR (Sl.v (Sl.cut a_0 1 0 (Int.toNat n_4) a_0.cap)) (r_assign rfl rfl) ?_
   refine sR (.int .i64 (0 : Int)) (r_assign rfl rfl) ?_
   refine HL_nil ?_
   exact HC_ret (show endQ prog f77 R .ret _ _ from ⟨_, res2 rfl (rv_tmp rfl) (rv_tmp rfl), h⟩)
 ·
  skip
  refine HC_block ?_
  obtain ⟨I1, m1, hI0, hr⟩ := h
  refine HC_loop (fun m1 E F => ∃ n_4_1 : Int, E 0 = (Sl.v a_0) ∧ E 4 = (.int .i64 n_4_1) ∧ I1 m1 n_4_1 F) m1 ⟨_, rfl, rfl, hI0⟩ ?_
  clear hI0; rintro m1 E F ⟨n_4_1, h0, h4, hI⟩
  have h := hr m1 n_4_1 F hI
  clear hr hI
  unfold b77L1 at h
  refine HC_seq ?_
  refine cR ?_
  refine sR (.int .i64 n_4_1) (r_move rfl h4) ?_
  refine sR (.bool (decide ((0 : Int) < n_4_1))) (r_gtr rfl rfl rfl) ?_
  refine sR (.bool (decide ((0 : Int) < n_4_1))) (r_move rfl rfl) ?_
  by_cases hc : (0 : Int) < n_4_1
  ·
   replace h := h.1 hc
   refine kN 8 (decide_eq_true hc) ?_
   refine kN 9 (decide_eq_true hc) ?_
   refine sR (Sl.v a_0) (r_move rfl h0) ?_
   refine sR (.int .i64 n_4_1) (r_move rfl h4) ?_
   refine sR (.int .i64 (IntKind.i64.wrap (n_4_1 - (1 : Int)))) (r_sub rfl rfl rfl) ?_
   obtain ⟨a13_, hb13, hl13, hu13, h⟩ := h
   refine sR (.pointer (some (Addr.add a13_ (Int.toNat (IntKind.i64.wrap (n_4_1 - (1 : Int))) * 1)))) (w_indexAddr rfl rfl underlying57 sz75 hb13 hl13 hu13) ?_
   obtain ⟨v_14, hc14, h⟩ := h
   refine sR (.int .u32 v_14) (r_load1 rfl rfl underlying75 rfl hc14) ?_
   refine sR (.bool (decide (v_14 = (0 : Int)))) (w_eql rfl rfl) ?_
   refine sR (.bool (decide (v_14 = (0 : Int)))) (r_pick rfl rfl (fun _ => rfl) (fun h => by cases h)) ?_
   refine HL_nil ?_
   refine HC_cond (t := (decide (v_14 = (0 : Int)))) rfl (fun hc => ?_) (fun hc => ?_)
   ·
    replace h := h.1 (of_decide_eq_true hc)
    clear hc
    refine HC_skip ?_
    refine HC_block ?_
    refine HC_region ?_
    refine sR (.int .i64 n_4_1) (r_move rfl h4) ?_
    refine sR (.int .i64 (IntKind.i64.wrap (n_4_1 - (1 : Int)))) (r_sub rfl rfl rfl) ?_
    refine sR (.int .i64 (IntKind.i64.wrap (n_4_1 - (1 : Int)))) (r_assign rfl rfl) ?_
    refine HL_nil ?_
    obtain ⟨m', hm, h⟩ := h
    exact ⟨m', hm, _, h0, rfl, h⟩
   ·
    replace h := h.2 (of_decide_eq_false hc)
    clear hc
    refine HC_exit ?_
    show b77J1 a_0 R _ _
    exact ⟨_, h0, h4, h⟩
  ·
   replace h := h.2 hc
   refine kN 8 (decide_eq_false hc) ?_
   refine kN 9 (decide_eq_false hc) ?_
   refine s_skip ?_
   refine s_skip ?_
   refine s_skip ?_
   refine s_skip ?_
   refine s_skip ?_
   refine s_skip ?_
   refine sR (.bool false) (r_pick rfl rfl (fun h => by cases h) (fun _ => rfl)) ?_
   refine HL_nil ?_
   refine HC_condF rfl ?_
   refine HC_exit ?_
   show b77J1 a_0 R _ _
   exact ⟨_, h0, h4, h⟩

/- 35 koine.natural.Of -/
def b35 (n_0 : Int) (R : Value → PH → Prop) (F : PH) : Prop :=
 ∀ b11, F b11 = none → atF (F.set b11 (.cells #[(.int .u32 (IntKind.u32.wrap n_0)), (.int .u32 (IntKind.u32.wrap (Int.fdiv n_0 (2 ^ (min (Int.toNat (32 : Int)) (IntKind.u64).bits)))))] 75)) fun F =>
 Spec prog 77 #[(Sl.v (Sl.mk (some (Addr.mk b11 0 none)) 2 2))] F fun v F => ∃ v_12 : Sl, ∃ v_12_1 : Int, v = (.tuple #[(Sl.v v_12), (.int .i64 v_12_1)]) ∧
 R (Sl.v v_12) F
theorem c35 {n_0 : Int} {R : Value → PH → Prop} {F : PH} (h : b35 n_0 R F) : Spec prog 35 #[(.int .u64 n_0)] F R := by
 refine spec_of (args := [(.int .u64 n_0)]) func35 rfl ntmps35 rfl ?_
 unfold b35 at h
 refine cR ?_
 refine sR (Sl.v Sl.nil) (r_assign rfl rfl) ?_
 refine HL_nil ?_
 refine cR ?_
 refine sR (.int .u64 n_0) (r_move rfl rfl) ?_
 refine sR (.int .u32 (IntKind.u32.wrap n_0)) (r_convInt rfl rfl underlying38 underlying75) ?_
 refine sR (.int .u64 n_0) (r_move rfl rfl) ?_
 refine sR (.int .u64 (Int.fdiv n_0 (2 ^ (min (Int.toNat (32 : Int)) (IntKind.u64).bits)))) (r_shr rfl rfl rfl (by decide)) ?_
 refine sR (.int .u32 (IntKind.u32.wrap (Int.fdiv n_0 (2 ^ (min (Int.toNat (32 : Int)) (IntKind.u64).bits))))) (r_convInt rfl rfl underlying38 underlying75) ?_
 refine s_ef (k_buildSeq (l := [(.int .u32 (IntKind.u32.wrap n_0)), (.int .u32 (IntKind.u32.wrap (Int.fdiv n_0 (2 ^ (min (Int.toNat (32 : Int)) (IntKind.u64).bits)))))]) underlying57 sz75 (by decide) zr75 rfl rfl ⟨rfl, rfl, trivial⟩ (evPC rfl (evPC rfl evPN)) ?_)
 intro b11 hf_b11
 replace h := atE (h b11 hf_b11)
 refine s_ef (k_call (vs := [(Sl.v (Sl.mk (some (Addr.mk b11 0 none)) 2 2))]) cb77 (evC rfl evN) (h.mono ?_))
 clear h; rintro v F ⟨v_12, v_12_1, rfl, h⟩
 refine sR (.tuple #[(Sl.v v_12), (.int .i64 v_12_1)]) (r_move rfl rfl) ?_
 refine sR (Sl.v v_12) (r_extract rfl rfl rfl) ?_
 refine sR (.int .i64 v_12_1) (r_extract rfl rfl rfl) ?_
 refine sR (Sl.v v_12) (r_assign rfl rfl) ?_
 refine sR (.int .i64 v_12_1) (r_assign rfl rfl) ?_
 refine HL_nil ?_
 refine cR ?_
 refine sR (Sl.v v_12) (r_move rfl rfl) ?_
 refine sR (Sl.v v_12) (r_assign rfl rfl) ?_
 refine HL_nil ?_
 exact HC_ret (show endQ prog f35 R .ret _ _ from ⟨_, res1 rfl (rv_tmp rfl), h⟩)

/- 34 koine.natural.Compare -/
def b34j1 (R : Value → PH → Prop) (F : PH) : Prop :=
 R (.int .i64 (0 : Int)) F
abbrev b34J1 (R : Value → PH → Prop) (E : En) (F : PH) : Prop := b34j1 R F
def b34L1 (N1 : Int → PH → Prop) (a_0 : Sl) (b_1 : Sl) (R : Value → PH → Prop) (v_28 : Int) (F : PH) : Prop :=
 ((v_28 < (a_0.len : Int) →
  ∃ a37_ : Addr, a_0.base = some a37_ ∧ 0 ≤ (IntKind.i64.wrap ((IntKind.i64.wrap ((a_0.len : Int) - (1 : Int))) - v_28)) ∧ (IntKind.i64.wrap ((IntKind.i64.wrap ((a_0.len : Int) - (1 : Int))) - v_28)) < (a_0.len : Int) ∧
  ∃ v_38 : Int, F.cell (Addr.add a37_ (Int.toNat (IntKind.i64.wrap ((IntKind.i64.wrap ((a_0.len : Int) - (1 : Int))) - v_28)) * 1)) = some (.int .u32 v_38) ∧
  ∃ a45_ : Addr, b_1.base = some a45_ ∧ 0 ≤ (IntKind.i64.wrap ((IntKind.i64.wrap ((a_0.len : Int) - (1 : Int))) - v_28)) ∧ (IntKind.i64.wrap ((IntKind.i64.wrap ((a_0.len : Int) - (1 : Int))) - v_28)) < (b_1.len : Int) ∧
  ∃ v_46 : Int, F.cell (Addr.add a45_ (Int.toNat (IntKind.i64.wrap ((IntKind.i64.wrap ((a_0.len : Int) - (1 : Int))) - v_28)) * 1)) = some (.int .u32 v_46) ∧
  ((v_38 < v_46 →
   R (.int .i64 (-1 : Int)) F) ∧
  (¬ (v_38 < v_46) →
   ((v_46 < v_38 →
    R (.int .i64 (1 : Int)) F) ∧
   (¬ (v_46 < v_38) →
    N1 (IntKind.i64.wrap (v_28 + (1 : Int))) F))))) ∧
 (¬ (v_28 < (a_0.len : Int)) →
  b34j1 R F))
def b34 (a_0 : Sl) (b_1 : Sl) (R : Value → PH → Prop) (F : PH) : Prop :=
 Spec prog 76 #[(Sl.v a_0)] F fun v F => ∃ v_9 : Bool, v = (.bool v_9) ∧
 (((!v_9) = true →
  R (.int .i64 (0 : Int)) F) ∧
 ((!v_9) = false →
  Spec prog 76 #[(Sl.v b_1)] F fun v F => ∃ v_13 : Bool, v = (.bool v_13) ∧
  (((!v_13) = true →
   R (.int .i64 (0 : Int)) F) ∧
  ((!v_13) = false →
   (((a_0.len : Int) ≠ (b_1.len : Int) →
    (((a_0.len : Int) < (b_1.len : Int) →
     R (.int .i64 (-1 : Int)) F) ∧
    (¬ ((a_0.len : Int) < (b_1.len : Int)) →
     R (.int .i64 (1 : Int)) F))) ∧
   (¬ ((a_0.len : Int) ≠ (b_1.len : Int)) →
    (∃ (I1 : Nat → Int → PH → Prop) (m1 : Nat), I1 m1 (0 : Int) F ∧ ∀ m1 v_28 F, I1 m1 v_28 F →
     b34L1 (fun v_28 F => ∃ m', m' < m1 ∧ I1 m' v_28 F) a_0 b_1 R v_28 F)))))))
theorem c34 {a_0 : Sl} {b_1 : Sl} {R : Value → PH → Prop} {F : PH} (h : b34 a_0 b_1 R F) : Spec prog 34 #[(Sl.v a_0), (Sl.v b_1)] F R := by
 refine spec_of (args := [(Sl.v a_0), (Sl.v b_1)]) func34 rfl ntmps34 rfl ?_
 unfold b34 at h
 refine cR ?_
 refine sR (.int .i64 (0 : Int)) (r_assign rfl rfl) ?_
 refine HL_nil ?_
 refine HC_seq ?_
 refine cR ?_
 refine sR (Sl.v a_0) (r_move rfl rfl) ?_
 refine s_ef (k_call (vs := [(Sl.v a_0)]) cb76 (evC rfl evN) (h.mono ?_))
 clear h; rintro v F ⟨v_9, rfl, h⟩
 refine sR (.bool (!v_9)) (r_not rfl rfl) ?_
 refine sR (.bool (!v_9)) (r_move rfl rfl) ?_
 by_cases hc : (!v_9) = true
 ·
  replace h := h.1 hc
  refine kN 10 hc ?_
  refine kN 11 hc ?_
  refine s_skip ?_
  refine s_skip ?_
  refine s_skip ?_
  refine sR (.bool true) (r_pick rfl rfl (fun _ => rfl) (fun h => by cases h)) ?_
  refine HL_nil ?_
  refine HC_condT rfl ?_
  refine cR ?_
  refine sR (.int .i64 (0 : Int)) (r_assign rfl rfl) ?_
  refine HL_nil ?_
  exact HC_ret (show endQ prog f34 R .ret _ _ from ⟨_, res1 rfl (rv_tmp rfl), h⟩)
 ·
  replace hc := eq_false_of_ne_true hc; replace h := h.2 hc
  refine kN 10 hc ?_
  refine kN 11 hc ?_
  refine sR (Sl.v b_1) (r_move rfl rfl) ?_
  refine s_ef (k_call (vs := [(Sl.v b_1)]) cb76 (evC rfl evN) (h.mono ?_))
  clear h; rintro v F ⟨v_13, rfl, h⟩
  refine sR (.bool (!v_13)) (r_not rfl rfl) ?_
  refine sR (.bool (!v_13)) (r_pick rfl rfl (fun h => by cases h) (fun _ => rfl)) ?_
  refine HL_nil ?_
  refine HC_cond (t := (!v_13)) rfl (fun hc => ?_) (fun hc => ?_)
  ·
   replace h := h.1 hc
   clear hc
   refine cR ?_
   refine sR (.int .i64 (0 : Int)) (r_assign rfl rfl) ?_
   refine HL_nil ?_
   exact HC_ret (show endQ prog f34 R .ret _ _ from ⟨_, res1 rfl (rv_tmp rfl), h⟩)
  ·
   replace h := h.2 hc
   clear hc
   refine HC_skip ?_
   refine HC_seq ?_
   refine cR ?_
   refine sR (Sl.v a_0) (r_move rfl rfl) ?_
   refine sR (.int .i64 (a_0.len : Int)) (r_lenSl rfl rfl underlying57) ?_
   refine sR (Sl.v b_1) (r_move rfl rfl) ?_
   refine sR (.int .i64 (b_1.len : Int)) (r_lenSl rfl rfl underlying57) ?_
   refine sR (.bool (decide ((a_0.len : Int) ≠ (b_1.len : Int)))) (w_neq rfl rfl) ?_
   refine HL_nil ?_
   refine HC_cond (t := (decide ((a_0.len : Int) ≠ (b_1.len : Int)))) rfl (fun hc => ?_) (fun hc => ?_)
   ·
    replace h := h.1 (of_decide_eq_true hc)
    clear hc
    refine HC_seq ?_
    refine cR ?_
    refine sR (Sl.v a_0) (r_move rfl rfl) ?_
    refine sR (.int .i64 (a_0.len : Int)) (r_lenSl rfl rfl underlying57) ?_
    refine sR (Sl.v b_1) (r_move rfl rfl) ?_
    refine sR (.int .i64 (b_1.len : Int)) (r_lenSl rfl rfl underlying57) ?_
    refine sR (.bool (decide ((a_0.len : Int) < (b_1.len : Int)))) (r_lss rfl rfl rfl) ?_
    refine HL_nil ?_
    refine HC_cond (t := (decide ((a_0.len : Int) < (b_1.len : Int)))) rfl (fun hc => ?_) (fun hc => ?_)
    ·
     replace h := h.1 (of_decide_eq_true hc)
     clear hc
     refine cR ?_
     refine sR (.int .i64 (-1 : Int)) (r_assign rfl rfl) ?_
     refine HL_nil ?_
     exact HC_ret (show endQ prog f34 R .ret _ _ from ⟨_, res1 rfl (rv_tmp rfl), h⟩)
    ·
     replace h := h.2 (of_decide_eq_false hc)
     clear hc
     refine HC_skip ?_
     refine cR ?_
     refine sR (.int .i64 (1 : Int)) (r_assign rfl rfl) ?_
     refine HL_nil ?_
     exact HC_ret (show endQ prog f34 R .ret _ _ from ⟨_, res1 rfl (rv_tmp rfl), h⟩)
   ·
    replace h := h.2 (of_decide_eq_false hc)
    clear hc
    refine HC_skip ?_
    refine HC_seqJ (b34J1 R) ?_ ?_
    ·
     clear h; rintro E F h
     unfold b34J1 at h; unfold b34j1 at h
     refine cR ?_
     refine sR (.int .i64 (0 : Int)) (r_assign rfl rfl) ?_
     refine HL_nil ?_
     exact HC_ret (show endQ prog f34 R .ret _ _ from ⟨_, res1 rfl (rv_tmp rfl), h⟩)
    ·
     skip
     refine cR ?_
     refine sR (Sl.v a_0) (r_move rfl rfl) ?_
     refine sR (.int .i64 (a_0.len : Int)) (r_lenSl rfl rfl underlying57) ?_
     refine sR (.int .i64 (0 : Int)) (r_move rfl rfl) ?_
     refine HL_nil ?_
     refine HC_block ?_
     obtain ⟨I1, m1, hI0, hr⟩ := h
     refine HC_loop (fun m1 E F => ∃ v_28 : Int, E 0 = (Sl.v a_0) ∧ E 1 = (Sl.v b_1) ∧ E 27 = (.int .i64 (a_0.len : Int)) ∧ E 28 = (.int .i64 v_28) ∧ I1 m1 v_28 F) m1 ⟨_, rfl, rfl, rfl, rfl, hI0⟩ ?_
     clear hI0; rintro m1 E F ⟨v_28, h0, h1, h27, h28, hI⟩
     have h := hr m1 v_28 F hI
     clear hr hI
     unfold b34L1 at h
     refine cR ?_
     refine sR (.bool (decide (v_28 < (a_0.len : Int)))) (r_lss rfl h28 h27) ?_
     refine HL_nil ?_
     refine HC_seq ?_
     refine HC_cond (t := (decide (v_28 < (a_0.len : Int)))) rfl (fun hc => ?_) (fun hc => ?_)
     ·
      replace h := h.1 (of_decide_eq_true hc)
      clear hc
      refine HC_skip ?_
      refine HC_seq ?_
      refine HC_block ?_
      refine cR ?_
      refine sR (.int .i64 v_28) (r_move rfl h28) ?_
      refine sR (.int .i64 v_28) (r_assign rfl rfl) ?_
      refine HL_nil ?_
      refine HC_seq ?_
      refine HC_draw0 (by kernel_rfl) (fun hp => ?_)
      refine gU 0 (Sl.v a_0) rfl (fun _ => r_move rfl h0) hp ?_
      refine gU 1 (Sl.v a_0) rfl (fun _ => r_move rfl h0) hp ?_
      refine gU 2 (.int .i64 (a_0.len : Int)) rfl (fun _ => r_lenSl rfl rfl underlying57) hp ?_
      refine gU 3 (.int .i64 (IntKind.i64.wrap ((a_0.len : Int) - (1 : Int)))) rfl (fun _ => r_sub rfl rfl rfl) hp ?_
      refine gU 4 (.int .i64 v_28) rfl (fun _ => r_move rfl rfl) hp ?_
      refine gU 5 (.int .i64 (IntKind.i64.wrap ((IntKind.i64.wrap ((a_0.len : Int) - (1 : Int))) - v_28))) rfl (fun _ => r_sub rfl rfl rfl) hp ?_
      obtain ⟨a37_, hb37, hl37, hu37, h⟩ := h
      refine gU 6 (.pointer (some (Addr.add a37_ (Int.toNat (IntKind.i64.wrap ((IntKind.i64.wrap ((a_0.len : Int) - (1 : Int))) - v_28)) * 1)))) rfl (fun _ => w_indexAddr rfl rfl underlying57 sz75 hb37 hl37 hu37) hp ?_
      obtain ⟨v_38, hc38, h⟩ := h
      refine gR 7 (.int .u32 v_38) rfl (r_load1 rfl rfl underlying75 rfl hc38) hp (fun S7 q7 => ?_)
      replace hp := holdC (i := 7) (q7 _ (r_load1 rfl rfl underlying75 rfl hc38)) hp
      refine gU 8 (Sl.v b_1) rfl (fun _ => r_move rfl h1) hp ?_
      refine gU 9 (Sl.v a_0) rfl (fun _ => r_move rfl h0) hp ?_
      refine gU 10 (.int .i64 (a_0.len : Int)) rfl (fun _ => r_lenSl rfl rfl underlying57) hp ?_
      refine gU 11 (.int .i64 (IntKind.i64.wrap ((a_0.len : Int) - (1 : Int)))) rfl (fun _ => r_sub rfl rfl rfl) hp ?_
      refine gU 12 (.int .i64 v_28) rfl (fun _ => r_move rfl rfl) hp ?_
      refine gU 13 (.int .i64 (IntKind.i64.wrap ((IntKind.i64.wrap ((a_0.len : Int) - (1 : Int))) - v_28))) rfl (fun _ => r_sub rfl rfl rfl) hp ?_
      obtain ⟨a45_, hb45, hl45, hu45, h⟩ := h
      refine gU 14 (.pointer (some (Addr.add a45_ (Int.toNat (IntKind.i64.wrap ((IntKind.i64.wrap ((a_0.len : Int) - (1 : Int))) - v_28)) * 1)))) rfl (fun _ => w_indexAddr rfl rfl underlying57 sz75 hb45 hl45 hu45) hp ?_
      obtain ⟨v_46, hc46, h⟩ := h
      refine gR 15 (.int .u32 v_46) rfl (r_load1 rfl rfl underlying75 rfl hc46) hp (fun S15 q15 => ?_)
      replace hp := holdC (i := 15) (q15 _ (r_load1 rfl rfl underlying75 rfl hc46)) hp
      refine gU 16 (.int .u32 v_38) rfl (fun _ => r_assign rfl rfl) hp ?_
      refine gU 17 (.int .u32 v_46) rfl (fun _ => r_assign rfl rfl) hp ?_
      refine RG_done (by kernel_rfl) ?_
      refine HC_seq ?_
      refine cR ?_
      refine sR (.int .u32 v_38) (r_move rfl rfl) ?_
      refine sR (.int .u32 v_46) (r_move rfl rfl) ?_
      refine sR (.bool (decide (v_38 < v_46))) (r_lss rfl rfl rfl) ?_
      refine HL_nil ?_
      refine HC_cond (t := (decide (v_38 < v_46))) rfl (fun hc => ?_) (fun hc => ?_)
      ·
       replace h := h.1 (of_decide_eq_true hc)
       clear hc
       refine cR ?_
       refine sR (.int .i64 (-1 : Int)) (r_assign rfl rfl) ?_
       refine HL_nil ?_
       exact HC_ret (show endQ prog f34 R .ret _ _ from ⟨_, res1 rfl (rv_tmp rfl), h⟩)
      ·
       replace h := h.2 (of_decide_eq_false hc)
       clear hc
       refine HC_skip ?_
       refine cR ?_
       refine sR (.int .u32 v_38) (r_move rfl rfl) ?_
       refine sR (.int .u32 v_46) (r_move rfl rfl) ?_
       refine sR (.bool (decide (v_46 < v_38))) (r_gtr rfl rfl rfl) ?_
       refine HL_nil ?_
       refine HC_cond (t := (decide (v_46 < v_38))) rfl (fun hc => ?_) (fun hc => ?_)
       ·
        replace h := h.1 (of_decide_eq_true hc)
        clear hc
        refine cR ?_
        refine sR (.int .i64 (1 : Int)) (r_assign rfl rfl) ?_
        refine HL_nil ?_
        exact HC_ret (show endQ prog f34 R .ret _ _ from ⟨_, res1 rfl (rv_tmp rfl), h⟩)
       ·
        replace h := h.2 (of_decide_eq_false hc)
        clear hc
        refine HC_skip ?_
        refine HC_region ?_
        refine sR (.int .i64 (IntKind.i64.wrap (v_28 + (1 : Int)))) (r_add rfl h28 rfl) ?_
        refine sR (.int .i64 (IntKind.i64.wrap (v_28 + (1 : Int)))) (r_move rfl rfl) ?_
        refine HL_nil ?_
        obtain ⟨m', hm, h⟩ := h
        exact ⟨m', hm, _, h0, h1, h27, rfl, h⟩
     ·
      replace h := h.2 (of_decide_eq_false hc)
      clear hc
      refine HC_exit ?_
      exact h

end Go.Proofs.Ytafojmoeaneedaa
