/-
  What functions of the program do, in a clean form, each with the proof that its code does so. Printed by a program.
-/
import Derived.Test.YtafojmoeaneedaaGf
import Derived.Test.YtafojmoeaneedaaPho
namespace Go.Proofs.Ytafojmoeaneedaa
open Go Go.Proofs.Try
set_option maxRecDepth 10000
set_option maxHeartbeats 4000000
/- 39 koine.koineref02.Same -/
def b39j1 (R : Value → PH → Prop) (F : PH) : Prop :=
 R (.bool true) F
abbrev b39J1 (R : Value → PH → Prop) (E : En) (F : PH) : Prop := b39j1 R F
def b39L1 (N1 : Int → PH → Prop) (b2 : Nat) (b3 : Nat) (R : Value → PH → Prop) (i_5 : Int) (F : PH) : Prop :=
 ∃ v_22 : Sl, F.cell (Addr.mk b2 0 none) = some (Sl.v v_22) ∧
 ((i_5 < (v_22.len : Int) →
  ∃ v_28 : Sl, F.cell (Addr.mk b2 0 none) = some (Sl.v v_28) ∧
  ∃ a30_ : Addr, v_28.base = some a30_ ∧ 0 ≤ i_5 ∧ i_5 < (v_28.len : Int) ∧
  ∃ v_31 : Array Value, v_31.size = 3 ∧ F.row (Addr.add a30_ (Int.toNat i_5 * 3)) v_31 ∧
  ∃ v_33 : Sl, F.cell (Addr.mk b3 0 none) = some (Sl.v v_33) ∧
  ∃ a35_ : Addr, v_33.base = some a35_ ∧ 0 ≤ i_5 ∧ i_5 < (v_33.len : Int) ∧
  ∃ v_36 : Array Value, v_36.size = 3 ∧ F.row (Addr.add a35_ (Int.toNat i_5 * 3)) v_36 ∧
  ∃ v_37 : Bool, (∀ F, rdo prog (Op.equal 72 (.agg v_31) (.agg v_36)) F v_37) ∧
  (((!v_37) = true →
   R (.bool false) F) ∧
  ((!v_37) = false →
   N1 (IntKind.i64.wrap (i_5 + (1 : Int))) F))) ∧
 (¬ (i_5 < (v_22.len : Int)) →
  b39j1 R F))
def b39 (a_0 : Array Value) (b_1 : Array Value) (R : Value → PH → Prop) (F : PH) : Prop :=
 ∀ b2, F b2 = none → atF (F.set b2 (.cells a_0 28)) fun F =>
 ∀ b3, F b3 = none → atF (F.set b3 (.cells b_1 28)) fun F =>
 ∃ v_7 : Int, F.cell (Addr.mk b2 1 none) = some (.int .i64 v_7) ∧
 ∃ v_9 : Int, F.cell (Addr.mk b3 1 none) = some (.int .i64 v_9) ∧
 ((v_7 ≠ v_9 →
  R (.bool false) F) ∧
 (¬ (v_7 ≠ v_9) →
  ∃ v_13 : Sl, F.cell (Addr.mk b2 0 none) = some (Sl.v v_13) ∧
  ∃ v_16 : Sl, F.cell (Addr.mk b3 0 none) = some (Sl.v v_16) ∧
  (((v_13.len : Int) ≠ (v_16.len : Int) →
   R (.bool false) F) ∧
  (¬ ((v_13.len : Int) ≠ (v_16.len : Int)) →
   (∃ (I1 : Nat → Int → PH → Prop) (m1 : Nat), I1 m1 (0 : Int) F ∧ ∀ m1 i_5 F, I1 m1 i_5 F →
    b39L1 (fun i_5 F => ∃ m', m' < m1 ∧ I1 m' i_5 F) b2 b3 R i_5 F)))))
theorem c39 {a_0 : Array Value} {b_1 : Array Value} {R : Value → PH → Prop} {F : PH} (h : b39 a_0 b_1 R F) : Spec prog 39 #[(.agg a_0), (.agg b_1)] F R := by
 refine spec_of (args := [(.agg a_0), (.agg b_1)]) func39 rfl ntmps39 rfl ?_
 unfold b39 at h
 refine cR ?_
 refine s_ef (k_box (cs := a_0) rfl rfl ?_)
 intro b2 hf_b2
 replace h := atE (h b2 hf_b2)
 refine s_ef (k_box (cs := b_1) rfl rfl ?_)
 intro b3 hf_b3
 replace h := atE (h b3 hf_b3)
 refine sR (.bool false) (r_assign rfl rfl) ?_
 refine HL_nil ?_
 refine HC_seq ?_
 refine cR ?_
 refine sR (.pointer (some (Addr.mk b2 1 none))) (w_fieldAddr (a' := (Addr.mk b2 1 none)) rfl underlying28 rfl rfl sz3 rfl rfl) ?_
 obtain ⟨v_7, hc7, h⟩ := h
 refine sR (.int .i64 v_7) (r_load1 rfl rfl underlying3 rfl hc7) ?_
 refine sR (.pointer (some (Addr.mk b3 1 none))) (w_fieldAddr (a' := (Addr.mk b3 1 none)) rfl underlying28 rfl rfl sz3 rfl rfl) ?_
 obtain ⟨v_9, hc9, h⟩ := h
 refine sR (.int .i64 v_9) (r_load1 rfl rfl underlying3 rfl hc9) ?_
 refine sR (.bool (decide (v_7 ≠ v_9))) (w_neq rfl rfl) ?_
 refine sR (.bool (decide (v_7 ≠ v_9))) (r_move rfl rfl) ?_
 by_cases hc : v_7 ≠ v_9
 ·
  replace h := h.1 hc
  refine kN 10 (decide_eq_true hc) ?_
  refine kN 11 (decide_eq_true hc) ?_
  refine s_skip ?_
  refine s_skip ?_
  refine s_skip ?_
  refine s_skip ?_
  refine s_skip ?_
  refine s_skip ?_
  refine s_skip ?_
  refine sR (.bool true) (r_pick rfl rfl (fun _ => rfl) (fun h => by cases h)) ?_
  refine HL_nil ?_
  refine HC_condT rfl ?_
  refine cR ?_
  refine sR (.bool false) (r_assign rfl rfl) ?_
  refine HL_nil ?_
  exact HC_ret (show endQ prog f39 R .ret _ _ from ⟨_, res1 rfl (rv_tmp rfl), h⟩)
 ·
  replace h := h.2 hc
  refine kN 10 (decide_eq_false hc) ?_
  refine kN 11 (decide_eq_false hc) ?_
  refine sR (.pointer (some (Addr.mk b2 0 none))) (w_fieldAddr (a' := (Addr.mk b2 0 none)) rfl underlying28 rfl rfl sz26 rfl rfl) ?_
  obtain ⟨v_13, hc13, h⟩ := h
  refine sR (Sl.v v_13) (r_load1 rfl rfl underlying26 rfl hc13) ?_
  refine sR (.int .i64 (v_13.len : Int)) (r_lenSl rfl rfl underlying26) ?_
  refine sR (.pointer (some (Addr.mk b3 0 none))) (w_fieldAddr (a' := (Addr.mk b3 0 none)) rfl underlying28 rfl rfl sz26 rfl rfl) ?_
  obtain ⟨v_16, hc16, h⟩ := h
  refine sR (Sl.v v_16) (r_load1 rfl rfl underlying26 rfl hc16) ?_
  refine sR (.int .i64 (v_16.len : Int)) (r_lenSl rfl rfl underlying26) ?_
  refine sR (.bool (decide ((v_13.len : Int) ≠ (v_16.len : Int)))) (w_neq rfl rfl) ?_
  refine sR (.bool (decide ((v_13.len : Int) ≠ (v_16.len : Int)))) (r_pick rfl rfl (fun h => by cases h) (fun _ => rfl)) ?_
  refine HL_nil ?_
  refine HC_cond (t := (decide ((v_13.len : Int) ≠ (v_16.len : Int)))) rfl (fun hc => ?_) (fun hc => ?_)
  ·
   replace h := h.1 (of_decide_eq_true hc)
   clear hc
   refine cR ?_
   refine sR (.bool false) (r_assign rfl rfl) ?_
   refine HL_nil ?_
   exact HC_ret (show endQ prog f39 R .ret _ _ from ⟨_, res1 rfl (rv_tmp rfl), h⟩)
  ·
   replace h := h.2 (of_decide_eq_false hc)
   clear hc
   refine HC_skip ?_
   refine HC_seqJ (b39J1 R) ?_ ?_
   ·
    clear h; rintro E F h
    unfold b39J1 at h; unfold b39j1 at h
    refine cR ?_
    refine sR (.bool true) (r_assign rfl rfl) ?_
    refine HL_nil ?_
    exact HC_ret (show endQ prog f39 R .ret _ _ from ⟨_, res1 rfl (rv_tmp rfl), h⟩)
   ·
    skip
    refine cR ?_
    refine sR (.int .i64 (0 : Int)) (r_assign rfl rfl) ?_
    refine HL_nil ?_
    refine HC_block ?_
    obtain ⟨I1, m1, hI0, hr⟩ := h
    refine HC_loop (fun m1 E F => ∃ i_5 : Int, E 2 = (.pointer (some (Addr.mk b2 0 none))) ∧ E 3 = (.pointer (some (Addr.mk b3 0 none))) ∧ E 5 = (.int .i64 i_5) ∧ I1 m1 i_5 F) m1 ⟨_, rfl, rfl, rfl, hI0⟩ ?_
    clear hI0; rintro m1 E F ⟨i_5, h2, h3, h5, hI⟩
    have h := hr m1 i_5 F hI
    clear hr hI
    unfold b39L1 at h
    refine HC_seq ?_
    refine cR ?_
    refine sR (.int .i64 i_5) (r_move rfl h5) ?_
    refine sR (.pointer (some (Addr.mk b2 0 none))) (w_fieldAddr (a' := (Addr.mk b2 0 none)) h2 underlying28 rfl rfl sz26 rfl rfl) ?_
    obtain ⟨v_22, hc22, h⟩ := h
    refine sR (Sl.v v_22) (r_load1 rfl rfl underlying26 rfl hc22) ?_
    refine sR (.int .i64 (v_22.len : Int)) (r_lenSl rfl rfl underlying26) ?_
    refine sR (.bool (decide (i_5 < (v_22.len : Int)))) (r_lss rfl rfl rfl) ?_
    refine HL_nil ?_
    refine HC_cond (t := (decide (i_5 < (v_22.len : Int)))) rfl (fun hc => ?_) (fun hc => ?_)
    ·
     replace h := h.1 (of_decide_eq_true hc)
     clear hc
     refine HC_skip ?_
     refine HC_seq ?_
     refine HC_block ?_
     refine HC_seq ?_
     refine HC_draw0 (by kernel_rfl) (fun hp => ?_)
     refine gU 0 (.pointer (some (Addr.mk b2 0 none))) rfl (fun _ => w_fieldAddr (a' := (Addr.mk b2 0 none)) h2 underlying28 rfl rfl sz26 rfl rfl) hp ?_
     obtain ⟨v_28, hc28, h⟩ := h
     refine gR 1 (Sl.v v_28) rfl (r_load1 rfl rfl underlying26 rfl hc28) hp (fun S1 q1 => ?_)
     replace hp := holdC (i := 1) (q1 _ (r_load1 rfl rfl underlying26 rfl hc28)) hp
     refine gU 2 (.int .i64 i_5) rfl (fun _ => r_move rfl h5) hp ?_
     obtain ⟨a30_, hb30, hl30, hu30, h⟩ := h
     refine gU 3 (.pointer (some (Addr.add a30_ (Int.toNat i_5 * 3)))) rfl (fun _ => w_indexAddr rfl rfl underlying26 sz72 hb30 hl30 hu30) hp ?_
     obtain ⟨v_31, hs31, hc31, h⟩ := h
     refine gR 4 (.agg v_31) rfl (w_loadN rfl underlying72 rfl sz72 hs31 hc31) hp (fun S4 q4 => ?_)
     replace hp := holdC (i := 4) (q4 _ (w_loadN rfl underlying72 rfl sz72 hs31 hc31)) hp
     refine gU 5 (.pointer (some (Addr.mk b3 0 none))) rfl (fun _ => w_fieldAddr (a' := (Addr.mk b3 0 none)) h3 underlying28 rfl rfl sz26 rfl rfl) hp ?_
     obtain ⟨v_33, hc33, h⟩ := h
     refine gR 6 (Sl.v v_33) rfl (r_load1 rfl rfl underlying26 rfl hc33) hp (fun S6 q6 => ?_)
     replace hp := holdC (i := 6) (q6 _ (r_load1 rfl rfl underlying26 rfl hc33)) hp
     refine gU 7 (.int .i64 i_5) rfl (fun _ => r_move rfl h5) hp ?_
     obtain ⟨a35_, hb35, hl35, hu35, h⟩ := h
     refine gU 8 (.pointer (some (Addr.add a35_ (Int.toNat i_5 * 3)))) rfl (fun _ => w_indexAddr rfl rfl underlying26 sz72 hb35 hl35 hu35) hp ?_
     obtain ⟨v_36, hs36, hc36, h⟩ := h
     refine gR 9 (.agg v_36) rfl (w_loadN rfl underlying72 rfl sz72 hs36 hc36) hp (fun S9 q9 => ?_)
     replace hp := holdC (i := 9) (q9 _ (w_loadN rfl underlying72 rfl sz72 hs36 hc36)) hp
     obtain ⟨v_37, hx37, h⟩ := h
     refine gU 10 (.bool (!v_37)) rfl (fun _ => r_neqAg rfl rfl rfl eg72 (hx37 _)) hp ?_
     refine RG_done (by kernel_rfl) ?_
     refine HC_cond (t := (!v_37)) rfl (fun hc => ?_) (fun hc => ?_)
     ·
      replace h := h.1 hc
      clear hc
      refine cR ?_
      refine sR (.bool false) (r_assign rfl rfl) ?_
      refine HL_nil ?_
      exact HC_ret (show endQ prog f39 R .ret _ _ from ⟨_, res1 rfl (rv_tmp rfl), h⟩)
     ·
      replace h := h.2 hc
      clear hc
      refine HC_skip ?_
      refine HC_region ?_
      refine sR (.int .i64 i_5) (r_move rfl h5) ?_
      refine sR (.int .i64 (IntKind.i64.wrap (i_5 + (1 : Int)))) (r_add rfl rfl rfl) ?_
      refine sR (.int .i64 (IntKind.i64.wrap (i_5 + (1 : Int)))) (r_assign rfl rfl) ?_
      refine HL_nil ?_
      obtain ⟨m', hm, h⟩ := h
      exact ⟨m', hm, _, h2, h3, rfl, h⟩
    ·
     replace h := h.2 (of_decide_eq_false hc)
     clear hc
     refine HC_exit ?_
     exact h

/- 109 koine.koineref02.level -/
def b109 (d_0 : Array Value) (n_1 : Int) (R : Value → PH → Prop) (F : PH) : Prop :=
 ∀ b2, F b2 = none → atF (F.set b2 (.cells d_0 28)) fun F =>
 ((n_1 < (2 : Int) →
  R (.int .i64 (64 : Int)) F) ∧
 (¬ (n_1 < (2 : Int)) →
  ∃ v_8 : Sl, F.cell (Addr.mk b2 0 none) = some (Sl.v v_8) ∧
  ∃ a11_ : Addr, v_8.base = some a11_ ∧ 0 ≤ (IntKind.i64.wrap (n_1 - (2 : Int))) ∧ (IntKind.i64.wrap (n_1 - (2 : Int))) < (v_8.len : Int) ∧
  ∃ v_13 : Int, F.cell (Addr.add a11_ (Int.toNat (IntKind.i64.wrap (n_1 - (2 : Int))) * 3)) = some (.int .i64 v_13) ∧
  R (.int .i64 v_13) F))
theorem c109 {d_0 : Array Value} {n_1 : Int} {R : Value → PH → Prop} {F : PH} (h : b109 d_0 n_1 R F) : Spec prog 109 #[(.agg d_0), (.int .i64 n_1)] F R := by
 refine spec_of (args := [(.agg d_0), (.int .i64 n_1)]) func109 rfl ntmps109 rfl ?_
 unfold b109 at h
 refine cR ?_
 refine s_ef (k_box (cs := d_0) rfl rfl ?_)
 intro b2 hf_b2
 replace h := atE (h b2 hf_b2)
 refine sR (.int .i64 (0 : Int)) (r_assign rfl rfl) ?_
 refine HL_nil ?_
 refine HC_seq ?_
 refine cR ?_
 refine sR (.int .i64 n_1) (r_move rfl rfl) ?_
 refine sR (.bool (decide (n_1 < (2 : Int)))) (r_lss rfl rfl rfl) ?_
 refine HL_nil ?_
 refine HC_cond (t := (decide (n_1 < (2 : Int)))) rfl (fun hc => ?_) (fun hc => ?_)
 ·
  replace h := h.1 (of_decide_eq_true hc)
  clear hc
  refine cR ?_
  refine sR (.int .i64 (64 : Int)) (r_assign rfl rfl) ?_
  refine HL_nil ?_
  exact HC_ret (show endQ prog f109 R .ret _ _ from ⟨_, res1 rfl (rv_tmp rfl), h⟩)
 ·
  replace h := h.2 (of_decide_eq_false hc)
  clear hc
  refine HC_skip ?_
  refine cR ?_
  refine sR (.pointer (some (Addr.mk b2 0 none))) (w_fieldAddr (a' := (Addr.mk b2 0 none)) rfl underlying28 rfl rfl sz26 rfl rfl) ?_
  obtain ⟨v_8, hc8, h⟩ := h
  refine sR (Sl.v v_8) (r_load1 rfl rfl underlying26 rfl hc8) ?_
  refine sR (.int .i64 n_1) (r_move rfl rfl) ?_
  refine sR (.int .i64 (IntKind.i64.wrap (n_1 - (2 : Int)))) (r_sub rfl rfl rfl) ?_
  obtain ⟨a11_, hb11, hl11, hu11, h⟩ := h
  refine sR (.pointer (some (Addr.add a11_ (Int.toNat (IntKind.i64.wrap (n_1 - (2 : Int))) * 3)))) (w_indexAddr rfl rfl underlying26 sz72 hb11 hl11 hu11) ?_
  refine sR (.pointer (some (Addr.add a11_ (Int.toNat (IntKind.i64.wrap (n_1 - (2 : Int))) * 3)))) (w_fieldAddr (a' := (Addr.add a11_ (Int.toNat (IntKind.i64.wrap (n_1 - (2 : Int))) * 3))) rfl underlying72 rfl rfl sz3 rfl rfl) ?_
  obtain ⟨v_13, hc13, h⟩ := h
  refine sR (.int .i64 v_13) (r_load1 rfl rfl underlying3 rfl hc13) ?_
  refine sR (.int .i64 v_13) (r_assign rfl rfl) ?_
  refine HL_nil ?_
  exact HC_ret (show endQ prog f109 R .ret _ _ from ⟨_, res1 rfl (rv_tmp rfl), h⟩)

/- 123 koine.koineref02.sides -/
def b123 (d_0 : Array Value) (n_1 : Int) (v_2 : Int) (R : Value → PH → Prop) (F : PH) : Prop :=
 ∀ b3, F b3 = none → atF (F.set b3 (.cells d_0 28)) fun F =>
 ∃ v_8 : Array Value, v_8.size = 2 ∧ F.row (Addr.mk b3 0 none) v_8 ∧
 Spec prog 109 #[(.agg v_8), (.int .i64 n_1)] F fun v F => ∃ v_10 : Int, v = (.int .i64 v_10) ∧
 ((v_10 ≠ v_2 →
  R (.tuple #[(.int .i64 n_1), (.int .i64 n_1)]) F) ∧
 (¬ (v_10 ≠ v_2) →
  ∃ v_16 : Sl, F.cell (Addr.mk b3 0 none) = some (Sl.v v_16) ∧
  ∃ a19_ : Addr, v_16.base = some a19_ ∧ 0 ≤ (IntKind.i64.wrap (n_1 - (2 : Int))) ∧ (IntKind.i64.wrap (n_1 - (2 : Int))) < (v_16.len : Int) ∧
  ∃ v_21 : Int, F.cell (Addr.add (Addr.add a19_ (Int.toNat (IntKind.i64.wrap (n_1 - (2 : Int))) * 3)) 1) = some (.int .i64 v_21) ∧
  ∃ v_23 : Sl, F.cell (Addr.mk b3 0 none) = some (Sl.v v_23) ∧
  ∃ a26_ : Addr, v_23.base = some a26_ ∧ 0 ≤ (IntKind.i64.wrap (n_1 - (2 : Int))) ∧ (IntKind.i64.wrap (n_1 - (2 : Int))) < (v_23.len : Int) ∧
  ∃ v_28 : Int, F.cell (Addr.add (Addr.add a26_ (Int.toNat (IntKind.i64.wrap (n_1 - (2 : Int))) * 3)) 2) = some (.int .i64 v_28) ∧
  R (.tuple #[(.int .i64 v_21), (.int .i64 v_28)]) F))
theorem c123 {d_0 : Array Value} {n_1 : Int} {v_2 : Int} {R : Value → PH → Prop} {F : PH} (h : b123 d_0 n_1 v_2 R F) : Spec prog 123 #[(.agg d_0), (.int .i64 n_1), (.int .i64 v_2)] F R := by
 refine spec_of (args := [(.agg d_0), (.int .i64 n_1), (.int .i64 v_2)]) func123 rfl ntmps123 rfl ?_
 unfold b123 at h
 refine cR ?_
 refine s_ef (k_box (cs := d_0) rfl rfl ?_)
 intro b3 hf_b3
 replace h := atE (h b3 hf_b3)
 refine sR (.int .i64 (0 : Int)) (r_assign rfl rfl) ?_
 refine sR (.int .i64 (0 : Int)) (r_assign rfl rfl) ?_
 refine HL_nil ?_
 refine HC_seq ?_
 refine cR ?_
 obtain ⟨v_8, hs8, hc8, h⟩ := h
 refine sR (.agg v_8) (w_loadN rfl underlying28 rfl sz28 hs8 hc8) ?_
 refine sR (.int .i64 n_1) (r_move rfl rfl) ?_
 refine s_ef (k_call (vs := [(.agg v_8), (.int .i64 n_1)]) cb109 (evC rfl (evC rfl evN)) (h.mono ?_))
 clear h; rintro v F ⟨v_10, rfl, h⟩
 refine sR (.int .i64 v_2) (r_move rfl rfl) ?_
 refine sR (.bool (decide (v_10 ≠ v_2))) (w_neq rfl rfl) ?_
 refine HL_nil ?_
 refine HC_cond (t := (decide (v_10 ≠ v_2))) rfl (fun hc => ?_) (fun hc => ?_)
 ·
  replace h := h.1 (of_decide_eq_true hc)
  clear hc
  refine cR ?_
  refine sR (.int .i64 n_1) (r_move rfl rfl) ?_
  refine sR (.int .i64 n_1) (r_move rfl rfl) ?_
  refine sR (.int .i64 n_1) (r_assign rfl rfl) ?_
  refine sR (.int .i64 n_1) (r_assign rfl rfl) ?_
  refine HL_nil ?_
  exact HC_ret (show endQ prog f123 R .ret _ _ from ⟨_, res2 rfl (rv_tmp rfl) (rv_tmp rfl), h⟩)
 ·
  replace h := h.2 (of_decide_eq_false hc)
  clear hc
  refine HC_skip ?_
  refine HC_seq ?_
  refine HC_draw0 (by kernel_rfl) (fun hp => ?_)
  refine gU 0 (.pointer (some (Addr.mk b3 0 none))) rfl (fun _ => w_fieldAddr (a' := (Addr.mk b3 0 none)) rfl underlying28 rfl rfl sz26 rfl rfl) hp ?_
  obtain ⟨v_16, hc16, h⟩ := h
  refine gR 1 (Sl.v v_16) rfl (r_load1 rfl rfl underlying26 rfl hc16) hp (fun S1 q1 => ?_)
  replace hp := holdC (i := 1) (q1 _ (r_load1 rfl rfl underlying26 rfl hc16)) hp
  refine gU 2 (.int .i64 n_1) rfl (fun _ => r_move rfl rfl) hp ?_
  refine gU 3 (.int .i64 (IntKind.i64.wrap (n_1 - (2 : Int)))) rfl (fun _ => r_sub rfl rfl rfl) hp ?_
  obtain ⟨a19_, hb19, hl19, hu19, h⟩ := h
  refine gU 4 (.pointer (some (Addr.add a19_ (Int.toNat (IntKind.i64.wrap (n_1 - (2 : Int))) * 3)))) rfl (fun _ => w_indexAddr rfl rfl underlying26 sz72 hb19 hl19 hu19) hp ?_
  refine gU 5 (.pointer (some (Addr.add (Addr.add a19_ (Int.toNat (IntKind.i64.wrap (n_1 - (2 : Int))) * 3)) 1))) rfl (fun _ => w_fieldAddr (a' := (Addr.add (Addr.add a19_ (Int.toNat (IntKind.i64.wrap (n_1 - (2 : Int))) * 3)) 1)) rfl underlying72 rfl rfl sz3 rfl rfl) hp ?_
  obtain ⟨v_21, hc21, h⟩ := h
  refine gR 6 (.int .i64 v_21) rfl (r_load1 rfl rfl underlying3 rfl hc21) hp (fun S6 q6 => ?_)
  replace hp := holdC (i := 6) (q6 _ (r_load1 rfl rfl underlying3 rfl hc21)) hp
  refine gU 7 (.pointer (some (Addr.mk b3 0 none))) rfl (fun _ => w_fieldAddr (a' := (Addr.mk b3 0 none)) rfl underlying28 rfl rfl sz26 rfl rfl) hp ?_
  obtain ⟨v_23, hc23, h⟩ := h
  refine gR 8 (Sl.v v_23) rfl (r_load1 rfl rfl underlying26 rfl hc23) hp (fun S8 q8 => ?_)
  replace hp := holdC (i := 8) (q8 _ (r_load1 rfl rfl underlying26 rfl hc23)) hp
  refine gU 9 (.int .i64 n_1) rfl (fun _ => r_move rfl rfl) hp ?_
  refine gU 10 (.int .i64 (IntKind.i64.wrap (n_1 - (2 : Int)))) rfl (fun _ => r_sub rfl rfl rfl) hp ?_
  obtain ⟨a26_, hb26, hl26, hu26, h⟩ := h
  refine gU 11 (.pointer (some (Addr.add a26_ (Int.toNat (IntKind.i64.wrap (n_1 - (2 : Int))) * 3)))) rfl (fun _ => w_indexAddr rfl rfl underlying26 sz72 hb26 hl26 hu26) hp ?_
  refine gU 12 (.pointer (some (Addr.add (Addr.add a26_ (Int.toNat (IntKind.i64.wrap (n_1 - (2 : Int))) * 3)) 2))) rfl (fun _ => w_fieldAddr (a' := (Addr.add (Addr.add a26_ (Int.toNat (IntKind.i64.wrap (n_1 - (2 : Int))) * 3)) 2)) rfl underlying72 rfl rfl sz3 rfl rfl) hp ?_
  obtain ⟨v_28, hc28, h⟩ := h
  refine gR 13 (.int .i64 v_28) rfl (r_load1 rfl rfl underlying3 rfl hc28) hp (fun S13 q13 => ?_)
  replace hp := holdC (i := 13) (q13 _ (r_load1 rfl rfl underlying3 rfl hc28)) hp
  refine gU 14 (.int .i64 v_21) rfl (fun _ => r_assign rfl rfl) hp ?_
  refine gU 15 (.int .i64 v_28) rfl (fun _ => r_assign rfl rfl) hp ?_
  refine RG_done (by kernel_rfl) ?_
  exact HC_ret (show endQ prog f123 R .ret _ _ from ⟨_, res2 rfl (rv_tmp rfl) (rv_tmp rfl), h⟩)

/- 105 koine.koineref02.unique -/
def b105j1 (l_0 : Sl) (b3 : Nat) (R : Value → PH → Prop) (F : PH) : Prop :=
 ∃ v_31 : Array Value, v_31.size = 3 ∧ F.row (Addr.mk b3 0 none) v_31 ∧
 v_31.size = 3 ∧ ∀ b32, F b32 = none → atF (F.set b32 (.cells v_31 72)) fun F =>
 runs prog (Builtin.append_ #[26, 26] 26 #[(Sl.v l_0), (Sl.v (Sl.mk (some (Addr.mk b32 0 none)) 1 1))]) F fun v F => ∃ v_33 : Sl, v = (Sl.v v_33) ∧
 R (.tuple #[(Sl.v v_33), (.int .i64 (IntKind.i64.wrap ((v_33.len : Int) + (1 : Int))))]) F
abbrev b105J1 (l_0 : Sl) (b3 : Nat) (R : Value → PH → Prop) (E : En) (F : PH) : Prop := E 0 = (Sl.v l_0) ∧ E 3 = (.pointer (some (Addr.mk b3 0 none))) ∧ b105j1 l_0 b3 R F
def b105L1 (N1 : Int → PH → Prop) (l_0 : Sl) (b3 : Nat) (R : Value → PH → Prop) (i_6 : Int) (F : PH) : Prop :=
 ((i_6 < (l_0.len : Int) →
  ∃ a23_ : Addr, l_0.base = some a23_ ∧ 0 ≤ i_6 ∧ i_6 < (l_0.len : Int) ∧
  ∃ v_24 : Array Value, v_24.size = 3 ∧ F.row (Addr.add a23_ (Int.toNat i_6 * 3)) v_24 ∧
  ∃ v_25 : Array Value, v_25.size = 3 ∧ F.row (Addr.mk b3 0 none) v_25 ∧
  ∃ v_26 : Bool, (∀ F, rdo prog (Op.equal 72 (.agg v_24) (.agg v_25)) F v_26) ∧
  ((v_26 = true →
   R (.tuple #[(Sl.v l_0), (.int .i64 (IntKind.i64.wrap (i_6 + (2 : Int))))]) F) ∧
  (v_26 = false →
   N1 (IntKind.i64.wrap (i_6 + (1 : Int))) F))) ∧
 (¬ (i_6 < (l_0.len : Int)) →
  b105j1 l_0 b3 R F))
def b105 (l_0 : Sl) (b_1 : Array Value) (R : Value → PH → Prop) (F : PH) : Prop :=
 ∀ b3, F b3 = none → atF (F.set b3 (.cells b_1 72)) fun F =>
 ∃ v_8 : Int, F.cell (Addr.mk b3 1 none) = some (.int .i64 v_8) ∧
 ∃ v_10 : Int, F.cell (Addr.mk b3 2 none) = some (.int .i64 v_10) ∧
 ((v_8 = v_10 →
  ∃ v_14 : Int, F.cell (Addr.mk b3 1 none) = some (.int .i64 v_14) ∧
  R (.tuple #[(Sl.v l_0), (.int .i64 v_14)]) F) ∧
 (¬ (v_8 = v_10) →
  (∃ (I1 : Nat → Int → PH → Prop) (m1 : Nat), I1 m1 (0 : Int) F ∧ ∀ m1 i_6 F, I1 m1 i_6 F →
   b105L1 (fun i_6 F => ∃ m', m' < m1 ∧ I1 m' i_6 F) l_0 b3 R i_6 F)))
theorem c105 {l_0 : Sl} {b_1 : Array Value} {R : Value → PH → Prop} {F : PH} (h : b105 l_0 b_1 R F) : Spec prog 105 #[(Sl.v l_0), (.agg b_1)] F R := by
 refine spec_of (args := [(Sl.v l_0), (.agg b_1)]) func105 rfl ntmps105 rfl ?_
 unfold b105 at h
 refine cR ?_
 refine s_ef (k_box (cs := b_1) rfl rfl ?_)
 intro b3 hf_b3
 replace h := atE (h b3 hf_b3)
 refine sR (Sl.v Sl.nil) (r_assign rfl rfl) ?_
 refine sR (.int .i64 (0 : Int)) (r_assign rfl rfl) ?_
 refine HL_nil ?_
 refine HC_seq ?_
 refine cR ?_
 refine sR (.pointer (some (Addr.mk b3 1 none))) (w_fieldAddr (a' := (Addr.mk b3 1 none)) rfl underlying72 rfl rfl sz3 rfl rfl) ?_
 obtain ⟨v_8, hc8, h⟩ := h
 refine sR (.int .i64 v_8) (r_load1 rfl rfl underlying3 rfl hc8) ?_
 refine sR (.pointer (some (Addr.mk b3 2 none))) (w_fieldAddr (a' := (Addr.mk b3 2 none)) rfl underlying72 rfl rfl sz3 rfl rfl) ?_
 obtain ⟨v_10, hc10, h⟩ := h
 refine sR (.int .i64 v_10) (r_load1 rfl rfl underlying3 rfl hc10) ?_
 refine sR (.bool (decide (v_8 = v_10))) (w_eql rfl rfl) ?_
 refine HL_nil ?_
 refine HC_cond (t := (decide (v_8 = v_10))) rfl (fun hc => ?_) (fun hc => ?_)
 ·
  replace h := h.1 (of_decide_eq_true hc)
  clear hc
  refine HC_seq ?_
  refine HC_draw0 (by kernel_rfl) (fun hp => ?_)
  refine gU 0 (Sl.v l_0) rfl (fun _ => r_move rfl rfl) hp ?_
  refine gU 1 (.pointer (some (Addr.mk b3 1 none))) rfl (fun _ => w_fieldAddr (a' := (Addr.mk b3 1 none)) rfl underlying72 rfl rfl sz3 rfl rfl) hp ?_
  obtain ⟨v_14, hc14, h⟩ := h
  refine gR 2 (.int .i64 v_14) rfl (r_load1 rfl rfl underlying3 rfl hc14) hp (fun S2 q2 => ?_)
  replace hp := holdC (i := 2) (q2 _ (r_load1 rfl rfl underlying3 rfl hc14)) hp
  refine gU 3 (Sl.v l_0) rfl (fun _ => r_assign rfl rfl) hp ?_
  refine gU 4 (.int .i64 v_14) rfl (fun _ => r_assign rfl rfl) hp ?_
  refine RG_done (by kernel_rfl) ?_
  exact HC_ret (show endQ prog f105 R .ret _ _ from ⟨_, res2 rfl (rv_tmp rfl) (rv_tmp rfl), h⟩)
 ·
  replace h := h.2 (of_decide_eq_false hc)
  clear hc
  refine HC_skip ?_
  refine HC_seqJ (b105J1 l_0 b3 R) ?_ ?_
  ·
   clear h; rintro E F ⟨h0, h3, h⟩
   unfold b105j1 at h
   refine cR ?_
   refine sR (Sl.v l_0) (r_move rfl h0) ?_
   obtain ⟨v_31, hs31, hc31, h⟩ := h
   refine sR (.agg v_31) (w_loadN h3 underlying72 rfl sz72 hs31 hc31) ?_
   obtain ⟨hz32, h⟩ := h
   refine s_ef (k_buildSlice (cells := v_31) underlying26 sz72 (by decide) zr72 rfl (evPC rfl evPN) (fillWhole hz32 rfl rfl) rfl ?_)
   intro b32 hf_b32
   replace h := atE (h b32 hf_b32)
   refine s_ef (k_append rfl rfl (runs_mono _ _ h ?_))
   clear h; rintro v F ⟨v_33, rfl, h⟩
   refine sR (Sl.v v_33) (r_assign rfl rfl) ?_
   refine HL_nil ?_
   refine cR ?_
   refine sR (Sl.v v_33) (r_move rfl rfl) ?_
   refine sR (Sl.v v_33) (r_move rfl rfl) ?_
   refine sR (.int .i64 (v_33.len : Int)) (r_lenSl rfl rfl underlying26) ?_
   refine sR (.int .i64 (IntKind.i64.wrap ((v_33.len : Int) + (1 : Int)))) (r_add rfl rfl rfl) ?_
   refine sR (Sl.v v_33) (r_assign rfl rfl) ?_
   refine sR (.int .i64 (IntKind.i64.wrap ((v_33.len : Int) + (1 : Int)))) (r_assign rfl rfl) ?_
   refine HL_nil ?_
   exact HC_ret (show endQ prog f105 R .ret _ _ from ⟨_, res2 rfl (rv_tmp rfl) (rv_tmp rfl), h⟩)
  ·
   skip
   refine cR ?_
   refine sR (.int .i64 (0 : Int)) (r_assign rfl rfl) ?_
   refine HL_nil ?_
   refine HC_block ?_
   obtain ⟨I1, m1, hI0, hr⟩ := h
   refine HC_loop (fun m1 E F => ∃ i_6 : Int, E 0 = (Sl.v l_0) ∧ E 3 = (.pointer (some (Addr.mk b3 0 none))) ∧ E 6 = (.int .i64 i_6) ∧ I1 m1 i_6 F) m1 ⟨_, rfl, rfl, rfl, hI0⟩ ?_
   clear hI0; rintro m1 E F ⟨i_6, h0, h3, h6, hI⟩
   have h := hr m1 i_6 F hI
   clear hr hI
   unfold b105L1 at h
   refine HC_seq ?_
   refine cR ?_
   refine sR (.int .i64 i_6) (r_move rfl h6) ?_
   refine sR (Sl.v l_0) (r_move rfl h0) ?_
   refine sR (.int .i64 (l_0.len : Int)) (r_lenSl rfl rfl underlying26) ?_
   refine sR (.bool (decide (i_6 < (l_0.len : Int)))) (r_lss rfl rfl rfl) ?_
   refine HL_nil ?_
   refine HC_cond (t := (decide (i_6 < (l_0.len : Int)))) rfl (fun hc => ?_) (fun hc => ?_)
   ·
    replace h := h.1 (of_decide_eq_true hc)
    clear hc
    refine HC_skip ?_
    refine HC_seq ?_
    refine HC_block ?_
    refine HC_seq ?_
    refine HC_draw0 (by kernel_rfl) (fun hp => ?_)
    refine gU 0 (Sl.v l_0) rfl (fun _ => r_move rfl h0) hp ?_
    refine gU 1 (.int .i64 i_6) rfl (fun _ => r_move rfl h6) hp ?_
    obtain ⟨a23_, hb23, hl23, hu23, h⟩ := h
    refine gU 2 (.pointer (some (Addr.add a23_ (Int.toNat i_6 * 3)))) rfl (fun _ => w_indexAddr rfl rfl underlying26 sz72 hb23 hl23 hu23) hp ?_
    obtain ⟨v_24, hs24, hc24, h⟩ := h
    refine gR 3 (.agg v_24) rfl (w_loadN rfl underlying72 rfl sz72 hs24 hc24) hp (fun S3 q3 => ?_)
    replace hp := holdC (i := 3) (q3 _ (w_loadN rfl underlying72 rfl sz72 hs24 hc24)) hp
    obtain ⟨v_25, hs25, hc25, h⟩ := h
    refine gR 4 (.agg v_25) rfl (w_loadN h3 underlying72 rfl sz72 hs25 hc25) hp (fun S4 q4 => ?_)
    replace hp := holdC (i := 4) (q4 _ (w_loadN h3 underlying72 rfl sz72 hs25 hc25)) hp
    obtain ⟨v_26, hx26, h⟩ := h
    refine gU 5 (.bool v_26) rfl (fun _ => r_eqlAg rfl rfl rfl eg72 (hx26 _)) hp ?_
    refine RG_done (by kernel_rfl) ?_
    refine HC_cond (t := v_26) rfl (fun hc => ?_) (fun hc => ?_)
    ·
     replace h := h.1 hc
     clear hc
     refine cR ?_
     refine sR (Sl.v l_0) (r_move rfl h0) ?_
     refine sR (.int .i64 i_6) (r_move rfl h6) ?_
     refine sR (.int .i64 (IntKind.i64.wrap (i_6 + (2 : Int)))) (r_add rfl rfl rfl) ?_
     refine sR (Sl.v l_0) (r_assign rfl rfl) ?_
     refine sR (.int .i64 (IntKind.i64.wrap (i_6 + (2 : Int)))) (r_assign rfl rfl) ?_
     refine HL_nil ?_
     exact HC_ret (show endQ prog f105 R .ret _ _ from ⟨_, res2 rfl (rv_tmp rfl) (rv_tmp rfl), h⟩)
    ·
     replace h := h.2 hc
     clear hc
     refine HC_skip ?_
     refine HC_region ?_
     refine sR (.int .i64 i_6) (r_move rfl h6) ?_
     refine sR (.int .i64 (IntKind.i64.wrap (i_6 + (1 : Int)))) (r_add rfl rfl rfl) ?_
     refine sR (.int .i64 (IntKind.i64.wrap (i_6 + (1 : Int)))) (r_assign rfl rfl) ?_
     refine HL_nil ?_
     obtain ⟨m', hm, h⟩ := h
     exact ⟨m', hm, _, h0, h3, rfl, h⟩
   ·
    replace h := h.2 (of_decide_eq_false hc)
    clear hc
    refine HC_exit ?_
    show b105J1 l_0 b3 R _ _
    exact ⟨h0, h3, h⟩

/- 110 (*koine.koineref02.walk).visit -/
def b110 (w_0 : Option Addr) (n_1 : Int) (R : Value → PH → Prop) (F : PH) : Prop :=
 ((n_1 < (2 : Int) →
  R (.int .i64 n_1) F) ∧
 (¬ (n_1 < (2 : Int)) →
  ∃ w0a_ : Addr, w_0 = some w0a_ ∧ ∃ v_14 : Sl, F.cell (Addr.add w0a_ 1) = some (Sl.v v_14) ∧
  ∃ a17_ : Addr, v_14.base = some a17_ ∧ 0 ≤ (IntKind.i64.wrap (n_1 - (2 : Int))) ∧ (IntKind.i64.wrap (n_1 - (2 : Int))) < (v_14.len : Int) ∧
  ∃ v_18 : Int, F.cell (Addr.add a17_ (Int.toNat (IntKind.i64.wrap (n_1 - (2 : Int))) * 1)) = some (.int .i64 v_18) ∧
  (((0 : Int) < v_18 →
   ∃ v_23 : Sl, F.cell (Addr.add w0a_ 1) = some (Sl.v v_23) ∧
   ∃ a26_ : Addr, v_23.base = some a26_ ∧ 0 ≤ (IntKind.i64.wrap (n_1 - (2 : Int))) ∧ (IntKind.i64.wrap (n_1 - (2 : Int))) < (v_23.len : Int) ∧
   ∃ v_27 : Int, F.cell (Addr.add a26_ (Int.toNat (IntKind.i64.wrap (n_1 - (2 : Int))) * 1)) = some (.int .i64 v_27) ∧
   R (.int .i64 v_27) F) ∧
  (¬ ((0 : Int) < v_18) →
   ∃ v_31 : Sl, F.cell w0a_ = some (Sl.v v_31) ∧
   ∃ a34_ : Addr, v_31.base = some a34_ ∧ 0 ≤ (IntKind.i64.wrap (n_1 - (2 : Int))) ∧ (IntKind.i64.wrap (n_1 - (2 : Int))) < (v_31.len : Int) ∧
   ∃ v_35 : Array Value, v_35.size = 3 ∧ F.row (Addr.add a34_ (Int.toNat (IntKind.i64.wrap (n_1 - (2 : Int))) * 3)) v_35 ∧
   ∀ b5, F b5 = none → atF (F.set b5 (.cells (#[.int .i64 0, .int .i64 0, .int .i64 0]) 72)) fun F =>
   v_35.size = 3 ∧ (∀ v ∈ v_35.toList, storable v) ∧ ∃ c e, F (Addr.mk b5 0 none).block = some (.cells c e (0, 0)) ∧ (Addr.mk b5 0 none).spot = none ∧ (Addr.mk b5 0 none).off + 3 ≤ c.size ∧
   atF (F.set (Addr.mk b5 0 none).block (.cells (wr c (Addr.mk b5 0 none).off v_35.toList) e)) fun F =>
   ∃ v_38 : Int, F.cell (Addr.mk b5 1 none) = some (.int .i64 v_38) ∧
   Spec prog 110 #[(.pointer (some w0a_)), (.int .i64 v_38)] F fun v F => ∃ v_39 : Int, v = (.int .i64 v_39) ∧
   ∃ v_42 : Int, F.cell (Addr.mk b5 2 none) = some (.int .i64 v_42) ∧
   Spec prog 110 #[(.pointer (some w0a_)), (.int .i64 v_42)] F fun v F => ∃ v_43 : Int, v = (.int .i64 v_43) ∧
   ∃ v_48 : Sl, F.cell (Addr.add w0a_ 2) = some (Sl.v v_48) ∧
   ∃ v_50 : Int, F.cell (Addr.mk b5 0 none) = some (.int .i64 v_50) ∧
   (#[(.int .i64 v_50), (.int .i64 v_39), (.int .i64 v_43)] : Array Value).size = 3 ∧ ∀ b54, F b54 = none → atF (F.set b54 (.cells (#[(.int .i64 v_50), (.int .i64 v_39), (.int .i64 v_43)] : Array Value) 72)) fun F =>
   runs prog (Builtin.append_ #[26, 26] 26 #[(Sl.v v_48), (Sl.v (Sl.mk (some (Addr.mk b54 0 none)) 1 1))]) F fun v F => ∃ v_55 : Sl, v = (Sl.v v_55) ∧
   F.cell (Addr.mk b5 0 none) = some (.int .i64 v_50) ∧ ∃ c e, F (Addr.add w0a_ 2).block = some (.cells c e (0, 0)) ∧ (Addr.add w0a_ 2).spot = none ∧ (Addr.add w0a_ 2).off < c.size ∧
   atF (F.set (Addr.add w0a_ 2).block (.cells (c.setIfInBounds (Addr.add w0a_ 2).off (Sl.v v_55)) e)) fun F =>
   ∃ v_61 : Sl, F.cell (Addr.add w0a_ 1) = some (Sl.v v_61) ∧
   ∃ v_67 : Sl, F.cell (Addr.add w0a_ 2) = some (Sl.v v_67) ∧
   ∃ a70_ : Addr, v_61.base = some a70_ ∧ 0 ≤ (IntKind.i64.wrap (n_1 - (2 : Int))) ∧ (IntKind.i64.wrap (n_1 - (2 : Int))) < (v_61.len : Int) ∧
   ∃ c e, F (Addr.add a70_ (Int.toNat (IntKind.i64.wrap (n_1 - (2 : Int))) * 1)).block = some (.cells c e (0, 0)) ∧ (Addr.add a70_ (Int.toNat (IntKind.i64.wrap (n_1 - (2 : Int))) * 1)).spot = none ∧ (Addr.add a70_ (Int.toNat (IntKind.i64.wrap (n_1 - (2 : Int))) * 1)).off < c.size ∧
   atF (F.set (Addr.add a70_ (Int.toNat (IntKind.i64.wrap (n_1 - (2 : Int))) * 1)).block (.cells (c.setIfInBounds (Addr.add a70_ (Int.toNat (IntKind.i64.wrap (n_1 - (2 : Int))) * 1)).off (.int .i64 (IntKind.i64.wrap ((v_67.len : Int) + (1 : Int))))) e)) fun F =>
   ∃ v_74 : Sl, F.cell (Addr.add w0a_ 2) = some (Sl.v v_74) ∧
   R (.int .i64 (IntKind.i64.wrap ((v_74.len : Int) + (1 : Int)))) F))))
theorem c110 {w_0 : Option Addr} {n_1 : Int} {R : Value → PH → Prop} {F : PH} (h : b110 w_0 n_1 R F) : Spec prog 110 #[(.pointer w_0), (.int .i64 n_1)] F R := by
 refine spec_of (args := [(.pointer w_0), (.int .i64 n_1)]) func110 rfl ntmps110 rfl ?_
 unfold b110 at h
 refine cR ?_
 refine sR (.int .i64 (0 : Int)) (r_assign rfl rfl) ?_
 refine HL_nil ?_
 refine HC_seq ?_
 refine cR ?_
 refine sR (.int .i64 n_1) (r_move rfl rfl) ?_
 refine sR (.bool (decide (n_1 < (2 : Int)))) (r_lss rfl rfl rfl) ?_
 refine HL_nil ?_
 refine HC_cond (t := (decide (n_1 < (2 : Int)))) rfl (fun hc => ?_) (fun hc => ?_)
 ·
  replace h := h.1 (of_decide_eq_true hc)
  clear hc
  refine cR ?_
  refine sR (.int .i64 n_1) (r_move rfl rfl) ?_
  refine sR (.int .i64 n_1) (r_assign rfl rfl) ?_
  refine HL_nil ?_
  exact HC_ret (show endQ prog f110 R .ret _ _ from ⟨_, res1 rfl (rv_tmp rfl), h⟩)
 ·
  replace h := h.2 (of_decide_eq_false hc)
  clear hc
  refine HC_skip ?_
  refine HC_seq ?_
  refine cR ?_
  refine sR (.pointer w_0) (r_move rfl rfl) ?_
  obtain ⟨w0a_, rfl, h⟩ := h
  refine sR (.pointer (some w0a_)) (r_nilCheck rfl rfl) ?_
  refine sR (.pointer (some (Addr.add w0a_ 1))) (w_fieldAddr (a' := (Addr.add w0a_ 1)) rfl underlying135 rfl rfl sz68 rfl rfl) ?_
  obtain ⟨v_14, hc14, h⟩ := h
  refine sR (Sl.v v_14) (r_load1 rfl rfl underlying68 rfl hc14) ?_
  refine sR (.int .i64 n_1) (r_move rfl rfl) ?_
  refine sR (.int .i64 (IntKind.i64.wrap (n_1 - (2 : Int)))) (r_sub rfl rfl rfl) ?_
  obtain ⟨a17_, hb17, hl17, hu17, h⟩ := h
  refine sR (.pointer (some (Addr.add a17_ (Int.toNat (IntKind.i64.wrap (n_1 - (2 : Int))) * 1)))) (w_indexAddr rfl rfl underlying68 sz3 hb17 hl17 hu17) ?_
  obtain ⟨v_18, hc18, h⟩ := h
  refine sR (.int .i64 v_18) (r_load1 rfl rfl underlying3 rfl hc18) ?_
  refine sR (.bool (decide ((0 : Int) < v_18))) (r_gtr rfl rfl rfl) ?_
  refine HL_nil ?_
  refine HC_cond (t := (decide ((0 : Int) < v_18))) rfl (fun hc => ?_) (fun hc => ?_)
  ·
   replace h := h.1 (of_decide_eq_true hc)
   clear hc
   refine cR ?_
   refine sR (.pointer (some w0a_)) (r_move rfl rfl) ?_
   refine sR (.pointer (some w0a_)) (r_nilCheck rfl rfl) ?_
   refine sR (.pointer (some (Addr.add w0a_ 1))) (w_fieldAddr (a' := (Addr.add w0a_ 1)) rfl underlying135 rfl rfl sz68 rfl rfl) ?_
   obtain ⟨v_23, hc23, h⟩ := h
   refine sR (Sl.v v_23) (r_load1 rfl rfl underlying68 rfl hc23) ?_
   refine sR (.int .i64 n_1) (r_move rfl rfl) ?_
   refine sR (.int .i64 (IntKind.i64.wrap (n_1 - (2 : Int)))) (r_sub rfl rfl rfl) ?_
   obtain ⟨a26_, hb26, hl26, hu26, h⟩ := h
   refine sR (.pointer (some (Addr.add a26_ (Int.toNat (IntKind.i64.wrap (n_1 - (2 : Int))) * 1)))) (w_indexAddr rfl rfl underlying68 sz3 hb26 hl26 hu26) ?_
   obtain ⟨v_27, hc27, h⟩ := h
   refine sR (.int .i64 v_27) (r_load1 rfl rfl underlying3 rfl hc27) ?_
   refine sR (.int .i64 v_27) (r_assign rfl rfl) ?_
   refine HL_nil ?_
   exact HC_ret (show endQ prog f110 R .ret _ _ from ⟨_, res1 rfl (rv_tmp rfl), h⟩)
  ·
   replace h := h.2 (of_decide_eq_false hc)
   clear hc
   refine HC_skip ?_
   refine cR ?_
   refine sR (.pointer (some w0a_)) (r_move rfl rfl) ?_
   refine sR (.pointer (some w0a_)) (r_nilCheck rfl rfl) ?_
   refine sR (.pointer (some w0a_)) (w_fieldAddr (a' := w0a_) rfl underlying135 rfl rfl sz26 rfl rfl) ?_
   obtain ⟨v_31, hc31, h⟩ := h
   refine sR (Sl.v v_31) (r_load1 rfl rfl underlying26 rfl hc31) ?_
   refine sR (.int .i64 n_1) (r_move rfl rfl) ?_
   refine sR (.int .i64 (IntKind.i64.wrap (n_1 - (2 : Int)))) (r_sub rfl rfl rfl) ?_
   obtain ⟨a34_, hb34, hl34, hu34, h⟩ := h
   refine sR (.pointer (some (Addr.add a34_ (Int.toNat (IntKind.i64.wrap (n_1 - (2 : Int))) * 3)))) (w_indexAddr rfl rfl underlying26 sz72 hb34 hl34 hu34) ?_
   obtain ⟨v_35, hs35, hc35, h⟩ := h
   refine sR (.agg v_35) (w_loadN rfl underlying72 rfl sz72 hs35 hc35) ?_
   refine s_ef (k_alloc zr72 ?_)
   intro b5 hf_b5
   replace h := atE (h b5 hf_b5)
   refine s_ef0 (k_storeN (vs := v_35) rfl rfl sz72 (by decide) ?_)
   obtain ⟨hz1, hz2, c, e, hz3, hz4, hz5, h⟩ := h
   refine ⟨hz1, hz2, c, e, hz3, hz4, hz5, ?_⟩
   replace h := atE h
   refine HL_nil ?_
   refine cR ?_
   refine sR (.pointer (some w0a_)) (r_move rfl rfl) ?_
   refine sR (.pointer (some (Addr.mk b5 1 none))) (w_fieldAddr (a' := (Addr.mk b5 1 none)) rfl underlying72 rfl rfl sz3 rfl rfl) ?_
   obtain ⟨v_38, hc38, h⟩ := h
   refine sR (.int .i64 v_38) (r_load1 rfl rfl underlying3 rfl hc38) ?_
   refine s_ef (k_call (vs := [(.pointer (some w0a_)), (.int .i64 v_38)]) cb110 (evC rfl (evC rfl evN)) (h.mono ?_))
   clear h; rintro v F ⟨v_39, rfl, h⟩
   refine sR (.int .i64 v_39) (r_assign rfl rfl) ?_
   refine HL_nil ?_
   refine cR ?_
   refine sR (.pointer (some w0a_)) (r_move rfl rfl) ?_
   refine sR (.pointer (some (Addr.mk b5 2 none))) (w_fieldAddr (a' := (Addr.mk b5 2 none)) rfl underlying72 rfl rfl sz3 rfl rfl) ?_
   obtain ⟨v_42, hc42, h⟩ := h
   refine sR (.int .i64 v_42) (r_load1 rfl rfl underlying3 rfl hc42) ?_
   refine s_ef (k_call (vs := [(.pointer (some w0a_)), (.int .i64 v_42)]) cb110 (evC rfl (evC rfl evN)) (h.mono ?_))
   clear h; rintro v F ⟨v_43, rfl, h⟩
   refine sR (.int .i64 v_43) (r_assign rfl rfl) ?_
   refine HL_nil ?_
   refine HC_seq ?_
   refine HC_draw0 (by kernel_rfl) (fun hp => ?_)
   refine gU 0 (.pointer (some w0a_)) rfl (fun _ => r_move rfl rfl) hp ?_
   refine gU 1 (.pointer (some w0a_)) rfl (fun _ => r_move rfl rfl) hp ?_
   refine gU 2 (.pointer (some w0a_)) rfl (fun _ => r_nilCheck rfl rfl) hp ?_
   refine gU 3 (.pointer (some (Addr.add w0a_ 2))) rfl (fun _ => w_fieldAddr (a' := (Addr.add w0a_ 2)) rfl underlying135 rfl rfl sz26 rfl rfl) hp ?_
   obtain ⟨v_48, hc48, h⟩ := h
   refine gR 4 (Sl.v v_48) rfl (r_load1 rfl rfl underlying26 rfl hc48) hp (fun S4 q4 => ?_)
   replace hp := holdC (i := 4) (q4 _ (r_load1 rfl rfl underlying26 rfl hc48)) hp
   refine gU 5 (.pointer (some (Addr.mk b5 0 none))) rfl (fun _ => w_fieldAddr (a' := (Addr.mk b5 0 none)) rfl underlying72 rfl rfl sz3 rfl rfl) hp ?_
   obtain ⟨v_50, hc50, h⟩ := h
   refine gR 6 (.int .i64 v_50) rfl (r_load1 rfl rfl underlying3 rfl hc50) hp (fun S6 q6 => ?_)
   replace hp := holdC (i := 6) (q6 _ (r_load1 rfl rfl underlying3 rfl hc50)) hp
   refine gU 7 (.int .i64 v_39) rfl (fun _ => r_move rfl rfl) hp ?_
   refine gU 8 (.int .i64 v_43) rfl (fun _ => r_move rfl rfl) hp ?_
   refine gU 9 (.agg (#[(.int .i64 v_50), (.int .i64 v_39), (.int .i64 v_43)] : Array Value)) rfl (fun _ => w_buildStruct (cells := #[(.int .i64 v_50), (.int .i64 v_39), (.int .i64 v_43)]) underlying72 zr72 kf72 (evPC rfl (evPC rfl (evPC rfl evPN))) (fill1 (place_of rfl rfl sz3) rfl rfl (fill1 (place_of rfl rfl sz3) rfl rfl (fill1 (place_of rfl rfl sz3) rfl rfl (fillN rfl))))) hp ?_
   obtain ⟨hz54, h⟩ := h
   refine RG_eff1 (i := 10) (by kernel_rfl) (g_op (Sp' := [(6, S6), (4, S4)]) rfl rfl (k_buildSlice (cells := (#[(.int .i64 v_50), (.int .i64 v_39), (.int .i64 v_43)] : Array Value)) underlying26 sz72 (by decide) zr72 rfl (evPC rfl evPN) (fillWhole hz54 rfl rfl) rfl ?_))
   intro b54 hf_b54
   replace h := atE (h b54 hf_b54)
   refine holdI (holdC (i := 6) (q6 _ (r_load1 rfl rfl underlying3 rfl (cell_set_fresh hf_b54 hc50))) (holdC (i := 4) (q4 _ (r_load1 rfl rfl underlying26 rfl (cell_set_fresh hf_b54 hc48))) hold0)) (fun hp => ?_)
   refine RG_eff1 (i := 11) (by kernel_rfl) (g_op (Sp' := [(6, S6)]) rfl rfl (k_append rfl rfl (runs_mono _ _ h ?_)))
   clear h; rintro v F ⟨v_55, rfl, h⟩
   obtain ⟨hk_2, h⟩ := h
   refine holdI (holdC (i := 6) (q6 _ (r_load1 rfl rfl underlying3 rfl hk_2)) hold0) (fun hp => ?_)
   refine gU 12 (.pointer (some w0a_)) rfl (fun _ => r_nilCheck rfl rfl) hp ?_
   refine gU 13 (.pointer (some (Addr.add w0a_ 2))) rfl (fun _ => w_fieldAddr (a' := (Addr.add w0a_ 2)) rfl underlying135 rfl rfl sz26 rfl rfl) hp ?_
   refine RG_eff1 (i := 14) (by kernel_rfl) (g_op0 (Sp' := []) rfl rfl (k_store1 (v := (Sl.v v_55)) rfl rfl sz26 rfl st_sl ?_))
   obtain ⟨c, e, hz3, hz4, hz5, h⟩ := h
   refine ⟨c, e, hz3, hz4, hz5, ?_⟩
   replace h := atE h
   refine holdI hold0 (fun hp => ?_)
   refine RG_done (by kernel_rfl) ?_
   refine HC_seq ?_
   refine HC_draw0 (by kernel_rfl) (fun hp => ?_)
   refine gU 0 (.pointer (some w0a_)) rfl (fun _ => r_move rfl rfl) hp ?_
   refine gU 1 (.pointer (some w0a_)) rfl (fun _ => r_nilCheck rfl rfl) hp ?_
   refine gU 2 (.pointer (some (Addr.add w0a_ 1))) rfl (fun _ => w_fieldAddr (a' := (Addr.add w0a_ 1)) rfl underlying135 rfl rfl sz68 rfl rfl) hp ?_
   obtain ⟨v_61, hc61, h⟩ := h
   refine gR 3 (Sl.v v_61) rfl (r_load1 rfl rfl underlying68 rfl hc61) hp (fun S3 q3 => ?_)
   replace hp := holdC (i := 3) (q3 _ (r_load1 rfl rfl underlying68 rfl hc61)) hp
   refine gU 4 (.int .i64 n_1) rfl (fun _ => r_move rfl rfl) hp ?_
   refine gU 5 (.int .i64 (IntKind.i64.wrap (n_1 - (2 : Int)))) rfl (fun _ => r_sub rfl rfl rfl) hp ?_
   refine gU 6 (.pointer (some w0a_)) rfl (fun _ => r_move rfl rfl) hp ?_
   refine gU 7 (.pointer (some w0a_)) rfl (fun _ => r_nilCheck rfl rfl) hp ?_
   refine gU 8 (.pointer (some (Addr.add w0a_ 2))) rfl (fun _ => w_fieldAddr (a' := (Addr.add w0a_ 2)) rfl underlying135 rfl rfl sz26 rfl rfl) hp ?_
   obtain ⟨v_67, hc67, h⟩ := h
   refine gR 9 (Sl.v v_67) rfl (r_load1 rfl rfl underlying26 rfl hc67) hp (fun S9 q9 => ?_)
   replace hp := holdC (i := 9) (q9 _ (r_load1 rfl rfl underlying26 rfl hc67)) hp
   refine gU 10 (.int .i64 (v_67.len : Int)) rfl (fun _ => r_lenSl rfl rfl underlying26) hp ?_
   refine gU 11 (.int .i64 (IntKind.i64.wrap ((v_67.len : Int) + (1 : Int)))) rfl (fun _ => r_add rfl rfl rfl) hp ?_
   obtain ⟨a70_, hb70, hl70, hu70, h⟩ := h
   refine gU 12 (.pointer (some (Addr.add a70_ (Int.toNat (IntKind.i64.wrap (n_1 - (2 : Int))) * 1)))) rfl (fun _ => w_indexAddr rfl rfl underlying68 sz3 hb70 hl70 hu70) hp ?_
   refine RG_eff1 (i := 13) (by kernel_rfl) (g_op0 (Sp' := []) rfl rfl (k_store1 (v := (.int .i64 (IntKind.i64.wrap ((v_67.len : Int) + (1 : Int))))) rfl rfl sz3 rfl st_int ?_))
   obtain ⟨c, e, hz3, hz4, hz5, h⟩ := h
   refine ⟨c, e, hz3, hz4, hz5, ?_⟩
   replace h := atE h
   refine holdI hold0 (fun hp => ?_)
   refine RG_done (by kernel_rfl) ?_
   refine cR ?_
   refine sR (.pointer (some w0a_)) (r_move rfl rfl) ?_
   refine sR (.pointer (some w0a_)) (r_nilCheck rfl rfl) ?_
   refine sR (.pointer (some (Addr.add w0a_ 2))) (w_fieldAddr (a' := (Addr.add w0a_ 2)) rfl underlying135 rfl rfl sz26 rfl rfl) ?_
   obtain ⟨v_74, hc74, h⟩ := h
   refine sR (Sl.v v_74) (r_load1 rfl rfl underlying26 rfl hc74) ?_
   refine sR (.int .i64 (v_74.len : Int)) (r_lenSl rfl rfl underlying26) ?_
   refine sR (.int .i64 (IntKind.i64.wrap ((v_74.len : Int) + (1 : Int)))) (r_add rfl rfl rfl) ?_
   refine sR (.int .i64 (IntKind.i64.wrap ((v_74.len : Int) + (1 : Int)))) (r_assign rfl rfl) ?_
   refine HL_nil ?_
   exact HC_ret (show endQ prog f110 R .ret _ _ from ⟨_, res1 rfl (rv_tmp rfl), h⟩)

/- 102 koine.koineref02.numbered -/
def b102 (nodes_0 : Sl) (root_1 : Int) (R : Value → PH → Prop) (F : PH) : Prop :=
 ∀ b4, F b4 = none → atF (F.set b4 (.cells (#[.slice none 0 0, .int .i64 0]) 28)) fun F =>
 runs prog (Instr.makeSlice 68 (.int .i64 (nodes_0.len : Int)) (.int .i64 (nodes_0.len : Int))) F fun v F => ∃ v_10 : Sl, v = (Sl.v v_10) ∧
 ∀ b12, F b12 = none → atF (F.set b12 (.cells (#[(Sl.v nodes_0), (Sl.v v_10), .slice none 0 0] : Array Value) 135)) fun F =>
 Spec prog 110 #[(.pointer (some (Addr.mk b12 0 none))), (.int .i64 root_1)] F fun v F => ∃ v_15 : Int, v = (.int .i64 v_15) ∧
 ∃ v_19 : Sl, F.cell (Addr.mk b12 2 none) = some (Sl.v v_19) ∧
 (#[(Sl.v v_19), (.int .i64 v_15)] : Array Value).size = 2 ∧ (∀ v ∈ (#[(Sl.v v_19), (.int .i64 v_15)] : Array Value).toList, storable v) ∧ ∃ c e, F (Addr.mk b4 0 none).block = some (.cells c e (0, 0)) ∧ (Addr.mk b4 0 none).spot = none ∧ (Addr.mk b4 0 none).off + 2 ≤ c.size ∧
 atF (F.set (Addr.mk b4 0 none).block (.cells (wr c (Addr.mk b4 0 none).off (#[(Sl.v v_19), (.int .i64 v_15)] : Array Value).toList) e)) fun F =>
 ∃ vres_4 : Array Value, vres_4.size = 2 ∧ F.row (Addr.mk b4 0 none) vres_4 ∧ R (.agg vres_4) F
theorem c102 {nodes_0 : Sl} {root_1 : Int} {R : Value → PH → Prop} {F : PH} (h : b102 nodes_0 root_1 R F) : Spec prog 102 #[(Sl.v nodes_0), (.int .i64 root_1)] F R := by
 refine spec_of (args := [(Sl.v nodes_0), (.int .i64 root_1)]) func102 rfl ntmps102 rfl ?_
 unfold b102 at h
 refine cR ?_
 refine s_ef (k_alloc zr28 ?_)
 intro b4 hf_b4
 replace h := atE (h b4 hf_b4)
 refine HL_nil ?_
 refine cR ?_
 refine sR (Sl.v nodes_0) (r_move rfl rfl) ?_
 refine sR (Sl.v nodes_0) (r_move rfl rfl) ?_
 refine sR (.int .i64 (nodes_0.len : Int)) (r_lenSl rfl rfl underlying26) ?_
 refine s_ef (k_makeSlice rfl rfl (runs_mono _ _ h ?_))
 clear h; rintro v F ⟨v_10, rfl, h⟩
 refine sR (.agg (#[(Sl.v nodes_0), (Sl.v v_10), .slice none 0 0] : Array Value)) (w_buildStruct (cells := #[(Sl.v nodes_0), (Sl.v v_10), .slice none 0 0]) underlying135 zr135 kf135 (evPC rfl (evPC rfl evPN)) (fill1 (place_of rfl rfl sz26) rfl rfl (fill1 (place_of rfl rfl sz68) rfl rfl (fillN rfl)))) ?_
 refine s_ef (k_box (cs := (#[(Sl.v nodes_0), (Sl.v v_10), .slice none 0 0] : Array Value)) rfl rfl ?_)
 intro b12 hf_b12
 replace h := atE (h b12 hf_b12)
 refine sR (.pointer (some (Addr.mk b12 0 none))) (r_assign rfl rfl) ?_
 refine HL_nil ?_
 refine cR ?_
 refine sR (.pointer (some (Addr.mk b12 0 none))) (r_move rfl rfl) ?_
 refine sR (.int .i64 root_1) (r_move rfl rfl) ?_
 refine s_ef (k_call (vs := [(.pointer (some (Addr.mk b12 0 none))), (.int .i64 root_1)]) cb110 (evC rfl (evC rfl evN)) (h.mono ?_))
 clear h; rintro v F ⟨v_15, rfl, h⟩
 refine sR (.int .i64 v_15) (r_assign rfl rfl) ?_
 refine HL_nil ?_
 refine cR ?_
 refine sR (.pointer (some (Addr.mk b12 0 none))) (r_move rfl rfl) ?_
 refine sR (.pointer (some (Addr.mk b12 0 none))) (r_nilCheck rfl rfl) ?_
 refine sR (.pointer (some (Addr.mk b12 2 none))) (w_fieldAddr (a' := (Addr.mk b12 2 none)) rfl underlying135 rfl rfl sz26 rfl rfl) ?_
 obtain ⟨v_19, hc19, h⟩ := h
 refine sR (Sl.v v_19) (r_load1 rfl rfl underlying26 rfl hc19) ?_
 refine sR (.int .i64 v_15) (r_move rfl rfl) ?_
 refine sR (.agg (#[(Sl.v v_19), (.int .i64 v_15)] : Array Value)) (w_buildStruct (cells := #[(Sl.v v_19), (.int .i64 v_15)]) underlying28 zr28 kf28 (evPC rfl (evPC rfl evPN)) (fill1 (place_of rfl rfl sz26) rfl rfl (fill1 (place_of rfl rfl sz3) rfl rfl (fillN rfl)))) ?_
 refine s_ef0 (k_storeN (vs := (#[(Sl.v v_19), (.int .i64 v_15)] : Array Value)) rfl rfl sz28 (by decide) ?_)
 obtain ⟨hz1, hz2, c, e, hz3, hz4, hz5, h⟩ := h
 refine ⟨hz1, hz2, c, e, hz3, hz4, hz5, ?_⟩
 replace h := atE h
 refine HL_nil ?_
 obtain ⟨vres_4, hs4, hr4, h⟩ := h
 exact HC_ret (show endQ prog f102 R .ret _ _ from ⟨_, res1 rfl (rv_cellN rfl underlying28 rfl sz28 hs4 hr4), h⟩)

/- 122 (*koine.koineref02.apply).constant -/
def b122 (p_0 : Option Addr) (x_1 : Int) (y_2 : Int) (R : Value → PH → Prop) (F : PH) : Prop :=
 ∃ p0a_ : Addr, p_0 = some p0a_ ∧ ∃ v_10 : Int, F.cell (Addr.add p0a_ 4) = some (.int .i64 v_10) ∧
 ((v_10 = (0 : Int) →
  R (.int .i64 (IntKind.i64.wrap (x_1 * y_2))) F) ∧
 (¬ (v_10 = (0 : Int)) →
  ((v_10 = (1 : Int) →
   R (.int .i64 (max x_1 y_2)) F) ∧
  (¬ (v_10 = (1 : Int)) →
   R (.int .i64 (Int.tmod (IntKind.i64.wrap (x_1 + y_2)) (2 : Int))) F))))
theorem c122 {p_0 : Option Addr} {x_1 : Int} {y_2 : Int} {R : Value → PH → Prop} {F : PH} (h : b122 p_0 x_1 y_2 R F) : Spec prog 122 #[(.pointer p_0), (.int .i64 x_1), (.int .i64 y_2)] F R := by
 refine spec_of (args := [(.pointer p_0), (.int .i64 x_1), (.int .i64 y_2)]) func122 rfl ntmps122 rfl ?_
 unfold b122 at h
 refine cR ?_
 refine sR (.int .i64 (0 : Int)) (r_assign rfl rfl) ?_
 refine HL_nil ?_
 refine HC_seq ?_
 refine cR ?_
 refine sR (.pointer p_0) (r_move rfl rfl) ?_
 obtain ⟨p0a_, rfl, h⟩ := h
 refine sR (.pointer (some p0a_)) (r_nilCheck rfl rfl) ?_
 refine sR (.pointer (some (Addr.add p0a_ 4))) (w_fieldAddr (a' := (Addr.add p0a_ 4)) rfl underlying131 rfl rfl sz3 rfl rfl) ?_
 obtain ⟨v_10, hc10, h⟩ := h
 refine sR (.int .i64 v_10) (r_load1 rfl rfl underlying3 rfl hc10) ?_
 refine HL_nil ?_
 refine HC_block ?_
 refine cR ?_
 refine sR (.bool (decide (v_10 = (0 : Int)))) (w_eql rfl rfl) ?_
 refine sR (.bool (decide (v_10 = (0 : Int)))) (r_assign rfl rfl) ?_
 refine HL_nil ?_
 refine HC_cond (t := (decide (v_10 = (0 : Int)))) rfl (fun hc => ?_) (fun hc => ?_)
 ·
  replace h := h.1 (of_decide_eq_true hc)
  clear hc
  refine cR ?_
  refine sR (.int .i64 x_1) (r_move rfl rfl) ?_
  refine sR (.int .i64 y_2) (r_move rfl rfl) ?_
  refine sR (.int .i64 (IntKind.i64.wrap (x_1 * y_2))) (r_mul rfl rfl rfl) ?_
  refine sR (.int .i64 (IntKind.i64.wrap (x_1 * y_2))) (r_assign rfl rfl) ?_
  refine HL_nil ?_
  exact HC_ret (show endQ prog f122 R .ret _ _ from ⟨_, res1 rfl (rv_tmp rfl), h⟩)
 ·
  replace h := h.2 (of_decide_eq_false hc)
  clear hc
  refine cR ?_
  refine sR (.bool (decide (v_10 = (1 : Int)))) (w_eql rfl rfl) ?_
  refine sR (.bool (decide (v_10 = (1 : Int)))) (r_assign rfl rfl) ?_
  refine HL_nil ?_
  refine HC_cond (t := (decide (v_10 = (1 : Int)))) rfl (fun hc => ?_) (fun hc => ?_)
  ·
   replace h := h.1 (of_decide_eq_true hc)
   clear hc
   refine cR ?_
   refine sR (.int .i64 x_1) (r_move rfl rfl) ?_
   refine sR (.int .i64 y_2) (r_move rfl rfl) ?_
   refine sR (.int .i64 (max x_1 y_2)) (r_max2 rfl rfl rfl) ?_
   refine sR (.int .i64 (max x_1 y_2)) (r_assign rfl rfl) ?_
   refine HL_nil ?_
   exact HC_ret (show endQ prog f122 R .ret _ _ from ⟨_, res1 rfl (rv_tmp rfl), h⟩)
  ·
   replace h := h.2 (of_decide_eq_false hc)
   clear hc
   refine HC_skip ?_
   refine cR ?_
   refine sR (.int .i64 x_1) (r_move rfl rfl) ?_
   refine sR (.int .i64 y_2) (r_move rfl rfl) ?_
   refine sR (.int .i64 (IntKind.i64.wrap (x_1 + y_2))) (r_add rfl rfl rfl) ?_
   refine sR (.int .i64 (Int.tmod (IntKind.i64.wrap (x_1 + y_2)) (2 : Int))) (r_rem rfl rfl rfl (by decide)) ?_
   refine sR (.int .i64 (Int.tmod (IntKind.i64.wrap (x_1 + y_2)) (2 : Int))) (r_assign rfl rfl) ?_
   refine HL_nil ?_
   exact HC_ret (show endQ prog f122 R .ret _ _ from ⟨_, res1 rfl (rv_tmp rfl), h⟩)

/- 108 (*koine.koineref02.apply).at -/
def b108j2 (p_0 : Option Addr) (x_1 : Int) (y_2 : Int) (R : Value → PH → Prop) (F : PH) : Prop :=
 ∃ p0a_ : Addr, p_0 = some p0a_ ∧ ∃ v_69 : Array Value, v_69.size = 2 ∧ F.row p0a_ v_69 ∧
 ∃ v_75 : Array Value, v_75.size = 2 ∧ F.row (Addr.add p0a_ 2) v_75 ∧
 Spec prog 109 #[(.agg v_69), (.int .i64 x_1)] F fun v F => ∃ v_71 : Int, v = (.int .i64 v_71) ∧
 F.row (Addr.add p0a_ 2) v_75 ∧ Spec prog 109 #[(.agg v_75), (.int .i64 y_2)] F fun v F => ∃ v_77 : Int, v = (.int .i64 v_77) ∧
 ∃ v_83 : Array Value, v_83.size = 2 ∧ F.row p0a_ v_83 ∧
 Spec prog 123 #[(.agg v_83), (.int .i64 x_1), (.int .i64 (min v_71 v_77))] F fun v F => ∃ v_86 : Int, ∃ v_86_1 : Int, v = (.tuple #[(.int .i64 v_86), (.int .i64 v_86_1)]) ∧
 ∃ v_93 : Array Value, v_93.size = 2 ∧ F.row (Addr.add p0a_ 2) v_93 ∧
 Spec prog 123 #[(.agg v_93), (.int .i64 y_2), (.int .i64 (min v_71 v_77))] F fun v F => ∃ v_96 : Int, ∃ v_96_1 : Int, v = (.tuple #[(.int .i64 v_96), (.int .i64 v_96_1)]) ∧
 Spec prog 108 #[(.pointer (some p0a_)), (.int .i64 v_86), (.int .i64 v_96)] F fun v F => ∃ v_102 : Int, v = (.int .i64 v_102) ∧
 Spec prog 108 #[(.pointer (some p0a_)), (.int .i64 v_86_1), (.int .i64 v_96_1)] F fun v F => ∃ v_106 : Int, v = (.int .i64 v_106) ∧
 ∃ v_111 : Sl, F.cell (Addr.add p0a_ 5) = some (Sl.v v_111) ∧
 Spec prog 105 #[(Sl.v v_111), (.agg (#[(.int .i64 (min v_71 v_77)), (.int .i64 v_102), (.int .i64 v_106)] : Array Value))] F fun v F => ∃ v_116 : Sl, ∃ v_116_1 : Int, v = (.tuple #[(Sl.v v_116), (.int .i64 v_116_1)]) ∧
 ∃ c e, F (Addr.add p0a_ 5).block = some (.cells c e (0, 0)) ∧ (Addr.add p0a_ 5).spot = none ∧ (Addr.add p0a_ 5).off < c.size ∧
 atF (F.set (Addr.add p0a_ 5).block (.cells (c.setIfInBounds (Addr.add p0a_ 5).off (Sl.v v_116)) e)) fun F =>
 ∃ v_127 : Sl, F.cell (Addr.add p0a_ 6) = some (Sl.v v_127) ∧
 (#[(.int .i64 x_1), (.int .i64 y_2), (.int .i64 v_116_1)] : Array Value).size = 3 ∧ ∀ b132, F b132 = none → atF (F.set b132 (.cells (#[(.int .i64 x_1), (.int .i64 y_2), (.int .i64 v_116_1)] : Array Value) 114)) fun F =>
 runs prog (Builtin.append_ #[129, 129] 129 #[(Sl.v v_127), (Sl.v (Sl.mk (some (Addr.mk b132 0 none)) 1 1))]) F fun v F => ∃ v_133 : Sl, v = (Sl.v v_133) ∧
 ∃ c e, F (Addr.add p0a_ 6).block = some (.cells c e (0, 0)) ∧ (Addr.add p0a_ 6).spot = none ∧ (Addr.add p0a_ 6).off < c.size ∧
 atF (F.set (Addr.add p0a_ 6).block (.cells (c.setIfInBounds (Addr.add p0a_ 6).off (Sl.v v_133)) e)) fun F =>
 R (.int .i64 v_116_1) F
abbrev b108J2 (p_0 : Option Addr) (x_1 : Int) (y_2 : Int) (R : Value → PH → Prop) (E : En) (F : PH) : Prop := E 0 = (.pointer p_0) ∧ E 1 = (.int .i64 x_1) ∧ E 2 = (.int .i64 y_2) ∧ b108j2 p_0 x_1 y_2 R F
def b108j3 (N1 : Int → PH → Prop) (p0a__1 : Addr) (x_1 : Int) (y_2 : Int) (i_7 : Int) (v_57 : Bool) (R : Value → PH → Prop) (F : PH) : Prop :=
 ((v_57 = true →
  ∃ v_61 : Sl, F.cell (Addr.add p0a__1 6) = some (Sl.v v_61) ∧
  ∃ a63_ : Addr, v_61.base = some a63_ ∧ 0 ≤ i_7 ∧ i_7 < (v_61.len : Int) ∧
  0 ≤ (2 : Int) ∧ (2 : Int) < (3 : Int) ∧
  ∃ v_65 : Int, F.cell (Addr.add (Addr.add a63_ (Int.toNat i_7 * 3)) (Int.toNat (2 : Int) * 1)) = some (.int .i64 v_65) ∧
  R (.int .i64 v_65) F) ∧
 (v_57 = false →
  N1 (IntKind.i64.wrap (i_7 + (1 : Int))) F))
abbrev b108J3 (N1 : Int → PH → Prop) (p0a__1 : Addr) (x_1 : Int) (y_2 : Int) (i_7 : Int) (R : Value → PH → Prop) (E : En) (F : PH) : Prop := ∃ v_57 : Bool, E 0 = (.pointer (some p0a__1)) ∧ E 1 = (.int .i64 x_1) ∧ E 2 = (.int .i64 y_2) ∧ E 7 = (.int .i64 i_7) ∧ E 57 = (.bool v_57) ∧ b108j3 N1 p0a__1 x_1 y_2 i_7 v_57 R F
def b108L1 (N1 : Int → PH → Prop) (p_0 : Option Addr) (x_1 : Int) (y_2 : Int) (R : Value → PH → Prop) (i_7 : Int) (F : PH) : Prop :=
 ∃ p0a__1 : Addr, p_0 = some p0a__1 ∧ ∃ v_31 : Sl, F.cell (Addr.add p0a__1 6) = some (Sl.v v_31) ∧
 ((i_7 < (v_31.len : Int) →
  ∃ v_39 : Sl, F.cell (Addr.add p0a__1 6) = some (Sl.v v_39) ∧
  ∃ a41_ : Addr, v_39.base = some a41_ ∧ 0 ≤ i_7 ∧ i_7 < (v_39.len : Int) ∧
  0 ≤ (0 : Int) ∧ (0 : Int) < (3 : Int) ∧
  ∃ v_43 : Int, F.cell (Addr.add (Addr.add a41_ (Int.toNat i_7 * 3)) (Int.toNat (0 : Int) * 1)) = some (.int .i64 v_43) ∧
  ((v_43 = x_1 →
   ∃ v_50 : Sl, F.cell (Addr.add p0a__1 6) = some (Sl.v v_50) ∧
   ∃ a52_ : Addr, v_50.base = some a52_ ∧ 0 ≤ i_7 ∧ i_7 < (v_50.len : Int) ∧
   0 ≤ (1 : Int) ∧ (1 : Int) < (3 : Int) ∧
   ∃ v_54 : Int, F.cell (Addr.add (Addr.add a52_ (Int.toNat i_7 * 3)) (Int.toNat (1 : Int) * 1)) = some (.int .i64 v_54) ∧
   b108j3 N1 p0a__1 x_1 y_2 i_7 (decide (v_54 = y_2)) R F) ∧
  (¬ (v_43 = x_1) →
   b108j3 N1 p0a__1 x_1 y_2 i_7 false R F))) ∧
 (¬ (i_7 < (v_31.len : Int)) →
  b108j2 (some p0a__1) x_1 y_2 R F))
def b108j1 (p_0 : Option Addr) (x_1 : Int) (y_2 : Int) (v_22 : Bool) (R : Value → PH → Prop) (F : PH) : Prop :=
 ((v_22 = true →
  Spec prog 122 #[(.pointer p_0), (.int .i64 x_1), (.int .i64 y_2)] F fun v F => ∃ v_26 : Int, v = (.int .i64 v_26) ∧
  R (.int .i64 v_26) F) ∧
 (v_22 = false →
  (∃ (I1 : Nat → Int → PH → Prop) (m1 : Nat), I1 m1 (0 : Int) F ∧ ∀ m1 i_7 F, I1 m1 i_7 F →
   b108L1 (fun i_7 F => ∃ m', m' < m1 ∧ I1 m' i_7 F) p_0 x_1 y_2 R i_7 F)))
abbrev b108J1 (p_0 : Option Addr) (x_1 : Int) (y_2 : Int) (R : Value → PH → Prop) (E : En) (F : PH) : Prop := ∃ v_22 : Bool, E 0 = (.pointer p_0) ∧ E 1 = (.int .i64 x_1) ∧ E 2 = (.int .i64 y_2) ∧ E 22 = (.bool v_22) ∧ b108j1 p_0 x_1 y_2 v_22 R F
def b108 (p_0 : Option Addr) (x_1 : Int) (y_2 : Int) (R : Value → PH → Prop) (F : PH) : Prop :=
 ((x_1 < (2 : Int) →
  b108j1 p_0 x_1 y_2 (decide (y_2 < (2 : Int))) R F) ∧
 (¬ (x_1 < (2 : Int)) →
  b108j1 p_0 x_1 y_2 false R F))
theorem c108 {p_0 : Option Addr} {x_1 : Int} {y_2 : Int} {R : Value → PH → Prop} {F : PH} (h : b108 p_0 x_1 y_2 R F) : Spec prog 108 #[(.pointer p_0), (.int .i64 x_1), (.int .i64 y_2)] F R := by
 refine spec_of (args := [(.pointer p_0), (.int .i64 x_1), (.int .i64 y_2)]) func108 rfl ntmps108 rfl ?_
 unfold b108 at h
 refine cR ?_
 refine sR (.int .i64 (0 : Int)) (r_assign rfl rfl) ?_
 refine HL_nil ?_
 refine HC_seq ?_
 refine HC_seqJ (b108J1 p_0 x_1 y_2 R) ?_ ?_
 ·
  clear h; rintro E F ⟨v_22, h0, h1, h2, h22, h⟩
  unfold b108j1 at h
  refine HC_cond (t := v_22) h22 (fun hc => ?_) (fun hc => ?_)
  ·
   replace h := h.1 hc
   clear hc
   refine cR ?_
   refine sR (.pointer p_0) (r_move rfl h0) ?_
   refine sR (.int .i64 x_1) (r_move rfl h1) ?_
   refine sR (.int .i64 y_2) (r_move rfl h2) ?_
   refine s_ef (k_call (vs := [(.pointer p_0), (.int .i64 x_1), (.int .i64 y_2)]) cb122 (evC rfl (evC rfl (evC rfl evN))) (h.mono ?_))
   clear h; rintro v F ⟨v_26, rfl, h⟩
   refine sR (.int .i64 v_26) (r_assign rfl rfl) ?_
   refine HL_nil ?_
   exact HC_ret (show endQ prog f108 R .ret _ _ from ⟨_, res1 rfl (rv_tmp rfl), h⟩)
  ·
   replace h := h.2 hc
   clear hc
   refine HC_skip ?_
   refine HC_seqJ (b108J2 p_0 x_1 y_2 R) ?_ ?_
   ·
    clear h; rintro E F ⟨h0, h1, h2, h⟩
    unfold b108j2 at h
    refine HC_seq ?_
    refine HC_draw0 (by kernel_rfl) (fun hp => ?_)
    refine gU 0 (.pointer p_0) rfl (fun _ => r_move rfl h0) hp ?_
    obtain ⟨p0a_, rfl, h⟩ := h
    refine gU 1 (.pointer (some p0a_)) rfl (fun _ => r_nilCheck rfl rfl) hp ?_
    refine gU 2 (.pointer (some p0a_)) rfl (fun _ => w_fieldAddr (a' := p0a_) rfl underlying131 rfl rfl sz28 rfl rfl) hp ?_
    obtain ⟨v_69, hs69, hc69, h⟩ := h
    refine gR 3 (.agg v_69) rfl (w_loadN rfl underlying28 rfl sz28 hs69 hc69) hp (fun S3 q3 => ?_)
    replace hp := holdC (i := 3) (q3 _ (w_loadN rfl underlying28 rfl sz28 hs69 hc69)) hp
    refine gU 4 (.int .i64 x_1) rfl (fun _ => r_move rfl h1) hp ?_
    refine gU 6 (.pointer (some p0a_)) rfl (fun _ => r_move rfl h0) hp ?_
    refine gU 7 (.pointer (some p0a_)) rfl (fun _ => r_nilCheck rfl rfl) hp ?_
    refine gU 8 (.pointer (some (Addr.add p0a_ 2))) rfl (fun _ => w_fieldAddr (a' := (Addr.add p0a_ 2)) rfl underlying131 rfl rfl sz28 rfl rfl) hp ?_
    obtain ⟨v_75, hs75, hc75, h⟩ := h
    refine gR 9 (.agg v_75) rfl (w_loadN rfl underlying28 rfl sz28 hs75 hc75) hp (fun S9 q9 => ?_)
    replace hp := holdC (i := 9) (q9 _ (w_loadN rfl underlying28 rfl sz28 hs75 hc75)) hp
    refine gU 10 (.int .i64 y_2) rfl (fun _ => r_move rfl h2) hp ?_
    refine RG_eff1 (i := 5) (by kernel_rfl) (g_op (Sp' := [(9, S9)]) rfl rfl (k_call (vs := [(.agg v_69), (.int .i64 x_1)]) cb109 (evC rfl (evC rfl evN)) (h.mono ?_)))
    clear h; rintro v F ⟨v_71, rfl, h⟩
    obtain ⟨hk_2, h⟩ := h
    refine holdI (holdC (i := 9) (q9 _ (w_loadN rfl underlying28 rfl sz28 hs75 hk_2)) hold0) (fun hp => ?_)
    refine RG_eff1 (i := 11) (by kernel_rfl) (g_op (Sp' := []) rfl rfl (k_call (vs := [(.agg v_75), (.int .i64 y_2)]) cb109 (evC rfl (evC rfl evN)) (h.mono ?_)))
    clear h; rintro v F ⟨v_77, rfl, h⟩
    refine holdI hold0 (fun hp => ?_)
    refine gU 12 (.int .i64 (min v_71 v_77)) rfl (fun _ => r_min2 rfl rfl rfl) hp ?_
    refine gU 13 (.int .i64 (min v_71 v_77)) rfl (fun _ => r_assign rfl rfl) hp ?_
    refine RG_done (by kernel_rfl) ?_
    refine cR ?_
    refine sR (.pointer (some p0a_)) (r_move rfl h0) ?_
    refine sR (.pointer (some p0a_)) (r_nilCheck rfl rfl) ?_
    refine sR (.pointer (some p0a_)) (w_fieldAddr (a' := p0a_) rfl underlying131 rfl rfl sz28 rfl rfl) ?_
    obtain ⟨v_83, hs83, hc83, h⟩ := h
    refine sR (.agg v_83) (w_loadN rfl underlying28 rfl sz28 hs83 hc83) ?_
    refine sR (.int .i64 x_1) (r_move rfl h1) ?_
    refine sR (.int .i64 (min v_71 v_77)) (r_move rfl rfl) ?_
    refine s_ef (k_call (vs := [(.agg v_83), (.int .i64 x_1), (.int .i64 (min v_71 v_77))]) cb123 (evC rfl (evC rfl (evC rfl evN))) (h.mono ?_))
    clear h; rintro v F ⟨v_86, v_86_1, rfl, h⟩
    refine sR (.tuple #[(.int .i64 v_86), (.int .i64 v_86_1)]) (r_move rfl rfl) ?_
    refine sR (.int .i64 v_86) (r_extract rfl rfl rfl) ?_
    refine sR (.int .i64 v_86_1) (r_extract rfl rfl rfl) ?_
    refine sR (.int .i64 v_86) (r_assign rfl rfl) ?_
    refine sR (.int .i64 v_86_1) (r_assign rfl rfl) ?_
    refine HL_nil ?_
    refine cR ?_
    refine sR (.pointer (some p0a_)) (r_move rfl h0) ?_
    refine sR (.pointer (some p0a_)) (r_nilCheck rfl rfl) ?_
    refine sR (.pointer (some (Addr.add p0a_ 2))) (w_fieldAddr (a' := (Addr.add p0a_ 2)) rfl underlying131 rfl rfl sz28 rfl rfl) ?_
    obtain ⟨v_93, hs93, hc93, h⟩ := h
    refine sR (.agg v_93) (w_loadN rfl underlying28 rfl sz28 hs93 hc93) ?_
    refine sR (.int .i64 y_2) (r_move rfl h2) ?_
    refine sR (.int .i64 (min v_71 v_77)) (r_move rfl rfl) ?_
    refine s_ef (k_call (vs := [(.agg v_93), (.int .i64 y_2), (.int .i64 (min v_71 v_77))]) cb123 (evC rfl (evC rfl (evC rfl evN))) (h.mono ?_))
    clear h; rintro v F ⟨v_96, v_96_1, rfl, h⟩
    refine sR (.tuple #[(.int .i64 v_96), (.int .i64 v_96_1)]) (r_move rfl rfl) ?_
    refine sR (.int .i64 v_96) (r_extract rfl rfl rfl) ?_
    refine sR (.int .i64 v_96_1) (r_extract rfl rfl rfl) ?_
    refine sR (.int .i64 v_96) (r_assign rfl rfl) ?_
    refine sR (.int .i64 v_96_1) (r_assign rfl rfl) ?_
    refine HL_nil ?_
    refine cR ?_
    refine sR (.pointer (some p0a_)) (r_move rfl h0) ?_
    refine sR (.int .i64 v_86) (r_move rfl rfl) ?_
    refine sR (.int .i64 v_96) (r_move rfl rfl) ?_
    refine s_ef (k_call (vs := [(.pointer (some p0a_)), (.int .i64 v_86), (.int .i64 v_96)]) cb108 (evC rfl (evC rfl (evC rfl evN))) (h.mono ?_))
    clear h; rintro v F ⟨v_102, rfl, h⟩
    refine sR (.int .i64 v_102) (r_assign rfl rfl) ?_
    refine HL_nil ?_
    refine cR ?_
    refine sR (.pointer (some p0a_)) (r_move rfl h0) ?_
    refine sR (.int .i64 v_86_1) (r_move rfl rfl) ?_
    refine sR (.int .i64 v_96_1) (r_move rfl rfl) ?_
    refine s_ef (k_call (vs := [(.pointer (some p0a_)), (.int .i64 v_86_1), (.int .i64 v_96_1)]) cb108 (evC rfl (evC rfl (evC rfl evN))) (h.mono ?_))
    clear h; rintro v F ⟨v_106, rfl, h⟩
    refine sR (.int .i64 v_106) (r_assign rfl rfl) ?_
    refine HL_nil ?_
    refine cR ?_
    refine sR (.pointer (some p0a_)) (r_move rfl h0) ?_
    refine sR (.pointer (some p0a_)) (r_nilCheck rfl rfl) ?_
    refine sR (.pointer (some (Addr.add p0a_ 5))) (w_fieldAddr (a' := (Addr.add p0a_ 5)) rfl underlying131 rfl rfl sz26 rfl rfl) ?_
    obtain ⟨v_111, hc111, h⟩ := h
    refine sR (Sl.v v_111) (r_load1 rfl rfl underlying26 rfl hc111) ?_
    refine sR (.int .i64 (min v_71 v_77)) (r_move rfl rfl) ?_
    refine sR (.int .i64 v_102) (r_move rfl rfl) ?_
    refine sR (.int .i64 v_106) (r_move rfl rfl) ?_
    refine sR (.agg (#[(.int .i64 (min v_71 v_77)), (.int .i64 v_102), (.int .i64 v_106)] : Array Value)) (w_buildStruct (cells := #[(.int .i64 (min v_71 v_77)), (.int .i64 v_102), (.int .i64 v_106)]) underlying72 zr72 kf72 (evPC rfl (evPC rfl (evPC rfl evPN))) (fill1 (place_of rfl rfl sz3) rfl rfl (fill1 (place_of rfl rfl sz3) rfl rfl (fill1 (place_of rfl rfl sz3) rfl rfl (fillN rfl))))) ?_
    refine s_ef (k_call (vs := [(Sl.v v_111), (.agg (#[(.int .i64 (min v_71 v_77)), (.int .i64 v_102), (.int .i64 v_106)] : Array Value))]) cb105 (evC rfl (evC rfl evN)) (h.mono ?_))
    clear h; rintro v F ⟨v_116, v_116_1, rfl, h⟩
    refine sR (.tuple #[(Sl.v v_116), (.int .i64 v_116_1)]) (r_move rfl rfl) ?_
    refine sR (Sl.v v_116) (r_extract rfl rfl rfl) ?_
    refine sR (.int .i64 v_116_1) (r_extract rfl rfl rfl) ?_
    refine sR (Sl.v v_116) (r_assign rfl rfl) ?_
    refine sR (.int .i64 v_116_1) (r_assign rfl rfl) ?_
    refine HL_nil ?_
    refine cR ?_
    refine sR (.pointer (some p0a_)) (r_move rfl h0) ?_
    refine sR (Sl.v v_116) (r_move rfl rfl) ?_
    refine sR (.pointer (some p0a_)) (r_nilCheck rfl rfl) ?_
    refine sR (.pointer (some (Addr.add p0a_ 5))) (w_fieldAddr (a' := (Addr.add p0a_ 5)) rfl underlying131 rfl rfl sz26 rfl rfl) ?_
    refine s_ef0 (k_store1 (v := (Sl.v v_116)) rfl rfl sz26 rfl st_sl ?_)
    obtain ⟨c, e, hz3, hz4, hz5, h⟩ := h
    refine ⟨c, e, hz3, hz4, hz5, ?_⟩
    replace h := atE h
    refine HL_nil ?_
    refine cR ?_
    refine sR (.pointer (some p0a_)) (r_move rfl h0) ?_
    refine sR (.pointer (some p0a_)) (r_move rfl h0) ?_
    refine sR (.pointer (some p0a_)) (r_nilCheck rfl rfl) ?_
    refine sR (.pointer (some (Addr.add p0a_ 6))) (w_fieldAddr (a' := (Addr.add p0a_ 6)) rfl underlying131 rfl rfl sz129 rfl rfl) ?_
    obtain ⟨v_127, hc127, h⟩ := h
    refine sR (Sl.v v_127) (r_load1 rfl rfl underlying129 rfl hc127) ?_
    refine sR (.int .i64 x_1) (r_move rfl h1) ?_
    refine sR (.int .i64 y_2) (r_move rfl h2) ?_
    refine sR (.int .i64 v_116_1) (r_move rfl rfl) ?_
    refine sR (.agg (#[(.int .i64 x_1), (.int .i64 y_2), (.int .i64 v_116_1)] : Array Value)) (w_buildArray (cells := #[(.int .i64 x_1), (.int .i64 y_2), (.int .i64 v_116_1)]) underlying114 zr114 sz3 (evPC rfl (evPC rfl (evPC rfl evPN))) (fill1 rfl rfl rfl (fill1 rfl rfl rfl (fill1 rfl rfl rfl (fillN rfl))))) ?_
    obtain ⟨hz132, h⟩ := h
    refine s_ef (k_buildSlice (cells := (#[(.int .i64 x_1), (.int .i64 y_2), (.int .i64 v_116_1)] : Array Value)) underlying129 sz114 (by decide) zr114 rfl (evPC rfl evPN) (fillWhole hz132 rfl rfl) rfl ?_)
    intro b132 hf_b132
    replace h := atE (h b132 hf_b132)
    refine s_ef (k_append rfl rfl (runs_mono _ _ h ?_))
    clear h; rintro v F ⟨v_133, rfl, h⟩
    refine sR (.pointer (some p0a_)) (r_nilCheck rfl rfl) ?_
    refine sR (.pointer (some (Addr.add p0a_ 6))) (w_fieldAddr (a' := (Addr.add p0a_ 6)) rfl underlying131 rfl rfl sz129 rfl rfl) ?_
    refine s_ef0 (k_store1 (v := (Sl.v v_133)) rfl rfl sz129 rfl st_sl ?_)
    obtain ⟨c, e, hz3, hz4, hz5, h⟩ := h
    refine ⟨c, e, hz3, hz4, hz5, ?_⟩
    replace h := atE h
    refine HL_nil ?_
    refine cR ?_
    refine sR (.int .i64 v_116_1) (r_move rfl rfl) ?_
    refine sR (.int .i64 v_116_1) (r_assign rfl rfl) ?_
    refine HL_nil ?_
    exact HC_ret (show endQ prog f108 R .ret _ _ from ⟨_, res1 rfl (rv_tmp rfl), h⟩)
   ·
    skip
    refine cR ?_
    refine sR (.int .i64 (0 : Int)) (r_assign rfl rfl) ?_
    refine HL_nil ?_
    refine HC_block ?_
    obtain ⟨I1, m1, hI0, hr⟩ := h
    refine HC_loop (fun m1 E F => ∃ i_7 : Int, E 0 = (.pointer p_0) ∧ E 1 = (.int .i64 x_1) ∧ E 2 = (.int .i64 y_2) ∧ E 7 = (.int .i64 i_7) ∧ I1 m1 i_7 F) m1 ⟨_, h0, h1, h2, rfl, hI0⟩ ?_
    clear hI0; rintro m1 E F ⟨i_7, h0, h1, h2, h7, hI⟩
    have h := hr m1 i_7 F hI
    clear hr hI
    unfold b108L1 at h
    refine HC_seq ?_
    refine cR ?_
    refine sR (.int .i64 i_7) (r_move rfl h7) ?_
    refine sR (.pointer p_0) (r_move rfl h0) ?_
    obtain ⟨p0a__1, rfl, h⟩ := h
    refine sR (.pointer (some p0a__1)) (r_nilCheck rfl rfl) ?_
    refine sR (.pointer (some (Addr.add p0a__1 6))) (w_fieldAddr (a' := (Addr.add p0a__1 6)) rfl underlying131 rfl rfl sz129 rfl rfl) ?_
    obtain ⟨v_31, hc31, h⟩ := h
    refine sR (Sl.v v_31) (r_load1 rfl rfl underlying129 rfl hc31) ?_
    refine sR (.int .i64 (v_31.len : Int)) (r_lenSl rfl rfl underlying129) ?_
    refine sR (.bool (decide (i_7 < (v_31.len : Int)))) (r_lss rfl rfl rfl) ?_
    refine HL_nil ?_
    refine HC_cond (t := (decide (i_7 < (v_31.len : Int)))) rfl (fun hc => ?_) (fun hc => ?_)
    ·
     replace h := h.1 (of_decide_eq_true hc)
     clear hc
     refine HC_skip ?_
     refine HC_seq ?_
     refine HC_block ?_
     refine HC_seqJ (b108J3 (fun i_7 F => ∃ m', m' < m1 ∧ I1 m' i_7 F) p0a__1 x_1 y_2 i_7 R) ?_ ?_
     ·
      clear h; rintro E F ⟨v_57, h0, h1, h2, h7, h57, h⟩
      unfold b108j3 at h
      refine HC_cond (t := v_57) h57 (fun hc => ?_) (fun hc => ?_)
      ·
       replace h := h.1 hc
       clear hc
       refine cR ?_
       refine sR (.pointer (some p0a__1)) (r_move rfl h0) ?_
       refine sR (.pointer (some p0a__1)) (r_nilCheck rfl rfl) ?_
       refine sR (.pointer (some (Addr.add p0a__1 6))) (w_fieldAddr (a' := (Addr.add p0a__1 6)) rfl underlying131 rfl rfl sz129 rfl rfl) ?_
       obtain ⟨v_61, hc61, h⟩ := h
       refine sR (Sl.v v_61) (r_load1 rfl rfl underlying129 rfl hc61) ?_
       refine sR (.int .i64 i_7) (r_move rfl h7) ?_
       obtain ⟨a63_, hb63, hl63, hu63, h⟩ := h
       refine sR (.pointer (some (Addr.add a63_ (Int.toNat i_7 * 3)))) (w_indexAddr rfl rfl underlying129 sz114 hb63 hl63 hu63) ?_
       obtain ⟨hl64, hu64, h⟩ := h
       refine sR (.pointer (some (Addr.add (Addr.add a63_ (Int.toNat i_7 * 3)) (Int.toNat (2 : Int) * 1)))) (r_indexAddrAr rfl rfl rfl underlying114 sz3 hl64 (by exact hu64)) ?_
       obtain ⟨v_65, hc65, h⟩ := h
       refine sR (.int .i64 v_65) (r_load1 rfl rfl underlying3 rfl hc65) ?_
       refine sR (.int .i64 v_65) (r_assign rfl rfl) ?_
       refine HL_nil ?_
       exact HC_ret (show endQ prog f108 R .ret _ _ from ⟨_, res1 rfl (rv_tmp rfl), h⟩)
      ·
       replace h := h.2 hc
       clear hc
       refine HC_skip ?_
       refine HC_region ?_
       refine sR (.int .i64 i_7) (r_move rfl h7) ?_
       refine sR (.int .i64 (IntKind.i64.wrap (i_7 + (1 : Int)))) (r_add rfl rfl rfl) ?_
       refine sR (.int .i64 (IntKind.i64.wrap (i_7 + (1 : Int)))) (r_assign rfl rfl) ?_
       refine HL_nil ?_
       obtain ⟨m', hm, h⟩ := h
       exact ⟨m', hm, _, h0, h1, h2, rfl, h⟩
     ·
      skip
      refine HC_region ?_
      refine sR (.pointer (some p0a__1)) (r_move rfl h0) ?_
      refine sR (.pointer (some p0a__1)) (r_nilCheck rfl rfl) ?_
      refine sR (.pointer (some (Addr.add p0a__1 6))) (w_fieldAddr (a' := (Addr.add p0a__1 6)) rfl underlying131 rfl rfl sz129 rfl rfl) ?_
      obtain ⟨v_39, hc39, h⟩ := h
      refine sR (Sl.v v_39) (r_load1 rfl rfl underlying129 rfl hc39) ?_
      refine sR (.int .i64 i_7) (r_move rfl h7) ?_
      obtain ⟨a41_, hb41, hl41, hu41, h⟩ := h
      refine sR (.pointer (some (Addr.add a41_ (Int.toNat i_7 * 3)))) (w_indexAddr rfl rfl underlying129 sz114 hb41 hl41 hu41) ?_
      obtain ⟨hl42, hu42, h⟩ := h
      refine sR (.pointer (some (Addr.add (Addr.add a41_ (Int.toNat i_7 * 3)) (Int.toNat (0 : Int) * 1)))) (r_indexAddrAr rfl rfl rfl underlying114 sz3 hl42 (by exact hu42)) ?_
      obtain ⟨v_43, hc43, h⟩ := h
      refine sR (.int .i64 v_43) (r_load1 rfl rfl underlying3 rfl hc43) ?_
      refine sR (.int .i64 x_1) (r_move rfl h1) ?_
      refine sR (.bool (decide (v_43 = x_1))) (w_eql rfl rfl) ?_
      refine sR (.bool (decide (v_43 = x_1))) (r_move rfl rfl) ?_
      by_cases hc : v_43 = x_1
      ·
       replace h := h.1 hc
       refine kN 45 (decide_eq_true hc) ?_
       refine kN 46 (decide_eq_true hc) ?_
       refine sR (.pointer (some p0a__1)) (r_move rfl h0) ?_
       refine sR (.pointer (some p0a__1)) (r_nilCheck rfl rfl) ?_
       refine sR (.pointer (some (Addr.add p0a__1 6))) (w_fieldAddr (a' := (Addr.add p0a__1 6)) rfl underlying131 rfl rfl sz129 rfl rfl) ?_
       obtain ⟨v_50, hc50, h⟩ := h
       refine sR (Sl.v v_50) (r_load1 rfl rfl underlying129 rfl hc50) ?_
       refine sR (.int .i64 i_7) (r_move rfl h7) ?_
       obtain ⟨a52_, hb52, hl52, hu52, h⟩ := h
       refine sR (.pointer (some (Addr.add a52_ (Int.toNat i_7 * 3)))) (w_indexAddr rfl rfl underlying129 sz114 hb52 hl52 hu52) ?_
       obtain ⟨hl53, hu53, h⟩ := h
       refine sR (.pointer (some (Addr.add (Addr.add a52_ (Int.toNat i_7 * 3)) (Int.toNat (1 : Int) * 1)))) (r_indexAddrAr rfl rfl rfl underlying114 sz3 hl53 (by exact hu53)) ?_
       obtain ⟨v_54, hc54, h⟩ := h
       refine sR (.int .i64 v_54) (r_load1 rfl rfl underlying3 rfl hc54) ?_
       refine sR (.int .i64 y_2) (r_move rfl h2) ?_
       refine sR (.bool (decide (v_54 = y_2))) (w_eql rfl rfl) ?_
       refine sR (.bool (decide (v_54 = y_2))) (r_pick rfl rfl (fun _ => rfl) (fun h => by cases h)) ?_
       refine HL_nil ?_
       show b108J3 (fun i_7 F => ∃ m', m' < m1 ∧ I1 m' i_7 F) p0a__1 x_1 y_2 i_7 R _ _
       exact ⟨_, h0, h1, h2, h7, rfl, h⟩
      ·
       replace h := h.2 hc
       refine kN 45 (decide_eq_false hc) ?_
       refine kN 46 (decide_eq_false hc) ?_
       refine s_skip ?_
       refine s_skip ?_
       refine s_skip ?_
       refine s_skip ?_
       refine s_skip ?_
       refine s_skip ?_
       refine s_skip ?_
       refine s_skip ?_
       refine s_skip ?_
       refine s_skip ?_
       refine sR (.bool false) (r_pick rfl rfl (fun h => by cases h) (fun _ => rfl)) ?_
       refine HL_nil ?_
       show b108J3 (fun i_7 F => ∃ m', m' < m1 ∧ I1 m' i_7 F) p0a__1 x_1 y_2 i_7 R _ _
       exact ⟨_, h0, h1, h2, h7, rfl, h⟩
    ·
     replace h := h.2 (of_decide_eq_false hc)
     clear hc
     refine HC_exit ?_
     show b108J2 (some p0a__1) x_1 y_2 R _ _
     exact ⟨h0, h1, h2, h⟩
 ·
  skip
  refine HC_region ?_
  refine sR (.int .i64 x_1) (r_move rfl rfl) ?_
  refine sR (.bool (decide (x_1 < (2 : Int)))) (r_lss rfl rfl rfl) ?_
  refine sR (.bool (decide (x_1 < (2 : Int)))) (r_move rfl rfl) ?_
  by_cases hc : x_1 < (2 : Int)
  ·
   replace h := h.1 hc
   refine kN 18 (decide_eq_true hc) ?_
   refine kN 19 (decide_eq_true hc) ?_
   refine sR (.int .i64 y_2) (r_move rfl rfl) ?_
   refine sR (.bool (decide (y_2 < (2 : Int)))) (r_lss rfl rfl rfl) ?_
   refine sR (.bool (decide (y_2 < (2 : Int)))) (r_pick rfl rfl (fun _ => rfl) (fun h => by cases h)) ?_
   refine HL_nil ?_
   show b108J1 p_0 x_1 y_2 R _ _
   exact ⟨_, rfl, rfl, rfl, rfl, h⟩
  ·
   replace h := h.2 hc
   refine kN 18 (decide_eq_false hc) ?_
   refine kN 19 (decide_eq_false hc) ?_
   refine s_skip ?_
   refine s_skip ?_
   refine sR (.bool false) (r_pick rfl rfl (fun h => by cases h) (fun _ => rfl)) ?_
   refine HL_nil ?_
   show b108J1 p_0 x_1 y_2 R _ _
   exact ⟨_, rfl, rfl, rfl, rfl, h⟩

/- 100 koine.koineref02.combine -/
def b100 (a_0 : Array Value) (b_1 : Array Value) (op_2 : Int) (R : Value → PH → Prop) (F : PH) : Prop :=
 ∀ b3, F b3 = none → atF (F.set b3 (.cells a_0 28)) fun F =>
 ∀ b4, F b4 = none → atF (F.set b4 (.cells b_1 28)) fun F =>
 ∀ b6, F b6 = none → atF (F.set b6 (.cells (#[.slice none 0 0, .int .i64 0]) 28)) fun F =>
 ∃ v_9 : Array Value, v_9.size = 2 ∧ F.row (Addr.mk b3 0 none) v_9 ∧
 ∃ v_10 : Array Value, v_10.size = 2 ∧ F.row (Addr.mk b4 0 none) v_10 ∧
 v_9.size = 2 ∧ v_10.size = 2 ∧ ∀ b13, F b13 = none → atF (F.set b13 (.cells (Array.setIfInBounds (wr (wr (#[.slice none 0 0, .int .i64 0, .slice none 0 0, .int .i64 0, .int .i64 0, .slice none 0 0, .slice none 0 0] : Array Value) 0 v_9.toList) 2 v_10.toList) 4 (.int .i64 op_2)) 131)) fun F =>
 ∃ v_16 : Int, F.cell (Addr.mk b3 1 none) = some (.int .i64 v_16) ∧
 ∃ v_18 : Int, F.cell (Addr.mk b4 1 none) = some (.int .i64 v_18) ∧
 Spec prog 108 #[(.pointer (some (Addr.mk b13 0 none))), (.int .i64 v_16), (.int .i64 v_18)] F fun v F => ∃ v_19 : Int, v = (.int .i64 v_19) ∧
 ∃ v_23 : Sl, F.cell (Addr.mk b13 5 none) = some (Sl.v v_23) ∧
 Spec prog 102 #[(Sl.v v_23), (.int .i64 v_19)] F fun v F => ∃ v_25 : Array Value, v = (.agg v_25) ∧
 v_25.size = 2 ∧ (∀ v ∈ v_25.toList, storable v) ∧ ∃ c e, F (Addr.mk b6 0 none).block = some (.cells c e (0, 0)) ∧ (Addr.mk b6 0 none).spot = none ∧ (Addr.mk b6 0 none).off + 2 ≤ c.size ∧
 atF (F.set (Addr.mk b6 0 none).block (.cells (wr c (Addr.mk b6 0 none).off v_25.toList) e)) fun F =>
 ∃ vres_6 : Array Value, vres_6.size = 2 ∧ F.row (Addr.mk b6 0 none) vres_6 ∧ R (.agg vres_6) F
theorem c100 {a_0 : Array Value} {b_1 : Array Value} {op_2 : Int} {R : Value → PH → Prop} {F : PH} (h : b100 a_0 b_1 op_2 R F) : Spec prog 100 #[(.agg a_0), (.agg b_1), (.int .i64 op_2)] F R := by
 refine spec_of (args := [(.agg a_0), (.agg b_1), (.int .i64 op_2)]) func100 rfl ntmps100 rfl ?_
 unfold b100 at h
 refine cR ?_
 refine s_ef (k_box (cs := a_0) rfl rfl ?_)
 intro b3 hf_b3
 replace h := atE (h b3 hf_b3)
 refine s_ef (k_box (cs := b_1) rfl rfl ?_)
 intro b4 hf_b4
 replace h := atE (h b4 hf_b4)
 refine s_ef (k_alloc zr28 ?_)
 intro b6 hf_b6
 replace h := atE (h b6 hf_b6)
 refine HL_nil ?_
 refine cR ?_
 obtain ⟨v_9, hs9, hc9, h⟩ := h
 refine sR (.agg v_9) (w_loadN rfl underlying28 rfl sz28 hs9 hc9) ?_
 obtain ⟨v_10, hs10, hc10, h⟩ := h
 refine sR (.agg v_10) (w_loadN rfl underlying28 rfl sz28 hs10 hc10) ?_
 refine sR (.int .i64 op_2) (r_move rfl rfl) ?_
 obtain ⟨hz12_0, hz12_1, h⟩ := h
 refine sR (.agg (Array.setIfInBounds (wr (wr (#[.slice none 0 0, .int .i64 0, .slice none 0 0, .int .i64 0, .int .i64 0, .slice none 0 0, .slice none 0 0] : Array Value) 0 v_9.toList) 2 v_10.toList) 4 (.int .i64 op_2))) (w_buildStruct (cells := (Array.setIfInBounds (wr (wr (#[.slice none 0 0, .int .i64 0, .slice none 0 0, .int .i64 0, .int .i64 0, .slice none 0 0, .slice none 0 0] : Array Value) 0 v_9.toList) 2 v_10.toList) 4 (.int .i64 op_2))) underlying131 zr131 kf131 (evPC rfl (evPC rfl (evPC rfl evPN))) (fillA (place_of rfl rfl sz28) hz12_0 (by first | rfl | (simp only [wr_size, Array.size_setIfInBounds]; rfl)) (fillA (place_of rfl rfl sz28) hz12_1 (by first | rfl | (simp only [wr_size, Array.size_setIfInBounds]; rfl)) (fill1 (place_of rfl rfl sz3) rfl (by first | rfl | (simp only [wr_size, Array.size_setIfInBounds]; rfl)) (fillN rfl))))) ?_
 refine s_ef (k_box (cs := (Array.setIfInBounds (wr (wr (#[.slice none 0 0, .int .i64 0, .slice none 0 0, .int .i64 0, .int .i64 0, .slice none 0 0, .slice none 0 0] : Array Value) 0 v_9.toList) 2 v_10.toList) 4 (.int .i64 op_2))) rfl rfl ?_)
 intro b13 hf_b13
 replace h := atE (h b13 hf_b13)
 refine sR (.pointer (some (Addr.mk b13 0 none))) (r_assign rfl rfl) ?_
 refine HL_nil ?_
 refine cR ?_
 refine sR (.pointer (some (Addr.mk b13 0 none))) (r_move rfl rfl) ?_
 refine sR (.pointer (some (Addr.mk b3 1 none))) (w_fieldAddr (a' := (Addr.mk b3 1 none)) rfl underlying28 rfl rfl sz3 rfl rfl) ?_
 obtain ⟨v_16, hc16, h⟩ := h
 refine sR (.int .i64 v_16) (r_load1 rfl rfl underlying3 rfl hc16) ?_
 refine sR (.pointer (some (Addr.mk b4 1 none))) (w_fieldAddr (a' := (Addr.mk b4 1 none)) rfl underlying28 rfl rfl sz3 rfl rfl) ?_
 obtain ⟨v_18, hc18, h⟩ := h
 refine sR (.int .i64 v_18) (r_load1 rfl rfl underlying3 rfl hc18) ?_
 refine s_ef (k_call (vs := [(.pointer (some (Addr.mk b13 0 none))), (.int .i64 v_16), (.int .i64 v_18)]) cb108 (evC rfl (evC rfl (evC rfl evN))) (h.mono ?_))
 clear h; rintro v F ⟨v_19, rfl, h⟩
 refine sR (.int .i64 v_19) (r_assign rfl rfl) ?_
 refine HL_nil ?_
 refine cR ?_
 refine sR (.pointer (some (Addr.mk b13 0 none))) (r_move rfl rfl) ?_
 refine sR (.pointer (some (Addr.mk b13 0 none))) (r_nilCheck rfl rfl) ?_
 refine sR (.pointer (some (Addr.mk b13 5 none))) (w_fieldAddr (a' := (Addr.mk b13 5 none)) rfl underlying131 rfl rfl sz26 rfl rfl) ?_
 obtain ⟨v_23, hc23, h⟩ := h
 refine sR (Sl.v v_23) (r_load1 rfl rfl underlying26 rfl hc23) ?_
 refine sR (.int .i64 v_19) (r_move rfl rfl) ?_
 refine s_ef (k_call (vs := [(Sl.v v_23), (.int .i64 v_19)]) cb102 (evC rfl (evC rfl evN)) (h.mono ?_))
 clear h; rintro v F ⟨v_25, rfl, h⟩
 refine s_ef0 (k_storeN (vs := v_25) rfl rfl sz28 (by decide) ?_)
 obtain ⟨hz1, hz2, c, e, hz3, hz4, hz5, h⟩ := h
 refine ⟨hz1, hz2, c, e, hz3, hz4, hz5, ?_⟩
 replace h := atE h
 refine HL_nil ?_
 obtain ⟨vres_6, hs6, hr6, h⟩ := h
 exact HC_ret (show endQ prog f100 R .ret _ _ from ⟨_, res1 rfl (rv_cellN rfl underlying28 rfl sz28 hs6 hr6), h⟩)

/- 83 koine.koineref02.Intersection -/
def b83 (a_0 : Array Value) (b_1 : Array Value) (R : Value → PH → Prop) (F : PH) : Prop :=
 ∀ b2, F b2 = none → atF (F.set b2 (.cells a_0 28)) fun F =>
 ∀ b3, F b3 = none → atF (F.set b3 (.cells b_1 28)) fun F =>
 ∀ b4, F b4 = none → atF (F.set b4 (.cells (#[.slice none 0 0, .int .i64 0]) 28)) fun F =>
 ∃ v_5 : Array Value, v_5.size = 2 ∧ F.row (Addr.mk b2 0 none) v_5 ∧
 ∃ v_6 : Array Value, v_6.size = 2 ∧ F.row (Addr.mk b3 0 none) v_6 ∧
 Spec prog 100 #[(.agg v_5), (.agg v_6), (.int .i64 (0 : Int))] F fun v F => ∃ v_7 : Array Value, v = (.agg v_7) ∧
 v_7.size = 2 ∧ (∀ v ∈ v_7.toList, storable v) ∧ ∃ c e, F (Addr.mk b4 0 none).block = some (.cells c e (0, 0)) ∧ (Addr.mk b4 0 none).spot = none ∧ (Addr.mk b4 0 none).off + 2 ≤ c.size ∧
 atF (F.set (Addr.mk b4 0 none).block (.cells (wr c (Addr.mk b4 0 none).off v_7.toList) e)) fun F =>
 ∃ vres_4 : Array Value, vres_4.size = 2 ∧ F.row (Addr.mk b4 0 none) vres_4 ∧ R (.agg vres_4) F
theorem c83 {a_0 : Array Value} {b_1 : Array Value} {R : Value → PH → Prop} {F : PH} (h : b83 a_0 b_1 R F) : Spec prog 83 #[(.agg a_0), (.agg b_1)] F R := by
 refine spec_of (args := [(.agg a_0), (.agg b_1)]) func83 rfl ntmps83 rfl ?_
 unfold b83 at h
 refine cR ?_
 refine s_ef (k_box (cs := a_0) rfl rfl ?_)
 intro b2 hf_b2
 replace h := atE (h b2 hf_b2)
 refine s_ef (k_box (cs := b_1) rfl rfl ?_)
 intro b3 hf_b3
 replace h := atE (h b3 hf_b3)
 refine s_ef (k_alloc zr28 ?_)
 intro b4 hf_b4
 replace h := atE (h b4 hf_b4)
 refine HL_nil ?_
 refine cR ?_
 obtain ⟨v_5, hs5, hc5, h⟩ := h
 refine sR (.agg v_5) (w_loadN rfl underlying28 rfl sz28 hs5 hc5) ?_
 obtain ⟨v_6, hs6, hc6, h⟩ := h
 refine sR (.agg v_6) (w_loadN rfl underlying28 rfl sz28 hs6 hc6) ?_
 refine s_ef (k_call (vs := [(.agg v_5), (.agg v_6), (.int .i64 (0 : Int))]) cb100 (evC rfl (evC rfl (evC rfl evN))) (h.mono ?_))
 clear h; rintro v F ⟨v_7, rfl, h⟩
 refine s_ef0 (k_storeN (vs := v_7) rfl rfl sz28 (by decide) ?_)
 obtain ⟨hz1, hz2, c, e, hz3, hz4, hz5, h⟩ := h
 refine ⟨hz1, hz2, c, e, hz3, hz4, hz5, ?_⟩
 replace h := atE h
 refine HL_nil ?_
 obtain ⟨vres_4, hs4, hr4, h⟩ := h
 exact HC_ret (show endQ prog f83 R .ret _ _ from ⟨_, res1 rfl (rv_cellN rfl underlying28 rfl sz28 hs4 hr4), h⟩)

/- 82 koine.koineref02.Union -/
def b82 (a_0 : Array Value) (b_1 : Array Value) (R : Value → PH → Prop) (F : PH) : Prop :=
 ∀ b2, F b2 = none → atF (F.set b2 (.cells a_0 28)) fun F =>
 ∀ b3, F b3 = none → atF (F.set b3 (.cells b_1 28)) fun F =>
 ∀ b4, F b4 = none → atF (F.set b4 (.cells (#[.slice none 0 0, .int .i64 0]) 28)) fun F =>
 ∃ v_5 : Array Value, v_5.size = 2 ∧ F.row (Addr.mk b2 0 none) v_5 ∧
 ∃ v_6 : Array Value, v_6.size = 2 ∧ F.row (Addr.mk b3 0 none) v_6 ∧
 Spec prog 100 #[(.agg v_5), (.agg v_6), (.int .i64 (1 : Int))] F fun v F => ∃ v_7 : Array Value, v = (.agg v_7) ∧
 v_7.size = 2 ∧ (∀ v ∈ v_7.toList, storable v) ∧ ∃ c e, F (Addr.mk b4 0 none).block = some (.cells c e (0, 0)) ∧ (Addr.mk b4 0 none).spot = none ∧ (Addr.mk b4 0 none).off + 2 ≤ c.size ∧
 atF (F.set (Addr.mk b4 0 none).block (.cells (wr c (Addr.mk b4 0 none).off v_7.toList) e)) fun F =>
 ∃ vres_4 : Array Value, vres_4.size = 2 ∧ F.row (Addr.mk b4 0 none) vres_4 ∧ R (.agg vres_4) F
theorem c82 {a_0 : Array Value} {b_1 : Array Value} {R : Value → PH → Prop} {F : PH} (h : b82 a_0 b_1 R F) : Spec prog 82 #[(.agg a_0), (.agg b_1)] F R := by
 refine spec_of (args := [(.agg a_0), (.agg b_1)]) func82 rfl ntmps82 rfl ?_
 unfold b82 at h
 refine cR ?_
 refine s_ef (k_box (cs := a_0) rfl rfl ?_)
 intro b2 hf_b2
 replace h := atE (h b2 hf_b2)
 refine s_ef (k_box (cs := b_1) rfl rfl ?_)
 intro b3 hf_b3
 replace h := atE (h b3 hf_b3)
 refine s_ef (k_alloc zr28 ?_)
 intro b4 hf_b4
 replace h := atE (h b4 hf_b4)
 refine HL_nil ?_
 refine cR ?_
 obtain ⟨v_5, hs5, hc5, h⟩ := h
 refine sR (.agg v_5) (w_loadN rfl underlying28 rfl sz28 hs5 hc5) ?_
 obtain ⟨v_6, hs6, hc6, h⟩ := h
 refine sR (.agg v_6) (w_loadN rfl underlying28 rfl sz28 hs6 hc6) ?_
 refine s_ef (k_call (vs := [(.agg v_5), (.agg v_6), (.int .i64 (1 : Int))]) cb100 (evC rfl (evC rfl (evC rfl evN))) (h.mono ?_))
 clear h; rintro v F ⟨v_7, rfl, h⟩
 refine s_ef0 (k_storeN (vs := v_7) rfl rfl sz28 (by decide) ?_)
 obtain ⟨hz1, hz2, c, e, hz3, hz4, hz5, h⟩ := h
 refine ⟨hz1, hz2, c, e, hz3, hz4, hz5, ?_⟩
 replace h := atE h
 refine HL_nil ?_
 obtain ⟨vres_4, hs4, hr4, h⟩ := h
 exact HC_ret (show endQ prog f82 R .ret _ _ from ⟨_, res1 rfl (rv_cellN rfl underlying28 rfl sz28 hs4 hr4), h⟩)

/- 85 koine.koineref02.Complement -/
def b85 (a_0 : Array Value) (R : Value → PH → Prop) (F : PH) : Prop :=
 ∀ b1, F b1 = none → atF (F.set b1 (.cells a_0 28)) fun F =>
 ∀ b2, F b2 = none → atF (F.set b2 (.cells (#[.slice none 0 0, .int .i64 0]) 28)) fun F =>
 ∃ v_3 : Array Value, v_3.size = 2 ∧ F.row (Addr.mk b1 0 none) v_3 ∧
 Spec prog 103 #[(.bool true)] F fun v F => ∃ v_4 : Array Value, v = (.agg v_4) ∧
 F.row (Addr.mk b1 0 none) v_3 ∧ Spec prog 100 #[(.agg v_3), (.agg v_4), (.int .i64 (2 : Int))] F fun v F => ∃ v_5 : Array Value, v = (.agg v_5) ∧
 v_5.size = 2 ∧ (∀ v ∈ v_5.toList, storable v) ∧ ∃ c e, F (Addr.mk b2 0 none).block = some (.cells c e (0, 0)) ∧ (Addr.mk b2 0 none).spot = none ∧ (Addr.mk b2 0 none).off + 2 ≤ c.size ∧
 atF (F.set (Addr.mk b2 0 none).block (.cells (wr c (Addr.mk b2 0 none).off v_5.toList) e)) fun F =>
 ∃ vres_2 : Array Value, vres_2.size = 2 ∧ F.row (Addr.mk b2 0 none) vres_2 ∧ R (.agg vres_2) F
theorem c85 {a_0 : Array Value} {R : Value → PH → Prop} {F : PH} (h : b85 a_0 R F) : Spec prog 85 #[(.agg a_0)] F R := by
 refine spec_of (args := [(.agg a_0)]) func85 rfl ntmps85 rfl ?_
 unfold b85 at h
 refine cR ?_
 refine s_ef (k_box (cs := a_0) rfl rfl ?_)
 intro b1 hf_b1
 replace h := atE (h b1 hf_b1)
 refine s_ef (k_alloc zr28 ?_)
 intro b2 hf_b2
 replace h := atE (h b2 hf_b2)
 refine HL_nil ?_
 refine HC_seq ?_
 refine HC_draw0 (by kernel_rfl) (fun hp => ?_)
 obtain ⟨v_3, hs3, hc3, h⟩ := h
 refine gR 0 (.agg v_3) rfl (w_loadN rfl underlying28 rfl sz28 hs3 hc3) hp (fun S0 q0 => ?_)
 replace hp := holdC (i := 0) (q0 _ (w_loadN rfl underlying28 rfl sz28 hs3 hc3)) hp
 refine RG_eff1 (i := 1) (by kernel_rfl) (g_op (Sp' := [(0, S0)]) rfl rfl (k_call (vs := [(.bool true)]) cb103 (evC rfl evN) (h.mono ?_)))
 clear h; rintro v F ⟨v_4, rfl, h⟩
 obtain ⟨hk_2, h⟩ := h
 refine holdI (holdC (i := 0) (q0 _ (w_loadN rfl underlying28 rfl sz28 hs3 hk_2)) hold0) (fun hp => ?_)
 refine RG_eff1 (i := 2) (by kernel_rfl) (g_op (Sp' := []) rfl rfl (k_call (vs := [(.agg v_3), (.agg v_4), (.int .i64 (2 : Int))]) cb100 (evC rfl (evC rfl (evC rfl evN))) (h.mono ?_)))
 clear h; rintro v F ⟨v_5, rfl, h⟩
 refine holdI hold0 (fun hp => ?_)
 refine RG_eff1 (i := 3) (by kernel_rfl) (g_op0 (Sp' := []) rfl rfl (k_storeN (vs := v_5) rfl rfl sz28 (by decide) ?_))
 obtain ⟨hz1, hz2, c, e, hz3, hz4, hz5, h⟩ := h
 refine ⟨hz1, hz2, c, e, hz3, hz4, hz5, ?_⟩
 replace h := atE h
 refine holdI hold0 (fun hp => ?_)
 refine RG_done (by kernel_rfl) ?_
 obtain ⟨vres_2, hs2, hr2, h⟩ := h
 exact HC_ret (show endQ prog f85 R .ret _ _ from ⟨_, res1 rfl (rv_cellN rfl underlying28 rfl sz28 hs2 hr2), h⟩)

/- 84 koine.koineref02.Minus -/
def b84 (a_0 : Array Value) (b_1 : Array Value) (R : Value → PH → Prop) (F : PH) : Prop :=
 ∀ b2, F b2 = none → atF (F.set b2 (.cells a_0 28)) fun F =>
 ∀ b3, F b3 = none → atF (F.set b3 (.cells b_1 28)) fun F =>
 ∀ b4, F b4 = none → atF (F.set b4 (.cells (#[.slice none 0 0, .int .i64 0]) 28)) fun F =>
 ∃ v_5 : Array Value, v_5.size = 2 ∧ F.row (Addr.mk b2 0 none) v_5 ∧
 ∃ v_6 : Array Value, v_6.size = 2 ∧ F.row (Addr.mk b3 0 none) v_6 ∧
 Spec prog 85 #[(.agg v_6)] F fun v F => ∃ v_7 : Array Value, v = (.agg v_7) ∧
 F.row (Addr.mk b2 0 none) v_5 ∧ Spec prog 83 #[(.agg v_5), (.agg v_7)] F fun v F => ∃ v_8 : Array Value, v = (.agg v_8) ∧
 v_8.size = 2 ∧ (∀ v ∈ v_8.toList, storable v) ∧ ∃ c e, F (Addr.mk b4 0 none).block = some (.cells c e (0, 0)) ∧ (Addr.mk b4 0 none).spot = none ∧ (Addr.mk b4 0 none).off + 2 ≤ c.size ∧
 atF (F.set (Addr.mk b4 0 none).block (.cells (wr c (Addr.mk b4 0 none).off v_8.toList) e)) fun F =>
 ∃ vres_4 : Array Value, vres_4.size = 2 ∧ F.row (Addr.mk b4 0 none) vres_4 ∧ R (.agg vres_4) F
theorem c84 {a_0 : Array Value} {b_1 : Array Value} {R : Value → PH → Prop} {F : PH} (h : b84 a_0 b_1 R F) : Spec prog 84 #[(.agg a_0), (.agg b_1)] F R := by
 refine spec_of (args := [(.agg a_0), (.agg b_1)]) func84 rfl ntmps84 rfl ?_
 unfold b84 at h
 refine cR ?_
 refine s_ef (k_box (cs := a_0) rfl rfl ?_)
 intro b2 hf_b2
 replace h := atE (h b2 hf_b2)
 refine s_ef (k_box (cs := b_1) rfl rfl ?_)
 intro b3 hf_b3
 replace h := atE (h b3 hf_b3)
 refine s_ef (k_alloc zr28 ?_)
 intro b4 hf_b4
 replace h := atE (h b4 hf_b4)
 refine HL_nil ?_
 refine HC_seq ?_
 refine HC_draw0 (by kernel_rfl) (fun hp => ?_)
 obtain ⟨v_5, hs5, hc5, h⟩ := h
 refine gR 0 (.agg v_5) rfl (w_loadN rfl underlying28 rfl sz28 hs5 hc5) hp (fun S0 q0 => ?_)
 replace hp := holdC (i := 0) (q0 _ (w_loadN rfl underlying28 rfl sz28 hs5 hc5)) hp
 obtain ⟨v_6, hs6, hc6, h⟩ := h
 refine gR 1 (.agg v_6) rfl (w_loadN rfl underlying28 rfl sz28 hs6 hc6) hp (fun S1 q1 => ?_)
 replace hp := holdC (i := 1) (q1 _ (w_loadN rfl underlying28 rfl sz28 hs6 hc6)) hp
 refine RG_eff1 (i := 2) (by kernel_rfl) (g_op (Sp' := [(0, S0)]) rfl rfl (k_call (vs := [(.agg v_6)]) cb85 (evC rfl evN) (h.mono ?_)))
 clear h; rintro v F ⟨v_7, rfl, h⟩
 obtain ⟨hk_2, h⟩ := h
 refine holdI (holdC (i := 0) (q0 _ (w_loadN rfl underlying28 rfl sz28 hs5 hk_2)) hold0) (fun hp => ?_)
 refine RG_eff1 (i := 3) (by kernel_rfl) (g_op (Sp' := []) rfl rfl (k_call (vs := [(.agg v_5), (.agg v_7)]) cb83 (evC rfl (evC rfl evN)) (h.mono ?_)))
 clear h; rintro v F ⟨v_8, rfl, h⟩
 refine holdI hold0 (fun hp => ?_)
 refine RG_eff1 (i := 4) (by kernel_rfl) (g_op0 (Sp' := []) rfl rfl (k_storeN (vs := v_8) rfl rfl sz28 (by decide) ?_))
 obtain ⟨hz1, hz2, c, e, hz3, hz4, hz5, h⟩ := h
 refine ⟨hz1, hz2, c, e, hz3, hz4, hz5, ?_⟩
 replace h := atE h
 refine holdI hold0 (fun hp => ?_)
 refine RG_done (by kernel_rfl) ?_
 obtain ⟨vres_4, hs4, hr4, h⟩ := h
 exact HC_ret (show endQ prog f84 R .ret _ _ from ⟨_, res1 rfl (rv_cellN rfl underlying28 rfl sz28 hs4 hr4), h⟩)

/- 103 koine.koineref02.Constant -/
def b103 (value_0 : Bool) (R : Value → PH → Prop) (F : PH) : Prop :=
 ∀ b2, F b2 = none → atF (F.set b2 (.cells (#[.slice none 0 0, .int .i64 0]) 28)) fun F =>
 ((value_0 = true →
  (#[.slice none 0 0, (.int .i64 (1 : Int))] : Array Value).size = 2 ∧ (∀ v ∈ (#[.slice none 0 0, (.int .i64 (1 : Int))] : Array Value).toList, storable v) ∧ ∃ c e, F (Addr.mk b2 0 none).block = some (.cells c e (0, 0)) ∧ (Addr.mk b2 0 none).spot = none ∧ (Addr.mk b2 0 none).off + 2 ≤ c.size ∧
  atF (F.set (Addr.mk b2 0 none).block (.cells (wr c (Addr.mk b2 0 none).off (#[.slice none 0 0, (.int .i64 (1 : Int))] : Array Value).toList) e)) fun F =>
  ∃ vres_2 : Array Value, vres_2.size = 2 ∧ F.row (Addr.mk b2 0 none) vres_2 ∧ R (.agg vres_2) F) ∧
 (value_0 = false →
  (#[.slice none 0 0, .int .i64 0] : Array Value).size = 2 ∧ (∀ v ∈ (#[.slice none 0 0, .int .i64 0] : Array Value).toList, storable v) ∧ ∃ c e, F (Addr.mk b2 0 none).block = some (.cells c e (0, 0)) ∧ (Addr.mk b2 0 none).spot = none ∧ (Addr.mk b2 0 none).off + 2 ≤ c.size ∧
  atF (F.set (Addr.mk b2 0 none).block (.cells (wr c (Addr.mk b2 0 none).off (#[.slice none 0 0, .int .i64 0] : Array Value).toList) e)) fun F =>
  ∃ vres_2_1 : Array Value, vres_2_1.size = 2 ∧ F.row (Addr.mk b2 0 none) vres_2_1 ∧ R (.agg vres_2_1) F))
theorem c103 {value_0 : Bool} {R : Value → PH → Prop} {F : PH} (h : b103 value_0 R F) : Spec prog 103 #[(.bool value_0)] F R := by
 refine spec_of (args := [(.bool value_0)]) func103 rfl ntmps103 rfl ?_
 unfold b103 at h
 refine cR ?_
 refine s_ef (k_alloc zr28 ?_)
 intro b2 hf_b2
 replace h := atE (h b2 hf_b2)
 refine HL_nil ?_
 refine HC_seq ?_
 refine cR ?_
 refine sR (.bool value_0) (r_move rfl rfl) ?_
 refine HL_nil ?_
 refine HC_cond (t := value_0) rfl (fun hc => ?_) (fun hc => ?_)
 ·
  replace h := h.1 hc
  clear hc
  refine cR ?_
  refine sR (.agg (#[.slice none 0 0, (.int .i64 (1 : Int))] : Array Value)) (w_buildStruct (cells := #[.slice none 0 0, (.int .i64 (1 : Int))]) underlying28 zr28 kf28 (evPC rfl evPN) (fill1 (place_of rfl rfl sz3) rfl rfl (fillN rfl))) ?_
  refine s_ef0 (k_storeN (vs := (#[.slice none 0 0, (.int .i64 (1 : Int))] : Array Value)) rfl rfl sz28 (by decide) ?_)
  obtain ⟨hz1, hz2, c, e, hz3, hz4, hz5, h⟩ := h
  refine ⟨hz1, hz2, c, e, hz3, hz4, hz5, ?_⟩
  replace h := atE h
  refine HL_nil ?_
  obtain ⟨vres_2, hs2, hr2, h⟩ := h
  exact HC_ret (show endQ prog f103 R .ret _ _ from ⟨_, res1 rfl (rv_cellN rfl underlying28 rfl sz28 hs2 hr2), h⟩)
 ·
  replace h := h.2 hc
  clear hc
  refine HC_skip ?_
  refine cR ?_
  refine sR (.agg (#[.slice none 0 0, .int .i64 0] : Array Value)) (w_buildStruct (cells := #[.slice none 0 0, .int .i64 0]) underlying28 zr28 kf28 (evPN) (fillN rfl)) ?_
  refine s_ef0 (k_storeN (vs := (#[.slice none 0 0, .int .i64 0] : Array Value)) rfl rfl sz28 (by decide) ?_)
  obtain ⟨hz1, hz2, c, e, hz3, hz4, hz5, h⟩ := h
  refine ⟨hz1, hz2, c, e, hz3, hz4, hz5, ?_⟩
  replace h := atE h
  refine HL_nil ?_
  obtain ⟨vres_2_1, hs2, hr2, h⟩ := h
  exact HC_ret (show endQ prog f103 R .ret _ _ from ⟨_, res1 rfl (rv_cellN rfl underlying28 rfl sz28 hs2 hr2), h⟩)

/- 52 koine.koineref02.Var -/
def b52j1 (v_0 : Int) (b2 : Nat) (v_9 : Bool) (R : Value → PH → Prop) (F : PH) : Prop :=
 ((v_9 = true →
  (#[.slice none 0 0, .int .i64 0] : Array Value).size = 2 ∧ (∀ v ∈ (#[.slice none 0 0, .int .i64 0] : Array Value).toList, storable v) ∧ ∃ c e, F (Addr.mk b2 0 none).block = some (.cells c e (0, 0)) ∧ (Addr.mk b2 0 none).spot = none ∧ (Addr.mk b2 0 none).off + 2 ≤ c.size ∧
  atF (F.set (Addr.mk b2 0 none).block (.cells (wr c (Addr.mk b2 0 none).off (#[.slice none 0 0, .int .i64 0] : Array Value).toList) e)) fun F =>
  ∃ vres_2 : Array Value, vres_2.size = 2 ∧ F.row (Addr.mk b2 0 none) vres_2 ∧ R (.tuple #[(.agg vres_2), (.int .i64 (1 : Int))]) F) ∧
 (v_9 = false →
  (#[(.int .i64 v_0), (.int .i64 (0 : Int)), (.int .i64 (1 : Int))] : Array Value).size = 3 ∧ ∀ b13, F b13 = none → atF (F.set b13 (.cells (#[(.int .i64 v_0), (.int .i64 (0 : Int)), (.int .i64 (1 : Int))] : Array Value) 72)) fun F =>
  (#[(Sl.v (Sl.mk (some (Addr.mk b13 0 none)) 1 1)), (.int .i64 (2 : Int))] : Array Value).size = 2 ∧ (∀ v ∈ (#[(Sl.v (Sl.mk (some (Addr.mk b13 0 none)) 1 1)), (.int .i64 (2 : Int))] : Array Value).toList, storable v) ∧ ∃ c e, F (Addr.mk b2 0 none).block = some (.cells c e (0, 0)) ∧ (Addr.mk b2 0 none).spot = none ∧ (Addr.mk b2 0 none).off + 2 ≤ c.size ∧
  atF (F.set (Addr.mk b2 0 none).block (.cells (wr c (Addr.mk b2 0 none).off (#[(Sl.v (Sl.mk (some (Addr.mk b13 0 none)) 1 1)), (.int .i64 (2 : Int))] : Array Value).toList) e)) fun F =>
  ∃ vres_2_1 : Array Value, vres_2_1.size = 2 ∧ F.row (Addr.mk b2 0 none) vres_2_1 ∧ R (.tuple #[(.agg vres_2_1), (.int .i64 (0 : Int))]) F))
abbrev b52J1 (v_0 : Int) (b2 : Nat) (R : Value → PH → Prop) (E : En) (F : PH) : Prop := ∃ v_9 : Bool, E 0 = (.int .i64 v_0) ∧ E 2 = (.pointer (some (Addr.mk b2 0 none))) ∧ E 9 = (.bool v_9) ∧ b52j1 v_0 b2 v_9 R F
def b52 (v_0 : Int) (R : Value → PH → Prop) (F : PH) : Prop :=
 ∀ b2, F b2 = none → atF (F.set b2 (.cells (#[.slice none 0 0, .int .i64 0]) 28)) fun F =>
 ((v_0 < (0 : Int) →
  b52j1 v_0 b2 true R F) ∧
 (¬ (v_0 < (0 : Int)) →
  b52j1 v_0 b2 (decide ((63 : Int) < v_0)) R F))
theorem c52 {v_0 : Int} {R : Value → PH → Prop} {F : PH} (h : b52 v_0 R F) : Spec prog 52 #[(.int .i64 v_0)] F R := by
 refine spec_of (args := [(.int .i64 v_0)]) func52 rfl ntmps52 rfl ?_
 unfold b52 at h
 refine cR ?_
 refine s_ef (k_alloc zr28 ?_)
 intro b2 hf_b2
 replace h := atE (h b2 hf_b2)
 refine sR (.int .i64 (0 : Int)) (r_assign rfl rfl) ?_
 refine HL_nil ?_
 refine HC_seq ?_
 refine HC_seqJ (b52J1 v_0 b2 R) ?_ ?_
 ·
  clear h; rintro E F ⟨v_9, h0, h2, h9, h⟩
  unfold b52j1 at h
  refine HC_cond (t := v_9) h9 (fun hc => ?_) (fun hc => ?_)
  ·
   replace h := h.1 hc
   clear hc
   refine cR ?_
   refine sR (.agg (#[.slice none 0 0, .int .i64 0] : Array Value)) (w_buildStruct (cells := #[.slice none 0 0, .int .i64 0]) underlying28 zr28 kf28 (evPN) (fillN rfl)) ?_
   refine s_ef0 (k_storeN (vs := (#[.slice none 0 0, .int .i64 0] : Array Value)) h2 rfl sz28 (by decide) ?_)
   obtain ⟨hz1, hz2, c, e, hz3, hz4, hz5, h⟩ := h
   refine ⟨hz1, hz2, c, e, hz3, hz4, hz5, ?_⟩
   replace h := atE h
   refine sR (.int .i64 (1 : Int)) (r_assign rfl rfl) ?_
   refine HL_nil ?_
   obtain ⟨vres_2, hs2, hr2, h⟩ := h
   exact HC_ret (show endQ prog f52 R .ret _ _ from ⟨_, res2 rfl (rv_cellN h2 underlying28 rfl sz28 hs2 hr2) (rv_tmp rfl), h⟩)
  ·
   replace h := h.2 hc
   clear hc
   refine HC_skip ?_
   refine cR ?_
   refine sR (.int .i64 v_0) (r_move rfl h0) ?_
   refine sR (.agg (#[(.int .i64 v_0), (.int .i64 (0 : Int)), (.int .i64 (1 : Int))] : Array Value)) (w_buildStruct (cells := #[(.int .i64 v_0), (.int .i64 (0 : Int)), (.int .i64 (1 : Int))]) underlying72 zr72 kf72 (evPC rfl (evPC rfl (evPC rfl evPN))) (fill1 (place_of rfl rfl sz3) rfl rfl (fill1 (place_of rfl rfl sz3) rfl rfl (fill1 (place_of rfl rfl sz3) rfl rfl (fillN rfl))))) ?_
   obtain ⟨hz13, h⟩ := h
   refine s_ef (k_buildSlice (cells := (#[(.int .i64 v_0), (.int .i64 (0 : Int)), (.int .i64 (1 : Int))] : Array Value)) underlying26 sz72 (by decide) zr72 rfl (evPC rfl evPN) (fillWhole hz13 rfl rfl) rfl ?_)
   intro b13 hf_b13
   replace h := atE (h b13 hf_b13)
   refine sR (.agg (#[(Sl.v (Sl.mk (some (Addr.mk b13 0 none)) 1 1)), (.int .i64 (2 : Int))] : Array Value)) (w_buildStruct (cells := #[(Sl.v (Sl.mk (some (Addr.mk b13 0 none)) 1 1)), (.int .i64 (2 : Int))]) underlying28 zr28 kf28 (evPC rfl (evPC rfl evPN)) (fill1 (place_of rfl rfl sz26) rfl rfl (fill1 (place_of rfl rfl sz3) rfl rfl (fillN rfl)))) ?_
   refine s_ef0 (k_storeN (vs := (#[(Sl.v (Sl.mk (some (Addr.mk b13 0 none)) 1 1)), (.int .i64 (2 : Int))] : Array Value)) h2 rfl sz28 (by decide) ?_)
   obtain ⟨hz1, hz2, c, e, hz3, hz4, hz5, h⟩ := h
   refine ⟨hz1, hz2, c, e, hz3, hz4, hz5, ?_⟩
   replace h := atE h
   refine sR (.int .i64 (0 : Int)) (r_assign rfl rfl) ?_
   refine HL_nil ?_
   obtain ⟨vres_2_1, hs2, hr2, h⟩ := h
   exact HC_ret (show endQ prog f52 R .ret _ _ from ⟨_, res2 rfl (rv_cellN h2 underlying28 rfl sz28 hs2 hr2) (rv_tmp rfl), h⟩)
 ·
  skip
  refine HC_region ?_
  refine sR (.int .i64 v_0) (r_move rfl rfl) ?_
  refine sR (.bool (decide (v_0 < (0 : Int)))) (r_lss rfl rfl rfl) ?_
  refine sR (.bool (decide (v_0 < (0 : Int)))) (r_move rfl rfl) ?_
  by_cases hc : v_0 < (0 : Int)
  ·
   replace h := h.1 hc
   refine kN 5 (decide_eq_true hc) ?_
   refine kN 6 (decide_eq_true hc) ?_
   refine s_skip ?_
   refine s_skip ?_
   refine sR (.bool true) (r_pick rfl rfl (fun _ => rfl) (fun h => by cases h)) ?_
   refine HL_nil ?_
   show b52J1 v_0 b2 R _ _
   exact ⟨_, rfl, rfl, rfl, h⟩
  ·
   replace h := h.2 hc
   refine kN 5 (decide_eq_false hc) ?_
   refine kN 6 (decide_eq_false hc) ?_
   refine sR (.int .i64 v_0) (r_move rfl rfl) ?_
   refine sR (.bool (decide ((63 : Int) < v_0))) (r_gtr rfl rfl rfl) ?_
   refine sR (.bool (decide ((63 : Int) < v_0))) (r_pick rfl rfl (fun h => by cases h) (fun _ => rfl)) ?_
   refine HL_nil ?_
   show b52J1 v_0 b2 R _ _
   exact ⟨_, rfl, rfl, rfl, h⟩

/- 93 koine.koineref02.table -/
def b93 (l_0 : Sl) (n_1 : Int) (v_2 : Int) (k_3 : Int) (R : Value → PH → Prop) (F : PH) : Prop :=
 ∀ b8, F b8 = none → atF (F.set b8 (.cells (#[.slice none 0 0, .int .i64 0]) 28)) fun F =>
 ((v_2 = n_1 →
  (((IntKind.i64.wrap (Int.tdiv k_3 (8 : Int))) < (l_0.len : Int) →
   ∃ a23_ : Addr, l_0.base = some a23_ ∧ 0 ≤ (IntKind.i64.wrap (Int.tdiv k_3 (8 : Int))) ∧ (IntKind.i64.wrap (Int.tdiv k_3 (8 : Int))) < (l_0.len : Int) ∧
   ∃ v_24 : Int, F.cell (Addr.add a23_ (Int.toNat (IntKind.i64.wrap (Int.tdiv k_3 (8 : Int))) * 1)) = some (.int .u8 v_24) ∧
   0 ≤ (IntKind.u64.wrap (Int.tmod k_3 (8 : Int))) ∧ Spec prog 103 #[(.bool (decide ((IntKind.u8.wrap ((BitVec.ofInt (IntKind.u8).bits (Int.fdiv v_24 (2 ^ (min (Int.toNat (IntKind.u64.wrap (Int.tmod k_3 (8 : Int)))) (IntKind.u8).bits))) &&& BitVec.ofInt (IntKind.u8).bits (1 : Int)).toNat)) = (1 : Int))))] F fun v F => ∃ v_32 : Array Value, v = (.agg v_32) ∧
   v_32.size = 2 ∧ (∀ v ∈ v_32.toList, storable v) ∧ ∃ c e, F (Addr.mk b8 0 none).block = some (.cells c e (0, 0)) ∧ (Addr.mk b8 0 none).spot = none ∧ (Addr.mk b8 0 none).off + 2 ≤ c.size ∧
   atF (F.set (Addr.mk b8 0 none).block (.cells (wr c (Addr.mk b8 0 none).off v_32.toList) e)) fun F =>
   ∃ vres_8 : Array Value, vres_8.size = 2 ∧ F.row (Addr.mk b8 0 none) vres_8 ∧ R (.agg vres_8) F) ∧
  (¬ ((IntKind.i64.wrap (Int.tdiv k_3 (8 : Int))) < (l_0.len : Int)) →
   Spec prog 103 #[(.bool false)] F fun v F => ∃ v_32_1 : Array Value, v = (.agg v_32_1) ∧
   v_32_1.size = 2 ∧ (∀ v ∈ v_32_1.toList, storable v) ∧ ∃ c e, F (Addr.mk b8 0 none).block = some (.cells c e (0, 0)) ∧ (Addr.mk b8 0 none).spot = none ∧ (Addr.mk b8 0 none).off + 2 ≤ c.size ∧
   atF (F.set (Addr.mk b8 0 none).block (.cells (wr c (Addr.mk b8 0 none).off v_32_1.toList) e)) fun F =>
   ∃ vres_8_1 : Array Value, vres_8_1.size = 2 ∧ F.row (Addr.mk b8 0 none) vres_8_1 ∧ R (.agg vres_8_1) F))) ∧
 (¬ (v_2 = n_1) →
  Spec prog 52 #[(.int .i64 v_2)] F fun v F => ∃ v_35 : Array Value, ∃ v_35_1 : Int, v = (.tuple #[(.agg v_35), (.int .i64 v_35_1)]) ∧
  ∀ b9, F b9 = none → atF (F.set b9 (.cells (#[.slice none 0 0, .int .i64 0]) 28)) fun F =>
  v_35.size = 2 ∧ (∀ v ∈ v_35.toList, storable v) ∧ ∃ c e, F (Addr.mk b9 0 none).block = some (.cells c e (0, 0)) ∧ (Addr.mk b9 0 none).spot = none ∧ (Addr.mk b9 0 none).off + 2 ≤ c.size ∧
  atF (F.set (Addr.mk b9 0 none).block (.cells (wr c (Addr.mk b9 0 none).off v_35.toList) e)) fun F =>
  ∃ v_38 : Array Value, v_38.size = 2 ∧ F.row (Addr.mk b9 0 none) v_38 ∧
  0 ≤ (IntKind.u64.wrap v_2) ∧ ∃ v_56 : Array Value, v_56.size = 2 ∧ F.row (Addr.mk b9 0 none) v_56 ∧
  Spec prog 93 #[(Sl.v l_0), (.int .i64 n_1), (.int .i64 (IntKind.i64.wrap (v_2 + (1 : Int)))), (.int .i64 (IntKind.i64.wrap (k_3 + (IntKind.i64.wrap ((1 : Int) * 2 ^ (min (Int.toNat (IntKind.u64.wrap v_2)) (IntKind.i64).bits))))))] F fun v F => ∃ v_48 : Array Value, v = (.agg v_48) ∧
  F.row (Addr.mk b9 0 none) v_56 ∧ F.row (Addr.mk b9 0 none) v_38 ∧ Spec prog 83 #[(.agg v_38), (.agg v_48)] F fun v F => ∃ v_49 : Array Value, v = (.agg v_49) ∧
  F.row (Addr.mk b9 0 none) v_56 ∧ Spec prog 93 #[(Sl.v l_0), (.int .i64 n_1), (.int .i64 (IntKind.i64.wrap (v_2 + (1 : Int)))), (.int .i64 k_3)] F fun v F => ∃ v_55 : Array Value, v = (.agg v_55) ∧
  F.row (Addr.mk b9 0 none) v_56 ∧ Spec prog 84 #[(.agg v_55), (.agg v_56)] F fun v F => ∃ v_57 : Array Value, v = (.agg v_57) ∧
  Spec prog 82 #[(.agg v_49), (.agg v_57)] F fun v F => ∃ v_58 : Array Value, v = (.agg v_58) ∧
  v_58.size = 2 ∧ (∀ v ∈ v_58.toList, storable v) ∧ ∃ c e, F (Addr.mk b8 0 none).block = some (.cells c e (0, 0)) ∧ (Addr.mk b8 0 none).spot = none ∧ (Addr.mk b8 0 none).off + 2 ≤ c.size ∧
  atF (F.set (Addr.mk b8 0 none).block (.cells (wr c (Addr.mk b8 0 none).off v_58.toList) e)) fun F =>
  ∃ vres_8_2 : Array Value, vres_8_2.size = 2 ∧ F.row (Addr.mk b8 0 none) vres_8_2 ∧ R (.agg vres_8_2) F))
theorem c93 {l_0 : Sl} {n_1 : Int} {v_2 : Int} {k_3 : Int} {R : Value → PH → Prop} {F : PH} (h : b93 l_0 n_1 v_2 k_3 R F) : Spec prog 93 #[(Sl.v l_0), (.int .i64 n_1), (.int .i64 v_2), (.int .i64 k_3)] F R := by
 refine spec_of (args := [(Sl.v l_0), (.int .i64 n_1), (.int .i64 v_2), (.int .i64 k_3)]) func93 rfl ntmps93 rfl ?_
 unfold b93 at h
 refine cR ?_
 refine s_ef (k_alloc zr28 ?_)
 intro b8 hf_b8
 replace h := atE (h b8 hf_b8)
 refine HL_nil ?_
 refine HC_seq ?_
 refine cR ?_
 refine sR (.int .i64 v_2) (r_move rfl rfl) ?_
 refine sR (.int .i64 n_1) (r_move rfl rfl) ?_
 refine sR (.bool (decide (v_2 = n_1))) (w_eql rfl rfl) ?_
 refine HL_nil ?_
 refine HC_cond (t := (decide (v_2 = n_1))) rfl (fun hc => ?_) (fun hc => ?_)
 ·
  replace h := h.1 (of_decide_eq_true hc)
  clear hc
  refine cR ?_
  refine sR (.int .i64 k_3) (r_move rfl rfl) ?_
  refine sR (.int .i64 (IntKind.i64.wrap (Int.tdiv k_3 (8 : Int)))) (r_quo rfl rfl rfl (by decide)) ?_
  refine sR (Sl.v l_0) (r_move rfl rfl) ?_
  refine sR (.int .i64 (l_0.len : Int)) (r_lenSl rfl rfl underlying22) ?_
  refine sR (.bool (decide ((IntKind.i64.wrap (Int.tdiv k_3 (8 : Int))) < (l_0.len : Int)))) (r_lss rfl rfl rfl) ?_
  refine sR (.bool (decide ((IntKind.i64.wrap (Int.tdiv k_3 (8 : Int))) < (l_0.len : Int)))) (r_move rfl rfl) ?_
  by_cases hc : (IntKind.i64.wrap (Int.tdiv k_3 (8 : Int))) < (l_0.len : Int)
  ·
   replace h := h.1 hc
   refine kN 18 (decide_eq_true hc) ?_
   refine kN 19 (decide_eq_true hc) ?_
   refine sR (Sl.v l_0) (r_move rfl rfl) ?_
   refine sR (.int .i64 k_3) (r_move rfl rfl) ?_
   refine sR (.int .i64 (IntKind.i64.wrap (Int.tdiv k_3 (8 : Int)))) (r_quo rfl rfl rfl (by decide)) ?_
   obtain ⟨a23_, hb23, hl23, hu23, h⟩ := h
   refine sR (.pointer (some (Addr.add a23_ (Int.toNat (IntKind.i64.wrap (Int.tdiv k_3 (8 : Int))) * 1)))) (w_indexAddr rfl rfl underlying22 sz5 hb23 hl23 hu23) ?_
   obtain ⟨v_24, hc24, h⟩ := h
   refine sR (.int .u8 v_24) (r_load1 rfl rfl underlying5 rfl hc24) ?_
   refine sR (.int .i64 k_3) (r_move rfl rfl) ?_
   refine sR (.int .i64 (Int.tmod k_3 (8 : Int))) (r_rem rfl rfl rfl (by decide)) ?_
   refine sR (.int .u64 (IntKind.u64.wrap (Int.tmod k_3 (8 : Int)))) (r_convInt rfl rfl underlying3 underlying31) ?_
   obtain ⟨hd28, h⟩ := h
   refine sR (.int .u8 (Int.fdiv v_24 (2 ^ (min (Int.toNat (IntKind.u64.wrap (Int.tmod k_3 (8 : Int)))) (IntKind.u8).bits)))) (r_shr rfl rfl rfl hd28) ?_
   refine sR (.int .u8 (IntKind.u8.wrap ((BitVec.ofInt (IntKind.u8).bits (Int.fdiv v_24 (2 ^ (min (Int.toNat (IntKind.u64.wrap (Int.tmod k_3 (8 : Int)))) (IntKind.u8).bits))) &&& BitVec.ofInt (IntKind.u8).bits (1 : Int)).toNat))) (r_and rfl rfl rfl) ?_
   refine sR (.bool (decide ((IntKind.u8.wrap ((BitVec.ofInt (IntKind.u8).bits (Int.fdiv v_24 (2 ^ (min (Int.toNat (IntKind.u64.wrap (Int.tmod k_3 (8 : Int)))) (IntKind.u8).bits))) &&& BitVec.ofInt (IntKind.u8).bits (1 : Int)).toNat)) = (1 : Int)))) (w_eql rfl rfl) ?_
   refine sR (.bool (decide ((IntKind.u8.wrap ((BitVec.ofInt (IntKind.u8).bits (Int.fdiv v_24 (2 ^ (min (Int.toNat (IntKind.u64.wrap (Int.tmod k_3 (8 : Int)))) (IntKind.u8).bits))) &&& BitVec.ofInt (IntKind.u8).bits (1 : Int)).toNat)) = (1 : Int)))) (r_pick rfl rfl (fun _ => rfl) (fun h => by cases h)) ?_
   refine s_ef (k_call (vs := [(.bool (decide ((IntKind.u8.wrap ((BitVec.ofInt (IntKind.u8).bits (Int.fdiv v_24 (2 ^ (min (Int.toNat (IntKind.u64.wrap (Int.tmod k_3 (8 : Int)))) (IntKind.u8).bits))) &&& BitVec.ofInt (IntKind.u8).bits (1 : Int)).toNat)) = (1 : Int))))]) cb103 (evC rfl evN) (h.mono ?_))
   clear h; rintro v F ⟨v_32, rfl, h⟩
   refine s_ef0 (k_storeN (vs := v_32) rfl rfl sz28 (by decide) ?_)
   obtain ⟨hz1, hz2, c, e, hz3, hz4, hz5, h⟩ := h
   refine ⟨hz1, hz2, c, e, hz3, hz4, hz5, ?_⟩
   replace h := atE h
   refine HL_nil ?_
   obtain ⟨vres_8, hs8, hr8, h⟩ := h
   exact HC_ret (show endQ prog f93 R .ret _ _ from ⟨_, res1 rfl (rv_cellN rfl underlying28 rfl sz28 hs8 hr8), h⟩)
  ·
   replace h := h.2 hc
   refine kN 18 (decide_eq_false hc) ?_
   refine kN 19 (decide_eq_false hc) ?_
   refine s_skip ?_
   refine s_skip ?_
   refine s_skip ?_
   refine s_skip ?_
   refine s_skip ?_
   refine s_skip ?_
   refine s_skip ?_
   refine s_skip ?_
   refine s_skip ?_
   refine s_skip ?_
   refine s_skip ?_
   refine sR (.bool false) (r_pick rfl rfl (fun h => by cases h) (fun _ => rfl)) ?_
   refine s_ef (k_call (vs := [(.bool false)]) cb103 (evC rfl evN) (h.mono ?_))
   clear h; rintro v F ⟨v_32_1, rfl, h⟩
   refine s_ef0 (k_storeN (vs := v_32_1) rfl rfl sz28 (by decide) ?_)
   obtain ⟨hz1, hz2, c, e, hz3, hz4, hz5, h⟩ := h
   refine ⟨hz1, hz2, c, e, hz3, hz4, hz5, ?_⟩
   replace h := atE h
   refine HL_nil ?_
   obtain ⟨vres_8_1, hs8, hr8, h⟩ := h
   exact HC_ret (show endQ prog f93 R .ret _ _ from ⟨_, res1 rfl (rv_cellN rfl underlying28 rfl sz28 hs8 hr8), h⟩)
 ·
  replace h := h.2 (of_decide_eq_false hc)
  clear hc
  refine HC_skip ?_
  refine cR ?_
  refine sR (.int .i64 v_2) (r_move rfl rfl) ?_
  refine s_ef (k_call (vs := [(.int .i64 v_2)]) cb52 (evC rfl evN) (h.mono ?_))
  clear h; rintro v F ⟨v_35, v_35_1, rfl, h⟩
  refine sR (.tuple #[(.agg v_35), (.int .i64 v_35_1)]) (r_move rfl rfl) ?_
  refine sR (.agg v_35) (r_extract rfl rfl rfl) ?_
  refine sR (.int .i64 v_35_1) (r_extract rfl rfl rfl) ?_
  refine s_ef (k_alloc zr28 ?_)
  intro b9 hf_b9
  replace h := atE (h b9 hf_b9)
  refine s_ef0 (k_storeN (vs := v_35) rfl rfl sz28 (by decide) ?_)
  obtain ⟨hz1, hz2, c, e, hz3, hz4, hz5, h⟩ := h
  refine ⟨hz1, hz2, c, e, hz3, hz4, hz5, ?_⟩
  replace h := atE h
  refine sR (.int .i64 v_35_1) (r_assign rfl rfl) ?_
  refine HL_nil ?_
  refine HC_seq ?_
  refine HC_draw0 (by kernel_rfl) (fun hp => ?_)
  obtain ⟨v_38, hs38, hc38, h⟩ := h
  refine gR 0 (.agg v_38) rfl (w_loadN rfl underlying28 rfl sz28 hs38 hc38) hp (fun S0 q0 => ?_)
  replace hp := holdC (i := 0) (q0 _ (w_loadN rfl underlying28 rfl sz28 hs38 hc38)) hp
  refine gU 1 (Sl.v l_0) rfl (fun _ => r_move rfl rfl) hp ?_
  refine gU 2 (.int .i64 n_1) rfl (fun _ => r_move rfl rfl) hp ?_
  refine gU 3 (.int .i64 v_2) rfl (fun _ => r_move rfl rfl) hp ?_
  refine gU 4 (.int .i64 (IntKind.i64.wrap (v_2 + (1 : Int)))) rfl (fun _ => r_add rfl rfl rfl) hp ?_
  refine gU 5 (.int .i64 k_3) rfl (fun _ => r_move rfl rfl) hp ?_
  refine gU 6 (.int .i64 v_2) rfl (fun _ => r_move rfl rfl) hp ?_
  refine gU 7 (.int .u64 (IntKind.u64.wrap v_2)) rfl (fun _ => r_convInt rfl rfl underlying3 underlying31) hp ?_
  obtain ⟨hd46, h⟩ := h
  refine gU 8 (.int .i64 (IntKind.i64.wrap ((1 : Int) * 2 ^ (min (Int.toNat (IntKind.u64.wrap v_2)) (IntKind.i64).bits)))) rfl (fun _ => r_shl rfl rfl rfl hd46) hp ?_
  refine gU 9 (.int .i64 (IntKind.i64.wrap (k_3 + (IntKind.i64.wrap ((1 : Int) * 2 ^ (min (Int.toNat (IntKind.u64.wrap v_2)) (IntKind.i64).bits)))))) rfl (fun _ => r_add rfl rfl rfl) hp ?_
  refine gU 12 (Sl.v l_0) rfl (fun _ => r_move rfl rfl) hp ?_
  refine gU 13 (.int .i64 n_1) rfl (fun _ => r_move rfl rfl) hp ?_
  refine gU 14 (.int .i64 v_2) rfl (fun _ => r_move rfl rfl) hp ?_
  refine gU 15 (.int .i64 (IntKind.i64.wrap (v_2 + (1 : Int)))) rfl (fun _ => r_add rfl rfl rfl) hp ?_
  refine gU 16 (.int .i64 k_3) rfl (fun _ => r_move rfl rfl) hp ?_
  obtain ⟨v_56, hs56, hc56, h⟩ := h
  refine gR 18 (.agg v_56) rfl (w_loadN rfl underlying28 rfl sz28 hs56 hc56) hp (fun S18 q18 => ?_)
  replace hp := holdC (i := 18) (q18 _ (w_loadN rfl underlying28 rfl sz28 hs56 hc56)) hp
  refine RG_eff1 (i := 10) (by kernel_rfl) (g_op (Sp' := [(18, S18), (0, S0)]) rfl rfl (k_call (vs := [(Sl.v l_0), (.int .i64 n_1), (.int .i64 (IntKind.i64.wrap (v_2 + (1 : Int)))), (.int .i64 (IntKind.i64.wrap (k_3 + (IntKind.i64.wrap ((1 : Int) * 2 ^ (min (Int.toNat (IntKind.u64.wrap v_2)) (IntKind.i64).bits))))))]) cb93 (evC rfl (evC rfl (evC rfl (evC rfl evN)))) (h.mono ?_)))
  clear h; rintro v F ⟨v_48, rfl, h⟩
  obtain ⟨hk_5, hk_6, h⟩ := h
  refine holdI (holdC (i := 18) (q18 _ (w_loadN rfl underlying28 rfl sz28 hs56 hk_5)) (holdC (i := 0) (q0 _ (w_loadN rfl underlying28 rfl sz28 hs38 hk_6)) hold0)) (fun hp => ?_)
  refine RG_eff1 (i := 11) (by kernel_rfl) (g_op (Sp' := [(18, S18)]) rfl rfl (k_call (vs := [(.agg v_38), (.agg v_48)]) cb83 (evC rfl (evC rfl evN)) (h.mono ?_)))
  clear h; rintro v F ⟨v_49, rfl, h⟩
  obtain ⟨hk_7, h⟩ := h
  refine holdI (holdC (i := 18) (q18 _ (w_loadN rfl underlying28 rfl sz28 hs56 hk_7)) hold0) (fun hp => ?_)
  refine RG_eff1 (i := 17) (by kernel_rfl) (g_op (Sp' := [(18, S18)]) rfl rfl (k_call (vs := [(Sl.v l_0), (.int .i64 n_1), (.int .i64 (IntKind.i64.wrap (v_2 + (1 : Int)))), (.int .i64 k_3)]) cb93 (evC rfl (evC rfl (evC rfl (evC rfl evN)))) (h.mono ?_)))
  clear h; rintro v F ⟨v_55, rfl, h⟩
  obtain ⟨hk_8, h⟩ := h
  refine holdI (holdC (i := 18) (q18 _ (w_loadN rfl underlying28 rfl sz28 hs56 hk_8)) hold0) (fun hp => ?_)
  refine RG_eff1 (i := 19) (by kernel_rfl) (g_op (Sp' := []) rfl rfl (k_call (vs := [(.agg v_55), (.agg v_56)]) cb84 (evC rfl (evC rfl evN)) (h.mono ?_)))
  clear h; rintro v F ⟨v_57, rfl, h⟩
  refine holdI hold0 (fun hp => ?_)
  refine RG_eff1 (i := 20) (by kernel_rfl) (g_op (Sp' := []) rfl rfl (k_call (vs := [(.agg v_49), (.agg v_57)]) cb82 (evC rfl (evC rfl evN)) (h.mono ?_)))
  clear h; rintro v F ⟨v_58, rfl, h⟩
  refine holdI hold0 (fun hp => ?_)
  refine RG_eff1 (i := 21) (by kernel_rfl) (g_op0 (Sp' := []) rfl rfl (k_storeN (vs := v_58) rfl rfl sz28 (by decide) ?_))
  obtain ⟨hz1, hz2, c, e, hz3, hz4, hz5, h⟩ := h
  refine ⟨hz1, hz2, c, e, hz3, hz4, hz5, ?_⟩
  replace h := atE h
  refine holdI hold0 (fun hp => ?_)
  refine RG_done (by kernel_rfl) ?_
  obtain ⟨vres_8_2, hs8, hr8, h⟩ := h
  exact HC_ret (show endQ prog f93 R .ret _ _ from ⟨_, res1 rfl (rv_cellN rfl underlying28 rfl sz28 hs8 hr8), h⟩)

/- 59 koine.koineref02.Made -/
def b59 (l_0 : Sl) (n_1 : Int) (R : Value → PH → Prop) (F : PH) : Prop :=
 ∀ b4, F b4 = none → atF (F.set b4 (.cells (#[.slice none 0 0, .int .i64 0]) 28)) fun F =>
 Spec prog 93 #[(Sl.v l_0), (.int .i64 (max (0 : Int) (min n_1 (6 : Int)))), (.int .i64 (0 : Int)), (.int .i64 (0 : Int))] F fun v F => ∃ v_10 : Array Value, v = (.agg v_10) ∧
 v_10.size = 2 ∧ (∀ v ∈ v_10.toList, storable v) ∧ ∃ c e, F (Addr.mk b4 0 none).block = some (.cells c e (0, 0)) ∧ (Addr.mk b4 0 none).spot = none ∧ (Addr.mk b4 0 none).off + 2 ≤ c.size ∧
 atF (F.set (Addr.mk b4 0 none).block (.cells (wr c (Addr.mk b4 0 none).off v_10.toList) e)) fun F =>
 ∃ vres_4 : Array Value, vres_4.size = 2 ∧ F.row (Addr.mk b4 0 none) vres_4 ∧ R (.agg vres_4) F
theorem c59 {l_0 : Sl} {n_1 : Int} {R : Value → PH → Prop} {F : PH} (h : b59 l_0 n_1 R F) : Spec prog 59 #[(Sl.v l_0), (.int .i64 n_1)] F R := by
 refine spec_of (args := [(Sl.v l_0), (.int .i64 n_1)]) func59 rfl ntmps59 rfl ?_
 unfold b59 at h
 refine cR ?_
 refine s_ef (k_alloc zr28 ?_)
 intro b4 hf_b4
 replace h := atE (h b4 hf_b4)
 refine HL_nil ?_
 refine cR ?_
 refine sR (.int .i64 n_1) (r_move rfl rfl) ?_
 refine sR (.int .i64 (min n_1 (6 : Int))) (r_min2 rfl rfl rfl) ?_
 refine sR (.int .i64 (max (0 : Int) (min n_1 (6 : Int)))) (r_max2 rfl rfl rfl) ?_
 refine sR (.int .i64 (max (0 : Int) (min n_1 (6 : Int)))) (r_assign rfl rfl) ?_
 refine HL_nil ?_
 refine cR ?_
 refine sR (Sl.v l_0) (r_move rfl rfl) ?_
 refine sR (.int .i64 (max (0 : Int) (min n_1 (6 : Int)))) (r_move rfl rfl) ?_
 refine s_ef (k_call (vs := [(Sl.v l_0), (.int .i64 (max (0 : Int) (min n_1 (6 : Int)))), (.int .i64 (0 : Int)), (.int .i64 (0 : Int))]) cb93 (evC rfl (evC rfl (evC rfl (evC rfl evN)))) (h.mono ?_))
 clear h; rintro v F ⟨v_10, rfl, h⟩
 refine s_ef0 (k_storeN (vs := v_10) rfl rfl sz28 (by decide) ?_)
 obtain ⟨hz1, hz2, c, e, hz3, hz4, hz5, h⟩ := h
 refine ⟨hz1, hz2, c, e, hz3, hz4, hz5, ?_⟩
 replace h := atE h
 refine HL_nil ?_
 obtain ⟨vres_4, hs4, hr4, h⟩ := h
 exact HC_ret (show endQ prog f59 R .ret _ _ from ⟨_, res1 rfl (rv_cellN rfl underlying28 rfl sz28 hs4 hr4), h⟩)

end Go.Proofs.Ytafojmoeaneedaa
