/-
  What functions of the program do, in a clean form, each with the proof that its code does so. Printed by a program.
-/
import Derived.Test.YtafojmoeaneedaaGf
import Derived.Test.YtafojmoeaneedaaPho
namespace Go.Proofs.Ytafojmoeaneedaa
open Go Go.Proofs.Try
set_option maxRecDepth 10000
set_option maxHeartbeats 4000000
/- 40 koine.koineref02.Check -/
def b40 (d_0 : Array Value) (R : Value → PH → Prop) (F : PH) : Prop :=
 ∀ b1, F b1 = none → atF (F.set b1 (.cells d_0 28)) fun F =>
 ∃ v_4 : Sl, F.cell (Addr.mk b1 0 none) = some (Sl.v v_4) ∧
 (((4096 : Int) < (v_4.len : Int) →
  R (.int .i64 (2 : Int)) F) ∧
 (¬ ((4096 : Int) < (v_4.len : Int)) →
  ∃ v_7 : Array Value, v_7.size = 2 ∧ F.row (Addr.mk b1 0 none) v_7 ∧
  Spec prog 79 #[(.agg v_7)] F fun v F => ∃ v_8 : Bool, v = (.bool v_8) ∧
  (((!v_8) = true →
   R (.int .i64 (20 : Int)) F) ∧
  ((!v_8) = false →
   R (.int .i64 (0 : Int)) F))))
theorem c40 {d_0 : Array Value} {R : Value → PH → Prop} {F : PH} (h : b40 d_0 R F) : Spec prog 40 #[(.agg d_0)] F R := by
 refine spec_of (args := [(.agg d_0)]) func40 rfl ntmps40 rfl ?_
 unfold b40 at h
 refine cR ?_
 refine s_ef (k_box (cs := d_0) rfl rfl ?_)
 intro b1 hf_b1
 replace h := atE (h b1 hf_b1)
 refine sR (.int .i64 (0 : Int)) (r_assign rfl rfl) ?_
 refine HL_nil ?_
 refine HC_seq ?_
 refine cR ?_
 refine sR (.pointer (some (Addr.mk b1 0 none))) (w_fieldAddr (a' := (Addr.mk b1 0 none)) rfl underlying28 rfl rfl sz26 rfl rfl) ?_
 obtain ⟨v_4, hc4, h⟩ := h
 refine sR (Sl.v v_4) (r_load1 rfl rfl underlying26 rfl hc4) ?_
 refine sR (.int .i64 (v_4.len : Int)) (r_lenSl rfl rfl underlying26) ?_
 refine sR (.bool (decide ((4096 : Int) < (v_4.len : Int)))) (r_gtr rfl rfl rfl) ?_
 refine HL_nil ?_
 refine HC_cond (t := (decide ((4096 : Int) < (v_4.len : Int)))) rfl (fun hc => ?_) (fun hc => ?_)
 ·
  replace h := h.1 (of_decide_eq_true hc)
  clear hc
  refine cR ?_
  refine sR (.int .i64 (2 : Int)) (r_assign rfl rfl) ?_
  refine HL_nil ?_
  exact HC_ret (show endQ prog f40 R .ret _ _ from ⟨_, res1 rfl (rv_tmp rfl), h⟩)
 ·
  replace h := h.2 (of_decide_eq_false hc)
  clear hc
  refine HC_skip ?_
  refine HC_seq ?_
  refine cR ?_
  obtain ⟨v_7, hs7, hc7, h⟩ := h
  refine sR (.agg v_7) (w_loadN rfl underlying28 rfl sz28 hs7 hc7) ?_
  refine s_ef (k_call (vs := [(.agg v_7)]) cb79 (evC rfl evN) (h.mono ?_))
  clear h; rintro v F ⟨v_8, rfl, h⟩
  refine sR (.bool (!v_8)) (r_not rfl rfl) ?_
  refine HL_nil ?_
  refine HC_cond (t := (!v_8)) rfl (fun hc => ?_) (fun hc => ?_)
  ·
   replace h := h.1 hc
   clear hc
   refine cR ?_
   refine sR (.int .i64 (20 : Int)) (r_assign rfl rfl) ?_
   refine HL_nil ?_
   exact HC_ret (show endQ prog f40 R .ret _ _ from ⟨_, res1 rfl (rv_tmp rfl), h⟩)
  ·
   replace h := h.2 hc
   clear hc
   refine HC_skip ?_
   refine cR ?_
   refine sR (.int .i64 (0 : Int)) (r_assign rfl rfl) ?_
   refine HL_nil ?_
   exact HC_ret (show endQ prog f40 R .ret _ _ from ⟨_, res1 rfl (rv_tmp rfl), h⟩)

/- 79 koine.koineref02.Valid -/
def b79j1 (b1 : Nat) (R : Value → PH → Prop) (F : PH) : Prop :=
 ∃ v_27 : Array Value, v_27.size = 2 ∧ F.row (Addr.mk b1 0 none) v_27 ∧
 ∃ v_29 : Sl, F.cell (Addr.mk b1 0 none) = some (Sl.v v_29) ∧
 ∃ v_31 : Int, F.cell (Addr.mk b1 1 none) = some (.int .i64 v_31) ∧
 Spec prog 102 #[(Sl.v v_29), (.int .i64 v_31)] F fun v F => ∃ v_32 : Array Value, v = (.agg v_32) ∧
 F.row (Addr.mk b1 0 none) v_27 ∧ Spec prog 39 #[(.agg v_27), (.agg v_32)] F fun v F => ∃ v_33 : Bool, v = (.bool v_33) ∧
 R (.bool v_33) F
abbrev b79J1 (b1 : Nat) (R : Value → PH → Prop) (E : En) (F : PH) : Prop := E 1 = (.pointer (some (Addr.mk b1 0 none))) ∧ b79j1 b1 R F
def b79L1 (N1 : Int → PH → Prop) (b1 : Nat) (R : Value → PH → Prop) (n_3 : Int) (F : PH) : Prop :=
 ∃ v_18 : Sl, F.cell (Addr.mk b1 0 none) = some (Sl.v v_18) ∧
 ((n_3 < (v_18.len : Int) →
  ∃ v_23 : Array Value, v_23.size = 2 ∧ F.row (Addr.mk b1 0 none) v_23 ∧
  Spec prog 101 #[(.agg v_23), (.int .i64 n_3)] F fun v F => ∃ v_25 : Bool, v = (.bool v_25) ∧
  (((!v_25) = true →
   R (.bool false) F) ∧
  ((!v_25) = false →
   N1 (IntKind.i64.wrap (n_3 + (1 : Int))) F))) ∧
 (¬ (n_3 < (v_18.len : Int)) →
  b79j1 b1 R F))
def b79 (d_0 : Array Value) (R : Value → PH → Prop) (F : PH) : Prop :=
 ∀ b1, F b1 = none → atF (F.set b1 (.cells d_0 28)) fun F =>
 ∃ v_5 : Int, F.cell (Addr.mk b1 1 none) = some (.int .i64 v_5) ∧
 ((v_5 < (0 : Int) →
  R (.bool false) F) ∧
 (¬ (v_5 < (0 : Int)) →
  ∃ v_9 : Int, F.cell (Addr.mk b1 1 none) = some (.int .i64 v_9) ∧
  ∃ v_11 : Sl, F.cell (Addr.mk b1 0 none) = some (Sl.v v_11) ∧
  (((IntKind.i64.wrap ((v_11.len : Int) + (2 : Int))) ≤ v_9 →
   R (.bool false) F) ∧
  (¬ ((IntKind.i64.wrap ((v_11.len : Int) + (2 : Int))) ≤ v_9) →
   (∃ (I1 : Nat → Int → PH → Prop) (m1 : Nat), I1 m1 (0 : Int) F ∧ ∀ m1 n_3 F, I1 m1 n_3 F →
    b79L1 (fun n_3 F => ∃ m', m' < m1 ∧ I1 m' n_3 F) b1 R n_3 F)))))
theorem c79 {d_0 : Array Value} {R : Value → PH → Prop} {F : PH} (h : b79 d_0 R F) : Spec prog 79 #[(.agg d_0)] F R := by
 refine spec_of (args := [(.agg d_0)]) func79 rfl ntmps79 rfl ?_
 unfold b79 at h
 refine cR ?_
 refine s_ef (k_box (cs := d_0) rfl rfl ?_)
 intro b1 hf_b1
 replace h := atE (h b1 hf_b1)
 refine sR (.bool false) (r_assign rfl rfl) ?_
 refine HL_nil ?_
 refine HC_seq ?_
 refine cR ?_
 refine sR (.pointer (some (Addr.mk b1 1 none))) (w_fieldAddr (a' := (Addr.mk b1 1 none)) rfl underlying28 rfl rfl sz3 rfl rfl) ?_
 obtain ⟨v_5, hc5, h⟩ := h
 refine sR (.int .i64 v_5) (r_load1 rfl rfl underlying3 rfl hc5) ?_
 refine sR (.bool (decide (v_5 < (0 : Int)))) (r_lss rfl rfl rfl) ?_
 refine sR (.bool (decide (v_5 < (0 : Int)))) (r_move rfl rfl) ?_
 by_cases hc : v_5 < (0 : Int)
 ·
  replace h := h.1 hc
  refine kN 6 (decide_eq_true hc) ?_
  refine kN 7 (decide_eq_true hc) ?_
  refine s_skip ?_
  refine s_skip ?_
  refine s_skip ?_
  refine s_skip ?_
  refine s_skip ?_
  refine s_skip ?_
  refine s_skip ?_
  refine sR (.bool true) (r_pick rfl rfl (fun _ => rfl) (fun h => by cases h)) ?_
  refine HL_nil ?_
  refine HC_condT rfl ?_
  refine cR ?_
  refine sR (.bool false) (r_assign rfl rfl) ?_
  refine HL_nil ?_
  exact HC_ret (show endQ prog f79 R .ret _ _ from ⟨_, res1 rfl (rv_tmp rfl), h⟩)
 ·
  replace h := h.2 hc
  refine kN 6 (decide_eq_false hc) ?_
  refine kN 7 (decide_eq_false hc) ?_
  refine sR (.pointer (some (Addr.mk b1 1 none))) (w_fieldAddr (a' := (Addr.mk b1 1 none)) rfl underlying28 rfl rfl sz3 rfl rfl) ?_
  obtain ⟨v_9, hc9, h⟩ := h
  refine sR (.int .i64 v_9) (r_load1 rfl rfl underlying3 rfl hc9) ?_
  refine sR (.pointer (some (Addr.mk b1 0 none))) (w_fieldAddr (a' := (Addr.mk b1 0 none)) rfl underlying28 rfl rfl sz26 rfl rfl) ?_
  obtain ⟨v_11, hc11, h⟩ := h
  refine sR (Sl.v v_11) (r_load1 rfl rfl underlying26 rfl hc11) ?_
  refine sR (.int .i64 (v_11.len : Int)) (r_lenSl rfl rfl underlying26) ?_
  refine sR (.int .i64 (IntKind.i64.wrap ((v_11.len : Int) + (2 : Int)))) (r_add rfl rfl rfl) ?_
  refine sR (.bool (decide ((IntKind.i64.wrap ((v_11.len : Int) + (2 : Int))) ≤ v_9))) (r_geq rfl rfl rfl) ?_
  refine sR (.bool (decide ((IntKind.i64.wrap ((v_11.len : Int) + (2 : Int))) ≤ v_9))) (r_pick rfl rfl (fun h => by cases h) (fun _ => rfl)) ?_
  refine HL_nil ?_
  refine HC_cond (t := (decide ((IntKind.i64.wrap ((v_11.len : Int) + (2 : Int))) ≤ v_9))) rfl (fun hc => ?_) (fun hc => ?_)
  ·
   replace h := h.1 (of_decide_eq_true hc)
   clear hc
   refine cR ?_
   refine sR (.bool false) (r_assign rfl rfl) ?_
   refine HL_nil ?_
   exact HC_ret (show endQ prog f79 R .ret _ _ from ⟨_, res1 rfl (rv_tmp rfl), h⟩)
  ·
   replace h := h.2 (of_decide_eq_false hc)
   clear hc
   refine HC_skip ?_
   refine HC_seqJ (b79J1 b1 R) ?_ ?_
   ·
    clear h; rintro E F ⟨h1, h⟩
    unfold b79j1 at h
    refine HC_seq ?_
    refine HC_draw0 (by kernel_rfl) (fun hp => ?_)
    obtain ⟨v_27, hs27, hc27, h⟩ := h
    refine gR 0 (.agg v_27) rfl (w_loadN h1 underlying28 rfl sz28 hs27 hc27) hp (fun S0 q0 => ?_)
    replace hp := holdC (i := 0) (q0 _ (w_loadN h1 underlying28 rfl sz28 hs27 hc27)) hp
    refine gU 1 (.pointer (some (Addr.mk b1 0 none))) rfl (fun _ => w_fieldAddr (a' := (Addr.mk b1 0 none)) h1 underlying28 rfl rfl sz26 rfl rfl) hp ?_
    obtain ⟨v_29, hc29, h⟩ := h
    refine gR 2 (Sl.v v_29) rfl (r_load1 rfl rfl underlying26 rfl hc29) hp (fun S2 q2 => ?_)
    replace hp := holdC (i := 2) (q2 _ (r_load1 rfl rfl underlying26 rfl hc29)) hp
    refine gU 3 (.pointer (some (Addr.mk b1 1 none))) rfl (fun _ => w_fieldAddr (a' := (Addr.mk b1 1 none)) h1 underlying28 rfl rfl sz3 rfl rfl) hp ?_
    obtain ⟨v_31, hc31, h⟩ := h
    refine gR 4 (.int .i64 v_31) rfl (r_load1 rfl rfl underlying3 rfl hc31) hp (fun S4 q4 => ?_)
    replace hp := holdC (i := 4) (q4 _ (r_load1 rfl rfl underlying3 rfl hc31)) hp
    refine RG_eff1 (i := 5) (by kernel_rfl) (g_op (Sp' := [(0, S0)]) rfl rfl (k_call (vs := [(Sl.v v_29), (.int .i64 v_31)]) cb102 (evC rfl (evC rfl evN)) (h.mono ?_)))
    clear h; rintro v F ⟨v_32, rfl, h⟩
    obtain ⟨hk_2, h⟩ := h
    refine holdI (holdC (i := 0) (q0 _ (w_loadN h1 underlying28 rfl sz28 hs27 hk_2)) hold0) (fun hp => ?_)
    refine RG_eff1 (i := 6) (by kernel_rfl) (g_op (Sp' := []) rfl rfl (k_call (vs := [(.agg v_27), (.agg v_32)]) cb39 (evC rfl (evC rfl evN)) (h.mono ?_)))
    clear h; rintro v F ⟨v_33, rfl, h⟩
    refine holdI hold0 (fun hp => ?_)
    refine gU 7 (.bool v_33) rfl (fun _ => r_assign rfl rfl) hp ?_
    refine RG_done (by kernel_rfl) ?_
    exact HC_ret (show endQ prog f79 R .ret _ _ from ⟨_, res1 rfl (rv_tmp rfl), h⟩)
   ·
    skip
    refine cR ?_
    refine sR (.int .i64 (0 : Int)) (r_assign rfl rfl) ?_
    refine HL_nil ?_
    refine HC_block ?_
    obtain ⟨I1, m1, hI0, hr⟩ := h
    refine HC_loop (fun m1 E F => ∃ n_3 : Int, E 1 = (.pointer (some (Addr.mk b1 0 none))) ∧ E 3 = (.int .i64 n_3) ∧ I1 m1 n_3 F) m1 ⟨_, rfl, rfl, hI0⟩ ?_
    clear hI0; rintro m1 E F ⟨n_3, h1, h3, hI⟩
    have h := hr m1 n_3 F hI
    clear hr hI
    unfold b79L1 at h
    refine HC_seq ?_
    refine cR ?_
    refine sR (.int .i64 n_3) (r_move rfl h3) ?_
    refine sR (.pointer (some (Addr.mk b1 0 none))) (w_fieldAddr (a' := (Addr.mk b1 0 none)) h1 underlying28 rfl rfl sz26 rfl rfl) ?_
    obtain ⟨v_18, hc18, h⟩ := h
    refine sR (Sl.v v_18) (r_load1 rfl rfl underlying26 rfl hc18) ?_
    refine sR (.int .i64 (v_18.len : Int)) (r_lenSl rfl rfl underlying26) ?_
    refine sR (.bool (decide (n_3 < (v_18.len : Int)))) (r_lss rfl rfl rfl) ?_
    refine HL_nil ?_
    refine HC_cond (t := (decide (n_3 < (v_18.len : Int)))) rfl (fun hc => ?_) (fun hc => ?_)
    ·
     replace h := h.1 (of_decide_eq_true hc)
     clear hc
     refine HC_skip ?_
     refine HC_seq ?_
     refine HC_block ?_
     refine cR ?_
     obtain ⟨v_23, hs23, hc23, h⟩ := h
     refine sR (.agg v_23) (w_loadN h1 underlying28 rfl sz28 hs23 hc23) ?_
     refine sR (.int .i64 n_3) (r_move rfl h3) ?_
     refine s_ef (k_call (vs := [(.agg v_23), (.int .i64 n_3)]) cb101 (evC rfl (evC rfl evN)) (h.mono ?_))
     clear h; rintro v F ⟨v_25, rfl, h⟩
     refine sR (.bool (!v_25)) (r_not rfl rfl) ?_
     refine HL_nil ?_
     refine HC_cond (t := (!v_25)) rfl (fun hc => ?_) (fun hc => ?_)
     ·
      replace h := h.1 hc
      clear hc
      refine cR ?_
      refine sR (.bool false) (r_assign rfl rfl) ?_
      refine HL_nil ?_
      exact HC_ret (show endQ prog f79 R .ret _ _ from ⟨_, res1 rfl (rv_tmp rfl), h⟩)
     ·
      replace h := h.2 hc
      clear hc
      refine HC_skip ?_
      refine HC_region ?_
      refine sR (.int .i64 n_3) (r_move rfl h3) ?_
      refine sR (.int .i64 (IntKind.i64.wrap (n_3 + (1 : Int)))) (r_add rfl rfl rfl) ?_
      refine sR (.int .i64 (IntKind.i64.wrap (n_3 + (1 : Int)))) (r_assign rfl rfl) ?_
      refine HL_nil ?_
      obtain ⟨m', hm, h⟩ := h
      exact ⟨m', hm, _, h1, rfl, h⟩
    ·
     replace h := h.2 (of_decide_eq_false hc)
     clear hc
     refine HC_exit ?_
     show b79J1 b1 R _ _
     exact ⟨h1, h⟩

/- 101 koine.koineref02.branch -/
def b101j1 (R : Value → PH → Prop) (F : PH) : Prop :=
 R (.bool true) F
abbrev b101J1 (R : Value → PH → Prop) (E : En) (F : PH) : Prop := b101j1 R F
def b101L1 (N1 : Int → PH → Prop) (n_1 : Int) (b2 : Nat) (b5 : Nat) (R : Value → PH → Prop) (i_6 : Int) (F : PH) : Prop :=
 ((i_6 < n_1 →
  ∃ v_73 : Sl, F.cell (Addr.mk b2 0 none) = some (Sl.v v_73) ∧
  ∃ a75_ : Addr, v_73.base = some a75_ ∧ 0 ≤ i_6 ∧ i_6 < (v_73.len : Int) ∧
  ∃ v_76 : Array Value, v_76.size = 3 ∧ F.row (Addr.add a75_ (Int.toNat i_6 * 3)) v_76 ∧
  ∃ v_77 : Array Value, v_77.size = 3 ∧ F.row (Addr.mk b5 0 none) v_77 ∧
  ∃ v_78 : Bool, (∀ F, rdo prog (Op.equal 72 (.agg v_76) (.agg v_77)) F v_78) ∧
  ((v_78 = true →
   R (.bool false) F) ∧
  (v_78 = false →
   N1 (IntKind.i64.wrap (i_6 + (1 : Int))) F))) ∧
 (¬ (i_6 < n_1) →
  b101j1 R F))
def b101 (d_0 : Array Value) (n_1 : Int) (R : Value → PH → Prop) (F : PH) : Prop :=
 ∀ b2, F b2 = none → atF (F.set b2 (.cells d_0 28)) fun F =>
 ∃ v_8 : Sl, F.cell (Addr.mk b2 0 none) = some (Sl.v v_8) ∧
 ∃ a10_ : Addr, v_8.base = some a10_ ∧ 0 ≤ n_1 ∧ n_1 < (v_8.len : Int) ∧
 ∃ v_11 : Array Value, v_11.size = 3 ∧ F.row (Addr.add a10_ (Int.toNat n_1 * 3)) v_11 ∧
 ∀ b5, F b5 = none → atF (F.set b5 (.cells (#[.int .i64 0, .int .i64 0, .int .i64 0]) 72)) fun F =>
 v_11.size = 3 ∧ (∀ v ∈ v_11.toList, storable v) ∧ ∃ c e, F (Addr.mk b5 0 none).block = some (.cells c e (0, 0)) ∧ (Addr.mk b5 0 none).spot = none ∧ (Addr.mk b5 0 none).off + 3 ≤ c.size ∧
 atF (F.set (Addr.mk b5 0 none).block (.cells (wr c (Addr.mk b5 0 none).off v_11.toList) e)) fun F =>
 ∃ v_13 : Int, F.cell (Addr.mk b5 0 none) = some (.int .i64 v_13) ∧
 ((v_13 < (0 : Int) →
  R (.bool false) F) ∧
 (¬ (v_13 < (0 : Int)) →
  ∃ v_17 : Int, F.cell (Addr.mk b5 0 none) = some (.int .i64 v_17) ∧
  (((63 : Int) < v_17 →
   R (.bool false) F) ∧
  (¬ ((63 : Int) < v_17) →
   ∃ v_22 : Int, F.cell (Addr.mk b5 1 none) = some (.int .i64 v_22) ∧
   ((v_22 < (0 : Int) →
    R (.bool false) F) ∧
   (¬ (v_22 < (0 : Int)) →
    ∃ v_27 : Int, F.cell (Addr.mk b5 2 none) = some (.int .i64 v_27) ∧
    ((v_27 < (0 : Int) →
     R (.bool false) F) ∧
    (¬ (v_27 < (0 : Int)) →
     ∃ v_32 : Int, F.cell (Addr.mk b5 1 none) = some (.int .i64 v_32) ∧
     (((IntKind.i64.wrap (n_1 + (2 : Int))) ≤ v_32 →
      R (.bool false) F) ∧
     (¬ ((IntKind.i64.wrap (n_1 + (2 : Int))) ≤ v_32) →
      ∃ v_39 : Int, F.cell (Addr.mk b5 2 none) = some (.int .i64 v_39) ∧
      (((IntKind.i64.wrap (n_1 + (2 : Int))) ≤ v_39 →
       R (.bool false) F) ∧
      (¬ ((IntKind.i64.wrap (n_1 + (2 : Int))) ≤ v_39) →
       ∃ v_46 : Int, F.cell (Addr.mk b5 1 none) = some (.int .i64 v_46) ∧
       ∃ v_48 : Int, F.cell (Addr.mk b5 2 none) = some (.int .i64 v_48) ∧
       ((v_46 = v_48 →
        R (.bool false) F) ∧
       (¬ (v_46 = v_48) →
        ∃ v_51 : Array Value, v_51.size = 2 ∧ F.row (Addr.mk b2 0 none) v_51 ∧
        ∃ v_53 : Int, F.cell (Addr.mk b5 1 none) = some (.int .i64 v_53) ∧
        ∃ v_56 : Int, F.cell (Addr.mk b5 0 none) = some (.int .i64 v_56) ∧
        Spec prog 109 #[(.agg v_51), (.int .i64 v_53)] F fun v F => ∃ v_54 : Int, v = (.int .i64 v_54) ∧
        F.cell (Addr.mk b5 0 none) = some (.int .i64 v_56) ∧ ((v_54 ≤ v_56 →
         R (.bool false) F) ∧
        (¬ (v_54 ≤ v_56) →
         ∃ v_59 : Array Value, v_59.size = 2 ∧ F.row (Addr.mk b2 0 none) v_59 ∧
         ∃ v_61 : Int, F.cell (Addr.mk b5 2 none) = some (.int .i64 v_61) ∧
         ∃ v_64 : Int, F.cell (Addr.mk b5 0 none) = some (.int .i64 v_64) ∧
         Spec prog 109 #[(.agg v_59), (.int .i64 v_61)] F fun v F => ∃ v_62 : Int, v = (.int .i64 v_62) ∧
         F.cell (Addr.mk b5 0 none) = some (.int .i64 v_64) ∧ F.cell (Addr.mk b5 0 none) = some (.int .i64 v_56) ∧ ((v_62 ≤ v_64 →
          R (.bool false) F) ∧
         (¬ (v_62 ≤ v_64) →
          (∃ (I1 : Nat → Int → PH → Prop) (m1 : Nat), I1 m1 (0 : Int) F ∧ ∀ m1 i_6 F, I1 m1 i_6 F →
           b101L1 (fun i_6 F => ∃ m', m' < m1 ∧ I1 m' i_6 F) n_1 b2 b5 R i_6 F)))))))))))))))))))
theorem c101 {d_0 : Array Value} {n_1 : Int} {R : Value → PH → Prop} {F : PH} (h : b101 d_0 n_1 R F) : Spec prog 101 #[(.agg d_0), (.int .i64 n_1)] F R := by
 refine spec_of (args := [(.agg d_0), (.int .i64 n_1)]) func101 rfl ntmps101 rfl ?_
 unfold b101 at h
 refine cR ?_
 refine s_ef (k_box (cs := d_0) rfl rfl ?_)
 intro b2 hf_b2
 replace h := atE (h b2 hf_b2)
 refine sR (.bool false) (r_assign rfl rfl) ?_
 refine HL_nil ?_
 refine cR ?_
 refine sR (.pointer (some (Addr.mk b2 0 none))) (w_fieldAddr (a' := (Addr.mk b2 0 none)) rfl underlying28 rfl rfl sz26 rfl rfl) ?_
 obtain ⟨v_8, hc8, h⟩ := h
 refine sR (Sl.v v_8) (r_load1 rfl rfl underlying26 rfl hc8) ?_
 refine sR (.int .i64 n_1) (r_move rfl rfl) ?_
 obtain ⟨a10_, hb10, hl10, hu10, h⟩ := h
 refine sR (.pointer (some (Addr.add a10_ (Int.toNat n_1 * 3)))) (w_indexAddr rfl rfl underlying26 sz72 hb10 hl10 hu10) ?_
 obtain ⟨v_11, hs11, hc11, h⟩ := h
 refine sR (.agg v_11) (w_loadN rfl underlying72 rfl sz72 hs11 hc11) ?_
 refine s_ef (k_alloc zr72 ?_)
 intro b5 hf_b5
 replace h := atE (h b5 hf_b5)
 refine s_ef0 (k_storeN (vs := v_11) rfl rfl sz72 (by decide) ?_)
 obtain ⟨hz1, hz2, c, e, hz3, hz4, hz5, h⟩ := h
 refine ⟨hz1, hz2, c, e, hz3, hz4, hz5, ?_⟩
 replace h := atE h
 refine HL_nil ?_
 refine HC_seq ?_
 refine cR ?_
 refine sR (.pointer (some (Addr.mk b5 0 none))) (w_fieldAddr (a' := (Addr.mk b5 0 none)) rfl underlying72 rfl rfl sz3 rfl rfl) ?_
 obtain ⟨v_13, hc13, h⟩ := h
 refine sR (.int .i64 v_13) (r_load1 rfl rfl underlying3 rfl hc13) ?_
 refine sR (.bool (decide (v_13 < (0 : Int)))) (r_lss rfl rfl rfl) ?_
 refine sR (.bool (decide (v_13 < (0 : Int)))) (r_move rfl rfl) ?_
 by_cases hc : v_13 < (0 : Int)
 ·
  replace h := h.1 hc
  refine kN 14 (decide_eq_true hc) ?_
  refine kN 15 (decide_eq_true hc) ?_
  refine s_skip ?_
  refine s_skip ?_
  refine s_skip ?_
  refine sR (.bool true) (r_pick rfl rfl (fun _ => rfl) (fun h => by cases h)) ?_
  refine sR (.bool true) (r_move rfl rfl) ?_
  refine s_skip ?_
  refine s_skip ?_
  refine s_skip ?_
  refine sR (.bool true) (r_pick rfl rfl (fun _ => rfl) (fun h => by cases h)) ?_
  refine sR (.bool true) (r_move rfl rfl) ?_
  refine s_skip ?_
  refine s_skip ?_
  refine s_skip ?_
  refine sR (.bool true) (r_pick rfl rfl (fun _ => rfl) (fun h => by cases h)) ?_
  refine sR (.bool true) (r_move rfl rfl) ?_
  refine s_skip ?_
  refine s_skip ?_
  refine s_skip ?_
  refine s_skip ?_
  refine s_skip ?_
  refine sR (.bool true) (r_pick rfl rfl (fun _ => rfl) (fun h => by cases h)) ?_
  refine sR (.bool true) (r_move rfl rfl) ?_
  refine s_skip ?_
  refine s_skip ?_
  refine s_skip ?_
  refine s_skip ?_
  refine s_skip ?_
  refine sR (.bool true) (r_pick rfl rfl (fun _ => rfl) (fun h => by cases h)) ?_
  refine sR (.bool true) (r_move rfl rfl) ?_
  refine s_skip ?_
  refine s_skip ?_
  refine s_skip ?_
  refine s_skip ?_
  refine s_skip ?_
  refine sR (.bool true) (r_pick rfl rfl (fun _ => rfl) (fun h => by cases h)) ?_
  refine HL_nil ?_
  refine HC_condT rfl ?_
  refine cR ?_
  refine sR (.bool false) (r_assign rfl rfl) ?_
  refine HL_nil ?_
  exact HC_ret (show endQ prog f101 R .ret _ _ from ⟨_, res1 rfl (rv_tmp rfl), h⟩)
 ·
  replace h := h.2 hc
  refine kN 14 (decide_eq_false hc) ?_
  refine kN 15 (decide_eq_false hc) ?_
  refine sR (.pointer (some (Addr.mk b5 0 none))) (w_fieldAddr (a' := (Addr.mk b5 0 none)) rfl underlying72 rfl rfl sz3 rfl rfl) ?_
  obtain ⟨v_17, hc17, h⟩ := h
  refine sR (.int .i64 v_17) (r_load1 rfl rfl underlying3 rfl hc17) ?_
  refine sR (.bool (decide ((63 : Int) < v_17))) (r_gtr rfl rfl rfl) ?_
  refine sR (.bool (decide ((63 : Int) < v_17))) (r_pick rfl rfl (fun h => by cases h) (fun _ => rfl)) ?_
  refine sR (.bool (decide ((63 : Int) < v_17))) (r_move rfl rfl) ?_
  by_cases hc : (63 : Int) < v_17
  ·
   replace h := h.1 hc
   refine kN 18 (decide_eq_true hc) ?_
   refine kN 19 (decide_eq_true hc) ?_
   refine kN 20 (decide_eq_true hc) ?_
   refine s_skip ?_
   refine s_skip ?_
   refine s_skip ?_
   refine sR (.bool true) (r_pick rfl rfl (fun _ => rfl) (fun h => by cases h)) ?_
   refine sR (.bool true) (r_move rfl rfl) ?_
   refine s_skip ?_
   refine s_skip ?_
   refine s_skip ?_
   refine sR (.bool true) (r_pick rfl rfl (fun _ => rfl) (fun h => by cases h)) ?_
   refine sR (.bool true) (r_move rfl rfl) ?_
   refine s_skip ?_
   refine s_skip ?_
   refine s_skip ?_
   refine s_skip ?_
   refine s_skip ?_
   refine sR (.bool true) (r_pick rfl rfl (fun _ => rfl) (fun h => by cases h)) ?_
   refine sR (.bool true) (r_move rfl rfl) ?_
   refine s_skip ?_
   refine s_skip ?_
   refine s_skip ?_
   refine s_skip ?_
   refine s_skip ?_
   refine sR (.bool true) (r_pick rfl rfl (fun _ => rfl) (fun h => by cases h)) ?_
   refine sR (.bool true) (r_move rfl rfl) ?_
   refine s_skip ?_
   refine s_skip ?_
   refine s_skip ?_
   refine s_skip ?_
   refine s_skip ?_
   refine sR (.bool true) (r_pick rfl rfl (fun _ => rfl) (fun h => by cases h)) ?_
   refine HL_nil ?_
   refine HC_condT rfl ?_
   refine cR ?_
   refine sR (.bool false) (r_assign rfl rfl) ?_
   refine HL_nil ?_
   exact HC_ret (show endQ prog f101 R .ret _ _ from ⟨_, res1 rfl (rv_tmp rfl), h⟩)
  ·
   replace h := h.2 hc
   refine kN 18 (decide_eq_false hc) ?_
   refine kN 19 (decide_eq_false hc) ?_
   refine kN 20 (decide_eq_false hc) ?_
   refine sR (.pointer (some (Addr.mk b5 1 none))) (w_fieldAddr (a' := (Addr.mk b5 1 none)) rfl underlying72 rfl rfl sz3 rfl rfl) ?_
   obtain ⟨v_22, hc22, h⟩ := h
   refine sR (.int .i64 v_22) (r_load1 rfl rfl underlying3 rfl hc22) ?_
   refine sR (.bool (decide (v_22 < (0 : Int)))) (r_lss rfl rfl rfl) ?_
   refine sR (.bool (decide (v_22 < (0 : Int)))) (r_pick rfl rfl (fun h => by cases h) (fun _ => rfl)) ?_
   refine sR (.bool (decide (v_22 < (0 : Int)))) (r_move rfl rfl) ?_
   by_cases hc : v_22 < (0 : Int)
   ·
    replace h := h.1 hc
    refine kN 23 (decide_eq_true hc) ?_
    refine kN 24 (decide_eq_true hc) ?_
    refine kN 25 (decide_eq_true hc) ?_
    refine s_skip ?_
    refine s_skip ?_
    refine s_skip ?_
    refine sR (.bool true) (r_pick rfl rfl (fun _ => rfl) (fun h => by cases h)) ?_
    refine sR (.bool true) (r_move rfl rfl) ?_
    refine s_skip ?_
    refine s_skip ?_
    refine s_skip ?_
    refine s_skip ?_
    refine s_skip ?_
    refine sR (.bool true) (r_pick rfl rfl (fun _ => rfl) (fun h => by cases h)) ?_
    refine sR (.bool true) (r_move rfl rfl) ?_
    refine s_skip ?_
    refine s_skip ?_
    refine s_skip ?_
    refine s_skip ?_
    refine s_skip ?_
    refine sR (.bool true) (r_pick rfl rfl (fun _ => rfl) (fun h => by cases h)) ?_
    refine sR (.bool true) (r_move rfl rfl) ?_
    refine s_skip ?_
    refine s_skip ?_
    refine s_skip ?_
    refine s_skip ?_
    refine s_skip ?_
    refine sR (.bool true) (r_pick rfl rfl (fun _ => rfl) (fun h => by cases h)) ?_
    refine HL_nil ?_
    refine HC_condT rfl ?_
    refine cR ?_
    refine sR (.bool false) (r_assign rfl rfl) ?_
    refine HL_nil ?_
    exact HC_ret (show endQ prog f101 R .ret _ _ from ⟨_, res1 rfl (rv_tmp rfl), h⟩)
   ·
    replace h := h.2 hc
    refine kN 23 (decide_eq_false hc) ?_
    refine kN 24 (decide_eq_false hc) ?_
    refine kN 25 (decide_eq_false hc) ?_
    refine sR (.pointer (some (Addr.mk b5 2 none))) (w_fieldAddr (a' := (Addr.mk b5 2 none)) rfl underlying72 rfl rfl sz3 rfl rfl) ?_
    obtain ⟨v_27, hc27, h⟩ := h
    refine sR (.int .i64 v_27) (r_load1 rfl rfl underlying3 rfl hc27) ?_
    refine sR (.bool (decide (v_27 < (0 : Int)))) (r_lss rfl rfl rfl) ?_
    refine sR (.bool (decide (v_27 < (0 : Int)))) (r_pick rfl rfl (fun h => by cases h) (fun _ => rfl)) ?_
    refine sR (.bool (decide (v_27 < (0 : Int)))) (r_move rfl rfl) ?_
    by_cases hc : v_27 < (0 : Int)
    ·
     replace h := h.1 hc
     refine kN 28 (decide_eq_true hc) ?_
     refine kN 29 (decide_eq_true hc) ?_
     refine kN 30 (decide_eq_true hc) ?_
     refine s_skip ?_
     refine s_skip ?_
     refine s_skip ?_
     refine s_skip ?_
     refine s_skip ?_
     refine sR (.bool true) (r_pick rfl rfl (fun _ => rfl) (fun h => by cases h)) ?_
     refine sR (.bool true) (r_move rfl rfl) ?_
     refine s_skip ?_
     refine s_skip ?_
     refine s_skip ?_
     refine s_skip ?_
     refine s_skip ?_
     refine sR (.bool true) (r_pick rfl rfl (fun _ => rfl) (fun h => by cases h)) ?_
     refine sR (.bool true) (r_move rfl rfl) ?_
     refine s_skip ?_
     refine s_skip ?_
     refine s_skip ?_
     refine s_skip ?_
     refine s_skip ?_
     refine sR (.bool true) (r_pick rfl rfl (fun _ => rfl) (fun h => by cases h)) ?_
     refine HL_nil ?_
     refine HC_condT rfl ?_
     refine cR ?_
     refine sR (.bool false) (r_assign rfl rfl) ?_
     refine HL_nil ?_
     exact HC_ret (show endQ prog f101 R .ret _ _ from ⟨_, res1 rfl (rv_tmp rfl), h⟩)
    ·
     replace h := h.2 hc
     refine kN 28 (decide_eq_false hc) ?_
     refine kN 29 (decide_eq_false hc) ?_
     refine kN 30 (decide_eq_false hc) ?_
     refine sR (.pointer (some (Addr.mk b5 1 none))) (w_fieldAddr (a' := (Addr.mk b5 1 none)) rfl underlying72 rfl rfl sz3 rfl rfl) ?_
     obtain ⟨v_32, hc32, h⟩ := h
     refine sR (.int .i64 v_32) (r_load1 rfl rfl underlying3 rfl hc32) ?_
     refine sR (.int .i64 n_1) (r_move rfl rfl) ?_
     refine sR (.int .i64 (IntKind.i64.wrap (n_1 + (2 : Int)))) (r_add rfl rfl rfl) ?_
     refine sR (.bool (decide ((IntKind.i64.wrap (n_1 + (2 : Int))) ≤ v_32))) (r_geq rfl rfl rfl) ?_
     refine sR (.bool (decide ((IntKind.i64.wrap (n_1 + (2 : Int))) ≤ v_32))) (r_pick rfl rfl (fun h => by cases h) (fun _ => rfl)) ?_
     refine sR (.bool (decide ((IntKind.i64.wrap (n_1 + (2 : Int))) ≤ v_32))) (r_move rfl rfl) ?_
     by_cases hc : (IntKind.i64.wrap (n_1 + (2 : Int))) ≤ v_32
     ·
      replace h := h.1 hc
      refine kN 35 (decide_eq_true hc) ?_
      refine kN 36 (decide_eq_true hc) ?_
      refine kN 37 (decide_eq_true hc) ?_
      refine s_skip ?_
      refine s_skip ?_
      refine s_skip ?_
      refine s_skip ?_
      refine s_skip ?_
      refine sR (.bool true) (r_pick rfl rfl (fun _ => rfl) (fun h => by cases h)) ?_
      refine sR (.bool true) (r_move rfl rfl) ?_
      refine s_skip ?_
      refine s_skip ?_
      refine s_skip ?_
      refine s_skip ?_
      refine s_skip ?_
      refine sR (.bool true) (r_pick rfl rfl (fun _ => rfl) (fun h => by cases h)) ?_
      refine HL_nil ?_
      refine HC_condT rfl ?_
      refine cR ?_
      refine sR (.bool false) (r_assign rfl rfl) ?_
      refine HL_nil ?_
      exact HC_ret (show endQ prog f101 R .ret _ _ from ⟨_, res1 rfl (rv_tmp rfl), h⟩)
     ·
      replace h := h.2 hc
      refine kN 35 (decide_eq_false hc) ?_
      refine kN 36 (decide_eq_false hc) ?_
      refine kN 37 (decide_eq_false hc) ?_
      refine sR (.pointer (some (Addr.mk b5 2 none))) (w_fieldAddr (a' := (Addr.mk b5 2 none)) rfl underlying72 rfl rfl sz3 rfl rfl) ?_
      obtain ⟨v_39, hc39, h⟩ := h
      refine sR (.int .i64 v_39) (r_load1 rfl rfl underlying3 rfl hc39) ?_
      refine sR (.int .i64 n_1) (r_move rfl rfl) ?_
      refine sR (.int .i64 (IntKind.i64.wrap (n_1 + (2 : Int)))) (r_add rfl rfl rfl) ?_
      refine sR (.bool (decide ((IntKind.i64.wrap (n_1 + (2 : Int))) ≤ v_39))) (r_geq rfl rfl rfl) ?_
      refine sR (.bool (decide ((IntKind.i64.wrap (n_1 + (2 : Int))) ≤ v_39))) (r_pick rfl rfl (fun h => by cases h) (fun _ => rfl)) ?_
      refine sR (.bool (decide ((IntKind.i64.wrap (n_1 + (2 : Int))) ≤ v_39))) (r_move rfl rfl) ?_
      by_cases hc : (IntKind.i64.wrap (n_1 + (2 : Int))) ≤ v_39
      ·
       replace h := h.1 hc
       refine kN 42 (decide_eq_true hc) ?_
       refine kN 43 (decide_eq_true hc) ?_
       refine kN 44 (decide_eq_true hc) ?_
       refine s_skip ?_
       refine s_skip ?_
       refine s_skip ?_
       refine s_skip ?_
       refine s_skip ?_
       refine sR (.bool true) (r_pick rfl rfl (fun _ => rfl) (fun h => by cases h)) ?_
       refine HL_nil ?_
       refine HC_condT rfl ?_
       refine cR ?_
       refine sR (.bool false) (r_assign rfl rfl) ?_
       refine HL_nil ?_
       exact HC_ret (show endQ prog f101 R .ret _ _ from ⟨_, res1 rfl (rv_tmp rfl), h⟩)
      ·
       replace h := h.2 hc
       refine kN 42 (decide_eq_false hc) ?_
       refine kN 43 (decide_eq_false hc) ?_
       refine kN 44 (decide_eq_false hc) ?_
       refine sR (.pointer (some (Addr.mk b5 1 none))) (w_fieldAddr (a' := (Addr.mk b5 1 none)) rfl underlying72 rfl rfl sz3 rfl rfl) ?_
       obtain ⟨v_46, hc46, h⟩ := h
       refine sR (.int .i64 v_46) (r_load1 rfl rfl underlying3 rfl hc46) ?_
       refine sR (.pointer (some (Addr.mk b5 2 none))) (w_fieldAddr (a' := (Addr.mk b5 2 none)) rfl underlying72 rfl rfl sz3 rfl rfl) ?_
       obtain ⟨v_48, hc48, h⟩ := h
       refine sR (.int .i64 v_48) (r_load1 rfl rfl underlying3 rfl hc48) ?_
       refine sR (.bool (decide (v_46 = v_48))) (w_eql rfl rfl) ?_
       refine sR (.bool (decide (v_46 = v_48))) (r_pick rfl rfl (fun h => by cases h) (fun _ => rfl)) ?_
       refine HL_nil ?_
       refine HC_cond (t := (decide (v_46 = v_48))) rfl (fun hc => ?_) (fun hc => ?_)
       ·
        replace h := h.1 (of_decide_eq_true hc)
        clear hc
        refine cR ?_
        refine sR (.bool false) (r_assign rfl rfl) ?_
        refine HL_nil ?_
        exact HC_ret (show endQ prog f101 R .ret _ _ from ⟨_, res1 rfl (rv_tmp rfl), h⟩)
       ·
        replace h := h.2 (of_decide_eq_false hc)
        clear hc
        refine HC_skip ?_
        refine HC_seq ?_
        refine HC_seq ?_
        refine HC_draw0 (by kernel_rfl) (fun hp => ?_)
        obtain ⟨v_51, hs51, hc51, h⟩ := h
        refine gR 0 (.agg v_51) rfl (w_loadN rfl underlying28 rfl sz28 hs51 hc51) hp (fun S0 q0 => ?_)
        replace hp := holdC (i := 0) (q0 _ (w_loadN rfl underlying28 rfl sz28 hs51 hc51)) hp
        refine gU 1 (.pointer (some (Addr.mk b5 1 none))) rfl (fun _ => w_fieldAddr (a' := (Addr.mk b5 1 none)) rfl underlying72 rfl rfl sz3 rfl rfl) hp ?_
        obtain ⟨v_53, hc53, h⟩ := h
        refine gR 2 (.int .i64 v_53) rfl (r_load1 rfl rfl underlying3 rfl hc53) hp (fun S2 q2 => ?_)
        replace hp := holdC (i := 2) (q2 _ (r_load1 rfl rfl underlying3 rfl hc53)) hp
        refine gU 4 (.pointer (some (Addr.mk b5 0 none))) rfl (fun _ => w_fieldAddr (a' := (Addr.mk b5 0 none)) rfl underlying72 rfl rfl sz3 rfl rfl) hp ?_
        obtain ⟨v_56, hc56, h⟩ := h
        refine gR 5 (.int .i64 v_56) rfl (r_load1 rfl rfl underlying3 rfl hc56) hp (fun S5 q5 => ?_)
        replace hp := holdC (i := 5) (q5 _ (r_load1 rfl rfl underlying3 rfl hc56)) hp
        refine RG_eff1 (i := 3) (by kernel_rfl) (g_op (Sp' := [(5, S5)]) rfl rfl (k_call (vs := [(.agg v_51), (.int .i64 v_53)]) cb109 (evC rfl (evC rfl evN)) (h.mono ?_)))
        clear h; rintro v F ⟨v_54, rfl, h⟩
        obtain ⟨hk_10, h⟩ := h
        refine holdI (holdC (i := 5) (q5 _ (r_load1 rfl rfl underlying3 rfl hk_10)) hold0) (fun hp => ?_)
        refine gU 6 (.bool (decide (v_54 ≤ v_56))) rfl (fun _ => r_leq rfl rfl rfl) hp ?_
        refine gU 7 (.bool (decide (v_54 ≤ v_56))) rfl (fun _ => r_move rfl rfl) hp ?_
        by_cases hc : v_54 ≤ v_56
        ·
         replace h := h.1 hc
         refine RG_known (t := 57) (v := .bool true) (congrArg Value.bool (decide_eq_true hc)) ?_
         refine RG_known (t := 58) (v := .bool true) (congrArg Value.bool (decide_eq_true hc)) ?_
         refine gS 8 rfl hp ?_
         refine gS 9 rfl hp ?_
         refine gS 10 rfl hp ?_
         refine gS 11 rfl hp ?_
         refine gS 12 rfl hp ?_
         refine gS 13 rfl hp ?_
         refine gS 14 rfl hp ?_
         refine gU 15 (.bool true) rfl (fun _ => r_pick rfl rfl (fun _ => rfl) (fun h => by cases h)) hp ?_
         refine RG_done (by kernel_rfl) ?_
         refine HC_condT rfl ?_
         refine cR ?_
         refine sR (.bool false) (r_assign rfl rfl) ?_
         refine HL_nil ?_
         exact HC_ret (show endQ prog f101 R .ret _ _ from ⟨_, res1 rfl (rv_tmp rfl), h⟩)
        ·
         replace h := h.2 hc
         refine RG_known (t := 57) (v := .bool false) (congrArg Value.bool (decide_eq_false hc)) ?_
         refine RG_known (t := 58) (v := .bool false) (congrArg Value.bool (decide_eq_false hc)) ?_
         obtain ⟨v_59, hs59, hc59, h⟩ := h
         refine gR 8 (.agg v_59) rfl (w_loadN rfl underlying28 rfl sz28 hs59 hc59) hp (fun S8 q8 => ?_)
         replace hp := holdC (i := 8) (q8 _ (w_loadN rfl underlying28 rfl sz28 hs59 hc59)) hp
         refine gU 9 (.pointer (some (Addr.mk b5 2 none))) rfl (fun _ => w_fieldAddr (a' := (Addr.mk b5 2 none)) rfl underlying72 rfl rfl sz3 rfl rfl) hp ?_
         obtain ⟨v_61, hc61, h⟩ := h
         refine gR 10 (.int .i64 v_61) rfl (r_load1 rfl rfl underlying3 rfl hc61) hp (fun S10 q10 => ?_)
         replace hp := holdC (i := 10) (q10 _ (r_load1 rfl rfl underlying3 rfl hc61)) hp
         refine gU 12 (.pointer (some (Addr.mk b5 0 none))) rfl (fun _ => w_fieldAddr (a' := (Addr.mk b5 0 none)) rfl underlying72 rfl rfl sz3 rfl rfl) hp ?_
         obtain ⟨v_64, hc64, h⟩ := h
         refine gR 13 (.int .i64 v_64) rfl (r_load1 rfl rfl underlying3 rfl hc64) hp (fun S13 q13 => ?_)
         replace hp := holdC (i := 13) (q13 _ (r_load1 rfl rfl underlying3 rfl hc64)) hp
         refine RG_eff1 (i := 11) (by kernel_rfl) (g_op (Sp' := [(13, S13), (5, S5)]) rfl rfl (k_call (vs := [(.agg v_59), (.int .i64 v_61)]) cb109 (evC rfl (evC rfl evN)) (h.mono ?_)))
         clear h; rintro v F ⟨v_62, rfl, h⟩
         obtain ⟨hk_11, hk_12, h⟩ := h
         refine holdI (holdC (i := 13) (q13 _ (r_load1 rfl rfl underlying3 rfl hk_11)) (holdC (i := 5) (q5 _ (r_load1 rfl rfl underlying3 rfl hk_12)) hold0)) (fun hp => ?_)
         refine gU 14 (.bool (decide (v_62 ≤ v_64))) rfl (fun _ => r_leq rfl rfl rfl) hp ?_
         refine gU 15 (.bool (decide (v_62 ≤ v_64))) rfl (fun _ => r_pick rfl rfl (fun h => by cases h) (fun _ => rfl)) hp ?_
         refine RG_done (by kernel_rfl) ?_
         refine HC_cond (t := (decide (v_62 ≤ v_64))) rfl (fun hc => ?_) (fun hc => ?_)
         ·
          replace h := h.1 (of_decide_eq_true hc)
          clear hc
          refine cR ?_
          refine sR (.bool false) (r_assign rfl rfl) ?_
          refine HL_nil ?_
          exact HC_ret (show endQ prog f101 R .ret _ _ from ⟨_, res1 rfl (rv_tmp rfl), h⟩)
         ·
          replace h := h.2 (of_decide_eq_false hc)
          clear hc
          refine HC_skip ?_
          refine HC_seqJ (b101J1 R) ?_ ?_
          ·
           clear h; rintro E F h
           unfold b101J1 at h; unfold b101j1 at h
           refine cR ?_
           refine sR (.bool true) (r_assign rfl rfl) ?_
           refine HL_nil ?_
           exact HC_ret (show endQ prog f101 R .ret _ _ from ⟨_, res1 rfl (rv_tmp rfl), h⟩)
          ·
           skip
           refine cR ?_
           refine sR (.int .i64 (0 : Int)) (r_assign rfl rfl) ?_
           refine HL_nil ?_
           refine HC_block ?_
           obtain ⟨I1, m1, hI0, hr⟩ := h
           refine HC_loop (fun m1 E F => ∃ i_6 : Int, E 1 = (.int .i64 n_1) ∧ E 2 = (.pointer (some (Addr.mk b2 0 none))) ∧ E 5 = (.pointer (some (Addr.mk b5 0 none))) ∧ E 6 = (.int .i64 i_6) ∧ I1 m1 i_6 F) m1 ⟨_, rfl, rfl, rfl, rfl, hI0⟩ ?_
           clear hI0; rintro m1 E F ⟨i_6, h1, h2, h5, h6, hI⟩
           have h := hr m1 i_6 F hI
           clear hr hI
           unfold b101L1 at h
           refine HC_seq ?_
           refine cR ?_
           refine sR (.int .i64 i_6) (r_move rfl h6) ?_
           refine sR (.int .i64 n_1) (r_move rfl h1) ?_
           refine sR (.bool (decide (i_6 < n_1))) (r_lss rfl rfl rfl) ?_
           refine HL_nil ?_
           refine HC_cond (t := (decide (i_6 < n_1))) rfl (fun hc => ?_) (fun hc => ?_)
           ·
            replace h := h.1 (of_decide_eq_true hc)
            clear hc
            refine HC_skip ?_
            refine HC_seq ?_
            refine HC_block ?_
            refine HC_seq ?_
            refine HC_draw0 (by kernel_rfl) (fun hp => ?_)
            refine gU 0 (.pointer (some (Addr.mk b2 0 none))) rfl (fun _ => w_fieldAddr (a' := (Addr.mk b2 0 none)) h2 underlying28 rfl rfl sz26 rfl rfl) hp ?_
            obtain ⟨v_73, hc73, h⟩ := h
            refine gR 1 (Sl.v v_73) rfl (r_load1 rfl rfl underlying26 rfl hc73) hp (fun S1 q1 => ?_)
            replace hp := holdC (i := 1) (q1 _ (r_load1 rfl rfl underlying26 rfl hc73)) hp
            refine gU 2 (.int .i64 i_6) rfl (fun _ => r_move rfl h6) hp ?_
            obtain ⟨a75_, hb75, hl75, hu75, h⟩ := h
            refine gU 3 (.pointer (some (Addr.add a75_ (Int.toNat i_6 * 3)))) rfl (fun _ => w_indexAddr rfl rfl underlying26 sz72 hb75 hl75 hu75) hp ?_
            obtain ⟨v_76, hs76, hc76, h⟩ := h
            refine gR 4 (.agg v_76) rfl (w_loadN rfl underlying72 rfl sz72 hs76 hc76) hp (fun S4 q4 => ?_)
            replace hp := holdC (i := 4) (q4 _ (w_loadN rfl underlying72 rfl sz72 hs76 hc76)) hp
            obtain ⟨v_77, hs77, hc77, h⟩ := h
            refine gR 5 (.agg v_77) rfl (w_loadN h5 underlying72 rfl sz72 hs77 hc77) hp (fun S5 q5 => ?_)
            replace hp := holdC (i := 5) (q5 _ (w_loadN h5 underlying72 rfl sz72 hs77 hc77)) hp
            obtain ⟨v_78, hx78, h⟩ := h
            refine gU 6 (.bool v_78) rfl (fun _ => r_eqlAg rfl rfl rfl eg72 (hx78 _)) hp ?_
            refine RG_done (by kernel_rfl) ?_
            refine HC_cond (t := v_78) rfl (fun hc => ?_) (fun hc => ?_)
            ·
             replace h := h.1 hc
             clear hc
             refine cR ?_
             refine sR (.bool false) (r_assign rfl rfl) ?_
             refine HL_nil ?_
             exact HC_ret (show endQ prog f101 R .ret _ _ from ⟨_, res1 rfl (rv_tmp rfl), h⟩)
            ·
             replace h := h.2 hc
             clear hc
             refine HC_skip ?_
             refine HC_region ?_
             refine sR (.int .i64 i_6) (r_move rfl h6) ?_
             refine sR (.int .i64 (IntKind.i64.wrap (i_6 + (1 : Int)))) (r_add rfl rfl rfl) ?_
             refine sR (.int .i64 (IntKind.i64.wrap (i_6 + (1 : Int)))) (r_assign rfl rfl) ?_
             refine HL_nil ?_
             obtain ⟨m', hm, h⟩ := h
             exact ⟨m', hm, _, h1, h2, h5, rfl, h⟩
           ·
            replace h := h.2 (of_decide_eq_false hc)
            clear hc
            refine HC_exit ?_
            exact h

/- 81 koine.koineref02.limited -/
def b81 (d_0 : Array Value) (R : Value → PH → Prop) (F : PH) : Prop :=
 ∀ b1, F b1 = none → atF (F.set b1 (.cells d_0 28)) fun F =>
 ∀ b2, F b2 = none → atF (F.set b2 (.cells (#[.slice none 0 0, .int .i64 0]) 28)) fun F =>
 ∃ v_5 : Sl, F.cell (Addr.mk b1 0 none) = some (Sl.v v_5) ∧
 (((4096 : Int) < (v_5.len : Int) →
  (#[.slice none 0 0, .int .i64 0] : Array Value).size = 2 ∧ (∀ v ∈ (#[.slice none 0 0, .int .i64 0] : Array Value).toList, storable v) ∧ ∃ c e, F (Addr.mk b2 0 none).block = some (.cells c e (0, 0)) ∧ (Addr.mk b2 0 none).spot = none ∧ (Addr.mk b2 0 none).off + 2 ≤ c.size ∧
  atF (F.set (Addr.mk b2 0 none).block (.cells (wr c (Addr.mk b2 0 none).off (#[.slice none 0 0, .int .i64 0] : Array Value).toList) e)) fun F =>
  ∃ vres_2 : Array Value, vres_2.size = 2 ∧ F.row (Addr.mk b2 0 none) vres_2 ∧ R (.tuple #[(.agg vres_2), (.int .i64 (2 : Int))]) F) ∧
 (¬ ((4096 : Int) < (v_5.len : Int)) →
  ∃ v_9 : Array Value, v_9.size = 2 ∧ F.row (Addr.mk b1 0 none) v_9 ∧
  v_9.size = 2 ∧ (∀ v ∈ v_9.toList, storable v) ∧ ∃ c e, F (Addr.mk b2 0 none).block = some (.cells c e (0, 0)) ∧ (Addr.mk b2 0 none).spot = none ∧ (Addr.mk b2 0 none).off + 2 ≤ c.size ∧
  atF (F.set (Addr.mk b2 0 none).block (.cells (wr c (Addr.mk b2 0 none).off v_9.toList) e)) fun F =>
  ∃ vres_2_1 : Array Value, vres_2_1.size = 2 ∧ F.row (Addr.mk b2 0 none) vres_2_1 ∧ R (.tuple #[(.agg vres_2_1), (.int .i64 (0 : Int))]) F))
theorem c81 {d_0 : Array Value} {R : Value → PH → Prop} {F : PH} (h : b81 d_0 R F) : Spec prog 81 #[(.agg d_0)] F R := by
 refine spec_of (args := [(.agg d_0)]) func81 rfl ntmps81 rfl ?_
 unfold b81 at h
 refine cR ?_
 refine s_ef (k_box (cs := d_0) rfl rfl ?_)
 intro b1 hf_b1
 replace h := atE (h b1 hf_b1)
 refine s_ef (k_alloc zr28 ?_)
 intro b2 hf_b2
 replace h := atE (h b2 hf_b2)
 refine sR (.int .i64 (0 : Int)) (r_assign rfl rfl) ?_
 refine HL_nil ?_
 refine HC_seq ?_
 refine cR ?_
 refine sR (.pointer (some (Addr.mk b1 0 none))) (w_fieldAddr (a' := (Addr.mk b1 0 none)) rfl underlying28 rfl rfl sz26 rfl rfl) ?_
 obtain ⟨v_5, hc5, h⟩ := h
 refine sR (Sl.v v_5) (r_load1 rfl rfl underlying26 rfl hc5) ?_
 refine sR (.int .i64 (v_5.len : Int)) (r_lenSl rfl rfl underlying26) ?_
 refine sR (.bool (decide ((4096 : Int) < (v_5.len : Int)))) (r_gtr rfl rfl rfl) ?_
 refine HL_nil ?_
 refine HC_cond (t := (decide ((4096 : Int) < (v_5.len : Int)))) rfl (fun hc => ?_) (fun hc => ?_)
 ·
  replace h := h.1 (of_decide_eq_true hc)
  clear hc
  refine cR ?_
  refine sR (.agg (#[.slice none 0 0, .int .i64 0] : Array Value)) (w_buildStruct (cells := #[.slice none 0 0, .int .i64 0]) underlying28 zr28 kf28 (evPN) (fillN rfl)) ?_
  refine s_ef0 (k_storeN (vs := (#[.slice none 0 0, .int .i64 0] : Array Value)) rfl rfl sz28 (by decide) ?_)
  obtain ⟨hz1, hz2, c, e, hz3, hz4, hz5, h⟩ := h
  refine ⟨hz1, hz2, c, e, hz3, hz4, hz5, ?_⟩
  replace h := atE h
  refine sR (.int .i64 (2 : Int)) (r_assign rfl rfl) ?_
  refine HL_nil ?_
  obtain ⟨vres_2, hs2, hr2, h⟩ := h
  exact HC_ret (show endQ prog f81 R .ret _ _ from ⟨_, res2 rfl (rv_cellN rfl underlying28 rfl sz28 hs2 hr2) (rv_tmp rfl), h⟩)
 ·
  replace h := h.2 (of_decide_eq_false hc)
  clear hc
  refine HC_skip ?_
  refine cR ?_
  obtain ⟨v_9, hs9, hc9, h⟩ := h
  refine sR (.agg v_9) (w_loadN rfl underlying28 rfl sz28 hs9 hc9) ?_
  refine s_ef0 (k_storeN (vs := v_9) rfl rfl sz28 (by decide) ?_)
  obtain ⟨hz1, hz2, c, e, hz3, hz4, hz5, h⟩ := h
  refine ⟨hz1, hz2, c, e, hz3, hz4, hz5, ?_⟩
  replace h := atE h
  refine sR (.int .i64 (0 : Int)) (r_assign rfl rfl) ?_
  refine HL_nil ?_
  obtain ⟨vres_2_1, hs2, hr2, h⟩ := h
  exact HC_ret (show endQ prog f81 R .ret _ _ from ⟨_, res2 rfl (rv_cellN rfl underlying28 rfl sz28 hs2 hr2) (rv_tmp rfl), h⟩)

end Go.Proofs.Ytafojmoeaneedaa
