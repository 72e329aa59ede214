/-
  What functions of the program do, in a clean form, each with the proof that its code does so. Printed by a program.
-/
import Derived.Test.YthnolhcknhhipaaGf
namespace Go.Proofs.Ythnolhcknhhipaa
open Go Go.Proofs.Try
set_option maxRecDepth 10000
/- 18 koine.koineref34.Same -/
def b18j1 (R : Value → PH → Prop) (F : PH) : Prop :=
  R (Value.bool true) F
abbrev b18J1 (R : Value → PH → Prop) (E : En) (F : PH) : Prop := b18j1 R F
def b18L1 (N1 : Int → PH → Prop) (a_0 : Sl) (b_1 : Sl) (R : Value → PH → Prop) (i_5 : Int) (F : PH) : Prop :=
  ((i_5 < (a_0.len : Int) →
    ∃ a19_ : Addr, a_0.base = some a19_ ∧ 0 ≤ i_5 ∧ i_5 < (a_0.len : Int) ∧
    ∃ v_20 : Int, F.cell (Addr.add a19_ (Int.toNat i_5 * 1)) = some (Value.int .u8 v_20) ∧
    ∃ a23_ : Addr, b_1.base = some a23_ ∧ 0 ≤ i_5 ∧ i_5 < (b_1.len : Int) ∧
    ∃ v_24 : Int, F.cell (Addr.add a23_ (Int.toNat i_5 * 1)) = some (Value.int .u8 v_24) ∧
    ((v_20 ≠ v_24 →
      R (Value.bool false) F) ∧
    (¬ (v_20 ≠ v_24) →
      N1 (IntKind.i64.wrap (i_5 + (1 : Int))) F))) ∧
  (¬ (i_5 < (a_0.len : Int)) →
    b18j1 R F))
def b18 (a_0 : Sl) (b_1 : Sl) (R : Value → PH → Prop) (F : PH) : Prop :=
  (((a_0.len : Int) ≠ (b_1.len : Int) →
    R (Value.bool false) F) ∧
  (¬ ((a_0.len : Int) ≠ (b_1.len : Int)) →
    (∃ (I1 : Nat → Int → PH → Prop) (m1 : Nat), I1 m1 (0 : Int) F ∧ ∀ m1 i_5 F, I1 m1 i_5 F →
      b18L1 (fun i_5 F => ∃ m', m' < m1 ∧ I1 m' i_5 F) a_0 b_1 R i_5 F)))
theorem c18 {a_0 : Sl} {b_1 : Sl} {R : Value → PH → Prop} {F : PH} (h : b18 a_0 b_1 R F) : Spec prog 18 #[(Sl.v a_0), (Sl.v b_1)] F R := by
  refine spec_of (args := [(Sl.v a_0), (Sl.v b_1)]) func18 rfl ntmps18 rfl ?_
  unfold b18 at h
  refine HC_seq ?_
  refine HC_region ?_
  refine s_rd (v := (Value.bool false)) (r_assign rfl rfl) ?_
  refine HL_nil ?_
  refine HC_seq ?_
  refine HC_seq ?_
  refine HC_region ?_
  refine s_rd (v := (Sl.v a_0)) (r_move rfl rfl) ?_
  refine s_rd (v := (Value.int .i64 (a_0.len : Int))) (r_lenSl rfl rfl underlying26) ?_
  refine s_rd (v := (Sl.v b_1)) (r_move rfl rfl) ?_
  refine s_rd (v := (Value.int .i64 (b_1.len : Int))) (r_lenSl rfl rfl underlying26) ?_
  refine s_rd (v := (Value.bool (decide ((a_0.len : Int) ≠ (b_1.len : Int))))) (w_neq rfl rfl) ?_
  refine HL_nil ?_
  refine HC_cond (t := (decide ((a_0.len : Int) ≠ (b_1.len : Int)))) rfl (fun hc => ?_) (fun hc => ?_)
  · replace h := h.1 (of_decide_eq_true hc)
    clear hc
    refine HC_seq ?_
    refine HC_region ?_
    refine s_rd (v := (Value.bool false)) (r_assign rfl rfl) ?_
    refine HL_nil ?_
    exact HC_ret (show endQ prog f18 R .ret _ _ from ⟨_, res1 rfl (rv_tmp rfl), h⟩)
  · replace h := h.2 (of_decide_eq_false hc)
    clear hc
    refine HC_skip ?_
    refine HC_seqJ (b18J1 R) ?_ ?_
    · clear h; rintro E F h
      unfold b18J1 at h; unfold b18j1 at h
      refine HC_seq ?_
      refine HC_region ?_
      refine s_rd (v := (Value.bool true)) (r_assign rfl rfl) ?_
      refine HL_nil ?_
      exact HC_ret (show endQ prog f18 R .ret _ _ from ⟨_, res1 rfl (rv_tmp rfl), h⟩)
    · skip
      refine HC_seq ?_
      refine HC_region ?_
      refine s_rd (v := (Value.int .i64 (0 : Int))) (r_assign rfl rfl) ?_
      refine HL_nil ?_
      refine HC_block ?_
      obtain ⟨I1, m1, hI0, hr⟩ := h
      refine HC_loop (fun m1 E F => ∃ i_5 : Int, E 0 = (Sl.v a_0) ∧ E 1 = (Sl.v b_1) ∧ E 5 = (Value.int .i64 i_5) ∧ I1 m1 i_5 F) m1 ⟨_, rfl, rfl, rfl, hI0⟩ ?_
      clear hI0; rintro m1 E F ⟨i_5, h0, h1, h5, hI⟩
      have h := hr m1 i_5 F hI
      clear hr hI
      unfold b18L1 at h
      refine HC_seq ?_
      refine HC_seq ?_
      refine HC_region ?_
      refine s_rd (v := (Value.int .i64 i_5)) (r_move rfl h5) ?_
      refine s_rd (v := (Sl.v a_0)) (r_move rfl h0) ?_
      refine s_rd (v := (Value.int .i64 (a_0.len : Int))) (r_lenSl rfl rfl underlying26) ?_
      refine s_rd (v := (Value.bool (decide (i_5 < (a_0.len : Int))))) (r_lss rfl rfl rfl) ?_
      refine HL_nil ?_
      refine HC_cond (t := (decide (i_5 < (a_0.len : Int)))) rfl (fun hc => ?_) (fun hc => ?_)
      · replace h := h.1 (of_decide_eq_true hc)
        clear hc
        refine HC_skip ?_
        refine HC_seq ?_
        refine HC_block ?_
        refine HC_seq ?_
        refine HC_draw0 (by kernel_rfl) (fun hp => ?_)
        refine g_pu (i := 0) (v := (Sl.v a_0)) rfl (by kernel_rfl) (by kernel_rfl) (by kernel_rfl) (fun _ _ _ h => h) (fun _ => r_move rfl h0) hp ?_
        refine g_pu (i := 1) (v := (Value.int .i64 i_5)) rfl (by kernel_rfl) (by kernel_rfl) (by kernel_rfl) (fun _ _ _ h => h) (fun _ => r_move rfl h5) hp ?_
        obtain ⟨a19_, hb19, hl19, hu19, h⟩ := h
        refine g_pu (i := 2) (v := (Value.pointer (some (Addr.add a19_ (Int.toNat i_5 * 1))))) rfl (by kernel_rfl) (by kernel_rfl) (by kernel_rfl) (fun _ _ _ h => h) (fun _ => w_indexAddr rfl rfl underlying26 sz5 hb19 hl19 hu19) hp ?_
        obtain ⟨v_20, hc20, h⟩ := h
        refine g_rd (i := 3) (v := (Value.int .u8 v_20)) rfl (by kernel_rfl) (by kernel_rfl) (by kernel_rfl) (fun _ _ _ h => h) (r_load1 rfl rfl underlying5 rfl hc20) hp (fun S3 q3 => ?_)
        replace hp := holdC (i := 3) (q3 _ (r_load1 rfl rfl underlying5 rfl hc20)) hp
        refine g_pu (i := 4) (v := (Sl.v b_1)) rfl (by kernel_rfl) (by kernel_rfl) (by kernel_rfl) (fun _ _ _ h => h) (fun _ => r_move rfl h1) hp ?_
        refine g_pu (i := 5) (v := (Value.int .i64 i_5)) rfl (by kernel_rfl) (by kernel_rfl) (by kernel_rfl) (fun _ _ _ h => h) (fun _ => r_move rfl h5) hp ?_
        obtain ⟨a23_, hb23, hl23, hu23, h⟩ := h
        refine g_pu (i := 6) (v := (Value.pointer (some (Addr.add a23_ (Int.toNat i_5 * 1))))) rfl (by kernel_rfl) (by kernel_rfl) (by kernel_rfl) (fun _ _ _ h => h) (fun _ => w_indexAddr rfl rfl underlying26 sz5 hb23 hl23 hu23) hp ?_
        obtain ⟨v_24, hc24, h⟩ := h
        refine g_rd (i := 7) (v := (Value.int .u8 v_24)) rfl (by kernel_rfl) (by kernel_rfl) (by kernel_rfl) (fun _ _ _ h => h) (r_load1 rfl rfl underlying5 rfl hc24) hp (fun S7 q7 => ?_)
        replace hp := holdC (i := 7) (q7 _ (r_load1 rfl rfl underlying5 rfl hc24)) hp
        refine g_pu (i := 8) (v := (Value.bool (decide (v_20 ≠ v_24)))) rfl (by kernel_rfl) (by kernel_rfl) (by kernel_rfl) (fun _ _ _ h => h) (fun _ => w_neq rfl rfl) hp ?_
        refine RG_done (by kernel_rfl) ?_
        refine HC_cond (t := (decide (v_20 ≠ v_24))) rfl (fun hc => ?_) (fun hc => ?_)
        · replace h := h.1 (of_decide_eq_true hc)
          clear hc
          refine HC_seq ?_
          refine HC_region ?_
          refine s_rd (v := (Value.bool false)) (r_assign rfl rfl) ?_
          refine HL_nil ?_
          exact HC_ret (show endQ prog f18 R .ret _ _ from ⟨_, res1 rfl (rv_tmp rfl), h⟩)
        · replace h := h.2 (of_decide_eq_false hc)
          clear hc
          refine HC_skip ?_
          refine HC_region ?_
          refine s_rd (v := (Value.int .i64 i_5)) (r_move rfl h5) ?_
          refine s_rd (v := (Value.int .i64 (IntKind.i64.wrap (i_5 + (1 : Int))))) (r_add rfl rfl rfl) ?_
          refine s_rd (v := (Value.int .i64 (IntKind.i64.wrap (i_5 + (1 : Int))))) (r_assign rfl rfl) ?_
          refine HL_nil ?_
          obtain ⟨m', hm, h⟩ := h
          exact ⟨m', hm, _, h0, h1, rfl, h⟩
      · replace h := h.2 (of_decide_eq_false hc)
        clear hc
        refine HC_exit ?_
        exact h

/- 22 koine.koineref34.New -/
def b22j1 (b2 : Nat) (b4 : Nat) (R : Value → PH → Prop) (F : PH) : Prop :=
  ∃ v_24 : Array Value, v_24.size = 5 ∧ F.row (Addr.mk b4 0 none) v_24 ∧
  v_24.size = 5 ∧ (∀ v ∈ v_24.toList, storable v) ∧ ∃ c e, F (Addr.mk b2 0 none).block = some (.cells c e (0, 0)) ∧ (Addr.mk b2 0 none).spot = none ∧ (Addr.mk b2 0 none).off + 5 ≤ c.size ∧
  atF (F.set (Addr.mk b2 0 none).block (.cells (wr c (Addr.mk b2 0 none).off v_24.toList) e)) fun F =>
  ∃ vres_2_2 : Array Value, vres_2_2.size = 5 ∧ F.row (Addr.mk b2 0 none) vres_2_2 ∧ R (Value.tuple #[(Value.agg vres_2_2), (Value.int .i64 (0 : Int))]) F
abbrev b22J1 (b2 : Nat) (b4 : Nat) (R : Value → PH → Prop) (E : En) (F : PH) : Prop := E 2 = (Value.pointer (some (Addr.mk b2 0 none))) ∧ E 4 = (Value.pointer (some (Addr.mk b4 0 none))) ∧ b22j1 b2 b4 R F
def b22L1 (N1 : Int → PH → Prop) (sectors_0 : Int) (b2 : Nat) (b4 : Nat) (R : Value → PH → Prop) (i_5 : Int) (F : PH) : Prop :=
  ((i_5 < sectors_0 →
    ∃ v_19 : Sl, F.cell (Addr.mk b4 0 none) = some (Sl.v v_19) ∧
    runs prog (Instr.makeSlice 26 (Value.int .i64 (64 : Int)) (Value.int .i64 (64 : Int))) F fun v F => ∃ v_20 : Sl, v = (Sl.v v_20) ∧
    F.cell (Addr.mk b4 0 none) = some (Sl.v v_19) ∧ ∀ b21, F b21 = none → atF (F.set b21 (.cells #[(Sl.v v_20)] 26)) fun F =>
    runs prog (Builtin.append_ #[45, 45] 45 #[(Sl.v v_19), (Sl.v (Sl.mk (some (Addr.mk b21 0 none)) 1 1))]) F fun v F => ∃ v_22 : Sl, v = (Sl.v v_22) ∧
    ∃ c e, F (Addr.mk b4 0 none).block = some (.cells c e (0, 0)) ∧ (Addr.mk b4 0 none).spot = none ∧ (Addr.mk b4 0 none).off < c.size ∧
    atF (F.set (Addr.mk b4 0 none).block (.cells (c.setIfInBounds (Addr.mk b4 0 none).off (Sl.v v_22)) e)) fun F =>
    N1 (IntKind.i64.wrap (i_5 + (1 : Int))) F) ∧
  (¬ (i_5 < sectors_0) →
    b22j1 b2 b4 R F))
def b22 (sectors_0 : Int) (R : Value → PH → Prop) (F : PH) : Prop :=
  ∀ b2, F b2 = none → atF (F.set b2 (.cells (#[Value.slice none 0 0, Value.slice none 0 0, Value.bool false, Value.int .i64 0, Value.slice none 0 0]) 48)) fun F =>
  ((sectors_0 < (1 : Int) →
    (#[Value.slice none 0 0, Value.slice none 0 0, Value.bool false, Value.int .i64 0, Value.slice none 0 0] : Array Value).size = 5 ∧ (∀ v ∈ (#[Value.slice none 0 0, Value.slice none 0 0, Value.bool false, Value.int .i64 0, Value.slice none 0 0] : Array Value).toList, storable v) ∧ ∃ c e, F (Addr.mk b2 0 none).block = some (.cells c e (0, 0)) ∧ (Addr.mk b2 0 none).spot = none ∧ (Addr.mk b2 0 none).off + 5 ≤ c.size ∧
    atF (F.set (Addr.mk b2 0 none).block (.cells (wr c (Addr.mk b2 0 none).off (#[Value.slice none 0 0, Value.slice none 0 0, Value.bool false, Value.int .i64 0, Value.slice none 0 0] : Array Value).toList) e)) fun F =>
    ∃ vres_2 : Array Value, vres_2.size = 5 ∧ F.row (Addr.mk b2 0 none) vres_2 ∧ R (Value.tuple #[(Value.agg vres_2), (Value.int .i64 (1 : Int))]) F) ∧
  (¬ (sectors_0 < (1 : Int)) →
    (((65536 : Int) < sectors_0 →
      (#[Value.slice none 0 0, Value.slice none 0 0, Value.bool false, Value.int .i64 0, Value.slice none 0 0] : Array Value).size = 5 ∧ (∀ v ∈ (#[Value.slice none 0 0, Value.slice none 0 0, Value.bool false, Value.int .i64 0, Value.slice none 0 0] : Array Value).toList, storable v) ∧ ∃ c e, F (Addr.mk b2 0 none).block = some (.cells c e (0, 0)) ∧ (Addr.mk b2 0 none).spot = none ∧ (Addr.mk b2 0 none).off + 5 ≤ c.size ∧
      atF (F.set (Addr.mk b2 0 none).block (.cells (wr c (Addr.mk b2 0 none).off (#[Value.slice none 0 0, Value.slice none 0 0, Value.bool false, Value.int .i64 0, Value.slice none 0 0] : Array Value).toList) e)) fun F =>
      ∃ vres_2_1 : Array Value, vres_2_1.size = 5 ∧ F.row (Addr.mk b2 0 none) vres_2_1 ∧ R (Value.tuple #[(Value.agg vres_2_1), (Value.int .i64 (2 : Int))]) F) ∧
    (¬ ((65536 : Int) < sectors_0) →
      ∀ b4, F b4 = none → atF (F.set b4 (.cells (#[Value.slice none 0 0, Value.slice none 0 0, Value.bool false, Value.int .i64 0, Value.slice none 0 0]) 48)) fun F =>
      (#[Value.slice none 0 0, Value.slice none 0 0, Value.bool false, Value.int .i64 0, Value.slice none 0 0] : Array Value).size = 5 ∧ (∀ v ∈ (#[Value.slice none 0 0, Value.slice none 0 0, Value.bool false, Value.int .i64 0, Value.slice none 0 0] : Array Value).toList, storable v) ∧ ∃ c e, F (Addr.mk b4 0 none).block = some (.cells c e (0, 0)) ∧ (Addr.mk b4 0 none).spot = none ∧ (Addr.mk b4 0 none).off + 5 ≤ c.size ∧
      atF (F.set (Addr.mk b4 0 none).block (.cells (wr c (Addr.mk b4 0 none).off (#[Value.slice none 0 0, Value.slice none 0 0, Value.bool false, Value.int .i64 0, Value.slice none 0 0] : Array Value).toList) e)) fun F =>
      (∃ (I1 : Nat → Int → PH → Prop) (m1 : Nat), I1 m1 (0 : Int) F ∧ ∀ m1 i_5 F, I1 m1 i_5 F →
        b22L1 (fun i_5 F => ∃ m', m' < m1 ∧ I1 m' i_5 F) sectors_0 b2 b4 R i_5 F)))))
theorem c22 {sectors_0 : Int} {R : Value → PH → Prop} {F : PH} (h : b22 sectors_0 R F) : Spec prog 22 #[(Value.int .i64 sectors_0)] F R := by
  refine spec_of (args := [(Value.int .i64 sectors_0)]) func22 rfl ntmps22 rfl ?_
  unfold b22 at h
  refine HC_seq ?_
  refine HC_region ?_
  refine s_ef (k_alloc zr48 ?_)
  intro b2 hf_b2
  replace h := atE (h b2 hf_b2)
  refine s_rd (v := (Value.int .i64 (0 : Int))) (r_assign rfl rfl) ?_
  refine HL_nil ?_
  refine HC_seq ?_
  refine HC_seq ?_
  refine HC_region ?_
  refine s_rd (v := (Value.int .i64 sectors_0)) (r_move rfl rfl) ?_
  refine s_rd (v := (Value.bool (decide (sectors_0 < (1 : Int))))) (r_lss rfl rfl rfl) ?_
  refine HL_nil ?_
  refine HC_cond (t := (decide (sectors_0 < (1 : Int)))) rfl (fun hc => ?_) (fun hc => ?_)
  · replace h := h.1 (of_decide_eq_true hc)
    clear hc
    refine HC_seq ?_
    refine HC_region ?_
    refine s_rd (v := (Value.agg (#[Value.slice none 0 0, Value.slice none 0 0, Value.bool false, Value.int .i64 0, Value.slice none 0 0] : Array Value))) (w_buildStruct (cells := #[Value.slice none 0 0, Value.slice none 0 0, Value.bool false, Value.int .i64 0, Value.slice none 0 0]) underlying48 zr48 kf48 (evPN) (fillN rfl)) ?_
    refine s_ef0 (k_storeN (vs := (#[Value.slice none 0 0, Value.slice none 0 0, Value.bool false, Value.int .i64 0, Value.slice none 0 0] : Array Value)) rfl rfl sz48 (by decide) ?_)
    obtain ⟨hz1, hz2, c, e, hz3, hz4, hz5, h⟩ := h
    refine ⟨hz1, hz2, c, e, hz3, hz4, hz5, ?_⟩
    replace h := atE h
    refine s_rd (v := (Value.int .i64 (1 : Int))) (r_assign rfl rfl) ?_
    refine HL_nil ?_
    obtain ⟨vres_2, hs2, hr2, h⟩ := h
    exact HC_ret (show endQ prog f22 R .ret _ _ from ⟨_, res2 rfl (rv_cellN rfl underlying48 rfl sz48 hs2 hr2) (rv_tmp rfl), h⟩)
  · replace h := h.2 (of_decide_eq_false hc)
    clear hc
    refine HC_skip ?_
    refine HC_seq ?_
    refine HC_seq ?_
    refine HC_region ?_
    refine s_rd (v := (Value.int .i64 sectors_0)) (r_move rfl rfl) ?_
    refine s_rd (v := (Value.bool (decide ((65536 : Int) < sectors_0)))) (r_gtr rfl rfl rfl) ?_
    refine HL_nil ?_
    refine HC_cond (t := (decide ((65536 : Int) < sectors_0))) rfl (fun hc => ?_) (fun hc => ?_)
    · replace h := h.1 (of_decide_eq_true hc)
      clear hc
      refine HC_seq ?_
      refine HC_region ?_
      refine s_rd (v := (Value.agg (#[Value.slice none 0 0, Value.slice none 0 0, Value.bool false, Value.int .i64 0, Value.slice none 0 0] : Array Value))) (w_buildStruct (cells := #[Value.slice none 0 0, Value.slice none 0 0, Value.bool false, Value.int .i64 0, Value.slice none 0 0]) underlying48 zr48 kf48 (evPN) (fillN rfl)) ?_
      refine s_ef0 (k_storeN (vs := (#[Value.slice none 0 0, Value.slice none 0 0, Value.bool false, Value.int .i64 0, Value.slice none 0 0] : Array Value)) rfl rfl sz48 (by decide) ?_)
      obtain ⟨hz1, hz2, c, e, hz3, hz4, hz5, h⟩ := h
      refine ⟨hz1, hz2, c, e, hz3, hz4, hz5, ?_⟩
      replace h := atE h
      refine s_rd (v := (Value.int .i64 (2 : Int))) (r_assign rfl rfl) ?_
      refine HL_nil ?_
      obtain ⟨vres_2_1, hs2, hr2, h⟩ := h
      exact HC_ret (show endQ prog f22 R .ret _ _ from ⟨_, res2 rfl (rv_cellN rfl underlying48 rfl sz48 hs2 hr2) (rv_tmp rfl), h⟩)
    · replace h := h.2 (of_decide_eq_false hc)
      clear hc
      refine HC_skip ?_
      refine HC_seq ?_
      refine HC_region ?_
      refine s_rd (v := (Value.agg (#[Value.slice none 0 0, Value.slice none 0 0, Value.bool false, Value.int .i64 0, Value.slice none 0 0] : Array Value))) (w_buildStruct (cells := #[Value.slice none 0 0, Value.slice none 0 0, Value.bool false, Value.int .i64 0, Value.slice none 0 0]) underlying48 zr48 kf48 (evPN) (fillN rfl)) ?_
      refine s_ef (k_alloc zr48 ?_)
      intro b4 hf_b4
      replace h := atE (h b4 hf_b4)
      refine s_ef0 (k_storeN (vs := (#[Value.slice none 0 0, Value.slice none 0 0, Value.bool false, Value.int .i64 0, Value.slice none 0 0] : Array Value)) rfl rfl sz48 (by decide) ?_)
      obtain ⟨hz1, hz2, c, e, hz3, hz4, hz5, h⟩ := h
      refine ⟨hz1, hz2, c, e, hz3, hz4, hz5, ?_⟩
      replace h := atE h
      refine HL_nil ?_
      refine HC_seqJ (b22J1 b2 b4 R) ?_ ?_
      · clear h; rintro E F ⟨h2, h4, h⟩
        unfold b22j1 at h
        refine HC_seq ?_
        refine HC_region ?_
        obtain ⟨v_24, hs24, hc24, h⟩ := h
        refine s_rd (v := (Value.agg v_24)) (w_loadN h4 underlying48 rfl sz48 hs24 hc24) ?_
        refine s_ef0 (k_storeN (vs := v_24) h2 rfl sz48 (by decide) ?_)
        obtain ⟨hz1, hz2, c, e, hz3, hz4, hz5, h⟩ := h
        refine ⟨hz1, hz2, c, e, hz3, hz4, hz5, ?_⟩
        replace h := atE h
        refine s_rd (v := (Value.int .i64 (0 : Int))) (r_assign rfl rfl) ?_
        refine HL_nil ?_
        obtain ⟨vres_2_2, hs2, hr2, h⟩ := h
        exact HC_ret (show endQ prog f22 R .ret _ _ from ⟨_, res2 rfl (rv_cellN h2 underlying48 rfl sz48 hs2 hr2) (rv_tmp rfl), h⟩)
      · skip
        refine HC_seq ?_
        refine HC_region ?_
        refine s_rd (v := (Value.int .i64 (0 : Int))) (r_assign rfl rfl) ?_
        refine HL_nil ?_
        refine HC_block ?_
        obtain ⟨I1, m1, hI0, hr⟩ := h
        refine HC_loop (fun m1 E F => ∃ i_5 : Int, E 0 = (Value.int .i64 sectors_0) ∧ E 2 = (Value.pointer (some (Addr.mk b2 0 none))) ∧ E 4 = (Value.pointer (some (Addr.mk b4 0 none))) ∧ E 5 = (Value.int .i64 i_5) ∧ I1 m1 i_5 F) m1 ⟨_, rfl, rfl, rfl, rfl, hI0⟩ ?_
        clear hI0; rintro m1 E F ⟨i_5, h0, h2, h4, h5, hI⟩
        have h := hr m1 i_5 F hI
        clear hr hI
        unfold b22L1 at h
        refine HC_seq ?_
        refine HC_seq ?_
        refine HC_region ?_
        refine s_rd (v := (Value.int .i64 i_5)) (r_move rfl h5) ?_
        refine s_rd (v := (Value.int .i64 sectors_0)) (r_move rfl h0) ?_
        refine s_rd (v := (Value.bool (decide (i_5 < sectors_0)))) (r_lss rfl rfl rfl) ?_
        refine HL_nil ?_
        refine HC_cond (t := (decide (i_5 < sectors_0))) rfl (fun hc => ?_) (fun hc => ?_)
        · replace h := h.1 (of_decide_eq_true hc)
          clear hc
          refine HC_skip ?_
          refine HC_seq ?_
          refine HC_block ?_
          refine HC_draw0 (by kernel_rfl) (fun hp => ?_)
          refine g_pu (i := 0) (v := (Value.pointer (some (Addr.mk b4 0 none)))) rfl (by kernel_rfl) (by kernel_rfl) (by kernel_rfl) (fun _ _ _ h => h) (fun _ => w_fieldAddr (a' := (Addr.mk b4 0 none)) h4 underlying48 rfl rfl sz45 rfl rfl) hp ?_
          obtain ⟨v_19, hc19, h⟩ := h
          refine g_rd (i := 1) (v := (Sl.v v_19)) rfl (by kernel_rfl) (by kernel_rfl) (by kernel_rfl) (fun _ _ _ h => h) (r_load1 rfl rfl underlying45 rfl hc19) hp (fun S1 q1 => ?_)
          replace hp := holdC (i := 1) (q1 _ (r_load1 rfl rfl underlying45 rfl hc19)) hp
          refine RG_eff1 (i := 2) (by kernel_rfl) (g_op (Sp' := [(1, S1)]) rfl rfl (k_makeSlice rfl rfl (runs_mono _ _ h ?_)))
          clear h; rintro v F ⟨v_20, rfl, h⟩
          obtain ⟨hc19', h⟩ := h
          refine holdI (holdC (i := 1) (q1 _ (r_load1 rfl rfl underlying45 rfl hc19')) hold0) (fun hp => ?_)
          refine RG_eff1 (i := 3) (by kernel_rfl) (g_op (Sp' := [(1, S1)]) rfl rfl (k_buildSeq (l := [(Sl.v v_20)]) underlying45 sz26 (by decide) zr26 rfl rfl ⟨rfl, trivial⟩ (evPC rfl evPN) ?_))
          intro b21 hf_b21
          replace h := atE (h b21 hf_b21)
          refine holdI (holdC (i := 1) (q1 _ (r_load1 rfl rfl underlying45 rfl (cell_set_fresh hf_b21 hc19'))) hold0) (fun hp => ?_)
          refine RG_eff1 (i := 4) (by kernel_rfl) (g_op (Sp' := []) rfl rfl (k_append rfl rfl (runs_mono _ _ h ?_)))
          clear h; rintro v F ⟨v_22, rfl, h⟩
          refine holdI hold0 (fun hp => ?_)
          refine g_pu (i := 5) (v := (Value.pointer (some (Addr.mk b4 0 none)))) rfl (by kernel_rfl) (by kernel_rfl) (by kernel_rfl) (fun _ _ _ h => h) (fun _ => w_fieldAddr (a' := (Addr.mk b4 0 none)) h4 underlying48 rfl rfl sz45 rfl rfl) hp ?_
          refine RG_eff1 (i := 6) (by kernel_rfl) (g_op0 (Sp' := []) rfl rfl (k_store1 (v := (Sl.v v_22)) rfl rfl sz45 rfl st_sl ?_))
          obtain ⟨c, e, hz3, hz4, hz5, h⟩ := h
          refine ⟨c, e, hz3, hz4, hz5, ?_⟩
          replace h := atE h
          refine holdI hold0 (fun hp => ?_)
          refine RG_done (by kernel_rfl) ?_
          refine HC_region ?_
          refine s_rd (v := (Value.int .i64 i_5)) (r_move rfl h5) ?_
          refine s_rd (v := (Value.int .i64 (IntKind.i64.wrap (i_5 + (1 : Int))))) (r_add rfl rfl rfl) ?_
          refine s_rd (v := (Value.int .i64 (IntKind.i64.wrap (i_5 + (1 : Int))))) (r_assign rfl rfl) ?_
          refine HL_nil ?_
          obtain ⟨m', hm, h⟩ := h
          exact ⟨m', hm, _, h0, h2, h4, rfl, h⟩
        · replace h := h.2 (of_decide_eq_false hc)
          clear hc
          refine HC_exit ?_
          show b22J1 b2 b4 R _ _
          exact ⟨h2, h4, h⟩

/- 24 (koine.koineref34.State).Do -/
def b24j1 (b2 : Nat) (b3 : Nat) (b4 : Nat) (v_37 : Bool) (R : Value → PH → Prop) (F : PH) : Prop :=
  ((v_37 = true →
    ∃ v_40 : Array Value, v_40.size = 5 ∧ F.row (Addr.mk b2 0 none) v_40 ∧
    v_40.size = 5 ∧ (∀ v ∈ v_40.toList, storable v) ∧ ∃ c e, F (Addr.mk b4 0 none).block = some (.cells c e (0, 0)) ∧ (Addr.mk b4 0 none).spot = none ∧ (Addr.mk b4 0 none).off + 5 ≤ c.size ∧
    atF (F.set (Addr.mk b4 0 none).block (.cells (wr c (Addr.mk b4 0 none).off v_40.toList) e)) fun F =>
    ∃ vres_4_4 : Array Value, vres_4_4.size = 5 ∧ F.row (Addr.mk b4 0 none) vres_4_4 ∧ R (Value.tuple #[(Value.agg vres_4_4), (Value.int .i64 (0 : Int))]) F) ∧
  (v_37 = false →
    ∃ v_41 : Array Value, v_41.size = 5 ∧ F.row (Addr.mk b2 0 none) v_41 ∧
    ∃ v_43 : Int, F.cell (Addr.mk b3 1 none) = some (Value.int .i64 v_43) ∧
    ∃ v_44 : Array Value, v_44.size = 5 ∧ F.row (Addr.mk b3 0 none) v_44 ∧
    Spec prog 28 #[(Value.agg v_44)] F fun v F => ∃ v_45 : Sl, v = (Sl.v v_45) ∧
    F.cell (Addr.mk b3 1 none) = some (Value.int .i64 v_43) ∧ F.row (Addr.mk b2 0 none) v_41 ∧ Spec prog 34 #[(Value.agg v_41), (Value.int .i64 v_43), (Sl.v v_45)] F fun v F => ∃ v_46 : Array Value, ∃ v_46_1 : Int, v = (Value.tuple #[(Value.agg v_46), (Value.int .i64 v_46_1)]) ∧
    v_46.size = 5 ∧ (∀ v ∈ v_46.toList, storable v) ∧ ∃ c e, F (Addr.mk b4 0 none).block = some (.cells c e (0, 0)) ∧ (Addr.mk b4 0 none).spot = none ∧ (Addr.mk b4 0 none).off + 5 ≤ c.size ∧
    atF (F.set (Addr.mk b4 0 none).block (.cells (wr c (Addr.mk b4 0 none).off v_46.toList) e)) fun F =>
    ∃ vres_4_5 : Array Value, vres_4_5.size = 5 ∧ F.row (Addr.mk b4 0 none) vres_4_5 ∧ R (Value.tuple #[(Value.agg vres_4_5), (Value.int .i64 v_46_1)]) F))
abbrev b24J1 (b2 : Nat) (b3 : Nat) (b4 : Nat) (R : Value → PH → Prop) (E : En) (F : PH) : Prop := ∃ v_37 : Bool, E 2 = (Value.pointer (some (Addr.mk b2 0 none))) ∧ E 3 = (Value.pointer (some (Addr.mk b3 0 none))) ∧ E 4 = (Value.pointer (some (Addr.mk b4 0 none))) ∧ E 37 = (Value.bool v_37) ∧ b24j1 b2 b3 b4 v_37 R F
def b24 (s_0 : Array Value) (x_1 : Array Value) (R : Value → PH → Prop) (F : PH) : Prop :=
  ∀ b2, F b2 = none → atF (F.set b2 (.cells s_0 48)) fun F =>
  ∀ b3, F b3 = none → atF (F.set b3 (.cells x_1 40)) fun F =>
  ∀ b4, F b4 = none → atF (F.set b4 (.cells (#[Value.slice none 0 0, Value.slice none 0 0, Value.bool false, Value.int .i64 0, Value.slice none 0 0]) 48)) fun F =>
  ∃ v_7 : Int, F.cell (Addr.mk b3 0 none) = some (Value.int .u8 v_7) ∧
  (((Int.tmod v_7 (10 : Int)) = (4 : Int) →
    ∃ v_11 : Array Value, v_11.size = 5 ∧ F.row (Addr.mk b2 0 none) v_11 ∧
    Spec prog 32 #[(Value.agg v_11)] F fun v F => ∃ v_12 : Array Value, ∃ v_12_1 : Int, v = (Value.tuple #[(Value.agg v_12), (Value.int .i64 v_12_1)]) ∧
    v_12.size = 5 ∧ (∀ v ∈ v_12.toList, storable v) ∧ ∃ c e, F (Addr.mk b4 0 none).block = some (.cells c e (0, 0)) ∧ (Addr.mk b4 0 none).spot = none ∧ (Addr.mk b4 0 none).off + 5 ≤ c.size ∧
    atF (F.set (Addr.mk b4 0 none).block (.cells (wr c (Addr.mk b4 0 none).off v_12.toList) e)) fun F =>
    ∃ vres_4 : Array Value, vres_4.size = 5 ∧ F.row (Addr.mk b4 0 none) vres_4 ∧ R (Value.tuple #[(Value.agg vres_4), (Value.int .i64 v_12_1)]) F) ∧
  (¬ ((Int.tmod v_7 (10 : Int)) = (4 : Int)) →
    (((Int.tmod v_7 (10 : Int)) = (5 : Int) →
      ∃ v_17 : Array Value, v_17.size = 5 ∧ F.row (Addr.mk b2 0 none) v_17 ∧
      ∃ v_19 : Sl, F.cell (Addr.mk b3 4 none) = some (Sl.v v_19) ∧
      Spec prog 33 #[(Value.agg v_17), (Sl.v v_19)] F fun v F => ∃ v_20 : Array Value, v = (Value.agg v_20) ∧
      v_20.size = 5 ∧ (∀ v ∈ v_20.toList, storable v) ∧ ∃ c e, F (Addr.mk b4 0 none).block = some (.cells c e (0, 0)) ∧ (Addr.mk b4 0 none).spot = none ∧ (Addr.mk b4 0 none).off + 5 ≤ c.size ∧
      atF (F.set (Addr.mk b4 0 none).block (.cells (wr c (Addr.mk b4 0 none).off v_20.toList) e)) fun F =>
      ∃ vres_4_1 : Array Value, vres_4_1.size = 5 ∧ F.row (Addr.mk b4 0 none) vres_4_1 ∧ R (Value.tuple #[(Value.agg vres_4_1), (Value.int .i64 (0 : Int))]) F) ∧
    (¬ ((Int.tmod v_7 (10 : Int)) = (5 : Int)) →
      (((Int.tmod v_7 (10 : Int)) = (6 : Int) →
        ∃ c e, F (Addr.mk b2 2 none).block = some (.cells c e (0, 0)) ∧ (Addr.mk b2 2 none).spot = none ∧ (Addr.mk b2 2 none).off < c.size ∧
        atF (F.set (Addr.mk b2 2 none).block (.cells (c.setIfInBounds (Addr.mk b2 2 none).off (Value.bool false)) e)) fun F =>
        ∃ v_24 : Array Value, v_24.size = 5 ∧ F.row (Addr.mk b2 0 none) v_24 ∧
        v_24.size = 5 ∧ (∀ v ∈ v_24.toList, storable v) ∧ ∃ c e, F (Addr.mk b4 0 none).block = some (.cells c e (0, 0)) ∧ (Addr.mk b4 0 none).spot = none ∧ (Addr.mk b4 0 none).off + 5 ≤ c.size ∧
        atF (F.set (Addr.mk b4 0 none).block (.cells (wr c (Addr.mk b4 0 none).off v_24.toList) e)) fun F =>
        ∃ vres_4_2 : Array Value, vres_4_2.size = 5 ∧ F.row (Addr.mk b4 0 none) vres_4_2 ∧ R (Value.tuple #[(Value.agg vres_4_2), (Value.int .i64 (0 : Int))]) F) ∧
      (¬ ((Int.tmod v_7 (10 : Int)) = (6 : Int)) →
        (((Int.tmod v_7 (10 : Int)) = (7 : Int) →
          ∃ v_28 : Int, F.cell (Addr.mk b3 1 none) = some (Value.int .i64 v_28) ∧
          ∃ c e, F (Addr.mk b2 3 none).block = some (.cells c e (0, 0)) ∧ (Addr.mk b2 3 none).spot = none ∧ (Addr.mk b2 3 none).off < c.size ∧
          atF (F.set (Addr.mk b2 3 none).block (.cells (c.setIfInBounds (Addr.mk b2 3 none).off (Value.int .i64 (max v_28 (0 : Int)))) e)) fun F =>
          ∀ b31, F b31 = none → atF (F.set b31 (.cells #[] 3)) fun F =>
          ∃ v_33 : Sl, F.cell (Addr.mk b3 4 none) = some (Sl.v v_33) ∧
          runs prog (Builtin.append_ #[37, 37] 37 #[(Sl.v (Sl.mk (some (Addr.mk b31 0 none)) 0 0)), (Sl.v v_33)]) F fun v F => ∃ v_34 : Sl, v = (Sl.v v_34) ∧
          ∃ c e, F (Addr.mk b2 4 none).block = some (.cells c e (0, 0)) ∧ (Addr.mk b2 4 none).spot = none ∧ (Addr.mk b2 4 none).off < c.size ∧
          atF (F.set (Addr.mk b2 4 none).block (.cells (c.setIfInBounds (Addr.mk b2 4 none).off (Sl.v v_34)) e)) fun F =>
          ∃ v_36 : Array Value, v_36.size = 5 ∧ F.row (Addr.mk b2 0 none) v_36 ∧
          v_36.size = 5 ∧ (∀ v ∈ v_36.toList, storable v) ∧ ∃ c e, F (Addr.mk b4 0 none).block = some (.cells c e (0, 0)) ∧ (Addr.mk b4 0 none).spot = none ∧ (Addr.mk b4 0 none).off + 5 ≤ c.size ∧
          atF (F.set (Addr.mk b4 0 none).block (.cells (wr c (Addr.mk b4 0 none).off v_36.toList) e)) fun F =>
          ∃ vres_4_3 : Array Value, vres_4_3.size = 5 ∧ F.row (Addr.mk b4 0 none) vres_4_3 ∧ R (Value.tuple #[(Value.agg vres_4_3), (Value.int .i64 (0 : Int))]) F) ∧
        (¬ ((Int.tmod v_7 (10 : Int)) = (7 : Int)) →
          (((Int.tmod v_7 (10 : Int)) = (8 : Int) →
            b24j1 b2 b3 b4 (decide ((Int.tmod v_7 (10 : Int)) = (8 : Int))) R F) ∧
          (¬ ((Int.tmod v_7 (10 : Int)) = (8 : Int)) →
            b24j1 b2 b3 b4 (decide ((Int.tmod v_7 (10 : Int)) = (9 : Int))) R F))))))))))
theorem c24 {s_0 : Array Value} {x_1 : Array Value} {R : Value → PH → Prop} {F : PH} (h : b24 s_0 x_1 R F) : Spec prog 24 #[(Value.agg s_0), (Value.agg x_1)] F R := by
  refine spec_of (args := [(Value.agg s_0), (Value.agg x_1)]) func24 rfl ntmps24 rfl ?_
  unfold b24 at h
  refine HC_seq ?_
  refine HC_region ?_
  refine s_ef (k_box (cs := s_0) rfl rfl ?_)
  intro b2 hf_b2
  replace h := atE (h b2 hf_b2)
  refine s_ef (k_box (cs := x_1) rfl rfl ?_)
  intro b3 hf_b3
  replace h := atE (h b3 hf_b3)
  refine s_ef (k_alloc zr48 ?_)
  intro b4 hf_b4
  replace h := atE (h b4 hf_b4)
  refine s_rd (v := (Value.int .i64 (0 : Int))) (r_assign rfl rfl) ?_
  refine HL_nil ?_
  refine HC_seq ?_
  refine HC_seq ?_
  refine HC_region ?_
  refine s_rd (v := (Value.pointer (some (Addr.mk b3 0 none)))) (w_fieldAddr (a' := (Addr.mk b3 0 none)) rfl underlying40 rfl rfl sz5 rfl rfl) ?_
  obtain ⟨v_7, hc7, h⟩ := h
  refine s_rd (v := (Value.int .u8 v_7)) (r_load1 rfl rfl underlying5 rfl hc7) ?_
  refine s_rd (v := (Value.int .u8 (Int.tmod v_7 (10 : Int)))) (r_rem rfl rfl rfl (by decide)) ?_
  refine HL_nil ?_
  refine HC_block ?_
  refine HC_seq ?_
  refine HC_region ?_
  refine s_rd (v := (Value.bool (decide ((Int.tmod v_7 (10 : Int)) = (4 : Int))))) (w_eql rfl rfl) ?_
  refine s_rd (v := (Value.bool (decide ((Int.tmod v_7 (10 : Int)) = (4 : Int))))) (r_assign rfl rfl) ?_
  refine HL_nil ?_
  refine HC_cond (t := (decide ((Int.tmod v_7 (10 : Int)) = (4 : Int)))) rfl (fun hc => ?_) (fun hc => ?_)
  · replace h := h.1 (of_decide_eq_true hc)
    clear hc
    refine HC_seq ?_
    refine HC_region ?_
    obtain ⟨v_11, hs11, hc11, h⟩ := h
    refine s_rd (v := (Value.agg v_11)) (w_loadN rfl underlying48 rfl sz48 hs11 hc11) ?_
    refine s_ef (k_call (vs := [(Value.agg v_11)]) cb32 (evC rfl evN) (h.mono ?_))
    clear h; rintro v F ⟨v_12, v_12_1, rfl, h⟩
    refine s_rd (v := (Value.agg v_12)) (r_extract rfl rfl rfl) ?_
    refine s_rd (v := (Value.int .i64 v_12_1)) (r_extract rfl rfl rfl) ?_
    refine s_ef0 (k_storeN (vs := v_12) rfl rfl sz48 (by decide) ?_)
    obtain ⟨hz1, hz2, c, e, hz3, hz4, hz5, h⟩ := h
    refine ⟨hz1, hz2, c, e, hz3, hz4, hz5, ?_⟩
    replace h := atE h
    refine s_rd (v := (Value.int .i64 v_12_1)) (r_assign rfl rfl) ?_
    refine HL_nil ?_
    obtain ⟨vres_4, hs4, hr4, h⟩ := h
    exact HC_ret (show endQ prog f24 R .ret _ _ from ⟨_, res2 rfl (rv_cellN rfl underlying48 rfl sz48 hs4 hr4) (rv_tmp rfl), h⟩)
  · replace h := h.2 (of_decide_eq_false hc)
    clear hc
    refine HC_seq ?_
    refine HC_region ?_
    refine s_rd (v := (Value.bool (decide ((Int.tmod v_7 (10 : Int)) = (5 : Int))))) (w_eql rfl rfl) ?_
    refine s_rd (v := (Value.bool (decide ((Int.tmod v_7 (10 : Int)) = (5 : Int))))) (r_assign rfl rfl) ?_
    refine HL_nil ?_
    refine HC_cond (t := (decide ((Int.tmod v_7 (10 : Int)) = (5 : Int)))) rfl (fun hc => ?_) (fun hc => ?_)
    · replace h := h.1 (of_decide_eq_true hc)
      clear hc
      refine HC_seq ?_
      refine HC_region ?_
      obtain ⟨v_17, hs17, hc17, h⟩ := h
      refine s_rd (v := (Value.agg v_17)) (w_loadN rfl underlying48 rfl sz48 hs17 hc17) ?_
      refine s_rd (v := (Value.pointer (some (Addr.mk b3 4 none)))) (w_fieldAddr (a' := (Addr.mk b3 4 none)) rfl underlying40 rfl rfl sz37 rfl rfl) ?_
      obtain ⟨v_19, hc19, h⟩ := h
      refine s_rd (v := (Sl.v v_19)) (r_load1 rfl rfl underlying37 rfl hc19) ?_
      refine s_ef (k_call (vs := [(Value.agg v_17), (Sl.v v_19)]) cb33 (evC rfl (evC rfl evN)) (h.mono ?_))
      clear h; rintro v F ⟨v_20, rfl, h⟩
      refine s_ef0 (k_storeN (vs := v_20) rfl rfl sz48 (by decide) ?_)
      obtain ⟨hz1, hz2, c, e, hz3, hz4, hz5, h⟩ := h
      refine ⟨hz1, hz2, c, e, hz3, hz4, hz5, ?_⟩
      replace h := atE h
      refine s_rd (v := (Value.int .i64 (0 : Int))) (r_assign rfl rfl) ?_
      refine HL_nil ?_
      obtain ⟨vres_4_1, hs4, hr4, h⟩ := h
      exact HC_ret (show endQ prog f24 R .ret _ _ from ⟨_, res2 rfl (rv_cellN rfl underlying48 rfl sz48 hs4 hr4) (rv_tmp rfl), h⟩)
    · replace h := h.2 (of_decide_eq_false hc)
      clear hc
      refine HC_seq ?_
      refine HC_region ?_
      refine s_rd (v := (Value.bool (decide ((Int.tmod v_7 (10 : Int)) = (6 : Int))))) (w_eql rfl rfl) ?_
      refine s_rd (v := (Value.bool (decide ((Int.tmod v_7 (10 : Int)) = (6 : Int))))) (r_assign rfl rfl) ?_
      refine HL_nil ?_
      refine HC_cond (t := (decide ((Int.tmod v_7 (10 : Int)) = (6 : Int)))) rfl (fun hc => ?_) (fun hc => ?_)
      · replace h := h.1 (of_decide_eq_true hc)
        clear hc
        refine HC_seq ?_
        refine HC_region ?_
        refine s_rd (v := (Value.pointer (some (Addr.mk b2 2 none)))) (w_fieldAddr (a' := (Addr.mk b2 2 none)) rfl underlying48 rfl rfl sz4 rfl rfl) ?_
        refine s_ef0 (k_store1 (v := (Value.bool false)) rfl rfl sz4 rfl st_bool ?_)
        obtain ⟨c, e, hz3, hz4, hz5, h⟩ := h
        refine ⟨c, e, hz3, hz4, hz5, ?_⟩
        replace h := atE h
        refine HL_nil ?_
        refine HC_seq ?_
        refine HC_region ?_
        obtain ⟨v_24, hs24, hc24, h⟩ := h
        refine s_rd (v := (Value.agg v_24)) (w_loadN rfl underlying48 rfl sz48 hs24 hc24) ?_
        refine s_ef0 (k_storeN (vs := v_24) rfl rfl sz48 (by decide) ?_)
        obtain ⟨hz1, hz2, c, e, hz3, hz4, hz5, h⟩ := h
        refine ⟨hz1, hz2, c, e, hz3, hz4, hz5, ?_⟩
        replace h := atE h
        refine s_rd (v := (Value.int .i64 (0 : Int))) (r_assign rfl rfl) ?_
        refine HL_nil ?_
        obtain ⟨vres_4_2, hs4, hr4, h⟩ := h
        exact HC_ret (show endQ prog f24 R .ret _ _ from ⟨_, res2 rfl (rv_cellN rfl underlying48 rfl sz48 hs4 hr4) (rv_tmp rfl), h⟩)
      · replace h := h.2 (of_decide_eq_false hc)
        clear hc
        refine HC_seq ?_
        refine HC_region ?_
        refine s_rd (v := (Value.bool (decide ((Int.tmod v_7 (10 : Int)) = (7 : Int))))) (w_eql rfl rfl) ?_
        refine s_rd (v := (Value.bool (decide ((Int.tmod v_7 (10 : Int)) = (7 : Int))))) (r_assign rfl rfl) ?_
        refine HL_nil ?_
        refine HC_cond (t := (decide ((Int.tmod v_7 (10 : Int)) = (7 : Int)))) rfl (fun hc => ?_) (fun hc => ?_)
        · replace h := h.1 (of_decide_eq_true hc)
          clear hc
          refine HC_seq ?_
          refine HC_region ?_
          refine s_rd (v := (Value.pointer (some (Addr.mk b3 1 none)))) (w_fieldAddr (a' := (Addr.mk b3 1 none)) rfl underlying40 rfl rfl sz3 rfl rfl) ?_
          obtain ⟨v_28, hc28, h⟩ := h
          refine s_rd (v := (Value.int .i64 v_28)) (r_load1 rfl rfl underlying3 rfl hc28) ?_
          refine s_rd (v := (Value.int .i64 (max v_28 (0 : Int)))) (r_max2 rfl rfl rfl) ?_
          refine s_rd (v := (Value.pointer (some (Addr.mk b2 3 none)))) (w_fieldAddr (a' := (Addr.mk b2 3 none)) rfl underlying48 rfl rfl sz3 rfl rfl) ?_
          refine s_ef0 (k_store1 (v := (Value.int .i64 (max v_28 (0 : Int)))) rfl rfl sz3 rfl st_int ?_)
          obtain ⟨c, e, hz3, hz4, hz5, h⟩ := h
          refine ⟨c, e, hz3, hz4, hz5, ?_⟩
          replace h := atE h
          refine HL_nil ?_
          refine HC_seq ?_
          refine HC_region ?_
          refine s_ef (k_buildSeq (l := []) underlying37 sz3 (by decide) zr3 rfl rfl trivial evPN ?_)
          intro b31 hf_b31
          replace h := atE (h b31 hf_b31)
          refine s_rd (v := (Value.pointer (some (Addr.mk b3 4 none)))) (w_fieldAddr (a' := (Addr.mk b3 4 none)) rfl underlying40 rfl rfl sz37 rfl rfl) ?_
          obtain ⟨v_33, hc33, h⟩ := h
          refine s_rd (v := (Sl.v v_33)) (r_load1 rfl rfl underlying37 rfl hc33) ?_
          refine s_ef (k_append rfl rfl (runs_mono _ _ h ?_))
          clear h; rintro v F ⟨v_34, rfl, h⟩
          refine s_rd (v := (Value.pointer (some (Addr.mk b2 4 none)))) (w_fieldAddr (a' := (Addr.mk b2 4 none)) rfl underlying48 rfl rfl sz37 rfl rfl) ?_
          refine s_ef0 (k_store1 (v := (Sl.v v_34)) rfl rfl sz37 rfl st_sl ?_)
          obtain ⟨c, e, hz3, hz4, hz5, h⟩ := h
          refine ⟨c, e, hz3, hz4, hz5, ?_⟩
          replace h := atE h
          refine HL_nil ?_
          refine HC_seq ?_
          refine HC_region ?_
          obtain ⟨v_36, hs36, hc36, h⟩ := h
          refine s_rd (v := (Value.agg v_36)) (w_loadN rfl underlying48 rfl sz48 hs36 hc36) ?_
          refine s_ef0 (k_storeN (vs := v_36) rfl rfl sz48 (by decide) ?_)
          obtain ⟨hz1, hz2, c, e, hz3, hz4, hz5, h⟩ := h
          refine ⟨hz1, hz2, c, e, hz3, hz4, hz5, ?_⟩
          replace h := atE h
          refine s_rd (v := (Value.int .i64 (0 : Int))) (r_assign rfl rfl) ?_
          refine HL_nil ?_
          obtain ⟨vres_4_3, hs4, hr4, h⟩ := h
          exact HC_ret (show endQ prog f24 R .ret _ _ from ⟨_, res2 rfl (rv_cellN rfl underlying48 rfl sz48 hs4 hr4) (rv_tmp rfl), h⟩)
        · replace h := h.2 (of_decide_eq_false hc)
          clear hc
          refine HC_seqJ (b24J1 b2 b3 b4 R) ?_ ?_
          · clear h; rintro E F ⟨v_37, h2, h3, h4, h37, h⟩
            unfold b24j1 at h
            refine HC_cond (t := v_37) h37 (fun hc => ?_) (fun hc => ?_)
            · replace h := h.1 hc
              clear hc
              refine HC_seq ?_
              refine HC_region ?_
              obtain ⟨v_40, hs40, hc40, h⟩ := h
              refine s_rd (v := (Value.agg v_40)) (w_loadN h2 underlying48 rfl sz48 hs40 hc40) ?_
              refine s_ef0 (k_storeN (vs := v_40) h4 rfl sz48 (by decide) ?_)
              obtain ⟨hz1, hz2, c, e, hz3, hz4, hz5, h⟩ := h
              refine ⟨hz1, hz2, c, e, hz3, hz4, hz5, ?_⟩
              replace h := atE h
              refine s_rd (v := (Value.int .i64 (0 : Int))) (r_assign rfl rfl) ?_
              refine HL_nil ?_
              obtain ⟨vres_4_4, hs4, hr4, h⟩ := h
              exact HC_ret (show endQ prog f24 R .ret _ _ from ⟨_, res2 rfl (rv_cellN h4 underlying48 rfl sz48 hs4 hr4) (rv_tmp rfl), h⟩)
            · replace h := h.2 hc
              clear hc
              refine HC_skip ?_
              refine HC_seq ?_
              refine HC_draw0 (by kernel_rfl) (fun hp => ?_)
              obtain ⟨v_41, hs41, hc41, h⟩ := h
              refine g_rd (i := 0) (v := (Value.agg v_41)) rfl (by kernel_rfl) (by kernel_rfl) (by kernel_rfl) (fun _ _ _ h => h) (w_loadN h2 underlying48 rfl sz48 hs41 hc41) hp (fun S0 q0 => ?_)
              replace hp := holdC (i := 0) (q0 _ (w_loadN h2 underlying48 rfl sz48 hs41 hc41)) hp
              refine g_pu (i := 1) (v := (Value.pointer (some (Addr.mk b3 1 none)))) rfl (by kernel_rfl) (by kernel_rfl) (by kernel_rfl) (fun _ _ _ h => h) (fun _ => w_fieldAddr (a' := (Addr.mk b3 1 none)) h3 underlying40 rfl rfl sz3 rfl rfl) hp ?_
              obtain ⟨v_43, hc43, h⟩ := h
              refine g_rd (i := 2) (v := (Value.int .i64 v_43)) rfl (by kernel_rfl) (by kernel_rfl) (by kernel_rfl) (fun _ _ _ h => h) (r_load1 rfl rfl underlying3 rfl hc43) hp (fun S2 q2 => ?_)
              replace hp := holdC (i := 2) (q2 _ (r_load1 rfl rfl underlying3 rfl hc43)) hp
              obtain ⟨v_44, hs44, hc44, h⟩ := h
              refine g_rd (i := 3) (v := (Value.agg v_44)) rfl (by kernel_rfl) (by kernel_rfl) (by kernel_rfl) (fun _ _ _ h => h) (w_loadN h3 underlying40 rfl sz40 hs44 hc44) hp (fun S3 q3 => ?_)
              replace hp := holdC (i := 3) (q3 _ (w_loadN h3 underlying40 rfl sz40 hs44 hc44)) hp
              refine RG_eff1 (i := 4) (by kernel_rfl) (g_op (Sp' := [(2, S2), (0, S0)]) rfl rfl (k_call (vs := [(Value.agg v_44)]) cb28 (evC rfl evN) (h.mono ?_)))
              clear h; rintro v F ⟨v_45, rfl, h⟩
              obtain ⟨hc43', hc41', h⟩ := h
              refine holdI (holdC (i := 2) (q2 _ (r_load1 rfl rfl underlying3 rfl hc43')) (holdC (i := 0) (q0 _ (w_loadN h2 underlying48 rfl sz48 hs41 hc41')) hold0)) (fun hp => ?_)
              refine RG_eff1 (i := 5) (by kernel_rfl) (g_op (Sp' := []) rfl rfl (k_call (vs := [(Value.agg v_41), (Value.int .i64 v_43), (Sl.v v_45)]) cb34 (evC rfl (evC rfl (evC rfl evN))) (h.mono ?_)))
              clear h; rintro v F ⟨v_46, v_46_1, rfl, h⟩
              refine holdI hold0 (fun hp => ?_)
              refine g_pu (i := 6) (v := (Value.agg v_46)) rfl (by kernel_rfl) (by kernel_rfl) (by kernel_rfl) (fun _ _ _ h => h) (fun _ => r_extract rfl rfl rfl) hp ?_
              refine g_pu (i := 7) (v := (Value.int .i64 v_46_1)) rfl (by kernel_rfl) (by kernel_rfl) (by kernel_rfl) (fun _ _ _ h => h) (fun _ => r_extract rfl rfl rfl) hp ?_
              refine RG_eff1 (i := 8) (by kernel_rfl) (g_op0 (Sp' := []) rfl rfl (k_storeN (vs := v_46) h4 rfl sz48 (by decide) ?_))
              obtain ⟨hz1, hz2, c, e, hz3, hz4, hz5, h⟩ := h
              refine ⟨hz1, hz2, c, e, hz3, hz4, hz5, ?_⟩
              replace h := atE h
              refine holdI hold0 (fun hp => ?_)
              refine g_pu (i := 9) (v := (Value.int .i64 v_46_1)) rfl (by kernel_rfl) (by kernel_rfl) (by kernel_rfl) (fun _ _ _ h => h) (fun _ => r_assign rfl rfl) hp ?_
              refine RG_done (by kernel_rfl) ?_
              obtain ⟨vres_4_5, hs4, hr4, h⟩ := h
              exact HC_ret (show endQ prog f24 R .ret _ _ from ⟨_, res2 rfl (rv_cellN h4 underlying48 rfl sz48 hs4 hr4) (rv_tmp rfl), h⟩)
          · skip
            refine HC_seq ?_
            refine HC_region ?_
            refine s_rd (v := (Value.bool (decide ((Int.tmod v_7 (10 : Int)) = (8 : Int))))) (w_eql rfl rfl) ?_
            refine s_rd (v := (Value.bool (decide ((Int.tmod v_7 (10 : Int)) = (8 : Int))))) (r_assign rfl rfl) ?_
            refine HL_nil ?_
            refine HC_cond (t := (decide ((Int.tmod v_7 (10 : Int)) = (8 : Int)))) rfl (fun hc => ?_) (fun hc => ?_)
            · replace h := h.1 (of_decide_eq_true hc)
              clear hc
              refine HC_skip ?_
              show b24J1 b2 b3 b4 R _ _
              exact ⟨_, rfl, rfl, rfl, rfl, h⟩
            · replace h := h.2 (of_decide_eq_false hc)
              clear hc
              refine HC_region ?_
              refine s_rd (v := (Value.bool (decide ((Int.tmod v_7 (10 : Int)) = (9 : Int))))) (w_eql rfl rfl) ?_
              refine s_rd (v := (Value.bool (decide ((Int.tmod v_7 (10 : Int)) = (9 : Int))))) (r_assign rfl rfl) ?_
              refine HL_nil ?_
              show b24J1 b2 b3 b4 R _ _
              exact ⟨_, rfl, rfl, rfl, rfl, h⟩

/- 26 (koine.koineref34.State).Read -/
def b26j1 (at_1 : Int) (b2 : Nat) (R : Value → PH → Prop) (F : PH) : Prop :=
  ∃ v_41 : Sl, F.cell (Addr.mk b2 0 none) = some (Sl.v v_41) ∧
  ∃ a43_ : Addr, v_41.base = some a43_ ∧ 0 ≤ at_1 ∧ at_1 < (v_41.len : Int) ∧
  ∃ v_44 : Sl, F.cell (Addr.add a43_ (Int.toNat at_1 * 1)) = some (Sl.v v_44) ∧
  R (Value.tuple #[(Sl.v v_44), (Value.int .i64 (0 : Int))]) F
abbrev b26J1 (at_1 : Int) (b2 : Nat) (R : Value → PH → Prop) (E : En) (F : PH) : Prop := E 1 = (Value.int .i64 at_1) ∧ E 2 = (Value.pointer (some (Addr.mk b2 0 none))) ∧ b26j1 at_1 b2 R F
def b26L1 (N1 : Int → PH → Prop) (at_1 : Int) (b2 : Nat) (R : Value → PH → Prop) (i_6 : Int) (F : PH) : Prop :=
  (((0 : Int) ≤ i_6 →
    ∃ v_27 : Sl, F.cell (Addr.mk b2 1 none) = some (Sl.v v_27) ∧
    ∃ a29_ : Addr, v_27.base = some a29_ ∧ 0 ≤ i_6 ∧ i_6 < (v_27.len : Int) ∧
    ∃ v_31 : Int, F.cell (Addr.add a29_ (Int.toNat i_6 * 2)) = some (Value.int .i64 v_31) ∧
    ((v_31 = at_1 →
      ∃ v_35 : Sl, F.cell (Addr.mk b2 1 none) = some (Sl.v v_35) ∧
      ∃ a37_ : Addr, v_35.base = some a37_ ∧ 0 ≤ i_6 ∧ i_6 < (v_35.len : Int) ∧
      ∃ v_39 : Sl, F.cell (Addr.add (Addr.add a37_ (Int.toNat i_6 * 2)) 1) = some (Sl.v v_39) ∧
      R (Value.tuple #[(Sl.v v_39), (Value.int .i64 (0 : Int))]) F) ∧
    (¬ (v_31 = at_1) →
      N1 (IntKind.i64.wrap (i_6 - (1 : Int))) F))) ∧
  (¬ ((0 : Int) ≤ i_6) →
    b26j1 at_1 b2 R F))
def b26 (s_0 : Array Value) (at_1 : Int) (R : Value → PH → Prop) (F : PH) : Prop :=
  ∀ b2, F b2 = none → atF (F.set b2 (.cells s_0 48)) fun F =>
  ((at_1 < (0 : Int) →
    R (Value.tuple #[(Sl.v Sl.nil), (Value.int .i64 (1 : Int))]) F) ∧
  (¬ (at_1 < (0 : Int)) →
    ∃ v_12 : Sl, F.cell (Addr.mk b2 0 none) = some (Sl.v v_12) ∧
    (((v_12.len : Int) ≤ at_1 →
      R (Value.tuple #[(Sl.v Sl.nil), (Value.int .i64 (1 : Int))]) F) ∧
    (¬ ((v_12.len : Int) ≤ at_1) →
      ∃ v_17 : Bool, F.cell (Addr.mk b2 2 none) = some (Value.bool v_17) ∧
      ((v_17 = true →
        R (Value.tuple #[(Sl.v Sl.nil), (Value.int .i64 (340 : Int))]) F) ∧
      (v_17 = false →
        ∃ v_19 : Sl, F.cell (Addr.mk b2 1 none) = some (Sl.v v_19) ∧
        (∃ (I1 : Nat → Int → PH → Prop) (m1 : Nat), I1 m1 (IntKind.i64.wrap ((v_19.len : Int) - (1 : Int))) F ∧ ∀ m1 i_6 F, I1 m1 i_6 F →
          b26L1 (fun i_6 F => ∃ m', m' < m1 ∧ I1 m' i_6 F) at_1 b2 R i_6 F)))))))
theorem c26 {s_0 : Array Value} {at_1 : Int} {R : Value → PH → Prop} {F : PH} (h : b26 s_0 at_1 R F) : Spec prog 26 #[(Value.agg s_0), (Value.int .i64 at_1)] F R := by
  refine spec_of (args := [(Value.agg s_0), (Value.int .i64 at_1)]) func26 rfl ntmps26 rfl ?_
  unfold b26 at h
  refine HC_seq ?_
  refine HC_region ?_
  refine s_ef (k_box (cs := s_0) rfl rfl ?_)
  intro b2 hf_b2
  replace h := atE (h b2 hf_b2)
  refine s_rd (v := (Sl.v Sl.nil)) (r_assign rfl rfl) ?_
  refine s_rd (v := (Value.int .i64 (0 : Int))) (r_assign rfl rfl) ?_
  refine HL_nil ?_
  refine HC_seq ?_
  refine HC_seq ?_
  refine HC_region ?_
  refine s_rd (v := (Value.int .i64 at_1)) (r_move rfl rfl) ?_
  refine s_rd (v := (Value.bool (decide (at_1 < (0 : Int))))) (r_lss rfl rfl rfl) ?_
  refine s_rd (v := (Value.bool (decide (at_1 < (0 : Int))))) (r_move rfl rfl) ?_
  by_cases hc : at_1 < (0 : Int)
  · replace h := h.1 hc
    refine HL_known (t := 8) (v := .bool true) (congrArg Value.bool (decide_eq_true hc)) ?_
    refine HL_known (t := 9) (v := .bool true) (congrArg Value.bool (decide_eq_true hc)) ?_
    refine s_skip ?_
    refine s_skip ?_
    refine s_skip ?_
    refine s_skip ?_
    refine s_skip ?_
    refine s_rd (v := (Value.bool true)) (r_pick rfl rfl (fun _ => rfl) (fun h => by cases h)) ?_
    refine HL_nil ?_
    refine HC_condT rfl ?_
    refine HC_seq ?_
    refine HC_region ?_
    refine s_rd (v := (Sl.v Sl.nil)) (r_assign rfl rfl) ?_
    refine s_rd (v := (Value.int .i64 (1 : Int))) (r_assign rfl rfl) ?_
    refine HL_nil ?_
    exact HC_ret (show endQ prog f26 R .ret _ _ from ⟨_, res2 rfl (rv_tmp rfl) (rv_tmp rfl), h⟩)
  · replace h := h.2 hc
    refine HL_known (t := 8) (v := .bool false) (congrArg Value.bool (decide_eq_false hc)) ?_
    refine HL_known (t := 9) (v := .bool false) (congrArg Value.bool (decide_eq_false hc)) ?_
    refine s_rd (v := (Value.int .i64 at_1)) (r_move rfl rfl) ?_
    refine s_rd (v := (Value.pointer (some (Addr.mk b2 0 none)))) (w_fieldAddr (a' := (Addr.mk b2 0 none)) rfl underlying48 rfl rfl sz45 rfl rfl) ?_
    obtain ⟨v_12, hc12, h⟩ := h
    refine s_rd (v := (Sl.v v_12)) (r_load1 rfl rfl underlying45 rfl hc12) ?_
    refine s_rd (v := (Value.int .i64 (v_12.len : Int))) (r_lenSl rfl rfl underlying45) ?_
    refine s_rd (v := (Value.bool (decide ((v_12.len : Int) ≤ at_1)))) (r_geq rfl rfl rfl) ?_
    refine s_rd (v := (Value.bool (decide ((v_12.len : Int) ≤ at_1)))) (r_pick rfl rfl (fun h => by cases h) (fun _ => rfl)) ?_
    refine HL_nil ?_
    refine HC_cond (t := (decide ((v_12.len : Int) ≤ at_1))) rfl (fun hc => ?_) (fun hc => ?_)
    · replace h := h.1 (of_decide_eq_true hc)
      clear hc
      refine HC_seq ?_
      refine HC_region ?_
      refine s_rd (v := (Sl.v Sl.nil)) (r_assign rfl rfl) ?_
      refine s_rd (v := (Value.int .i64 (1 : Int))) (r_assign rfl rfl) ?_
      refine HL_nil ?_
      exact HC_ret (show endQ prog f26 R .ret _ _ from ⟨_, res2 rfl (rv_tmp rfl) (rv_tmp rfl), h⟩)
    · replace h := h.2 (of_decide_eq_false hc)
      clear hc
      refine HC_skip ?_
      refine HC_seq ?_
      refine HC_seq ?_
      refine HC_region ?_
      refine s_rd (v := (Value.pointer (some (Addr.mk b2 2 none)))) (w_fieldAddr (a' := (Addr.mk b2 2 none)) rfl underlying48 rfl rfl sz4 rfl rfl) ?_
      obtain ⟨v_17, hc17, h⟩ := h
      refine s_rd (v := (Value.bool v_17)) (r_load1 rfl rfl underlying4 rfl hc17) ?_
      refine HL_nil ?_
      refine HC_cond (t := v_17) rfl (fun hc => ?_) (fun hc => ?_)
      · replace h := h.1 hc
        clear hc
        refine HC_seq ?_
        refine HC_region ?_
        refine s_rd (v := (Sl.v Sl.nil)) (r_assign rfl rfl) ?_
        refine s_rd (v := (Value.int .i64 (340 : Int))) (r_assign rfl rfl) ?_
        refine HL_nil ?_
        exact HC_ret (show endQ prog f26 R .ret _ _ from ⟨_, res2 rfl (rv_tmp rfl) (rv_tmp rfl), h⟩)
      · replace h := h.2 hc
        clear hc
        refine HC_skip ?_
        refine HC_seqJ (b26J1 at_1 b2 R) ?_ ?_
        · clear h; rintro E F ⟨h1, h2, h⟩
          unfold b26j1 at h
          refine HC_seq ?_
          refine HC_region ?_
          refine s_rd (v := (Value.pointer (some (Addr.mk b2 0 none)))) (w_fieldAddr (a' := (Addr.mk b2 0 none)) h2 underlying48 rfl rfl sz45 rfl rfl) ?_
          obtain ⟨v_41, hc41, h⟩ := h
          refine s_rd (v := (Sl.v v_41)) (r_load1 rfl rfl underlying45 rfl hc41) ?_
          refine s_rd (v := (Value.int .i64 at_1)) (r_move rfl h1) ?_
          obtain ⟨a43_, hb43, hl43, hu43, h⟩ := h
          refine s_rd (v := (Value.pointer (some (Addr.add a43_ (Int.toNat at_1 * 1))))) (w_indexAddr rfl rfl underlying45 sz26 hb43 hl43 hu43) ?_
          obtain ⟨v_44, hc44, h⟩ := h
          refine s_rd (v := (Sl.v v_44)) (r_load1 rfl rfl underlying26 rfl hc44) ?_
          refine s_rd (v := (Sl.v v_44)) (r_assign rfl rfl) ?_
          refine s_rd (v := (Value.int .i64 (0 : Int))) (r_assign rfl rfl) ?_
          refine HL_nil ?_
          exact HC_ret (show endQ prog f26 R .ret _ _ from ⟨_, res2 rfl (rv_tmp rfl) (rv_tmp rfl), h⟩)
        · skip
          refine HC_seq ?_
          refine HC_region ?_
          refine s_rd (v := (Value.pointer (some (Addr.mk b2 1 none)))) (w_fieldAddr (a' := (Addr.mk b2 1 none)) rfl underlying48 rfl rfl sz46 rfl rfl) ?_
          obtain ⟨v_19, hc19, h⟩ := h
          refine s_rd (v := (Sl.v v_19)) (r_load1 rfl rfl underlying46 rfl hc19) ?_
          refine s_rd (v := (Value.int .i64 (v_19.len : Int))) (r_lenSl rfl rfl underlying46) ?_
          refine s_rd (v := (Value.int .i64 (IntKind.i64.wrap ((v_19.len : Int) - (1 : Int))))) (r_sub rfl rfl rfl) ?_
          refine s_rd (v := (Value.int .i64 (IntKind.i64.wrap ((v_19.len : Int) - (1 : Int))))) (r_assign rfl rfl) ?_
          refine HL_nil ?_
          refine HC_block ?_
          obtain ⟨I1, m1, hI0, hr⟩ := h
          refine HC_loop (fun m1 E F => ∃ i_6 : Int, E 1 = (Value.int .i64 at_1) ∧ E 2 = (Value.pointer (some (Addr.mk b2 0 none))) ∧ E 6 = (Value.int .i64 i_6) ∧ I1 m1 i_6 F) m1 ⟨_, rfl, rfl, rfl, hI0⟩ ?_
          clear hI0; rintro m1 E F ⟨i_6, h1, h2, h6, hI⟩
          have h := hr m1 i_6 F hI
          clear hr hI
          unfold b26L1 at h
          refine HC_seq ?_
          refine HC_seq ?_
          refine HC_region ?_
          refine s_rd (v := (Value.int .i64 i_6)) (r_move rfl h6) ?_
          refine s_rd (v := (Value.bool (decide ((0 : Int) ≤ i_6)))) (r_geq rfl rfl rfl) ?_
          refine HL_nil ?_
          refine HC_cond (t := (decide ((0 : Int) ≤ i_6))) rfl (fun hc => ?_) (fun hc => ?_)
          · replace h := h.1 (of_decide_eq_true hc)
            clear hc
            refine HC_skip ?_
            refine HC_seq ?_
            refine HC_block ?_
            refine HC_seq ?_
            refine HC_region ?_
            refine s_rd (v := (Value.pointer (some (Addr.mk b2 1 none)))) (w_fieldAddr (a' := (Addr.mk b2 1 none)) h2 underlying48 rfl rfl sz46 rfl rfl) ?_
            obtain ⟨v_27, hc27, h⟩ := h
            refine s_rd (v := (Sl.v v_27)) (r_load1 rfl rfl underlying46 rfl hc27) ?_
            refine s_rd (v := (Value.int .i64 i_6)) (r_move rfl h6) ?_
            obtain ⟨a29_, hb29, hl29, hu29, h⟩ := h
            refine s_rd (v := (Value.pointer (some (Addr.add a29_ (Int.toNat i_6 * 2))))) (w_indexAddr rfl rfl underlying46 sz72 hb29 hl29 hu29) ?_
            refine s_rd (v := (Value.pointer (some (Addr.add a29_ (Int.toNat i_6 * 2))))) (w_fieldAddr (a' := (Addr.add a29_ (Int.toNat i_6 * 2))) rfl underlying72 rfl rfl sz3 rfl rfl) ?_
            obtain ⟨v_31, hc31, h⟩ := h
            refine s_rd (v := (Value.int .i64 v_31)) (r_load1 rfl rfl underlying3 rfl hc31) ?_
            refine s_rd (v := (Value.int .i64 at_1)) (r_move rfl h1) ?_
            refine s_rd (v := (Value.bool (decide (v_31 = at_1)))) (w_eql rfl rfl) ?_
            refine HL_nil ?_
            refine HC_cond (t := (decide (v_31 = at_1))) rfl (fun hc => ?_) (fun hc => ?_)
            · replace h := h.1 (of_decide_eq_true hc)
              clear hc
              refine HC_seq ?_
              refine HC_region ?_
              refine s_rd (v := (Value.pointer (some (Addr.mk b2 1 none)))) (w_fieldAddr (a' := (Addr.mk b2 1 none)) h2 underlying48 rfl rfl sz46 rfl rfl) ?_
              obtain ⟨v_35, hc35, h⟩ := h
              refine s_rd (v := (Sl.v v_35)) (r_load1 rfl rfl underlying46 rfl hc35) ?_
              refine s_rd (v := (Value.int .i64 i_6)) (r_move rfl h6) ?_
              obtain ⟨a37_, hb37, hl37, hu37, h⟩ := h
              refine s_rd (v := (Value.pointer (some (Addr.add a37_ (Int.toNat i_6 * 2))))) (w_indexAddr rfl rfl underlying46 sz72 hb37 hl37 hu37) ?_
              refine s_rd (v := (Value.pointer (some (Addr.add (Addr.add a37_ (Int.toNat i_6 * 2)) 1)))) (w_fieldAddr (a' := (Addr.add (Addr.add a37_ (Int.toNat i_6 * 2)) 1)) rfl underlying72 rfl rfl sz26 rfl rfl) ?_
              obtain ⟨v_39, hc39, h⟩ := h
              refine s_rd (v := (Sl.v v_39)) (r_load1 rfl rfl underlying26 rfl hc39) ?_
              refine s_rd (v := (Sl.v v_39)) (r_assign rfl rfl) ?_
              refine s_rd (v := (Value.int .i64 (0 : Int))) (r_assign rfl rfl) ?_
              refine HL_nil ?_
              exact HC_ret (show endQ prog f26 R .ret _ _ from ⟨_, res2 rfl (rv_tmp rfl) (rv_tmp rfl), h⟩)
            · replace h := h.2 (of_decide_eq_false hc)
              clear hc
              refine HC_skip ?_
              refine HC_region ?_
              refine s_rd (v := (Value.int .i64 i_6)) (r_move rfl h6) ?_
              refine s_rd (v := (Value.int .i64 (IntKind.i64.wrap (i_6 - (1 : Int))))) (r_sub rfl rfl rfl) ?_
              refine s_rd (v := (Value.int .i64 (IntKind.i64.wrap (i_6 - (1 : Int))))) (r_assign rfl rfl) ?_
              refine HL_nil ?_
              obtain ⟨m', hm, h⟩ := h
              exact ⟨m', hm, _, h1, h2, rfl, h⟩
          · replace h := h.2 (of_decide_eq_false hc)
            clear hc
            refine HC_exit ?_
            show b26J1 at_1 b2 R _ _
            exact ⟨h1, h2, h⟩

/- 32 (koine.koineref34.State).Flush -/
def b32j1 (b2 : Nat) (b4 : Nat) (R : Value → PH → Prop) (F : PH) : Prop :=
  ∃ c e, F (Addr.mk b4 1 none).block = some (.cells c e (0, 0)) ∧ (Addr.mk b4 1 none).spot = none ∧ (Addr.mk b4 1 none).off < c.size ∧
  atF (F.set (Addr.mk b4 1 none).block (.cells (c.setIfInBounds (Addr.mk b4 1 none).off (Sl.v Sl.nil)) e)) fun F =>
  ∃ v_45 : Array Value, v_45.size = 5 ∧ F.row (Addr.mk b4 0 none) v_45 ∧
  v_45.size = 5 ∧ (∀ v ∈ v_45.toList, storable v) ∧ ∃ c e, F (Addr.mk b2 0 none).block = some (.cells c e (0, 0)) ∧ (Addr.mk b2 0 none).spot = none ∧ (Addr.mk b2 0 none).off + 5 ≤ c.size ∧
  atF (F.set (Addr.mk b2 0 none).block (.cells (wr c (Addr.mk b2 0 none).off v_45.toList) e)) fun F =>
  ∃ vres_2_2 : Array Value, vres_2_2.size = 5 ∧ F.row (Addr.mk b2 0 none) vres_2_2 ∧ R (Value.tuple #[(Value.agg vres_2_2), (Value.int .i64 (0 : Int))]) F
abbrev b32J1 (b2 : Nat) (b4 : Nat) (R : Value → PH → Prop) (E : En) (F : PH) : Prop := E 2 = (Value.pointer (some (Addr.mk b2 0 none))) ∧ E 4 = (Value.pointer (some (Addr.mk b4 0 none))) ∧ b32j1 b2 b4 R F
def b32L1 (N1 : Int → PH → Prop) (b1 : Nat) (b2 : Nat) (b4 : Nat) (R : Value → PH → Prop) (i_6 : Int) (F : PH) : Prop :=
  ∃ v_24 : Sl, F.cell (Addr.mk b1 1 none) = some (Sl.v v_24) ∧
  ((i_6 < (v_24.len : Int) →
    ∃ v_30 : Sl, F.cell (Addr.mk b4 0 none) = some (Sl.v v_30) ∧
    ∃ v_32 : Sl, F.cell (Addr.mk b1 1 none) = some (Sl.v v_32) ∧
    ∃ a34_ : Addr, v_32.base = some a34_ ∧ 0 ≤ i_6 ∧ i_6 < (v_32.len : Int) ∧
    ∃ v_36 : Int, F.cell (Addr.add a34_ (Int.toNat i_6 * 2)) = some (Value.int .i64 v_36) ∧
    ∃ v_38 : Sl, F.cell (Addr.mk b1 1 none) = some (Sl.v v_38) ∧
    ∃ a40_ : Addr, v_38.base = some a40_ ∧ 0 ≤ i_6 ∧ i_6 < (v_38.len : Int) ∧
    ∃ v_42 : Sl, F.cell (Addr.add (Addr.add a40_ (Int.toNat i_6 * 2)) 1) = some (Sl.v v_42) ∧
    ∃ a43_ : Addr, v_30.base = some a43_ ∧ 0 ≤ v_36 ∧ v_36 < (v_30.len : Int) ∧
    ∃ c e, F (Addr.add a43_ (Int.toNat v_36 * 1)).block = some (.cells c e (0, 0)) ∧ (Addr.add a43_ (Int.toNat v_36 * 1)).spot = none ∧ (Addr.add a43_ (Int.toNat v_36 * 1)).off < c.size ∧
    atF (F.set (Addr.add a43_ (Int.toNat v_36 * 1)).block (.cells (c.setIfInBounds (Addr.add a43_ (Int.toNat v_36 * 1)).off (Sl.v v_42)) e)) fun F =>
    N1 (IntKind.i64.wrap (i_6 + (1 : Int))) F) ∧
  (¬ (i_6 < (v_24.len : Int)) →
    b32j1 b2 b4 R F))
def b32 (s_0 : Array Value) (R : Value → PH → Prop) (F : PH) : Prop :=
  ∀ b1, F b1 = none → atF (F.set b1 (.cells s_0 48)) fun F =>
  ∀ b2, F b2 = none → atF (F.set b2 (.cells (#[Value.slice none 0 0, Value.slice none 0 0, Value.bool false, Value.int .i64 0, Value.slice none 0 0]) 48)) fun F =>
  ∃ v_8 : Bool, F.cell (Addr.mk b1 2 none) = some (Value.bool v_8) ∧
  ((v_8 = true →
    ∃ v_9 : Array Value, v_9.size = 5 ∧ F.row (Addr.mk b1 0 none) v_9 ∧
    v_9.size = 5 ∧ (∀ v ∈ v_9.toList, storable v) ∧ ∃ c e, F (Addr.mk b2 0 none).block = some (.cells c e (0, 0)) ∧ (Addr.mk b2 0 none).spot = none ∧ (Addr.mk b2 0 none).off + 5 ≤ c.size ∧
    atF (F.set (Addr.mk b2 0 none).block (.cells (wr c (Addr.mk b2 0 none).off v_9.toList) e)) fun F =>
    ∃ vres_2 : Array Value, vres_2.size = 5 ∧ F.row (Addr.mk b2 0 none) vres_2 ∧ R (Value.tuple #[(Value.agg vres_2), (Value.int .i64 (340 : Int))]) F) ∧
  (v_8 = false →
    ∃ v_11 : Array Value, v_11.size = 5 ∧ F.row (Addr.mk b1 0 none) v_11 ∧
    Spec prog 38 #[(Value.agg v_11)] F fun v F => ∃ v_12 : Array Value, ∃ v_12_1 : Bool, v = (Value.tuple #[(Value.agg v_12), (Value.bool v_12_1)]) ∧
    ∀ b4, F b4 = none → atF (F.set b4 (.cells (#[Value.slice none 0 0, Value.slice none 0 0, Value.bool false, Value.int .i64 0, Value.slice none 0 0]) 48)) fun F =>
    v_12.size = 5 ∧ (∀ v ∈ v_12.toList, storable v) ∧ ∃ c e, F (Addr.mk b4 0 none).block = some (.cells c e (0, 0)) ∧ (Addr.mk b4 0 none).spot = none ∧ (Addr.mk b4 0 none).off + 5 ≤ c.size ∧
    atF (F.set (Addr.mk b4 0 none).block (.cells (wr c (Addr.mk b4 0 none).off v_12.toList) e)) fun F =>
    ((v_12_1 = true →
      ∃ v_16 : Array Value, v_16.size = 5 ∧ F.row (Addr.mk b4 0 none) v_16 ∧
      v_16.size = 5 ∧ (∀ v ∈ v_16.toList, storable v) ∧ ∃ c e, F (Addr.mk b2 0 none).block = some (.cells c e (0, 0)) ∧ (Addr.mk b2 0 none).spot = none ∧ (Addr.mk b2 0 none).off + 5 ≤ c.size ∧
      atF (F.set (Addr.mk b2 0 none).block (.cells (wr c (Addr.mk b2 0 none).off v_16.toList) e)) fun F =>
      ∃ vres_2_1 : Array Value, vres_2_1.size = 5 ∧ F.row (Addr.mk b2 0 none) vres_2_1 ∧ R (Value.tuple #[(Value.agg vres_2_1), (Value.int .i64 (340 : Int))]) F) ∧
    (v_12_1 = false →
      ∀ b17, F b17 = none → atF (F.set b17 (.cells #[] 26)) fun F =>
      ∃ v_19 : Sl, F.cell (Addr.mk b1 0 none) = some (Sl.v v_19) ∧
      runs prog (Builtin.append_ #[45, 45] 45 #[(Sl.v (Sl.mk (some (Addr.mk b17 0 none)) 0 0)), (Sl.v v_19)]) F fun v F => ∃ v_20 : Sl, v = (Sl.v v_20) ∧
      ∃ c e, F (Addr.mk b4 0 none).block = some (.cells c e (0, 0)) ∧ (Addr.mk b4 0 none).spot = none ∧ (Addr.mk b4 0 none).off < c.size ∧
      atF (F.set (Addr.mk b4 0 none).block (.cells (c.setIfInBounds (Addr.mk b4 0 none).off (Sl.v v_20)) e)) fun F =>
      (∃ (I1 : Nat → Int → PH → Prop) (m1 : Nat), I1 m1 (0 : Int) F ∧ ∀ m1 i_6 F, I1 m1 i_6 F →
        b32L1 (fun i_6 F => ∃ m', m' < m1 ∧ I1 m' i_6 F) b1 b2 b4 R i_6 F)))))
theorem c32 {s_0 : Array Value} {R : Value → PH → Prop} {F : PH} (h : b32 s_0 R F) : Spec prog 32 #[(Value.agg s_0)] F R := by
  refine spec_of (args := [(Value.agg s_0)]) func32 rfl ntmps32 rfl ?_
  unfold b32 at h
  refine HC_seq ?_
  refine HC_region ?_
  refine s_ef (k_box (cs := s_0) rfl rfl ?_)
  intro b1 hf_b1
  replace h := atE (h b1 hf_b1)
  refine s_ef (k_alloc zr48 ?_)
  intro b2 hf_b2
  replace h := atE (h b2 hf_b2)
  refine s_rd (v := (Value.int .i64 (0 : Int))) (r_assign rfl rfl) ?_
  refine HL_nil ?_
  refine HC_seq ?_
  refine HC_seq ?_
  refine HC_region ?_
  refine s_rd (v := (Value.pointer (some (Addr.mk b1 2 none)))) (w_fieldAddr (a' := (Addr.mk b1 2 none)) rfl underlying48 rfl rfl sz4 rfl rfl) ?_
  obtain ⟨v_8, hc8, h⟩ := h
  refine s_rd (v := (Value.bool v_8)) (r_load1 rfl rfl underlying4 rfl hc8) ?_
  refine HL_nil ?_
  refine HC_cond (t := v_8) rfl (fun hc => ?_) (fun hc => ?_)
  · replace h := h.1 hc
    clear hc
    refine HC_seq ?_
    refine HC_region ?_
    obtain ⟨v_9, hs9, hc9, h⟩ := h
    refine s_rd (v := (Value.agg v_9)) (w_loadN rfl underlying48 rfl sz48 hs9 hc9) ?_
    refine s_ef0 (k_storeN (vs := v_9) rfl rfl sz48 (by decide) ?_)
    obtain ⟨hz1, hz2, c, e, hz3, hz4, hz5, h⟩ := h
    refine ⟨hz1, hz2, c, e, hz3, hz4, hz5, ?_⟩
    replace h := atE h
    refine s_rd (v := (Value.int .i64 (340 : Int))) (r_assign rfl rfl) ?_
    refine HL_nil ?_
    obtain ⟨vres_2, hs2, hr2, h⟩ := h
    exact HC_ret (show endQ prog f32 R .ret _ _ from ⟨_, res2 rfl (rv_cellN rfl underlying48 rfl sz48 hs2 hr2) (rv_tmp rfl), h⟩)
  · replace h := h.2 hc
    clear hc
    refine HC_skip ?_
    refine HC_seq ?_
    refine HC_region ?_
    obtain ⟨v_11, hs11, hc11, h⟩ := h
    refine s_rd (v := (Value.agg v_11)) (w_loadN rfl underlying48 rfl sz48 hs11 hc11) ?_
    refine s_ef (k_call (vs := [(Value.agg v_11)]) cb38 (evC rfl evN) (h.mono ?_))
    clear h; rintro v F ⟨v_12, v_12_1, rfl, h⟩
    refine s_rd (v := (Value.tuple #[(Value.agg v_12), (Value.bool v_12_1)])) (r_move rfl rfl) ?_
    refine s_rd (v := (Value.agg v_12)) (r_extract rfl rfl rfl) ?_
    refine s_rd (v := (Value.bool v_12_1)) (r_extract rfl rfl rfl) ?_
    refine s_ef (k_alloc zr48 ?_)
    intro b4 hf_b4
    replace h := atE (h b4 hf_b4)
    refine s_ef0 (k_storeN (vs := v_12) rfl rfl sz48 (by decide) ?_)
    obtain ⟨hz1, hz2, c, e, hz3, hz4, hz5, h⟩ := h
    refine ⟨hz1, hz2, c, e, hz3, hz4, hz5, ?_⟩
    replace h := atE h
    refine s_rd (v := (Value.bool v_12_1)) (r_assign rfl rfl) ?_
    refine HL_nil ?_
    refine HC_seq ?_
    refine HC_seq ?_
    refine HC_region ?_
    refine s_rd (v := (Value.bool v_12_1)) (r_move rfl rfl) ?_
    refine HL_nil ?_
    refine HC_cond (t := v_12_1) rfl (fun hc => ?_) (fun hc => ?_)
    · replace h := h.1 hc
      clear hc
      refine HC_seq ?_
      refine HC_region ?_
      obtain ⟨v_16, hs16, hc16, h⟩ := h
      refine s_rd (v := (Value.agg v_16)) (w_loadN rfl underlying48 rfl sz48 hs16 hc16) ?_
      refine s_ef0 (k_storeN (vs := v_16) rfl rfl sz48 (by decide) ?_)
      obtain ⟨hz1, hz2, c, e, hz3, hz4, hz5, h⟩ := h
      refine ⟨hz1, hz2, c, e, hz3, hz4, hz5, ?_⟩
      replace h := atE h
      refine s_rd (v := (Value.int .i64 (340 : Int))) (r_assign rfl rfl) ?_
      refine HL_nil ?_
      obtain ⟨vres_2_1, hs2, hr2, h⟩ := h
      exact HC_ret (show endQ prog f32 R .ret _ _ from ⟨_, res2 rfl (rv_cellN rfl underlying48 rfl sz48 hs2 hr2) (rv_tmp rfl), h⟩)
    · replace h := h.2 hc
      clear hc
      refine HC_skip ?_
      refine HC_seq ?_
      refine HC_region ?_
      refine s_ef (k_buildSeq (l := []) underlying45 sz26 (by decide) zr26 rfl rfl trivial evPN ?_)
      intro b17 hf_b17
      replace h := atE (h b17 hf_b17)
      refine s_rd (v := (Value.pointer (some (Addr.mk b1 0 none)))) (w_fieldAddr (a' := (Addr.mk b1 0 none)) rfl underlying48 rfl rfl sz45 rfl rfl) ?_
      obtain ⟨v_19, hc19, h⟩ := h
      refine s_rd (v := (Sl.v v_19)) (r_load1 rfl rfl underlying45 rfl hc19) ?_
      refine s_ef (k_append rfl rfl (runs_mono _ _ h ?_))
      clear h; rintro v F ⟨v_20, rfl, h⟩
      refine s_rd (v := (Value.pointer (some (Addr.mk b4 0 none)))) (w_fieldAddr (a' := (Addr.mk b4 0 none)) rfl underlying48 rfl rfl sz45 rfl rfl) ?_
      refine s_ef0 (k_store1 (v := (Sl.v v_20)) rfl rfl sz45 rfl st_sl ?_)
      obtain ⟨c, e, hz3, hz4, hz5, h⟩ := h
      refine ⟨c, e, hz3, hz4, hz5, ?_⟩
      replace h := atE h
      refine HL_nil ?_
      refine HC_seqJ (b32J1 b2 b4 R) ?_ ?_
      · clear h; rintro E F ⟨h2, h4, h⟩
        unfold b32j1 at h
        refine HC_seq ?_
        refine HC_region ?_
        refine s_rd (v := (Value.pointer (some (Addr.mk b4 1 none)))) (w_fieldAddr (a' := (Addr.mk b4 1 none)) h4 underlying48 rfl rfl sz46 rfl rfl) ?_
        refine s_ef0 (k_store1 (v := (Sl.v Sl.nil)) rfl rfl sz46 rfl st_sl ?_)
        obtain ⟨c, e, hz3, hz4, hz5, h⟩ := h
        refine ⟨c, e, hz3, hz4, hz5, ?_⟩
        replace h := atE h
        refine HL_nil ?_
        refine HC_seq ?_
        refine HC_region ?_
        obtain ⟨v_45, hs45, hc45, h⟩ := h
        refine s_rd (v := (Value.agg v_45)) (w_loadN h4 underlying48 rfl sz48 hs45 hc45) ?_
        refine s_ef0 (k_storeN (vs := v_45) h2 rfl sz48 (by decide) ?_)
        obtain ⟨hz1, hz2, c, e, hz3, hz4, hz5, h⟩ := h
        refine ⟨hz1, hz2, c, e, hz3, hz4, hz5, ?_⟩
        replace h := atE h
        refine s_rd (v := (Value.int .i64 (0 : Int))) (r_assign rfl rfl) ?_
        refine HL_nil ?_
        obtain ⟨vres_2_2, hs2, hr2, h⟩ := h
        exact HC_ret (show endQ prog f32 R .ret _ _ from ⟨_, res2 rfl (rv_cellN h2 underlying48 rfl sz48 hs2 hr2) (rv_tmp rfl), h⟩)
      · skip
        refine HC_seq ?_
        refine HC_region ?_
        refine s_rd (v := (Value.int .i64 (0 : Int))) (r_assign rfl rfl) ?_
        refine HL_nil ?_
        refine HC_block ?_
        obtain ⟨I1, m1, hI0, hr⟩ := h
        refine HC_loop (fun m1 E F => ∃ i_6 : Int, E 1 = (Value.pointer (some (Addr.mk b1 0 none))) ∧ E 2 = (Value.pointer (some (Addr.mk b2 0 none))) ∧ E 4 = (Value.pointer (some (Addr.mk b4 0 none))) ∧ E 6 = (Value.int .i64 i_6) ∧ I1 m1 i_6 F) m1 ⟨_, rfl, rfl, rfl, rfl, hI0⟩ ?_
        clear hI0; rintro m1 E F ⟨i_6, h1, h2, h4, h6, hI⟩
        have h := hr m1 i_6 F hI
        clear hr hI
        unfold b32L1 at h
        refine HC_seq ?_
        refine HC_seq ?_
        refine HC_region ?_
        refine s_rd (v := (Value.int .i64 i_6)) (r_move rfl h6) ?_
        refine s_rd (v := (Value.pointer (some (Addr.mk b1 1 none)))) (w_fieldAddr (a' := (Addr.mk b1 1 none)) h1 underlying48 rfl rfl sz46 rfl rfl) ?_
        obtain ⟨v_24, hc24, h⟩ := h
        refine s_rd (v := (Sl.v v_24)) (r_load1 rfl rfl underlying46 rfl hc24) ?_
        refine s_rd (v := (Value.int .i64 (v_24.len : Int))) (r_lenSl rfl rfl underlying46) ?_
        refine s_rd (v := (Value.bool (decide (i_6 < (v_24.len : Int))))) (r_lss rfl rfl rfl) ?_
        refine HL_nil ?_
        refine HC_cond (t := (decide (i_6 < (v_24.len : Int)))) rfl (fun hc => ?_) (fun hc => ?_)
        · replace h := h.1 (of_decide_eq_true hc)
          clear hc
          refine HC_skip ?_
          refine HC_seq ?_
          refine HC_block ?_
          refine HC_draw0 (by kernel_rfl) (fun hp => ?_)
          refine g_pu (i := 0) (v := (Value.pointer (some (Addr.mk b4 0 none)))) rfl (by kernel_rfl) (by kernel_rfl) (by kernel_rfl) (fun _ _ _ h => h) (fun _ => w_fieldAddr (a' := (Addr.mk b4 0 none)) h4 underlying48 rfl rfl sz45 rfl rfl) hp ?_
          obtain ⟨v_30, hc30, h⟩ := h
          refine g_rd (i := 1) (v := (Sl.v v_30)) rfl (by kernel_rfl) (by kernel_rfl) (by kernel_rfl) (fun _ _ _ h => h) (r_load1 rfl rfl underlying45 rfl hc30) hp (fun S1 q1 => ?_)
          replace hp := holdC (i := 1) (q1 _ (r_load1 rfl rfl underlying45 rfl hc30)) hp
          refine g_pu (i := 2) (v := (Value.pointer (some (Addr.mk b1 1 none)))) rfl (by kernel_rfl) (by kernel_rfl) (by kernel_rfl) (fun _ _ _ h => h) (fun _ => w_fieldAddr (a' := (Addr.mk b1 1 none)) h1 underlying48 rfl rfl sz46 rfl rfl) hp ?_
          obtain ⟨v_32, hc32, h⟩ := h
          refine g_rd (i := 3) (v := (Sl.v v_32)) rfl (by kernel_rfl) (by kernel_rfl) (by kernel_rfl) (fun _ _ _ h => h) (r_load1 rfl rfl underlying46 rfl hc32) hp (fun S3 q3 => ?_)
          replace hp := holdC (i := 3) (q3 _ (r_load1 rfl rfl underlying46 rfl hc32)) hp
          refine g_pu (i := 4) (v := (Value.int .i64 i_6)) rfl (by kernel_rfl) (by kernel_rfl) (by kernel_rfl) (fun _ _ _ h => h) (fun _ => r_move rfl h6) hp ?_
          obtain ⟨a34_, hb34, hl34, hu34, h⟩ := h
          refine g_pu (i := 5) (v := (Value.pointer (some (Addr.add a34_ (Int.toNat i_6 * 2))))) rfl (by kernel_rfl) (by kernel_rfl) (by kernel_rfl) (fun _ _ _ h => h) (fun _ => w_indexAddr rfl rfl underlying46 sz72 hb34 hl34 hu34) hp ?_
          refine g_pu (i := 6) (v := (Value.pointer (some (Addr.add a34_ (Int.toNat i_6 * 2))))) rfl (by kernel_rfl) (by kernel_rfl) (by kernel_rfl) (fun _ _ _ h => h) (fun _ => w_fieldAddr (a' := (Addr.add a34_ (Int.toNat i_6 * 2))) rfl underlying72 rfl rfl sz3 rfl rfl) hp ?_
          obtain ⟨v_36, hc36, h⟩ := h
          refine g_rd (i := 7) (v := (Value.int .i64 v_36)) rfl (by kernel_rfl) (by kernel_rfl) (by kernel_rfl) (fun _ _ _ h => h) (r_load1 rfl rfl underlying3 rfl hc36) hp (fun S7 q7 => ?_)
          replace hp := holdC (i := 7) (q7 _ (r_load1 rfl rfl underlying3 rfl hc36)) hp
          refine g_pu (i := 8) (v := (Value.pointer (some (Addr.mk b1 1 none)))) rfl (by kernel_rfl) (by kernel_rfl) (by kernel_rfl) (fun _ _ _ h => h) (fun _ => w_fieldAddr (a' := (Addr.mk b1 1 none)) h1 underlying48 rfl rfl sz46 rfl rfl) hp ?_
          obtain ⟨v_38, hc38, h⟩ := h
          refine g_rd (i := 9) (v := (Sl.v v_38)) rfl (by kernel_rfl) (by kernel_rfl) (by kernel_rfl) (fun _ _ _ h => h) (r_load1 rfl rfl underlying46 rfl hc38) hp (fun S9 q9 => ?_)
          replace hp := holdC (i := 9) (q9 _ (r_load1 rfl rfl underlying46 rfl hc38)) hp
          refine g_pu (i := 10) (v := (Value.int .i64 i_6)) rfl (by kernel_rfl) (by kernel_rfl) (by kernel_rfl) (fun _ _ _ h => h) (fun _ => r_move rfl h6) hp ?_
          obtain ⟨a40_, hb40, hl40, hu40, h⟩ := h
          refine g_pu (i := 11) (v := (Value.pointer (some (Addr.add a40_ (Int.toNat i_6 * 2))))) rfl (by kernel_rfl) (by kernel_rfl) (by kernel_rfl) (fun _ _ _ h => h) (fun _ => w_indexAddr rfl rfl underlying46 sz72 hb40 hl40 hu40) hp ?_
          refine g_pu (i := 12) (v := (Value.pointer (some (Addr.add (Addr.add a40_ (Int.toNat i_6 * 2)) 1)))) rfl (by kernel_rfl) (by kernel_rfl) (by kernel_rfl) (fun _ _ _ h => h) (fun _ => w_fieldAddr (a' := (Addr.add (Addr.add a40_ (Int.toNat i_6 * 2)) 1)) rfl underlying72 rfl rfl sz26 rfl rfl) hp ?_
          obtain ⟨v_42, hc42, h⟩ := h
          refine g_rd (i := 13) (v := (Sl.v v_42)) rfl (by kernel_rfl) (by kernel_rfl) (by kernel_rfl) (fun _ _ _ h => h) (r_load1 rfl rfl underlying26 rfl hc42) hp (fun S13 q13 => ?_)
          replace hp := holdC (i := 13) (q13 _ (r_load1 rfl rfl underlying26 rfl hc42)) hp
          obtain ⟨a43_, hb43, hl43, hu43, h⟩ := h
          refine g_pu (i := 14) (v := (Value.pointer (some (Addr.add a43_ (Int.toNat v_36 * 1))))) rfl (by kernel_rfl) (by kernel_rfl) (by kernel_rfl) (fun _ _ _ h => h) (fun _ => w_indexAddr rfl rfl underlying45 sz26 hb43 hl43 hu43) hp ?_
          refine RG_eff1 (i := 15) (by kernel_rfl) (g_op0 (Sp' := []) rfl rfl (k_store1 (v := (Sl.v v_42)) rfl rfl sz26 rfl st_sl ?_))
          obtain ⟨c, e, hz3, hz4, hz5, h⟩ := h
          refine ⟨c, e, hz3, hz4, hz5, ?_⟩
          replace h := atE h
          refine holdI hold0 (fun hp => ?_)
          refine RG_done (by kernel_rfl) ?_
          refine HC_region ?_
          refine s_rd (v := (Value.int .i64 i_6)) (r_move rfl h6) ?_
          refine s_rd (v := (Value.int .i64 (IntKind.i64.wrap (i_6 + (1 : Int))))) (r_add rfl rfl rfl) ?_
          refine s_rd (v := (Value.int .i64 (IntKind.i64.wrap (i_6 + (1 : Int))))) (r_assign rfl rfl) ?_
          refine HL_nil ?_
          obtain ⟨m', hm, h⟩ := h
          exact ⟨m', hm, _, h1, h2, h4, rfl, h⟩
        · replace h := h.2 (of_decide_eq_false hc)
          clear hc
          refine HC_exit ?_
          show b32J1 b2 b4 R _ _
          exact ⟨h2, h4, h⟩

/- 33 (koine.koineref34.State).Crash -/
def b33j1 (b4 : Nat) (b5 : Nat) (R : Value → PH → Prop) (F : PH) : Prop :=
  ∃ v_54 : Array Value, v_54.size = 5 ∧ F.row (Addr.mk b5 0 none) v_54 ∧
  v_54.size = 5 ∧ (∀ v ∈ v_54.toList, storable v) ∧ ∃ c e, F (Addr.mk b4 0 none).block = some (.cells c e (0, 0)) ∧ (Addr.mk b4 0 none).spot = none ∧ (Addr.mk b4 0 none).off + 5 ≤ c.size ∧
  atF (F.set (Addr.mk b4 0 none).block (.cells (wr c (Addr.mk b4 0 none).off v_54.toList) e)) fun F =>
  ∃ vres_4_1 : Array Value, vres_4_1.size = 5 ∧ F.row (Addr.mk b4 0 none) vres_4_1 ∧ R (Value.agg vres_4_1) F
abbrev b33J1 (b4 : Nat) (b5 : Nat) (R : Value → PH → Prop) (E : En) (F : PH) : Prop := E 4 = (Value.pointer (some (Addr.mk b4 0 none))) ∧ E 5 = (Value.pointer (some (Addr.mk b5 0 none))) ∧ b33j1 b4 b5 R F
def b33j2 (N1 : Int → PH → Prop) (kept_1 : Sl) (b2 : Nat) (b4 : Nat) (b5 : Nat) (i_6 : Int) (k_7 : Int) (R : Value → PH → Prop) (F : PH) : Prop :=
  ∃ v_35 : Sl, F.cell (Addr.mk b2 1 none) = some (Sl.v v_35) ∧
  ∃ a37_ : Addr, v_35.base = some a37_ ∧ 0 ≤ i_6 ∧ i_6 < (v_35.len : Int) ∧
  ∃ v_38 : Array Value, v_38.size = 2 ∧ F.row (Addr.add a37_ (Int.toNat i_6 * 2)) v_38 ∧
  ∀ b8, F b8 = none → atF (F.set b8 (.cells (#[Value.int .i64 0, Value.slice none 0 0]) 72)) fun F =>
  v_38.size = 2 ∧ (∀ v ∈ v_38.toList, storable v) ∧ ∃ c e, F (Addr.mk b8 0 none).block = some (.cells c e (0, 0)) ∧ (Addr.mk b8 0 none).spot = none ∧ (Addr.mk b8 0 none).off + 2 ≤ c.size ∧
  atF (F.set (Addr.mk b8 0 none).block (.cells (wr c (Addr.mk b8 0 none).off v_38.toList) e)) fun F =>
  ∃ v_40 : Sl, F.cell (Addr.mk b5 0 none) = some (Sl.v v_40) ∧
  ∃ v_42 : Int, F.cell (Addr.mk b8 0 none) = some (Value.int .i64 v_42) ∧
  ∃ v_44 : Sl, F.cell (Addr.mk b5 0 none) = some (Sl.v v_44) ∧
  ∃ v_46 : Int, F.cell (Addr.mk b8 0 none) = some (Value.int .i64 v_46) ∧
  ∃ a47_ : Addr, v_44.base = some a47_ ∧ 0 ≤ v_46 ∧ v_46 < (v_44.len : Int) ∧
  ∃ v_48 : Sl, F.cell (Addr.add a47_ (Int.toNat v_46 * 1)) = some (Sl.v v_48) ∧
  ∃ v_50 : Sl, F.cell (Addr.mk b8 1 none) = some (Sl.v v_50) ∧
  Spec prog 39 #[(Sl.v v_48), (Sl.v v_50), (Value.int .i64 k_7)] F fun v F => ∃ v_52 : Sl, v = (Sl.v v_52) ∧
  F.cell (Addr.mk b8 0 none) = some (Value.int .i64 v_46) ∧ F.cell (Addr.mk b5 0 none) = some (Sl.v v_44) ∧ F.cell (Addr.mk b8 0 none) = some (Value.int .i64 v_42) ∧ F.cell (Addr.mk b5 0 none) = some (Sl.v v_40) ∧ ∃ a53_ : Addr, v_40.base = some a53_ ∧ 0 ≤ v_42 ∧ v_42 < (v_40.len : Int) ∧
  ∃ c e, F (Addr.add a53_ (Int.toNat v_42 * 1)).block = some (.cells c e (0, 0)) ∧ (Addr.add a53_ (Int.toNat v_42 * 1)).spot = none ∧ (Addr.add a53_ (Int.toNat v_42 * 1)).off < c.size ∧
  atF (F.set (Addr.add a53_ (Int.toNat v_42 * 1)).block (.cells (c.setIfInBounds (Addr.add a53_ (Int.toNat v_42 * 1)).off (Sl.v v_52)) e)) fun F =>
  N1 (IntKind.i64.wrap (i_6 + (1 : Int))) F
abbrev b33J2 (N1 : Int → PH → Prop) (kept_1 : Sl) (b2 : Nat) (b4 : Nat) (b5 : Nat) (i_6 : Int) (R : Value → PH → Prop) (E : En) (F : PH) : Prop := ∃ k_7 : Int, E 1 = (Sl.v kept_1) ∧ E 2 = (Value.pointer (some (Addr.mk b2 0 none))) ∧ E 4 = (Value.pointer (some (Addr.mk b4 0 none))) ∧ E 5 = (Value.pointer (some (Addr.mk b5 0 none))) ∧ E 6 = (Value.int .i64 i_6) ∧ E 7 = (Value.int .i64 k_7) ∧ b33j2 N1 kept_1 b2 b4 b5 i_6 k_7 R F
def b33L1 (N1 : Int → PH → Prop) (kept_1 : Sl) (b2 : Nat) (b4 : Nat) (b5 : Nat) (R : Value → PH → Prop) (i_6 : Int) (F : PH) : Prop :=
  ∃ v_19 : Sl, F.cell (Addr.mk b2 1 none) = some (Sl.v v_19) ∧
  ((i_6 < (v_19.len : Int) →
    ((i_6 < (kept_1.len : Int) →
      ∃ a30_ : Addr, kept_1.base = some a30_ ∧ 0 ≤ i_6 ∧ i_6 < (kept_1.len : Int) ∧
      ∃ v_31 : Int, F.cell (Addr.add a30_ (Int.toNat i_6 * 1)) = some (Value.int .i64 v_31) ∧
      b33j2 N1 kept_1 b2 b4 b5 i_6 (min (max v_31 (0 : Int)) (64 : Int)) R F) ∧
    (¬ (i_6 < (kept_1.len : Int)) →
      b33j2 N1 kept_1 b2 b4 b5 i_6 (0 : Int) R F))) ∧
  (¬ (i_6 < (v_19.len : Int)) →
    b33j1 b4 b5 R F))
def b33 (s_0 : Array Value) (kept_1 : Sl) (R : Value → PH → Prop) (F : PH) : Prop :=
  ∀ b2, F b2 = none → atF (F.set b2 (.cells s_0 48)) fun F =>
  ∀ b4, F b4 = none → atF (F.set b4 (.cells (#[Value.slice none 0 0, Value.slice none 0 0, Value.bool false, Value.int .i64 0, Value.slice none 0 0]) 48)) fun F =>
  ∃ v_10 : Bool, F.cell (Addr.mk b2 2 none) = some (Value.bool v_10) ∧
  ((v_10 = true →
    ∃ v_11 : Array Value, v_11.size = 5 ∧ F.row (Addr.mk b2 0 none) v_11 ∧
    v_11.size = 5 ∧ (∀ v ∈ v_11.toList, storable v) ∧ ∃ c e, F (Addr.mk b4 0 none).block = some (.cells c e (0, 0)) ∧ (Addr.mk b4 0 none).spot = none ∧ (Addr.mk b4 0 none).off + 5 ≤ c.size ∧
    atF (F.set (Addr.mk b4 0 none).block (.cells (wr c (Addr.mk b4 0 none).off v_11.toList) e)) fun F =>
    ∃ vres_4 : Array Value, vres_4.size = 5 ∧ F.row (Addr.mk b4 0 none) vres_4 ∧ R (Value.agg vres_4) F) ∧
  (v_10 = false →
    ∀ b12, F b12 = none → atF (F.set b12 (.cells #[] 26)) fun F =>
    ∃ v_14 : Sl, F.cell (Addr.mk b2 0 none) = some (Sl.v v_14) ∧
    runs prog (Builtin.append_ #[45, 45] 45 #[(Sl.v (Sl.mk (some (Addr.mk b12 0 none)) 0 0)), (Sl.v v_14)]) F fun v F => ∃ v_15 : Sl, v = (Sl.v v_15) ∧
    ∀ b5, F b5 = none → atF (F.set b5 (.cells (#[Value.slice none 0 0, Value.slice none 0 0, Value.bool false, Value.int .i64 0, Value.slice none 0 0]) 48)) fun F =>
    (#[(Sl.v v_15), Value.slice none 0 0, (Value.bool true), Value.int .i64 0, Value.slice none 0 0] : Array Value).size = 5 ∧ (∀ v ∈ (#[(Sl.v v_15), Value.slice none 0 0, (Value.bool true), Value.int .i64 0, Value.slice none 0 0] : Array Value).toList, storable v) ∧ ∃ c e, F (Addr.mk b5 0 none).block = some (.cells c e (0, 0)) ∧ (Addr.mk b5 0 none).spot = none ∧ (Addr.mk b5 0 none).off + 5 ≤ c.size ∧
    atF (F.set (Addr.mk b5 0 none).block (.cells (wr c (Addr.mk b5 0 none).off (#[(Sl.v v_15), Value.slice none 0 0, (Value.bool true), Value.int .i64 0, Value.slice none 0 0] : Array Value).toList) e)) fun F =>
    (∃ (I1 : Nat → Int → PH → Prop) (m1 : Nat), I1 m1 (0 : Int) F ∧ ∀ m1 i_6 F, I1 m1 i_6 F →
      b33L1 (fun i_6 F => ∃ m', m' < m1 ∧ I1 m' i_6 F) kept_1 b2 b4 b5 R i_6 F)))
theorem c33 {s_0 : Array Value} {kept_1 : Sl} {R : Value → PH → Prop} {F : PH} (h : b33 s_0 kept_1 R F) : Spec prog 33 #[(Value.agg s_0), (Sl.v kept_1)] F R := by
  refine spec_of (args := [(Value.agg s_0), (Sl.v kept_1)]) func33 rfl ntmps33 rfl ?_
  unfold b33 at h
  refine HC_seq ?_
  refine HC_region ?_
  refine s_ef (k_box (cs := s_0) rfl rfl ?_)
  intro b2 hf_b2
  replace h := atE (h b2 hf_b2)
  refine s_ef (k_alloc zr48 ?_)
  intro b4 hf_b4
  replace h := atE (h b4 hf_b4)
  refine HL_nil ?_
  refine HC_seq ?_
  refine HC_seq ?_
  refine HC_region ?_
  refine s_rd (v := (Value.pointer (some (Addr.mk b2 2 none)))) (w_fieldAddr (a' := (Addr.mk b2 2 none)) rfl underlying48 rfl rfl sz4 rfl rfl) ?_
  obtain ⟨v_10, hc10, h⟩ := h
  refine s_rd (v := (Value.bool v_10)) (r_load1 rfl rfl underlying4 rfl hc10) ?_
  refine HL_nil ?_
  refine HC_cond (t := v_10) rfl (fun hc => ?_) (fun hc => ?_)
  · replace h := h.1 hc
    clear hc
    refine HC_seq ?_
    refine HC_region ?_
    obtain ⟨v_11, hs11, hc11, h⟩ := h
    refine s_rd (v := (Value.agg v_11)) (w_loadN rfl underlying48 rfl sz48 hs11 hc11) ?_
    refine s_ef0 (k_storeN (vs := v_11) rfl rfl sz48 (by decide) ?_)
    obtain ⟨hz1, hz2, c, e, hz3, hz4, hz5, h⟩ := h
    refine ⟨hz1, hz2, c, e, hz3, hz4, hz5, ?_⟩
    replace h := atE h
    refine HL_nil ?_
    obtain ⟨vres_4, hs4, hr4, h⟩ := h
    exact HC_ret (show endQ prog f33 R .ret _ _ from ⟨_, res1 rfl (rv_cellN rfl underlying48 rfl sz48 hs4 hr4), h⟩)
  · replace h := h.2 hc
    clear hc
    refine HC_skip ?_
    refine HC_seq ?_
    refine HC_region ?_
    refine s_ef (k_buildSeq (l := []) underlying45 sz26 (by decide) zr26 rfl rfl trivial evPN ?_)
    intro b12 hf_b12
    replace h := atE (h b12 hf_b12)
    refine s_rd (v := (Value.pointer (some (Addr.mk b2 0 none)))) (w_fieldAddr (a' := (Addr.mk b2 0 none)) rfl underlying48 rfl rfl sz45 rfl rfl) ?_
    obtain ⟨v_14, hc14, h⟩ := h
    refine s_rd (v := (Sl.v v_14)) (r_load1 rfl rfl underlying45 rfl hc14) ?_
    refine s_ef (k_append rfl rfl (runs_mono _ _ h ?_))
    clear h; rintro v F ⟨v_15, rfl, h⟩
    refine s_rd (v := (Value.agg (#[(Sl.v v_15), Value.slice none 0 0, (Value.bool true), Value.int .i64 0, Value.slice none 0 0] : Array Value))) (w_buildStruct (cells := #[(Sl.v v_15), Value.slice none 0 0, (Value.bool true), Value.int .i64 0, Value.slice none 0 0]) underlying48 zr48 kf48 (evPC rfl (evPC rfl evPN)) (fill1 (place_of rfl rfl sz4) rfl rfl (fill1 (place_of rfl rfl sz45) rfl rfl (fillN rfl)))) ?_
    refine s_ef (k_alloc zr48 ?_)
    intro b5 hf_b5
    replace h := atE (h b5 hf_b5)
    refine s_ef0 (k_storeN (vs := (#[(Sl.v v_15), Value.slice none 0 0, (Value.bool true), Value.int .i64 0, Value.slice none 0 0] : Array Value)) rfl rfl sz48 (by decide) ?_)
    obtain ⟨hz1, hz2, c, e, hz3, hz4, hz5, h⟩ := h
    refine ⟨hz1, hz2, c, e, hz3, hz4, hz5, ?_⟩
    replace h := atE h
    refine HL_nil ?_
    refine HC_seqJ (b33J1 b4 b5 R) ?_ ?_
    · clear h; rintro E F ⟨h4, h5, h⟩
      unfold b33j1 at h
      refine HC_seq ?_
      refine HC_region ?_
      obtain ⟨v_54, hs54, hc54, h⟩ := h
      refine s_rd (v := (Value.agg v_54)) (w_loadN h5 underlying48 rfl sz48 hs54 hc54) ?_
      refine s_ef0 (k_storeN (vs := v_54) h4 rfl sz48 (by decide) ?_)
      obtain ⟨hz1, hz2, c, e, hz3, hz4, hz5, h⟩ := h
      refine ⟨hz1, hz2, c, e, hz3, hz4, hz5, ?_⟩
      replace h := atE h
      refine HL_nil ?_
      obtain ⟨vres_4_1, hs4, hr4, h⟩ := h
      exact HC_ret (show endQ prog f33 R .ret _ _ from ⟨_, res1 rfl (rv_cellN h4 underlying48 rfl sz48 hs4 hr4), h⟩)
    · skip
      refine HC_seq ?_
      refine HC_region ?_
      refine s_rd (v := (Value.int .i64 (0 : Int))) (r_assign rfl rfl) ?_
      refine HL_nil ?_
      refine HC_block ?_
      obtain ⟨I1, m1, hI0, hr⟩ := h
      refine HC_loop (fun m1 E F => ∃ i_6 : Int, E 1 = (Sl.v kept_1) ∧ E 2 = (Value.pointer (some (Addr.mk b2 0 none))) ∧ E 4 = (Value.pointer (some (Addr.mk b4 0 none))) ∧ E 5 = (Value.pointer (some (Addr.mk b5 0 none))) ∧ E 6 = (Value.int .i64 i_6) ∧ I1 m1 i_6 F) m1 ⟨_, rfl, rfl, rfl, rfl, rfl, hI0⟩ ?_
      clear hI0; rintro m1 E F ⟨i_6, h1, h2, h4, h5, h6, hI⟩
      have h := hr m1 i_6 F hI
      clear hr hI
      unfold b33L1 at h
      refine HC_seq ?_
      refine HC_seq ?_
      refine HC_region ?_
      refine s_rd (v := (Value.int .i64 i_6)) (r_move rfl h6) ?_
      refine s_rd (v := (Value.pointer (some (Addr.mk b2 1 none)))) (w_fieldAddr (a' := (Addr.mk b2 1 none)) h2 underlying48 rfl rfl sz46 rfl rfl) ?_
      obtain ⟨v_19, hc19, h⟩ := h
      refine s_rd (v := (Sl.v v_19)) (r_load1 rfl rfl underlying46 rfl hc19) ?_
      refine s_rd (v := (Value.int .i64 (v_19.len : Int))) (r_lenSl rfl rfl underlying46) ?_
      refine s_rd (v := (Value.bool (decide (i_6 < (v_19.len : Int))))) (r_lss rfl rfl rfl) ?_
      refine HL_nil ?_
      refine HC_cond (t := (decide (i_6 < (v_19.len : Int)))) rfl (fun hc => ?_) (fun hc => ?_)
      · replace h := h.1 (of_decide_eq_true hc)
        clear hc
        refine HC_skip ?_
        refine HC_seq ?_
        refine HC_block ?_
        refine HC_seq ?_
        refine HC_region ?_
        refine s_rd (v := (Value.int .i64 (0 : Int))) (r_assign rfl rfl) ?_
        refine HL_nil ?_
        refine HC_seqJ (b33J2 (fun i_6 F => ∃ m', m' < m1 ∧ I1 m' i_6 F) kept_1 b2 b4 b5 i_6 R) ?_ ?_
        · clear h; rintro E F ⟨k_7, h1, h2, h4, h5, h6, h7, h⟩
          unfold b33j2 at h
          refine HC_seq ?_
          refine HC_region ?_
          refine s_rd (v := (Value.pointer (some (Addr.mk b2 1 none)))) (w_fieldAddr (a' := (Addr.mk b2 1 none)) h2 underlying48 rfl rfl sz46 rfl rfl) ?_
          obtain ⟨v_35, hc35, h⟩ := h
          refine s_rd (v := (Sl.v v_35)) (r_load1 rfl rfl underlying46 rfl hc35) ?_
          refine s_rd (v := (Value.int .i64 i_6)) (r_move rfl h6) ?_
          obtain ⟨a37_, hb37, hl37, hu37, h⟩ := h
          refine s_rd (v := (Value.pointer (some (Addr.add a37_ (Int.toNat i_6 * 2))))) (w_indexAddr rfl rfl underlying46 sz72 hb37 hl37 hu37) ?_
          obtain ⟨v_38, hs38, hc38, h⟩ := h
          refine s_rd (v := (Value.agg v_38)) (w_loadN rfl underlying72 rfl sz72 hs38 hc38) ?_
          refine s_ef (k_alloc zr72 ?_)
          intro b8 hf_b8
          replace h := atE (h b8 hf_b8)
          refine s_ef0 (k_storeN (vs := v_38) rfl rfl sz72 (by decide) ?_)
          obtain ⟨hz1, hz2, c, e, hz3, hz4, hz5, h⟩ := h
          refine ⟨hz1, hz2, c, e, hz3, hz4, hz5, ?_⟩
          replace h := atE h
          refine HL_nil ?_
          refine HC_draw0 (by kernel_rfl) (fun hp => ?_)
          refine g_pu (i := 0) (v := (Value.pointer (some (Addr.mk b5 0 none)))) rfl (by kernel_rfl) (by kernel_rfl) (by kernel_rfl) (fun _ _ _ h => h) (fun _ => w_fieldAddr (a' := (Addr.mk b5 0 none)) h5 underlying48 rfl rfl sz45 rfl rfl) hp ?_
          obtain ⟨v_40, hc40, h⟩ := h
          refine g_rd (i := 1) (v := (Sl.v v_40)) rfl (by kernel_rfl) (by kernel_rfl) (by kernel_rfl) (fun _ _ _ h => h) (r_load1 rfl rfl underlying45 rfl hc40) hp (fun S1 q1 => ?_)
          replace hp := holdC (i := 1) (q1 _ (r_load1 rfl rfl underlying45 rfl hc40)) hp
          refine g_pu (i := 2) (v := (Value.pointer (some (Addr.mk b8 0 none)))) rfl (by kernel_rfl) (by kernel_rfl) (by kernel_rfl) (fun _ _ _ h => h) (fun _ => w_fieldAddr (a' := (Addr.mk b8 0 none)) rfl underlying72 rfl rfl sz3 rfl rfl) hp ?_
          obtain ⟨v_42, hc42, h⟩ := h
          refine g_rd (i := 3) (v := (Value.int .i64 v_42)) rfl (by kernel_rfl) (by kernel_rfl) (by kernel_rfl) (fun _ _ _ h => h) (r_load1 rfl rfl underlying3 rfl hc42) hp (fun S3 q3 => ?_)
          replace hp := holdC (i := 3) (q3 _ (r_load1 rfl rfl underlying3 rfl hc42)) hp
          refine g_pu (i := 4) (v := (Value.pointer (some (Addr.mk b5 0 none)))) rfl (by kernel_rfl) (by kernel_rfl) (by kernel_rfl) (fun _ _ _ h => h) (fun _ => w_fieldAddr (a' := (Addr.mk b5 0 none)) h5 underlying48 rfl rfl sz45 rfl rfl) hp ?_
          obtain ⟨v_44, hc44, h⟩ := h
          refine g_rd (i := 5) (v := (Sl.v v_44)) rfl (by kernel_rfl) (by kernel_rfl) (by kernel_rfl) (fun _ _ _ h => h) (r_load1 rfl rfl underlying45 rfl hc44) hp (fun S5 q5 => ?_)
          replace hp := holdC (i := 5) (q5 _ (r_load1 rfl rfl underlying45 rfl hc44)) hp
          refine g_pu (i := 6) (v := (Value.pointer (some (Addr.mk b8 0 none)))) rfl (by kernel_rfl) (by kernel_rfl) (by kernel_rfl) (fun _ _ _ h => h) (fun _ => w_fieldAddr (a' := (Addr.mk b8 0 none)) rfl underlying72 rfl rfl sz3 rfl rfl) hp ?_
          obtain ⟨v_46, hc46, h⟩ := h
          refine g_rd (i := 7) (v := (Value.int .i64 v_46)) rfl (by kernel_rfl) (by kernel_rfl) (by kernel_rfl) (fun _ _ _ h => h) (r_load1 rfl rfl underlying3 rfl hc46) hp (fun S7 q7 => ?_)
          replace hp := holdC (i := 7) (q7 _ (r_load1 rfl rfl underlying3 rfl hc46)) hp
          obtain ⟨a47_, hb47, hl47, hu47, h⟩ := h
          refine g_pu (i := 8) (v := (Value.pointer (some (Addr.add a47_ (Int.toNat v_46 * 1))))) rfl (by kernel_rfl) (by kernel_rfl) (by kernel_rfl) (fun _ _ _ h => h) (fun _ => w_indexAddr rfl rfl underlying45 sz26 hb47 hl47 hu47) hp ?_
          obtain ⟨v_48, hc48, h⟩ := h
          refine g_rd (i := 9) (v := (Sl.v v_48)) rfl (by kernel_rfl) (by kernel_rfl) (by kernel_rfl) (fun _ _ _ h => h) (r_load1 rfl rfl underlying26 rfl hc48) hp (fun S9 q9 => ?_)
          replace hp := holdC (i := 9) (q9 _ (r_load1 rfl rfl underlying26 rfl hc48)) hp
          refine g_pu (i := 10) (v := (Value.pointer (some (Addr.mk b8 1 none)))) rfl (by kernel_rfl) (by kernel_rfl) (by kernel_rfl) (fun _ _ _ h => h) (fun _ => w_fieldAddr (a' := (Addr.mk b8 1 none)) rfl underlying72 rfl rfl sz26 rfl rfl) hp ?_
          obtain ⟨v_50, hc50, h⟩ := h
          refine g_rd (i := 11) (v := (Sl.v v_50)) rfl (by kernel_rfl) (by kernel_rfl) (by kernel_rfl) (fun _ _ _ h => h) (r_load1 rfl rfl underlying26 rfl hc50) hp (fun S11 q11 => ?_)
          replace hp := holdC (i := 11) (q11 _ (r_load1 rfl rfl underlying26 rfl hc50)) hp
          refine g_pu (i := 12) (v := (Value.int .i64 k_7)) rfl (by kernel_rfl) (by kernel_rfl) (by kernel_rfl) (fun _ _ _ h => h) (fun _ => r_move rfl h7) hp ?_
          refine RG_eff1 (i := 13) (by kernel_rfl) (g_op (Sp' := [(7, S7), (5, S5), (3, S3), (1, S1)]) rfl rfl (k_call (vs := [(Sl.v v_48), (Sl.v v_50), (Value.int .i64 k_7)]) cb39 (evC rfl (evC rfl (evC rfl evN))) (h.mono ?_)))
          clear h; rintro v F ⟨v_52, rfl, h⟩
          obtain ⟨hc46', hc44', hc42', hc40', h⟩ := h
          refine holdI (holdC (i := 7) (q7 _ (r_load1 rfl rfl underlying3 rfl hc46')) (holdC (i := 5) (q5 _ (r_load1 rfl rfl underlying45 rfl hc44')) (holdC (i := 3) (q3 _ (r_load1 rfl rfl underlying3 rfl hc42')) (holdC (i := 1) (q1 _ (r_load1 rfl rfl underlying45 rfl hc40')) hold0)))) (fun hp => ?_)
          obtain ⟨a53_, hb53, hl53, hu53, h⟩ := h
          refine g_pu (i := 14) (v := (Value.pointer (some (Addr.add a53_ (Int.toNat v_42 * 1))))) rfl (by kernel_rfl) (by kernel_rfl) (by kernel_rfl) (fun _ _ _ h => h) (fun _ => w_indexAddr rfl rfl underlying45 sz26 hb53 hl53 hu53) hp ?_
          refine RG_eff1 (i := 15) (by kernel_rfl) (g_op0 (Sp' := []) rfl rfl (k_store1 (v := (Sl.v v_52)) rfl rfl sz26 rfl st_sl ?_))
          obtain ⟨c, e, hz3, hz4, hz5, h⟩ := h
          refine ⟨c, e, hz3, hz4, hz5, ?_⟩
          replace h := atE h
          refine holdI hold0 (fun hp => ?_)
          refine RG_done (by kernel_rfl) ?_
          refine HC_region ?_
          refine s_rd (v := (Value.int .i64 i_6)) (r_move rfl h6) ?_
          refine s_rd (v := (Value.int .i64 (IntKind.i64.wrap (i_6 + (1 : Int))))) (r_add rfl rfl rfl) ?_
          refine s_rd (v := (Value.int .i64 (IntKind.i64.wrap (i_6 + (1 : Int))))) (r_assign rfl rfl) ?_
          refine HL_nil ?_
          obtain ⟨m', hm, h⟩ := h
          exact ⟨m', hm, _, h1, h2, h4, h5, rfl, h⟩
        · skip
          refine HC_seq ?_
          refine HC_region ?_
          refine s_rd (v := (Value.int .i64 i_6)) (r_move rfl h6) ?_
          refine s_rd (v := (Sl.v kept_1)) (r_move rfl h1) ?_
          refine s_rd (v := (Value.int .i64 (kept_1.len : Int))) (r_lenSl rfl rfl underlying37) ?_
          refine s_rd (v := (Value.bool (decide (i_6 < (kept_1.len : Int))))) (r_lss rfl rfl rfl) ?_
          refine HL_nil ?_
          refine HC_cond (t := (decide (i_6 < (kept_1.len : Int)))) rfl (fun hc => ?_) (fun hc => ?_)
          · replace h := h.1 (of_decide_eq_true hc)
            clear hc
            refine HC_region ?_
            refine s_rd (v := (Sl.v kept_1)) (r_move rfl h1) ?_
            refine s_rd (v := (Value.int .i64 i_6)) (r_move rfl h6) ?_
            obtain ⟨a30_, hb30, hl30, hu30, h⟩ := h
            refine s_rd (v := (Value.pointer (some (Addr.add a30_ (Int.toNat i_6 * 1))))) (w_indexAddr rfl rfl underlying37 sz3 hb30 hl30 hu30) ?_
            obtain ⟨v_31, hc31, h⟩ := h
            refine s_rd (v := (Value.int .i64 v_31)) (r_load1 rfl rfl underlying3 rfl hc31) ?_
            refine s_rd (v := (Value.int .i64 (max v_31 (0 : Int)))) (r_max2 rfl rfl rfl) ?_
            refine s_rd (v := (Value.int .i64 (min (max v_31 (0 : Int)) (64 : Int)))) (r_min2 rfl rfl rfl) ?_
            refine s_rd (v := (Value.int .i64 (min (max v_31 (0 : Int)) (64 : Int)))) (r_assign rfl rfl) ?_
            refine HL_nil ?_
            show b33J2 (fun i_6 F => ∃ m', m' < m1 ∧ I1 m' i_6 F) kept_1 b2 b4 b5 i_6 R _ _
            exact ⟨_, h1, h2, h4, h5, h6, rfl, h⟩
          · replace h := h.2 (of_decide_eq_false hc)
            clear hc
            refine HC_skip ?_
            show b33J2 (fun i_6 F => ∃ m', m' < m1 ∧ I1 m' i_6 F) kept_1 b2 b4 b5 i_6 R _ _
            exact ⟨_, h1, h2, h4, h5, h6, rfl, h⟩
      · replace h := h.2 (of_decide_eq_false hc)
        clear hc
        refine HC_exit ?_
        show b33J1 b4 b5 R _ _
        exact ⟨h4, h5, h⟩

/- 34 (koine.koineref34.State).Write -/
def b34j1 (at_1 : Int) (data_2 : Sl) (b3 : Nat) (b6 : Nat) (v_23 : Bool) (R : Value → PH → Prop) (F : PH) : Prop :=
  ((v_23 = true →
    ∃ v_24 : Array Value, v_24.size = 5 ∧ F.row (Addr.mk b3 0 none) v_24 ∧
    v_24.size = 5 ∧ (∀ v ∈ v_24.toList, storable v) ∧ ∃ c e, F (Addr.mk b6 0 none).block = some (.cells c e (0, 0)) ∧ (Addr.mk b6 0 none).spot = none ∧ (Addr.mk b6 0 none).off + 5 ≤ c.size ∧
    atF (F.set (Addr.mk b6 0 none).block (.cells (wr c (Addr.mk b6 0 none).off v_24.toList) e)) fun F =>
    ∃ vres_6 : Array Value, vres_6.size = 5 ∧ F.row (Addr.mk b6 0 none) vres_6 ∧ R (Value.tuple #[(Value.agg vres_6), (Value.int .i64 (1 : Int))]) F) ∧
  (v_23 = false →
    ∃ v_26 : Bool, F.cell (Addr.mk b3 2 none) = some (Value.bool v_26) ∧
    ((v_26 = true →
      ∃ v_27 : Array Value, v_27.size = 5 ∧ F.row (Addr.mk b3 0 none) v_27 ∧
      v_27.size = 5 ∧ (∀ v ∈ v_27.toList, storable v) ∧ ∃ c e, F (Addr.mk b6 0 none).block = some (.cells c e (0, 0)) ∧ (Addr.mk b6 0 none).spot = none ∧ (Addr.mk b6 0 none).off + 5 ≤ c.size ∧
      atF (F.set (Addr.mk b6 0 none).block (.cells (wr c (Addr.mk b6 0 none).off v_27.toList) e)) fun F =>
      ∃ vres_6_1 : Array Value, vres_6_1.size = 5 ∧ F.row (Addr.mk b6 0 none) vres_6_1 ∧ R (Value.tuple #[(Value.agg vres_6_1), (Value.int .i64 (340 : Int))]) F) ∧
    (v_26 = false →
      ∃ v_29 : Array Value, v_29.size = 5 ∧ F.row (Addr.mk b3 0 none) v_29 ∧
      Spec prog 38 #[(Value.agg v_29)] F fun v F => ∃ v_30 : Array Value, ∃ v_30_1 : Bool, v = (Value.tuple #[(Value.agg v_30), (Value.bool v_30_1)]) ∧
      ∀ b8, F b8 = none → atF (F.set b8 (.cells (#[Value.slice none 0 0, Value.slice none 0 0, Value.bool false, Value.int .i64 0, Value.slice none 0 0]) 48)) fun F =>
      v_30.size = 5 ∧ (∀ v ∈ v_30.toList, storable v) ∧ ∃ c e, F (Addr.mk b8 0 none).block = some (.cells c e (0, 0)) ∧ (Addr.mk b8 0 none).spot = none ∧ (Addr.mk b8 0 none).off + 5 ≤ c.size ∧
      atF (F.set (Addr.mk b8 0 none).block (.cells (wr c (Addr.mk b8 0 none).off v_30.toList) e)) fun F =>
      ((v_30_1 = true →
        ∃ v_34 : Array Value, v_34.size = 5 ∧ F.row (Addr.mk b8 0 none) v_34 ∧
        v_34.size = 5 ∧ (∀ v ∈ v_34.toList, storable v) ∧ ∃ c e, F (Addr.mk b6 0 none).block = some (.cells c e (0, 0)) ∧ (Addr.mk b6 0 none).spot = none ∧ (Addr.mk b6 0 none).off + 5 ≤ c.size ∧
        atF (F.set (Addr.mk b6 0 none).block (.cells (wr c (Addr.mk b6 0 none).off v_34.toList) e)) fun F =>
        ∃ vres_6_2 : Array Value, vres_6_2.size = 5 ∧ F.row (Addr.mk b6 0 none) vres_6_2 ∧ R (Value.tuple #[(Value.agg vres_6_2), (Value.int .i64 (340 : Int))]) F) ∧
      (v_30_1 = false →
        ∀ b35, F b35 = none → atF (F.set b35 (.cells #[] 72)) fun F =>
        ∃ v_37 : Sl, F.cell (Addr.mk b3 1 none) = some (Sl.v v_37) ∧
        runs prog (Builtin.append_ #[46, 46] 46 #[(Sl.v (Sl.mk (some (Addr.mk b35 0 none)) 0 0)), (Sl.v v_37)]) F fun v F => ∃ v_38 : Sl, v = (Sl.v v_38) ∧
        ∀ b40, F b40 = none → atF (F.set b40 (.cells #[] 5)) fun F =>
        runs prog (Builtin.append_ #[26, 26] 26 #[(Sl.v (Sl.mk (some (Addr.mk b40 0 none)) 0 0)), (Sl.v data_2)]) F fun v F => ∃ v_42 : Sl, v = (Sl.v v_42) ∧
        (#[(Value.int .i64 at_1), (Sl.v v_42)] : Array Value).size = 2 ∧ ∀ b44, F b44 = none → atF (F.set b44 (.cells (#[(Value.int .i64 at_1), (Sl.v v_42)] : Array Value) 72)) fun F =>
        runs prog (Builtin.append_ #[46, 46] 46 #[(Sl.v v_38), (Sl.v (Sl.mk (some (Addr.mk b44 0 none)) 1 1))]) F fun v F => ∃ v_45 : Sl, v = (Sl.v v_45) ∧
        ∃ c e, F (Addr.mk b8 1 none).block = some (.cells c e (0, 0)) ∧ (Addr.mk b8 1 none).spot = none ∧ (Addr.mk b8 1 none).off < c.size ∧
        atF (F.set (Addr.mk b8 1 none).block (.cells (c.setIfInBounds (Addr.mk b8 1 none).off (Sl.v v_45)) e)) fun F =>
        ∃ v_47 : Array Value, v_47.size = 5 ∧ F.row (Addr.mk b8 0 none) v_47 ∧
        v_47.size = 5 ∧ (∀ v ∈ v_47.toList, storable v) ∧ ∃ c e, F (Addr.mk b6 0 none).block = some (.cells c e (0, 0)) ∧ (Addr.mk b6 0 none).spot = none ∧ (Addr.mk b6 0 none).off + 5 ≤ c.size ∧
        atF (F.set (Addr.mk b6 0 none).block (.cells (wr c (Addr.mk b6 0 none).off v_47.toList) e)) fun F =>
        ∃ vres_6_3 : Array Value, vres_6_3.size = 5 ∧ F.row (Addr.mk b6 0 none) vres_6_3 ∧ R (Value.tuple #[(Value.agg vres_6_3), (Value.int .i64 (0 : Int))]) F))))))
abbrev b34J1 (at_1 : Int) (data_2 : Sl) (b3 : Nat) (b6 : Nat) (R : Value → PH → Prop) (E : En) (F : PH) : Prop := ∃ v_23 : Bool, E 1 = (Value.int .i64 at_1) ∧ E 2 = (Sl.v data_2) ∧ E 3 = (Value.pointer (some (Addr.mk b3 0 none))) ∧ E 6 = (Value.pointer (some (Addr.mk b6 0 none))) ∧ E 23 = (Value.bool v_23) ∧ b34j1 at_1 data_2 b3 b6 v_23 R F
def b34 (s_0 : Array Value) (at_1 : Int) (data_2 : Sl) (R : Value → PH → Prop) (F : PH) : Prop :=
  ∀ b3, F b3 = none → atF (F.set b3 (.cells s_0 48)) fun F =>
  ∀ b6, F b6 = none → atF (F.set b6 (.cells (#[Value.slice none 0 0, Value.slice none 0 0, Value.bool false, Value.int .i64 0, Value.slice none 0 0]) 48)) fun F =>
  ((at_1 < (0 : Int) →
    b34j1 at_1 data_2 b3 b6 true R F) ∧
  (¬ (at_1 < (0 : Int)) →
    ∃ v_15 : Sl, F.cell (Addr.mk b3 0 none) = some (Sl.v v_15) ∧
    (((v_15.len : Int) ≤ at_1 →
      b34j1 at_1 data_2 b3 b6 true R F) ∧
    (¬ ((v_15.len : Int) ≤ at_1) →
      b34j1 at_1 data_2 b3 b6 (decide ((data_2.len : Int) ≠ (64 : Int))) R F))))
theorem c34 {s_0 : Array Value} {at_1 : Int} {data_2 : Sl} {R : Value → PH → Prop} {F : PH} (h : b34 s_0 at_1 data_2 R F) : Spec prog 34 #[(Value.agg s_0), (Value.int .i64 at_1), (Sl.v data_2)] F R := by
  refine spec_of (args := [(Value.agg s_0), (Value.int .i64 at_1), (Sl.v data_2)]) func34 rfl ntmps34 rfl ?_
  unfold b34 at h
  refine HC_seq ?_
  refine HC_region ?_
  refine s_ef (k_box (cs := s_0) rfl rfl ?_)
  intro b3 hf_b3
  replace h := atE (h b3 hf_b3)
  refine s_ef (k_alloc zr48 ?_)
  intro b6 hf_b6
  replace h := atE (h b6 hf_b6)
  refine s_rd (v := (Value.int .i64 (0 : Int))) (r_assign rfl rfl) ?_
  refine HL_nil ?_
  refine HC_seq ?_
  refine HC_seqJ (b34J1 at_1 data_2 b3 b6 R) ?_ ?_
  · clear h; rintro E F ⟨v_23, h1, h2, h3, h6, h23, h⟩
    unfold b34j1 at h
    refine HC_cond (t := v_23) h23 (fun hc => ?_) (fun hc => ?_)
    · replace h := h.1 hc
      clear hc
      refine HC_seq ?_
      refine HC_region ?_
      obtain ⟨v_24, hs24, hc24, h⟩ := h
      refine s_rd (v := (Value.agg v_24)) (w_loadN h3 underlying48 rfl sz48 hs24 hc24) ?_
      refine s_ef0 (k_storeN (vs := v_24) h6 rfl sz48 (by decide) ?_)
      obtain ⟨hz1, hz2, c, e, hz3, hz4, hz5, h⟩ := h
      refine ⟨hz1, hz2, c, e, hz3, hz4, hz5, ?_⟩
      replace h := atE h
      refine s_rd (v := (Value.int .i64 (1 : Int))) (r_assign rfl rfl) ?_
      refine HL_nil ?_
      obtain ⟨vres_6, hs6, hr6, h⟩ := h
      exact HC_ret (show endQ prog f34 R .ret _ _ from ⟨_, res2 rfl (rv_cellN h6 underlying48 rfl sz48 hs6 hr6) (rv_tmp rfl), h⟩)
    · replace h := h.2 hc
      clear hc
      refine HC_skip ?_
      refine HC_seq ?_
      refine HC_seq ?_
      refine HC_region ?_
      refine s_rd (v := (Value.pointer (some (Addr.mk b3 2 none)))) (w_fieldAddr (a' := (Addr.mk b3 2 none)) h3 underlying48 rfl rfl sz4 rfl rfl) ?_
      obtain ⟨v_26, hc26, h⟩ := h
      refine s_rd (v := (Value.bool v_26)) (r_load1 rfl rfl underlying4 rfl hc26) ?_
      refine HL_nil ?_
      refine HC_cond (t := v_26) rfl (fun hc => ?_) (fun hc => ?_)
      · replace h := h.1 hc
        clear hc
        refine HC_seq ?_
        refine HC_region ?_
        obtain ⟨v_27, hs27, hc27, h⟩ := h
        refine s_rd (v := (Value.agg v_27)) (w_loadN h3 underlying48 rfl sz48 hs27 hc27) ?_
        refine s_ef0 (k_storeN (vs := v_27) h6 rfl sz48 (by decide) ?_)
        obtain ⟨hz1, hz2, c, e, hz3, hz4, hz5, h⟩ := h
        refine ⟨hz1, hz2, c, e, hz3, hz4, hz5, ?_⟩
        replace h := atE h
        refine s_rd (v := (Value.int .i64 (340 : Int))) (r_assign rfl rfl) ?_
        refine HL_nil ?_
        obtain ⟨vres_6_1, hs6, hr6, h⟩ := h
        exact HC_ret (show endQ prog f34 R .ret _ _ from ⟨_, res2 rfl (rv_cellN h6 underlying48 rfl sz48 hs6 hr6) (rv_tmp rfl), h⟩)
      · replace h := h.2 hc
        clear hc
        refine HC_skip ?_
        refine HC_seq ?_
        refine HC_region ?_
        obtain ⟨v_29, hs29, hc29, h⟩ := h
        refine s_rd (v := (Value.agg v_29)) (w_loadN h3 underlying48 rfl sz48 hs29 hc29) ?_
        refine s_ef (k_call (vs := [(Value.agg v_29)]) cb38 (evC rfl evN) (h.mono ?_))
        clear h; rintro v F ⟨v_30, v_30_1, rfl, h⟩
        refine s_rd (v := (Value.tuple #[(Value.agg v_30), (Value.bool v_30_1)])) (r_move rfl rfl) ?_
        refine s_rd (v := (Value.agg v_30)) (r_extract rfl rfl rfl) ?_
        refine s_rd (v := (Value.bool v_30_1)) (r_extract rfl rfl rfl) ?_
        refine s_ef (k_alloc zr48 ?_)
        intro b8 hf_b8
        replace h := atE (h b8 hf_b8)
        refine s_ef0 (k_storeN (vs := v_30) rfl rfl sz48 (by decide) ?_)
        obtain ⟨hz1, hz2, c, e, hz3, hz4, hz5, h⟩ := h
        refine ⟨hz1, hz2, c, e, hz3, hz4, hz5, ?_⟩
        replace h := atE h
        refine s_rd (v := (Value.bool v_30_1)) (r_assign rfl rfl) ?_
        refine HL_nil ?_
        refine HC_seq ?_
        refine HC_seq ?_
        refine HC_region ?_
        refine s_rd (v := (Value.bool v_30_1)) (r_move rfl rfl) ?_
        refine HL_nil ?_
        refine HC_cond (t := v_30_1) rfl (fun hc => ?_) (fun hc => ?_)
        · replace h := h.1 hc
          clear hc
          refine HC_seq ?_
          refine HC_region ?_
          obtain ⟨v_34, hs34, hc34, h⟩ := h
          refine s_rd (v := (Value.agg v_34)) (w_loadN rfl underlying48 rfl sz48 hs34 hc34) ?_
          refine s_ef0 (k_storeN (vs := v_34) h6 rfl sz48 (by decide) ?_)
          obtain ⟨hz1, hz2, c, e, hz3, hz4, hz5, h⟩ := h
          refine ⟨hz1, hz2, c, e, hz3, hz4, hz5, ?_⟩
          replace h := atE h
          refine s_rd (v := (Value.int .i64 (340 : Int))) (r_assign rfl rfl) ?_
          refine HL_nil ?_
          obtain ⟨vres_6_2, hs6, hr6, h⟩ := h
          exact HC_ret (show endQ prog f34 R .ret _ _ from ⟨_, res2 rfl (rv_cellN h6 underlying48 rfl sz48 hs6 hr6) (rv_tmp rfl), h⟩)
        · replace h := h.2 hc
          clear hc
          refine HC_skip ?_
          refine HC_seq ?_
          refine HC_region ?_
          refine s_ef (k_buildSlice (cells := #[]) underlying46 sz72 (by decide) zr72 ((zc_flat _ rfl _).trans (rfl : _ = (#[] : Array Value))) evPN (fillN rfl) rfl ?_)
          intro b35 hf_b35
          replace h := atE (h b35 hf_b35)
          refine s_rd (v := (Value.pointer (some (Addr.mk b3 1 none)))) (w_fieldAddr (a' := (Addr.mk b3 1 none)) h3 underlying48 rfl rfl sz46 rfl rfl) ?_
          obtain ⟨v_37, hc37, h⟩ := h
          refine s_rd (v := (Sl.v v_37)) (r_load1 rfl rfl underlying46 rfl hc37) ?_
          refine s_ef (k_append rfl rfl (runs_mono _ _ h ?_))
          clear h; rintro v F ⟨v_38, rfl, h⟩
          refine s_rd (v := (Value.int .i64 at_1)) (r_move rfl h1) ?_
          refine s_ef (k_buildSeq (l := []) underlying26 sz5 (by decide) zr5 rfl rfl trivial evPN ?_)
          intro b40 hf_b40
          replace h := atE (h b40 hf_b40)
          refine s_rd (v := (Sl.v data_2)) (r_move rfl h2) ?_
          refine s_ef (k_append rfl rfl (runs_mono _ _ h ?_))
          clear h; rintro v F ⟨v_42, rfl, h⟩
          refine s_rd (v := (Value.agg (#[(Value.int .i64 at_1), (Sl.v v_42)] : Array Value))) (w_buildStruct (cells := #[(Value.int .i64 at_1), (Sl.v v_42)]) underlying72 zr72 kf72 (evPC rfl (evPC rfl evPN)) (fill1 (place_of rfl rfl sz3) rfl rfl (fill1 (place_of rfl rfl sz26) rfl rfl (fillN rfl)))) ?_
          obtain ⟨hz44, h⟩ := h
          refine s_ef (k_buildSlice (cells := (#[(Value.int .i64 at_1), (Sl.v v_42)] : Array Value)) underlying46 sz72 (by decide) zr72 rfl (evPC rfl evPN) (fillWhole hz44 rfl rfl) rfl ?_)
          intro b44 hf_b44
          replace h := atE (h b44 hf_b44)
          refine s_ef (k_append rfl rfl (runs_mono _ _ h ?_))
          clear h; rintro v F ⟨v_45, rfl, h⟩
          refine s_rd (v := (Value.pointer (some (Addr.mk b8 1 none)))) (w_fieldAddr (a' := (Addr.mk b8 1 none)) rfl underlying48 rfl rfl sz46 rfl rfl) ?_
          refine s_ef0 (k_store1 (v := (Sl.v v_45)) rfl rfl sz46 rfl st_sl ?_)
          obtain ⟨c, e, hz3, hz4, hz5, h⟩ := h
          refine ⟨c, e, hz3, hz4, hz5, ?_⟩
          replace h := atE h
          refine HL_nil ?_
          refine HC_seq ?_
          refine HC_region ?_
          obtain ⟨v_47, hs47, hc47, h⟩ := h
          refine s_rd (v := (Value.agg v_47)) (w_loadN rfl underlying48 rfl sz48 hs47 hc47) ?_
          refine s_ef0 (k_storeN (vs := v_47) h6 rfl sz48 (by decide) ?_)
          obtain ⟨hz1, hz2, c, e, hz3, hz4, hz5, h⟩ := h
          refine ⟨hz1, hz2, c, e, hz3, hz4, hz5, ?_⟩
          replace h := atE h
          refine s_rd (v := (Value.int .i64 (0 : Int))) (r_assign rfl rfl) ?_
          refine HL_nil ?_
          obtain ⟨vres_6_3, hs6, hr6, h⟩ := h
          exact HC_ret (show endQ prog f34 R .ret _ _ from ⟨_, res2 rfl (rv_cellN h6 underlying48 rfl sz48 hs6 hr6) (rv_tmp rfl), h⟩)
  · skip
    refine HC_region ?_
    refine s_rd (v := (Value.int .i64 at_1)) (r_move rfl rfl) ?_
    refine s_rd (v := (Value.bool (decide (at_1 < (0 : Int))))) (r_lss rfl rfl rfl) ?_
    refine s_rd (v := (Value.bool (decide (at_1 < (0 : Int))))) (r_move rfl rfl) ?_
    by_cases hc : at_1 < (0 : Int)
    · replace h := h.1 hc
      refine HL_known (t := 11) (v := .bool true) (congrArg Value.bool (decide_eq_true hc)) ?_
      refine HL_known (t := 12) (v := .bool true) (congrArg Value.bool (decide_eq_true hc)) ?_
      refine s_skip ?_
      refine s_skip ?_
      refine s_skip ?_
      refine s_skip ?_
      refine s_skip ?_
      refine s_rd (v := (Value.bool true)) (r_pick rfl rfl (fun _ => rfl) (fun h => by cases h)) ?_
      refine s_rd (v := (Value.bool true)) (r_move rfl rfl) ?_
      refine s_skip ?_
      refine s_skip ?_
      refine s_skip ?_
      refine s_rd (v := (Value.bool true)) (r_pick rfl rfl (fun _ => rfl) (fun h => by cases h)) ?_
      refine HL_nil ?_
      show b34J1 at_1 data_2 b3 b6 R _ _
      exact ⟨_, rfl, rfl, rfl, rfl, rfl, h⟩
    · replace h := h.2 hc
      refine HL_known (t := 11) (v := .bool false) (congrArg Value.bool (decide_eq_false hc)) ?_
      refine HL_known (t := 12) (v := .bool false) (congrArg Value.bool (decide_eq_false hc)) ?_
      refine s_rd (v := (Value.int .i64 at_1)) (r_move rfl rfl) ?_
      refine s_rd (v := (Value.pointer (some (Addr.mk b3 0 none)))) (w_fieldAddr (a' := (Addr.mk b3 0 none)) rfl underlying48 rfl rfl sz45 rfl rfl) ?_
      obtain ⟨v_15, hc15, h⟩ := h
      refine s_rd (v := (Sl.v v_15)) (r_load1 rfl rfl underlying45 rfl hc15) ?_
      refine s_rd (v := (Value.int .i64 (v_15.len : Int))) (r_lenSl rfl rfl underlying45) ?_
      refine s_rd (v := (Value.bool (decide ((v_15.len : Int) ≤ at_1)))) (r_geq rfl rfl rfl) ?_
      refine s_rd (v := (Value.bool (decide ((v_15.len : Int) ≤ at_1)))) (r_pick rfl rfl (fun h => by cases h) (fun _ => rfl)) ?_
      refine s_rd (v := (Value.bool (decide ((v_15.len : Int) ≤ at_1)))) (r_move rfl rfl) ?_
      by_cases hc : (v_15.len : Int) ≤ at_1
      · replace h := h.1 hc
        refine HL_known (t := 17) (v := .bool true) (congrArg Value.bool (decide_eq_true hc)) ?_
        refine HL_known (t := 18) (v := .bool true) (congrArg Value.bool (decide_eq_true hc)) ?_
        refine HL_known (t := 19) (v := .bool true) (congrArg Value.bool (decide_eq_true hc)) ?_
        refine s_skip ?_
        refine s_skip ?_
        refine s_skip ?_
        refine s_rd (v := (Value.bool true)) (r_pick rfl rfl (fun _ => rfl) (fun h => by cases h)) ?_
        refine HL_nil ?_
        show b34J1 at_1 data_2 b3 b6 R _ _
        exact ⟨_, rfl, rfl, rfl, rfl, rfl, h⟩
      · replace h := h.2 hc
        refine HL_known (t := 17) (v := .bool false) (congrArg Value.bool (decide_eq_false hc)) ?_
        refine HL_known (t := 18) (v := .bool false) (congrArg Value.bool (decide_eq_false hc)) ?_
        refine HL_known (t := 19) (v := .bool false) (congrArg Value.bool (decide_eq_false hc)) ?_
        refine s_rd (v := (Sl.v data_2)) (r_move rfl rfl) ?_
        refine s_rd (v := (Value.int .i64 (data_2.len : Int))) (r_lenSl rfl rfl underlying26) ?_
        refine s_rd (v := (Value.bool (decide ((data_2.len : Int) ≠ (64 : Int))))) (w_neq rfl rfl) ?_
        refine s_rd (v := (Value.bool (decide ((data_2.len : Int) ≠ (64 : Int))))) (r_pick rfl rfl (fun h => by cases h) (fun _ => rfl)) ?_
        refine HL_nil ?_
        show b34J1 at_1 data_2 b3 b6 R _ _
        exact ⟨_, rfl, rfl, rfl, rfl, rfl, h⟩

/- 38 (koine.koineref34.State).burn -/
def b38 (s_0 : Array Value) (R : Value → PH → Prop) (F : PH) : Prop :=
  ∀ b1, F b1 = none → atF (F.set b1 (.cells s_0 48)) fun F =>
  ∀ b2, F b2 = none → atF (F.set b2 (.cells (#[Value.slice none 0 0, Value.slice none 0 0, Value.bool false, Value.int .i64 0, Value.slice none 0 0]) 48)) fun F =>
  ∃ v_5 : Int, F.cell (Addr.mk b1 3 none) = some (Value.int .i64 v_5) ∧
  ((v_5 = (1 : Int) →
    ∃ v_7 : Array Value, v_7.size = 5 ∧ F.row (Addr.mk b1 0 none) v_7 ∧
    ∃ v_9 : Sl, F.cell (Addr.mk b1 4 none) = some (Sl.v v_9) ∧
    Spec prog 33 #[(Value.agg v_7), (Sl.v v_9)] F fun v F => ∃ v_10 : Array Value, v = (Value.agg v_10) ∧
    v_10.size = 5 ∧ (∀ v ∈ v_10.toList, storable v) ∧ ∃ c e, F (Addr.mk b2 0 none).block = some (.cells c e (0, 0)) ∧ (Addr.mk b2 0 none).spot = none ∧ (Addr.mk b2 0 none).off + 5 ≤ c.size ∧
    atF (F.set (Addr.mk b2 0 none).block (.cells (wr c (Addr.mk b2 0 none).off v_10.toList) e)) fun F =>
    ∃ vres_2 : Array Value, vres_2.size = 5 ∧ F.row (Addr.mk b2 0 none) vres_2 ∧ R (Value.tuple #[(Value.agg vres_2), (Value.bool true)]) F) ∧
  (¬ (v_5 = (1 : Int)) →
    ∃ v_12 : Int, F.cell (Addr.mk b1 3 none) = some (Value.int .i64 v_12) ∧
    ∃ c e, F (Addr.mk b1 3 none).block = some (.cells c e (0, 0)) ∧ (Addr.mk b1 3 none).spot = none ∧ (Addr.mk b1 3 none).off < c.size ∧
    atF (F.set (Addr.mk b1 3 none).block (.cells (c.setIfInBounds (Addr.mk b1 3 none).off (Value.int .i64 (max (IntKind.i64.wrap (v_12 - (1 : Int))) (0 : Int)))) e)) fun F =>
    ∃ v_16 : Array Value, v_16.size = 5 ∧ F.row (Addr.mk b1 0 none) v_16 ∧
    v_16.size = 5 ∧ (∀ v ∈ v_16.toList, storable v) ∧ ∃ c e, F (Addr.mk b2 0 none).block = some (.cells c e (0, 0)) ∧ (Addr.mk b2 0 none).spot = none ∧ (Addr.mk b2 0 none).off + 5 ≤ c.size ∧
    atF (F.set (Addr.mk b2 0 none).block (.cells (wr c (Addr.mk b2 0 none).off v_16.toList) e)) fun F =>
    ∃ vres_2_1 : Array Value, vres_2_1.size = 5 ∧ F.row (Addr.mk b2 0 none) vres_2_1 ∧ R (Value.tuple #[(Value.agg vres_2_1), (Value.bool false)]) F))
theorem c38 {s_0 : Array Value} {R : Value → PH → Prop} {F : PH} (h : b38 s_0 R F) : Spec prog 38 #[(Value.agg s_0)] F R := by
  refine spec_of (args := [(Value.agg s_0)]) func38 rfl ntmps38 rfl ?_
  unfold b38 at h
  refine HC_seq ?_
  refine HC_region ?_
  refine s_ef (k_box (cs := s_0) rfl rfl ?_)
  intro b1 hf_b1
  replace h := atE (h b1 hf_b1)
  refine s_ef (k_alloc zr48 ?_)
  intro b2 hf_b2
  replace h := atE (h b2 hf_b2)
  refine s_rd (v := (Value.bool false)) (r_assign rfl rfl) ?_
  refine HL_nil ?_
  refine HC_seq ?_
  refine HC_seq ?_
  refine HC_region ?_
  refine s_rd (v := (Value.pointer (some (Addr.mk b1 3 none)))) (w_fieldAddr (a' := (Addr.mk b1 3 none)) rfl underlying48 rfl rfl sz3 rfl rfl) ?_
  obtain ⟨v_5, hc5, h⟩ := h
  refine s_rd (v := (Value.int .i64 v_5)) (r_load1 rfl rfl underlying3 rfl hc5) ?_
  refine s_rd (v := (Value.bool (decide (v_5 = (1 : Int))))) (w_eql rfl rfl) ?_
  refine HL_nil ?_
  refine HC_cond (t := (decide (v_5 = (1 : Int)))) rfl (fun hc => ?_) (fun hc => ?_)
  · replace h := h.1 (of_decide_eq_true hc)
    clear hc
    refine HC_seq ?_
    refine HC_region ?_
    obtain ⟨v_7, hs7, hc7, h⟩ := h
    refine s_rd (v := (Value.agg v_7)) (w_loadN rfl underlying48 rfl sz48 hs7 hc7) ?_
    refine s_rd (v := (Value.pointer (some (Addr.mk b1 4 none)))) (w_fieldAddr (a' := (Addr.mk b1 4 none)) rfl underlying48 rfl rfl sz37 rfl rfl) ?_
    obtain ⟨v_9, hc9, h⟩ := h
    refine s_rd (v := (Sl.v v_9)) (r_load1 rfl rfl underlying37 rfl hc9) ?_
    refine s_ef (k_call (vs := [(Value.agg v_7), (Sl.v v_9)]) cb33 (evC rfl (evC rfl evN)) (h.mono ?_))
    clear h; rintro v F ⟨v_10, rfl, h⟩
    refine s_ef0 (k_storeN (vs := v_10) rfl rfl sz48 (by decide) ?_)
    obtain ⟨hz1, hz2, c, e, hz3, hz4, hz5, h⟩ := h
    refine ⟨hz1, hz2, c, e, hz3, hz4, hz5, ?_⟩
    replace h := atE h
    refine s_rd (v := (Value.bool true)) (r_assign rfl rfl) ?_
    refine HL_nil ?_
    obtain ⟨vres_2, hs2, hr2, h⟩ := h
    exact HC_ret (show endQ prog f38 R .ret _ _ from ⟨_, res2 rfl (rv_cellN rfl underlying48 rfl sz48 hs2 hr2) (rv_tmp rfl), h⟩)
  · replace h := h.2 (of_decide_eq_false hc)
    clear hc
    refine HC_skip ?_
    refine HC_seq ?_
    refine HC_region ?_
    refine s_rd (v := (Value.pointer (some (Addr.mk b1 3 none)))) (w_fieldAddr (a' := (Addr.mk b1 3 none)) rfl underlying48 rfl rfl sz3 rfl rfl) ?_
    obtain ⟨v_12, hc12, h⟩ := h
    refine s_rd (v := (Value.int .i64 v_12)) (r_load1 rfl rfl underlying3 rfl hc12) ?_
    refine s_rd (v := (Value.int .i64 (IntKind.i64.wrap (v_12 - (1 : Int))))) (r_sub rfl rfl rfl) ?_
    refine s_rd (v := (Value.int .i64 (max (IntKind.i64.wrap (v_12 - (1 : Int))) (0 : Int)))) (r_max2 rfl rfl rfl) ?_
    refine s_rd (v := (Value.pointer (some (Addr.mk b1 3 none)))) (w_fieldAddr (a' := (Addr.mk b1 3 none)) rfl underlying48 rfl rfl sz3 rfl rfl) ?_
    refine s_ef0 (k_store1 (v := (Value.int .i64 (max (IntKind.i64.wrap (v_12 - (1 : Int))) (0 : Int)))) rfl rfl sz3 rfl st_int ?_)
    obtain ⟨c, e, hz3, hz4, hz5, h⟩ := h
    refine ⟨c, e, hz3, hz4, hz5, ?_⟩
    replace h := atE h
    refine HL_nil ?_
    refine HC_seq ?_
    refine HC_region ?_
    obtain ⟨v_16, hs16, hc16, h⟩ := h
    refine s_rd (v := (Value.agg v_16)) (w_loadN rfl underlying48 rfl sz48 hs16 hc16) ?_
    refine s_ef0 (k_storeN (vs := v_16) rfl rfl sz48 (by decide) ?_)
    obtain ⟨hz1, hz2, c, e, hz3, hz4, hz5, h⟩ := h
    refine ⟨hz1, hz2, c, e, hz3, hz4, hz5, ?_⟩
    replace h := atE h
    refine s_rd (v := (Value.bool false)) (r_assign rfl rfl) ?_
    refine HL_nil ?_
    obtain ⟨vres_2_1, hs2, hr2, h⟩ := h
    exact HC_ret (show endQ prog f38 R .ret _ _ from ⟨_, res2 rfl (rv_cellN rfl underlying48 rfl sz48 hs2 hr2) (rv_tmp rfl), h⟩)

/- 39 koine.koineref34.first -/
def b39 (old_0 : Sl) (data_1 : Sl) (k_2 : Int) (R : Value → PH → Prop) (F : PH) : Prop :=
  ∀ b8, F b8 = none → atF (F.set b8 (.cells #[] 5)) fun F =>
  0 ≤ k_2 ∧ 0 ≤ (Int.toNat k_2) ∧ (Int.toNat k_2) ≤ data_1.cap ∧ 
  runs prog (Builtin.append_ #[26, 26] 26 #[(Sl.v (Sl.mk (some (Addr.mk b8 0 none)) 0 0)), (Sl.v (Sl.cut data_1 1 0 (Int.toNat k_2) data_1.cap))]) F fun v F => ∃ v_12 : Sl, v = (Sl.v v_12) ∧
  0 ≤ k_2 ∧ (Int.toNat k_2) ≤ old_0.len ∧ old_0.len ≤ old_0.cap ∧ 
  runs prog (Builtin.append_ #[26, 26] 26 #[(Sl.v v_12), (Sl.v (Sl.cut old_0 1 (Int.toNat k_2) old_0.len old_0.cap))]) F fun v F => ∃ v_17 : Sl, v = (Sl.v v_17) ∧
  R (Sl.v v_17) F
theorem c39 {old_0 : Sl} {data_1 : Sl} {k_2 : Int} {R : Value → PH → Prop} {F : PH} (h : b39 old_0 data_1 k_2 R F) : Spec prog 39 #[(Sl.v old_0), (Sl.v data_1), (Value.int .i64 k_2)] F R := by
  refine spec_of (args := [(Sl.v old_0), (Sl.v data_1), (Value.int .i64 k_2)]) func39 rfl ntmps39 rfl ?_
  unfold b39 at h
  refine HC_seq ?_
  refine HC_region ?_
  refine s_rd (v := (Sl.v Sl.nil)) (r_assign rfl rfl) ?_
  refine HL_nil ?_
  refine HC_seq ?_
  refine HC_region ?_
  refine s_ef (k_buildSeq (l := []) underlying26 sz5 (by decide) zr5 rfl rfl trivial evPN ?_)
  intro b8 hf_b8
  replace h := atE (h b8 hf_b8)
  refine s_rd (v := (Sl.v data_1)) (r_move rfl rfl) ?_
  refine s_rd (v := (Value.int .i64 k_2)) (r_move rfl rfl) ?_
  obtain ⟨hq11_0, hr11_0, hr11_1, h⟩ := h
  refine s_rd (v := (Sl.v (Sl.cut data_1 1 0 (Int.toNat k_2) data_1.cap))) (r_sliceSl rfl rfl underlying26 sz5 bo_none (bo_ev rfl hq11_0) hr11_0 hr11_1) ?_
  refine s_ef (k_append rfl rfl (runs_mono _ _ h ?_))
  clear h; rintro v F ⟨v_12, rfl, h⟩
  refine s_rd (v := (Sl.v v_12)) (r_assign rfl rfl) ?_
  refine HL_nil ?_
  refine HC_seq ?_
  refine HC_region ?_
  refine s_rd (v := (Sl.v v_12)) (r_move rfl rfl) ?_
  refine s_rd (v := (Sl.v old_0)) (r_move rfl rfl) ?_
  refine s_rd (v := (Value.int .i64 k_2)) (r_move rfl rfl) ?_
  obtain ⟨hq16_0, hr16_0, hr16_1, h⟩ := h
  refine s_rd (v := (Sl.v (Sl.cut old_0 1 (Int.toNat k_2) old_0.len old_0.cap))) (r_sliceSl rfl rfl underlying26 sz5 (bo_ev rfl hq16_0) bo_none hr16_0 hr16_1) ?_
  refine s_ef (k_append rfl rfl (runs_mono _ _ h ?_))
  clear h; rintro v F ⟨v_17, rfl, h⟩
  refine s_rd (v := (Sl.v v_17)) (r_assign rfl rfl) ?_
  refine HL_nil ?_
  exact HC_ret (show endQ prog f39 R .ret _ _ from ⟨_, res1 rfl (rv_tmp rfl), h⟩)

end Go.Proofs.Ythnolhcknhhipaa
