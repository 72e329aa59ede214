/-
  What functions of the program do, in a clean form, each with the proof that its code does so. Printed by a program.
-/
import Derived.Test.YtelkfnmdnbbniaaGf
import Derived.Test.YtelkfnmdnbbniaaPhp
namespace Go.Proofs.Ytelkfnmdnbbniaa
open Go Go.Proofs.Try
set_option maxRecDepth 10000
set_option maxHeartbeats 4000000
/- 49 koine.store.apply -/
def b49j1 (N1 : Int → PH → Prop) (contents_0 : Option Nat) (l_1 : Sl) (v_8 : Int) (R : VP) (F : PH) :=
 N1 (IntKind.i64.wrap (v_8 + 1)) F
abbrev b49J1 (N1 : Int → PH → Prop) (contents_0 : Option Nat) (l_1 : Sl) (v_8 : Int) (R : VP) (E : En) (F : PH) : Prop := E 0 = (.map contents_0) ∧ E 6 = (Sl.v l_1) ∧ E 7 = (.int .i64 (l_1.len : Int)) ∧ E 8 = (.int .i64 v_8) ∧ b49j1 N1 contents_0 l_1 v_8 R F
def b49L1 (N1 : Int → PH → Prop) (contents_0 : Option Nat) (l_1 : Sl) (R : VP) (v_8 : Int) (F : PH) :=
 ((v_8 < (l_1.len : Int) →
  ∃ a10_ : Addr, l_1.base = some a10_ ∧ 0 ≤ v_8 ∧ v_8 < (l_1.len : Int) ∧
  ∃ v_11 : Array Value, v_11.size = 2 ∧ F.row (Addr.add a10_ (Int.toNat v_8 * 2)) v_11 ∧
  ∀ b5, F b5 = none → atF (F.set b5 (.cells (#[.string ⟨#[]⟩, .slice none 0 0]) 41)) fun F =>
  v_11.size = 2 ∧ (∀ v ∈ v_11.toList, storable v) ∧ ∃ c e, F (Addr.mk b5 0 none).block = some (.cells c e (0, 0)) ∧ (Addr.mk b5 0 none).spot = none ∧ (Addr.mk b5 0 none).off + 2 ≤ c.size ∧
  atF (F.set (Addr.mk b5 0 none).block (.cells (wr c (Addr.mk b5 0 none).off v_11.toList) e)) fun F =>
  ∃ v_13 : Sl, F.cell (Addr.mk b5 1 none) = some (Sl.v v_13) ∧
  (((v_13.len : Int) = 0 →
   ∃ v_18 : ByteArray, F.cell (Addr.mk b5 0 none) = some (.string v_18) ∧
   runs prog (Builtin.delete_ #[82, 9] 0 #[(.map contents_0), (.string v_18)]) F fun _ F =>
   b49j1 N1 contents_0 l_1 v_8 R F) ∧
  (¬ ((v_13.len : Int) = 0) →
   ∃ v_21 : ByteArray, F.cell (Addr.mk b5 0 none) = some (.string v_21) ∧
   ∃ v_23 : Sl, F.cell (Addr.mk b5 1 none) = some (Sl.v v_23) ∧
   Spec prog 43 #[(Sl.v v_23)] F fun v F => ∃ v_24 : Sl, v = (Sl.v v_24) ∧
   F.cell (Addr.mk b5 0 none) = some (.string v_21) ∧ runs prog (Instr.mapUpdate 82 (.map contents_0) (.string v_21) (Sl.v v_24)) F fun _ F =>
   b49j1 N1 contents_0 l_1 v_8 R F))) ∧
 (¬ (v_8 < (l_1.len : Int)) →
  R (.tuple #[]) F))
def b49 (contents_0 : Option Nat) (l_1 : Sl) (R : VP) (F : PH) :=
 (∃ (I1 : Nat → Int → PH → Prop) (m1 : Nat), I1 m1 0 F ∧ ∀ m1 v_8 F, I1 m1 v_8 F →
  b49L1 (nx1 I1 m1) contents_0 l_1 R v_8 F)
theorem c49 {contents_0 : Option Nat} {l_1 : Sl} {R : VP} {F : PH} (h : b49 contents_0 l_1 R F) : Spec prog 49 #[(.map contents_0), (Sl.v l_1)] F R := by
 refine spec_of (args := [(.map contents_0), (Sl.v l_1)]) func49 rfl ntmps49 rfl ?_
 unfold b49 at h
 refine cR (sR (Sl.v l_1) (r_move rfl rfl) ?_)
 refine sR (.int .i64 (l_1.len : Int)) (r_lenSl rfl rfl underlying26) ?_
 refine sR (.int .i64 0) (r_move rfl rfl) ?_
 refine HL_nil ?_
 refine HC_block ?_
 obtain ⟨I1, m1, hI0, hr⟩ := h
 refine HC_loop (fun m1 E F => ∃ v_8 : Int, E 0 = (.map contents_0) ∧ E 6 = (Sl.v l_1) ∧ E 7 = (.int .i64 (l_1.len : Int)) ∧ E 8 = (.int .i64 v_8) ∧ I1 m1 v_8 F) m1 ⟨_, rfl, rfl, rfl, rfl, hI0⟩ ?_
 clear hI0; rintro m1 E F ⟨v_8, h0, h6, h7, h8, hI⟩
 have h := hr m1 v_8 F hI
 clear hr hI
 unfold b49L1 at h
 refine cR (sR (.bool (decide (v_8 < (l_1.len : Int)))) (r_lss rfl h8 h7) ?_)
 refine HL_nil ?_
 refine HC_seq ?_
 refine HC_cond (t := (decide (v_8 < (l_1.len : Int)))) rfl (fun hc => ?_) (fun hc => ?_)
 replace h := h.1 (of_decide_eq_true hc)
 clear hc
 refine HC_skip ?_
 refine HC_seqJ (b49J1 (nx1 I1 m1) contents_0 l_1 v_8 R) ?_ ?_
 clear h; rintro E F ⟨h0, h6, h7, h8, h⟩
 unfold b49j1 at h
 refine HC_region ?_
 refine sR (.int .i64 (IntKind.i64.wrap (v_8 + 1))) (r_add rfl h8 rfl) ?_
 refine sR (.int .i64 (IntKind.i64.wrap (v_8 + 1))) (r_move rfl rfl) ?_
 refine HL_nil ?_
 obtain ⟨m', hm, h⟩ := h
 exact ⟨m', hm, _, h0, h6, h7, rfl, h⟩
 refine HC_block ?_
 refine cR ?_
 obtain ⟨a10_, hb10, hl10, hu10, h⟩ := h
 refine sR (.pointer (some (Addr.add a10_ (Int.toNat v_8 * 2)))) (w_indexAddr h6 h8 underlying26 sz41 hb10 hl10 hu10) ?_
 obtain ⟨v_11, hs11, hc11, h⟩ := h
 refine sR (.agg v_11) (w_loadN rfl underlying41 rfl sz41 hs11 hc11) ?_
 refine s_ef (k_alloc zr41 ?_)
 intro b5 hf_b5
 replace h := atE (h b5 hf_b5)
 refine s_ef0 (k_storeN (vs := v_11) rfl rfl sz41 (by decide) ?_)
 obtain ⟨hz1, hz2, c, e, hz3, hz4, hz5, h⟩ := h
 refine ⟨hz1, hz2, c, e, hz3, hz4, hz5, ?_⟩
 replace h := atE h
 refine HL_nil ?_
 refine cR (sR (.pointer (some (Addr.mk b5 1 none))) (w_fieldAddr rfl underlying41 rfl rfl sz39 rfl rfl) ?_)
 obtain ⟨v_13, hc13, h⟩ := h
 refine sR (Sl.v v_13) (r_load1 rfl rfl underlying39 rfl hc13) ?_
 refine sR (.int .i64 (v_13.len : Int)) (r_lenSl rfl rfl underlying39) ?_
 refine sR (.bool (decide ((v_13.len : Int) = 0))) (w_eql rfl rfl) ?_
 refine HL_nil ?_
 refine HC_cond (t := (decide ((v_13.len : Int) = 0))) rfl (fun hc => ?_) (fun hc => ?_)
 replace h := h.1 (of_decide_eq_true hc)
 clear hc
 refine HC_region ?_
 refine sR _ (r_move rfl h0) ?_
 refine sR (.pointer (some (Addr.mk b5 0 none))) (w_fieldAddr rfl underlying41 rfl rfl sz9 rfl rfl) ?_
 obtain ⟨v_18, hc18, h⟩ := h
 refine sR (.string v_18) (r_load1 rfl rfl underlying9 rfl hc18) ?_
 refine s_ef0 (k_delete rfl rfl (runs_mono _ _ h ?_))
 clear h; rintro _ F h
 refine HL_nil ?_
 show b49J1 (nx1 I1 m1) contents_0 l_1 v_8 R _ _
 exact ⟨h0, h6, h7, h8, h⟩
 replace h := h.2 (of_decide_eq_false hc)
 clear hc
 refine HC_draw0 (by kernel_rfl) (fun hp => ?_)
 refine gU 0 (.map contents_0) rfl (fun _ => r_move rfl h0) hp ?_
 refine gU 1 (.pointer (some (Addr.mk b5 0 none))) rfl (fun _ => w_fieldAddr rfl underlying41 rfl rfl sz9 rfl rfl) hp ?_
 obtain ⟨v_21, hc21, h⟩ := h
 refine gR 2 (.string v_21) rfl (r_load1 rfl rfl underlying9 rfl hc21) hp (fun S2 q2 => ?_)
 replace hp := holdC (i := 2) (q2 _ (r_load1 rfl rfl underlying9 rfl hc21)) hp
 refine gU 3 (.pointer (some (Addr.mk b5 1 none))) rfl (fun _ => w_fieldAddr rfl underlying41 rfl rfl sz39 rfl rfl) hp ?_
 obtain ⟨v_23, hc23, h⟩ := h
 refine gR 4 (Sl.v v_23) rfl (r_load1 rfl rfl underlying39 rfl hc23) hp (fun S4 q4 => ?_)
 replace hp := holdC (i := 4) (q4 _ (r_load1 rfl rfl underlying39 rfl hc23)) hp
 refine RG_eff1 (i := 5) (by kernel_rfl) (g_op (Sp' := [(2, S2)]) rfl rfl (k_call (vs := [(Sl.v v_23)]) cb43 (evC rfl evN) (h.mono ?_)))
 clear h; rintro v F ⟨v_24, rfl, h⟩
 obtain ⟨hk_2, h⟩ := h
 refine holdI (holdC (i := 2) (q2 _ (r_load1 rfl rfl underlying9 rfl hk_2)) hold0) (fun hp => ?_)
 refine RG_eff1 (i := 6) (by kernel_rfl) (g_op0 (Sp' := []) rfl rfl (k_mapUpdate rfl rfl rfl (runs_mono _ _ h ?_)))
 clear h; rintro _ F h
 refine holdI hold0 (fun hp => ?_)
 refine RG_done (by kernel_rfl) ?_
 show b49J1 (nx1 I1 m1) contents_0 l_1 v_8 R _ _
 exact ⟨h0, h6, h7, h8, h⟩
 replace h := h.2 (of_decide_eq_false hc)
 clear hc
 refine HC_exit ?_
 exact (show endQ prog f49 R .normal _ _ from ⟨_, res0 rfl, h⟩)
 /- 53 (*koine.store.Store).snapshotSize -/
def b53j1 (n_3 : Int) (R : VP) (F : PH) :=
 Spec prog 51 #[(.int .i64 n_3)] F fun v F => ∃ v_31 : Int, v = (.int .i64 v_31) ∧
 R (.int .i64 v_31) F
abbrev b53J1 (R : VP) (E : En) (F : PH) : Prop := ∃ n_3 : Int, E 3 = (.int .i64 n_3) ∧ b53j1 n_3 R F
def b53L1 (N1 : Int → PH → Prop) (b16 : Nat) (R : VP) (n_3_1 : Int) (F : PH) :=
 runs prog (Instr.next (.pointer (some (Addr.mk b16 0 none))) false 0) F fun v F => ∃ v_17 : Array Value, v = (.tuple v_17) ∧
 ∃ v_18 : Bool, v_17[0]? = some (.bool v_18) ∧
 ((v_18 = true →
  ∃ (k19_ : ByteArray) (e19_ : Sl), rdo prog (Instr.entry (.pointer (some (Addr.mk b16 0 none)))) F (.tuple #[(.string k19_), (Sl.v e19_)]) ∧
  N1 (IntKind.i64.wrap (n_3_1 + (IntKind.i64.wrap ((IntKind.i64.wrap ((k19_.size : Int) + (e19_.len : Int))) + 5)))) F) ∧
 (v_18 = false →
  b53j1 n_3_1 R F))
def b53 (s_0 : Option Addr) (R : VP) (F : PH) :=
 ∃ s0a_ : Addr, s_0 = some s0a_ ∧ ∃ v_9 : Option Nat, F.cell (Addr.add s0a_ 5) = some (.map v_9) ∧
 ∃ v_10 : Int, rdo prog (Builtin.len_ #[82] 3 #[(.map v_9)]) F (.int .i64 v_10) ∧
 ((v_10 = 0 →
  R (.int .i64 0) F) ∧
 (¬ (v_10 = 0) →
  ∃ v_15 : Option Nat, F.cell (Addr.add s0a_ 5) = some (.map v_15) ∧
  runs prog (Instr.range 82 (.map v_15)) F fun v F => ∃ b16 : Nat, v = (.pointer (some (Addr.mk b16 0 none))) ∧
  (∃ (I1 : Nat → Int → PH → Prop) (m1 : Nat), I1 m1 0 F ∧ ∀ m1 n_3_1 F, I1 m1 n_3_1 F →
   b53L1 (nx1 I1 m1) b16 R n_3_1 F)))
theorem c53 {s_0 : Option Addr} {R : VP} {F : PH} (h : b53 s_0 R F) : Spec prog 53 #[(.pointer s_0)] F R := by
 refine spec_of (args := [(.pointer s_0)]) func53 rfl ntmps53 rfl ?_
 unfold b53 at h
 refine cR (sR (.int .i64 0) (r_assign rfl rfl) ?_)
 refine HL_nil ?_
 refine HC_seq ?_
 refine cR (sR (.pointer s_0) (r_move rfl rfl) ?_)
 obtain ⟨s0a_, rfl, h⟩ := h
 refine sR (.pointer (some s0a_)) (r_nilCheck rfl rfl) ?_
 refine sR (.pointer (some (Addr.add s0a_ 5))) (w_fieldAddr rfl underlying84 rfl rfl sz82 rfl rfl) ?_
 obtain ⟨v_9, hc9, h⟩ := h
 refine sR (.map v_9) (r_load1 rfl rfl underlying82 rfl hc9) ?_
 obtain ⟨v_10, hc10, h⟩ := h
 refine sR (.int .i64 v_10) (r_lenMap rfl rfl hc10) ?_
 refine sR (.bool (decide (v_10 = 0))) (w_eql rfl rfl) ?_
 refine HL_nil ?_
 refine HC_cond (t := (decide (v_10 = 0))) rfl (fun hc => ?_) (fun hc => ?_)
 replace h := h.1 (of_decide_eq_true hc)
 clear hc
 refine cR (sR (.int .i64 0) (r_assign rfl rfl) ?_)
 exact HL_nil (HC_ret (rt1 f53 R rfl rfl h))
 replace h := h.2 (of_decide_eq_false hc)
 clear hc
 refine HC_skip ?_
 refine cR (sR (.int .i64 0) (r_assign rfl rfl) ?_)
 refine HL_nil ?_
 refine HC_seqJ (b53J1 R) ?_ ?_
 clear h; rintro E F ⟨n_3, h3, h⟩
 unfold b53j1 at h
 refine cR (sR _ (r_move rfl h3) ?_)
 refine s_ef (k_call (vs := [(.int .i64 n_3)]) cb51 (evC rfl evN) (h.mono ?_))
 clear h; rintro v F ⟨v_31, rfl, h⟩
 refine sR (.int .i64 v_31) (r_assign rfl rfl) ?_
 exact HL_nil (HC_ret (rt1 f53 R rfl rfl h))
 refine cR (sR (.pointer (some s0a_)) (r_move rfl rfl) ?_)
 refine sR (.pointer (some s0a_)) (r_nilCheck rfl rfl) ?_
 refine sR (.pointer (some (Addr.add s0a_ 5))) (w_fieldAddr rfl underlying84 rfl rfl sz82 rfl rfl) ?_
 obtain ⟨v_15, hc15, h⟩ := h
 refine sR (.map v_15) (r_load1 rfl rfl underlying82 rfl hc15) ?_
 refine s_ef (k_rangeM rfl (runs_mono _ _ h ?_))
 clear h; rintro v F ⟨b16, rfl, h⟩
 refine HL_nil ?_
 refine HC_block ?_
 obtain ⟨I1, m1, hI0, hr⟩ := h
 refine HC_loop (fun m1 E F => ∃ n_3_1 : Int, E 3 = (.int .i64 n_3_1) ∧ E 16 = (.pointer (some (Addr.mk b16 0 none))) ∧ I1 m1 n_3_1 F) m1 ⟨_, rfl, rfl, hI0⟩ ?_
 clear hI0; rintro m1 E F ⟨n_3_1, h3, h16, hI⟩
 have h := hr m1 n_3_1 F hI
 clear hr hI
 unfold b53L1 at h
 refine cR ?_
 refine s_ef (k_next h16 (runs_mono _ _ h ?_))
 clear h; rintro v F ⟨v_17, rfl, h⟩
 obtain ⟨v_18, hx18, h⟩ := h
 refine sR (.bool v_18) (r_extract rfl rfl hx18) ?_
 refine HL_nil ?_
 refine HC_seq ?_
 refine HC_cond (t := v_18) rfl (fun hc => ?_) (fun hc => ?_)
 replace h := h.1 hc
 clear hc
 refine HC_skip ?_
 refine HC_block ?_
 refine cR ?_
 obtain ⟨k19_, e19_, hc19, h⟩ := h
 refine sR (.tuple #[(.string k19_), (Sl.v e19_)]) (r_entry rfl h16 hc19) ?_
 refine sR (.string k19_) (r_extract rfl rfl rfl) ?_
 refine sR (Sl.v e19_) (r_extract rfl rfl rfl) ?_
 refine sR (.string k19_) (r_assign rfl rfl) ?_
 refine sR (Sl.v e19_) (r_assign rfl rfl) ?_
 refine HL_nil ?_
 refine HC_region ?_
 refine sR _ (r_move rfl h3) ?_
 refine sR (.string k19_) (r_move rfl rfl) ?_
 refine sR (.int .i64 (k19_.size : Int)) (r_lenStr rfl rfl underlying9) ?_
 refine sR (Sl.v e19_) (r_move rfl rfl) ?_
 refine sR (.int .i64 (e19_.len : Int)) (r_lenSl rfl rfl underlying39) ?_
 refine sR (.int .i64 (IntKind.i64.wrap ((k19_.size : Int) + (e19_.len : Int)))) (r_add rfl rfl rfl) ?_
 refine sR (.int .i64 (IntKind.i64.wrap ((IntKind.i64.wrap ((k19_.size : Int) + (e19_.len : Int))) + 5))) (r_add rfl rfl rfl) ?_
 refine sR (.int .i64 (IntKind.i64.wrap (n_3_1 + (IntKind.i64.wrap ((IntKind.i64.wrap ((k19_.size : Int) + (e19_.len : Int))) + 5))))) (r_add rfl rfl rfl) ?_
 refine sR (.int .i64 (IntKind.i64.wrap (n_3_1 + (IntKind.i64.wrap ((IntKind.i64.wrap ((k19_.size : Int) + (e19_.len : Int))) + 5))))) (r_assign rfl rfl) ?_
 refine HL_nil ?_
 obtain ⟨m', hm, h⟩ := h
 exact ⟨m', hm, _, rfl, h16, h⟩
 replace h := h.2 hc
 clear hc
 refine HC_exit ?_
 show b53J1 R _ _
 exact ⟨_, h3, h⟩
end Go.Proofs.Ytelkfnmdnbbniaa
