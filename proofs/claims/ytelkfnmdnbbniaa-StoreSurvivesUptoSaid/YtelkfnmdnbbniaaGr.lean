/-
  What functions of the program do, in a clean form, each with the proof that its code does so. Printed by a program.
-/
import Derived.Test.YtelkfnmdnbbniaaGf
import Derived.Test.YtelkfnmdnbbniaaPhp
namespace Go.Proofs.Ytelkfnmdnbbniaa
open Go Go.Proofs.Try
set_option maxRecDepth 10000
set_option maxHeartbeats 4000000
/- 24 koine.koineref35.Size -/
def b24j1 (n_3 : Int) (R : VP) (F : PH) :=
 R (.int .i64 (IntKind.i64.wrap (1 + (IntKind.i64.wrap (Int.tdiv (IntKind.i64.wrap (n_3 + 62)) 63))))) F
abbrev b24J1 (R : VP) (E : En) (F : PH) : Prop := ∃ n_3 : Int, E 3 = (.int .i64 n_3) ∧ b24j1 n_3 R F
def b24L1 (N1 : Int → Int → PH → Prop) (l_0 : Sl) (R : VP) (n_3_1 : Int) (i_4 : Int) (F : PH) :=
 ((i_4 < (l_0.len : Int) →
  ∃ a14_ : Addr, l_0.base = some a14_ ∧ 0 ≤ i_4 ∧ i_4 < (l_0.len : Int) ∧
  ∃ v_16 : ByteArray, F.cell (Addr.add a14_ (Int.toNat i_4 * 2)) = some (.string v_16) ∧
  ∃ a21_ : Addr, l_0.base = some a21_ ∧ 0 ≤ i_4 ∧ i_4 < (l_0.len : Int) ∧
  ∃ v_23 : Sl, F.cell (Addr.add (Addr.add a21_ (Int.toNat i_4 * 2)) 1) = some (Sl.v v_23) ∧
  N1 (IntKind.i64.wrap ((IntKind.i64.wrap ((IntKind.i64.wrap (n_3_1 + (v_16.size : Int))) + (v_23.len : Int))) + 5)) (IntKind.i64.wrap (i_4 + 1)) F) ∧
 (¬ (i_4 < (l_0.len : Int)) →
  b24j1 n_3_1 R F))
def b24 (l_0 : Sl) (R : VP) (F : PH) :=
 (∃ (I1 : Nat → Int → Int → PH → Prop) (m1 : Nat), I1 m1 0 0 F ∧ ∀ m1 n_3_1 i_4 F, I1 m1 n_3_1 i_4 F →
  b24L1 (nx2 I1 m1) l_0 R n_3_1 i_4 F)
theorem c24 {l_0 : Sl} {R : VP} {F : PH} (h : b24 l_0 R F) : Spec prog 24 #[(Sl.v l_0)] F R := by
 refine spec_of (args := [(Sl.v l_0)]) func24 rfl ntmps24 rfl ?_
 unfold b24 at h
 refine cR (sR (.int .i64 0) (r_assign rfl rfl) ?_)
 refine HL_nil ?_
 refine cR (sR (.int .i64 0) (r_assign rfl rfl) ?_)
 refine HL_nil ?_
 refine HC_seqJ (b24J1 R) ?_ ?_
 clear h; rintro E F ⟨n_3, h3, h⟩
 unfold b24j1 at h
 refine cR (sR _ (r_move rfl h3) ?_)
 refine sR (.int .i64 (IntKind.i64.wrap (n_3 + 62))) (r_add rfl rfl rfl) ?_
 refine sR (.int .i64 (IntKind.i64.wrap (Int.tdiv (IntKind.i64.wrap (n_3 + 62)) 63))) (r_quo rfl rfl rfl (by decide)) ?_
 refine sR (.int .i64 (IntKind.i64.wrap (1 + (IntKind.i64.wrap (Int.tdiv (IntKind.i64.wrap (n_3 + 62)) 63))))) (r_add rfl rfl rfl) ?_
 refine sR (.int .i64 (IntKind.i64.wrap (1 + (IntKind.i64.wrap (Int.tdiv (IntKind.i64.wrap (n_3 + 62)) 63))))) (r_assign rfl rfl) ?_
 exact HL_nil (HC_ret (rt1 f24 R rfl rfl h))
 refine cR (sR (.int .i64 0) (r_assign rfl rfl) ?_)
 refine HL_nil ?_
 refine HC_block ?_
 obtain ⟨I1, m1, hI0, hr⟩ := h
 refine HC_loop (fun m1 E F => ∃ n_3_1 : Int, ∃ i_4 : Int, E 0 = (Sl.v l_0) ∧ E 3 = (.int .i64 n_3_1) ∧ E 4 = (.int .i64 i_4) ∧ I1 m1 n_3_1 i_4 F) m1 ⟨_, _, rfl, rfl, rfl, hI0⟩ ?_
 clear hI0; rintro m1 E F ⟨n_3_1, i_4, h0, h3, h4, hI⟩
 have h := hr m1 n_3_1 i_4 F hI
 clear hr hI
 unfold b24L1 at h
 refine HC_seq ?_
 refine cR (sR _ (r_move rfl h4) ?_)
 refine sR _ (r_move rfl h0) ?_
 refine sR (.int .i64 (l_0.len : Int)) (r_lenSl rfl rfl underlying26) ?_
 refine sR (.bool (decide (i_4 < (l_0.len : Int)))) (r_lss rfl rfl rfl) ?_
 refine HL_nil ?_
 refine HC_cond (t := (decide (i_4 < (l_0.len : Int)))) rfl (fun hc => ?_) (fun hc => ?_)
 replace h := h.1 (of_decide_eq_true hc)
 clear hc
 refine HC_skip ?_
 refine HC_seq ?_
 refine HC_block ?_
 refine HC_draw0 (by kernel_rfl) (fun hp => ?_)
 refine gU 0 (.int .i64 n_3_1) rfl (fun _ => r_move rfl h3) hp ?_
 refine gU 1 (Sl.v l_0) rfl (fun _ => r_move rfl h0) hp ?_
 refine gU 2 (.int .i64 i_4) rfl (fun _ => r_move rfl h4) hp ?_
 obtain ⟨a14_, hb14, hl14, hu14, h⟩ := h
 refine gU 3 (.pointer (some (Addr.add a14_ (Int.toNat i_4 * 2)))) rfl (fun _ => w_indexAddr rfl rfl underlying26 sz41 hb14 hl14 hu14) hp ?_
 refine gU 4 (.pointer (some (Addr.add a14_ (Int.toNat i_4 * 2)))) rfl (fun _ => w_fieldAddr rfl underlying41 rfl rfl sz9 rfl rfl) hp ?_
 obtain ⟨v_16, hc16, h⟩ := h
 refine gR 5 (.string v_16) rfl (r_load1 rfl rfl underlying9 rfl hc16) hp (fun S5 q5 => ?_)
 replace hp := holdC (i := 5) (q5 _ (r_load1 rfl rfl underlying9 rfl hc16)) hp
 refine gU 6 (.int .i64 (v_16.size : Int)) rfl (fun _ => r_lenStr rfl rfl underlying9) hp ?_
 refine gU 7 (.int .i64 (IntKind.i64.wrap (n_3_1 + (v_16.size : Int)))) rfl (fun _ => r_add rfl rfl rfl) hp ?_
 refine gU 8 (Sl.v l_0) rfl (fun _ => r_move rfl h0) hp ?_
 refine gU 9 (.int .i64 i_4) rfl (fun _ => r_move rfl h4) hp ?_
 obtain ⟨a21_, hb21, hl21, hu21, h⟩ := h
 refine gU 10 (.pointer (some (Addr.add a21_ (Int.toNat i_4 * 2)))) rfl (fun _ => w_indexAddr rfl rfl underlying26 sz41 hb21 hl21 hu21) hp ?_
 refine gU 11 (.pointer (some (Addr.add (Addr.add a21_ (Int.toNat i_4 * 2)) 1))) rfl (fun _ => w_fieldAddr rfl underlying41 rfl rfl sz39 rfl rfl) hp ?_
 obtain ⟨v_23, hc23, h⟩ := h
 refine gR 12 (Sl.v v_23) rfl (r_load1 rfl rfl underlying39 rfl hc23) hp (fun S12 q12 => ?_)
 replace hp := holdC (i := 12) (q12 _ (r_load1 rfl rfl underlying39 rfl hc23)) hp
 refine gU 13 (.int .i64 (v_23.len : Int)) rfl (fun _ => r_lenSl rfl rfl underlying39) hp ?_
 refine gU 14 (.int .i64 (IntKind.i64.wrap ((IntKind.i64.wrap (n_3_1 + (v_16.size : Int))) + (v_23.len : Int)))) rfl (fun _ => r_add rfl rfl rfl) hp ?_
 refine gU 15 (.int .i64 (IntKind.i64.wrap ((IntKind.i64.wrap ((IntKind.i64.wrap (n_3_1 + (v_16.size : Int))) + (v_23.len : Int))) + 5))) rfl (fun _ => r_add rfl rfl rfl) hp ?_
 refine gU 16 (.int .i64 (IntKind.i64.wrap ((IntKind.i64.wrap ((IntKind.i64.wrap (n_3_1 + (v_16.size : Int))) + (v_23.len : Int))) + 5))) rfl (fun _ => r_assign rfl rfl) hp ?_
 refine RG_done (by kernel_rfl) ?_
 refine HC_region ?_
 refine sR _ (r_move rfl h4) ?_
 refine sR (.int .i64 (IntKind.i64.wrap (i_4 + 1))) (r_add rfl rfl rfl) ?_
 refine sR (.int .i64 (IntKind.i64.wrap (i_4 + 1))) (r_assign rfl rfl) ?_
 refine HL_nil ?_
 obtain ⟨m', hm, h⟩ := h
 exact ⟨m', hm, _, _, h0, rfl, rfl, h⟩
 replace h := h.2 (of_decide_eq_false hc)
 clear hc
 refine HC_exit ?_
 show b24J1 R _ _
 exact ⟨_, h3, h⟩
 /- 62 (koine.koineref35.State).snapshot -/
def b62 (s_0 : Array Value) (R : VP) (F : PH) :=
 ∀ b1, F b1 = none → atF (F.set b1 (.cells s_0 28)) fun F =>
 ∃ v_4 : Sl, F.cell (Addr.mk b1 2 none) = some (Sl.v v_4) ∧
 (((v_4.len : Int) = 0 →
  R (.int .i64 0) F) ∧
 (¬ ((v_4.len : Int) = 0) →
  ∃ v_8 : Sl, F.cell (Addr.mk b1 2 none) = some (Sl.v v_8) ∧
  Spec prog 24 #[(Sl.v v_8)] F fun v F => ∃ v_9 : Int, v = (.int .i64 v_9) ∧
  R (.int .i64 v_9) F))
theorem c62 {s_0 : Array Value} {R : VP} {F : PH} (h : b62 s_0 R F) : Spec prog 62 #[(.agg s_0)] F R := by
 refine spec_of (args := [(.agg s_0)]) func62 rfl ntmps62 rfl ?_
 unfold b62 at h
 refine cR ?_
 refine s_ef (k_box (cs := s_0) rfl rfl ?_)
 intro b1 hf_b1
 replace h := atE (h b1 hf_b1)
 refine sR (.int .i64 0) (r_assign rfl rfl) ?_
 refine HL_nil ?_
 refine HC_seq ?_
 refine cR (sR (.pointer (some (Addr.mk b1 2 none))) (w_fieldAddr rfl underlying28 rfl rfl sz26 rfl rfl) ?_)
 obtain ⟨v_4, hc4, h⟩ := h
 refine sR (Sl.v v_4) (r_load1 rfl rfl underlying26 rfl hc4) ?_
 refine sR (.int .i64 (v_4.len : Int)) (r_lenSl rfl rfl underlying26) ?_
 refine sR (.bool (decide ((v_4.len : Int) = 0))) (w_eql rfl rfl) ?_
 refine HL_nil ?_
 refine HC_cond (t := (decide ((v_4.len : Int) = 0))) rfl (fun hc => ?_) (fun hc => ?_)
 replace h := h.1 (of_decide_eq_true hc)
 clear hc
 refine cR (sR (.int .i64 0) (r_assign rfl rfl) ?_)
 exact HL_nil (HC_ret (rt1 f62 R rfl rfl h))
 replace h := h.2 (of_decide_eq_false hc)
 clear hc
 refine HC_skip ?_
 refine cR (sR (.pointer (some (Addr.mk b1 2 none))) (w_fieldAddr rfl underlying28 rfl rfl sz26 rfl rfl) ?_)
 obtain ⟨v_8, hc8, h⟩ := h
 refine sR (Sl.v v_8) (r_load1 rfl rfl underlying26 rfl hc8) ?_
 refine s_ef (k_call (vs := [(Sl.v v_8)]) cb24 (evC rfl evN) (h.mono ?_))
 clear h; rintro v F ⟨v_9, rfl, h⟩
 refine sR (.int .i64 v_9) (r_assign rfl rfl) ?_
 exact HL_nil (HC_ret (rt1 f62 R rfl rfl h))
 /- 65 (koine.koineref35.State).capacity -/
def b65 (s_0 : Array Value) (R : VP) (F : PH) :=
 ∀ b1, F b1 = none → atF (F.set b1 (.cells s_0 28)) fun F =>
 ∃ v_4 : Int, F.cell (Addr.mk b1 0 none) = some (.int .i64 v_4) ∧
 R (.int .i64 (IntKind.i64.wrap ((IntKind.i64.wrap (Int.tdiv v_4 2)) - 1))) F
theorem c65 {s_0 : Array Value} {R : VP} {F : PH} (h : b65 s_0 R F) : Spec prog 65 #[(.agg s_0)] F R := by
 refine spec_of (args := [(.agg s_0)]) func65 rfl ntmps65 rfl ?_
 unfold b65 at h
 refine cR ?_
 refine s_ef (k_box (cs := s_0) rfl rfl ?_)
 intro b1 hf_b1
 replace h := atE (h b1 hf_b1)
 refine sR (.int .i64 0) (r_assign rfl rfl) ?_
 refine HL_nil ?_
 refine cR (sR (.pointer (some (Addr.mk b1 0 none))) (w_fieldAddr rfl underlying28 rfl rfl sz3 rfl rfl) ?_)
 obtain ⟨v_4, hc4, h⟩ := h
 refine sR (.int .i64 v_4) (r_load1 rfl rfl underlying3 rfl hc4) ?_
 refine sR (.int .i64 (IntKind.i64.wrap (Int.tdiv v_4 2))) (r_quo rfl rfl rfl (by decide)) ?_
 refine sR (.int .i64 (IntKind.i64.wrap ((IntKind.i64.wrap (Int.tdiv v_4 2)) - 1))) (r_sub rfl rfl rfl) ?_
 refine sR (.int .i64 (IntKind.i64.wrap ((IntKind.i64.wrap (Int.tdiv v_4 2)) - 1))) (r_assign rfl rfl) ?_
 exact HL_nil (HC_ret (rt1 f65 R rfl rfl h))
 /- 66 koine.koineref35.After -/
def b66j1 (l_0_1 : Sl) (R : VP) (F : PH) :=
 R (Sl.v l_0_1) F
abbrev b66J1 (R : VP) (E : En) (F : PH) : Prop := ∃ l_0_1 : Sl, E 0 = (Sl.v l_0_1) ∧ b66j1 l_0_1 R F
def b66L1 (N1 : Sl → Int → PH → Prop) (t_1 : Sl) (R : VP) (l_0_2 : Sl) (i_5 : Int) (F : PH) :=
 ((i_5 < (t_1.len : Int) →
  ∃ a15_ : Addr, t_1.base = some a15_ ∧ 0 ≤ i_5 ∧ i_5 < (t_1.len : Int) ∧
  ∃ v_16 : Array Value, v_16.size = 2 ∧ F.row (Addr.add a15_ (Int.toNat i_5 * 2)) v_16 ∧
  Spec prog 74 #[(Sl.v l_0_2), (.agg v_16)] F fun v F => ∃ v_17 : Sl, v = (Sl.v v_17) ∧
  N1 v_17 (IntKind.i64.wrap (i_5 + 1)) F) ∧
 (¬ (i_5 < (t_1.len : Int)) →
  b66j1 l_0_2 R F))
def b66 (l_0 : Sl) (t_1 : Sl) (R : VP) (F : PH) :=
 (∃ (I1 : Nat → Sl → Int → PH → Prop) (m1 : Nat), I1 m1 l_0 0 F ∧ ∀ m1 l_0_2 i_5 F, I1 m1 l_0_2 i_5 F →
  b66L1 (nx2 I1 m1) t_1 R l_0_2 i_5 F)
theorem c66 {l_0 : Sl} {t_1 : Sl} {R : VP} {F : PH} (h : b66 l_0 t_1 R F) : Spec prog 66 #[(Sl.v l_0), (Sl.v t_1)] F R := by
 refine spec_of (args := [(Sl.v l_0), (Sl.v t_1)]) func66 rfl ntmps66 rfl ?_
 unfold b66 at h
 refine cR (sR (Sl.v Sl.nil) (r_assign rfl rfl) ?_)
 refine HL_nil ?_
 refine HC_seqJ (b66J1 R) ?_ ?_
 clear h; rintro E F ⟨l_0_1, h0, h⟩
 unfold b66j1 at h
 refine cR (sR _ (r_move rfl h0) ?_)
 refine sR (Sl.v l_0_1) (r_assign rfl rfl) ?_
 exact HL_nil (HC_ret (rt1 f66 R rfl rfl h))
 refine cR (sR (.int .i64 0) (r_assign rfl rfl) ?_)
 refine HL_nil ?_
 refine HC_block ?_
 obtain ⟨I1, m1, hI0, hr⟩ := h
 refine HC_loop (fun m1 E F => ∃ l_0_2 : Sl, ∃ i_5 : Int, E 0 = (Sl.v l_0_2) ∧ E 1 = (Sl.v t_1) ∧ E 5 = (.int .i64 i_5) ∧ I1 m1 l_0_2 i_5 F) m1 ⟨_, _, rfl, rfl, rfl, hI0⟩ ?_
 clear hI0; rintro m1 E F ⟨l_0_2, i_5, h0, h1, h5, hI⟩
 have h := hr m1 l_0_2 i_5 F hI
 clear hr hI
 unfold b66L1 at h
 refine HC_seq ?_
 refine cR (sR _ (r_move rfl h5) ?_)
 refine sR _ (r_move rfl h1) ?_
 refine sR (.int .i64 (t_1.len : Int)) (r_lenSl rfl rfl underlying26) ?_
 refine sR (.bool (decide (i_5 < (t_1.len : Int)))) (r_lss rfl rfl rfl) ?_
 refine HL_nil ?_
 refine HC_cond (t := (decide (i_5 < (t_1.len : Int)))) rfl (fun hc => ?_) (fun hc => ?_)
 replace h := h.1 (of_decide_eq_true hc)
 clear hc
 refine HC_skip ?_
 refine HC_seq ?_
 refine HC_block ?_
 refine HC_region ?_
 refine sR _ (r_move rfl h0) ?_
 refine sR _ (r_move rfl h1) ?_
 refine sR _ (r_move rfl h5) ?_
 obtain ⟨a15_, hb15, hl15, hu15, h⟩ := h
 refine sR (.pointer (some (Addr.add a15_ (Int.toNat i_5 * 2)))) (w_indexAddr rfl rfl underlying26 sz41 hb15 hl15 hu15) ?_
 obtain ⟨v_16, hs16, hc16, h⟩ := h
 refine sR (.agg v_16) (w_loadN rfl underlying41 rfl sz41 hs16 hc16) ?_
 refine s_ef (k_call (vs := [(Sl.v l_0_2), (.agg v_16)]) cb74 (evC rfl (evC rfl evN)) (h.mono ?_))
 clear h; rintro v F ⟨v_17, rfl, h⟩
 refine sR (Sl.v v_17) (r_assign rfl rfl) ?_
 refine HL_nil ?_
 refine HC_region ?_
 refine sR _ (r_move rfl h5) ?_
 refine sR (.int .i64 (IntKind.i64.wrap (i_5 + 1))) (r_add rfl rfl rfl) ?_
 refine sR (.int .i64 (IntKind.i64.wrap (i_5 + 1))) (r_assign rfl rfl) ?_
 refine HL_nil ?_
 obtain ⟨m', hm, h⟩ := h
 exact ⟨m', hm, _, _, rfl, h1, rfl, h⟩
 replace h := h.2 (of_decide_eq_false hc)
 clear hc
 refine HC_exit ?_
 show b66J1 R _ _
 exact ⟨_, h0, h⟩
 /- 74 koine.koineref35.with -/
def b74j1 (b3 : Nat) (out_5 : Sl) (done_6 : Bool) (R : VP) (F : PH) :=
 (((!done_6) = true →
  ∃ v_59 : Array Value, v_59.size = 2 ∧ F.row (Addr.mk b3 0 none) v_59 ∧
  v_59.size = 2 ∧ ∀ b60, F b60 = none → atF (F.set b60 (.cells v_59 41)) fun F =>
  runs prog (Builtin.append_ #[26, 26] 26 #[(Sl.v out_5), (Sl.v (Sl.mk (some (Addr.mk b60 0 none)) 1 1))]) F fun v F => ∃ v_61 : Sl, v = (Sl.v v_61) ∧
  R (Sl.v v_61) F) ∧
 ((!done_6) = false →
  R (Sl.v out_5) F))
abbrev b74J1 (b3 : Nat) (R : VP) (E : En) (F : PH) : Prop := ∃ out_5 : Sl, ∃ done_6 : Bool, E 3 = (.pointer (some (Addr.mk b3 0 none))) ∧ E 5 = (Sl.v out_5) ∧ E 6 = (.bool done_6) ∧ b74j1 b3 out_5 done_6 R F
def b74j2 (N1 : Sl → Bool → Int → PH → Prop) (l_0 : Sl) (b3 : Nat) (i_7 : Int) (out_5_2 : Sl) (done_6_2 : Bool) (R : VP) (F : PH) :=
 N1 out_5_2 done_6_2 (IntKind.i64.wrap (i_7 + 1)) F
abbrev b74J2 (N1 : Sl → Bool → Int → PH → Prop) (l_0 : Sl) (b3 : Nat) (i_7 : Int) (R : VP) (E : En) (F : PH) : Prop := ∃ out_5_2 : Sl, ∃ done_6_2 : Bool, E 0 = (Sl.v l_0) ∧ E 3 = (.pointer (some (Addr.mk b3 0 none))) ∧ E 5 = (Sl.v out_5_2) ∧ E 6 = (.bool done_6_2) ∧ E 7 = (.int .i64 i_7) ∧ b74j2 N1 l_0 b3 i_7 out_5_2 done_6_2 R F
def b74j3 (N1 : Sl → Bool → Int → PH → Prop) (l_0 : Sl) (b3 : Nat) (i_7 : Int) (out_5_3 : Sl) (done_6_3 : Bool) (R : VP) (F : PH) :=
 ∃ a37_ : Addr, l_0.base = some a37_ ∧ 0 ≤ i_7 ∧ i_7 < (l_0.len : Int) ∧
 ∃ v_39 : ByteArray, F.cell (Addr.add a37_ (Int.toNat i_7 * 2)) = some (.string v_39) ∧
 ∃ v_41 : ByteArray, F.cell (Addr.mk b3 0 none) = some (.string v_41) ∧
 (((!(v_39.toList == v_41.toList)) = true →
  ∃ a46_ : Addr, l_0.base = some a46_ ∧ 0 ≤ i_7 ∧ i_7 < (l_0.len : Int) ∧
  ∃ v_47 : Array Value, v_47.size = 2 ∧ F.row (Addr.add a46_ (Int.toNat i_7 * 2)) v_47 ∧
  v_47.size = 2 ∧ ∀ b48, F b48 = none → atF (F.set b48 (.cells v_47 41)) fun F =>
  runs prog (Builtin.append_ #[26, 26] 26 #[(Sl.v out_5_3), (Sl.v (Sl.mk (some (Addr.mk b48 0 none)) 1 1))]) F fun v F => ∃ v_49 : Sl, v = (Sl.v v_49) ∧
  b74j2 N1 l_0 b3 i_7 v_49 done_6_3 R F) ∧
 ((!(v_39.toList == v_41.toList)) = false →
  (((!done_6_3) = true →
   ∃ v_53 : Array Value, v_53.size = 2 ∧ F.row (Addr.mk b3 0 none) v_53 ∧
   v_53.size = 2 ∧ ∀ b54, F b54 = none → atF (F.set b54 (.cells v_53 41)) fun F =>
   runs prog (Builtin.append_ #[26, 26] 26 #[(Sl.v out_5_3), (Sl.v (Sl.mk (some (Addr.mk b54 0 none)) 1 1))]) F fun v F => ∃ v_55 : Sl, v = (Sl.v v_55) ∧
   b74j2 N1 l_0 b3 i_7 v_55 true R F) ∧
  ((!done_6_3) = false →
   b74j2 N1 l_0 b3 i_7 out_5_3 done_6_3 R F))))
abbrev b74J3 (N1 : Sl → Bool → Int → PH → Prop) (l_0 : Sl) (b3 : Nat) (i_7 : Int) (R : VP) (E : En) (F : PH) : Prop := ∃ out_5_3 : Sl, ∃ done_6_3 : Bool, E 0 = (Sl.v l_0) ∧ E 3 = (.pointer (some (Addr.mk b3 0 none))) ∧ E 5 = (Sl.v out_5_3) ∧ E 6 = (.bool done_6_3) ∧ E 7 = (.int .i64 i_7) ∧ b74j3 N1 l_0 b3 i_7 out_5_3 done_6_3 R F
def b74j4 (N1 : Sl → Bool → Int → PH → Prop) (l_0 : Sl) (b3 : Nat) (out_5_1 : Sl) (done_6_1 : Bool) (i_7 : Int) (v_30 : Bool) (R : VP) (F : PH) :=
 ((v_30 = true →
  ∃ v_32 : Array Value, v_32.size = 2 ∧ F.row (Addr.mk b3 0 none) v_32 ∧
  v_32.size = 2 ∧ ∀ b33, F b33 = none → atF (F.set b33 (.cells v_32 41)) fun F =>
  runs prog (Builtin.append_ #[26, 26] 26 #[(Sl.v out_5_1), (Sl.v (Sl.mk (some (Addr.mk b33 0 none)) 1 1))]) F fun v F => ∃ v_34 : Sl, v = (Sl.v v_34) ∧
  b74j3 N1 l_0 b3 i_7 v_34 true R F) ∧
 (v_30 = false →
  b74j3 N1 l_0 b3 i_7 out_5_1 done_6_1 R F))
abbrev b74J4 (N1 : Sl → Bool → Int → PH → Prop) (l_0 : Sl) (b3 : Nat) (out_5_1 : Sl) (done_6_1 : Bool) (i_7 : Int) (R : VP) (E : En) (F : PH) : Prop := ∃ v_30 : Bool, E 0 = (Sl.v l_0) ∧ E 3 = (.pointer (some (Addr.mk b3 0 none))) ∧ E 5 = (Sl.v out_5_1) ∧ E 6 = (.bool done_6_1) ∧ E 7 = (.int .i64 i_7) ∧ E 30 = (.bool v_30) ∧ b74j4 N1 l_0 b3 out_5_1 done_6_1 i_7 v_30 R F
def b74L1 (N1 : Sl → Bool → Int → PH → Prop) (l_0 : Sl) (b3 : Nat) (R : VP) (out_5_1 : Sl) (done_6_1 : Bool) (i_7 : Int) (F : PH) :=
 ((i_7 < (l_0.len : Int) →
  (((!done_6_1) = true →
   ∃ v_23 : ByteArray, F.cell (Addr.mk b3 0 none) = some (.string v_23) ∧
   ∃ a26_ : Addr, l_0.base = some a26_ ∧ 0 ≤ i_7 ∧ i_7 < (l_0.len : Int) ∧
   ∃ v_28 : ByteArray, F.cell (Addr.add a26_ (Int.toNat i_7 * 2)) = some (.string v_28) ∧
   b74j4 N1 l_0 b3 out_5_1 done_6_1 i_7 (Op.bytesLess v_23.toList v_28.toList) R F) ∧
  ((!done_6_1) = false →
   b74j4 N1 l_0 b3 out_5_1 done_6_1 i_7 false R F))) ∧
 (¬ (i_7 < (l_0.len : Int)) →
  b74j1 b3 out_5_1 done_6_1 R F))
def b74 (l_0 : Sl) (r_1 : Array Value) (R : VP) (F : PH) :=
 ∀ b3, F b3 = none → atF (F.set b3 (.cells r_1 41)) fun F =>
 ∀ b8, F b8 = none → atF (F.set b8 (.cells #[] 41)) fun F =>
 ∃ v_10 : Sl, F.cell (Addr.mk b3 1 none) = some (Sl.v v_10) ∧
 (∃ (I1 : Nat → Sl → Bool → Int → PH → Prop) (m1 : Nat), I1 m1 (Sl.mk (some (Addr.mk b8 0 none)) 0 0) (decide ((v_10.len : Int) = 0)) 0 F ∧ ∀ m1 out_5_1 done_6_1 i_7 F, I1 m1 out_5_1 done_6_1 i_7 F →
  b74L1 (nx3 I1 m1) l_0 b3 R out_5_1 done_6_1 i_7 F)
theorem c74 {l_0 : Sl} {r_1 : Array Value} {R : VP} {F : PH} (h : b74 l_0 r_1 R F) : Spec prog 74 #[(Sl.v l_0), (.agg r_1)] F R := by
 refine spec_of (args := [(Sl.v l_0), (.agg r_1)]) func74 rfl ntmps74 rfl ?_
 unfold b74 at h
 refine cR ?_
 refine s_ef (k_box (cs := r_1) rfl rfl ?_)
 intro b3 hf_b3
 replace h := atE (h b3 hf_b3)
 refine sR (Sl.v Sl.nil) (r_assign rfl rfl) ?_
 refine HL_nil ?_
 refine cR ?_
 refine s_ef (k_buildSlice (cells := #[]) underlying26 sz41 (by decide) zr41 ((zc_flat _ rfl _).trans (rfl : _ = (#[] : Array Value))) evPN (fillN rfl) rfl ?_)
 intro b8 hf_b8
 replace h := atE (h b8 hf_b8)
 refine sR (Sl.v (Sl.mk (some (Addr.mk b8 0 none)) 0 0)) (r_assign rfl rfl) ?_
 refine HL_nil ?_
 refine cR (sR (.pointer (some (Addr.mk b3 1 none))) (w_fieldAddr rfl underlying41 rfl rfl sz39 rfl rfl) ?_)
 obtain ⟨v_10, hc10, h⟩ := h
 refine sR (Sl.v v_10) (r_load1 rfl rfl underlying39 rfl hc10) ?_
 refine sR (.int .i64 (v_10.len : Int)) (r_lenSl rfl rfl underlying39) ?_
 refine sR (.bool (decide ((v_10.len : Int) = 0))) (w_eql rfl rfl) ?_
 refine sR (.bool (decide ((v_10.len : Int) = 0))) (r_assign rfl rfl) ?_
 refine HL_nil ?_
 refine HC_seqJ (b74J1 b3 R) ?_ ?_
 clear h; rintro E F ⟨out_5, done_6, h3, h5, h6, h⟩
 unfold b74j1 at h
 refine HC_seq ?_
 refine cR (sR _ (r_move rfl h6) ?_)
 refine sR (.bool (!done_6)) (r_not rfl rfl) ?_
 refine HL_nil ?_
 refine HC_cond (t := (!done_6)) rfl (fun hc => ?_) (fun hc => ?_)
 replace h := h.1 hc
 clear hc
 refine HC_region ?_
 refine sR _ (r_move rfl h5) ?_
 obtain ⟨v_59, hs59, hc59, h⟩ := h
 refine sR (.agg v_59) (w_loadN h3 underlying41 rfl sz41 hs59 hc59) ?_
 obtain ⟨hz60, h⟩ := h
 refine s_ef (k_buildSlice (cells := v_59) underlying26 sz41 (by decide) zr41 rfl (evPC rfl evPN) (fillWhole hz60 rfl rfl) rfl ?_)
 intro b60 hf_b60
 replace h := atE (h b60 hf_b60)
 refine s_ef (k_append rfl rfl (runs_mono _ _ h ?_))
 clear h; rintro v F ⟨v_61, rfl, h⟩
 refine sR (Sl.v v_61) (r_assign rfl rfl) ?_
 refine HL_nil ?_
 refine cR (sR (Sl.v v_61) (r_move rfl rfl) ?_)
 refine sR (Sl.v v_61) (r_assign rfl rfl) ?_
 exact HL_nil (HC_ret (rt1 f74 R rfl rfl h))
 replace h := h.2 hc
 clear hc
 refine HC_skip ?_
 refine cR (sR _ (r_move rfl h5) ?_)
 refine sR (Sl.v out_5) (r_assign rfl rfl) ?_
 exact HL_nil (HC_ret (rt1 f74 R rfl rfl h))
 refine cR (sR (.int .i64 0) (r_assign rfl rfl) ?_)
 refine HL_nil ?_
 refine HC_block ?_
 obtain ⟨I1, m1, hI0, hr⟩ := h
 refine HC_loop (fun m1 E F => ∃ out_5_1 : Sl, ∃ done_6_1 : Bool, ∃ i_7 : Int, E 0 = (Sl.v l_0) ∧ E 3 = (.pointer (some (Addr.mk b3 0 none))) ∧ E 5 = (Sl.v out_5_1) ∧ E 6 = (.bool done_6_1) ∧ E 7 = (.int .i64 i_7) ∧ I1 m1 out_5_1 done_6_1 i_7 F) m1 ⟨_, _, _, rfl, rfl, rfl, rfl, rfl, hI0⟩ ?_
 clear hI0; rintro m1 E F ⟨out_5_1, done_6_1, i_7, h0, h3, h5, h6, h7, hI⟩
 have h := hr m1 out_5_1 done_6_1 i_7 F hI
 clear hr hI
 unfold b74L1 at h
 refine HC_seq ?_
 refine cR (sR _ (r_move rfl h7) ?_)
 refine sR _ (r_move rfl h0) ?_
 refine sR (.int .i64 (l_0.len : Int)) (r_lenSl rfl rfl underlying26) ?_
 refine sR (.bool (decide (i_7 < (l_0.len : Int)))) (r_lss rfl rfl rfl) ?_
 refine HL_nil ?_
 refine HC_cond (t := (decide (i_7 < (l_0.len : Int)))) rfl (fun hc => ?_) (fun hc => ?_)
 replace h := h.1 (of_decide_eq_true hc)
 clear hc
 refine HC_skip ?_
 refine HC_seqJ (b74J2 (nx3 I1 m1) l_0 b3 i_7 R) ?_ ?_
 clear h; rintro E F ⟨out_5_2, done_6_2, h0, h3, h5, h6, h7, h⟩
 unfold b74j2 at h
 refine HC_region ?_
 refine sR _ (r_move rfl h7) ?_
 refine sR (.int .i64 (IntKind.i64.wrap (i_7 + 1))) (r_add rfl rfl rfl) ?_
 refine sR (.int .i64 (IntKind.i64.wrap (i_7 + 1))) (r_assign rfl rfl) ?_
 refine HL_nil ?_
 obtain ⟨m', hm, h⟩ := h
 exact ⟨m', hm, _, _, _, h0, h3, h5, h6, rfl, h⟩
 refine HC_block ?_
 refine HC_seqJ (b74J3 (nx3 I1 m1) l_0 b3 i_7 R) ?_ ?_
 clear h; rintro E F ⟨out_5_3, done_6_3, h0, h3, h5, h6, h7, h⟩
 unfold b74j3 at h
 refine HC_seq ?_
 refine HC_draw0 (by kernel_rfl) (fun hp => ?_)
 refine gU 0 (Sl.v l_0) rfl (fun _ => r_move rfl h0) hp ?_
 refine gU 1 (.int .i64 i_7) rfl (fun _ => r_move rfl h7) hp ?_
 obtain ⟨a37_, hb37, hl37, hu37, h⟩ := h
 refine gU 2 (.pointer (some (Addr.add a37_ (Int.toNat i_7 * 2)))) rfl (fun _ => w_indexAddr rfl rfl underlying26 sz41 hb37 hl37 hu37) hp ?_
 refine gU 3 (.pointer (some (Addr.add a37_ (Int.toNat i_7 * 2)))) rfl (fun _ => w_fieldAddr rfl underlying41 rfl rfl sz9 rfl rfl) hp ?_
 obtain ⟨v_39, hc39, h⟩ := h
 refine gR 4 (.string v_39) rfl (r_load1 rfl rfl underlying9 rfl hc39) hp (fun S4 q4 => ?_)
 replace hp := holdC (i := 4) (q4 _ (r_load1 rfl rfl underlying9 rfl hc39)) hp
 refine gU 5 (.pointer (some (Addr.mk b3 0 none))) rfl (fun _ => w_fieldAddr h3 underlying41 rfl rfl sz9 rfl rfl) hp ?_
 obtain ⟨v_41, hc41, h⟩ := h
 refine gR 6 (.string v_41) rfl (r_load1 rfl rfl underlying9 rfl hc41) hp (fun S6 q6 => ?_)
 replace hp := holdC (i := 6) (q6 _ (r_load1 rfl rfl underlying9 rfl hc41)) hp
 refine gU 7 (.bool (!(v_39.toList == v_41.toList))) rfl (fun _ => r_neqS rfl rfl rfl) hp ?_
 refine RG_done (by kernel_rfl) ?_
 refine HC_cond (t := (!(v_39.toList == v_41.toList))) rfl (fun hc => ?_) (fun hc => ?_)
 replace h := h.1 hc
 clear hc
 refine HC_region ?_
 refine sR _ (r_move rfl h5) ?_
 refine sR _ (r_move rfl h0) ?_
 refine sR _ (r_move rfl h7) ?_
 obtain ⟨a46_, hb46, hl46, hu46, h⟩ := h
 refine sR (.pointer (some (Addr.add a46_ (Int.toNat i_7 * 2)))) (w_indexAddr rfl rfl underlying26 sz41 hb46 hl46 hu46) ?_
 obtain ⟨v_47, hs47, hc47, h⟩ := h
 refine sR (.agg v_47) (w_loadN rfl underlying41 rfl sz41 hs47 hc47) ?_
 obtain ⟨hz48, h⟩ := h
 refine s_ef (k_buildSlice (cells := v_47) underlying26 sz41 (by decide) zr41 rfl (evPC rfl evPN) (fillWhole hz48 rfl rfl) rfl ?_)
 intro b48 hf_b48
 replace h := atE (h b48 hf_b48)
 refine s_ef (k_append rfl rfl (runs_mono _ _ h ?_))
 clear h; rintro v F ⟨v_49, rfl, h⟩
 refine sR (Sl.v v_49) (r_assign rfl rfl) ?_
 refine HL_nil ?_
 show b74J2 (nx3 I1 m1) l_0 b3 i_7 R _ _
 exact ⟨_, _, h0, h3, rfl, h6, h7, h⟩
 replace h := h.2 hc
 clear hc
 refine cR (sR _ (r_move rfl h6) ?_)
 refine sR (.bool (!done_6_3)) (r_not rfl rfl) ?_
 refine HL_nil ?_
 refine HC_cond (t := (!done_6_3)) rfl (fun hc => ?_) (fun hc => ?_)
 replace h := h.1 hc
 clear hc
 refine cR (sR _ (r_move rfl h5) ?_)
 obtain ⟨v_53, hs53, hc53, h⟩ := h
 refine sR (.agg v_53) (w_loadN h3 underlying41 rfl sz41 hs53 hc53) ?_
 obtain ⟨hz54, h⟩ := h
 refine s_ef (k_buildSlice (cells := v_53) underlying26 sz41 (by decide) zr41 rfl (evPC rfl evPN) (fillWhole hz54 rfl rfl) rfl ?_)
 intro b54 hf_b54
 replace h := atE (h b54 hf_b54)
 refine s_ef (k_append rfl rfl (runs_mono _ _ h ?_))
 clear h; rintro v F ⟨v_55, rfl, h⟩
 refine sR (Sl.v v_55) (r_assign rfl rfl) ?_
 refine HL_nil ?_
 refine HC_region ?_
 refine sR (.bool true) (r_assign rfl rfl) ?_
 refine HL_nil ?_
 show b74J2 (nx3 I1 m1) l_0 b3 i_7 R _ _
 exact ⟨_, _, h0, h3, rfl, rfl, h7, h⟩
 replace h := h.2 hc
 clear hc
 refine HC_skip ?_
 show b74J2 (nx3 I1 m1) l_0 b3 i_7 R _ _
 exact ⟨_, _, h0, h3, h5, h6, h7, h⟩
 refine HC_seqJ (b74J4 (nx3 I1 m1) l_0 b3 out_5_1 done_6_1 i_7 R) ?_ ?_
 clear h; rintro E F ⟨v_30, h0, h3, h5, h6, h7, h30, h⟩
 unfold b74j4 at h
 refine HC_cond (t := v_30) h30 (fun hc => ?_) (fun hc => ?_)
 replace h := h.1 hc
 clear hc
 refine cR (sR _ (r_move rfl h5) ?_)
 obtain ⟨v_32, hs32, hc32, h⟩ := h
 refine sR (.agg v_32) (w_loadN h3 underlying41 rfl sz41 hs32 hc32) ?_
 obtain ⟨hz33, h⟩ := h
 refine s_ef (k_buildSlice (cells := v_32) underlying26 sz41 (by decide) zr41 rfl (evPC rfl evPN) (fillWhole hz33 rfl rfl) rfl ?_)
 intro b33 hf_b33
 replace h := atE (h b33 hf_b33)
 refine s_ef (k_append rfl rfl (runs_mono _ _ h ?_))
 clear h; rintro v F ⟨v_34, rfl, h⟩
 refine sR (Sl.v v_34) (r_assign rfl rfl) ?_
 refine HL_nil ?_
 refine HC_region ?_
 refine sR (.bool true) (r_assign rfl rfl) ?_
 refine HL_nil ?_
 show b74J3 (nx3 I1 m1) l_0 b3 i_7 R _ _
 exact ⟨_, _, h0, h3, rfl, rfl, h7, h⟩
 replace h := h.2 hc
 clear hc
 refine HC_skip ?_
 show b74J3 (nx3 I1 m1) l_0 b3 i_7 R _ _
 exact ⟨_, _, h0, h3, h5, h6, h7, h⟩
 refine HC_draw0 (by kernel_rfl) (fun hp => ?_)
 refine gU 0 (.bool done_6_1) rfl (fun _ => r_move rfl h6) hp ?_
 refine gU 1 (.bool (!done_6_1)) rfl (fun _ => r_not rfl rfl) hp ?_
 refine gU 2 (.bool (!done_6_1)) rfl (fun _ => r_move rfl rfl) hp ?_
 by_cases hc : (!done_6_1) = true
 replace h := h.1 hc
 refine RG_known (t := 20) (v := .bool true) (congrArg Value.bool hc) ?_
 refine RG_known (t := 21) (v := .bool true) (congrArg Value.bool hc) ?_
 refine gU 3 (.pointer (some (Addr.mk b3 0 none))) rfl (fun _ => w_fieldAddr h3 underlying41 rfl rfl sz9 rfl rfl) hp ?_
 obtain ⟨v_23, hc23, h⟩ := h
 refine gR 4 (.string v_23) rfl (r_load1 rfl rfl underlying9 rfl hc23) hp (fun S4 q4 => ?_)
 replace hp := holdC (i := 4) (q4 _ (r_load1 rfl rfl underlying9 rfl hc23)) hp
 refine gU 5 (Sl.v l_0) rfl (fun _ => r_move rfl h0) hp ?_
 refine gU 6 (.int .i64 i_7) rfl (fun _ => r_move rfl h7) hp ?_
 obtain ⟨a26_, hb26, hl26, hu26, h⟩ := h
 refine gU 7 (.pointer (some (Addr.add a26_ (Int.toNat i_7 * 2)))) rfl (fun _ => w_indexAddr rfl rfl underlying26 sz41 hb26 hl26 hu26) hp ?_
 refine gU 8 (.pointer (some (Addr.add a26_ (Int.toNat i_7 * 2)))) rfl (fun _ => w_fieldAddr rfl underlying41 rfl rfl sz9 rfl rfl) hp ?_
 obtain ⟨v_28, hc28, h⟩ := h
 refine gR 9 (.string v_28) rfl (r_load1 rfl rfl underlying9 rfl hc28) hp (fun S9 q9 => ?_)
 replace hp := holdC (i := 9) (q9 _ (r_load1 rfl rfl underlying9 rfl hc28)) hp
 refine gU 10 (.bool (Op.bytesLess v_23.toList v_28.toList)) rfl (fun _ => r_lssS rfl rfl rfl) hp ?_
 refine gU 11 (.bool (Op.bytesLess v_23.toList v_28.toList)) rfl (fun _ => r_pick rfl rfl (fun _ => rfl) (fun h => by cases h)) hp ?_
 refine RG_done (by kernel_rfl) ?_
 show b74J4 (nx3 I1 m1) l_0 b3 out_5_1 done_6_1 i_7 R _ _
 exact ⟨_, h0, h3, h5, h6, h7, rfl, h⟩
 replace hc := eq_false_of_ne_true hc; replace h := h.2 hc
 refine RG_known (t := 20) (v := .bool false) (congrArg Value.bool hc) ?_
 refine RG_known (t := 21) (v := .bool false) (congrArg Value.bool hc) ?_
 refine gS 3 rfl hp ?_
 refine gS 4 rfl hp ?_
 refine gS 5 rfl hp ?_
 refine gS 6 rfl hp ?_
 refine gS 7 rfl hp ?_
 refine gS 8 rfl hp ?_
 refine gS 9 rfl hp ?_
 refine gS 10 rfl hp ?_
 refine gU 11 (.bool false) rfl (fun _ => r_pick rfl rfl (fun h => by cases h) (fun _ => rfl)) hp ?_
 refine RG_done (by kernel_rfl) ?_
 show b74J4 (nx3 I1 m1) l_0 b3 out_5_1 done_6_1 i_7 R _ _
 exact ⟨_, h0, h3, h5, h6, h7, rfl, h⟩
 replace h := h.2 (of_decide_eq_false hc)
 clear hc
 refine HC_exit ?_
 show b74J1 b3 R _ _
 exact ⟨_, _, h3, h5, h6, h⟩
 /- 23 koine.koineref35.Valid -/
def b23j1 (R : VP) (F : PH) :=
 R (.bool true) F
abbrev b23J1 (R : VP) (E : En) (F : PH) : Prop := b23j1 R F
def b23L1 (N1 : Int → PH → Prop) (t_0 : Sl) (R : VP) (i_3 : Int) (F : PH) :=
 ((i_3 < (t_0.len : Int) →
  ∃ a12_ : Addr, t_0.base = some a12_ ∧ 0 ≤ i_3 ∧ i_3 < (t_0.len : Int) ∧
  ∃ v_14 : ByteArray, F.cell (Addr.add a12_ (Int.toNat i_3 * 2)) = some (.string v_14) ∧
  (((v_14.size : Int) < 1 →
   R (.bool false) F) ∧
  (¬ ((v_14.size : Int) < 1) →
   ∃ a20_ : Addr, t_0.base = some a20_ ∧ 0 ≤ i_3 ∧ i_3 < (t_0.len : Int) ∧
   ∃ v_22 : ByteArray, F.cell (Addr.add a20_ (Int.toNat i_3 * 2)) = some (.string v_22) ∧
   (((255 : Int) < (v_22.size : Int) →
    R (.bool false) F) ∧
   (¬ ((255 : Int) < (v_22.size : Int)) →
    ∃ a29_ : Addr, t_0.base = some a29_ ∧ 0 ≤ i_3 ∧ i_3 < (t_0.len : Int) ∧
    ∃ v_31 : Sl, F.cell (Addr.add (Addr.add a29_ (Int.toNat i_3 * 2)) 1) = some (Sl.v v_31) ∧
    (((1048576 : Int) < (v_31.len : Int) →
     R (.bool false) F) ∧
    (¬ ((1048576 : Int) < (v_31.len : Int)) →
     N1 (IntKind.i64.wrap (i_3 + 1)) F))))))) ∧
 (¬ (i_3 < (t_0.len : Int)) →
  b23j1 R F))
def b23 (t_0 : Sl) (R : VP) (F : PH) :=
 (∃ (I1 : Nat → Int → PH → Prop) (m1 : Nat), I1 m1 0 F ∧ ∀ m1 i_3 F, I1 m1 i_3 F →
  b23L1 (nx1 I1 m1) t_0 R i_3 F)
theorem c23 {t_0 : Sl} {R : VP} {F : PH} (h : b23 t_0 R F) : Spec prog 23 #[(Sl.v t_0)] F R := by
 refine spec_of (args := [(Sl.v t_0)]) func23 rfl ntmps23 rfl ?_
 unfold b23 at h
 refine cR (sR (.bool false) (r_assign rfl rfl) ?_)
 refine HL_nil ?_
 refine HC_seqJ (b23J1 R) ?_ ?_
 clear h; rintro E F h
 unfold b23J1 at h; unfold b23j1 at h
 refine cR (sR (.bool true) (r_assign rfl rfl) ?_)
 exact HL_nil (HC_ret (rt1 f23 R rfl rfl h))
 refine cR (sR (.int .i64 0) (r_assign rfl rfl) ?_)
 refine HL_nil ?_
 refine HC_block ?_
 obtain ⟨I1, m1, hI0, hr⟩ := h
 refine HC_loop (fun m1 E F => ∃ i_3 : Int, E 0 = (Sl.v t_0) ∧ E 3 = (.int .i64 i_3) ∧ I1 m1 i_3 F) m1 ⟨_, rfl, rfl, hI0⟩ ?_
 clear hI0; rintro m1 E F ⟨i_3, h0, h3, hI⟩
 have h := hr m1 i_3 F hI
 clear hr hI
 unfold b23L1 at h
 refine HC_seq ?_
 refine cR (sR _ (r_move rfl h3) ?_)
 refine sR _ (r_move rfl h0) ?_
 refine sR (.int .i64 (t_0.len : Int)) (r_lenSl rfl rfl underlying26) ?_
 refine sR (.bool (decide (i_3 < (t_0.len : Int)))) (r_lss rfl rfl rfl) ?_
 refine HL_nil ?_
 refine HC_cond (t := (decide (i_3 < (t_0.len : Int)))) rfl (fun hc => ?_) (fun hc => ?_)
 replace h := h.1 (of_decide_eq_true hc)
 clear hc
 refine HC_skip ?_
 refine HC_seq ?_
 refine HC_block ?_
 refine cR (sR _ (r_move rfl h0) ?_)
 refine sR _ (r_move rfl h3) ?_
 obtain ⟨a12_, hb12, hl12, hu12, h⟩ := h
 refine sR (.pointer (some (Addr.add a12_ (Int.toNat i_3 * 2)))) (w_indexAddr rfl rfl underlying26 sz41 hb12 hl12 hu12) ?_
 refine sR (.pointer (some (Addr.add a12_ (Int.toNat i_3 * 2)))) (w_fieldAddr rfl underlying41 rfl rfl sz9 rfl rfl) ?_
 obtain ⟨v_14, hc14, h⟩ := h
 refine sR (.string v_14) (r_load1 rfl rfl underlying9 rfl hc14) ?_
 refine sR (.int .i64 (v_14.size : Int)) (r_lenStr rfl rfl underlying9) ?_
 refine sR (.bool (decide ((v_14.size : Int) < 1))) (r_lss rfl rfl rfl) ?_
 refine sR (.bool (decide ((v_14.size : Int) < 1))) (r_move rfl rfl) ?_
 by_cases hc : (v_14.size : Int) < 1
 replace h := h.1 hc
 refine kN 16 (decide_eq_true hc) ?_
 refine kN 17 (decide_eq_true hc) ?_
 iterate 7 refine s_skip ?_
 refine sR (.bool true) (r_pt rfl rfl) ?_
 refine sR (.bool true) (r_move rfl rfl) ?_
 iterate 7 refine s_skip ?_
 refine sR (.bool true) (r_pt rfl rfl) ?_
 refine HL_nil ?_
 refine HC_condT rfl ?_
 refine cR (sR (.bool false) (r_assign rfl rfl) ?_)
 exact HL_nil (HC_ret (rt1 f23 R rfl rfl h))
 replace h := h.2 hc
 refine kN 16 (decide_eq_false hc) ?_
 refine kN 17 (decide_eq_false hc) ?_
 refine sR _ (r_move rfl h0) ?_
 refine sR _ (r_move rfl h3) ?_
 obtain ⟨a20_, hb20, hl20, hu20, h⟩ := h
 refine sR (.pointer (some (Addr.add a20_ (Int.toNat i_3 * 2)))) (w_indexAddr rfl rfl underlying26 sz41 hb20 hl20 hu20) ?_
 refine sR (.pointer (some (Addr.add a20_ (Int.toNat i_3 * 2)))) (w_fieldAddr rfl underlying41 rfl rfl sz9 rfl rfl) ?_
 obtain ⟨v_22, hc22, h⟩ := h
 refine sR (.string v_22) (r_load1 rfl rfl underlying9 rfl hc22) ?_
 refine sR (.int .i64 (v_22.size : Int)) (r_lenStr rfl rfl underlying9) ?_
 refine sR (.bool (decide ((255 : Int) < (v_22.size : Int)))) (r_gtr rfl rfl rfl) ?_
 refine sR (.bool (decide ((255 : Int) < (v_22.size : Int)))) (r_pf rfl rfl) ?_
 refine sR (.bool (decide ((255 : Int) < (v_22.size : Int)))) (r_move rfl rfl) ?_
 by_cases hc : (255 : Int) < (v_22.size : Int)
 replace h := h.1 hc
 refine kN 24 (decide_eq_true hc) ?_
 refine kN 25 (decide_eq_true hc) ?_
 refine kN 26 (decide_eq_true hc) ?_
 iterate 7 refine s_skip ?_
 refine sR (.bool true) (r_pt rfl rfl) ?_
 refine HL_nil ?_
 refine HC_condT rfl ?_
 refine cR (sR (.bool false) (r_assign rfl rfl) ?_)
 exact HL_nil (HC_ret (rt1 f23 R rfl rfl h))
 replace h := h.2 hc
 refine kN 24 (decide_eq_false hc) ?_
 refine kN 25 (decide_eq_false hc) ?_
 refine kN 26 (decide_eq_false hc) ?_
 refine sR _ (r_move rfl h0) ?_
 refine sR _ (r_move rfl h3) ?_
 obtain ⟨a29_, hb29, hl29, hu29, h⟩ := h
 refine sR (.pointer (some (Addr.add a29_ (Int.toNat i_3 * 2)))) (w_indexAddr rfl rfl underlying26 sz41 hb29 hl29 hu29) ?_
 refine sR (.pointer (some (Addr.add (Addr.add a29_ (Int.toNat i_3 * 2)) 1))) (w_fieldAddr rfl underlying41 rfl rfl sz39 rfl rfl) ?_
 obtain ⟨v_31, hc31, h⟩ := h
 refine sR (Sl.v v_31) (r_load1 rfl rfl underlying39 rfl hc31) ?_
 refine sR (.int .i64 (v_31.len : Int)) (r_lenSl rfl rfl underlying39) ?_
 refine sR (.bool (decide ((1048576 : Int) < (v_31.len : Int)))) (r_gtr rfl rfl rfl) ?_
 refine sR (.bool (decide ((1048576 : Int) < (v_31.len : Int)))) (r_pf rfl rfl) ?_
 refine HL_nil ?_
 refine HC_cond (t := (decide ((1048576 : Int) < (v_31.len : Int)))) rfl (fun hc => ?_) (fun hc => ?_)
 replace h := h.1 (of_decide_eq_true hc)
 clear hc
 refine cR (sR (.bool false) (r_assign rfl rfl) ?_)
 exact HL_nil (HC_ret (rt1 f23 R rfl rfl h))
 replace h := h.2 (of_decide_eq_false hc)
 clear hc
 refine HC_skip ?_
 refine HC_region ?_
 refine sR _ (r_move rfl h3) ?_
 refine sR (.int .i64 (IntKind.i64.wrap (i_3 + 1))) (r_add rfl rfl rfl) ?_
 refine sR (.int .i64 (IntKind.i64.wrap (i_3 + 1))) (r_assign rfl rfl) ?_
 refine HL_nil ?_
 obtain ⟨m', hm, h⟩ := h
 exact ⟨m', hm, _, h0, rfl, h⟩
 replace h := h.2 (of_decide_eq_false hc)
 clear hc
 refine HC_exit ?_
 exact h
 /- 42 koine.koineref35.Commit -/
def b42j1 (t_1 : Sl) (b2 : Nat) (b4 : Nat) (v_16 : Int) (R : VP) (F : PH) :=
 ∃ v_36 : Int, F.cell (Addr.mk b2 1 none) = some (.int .i64 v_36) ∧
 ∃ c e, F (Addr.mk b2 1 none).block = some (.cells c e (0, 0)) ∧ (Addr.mk b2 1 none).spot = none ∧ (Addr.mk b2 1 none).off < c.size ∧
 atF (F.set (Addr.mk b2 1 none).block (.cells (c.setIfInBounds (Addr.mk b2 1 none).off (.int .i64 (IntKind.i64.wrap (v_36 + v_16)))) e)) fun F =>
 ∃ v_41 : Sl, F.cell (Addr.mk b2 2 none) = some (Sl.v v_41) ∧
 Spec prog 66 #[(Sl.v v_41), (Sl.v t_1)] F fun v F => ∃ v_43 : Sl, v = (Sl.v v_43) ∧
 ∃ c e, F (Addr.mk b2 2 none).block = some (.cells c e (0, 0)) ∧ (Addr.mk b2 2 none).spot = none ∧ (Addr.mk b2 2 none).off < c.size ∧
 atF (F.set (Addr.mk b2 2 none).block (.cells (c.setIfInBounds (Addr.mk b2 2 none).off (Sl.v v_43)) e)) fun F =>
 ∃ v_45 : Array Value, v_45.size = 3 ∧ F.row (Addr.mk b2 0 none) v_45 ∧
 v_45.size = 3 ∧ (∀ v ∈ v_45.toList, storable v) ∧ ∃ c e, F (Addr.mk b4 0 none).block = some (.cells c e (0, 0)) ∧ (Addr.mk b4 0 none).spot = none ∧ (Addr.mk b4 0 none).off + 3 ≤ c.size ∧
 atF (F.set (Addr.mk b4 0 none).block (.cells (wr c (Addr.mk b4 0 none).off v_45.toList) e)) fun F =>
 ∃ vres_4_2 : Array Value, vres_4_2.size = 3 ∧ F.row (Addr.mk b4 0 none) vres_4_2 ∧ R (.tuple #[(.agg vres_4_2), (.int .i64 0)]) F
abbrev b42J1 (t_1 : Sl) (b2 : Nat) (b4 : Nat) (v_16 : Int) (R : VP) (E : En) (F : PH) : Prop := E 1 = (Sl.v t_1) ∧ E 2 = (.pointer (some (Addr.mk b2 0 none))) ∧ E 4 = (.pointer (some (Addr.mk b4 0 none))) ∧ E 6 = (.int .i64 v_16) ∧ b42j1 t_1 b2 b4 v_16 R F
def b42 (s_0 : Array Value) (t_1 : Sl) (R : VP) (F : PH) :=
 ∀ b2, F b2 = none → atF (F.set b2 (.cells s_0 28)) fun F =>
 ∀ b4, F b4 = none → atF (F.set b4 (.cells (#[.int .i64 0, .int .i64 0, .slice none 0 0]) 28)) fun F =>
 Spec prog 23 #[(Sl.v t_1)] F fun v F => ∃ v_8 : Bool, v = (.bool v_8) ∧
 (((!v_8) = true →
  ∃ v_10 : Array Value, v_10.size = 3 ∧ F.row (Addr.mk b2 0 none) v_10 ∧
  v_10.size = 3 ∧ (∀ v ∈ v_10.toList, storable v) ∧ ∃ c e, F (Addr.mk b4 0 none).block = some (.cells c e (0, 0)) ∧ (Addr.mk b4 0 none).spot = none ∧ (Addr.mk b4 0 none).off + 3 ≤ c.size ∧
  atF (F.set (Addr.mk b4 0 none).block (.cells (wr c (Addr.mk b4 0 none).off v_10.toList) e)) fun F =>
  ∃ vres_4 : Array Value, vres_4.size = 3 ∧ F.row (Addr.mk b4 0 none) vres_4 ∧ R (.tuple #[(.agg vres_4), (.int .i64 1)]) F) ∧
 ((!v_8) = false →
  (((t_1.len : Int) = 0 →
   ∃ v_14 : Array Value, v_14.size = 3 ∧ F.row (Addr.mk b2 0 none) v_14 ∧
   v_14.size = 3 ∧ (∀ v ∈ v_14.toList, storable v) ∧ ∃ c e, F (Addr.mk b4 0 none).block = some (.cells c e (0, 0)) ∧ (Addr.mk b4 0 none).spot = none ∧ (Addr.mk b4 0 none).off + 3 ≤ c.size ∧
   atF (F.set (Addr.mk b4 0 none).block (.cells (wr c (Addr.mk b4 0 none).off v_14.toList) e)) fun F =>
   ∃ vres_4_1 : Array Value, vres_4_1.size = 3 ∧ F.row (Addr.mk b4 0 none) vres_4_1 ∧ R (.tuple #[(.agg vres_4_1), (.int .i64 0)]) F) ∧
  (¬ ((t_1.len : Int) = 0) →
   Spec prog 24 #[(Sl.v t_1)] F fun v F => ∃ v_16 : Int, v = (.int .i64 v_16) ∧
   ∃ v_18 : Array Value, v_18.size = 3 ∧ F.row (Addr.mk b2 0 none) v_18 ∧
   ∃ v_21 : Int, F.cell (Addr.mk b2 1 none) = some (.int .i64 v_21) ∧
   Spec prog 65 #[(.agg v_18)] F fun v F => ∃ v_19 : Int, v = (.int .i64 v_19) ∧
   F.cell (Addr.mk b2 1 none) = some (.int .i64 v_21) ∧ (((IntKind.i64.wrap (v_19 - v_21)) < v_16 →
    ∃ v_25 : Array Value, v_25.size = 3 ∧ F.row (Addr.mk b2 0 none) v_25 ∧
    ∃ v_27 : Array Value, v_27.size = 3 ∧ F.row (Addr.mk b2 0 none) v_27 ∧
    Spec prog 65 #[(.agg v_25)] F fun v F => ∃ v_26 : Int, v = (.int .i64 v_26) ∧
    F.row (Addr.mk b2 0 none) v_27 ∧ Spec prog 62 #[(.agg v_27)] F fun v F => ∃ v_28 : Int, v = (.int .i64 v_28) ∧
    (((IntKind.i64.wrap (v_26 - v_28)) < v_16 →
     ∃ v_31 : Array Value, v_31.size = 3 ∧ F.row (Addr.mk b2 0 none) v_31 ∧
     v_31.size = 3 ∧ (∀ v ∈ v_31.toList, storable v) ∧ ∃ c e, F (Addr.mk b4 0 none).block = some (.cells c e (0, 0)) ∧ (Addr.mk b4 0 none).spot = none ∧ (Addr.mk b4 0 none).off + 3 ≤ c.size ∧
     atF (F.set (Addr.mk b4 0 none).block (.cells (wr c (Addr.mk b4 0 none).off v_31.toList) e)) fun F =>
     ∃ vres_4_3 : Array Value, vres_4_3.size = 3 ∧ F.row (Addr.mk b4 0 none) vres_4_3 ∧ R (.tuple #[(.agg vres_4_3), (.int .i64 351)]) F) ∧
    (¬ ((IntKind.i64.wrap (v_26 - v_28)) < v_16) →
     ∃ v_32 : Array Value, v_32.size = 3 ∧ F.row (Addr.mk b2 0 none) v_32 ∧
     Spec prog 62 #[(.agg v_32)] F fun v F => ∃ v_33 : Int, v = (.int .i64 v_33) ∧
     ∃ c e, F (Addr.mk b2 1 none).block = some (.cells c e (0, 0)) ∧ (Addr.mk b2 1 none).spot = none ∧ (Addr.mk b2 1 none).off < c.size ∧
     atF (F.set (Addr.mk b2 1 none).block (.cells (c.setIfInBounds (Addr.mk b2 1 none).off (.int .i64 v_33)) e)) fun F =>
     b42j1 t_1 b2 b4 v_16 R F))) ∧
   (¬ ((IntKind.i64.wrap (v_19 - v_21)) < v_16) →
    b42j1 t_1 b2 b4 v_16 R F))))))
theorem c42 {s_0 : Array Value} {t_1 : Sl} {R : VP} {F : PH} (h : b42 s_0 t_1 R F) : Spec prog 42 #[(.agg s_0), (Sl.v t_1)] F R := by
 refine spec_of (args := [(.agg s_0), (Sl.v t_1)]) func42 rfl ntmps42 rfl ?_
 unfold b42 at h
 refine cR ?_
 refine s_ef (k_box (cs := s_0) rfl rfl ?_)
 intro b2 hf_b2
 replace h := atE (h b2 hf_b2)
 refine s_ef (k_alloc zr28 ?_)
 intro b4 hf_b4
 replace h := atE (h b4 hf_b4)
 refine sR (.int .i64 0) (r_assign rfl rfl) ?_
 refine HL_nil ?_
 refine HC_seq ?_
 refine cR (sR (Sl.v t_1) (r_move rfl rfl) ?_)
 refine s_ef (k_call (vs := [(Sl.v t_1)]) cb23 (evC rfl evN) (h.mono ?_))
 clear h; rintro v F ⟨v_8, rfl, h⟩
 refine sR (.bool (!v_8)) (r_not rfl rfl) ?_
 refine HL_nil ?_
 refine HC_cond (t := (!v_8)) rfl (fun hc => ?_) (fun hc => ?_)
 replace h := h.1 hc
 clear hc
 refine cR ?_
 obtain ⟨v_10, hs10, hc10, h⟩ := h
 refine sR (.agg v_10) (w_loadN rfl underlying28 rfl sz28 hs10 hc10) ?_
 refine s_ef0 (k_storeN (vs := v_10) rfl rfl sz28 (by decide) ?_)
 obtain ⟨hz1, hz2, c, e, hz3, hz4, hz5, h⟩ := h
 refine ⟨hz1, hz2, c, e, hz3, hz4, hz5, ?_⟩
 replace h := atE h
 refine sR (.int .i64 1) (r_assign rfl rfl) ?_
 refine HL_nil ?_
 obtain ⟨vres_4, hs4, hr4, h⟩ := h
 exact HC_ret (show endQ prog f42 R .ret _ _ from ⟨_, res2 rfl (rv_cellN rfl underlying28 rfl sz28 hs4 hr4) (rv_tmp rfl), h⟩)
 replace h := h.2 hc
 clear hc
 refine HC_skip ?_
 refine HC_seq ?_
 refine cR (sR (Sl.v t_1) (r_move rfl rfl) ?_)
 refine sR (.int .i64 (t_1.len : Int)) (r_lenSl rfl rfl underlying26) ?_
 refine sR (.bool (decide ((t_1.len : Int) = 0))) (w_eql rfl rfl) ?_
 refine HL_nil ?_
 refine HC_cond (t := (decide ((t_1.len : Int) = 0))) rfl (fun hc => ?_) (fun hc => ?_)
 replace h := h.1 (of_decide_eq_true hc)
 clear hc
 refine cR ?_
 obtain ⟨v_14, hs14, hc14, h⟩ := h
 refine sR (.agg v_14) (w_loadN rfl underlying28 rfl sz28 hs14 hc14) ?_
 refine s_ef0 (k_storeN (vs := v_14) rfl rfl sz28 (by decide) ?_)
 obtain ⟨hz1, hz2, c, e, hz3, hz4, hz5, h⟩ := h
 refine ⟨hz1, hz2, c, e, hz3, hz4, hz5, ?_⟩
 replace h := atE h
 refine sR (.int .i64 0) (r_assign rfl rfl) ?_
 refine HL_nil ?_
 obtain ⟨vres_4_1, hs4, hr4, h⟩ := h
 exact HC_ret (show endQ prog f42 R .ret _ _ from ⟨_, res2 rfl (rv_cellN rfl underlying28 rfl sz28 hs4 hr4) (rv_tmp rfl), h⟩)
 replace h := h.2 (of_decide_eq_false hc)
 clear hc
 refine HC_skip ?_
 refine cR (sR (Sl.v t_1) (r_move rfl rfl) ?_)
 refine s_ef (k_call (vs := [(Sl.v t_1)]) cb24 (evC rfl evN) (h.mono ?_))
 clear h; rintro v F ⟨v_16, rfl, h⟩
 refine sR (.int .i64 v_16) (r_assign rfl rfl) ?_
 refine HL_nil ?_
 refine HC_seqJ (b42J1 t_1 b2 b4 v_16 R) ?_ ?_
 clear h; rintro E F ⟨h1, h2, h4, h6, h⟩
 unfold b42j1 at h
 refine cR (sR (.pointer (some (Addr.mk b2 1 none))) (w_fieldAddr h2 underlying28 rfl rfl sz3 rfl rfl) ?_)
 obtain ⟨v_36, hc36, h⟩ := h
 refine sR (.int .i64 v_36) (r_load1 rfl rfl underlying3 rfl hc36) ?_
 refine sR _ (r_move rfl h6) ?_
 refine sR (.int .i64 (IntKind.i64.wrap (v_36 + v_16))) (r_add rfl rfl rfl) ?_
 refine sR (.pointer (some (Addr.mk b2 1 none))) (w_fieldAddr h2 underlying28 rfl rfl sz3 rfl rfl) ?_
 refine s_ef0 (k_store1 (v := (.int .i64 (IntKind.i64.wrap (v_36 + v_16)))) rfl rfl sz3 rfl st_int ?_)
 obtain ⟨c, e, hz3, hz4, hz5, h⟩ := h
 refine ⟨c, e, hz3, hz4, hz5, ?_⟩
 replace h := atE h
 refine HL_nil ?_
 refine cR (sR (.pointer (some (Addr.mk b2 2 none))) (w_fieldAddr h2 underlying28 rfl rfl sz26 rfl rfl) ?_)
 obtain ⟨v_41, hc41, h⟩ := h
 refine sR (Sl.v v_41) (r_load1 rfl rfl underlying26 rfl hc41) ?_
 refine sR _ (r_move rfl h1) ?_
 refine s_ef (k_call (vs := [(Sl.v v_41), (Sl.v t_1)]) cb66 (evC rfl (evC rfl evN)) (h.mono ?_))
 clear h; rintro v F ⟨v_43, rfl, h⟩
 refine sR (.pointer (some (Addr.mk b2 2 none))) (w_fieldAddr h2 underlying28 rfl rfl sz26 rfl rfl) ?_
 refine s_ef0 (k_store1 (v := (Sl.v v_43)) rfl rfl sz26 rfl st_sl ?_)
 obtain ⟨c, e, hz3, hz4, hz5, h⟩ := h
 refine ⟨c, e, hz3, hz4, hz5, ?_⟩
 replace h := atE h
 refine HL_nil ?_
 refine cR ?_
 obtain ⟨v_45, hs45, hc45, h⟩ := h
 refine sR (.agg v_45) (w_loadN h2 underlying28 rfl sz28 hs45 hc45) ?_
 refine s_ef0 (k_storeN (vs := v_45) h4 rfl sz28 (by decide) ?_)
 obtain ⟨hz1, hz2, c, e, hz3, hz4, hz5, h⟩ := h
 refine ⟨hz1, hz2, c, e, hz3, hz4, hz5, ?_⟩
 replace h := atE h
 refine sR (.int .i64 0) (r_assign rfl rfl) ?_
 refine HL_nil ?_
 obtain ⟨vres_4_2, hs4, hr4, h⟩ := h
 exact HC_ret (show endQ prog f42 R .ret _ _ from ⟨_, res2 rfl (rv_cellN h4 underlying28 rfl sz28 hs4 hr4) (rv_tmp rfl), h⟩)
 refine HC_seq ?_
 refine HC_draw0 (by kernel_rfl) (fun hp => ?_)
 refine gU 0 (.int .i64 v_16) rfl (fun _ => r_move rfl rfl) hp ?_
 obtain ⟨v_18, hs18, hc18, h⟩ := h
 refine gR 1 (.agg v_18) rfl (w_loadN rfl underlying28 rfl sz28 hs18 hc18) hp (fun S1 q1 => ?_)
 replace hp := holdC (i := 1) (q1 _ (w_loadN rfl underlying28 rfl sz28 hs18 hc18)) hp
 refine gU 3 (.pointer (some (Addr.mk b2 1 none))) rfl (fun _ => w_fieldAddr rfl underlying28 rfl rfl sz3 rfl rfl) hp ?_
 obtain ⟨v_21, hc21, h⟩ := h
 refine gR 4 (.int .i64 v_21) rfl (r_load1 rfl rfl underlying3 rfl hc21) hp (fun S4 q4 => ?_)
 replace hp := holdC (i := 4) (q4 _ (r_load1 rfl rfl underlying3 rfl hc21)) hp
 refine RG_eff1 (i := 2) (by kernel_rfl) (g_op (Sp' := [(4, S4)]) rfl rfl (k_call (vs := [(.agg v_18)]) cb65 (evC rfl evN) (h.mono ?_)))
 clear h; rintro v F ⟨v_19, rfl, h⟩
 obtain ⟨hk_8, h⟩ := h
 refine holdI (holdC (i := 4) (q4 _ (r_load1 rfl rfl underlying3 rfl hk_8)) hold0) (fun hp => ?_)
 refine gU 5 (.int .i64 (IntKind.i64.wrap (v_19 - v_21))) rfl (fun _ => r_sub rfl rfl rfl) hp ?_
 refine gU 6 (.bool (decide ((IntKind.i64.wrap (v_19 - v_21)) < v_16))) rfl (fun _ => r_gtr rfl rfl rfl) hp ?_
 refine RG_done (by kernel_rfl) ?_
 refine HC_cond (t := (decide ((IntKind.i64.wrap (v_19 - v_21)) < v_16))) rfl (fun hc => ?_) (fun hc => ?_)
 replace h := h.1 (of_decide_eq_true hc)
 clear hc
 refine HC_seq ?_
 refine HC_seq ?_
 refine HC_draw0 (by kernel_rfl) (fun hp => ?_)
 refine gU 0 (.int .i64 v_16) rfl (fun _ => r_move rfl rfl) hp ?_
 obtain ⟨v_25, hs25, hc25, h⟩ := h
 refine gR 1 (.agg v_25) rfl (w_loadN rfl underlying28 rfl sz28 hs25 hc25) hp (fun S1 q1 => ?_)
 replace hp := holdC (i := 1) (q1 _ (w_loadN rfl underlying28 rfl sz28 hs25 hc25)) hp
 obtain ⟨v_27, hs27, hc27, h⟩ := h
 refine gR 3 (.agg v_27) rfl (w_loadN rfl underlying28 rfl sz28 hs27 hc27) hp (fun S3 q3 => ?_)
 replace hp := holdC (i := 3) (q3 _ (w_loadN rfl underlying28 rfl sz28 hs27 hc27)) hp
 refine RG_eff1 (i := 2) (by kernel_rfl) (g_op (Sp' := [(3, S3)]) rfl rfl (k_call (vs := [(.agg v_25)]) cb65 (evC rfl evN) (h.mono ?_)))
 clear h; rintro v F ⟨v_26, rfl, h⟩
 obtain ⟨hk_12, h⟩ := h
 refine holdI (holdC (i := 3) (q3 _ (w_loadN rfl underlying28 rfl sz28 hs27 hk_12)) hold0) (fun hp => ?_)
 refine RG_eff1 (i := 4) (by kernel_rfl) (g_op (Sp' := []) rfl rfl (k_call (vs := [(.agg v_27)]) cb62 (evC rfl evN) (h.mono ?_)))
 clear h; rintro v F ⟨v_28, rfl, h⟩
 refine holdI hold0 (fun hp => ?_)
 refine gU 5 (.int .i64 (IntKind.i64.wrap (v_26 - v_28))) rfl (fun _ => r_sub rfl rfl rfl) hp ?_
 refine gU 6 (.bool (decide ((IntKind.i64.wrap (v_26 - v_28)) < v_16))) rfl (fun _ => r_gtr rfl rfl rfl) hp ?_
 refine RG_done (by kernel_rfl) ?_
 refine HC_cond (t := (decide ((IntKind.i64.wrap (v_26 - v_28)) < v_16))) rfl (fun hc => ?_) (fun hc => ?_)
 replace h := h.1 (of_decide_eq_true hc)
 clear hc
 refine cR ?_
 obtain ⟨v_31, hs31, hc31, h⟩ := h
 refine sR (.agg v_31) (w_loadN rfl underlying28 rfl sz28 hs31 hc31) ?_
 refine s_ef0 (k_storeN (vs := v_31) rfl rfl sz28 (by decide) ?_)
 obtain ⟨hz1, hz2, c, e, hz3, hz4, hz5, h⟩ := h
 refine ⟨hz1, hz2, c, e, hz3, hz4, hz5, ?_⟩
 replace h := atE h
 refine sR (.int .i64 351) (r_assign rfl rfl) ?_
 refine HL_nil ?_
 obtain ⟨vres_4_3, hs4, hr4, h⟩ := h
 exact HC_ret (show endQ prog f42 R .ret _ _ from ⟨_, res2 rfl (rv_cellN rfl underlying28 rfl sz28 hs4 hr4) (rv_tmp rfl), h⟩)
 replace h := h.2 (of_decide_eq_false hc)
 clear hc
 refine HC_skip ?_
 refine HC_region ?_
 obtain ⟨v_32, hs32, hc32, h⟩ := h
 refine sR (.agg v_32) (w_loadN rfl underlying28 rfl sz28 hs32 hc32) ?_
 refine s_ef (k_call (vs := [(.agg v_32)]) cb62 (evC rfl evN) (h.mono ?_))
 clear h; rintro v F ⟨v_33, rfl, h⟩
 refine sR (.pointer (some (Addr.mk b2 1 none))) (w_fieldAddr rfl underlying28 rfl rfl sz3 rfl rfl) ?_
 refine s_ef0 (k_store1 (v := (.int .i64 v_33)) rfl rfl sz3 rfl st_int ?_)
 obtain ⟨c, e, hz3, hz4, hz5, h⟩ := h
 refine ⟨c, e, hz3, hz4, hz5, ?_⟩
 replace h := atE h
 refine HL_nil ?_
 show b42J1 t_1 b2 b4 v_16 R _ _
 exact ⟨rfl, rfl, rfl, rfl, h⟩
 replace h := h.2 (of_decide_eq_false hc)
 clear hc
 refine HC_skip ?_
 show b42J1 t_1 b2 b4 v_16 R _ _
 exact ⟨rfl, rfl, rfl, rfl, h⟩
 /- 35 koine.koineref35.Compact -/
def b35 (s_0 : Array Value) (R : VP) (F : PH) :=
 ∀ b1, F b1 = none → atF (F.set b1 (.cells s_0 28)) fun F =>
 ∀ b2, F b2 = none → atF (F.set b2 (.cells (#[.int .i64 0, .int .i64 0, .slice none 0 0]) 28)) fun F =>
 ∃ v_3 : Array Value, v_3.size = 3 ∧ F.row (Addr.mk b1 0 none) v_3 ∧
 Spec prog 62 #[(.agg v_3)] F fun v F => ∃ v_4 : Int, v = (.int .i64 v_4) ∧
 ∃ c e, F (Addr.mk b1 1 none).block = some (.cells c e (0, 0)) ∧ (Addr.mk b1 1 none).spot = none ∧ (Addr.mk b1 1 none).off < c.size ∧
 atF (F.set (Addr.mk b1 1 none).block (.cells (c.setIfInBounds (Addr.mk b1 1 none).off (.int .i64 v_4)) e)) fun F =>
 ∃ v_6 : Array Value, v_6.size = 3 ∧ F.row (Addr.mk b1 0 none) v_6 ∧
 v_6.size = 3 ∧ (∀ v ∈ v_6.toList, storable v) ∧ ∃ c e, F (Addr.mk b2 0 none).block = some (.cells c e (0, 0)) ∧ (Addr.mk b2 0 none).spot = none ∧ (Addr.mk b2 0 none).off + 3 ≤ c.size ∧
 atF (F.set (Addr.mk b2 0 none).block (.cells (wr c (Addr.mk b2 0 none).off v_6.toList) e)) fun F =>
 ∃ vres_2 : Array Value, vres_2.size = 3 ∧ F.row (Addr.mk b2 0 none) vres_2 ∧ R (.agg vres_2) F
theorem c35 {s_0 : Array Value} {R : VP} {F : PH} (h : b35 s_0 R F) : Spec prog 35 #[(.agg s_0)] F R := by
 refine spec_of (args := [(.agg s_0)]) func35 rfl ntmps35 rfl ?_
 unfold b35 at h
 refine cR ?_
 refine s_ef (k_box (cs := s_0) rfl rfl ?_)
 intro b1 hf_b1
 replace h := atE (h b1 hf_b1)
 refine s_ef (k_alloc zr28 ?_)
 intro b2 hf_b2
 replace h := atE (h b2 hf_b2)
 refine HL_nil ?_
 refine cR ?_
 obtain ⟨v_3, hs3, hc3, h⟩ := h
 refine sR (.agg v_3) (w_loadN rfl underlying28 rfl sz28 hs3 hc3) ?_
 refine s_ef (k_call (vs := [(.agg v_3)]) cb62 (evC rfl evN) (h.mono ?_))
 clear h; rintro v F ⟨v_4, rfl, h⟩
 refine sR (.pointer (some (Addr.mk b1 1 none))) (w_fieldAddr rfl underlying28 rfl rfl sz3 rfl rfl) ?_
 refine s_ef0 (k_store1 (v := (.int .i64 v_4)) rfl rfl sz3 rfl st_int ?_)
 obtain ⟨c, e, hz3, hz4, hz5, h⟩ := h
 refine ⟨c, e, hz3, hz4, hz5, ?_⟩
 replace h := atE h
 refine HL_nil ?_
 refine cR ?_
 obtain ⟨v_6, hs6, hc6, h⟩ := h
 refine sR (.agg v_6) (w_loadN rfl underlying28 rfl sz28 hs6 hc6) ?_
 refine s_ef0 (k_storeN (vs := v_6) rfl rfl sz28 (by decide) ?_)
 obtain ⟨hz1, hz2, c, e, hz3, hz4, hz5, h⟩ := h
 refine ⟨hz1, hz2, c, e, hz3, hz4, hz5, ?_⟩
 replace h := atE h
 refine HL_nil ?_
 obtain ⟨vres_2, hs2, hr2, h⟩ := h
 exact HC_ret (show endQ prog f35 R .ret _ _ from ⟨_, res1 rfl (rv_cellN rfl underlying28 rfl sz28 hs2 hr2), h⟩)
 /- 41 koine.koineref35.Room -/
def b41 (s_0 : Array Value) (R : VP) (F : PH) :=
 ∀ b1, F b1 = none → atF (F.set b1 (.cells s_0 28)) fun F =>
 ∃ v_3 : Array Value, v_3.size = 3 ∧ F.row (Addr.mk b1 0 none) v_3 ∧
 ∃ v_6 : Int, F.cell (Addr.mk b1 1 none) = some (.int .i64 v_6) ∧
 Spec prog 65 #[(.agg v_3)] F fun v F => ∃ v_4 : Int, v = (.int .i64 v_4) ∧
 F.cell (Addr.mk b1 1 none) = some (.int .i64 v_6) ∧ R (.int .i64 (max 0 (IntKind.i64.wrap (63 * (IntKind.i64.wrap ((IntKind.i64.wrap (v_4 - v_6)) - 1)))))) F
theorem c41 {s_0 : Array Value} {R : VP} {F : PH} (h : b41 s_0 R F) : Spec prog 41 #[(.agg s_0)] F R := by
 refine spec_of (args := [(.agg s_0)]) func41 rfl ntmps41 rfl ?_
 unfold b41 at h
 refine cR ?_
 refine s_ef (k_box (cs := s_0) rfl rfl ?_)
 intro b1 hf_b1
 replace h := atE (h b1 hf_b1)
 refine sR (.int .i64 0) (r_assign rfl rfl) ?_
 refine HL_nil ?_
 refine HC_seq ?_
 refine HC_draw0 (by kernel_rfl) (fun hp => ?_)
 obtain ⟨v_3, hs3, hc3, h⟩ := h
 refine gR 0 (.agg v_3) rfl (w_loadN rfl underlying28 rfl sz28 hs3 hc3) hp (fun S0 q0 => ?_)
 replace hp := holdC (i := 0) (q0 _ (w_loadN rfl underlying28 rfl sz28 hs3 hc3)) hp
 refine gU 2 (.pointer (some (Addr.mk b1 1 none))) rfl (fun _ => w_fieldAddr rfl underlying28 rfl rfl sz3 rfl rfl) hp ?_
 obtain ⟨v_6, hc6, h⟩ := h
 refine gR 3 (.int .i64 v_6) rfl (r_load1 rfl rfl underlying3 rfl hc6) hp (fun S3 q3 => ?_)
 replace hp := holdC (i := 3) (q3 _ (r_load1 rfl rfl underlying3 rfl hc6)) hp
 refine RG_eff1 (i := 1) (by kernel_rfl) (g_op (Sp' := [(3, S3)]) rfl rfl (k_call (vs := [(.agg v_3)]) cb65 (evC rfl evN) (h.mono ?_)))
 clear h; rintro v F ⟨v_4, rfl, h⟩
 obtain ⟨hk_2, h⟩ := h
 refine holdI (holdC (i := 3) (q3 _ (r_load1 rfl rfl underlying3 rfl hk_2)) hold0) (fun hp => ?_)
 refine gU 4 (.int .i64 (IntKind.i64.wrap (v_4 - v_6))) rfl (fun _ => r_sub rfl rfl rfl) hp ?_
 refine gU 5 (.int .i64 (IntKind.i64.wrap ((IntKind.i64.wrap (v_4 - v_6)) - 1))) rfl (fun _ => r_sub rfl rfl rfl) hp ?_
 refine gU 6 (.int .i64 (IntKind.i64.wrap (63 * (IntKind.i64.wrap ((IntKind.i64.wrap (v_4 - v_6)) - 1))))) rfl (fun _ => r_mul rfl rfl rfl) hp ?_
 refine gU 7 (.int .i64 (max 0 (IntKind.i64.wrap (63 * (IntKind.i64.wrap ((IntKind.i64.wrap (v_4 - v_6)) - 1)))))) rfl (fun _ => r_max2 rfl rfl rfl) hp ?_
 refine gU 8 (.int .i64 (max 0 (IntKind.i64.wrap (63 * (IntKind.i64.wrap ((IntKind.i64.wrap (v_4 - v_6)) - 1)))))) rfl (fun _ => r_assign rfl rfl) hp ?_
 refine RG_done (by kernel_rfl) ?_
 exact HC_ret (rt1 f41 R rfl rfl h)
 /- 15 koine.koineref35.Record -/
def b15j3 (b2 : Nat) (b4 : Nat) (R : VP) (F : PH) :=
 ∃ v_44 : Array Value, v_44.size = 2 ∧ F.row (Addr.mk b4 0 none) v_44 ∧
 v_44.size = 2 ∧ (∀ v ∈ v_44.toList, storable v) ∧ ∃ c e, F (Addr.mk b2 0 none).block = some (.cells c e (0, 0)) ∧ (Addr.mk b2 0 none).spot = none ∧ (Addr.mk b2 0 none).off + 2 ≤ c.size ∧
 atF (F.set (Addr.mk b2 0 none).block (.cells (wr c (Addr.mk b2 0 none).off v_44.toList) e)) fun F =>
 ∃ vres_2 : Array Value, vres_2.size = 2 ∧ F.row (Addr.mk b2 0 none) vres_2 ∧ R (.agg vres_2) F
abbrev b15J3 (b2 : Nat) (b4 : Nat) (R : VP) (E : En) (F : PH) : Prop := E 2 = (.pointer (some (Addr.mk b2 0 none))) ∧ E 4 = (.pointer (some (Addr.mk b4 0 none))) ∧ b15j3 b2 b4 R F
def b15L1 (N1 : Int → PH → Prop) (b1 : Nat) (b2 : Nat) (b4 : Nat) (R : VP) (i_5 : Int) (F : PH) :=
 ∃ v_31 : Int, F.cell (Addr.mk b1 2 none) = some (.int .u8 v_31) ∧
 ((i_5 < (IntKind.i64.wrap (Int.tmod v_31 90)) →
  ∃ v_38 : Sl, F.cell (Addr.mk b4 1 none) = some (Sl.v v_38) ∧
  ∃ v_40 : Int, F.cell (Addr.mk b1 1 none) = some (.int .u8 v_40) ∧
  ∀ b41, F b41 = none → atF (F.set b41 (.cells #[(.int .u8 v_40)] 5)) fun F =>
  runs prog (Builtin.append_ #[39, 39] 39 #[(Sl.v v_38), (Sl.v (Sl.mk (some (Addr.mk b41 0 none)) 1 1))]) F fun v F => ∃ v_42 : Sl, v = (Sl.v v_42) ∧
  ∃ c e, F (Addr.mk b4 1 none).block = some (.cells c e (0, 0)) ∧ (Addr.mk b4 1 none).spot = none ∧ (Addr.mk b4 1 none).off < c.size ∧
  atF (F.set (Addr.mk b4 1 none).block (.cells (c.setIfInBounds (Addr.mk b4 1 none).off (Sl.v v_42)) e)) fun F =>
  N1 (IntKind.i64.wrap (i_5 + 1)) F) ∧
 (¬ (i_5 < (IntKind.i64.wrap (Int.tmod v_31 90))) →
  b15j3 b2 b4 R F))
def b15j2 (b1 : Nat) (b2 : Nat) (key_3_1 : ByteArray) (R : VP) (F : PH) :=
 ∀ b4, F b4 = none → atF (F.set b4 (.cells (#[.string ⟨#[]⟩, .slice none 0 0]) 41)) fun F =>
 (#[(.string key_3_1), .slice none 0 0] : Array Value).size = 2 ∧ (∀ v ∈ (#[(.string key_3_1), .slice none 0 0] : Array Value).toList, storable v) ∧ ∃ c e, F (Addr.mk b4 0 none).block = some (.cells c e (0, 0)) ∧ (Addr.mk b4 0 none).spot = none ∧ (Addr.mk b4 0 none).off + 2 ≤ c.size ∧
 atF (F.set (Addr.mk b4 0 none).block (.cells (wr c (Addr.mk b4 0 none).off (#[(.string key_3_1), .slice none 0 0] : Array Value).toList) e)) fun F =>
 (∃ (I1 : Nat → Int → PH → Prop) (m1 : Nat), I1 m1 0 F ∧ ∀ m1 i_5 F, I1 m1 i_5 F →
  b15L1 (nx1 I1 m1) b1 b2 b4 R i_5 F)
abbrev b15J2 (b1 : Nat) (b2 : Nat) (R : VP) (E : En) (F : PH) : Prop := ∃ key_3_1 : ByteArray, E 1 = (.pointer (some (Addr.mk b1 0 none))) ∧ E 2 = (.pointer (some (Addr.mk b2 0 none))) ∧ E 3 = (.string key_3_1) ∧ b15j2 b1 b2 key_3_1 R F
def b15L2 (N2 : ByteArray → PH → Prop) (b1 : Nat) (b2 : Nat) (R : VP) (key_3_2 : ByteArray) (F : PH) :=
 ∃ v_21 : Int, F.cell (Addr.mk b1 0 none) = some (.int .u8 v_21) ∧
 (((key_3_2.size : Int) < (IntKind.i64.wrap (5 + (IntKind.i64.wrap v_21))) →
  key_3_2.size + (ByteArray.mk #[107]).size ≤ 9223372036854775807 ∧
  N2 (key_3_2 ++ (ByteArray.mk #[107])) F) ∧
 (¬ ((key_3_2.size : Int) < (IntKind.i64.wrap (5 + (IntKind.i64.wrap v_21)))) →
  b15j2 b1 b2 key_3_2 R F))
def b15j1 (b1 : Nat) (b2 : Nat) (key_3 : ByteArray) (R : VP) (F : PH) :=
 ∃ v_16 : Int, F.cell (Addr.mk b1 0 none) = some (.int .u8 v_16) ∧
 ((250 < v_16 →
  (∃ (I2 : Nat → ByteArray → PH → Prop) (m2 : Nat), I2 m2 (ByteArray.mk #[]) F ∧ ∀ m2 key_3_2 F, I2 m2 key_3_2 F →
   b15L2 (nx1 I2 m2) b1 b2 R key_3_2 F)) ∧
 (¬ (250 < v_16) →
  b15j2 b1 b2 key_3 R F))
abbrev b15J1 (b1 : Nat) (b2 : Nat) (R : VP) (E : En) (F : PH) : Prop := ∃ key_3 : ByteArray, E 1 = (.pointer (some (Addr.mk b1 0 none))) ∧ E 2 = (.pointer (some (Addr.mk b2 0 none))) ∧ E 3 = (.string key_3) ∧ b15j1 b1 b2 key_3 R F
def b15 (x_0 : Array Value) (R : VP) (F : PH) :=
 ∀ b1, F b1 = none → atF (F.set b1 (.cells x_0 44)) fun F =>
 ∀ b2, F b2 = none → atF (F.set b2 (.cells (#[.string ⟨#[]⟩, .slice none 0 0]) 41)) fun F =>
 ∀ b6, F b6 = none → atF (F.set b6 (.cells #[(.string (ByteArray.mk #[97])), (.string (ByteArray.mk #[98])), (.string (ByteArray.mk #[99])), (.string (ByteArray.mk #[97, 97])), (.string (ByteArray.mk #[107, 101, 121])), (.string (ByteArray.mk #[0]))] 9)) fun F =>
 ∃ v_8 : Int, F.cell (Addr.mk b1 0 none) = some (.int .u8 v_8) ∧
 ∃ a10_ : Addr, (Sl.mk (some (Addr.mk b6 0 none)) 6 6).base = some a10_ ∧ 0 ≤ (Int.tmod v_8 6) ∧ (Int.tmod v_8 6) < ((Sl.mk (some (Addr.mk b6 0 none)) 6 6).len : Int) ∧
 ∃ v_11 : ByteArray, F.cell (Addr.add a10_ (Int.toNat (Int.tmod v_8 6) * 1)) = some (.string v_11) ∧
 ∃ v_13 : Int, F.cell (Addr.mk b1 0 none) = some (.int .u8 v_13) ∧
 ((v_13 = 250 →
  b15j1 b1 b2 (ByteArray.mk #[]) R F) ∧
 (¬ (v_13 = 250) →
  b15j1 b1 b2 v_11 R F))
theorem c15 {x_0 : Array Value} {R : VP} {F : PH} (h : b15 x_0 R F) : Spec prog 15 #[(.agg x_0)] F R := by
 refine spec_of (args := [(.agg x_0)]) func15 rfl ntmps15 rfl ?_
 unfold b15 at h
 refine cR ?_
 refine s_ef (k_box (cs := x_0) rfl rfl ?_)
 intro b1 hf_b1
 replace h := atE (h b1 hf_b1)
 refine s_ef (k_alloc zr41 ?_)
 intro b2 hf_b2
 replace h := atE (h b2 hf_b2)
 refine HL_nil ?_
 refine cR ?_
 refine s_ef (k_buildSeq (l := [(.string (ByteArray.mk #[97])), (.string (ByteArray.mk #[98])), (.string (ByteArray.mk #[99])), (.string (ByteArray.mk #[97, 97])), (.string (ByteArray.mk #[107, 101, 121])), (.string (ByteArray.mk #[0]))]) underlying62 sz9 (by decide) zr9 rfl rfl ⟨rfl, rfl, rfl, rfl, rfl, rfl, trivial⟩ (evPC rfl (evPC rfl (evPC rfl (evPC rfl (evPC rfl (evPC rfl evPN)))))) ?_)
 intro b6 hf_b6
 replace h := atE (h b6 hf_b6)
 refine sR (.pointer (some (Addr.mk b1 0 none))) (w_fieldAddr rfl underlying44 rfl rfl sz5 rfl rfl) ?_
 obtain ⟨v_8, hc8, h⟩ := h
 refine sR (.int .u8 v_8) (r_load1 rfl rfl underlying5 rfl hc8) ?_
 refine sR (.int .u8 (Int.tmod v_8 6)) (r_rem rfl rfl rfl (by decide)) ?_
 obtain ⟨a10_, hb10, hl10, hu10, h⟩ := h
 refine sR (.pointer (some (Addr.add a10_ (Int.toNat (Int.tmod v_8 6) * 1)))) (w_indexAddr rfl rfl underlying62 sz9 hb10 hl10 hu10) ?_
 obtain ⟨v_11, hc11, h⟩ := h
 refine sR (.string v_11) (r_load1 rfl rfl underlying9 rfl hc11) ?_
 refine sR (.string v_11) (r_assign rfl rfl) ?_
 refine HL_nil ?_
 refine HC_seqJ (b15J1 b1 b2 R) ?_ ?_
 clear h; rintro E F ⟨key_3, h1, h2, h3, h⟩
 unfold b15j1 at h
 refine HC_seqJ (b15J2 b1 b2 R) ?_ ?_
 clear h; rintro E F ⟨key_3_1, h1, h2, h3, h⟩
 unfold b15j2 at h
 refine cR (sR _ (r_move rfl h3) ?_)
 refine sR (.agg (#[(.string key_3_1), .slice none 0 0] : Array Value)) (w_buildStruct (cells := #[(.string key_3_1), .slice none 0 0]) underlying41 zr41 kf41 (evPC rfl evPN) (fill1 (place_of rfl rfl sz9) rfl rfl (fillN rfl))) ?_
 refine s_ef (k_alloc zr41 ?_)
 intro b4 hf_b4
 replace h := atE (h b4 hf_b4)
 refine s_ef0 (k_storeN (vs := (#[(.string key_3_1), .slice none 0 0] : Array Value)) rfl rfl sz41 (by decide) ?_)
 obtain ⟨hz1, hz2, c, e, hz3, hz4, hz5, h⟩ := h
 refine ⟨hz1, hz2, c, e, hz3, hz4, hz5, ?_⟩
 replace h := atE h
 refine HL_nil ?_
 refine HC_seqJ (b15J3 b2 b4 R) ?_ ?_
 clear h; rintro E F ⟨h2, h4, h⟩
 unfold b15j3 at h
 refine cR ?_
 obtain ⟨v_44, hs44, hc44, h⟩ := h
 refine sR (.agg v_44) (w_loadN h4 underlying41 rfl sz41 hs44 hc44) ?_
 refine s_ef0 (k_storeN (vs := v_44) h2 rfl sz41 (by decide) ?_)
 obtain ⟨hz1, hz2, c, e, hz3, hz4, hz5, h⟩ := h
 refine ⟨hz1, hz2, c, e, hz3, hz4, hz5, ?_⟩
 replace h := atE h
 refine HL_nil ?_
 obtain ⟨vres_2, hs2, hr2, h⟩ := h
 exact HC_ret (show endQ prog f15 R .ret _ _ from ⟨_, res1 rfl (rv_cellN h2 underlying41 rfl sz41 hs2 hr2), h⟩)
 refine cR (sR (.int .i64 0) (r_assign rfl rfl) ?_)
 refine HL_nil ?_
 refine HC_block ?_
 obtain ⟨I1, m1, hI0, hr⟩ := h
 refine HC_loop (fun m1 E F => ∃ i_5 : Int, E 1 = (.pointer (some (Addr.mk b1 0 none))) ∧ E 2 = (.pointer (some (Addr.mk b2 0 none))) ∧ E 4 = (.pointer (some (Addr.mk b4 0 none))) ∧ E 5 = (.int .i64 i_5) ∧ I1 m1 i_5 F) m1 ⟨_, h1, h2, rfl, rfl, hI0⟩ ?_
 clear hI0; rintro m1 E F ⟨i_5, h1, h2, h4, h5, hI⟩
 have h := hr m1 i_5 F hI
 clear hr hI
 unfold b15L1 at h
 refine HC_seq ?_
 refine cR (sR _ (r_move rfl h5) ?_)
 refine sR (.pointer (some (Addr.mk b1 2 none))) (w_fieldAddr h1 underlying44 rfl rfl sz5 rfl rfl) ?_
 obtain ⟨v_31, hc31, h⟩ := h
 refine sR (.int .u8 v_31) (r_load1 rfl rfl underlying5 rfl hc31) ?_
 refine sR (.int .u8 (Int.tmod v_31 90)) (r_rem rfl rfl rfl (by decide)) ?_
 refine sR (.int .i64 (IntKind.i64.wrap (Int.tmod v_31 90))) (r_convInt rfl rfl underlying5 underlying3) ?_
 refine sR (.bool (decide (i_5 < (IntKind.i64.wrap (Int.tmod v_31 90))))) (r_lss rfl rfl rfl) ?_
 refine HL_nil ?_
 refine HC_cond (t := (decide (i_5 < (IntKind.i64.wrap (Int.tmod v_31 90))))) rfl (fun hc => ?_) (fun hc => ?_)
 replace h := h.1 (of_decide_eq_true hc)
 clear hc
 refine HC_skip ?_
 refine HC_seq ?_
 refine HC_block ?_
 refine HC_region ?_
 refine sR (.pointer (some (Addr.mk b4 1 none))) (w_fieldAddr h4 underlying41 rfl rfl sz39 rfl rfl) ?_
 obtain ⟨v_38, hc38, h⟩ := h
 refine sR (Sl.v v_38) (r_load1 rfl rfl underlying39 rfl hc38) ?_
 refine sR (.pointer (some (Addr.mk b1 1 none))) (w_fieldAddr h1 underlying44 rfl rfl sz5 rfl rfl) ?_
 obtain ⟨v_40, hc40, h⟩ := h
 refine sR (.int .u8 v_40) (r_load1 rfl rfl underlying5 rfl hc40) ?_
 refine s_ef (k_buildSeq (l := [(.int .u8 v_40)]) underlying39 sz5 (by decide) zr5 rfl rfl ⟨rfl, trivial⟩ (evPC rfl evPN) ?_)
 intro b41 hf_b41
 replace h := atE (h b41 hf_b41)
 refine s_ef (k_append rfl rfl (runs_mono _ _ h ?_))
 clear h; rintro v F ⟨v_42, rfl, h⟩
 refine sR (.pointer (some (Addr.mk b4 1 none))) (w_fieldAddr h4 underlying41 rfl rfl sz39 rfl rfl) ?_
 refine s_ef0 (k_store1 (v := (Sl.v v_42)) rfl rfl sz39 rfl st_sl ?_)
 obtain ⟨c, e, hz3, hz4, hz5, h⟩ := h
 refine ⟨c, e, hz3, hz4, hz5, ?_⟩
 replace h := atE h
 refine HL_nil ?_
 refine HC_region ?_
 refine sR _ (r_move rfl h5) ?_
 refine sR (.int .i64 (IntKind.i64.wrap (i_5 + 1))) (r_add rfl rfl rfl) ?_
 refine sR (.int .i64 (IntKind.i64.wrap (i_5 + 1))) (r_assign rfl rfl) ?_
 refine HL_nil ?_
 obtain ⟨m', hm, h⟩ := h
 exact ⟨m', hm, _, h1, h2, h4, rfl, h⟩
 replace h := h.2 (of_decide_eq_false hc)
 clear hc
 refine HC_exit ?_
 show b15J3 b2 b4 R _ _
 exact ⟨h2, h4, h⟩
 refine cR (sR (.pointer (some (Addr.mk b1 0 none))) (w_fieldAddr h1 underlying44 rfl rfl sz5 rfl rfl) ?_)
 obtain ⟨v_16, hc16, h⟩ := h
 refine sR (.int .u8 v_16) (r_load1 rfl rfl underlying5 rfl hc16) ?_
 refine sR (.bool (decide (250 < v_16))) (r_gtr rfl rfl rfl) ?_
 refine HL_nil ?_
 refine HC_cond (t := (decide (250 < v_16))) rfl (fun hc => ?_) (fun hc => ?_)
 replace h := h.1 (of_decide_eq_true hc)
 clear hc
 refine cR (sR (.string (ByteArray.mk #[])) (r_assign rfl rfl) ?_)
 refine HL_nil ?_
 refine HC_block ?_
 obtain ⟨I2, m2, hI0, hr⟩ := h
 refine HC_loop (fun m2 E F => ∃ key_3_2 : ByteArray, E 1 = (.pointer (some (Addr.mk b1 0 none))) ∧ E 2 = (.pointer (some (Addr.mk b2 0 none))) ∧ E 3 = (.string key_3_2) ∧ I2 m2 key_3_2 F) m2 ⟨_, h1, h2, rfl, hI0⟩ ?_
 clear hI0; rintro m2 E F ⟨key_3_2, h1, h2, h3, hI⟩
 have h := hr m2 key_3_2 F hI
 clear hr hI
 unfold b15L2 at h
 refine HC_seq ?_
 refine cR (sR _ (r_move rfl h3) ?_)
 refine sR (.int .i64 (key_3_2.size : Int)) (r_lenStr rfl rfl underlying9) ?_
 refine sR (.pointer (some (Addr.mk b1 0 none))) (w_fieldAddr h1 underlying44 rfl rfl sz5 rfl rfl) ?_
 obtain ⟨v_21, hc21, h⟩ := h
 refine sR (.int .u8 v_21) (r_load1 rfl rfl underlying5 rfl hc21) ?_
 refine sR (.int .i64 (IntKind.i64.wrap v_21)) (r_convInt rfl rfl underlying5 underlying3) ?_
 refine sR (.int .i64 (IntKind.i64.wrap (5 + (IntKind.i64.wrap v_21)))) (r_add rfl rfl rfl) ?_
 refine sR (.bool (decide ((key_3_2.size : Int) < (IntKind.i64.wrap (5 + (IntKind.i64.wrap v_21)))))) (r_lss rfl rfl rfl) ?_
 refine HL_nil ?_
 refine HC_cond (t := (decide ((key_3_2.size : Int) < (IntKind.i64.wrap (5 + (IntKind.i64.wrap v_21)))))) rfl (fun hc => ?_) (fun hc => ?_)
 replace h := h.1 (of_decide_eq_true hc)
 clear hc
 refine HC_skip ?_
 refine HC_block ?_
 refine HC_region ?_
 refine sR _ (r_move rfl h3) ?_
 obtain ⟨hx26, h⟩ := h
 refine sR (.string (key_3_2 ++ (ByteArray.mk #[107]))) (r_addS rfl rfl rfl hx26) ?_
 refine sR (.string (key_3_2 ++ (ByteArray.mk #[107]))) (r_assign rfl rfl) ?_
 refine HL_nil ?_
 obtain ⟨m', hm, h⟩ := h
 exact ⟨m', hm, _, h1, h2, rfl, h⟩
 replace h := h.2 (of_decide_eq_false hc)
 clear hc
 refine HC_exit ?_
 show b15J2 b1 b2 R _ _
 exact ⟨_, h1, h2, h3, h⟩
 replace h := h.2 (of_decide_eq_false hc)
 clear hc
 refine HC_skip ?_
 show b15J2 b1 b2 R _ _
 exact ⟨_, h1, h2, h3, h⟩
 refine cR (sR (.pointer (some (Addr.mk b1 0 none))) (w_fieldAddr rfl underlying44 rfl rfl sz5 rfl rfl) ?_)
 obtain ⟨v_13, hc13, h⟩ := h
 refine sR (.int .u8 v_13) (r_load1 rfl rfl underlying5 rfl hc13) ?_
 refine sR (.bool (decide (v_13 = 250))) (w_eql rfl rfl) ?_
 refine HL_nil ?_
 refine HC_cond (t := (decide (v_13 = 250))) rfl (fun hc => ?_) (fun hc => ?_)
 replace h := h.1 (of_decide_eq_true hc)
 clear hc
 refine HC_region ?_
 refine sR (.string (ByteArray.mk #[])) (r_assign rfl rfl) ?_
 refine HL_nil ?_
 show b15J1 b1 b2 R _ _
 exact ⟨_, rfl, rfl, rfl, h⟩
 replace h := h.2 (of_decide_eq_false hc)
 clear hc
 refine HC_skip ?_
 show b15J1 b1 b2 R _ _
 exact ⟨_, rfl, rfl, rfl, h⟩
 /- 22 koine.koineref35.Records -/
def b22j1 (out_3 : Sl) (R : VP) (F : PH) :=
 R (Sl.v out_3) F
abbrev b22J1 (R : VP) (E : En) (F : PH) : Prop := ∃ out_3 : Sl, E 3 = (Sl.v out_3) ∧ b22j1 out_3 R F
def b22L1 (N1 : Sl → Int → PH → Prop) (b1 : Nat) (R : VP) (out_3_1 : Sl) (i_4 : Int) (F : PH) :=
 ∃ v_8 : Sl, F.cell (Addr.mk b1 1 none) = some (Sl.v v_8) ∧
 ((i_4 < (v_8.len : Int) →
  ((i_4 < 4 →
   ∃ v_19 : Sl, F.cell (Addr.mk b1 1 none) = some (Sl.v v_19) ∧
   ∃ a21_ : Addr, v_19.base = some a21_ ∧ 0 ≤ i_4 ∧ i_4 < (v_19.len : Int) ∧
   ∃ v_22 : Array Value, v_22.size = 3 ∧ F.row (Addr.add a21_ (Int.toNat i_4 * 3)) v_22 ∧
   Spec prog 15 #[(.agg v_22)] F fun v F => ∃ v_23 : Array Value, v = (.agg v_23) ∧
   v_23.size = 2 ∧ ∀ b24, F b24 = none → atF (F.set b24 (.cells v_23 41)) fun F =>
   runs prog (Builtin.append_ #[26, 26] 26 #[(Sl.v out_3_1), (Sl.v (Sl.mk (some (Addr.mk b24 0 none)) 1 1))]) F fun v F => ∃ v_25 : Sl, v = (Sl.v v_25) ∧
   N1 v_25 (IntKind.i64.wrap (i_4 + 1)) F) ∧
  (¬ (i_4 < 4) →
   b22j1 out_3_1 R F))) ∧
 (¬ (i_4 < (v_8.len : Int)) →
  b22j1 out_3_1 R F))
def b22 (x_0 : Array Value) (R : VP) (F : PH) :=
 ∀ b1, F b1 = none → atF (F.set b1 (.cells x_0 38)) fun F =>
 ∀ b5, F b5 = none → atF (F.set b5 (.cells #[] 41)) fun F =>
 (∃ (I1 : Nat → Sl → Int → PH → Prop) (m1 : Nat), I1 m1 (Sl.mk (some (Addr.mk b5 0 none)) 0 0) 0 F ∧ ∀ m1 out_3_1 i_4 F, I1 m1 out_3_1 i_4 F →
  b22L1 (nx2 I1 m1) b1 R out_3_1 i_4 F)
theorem c22 {x_0 : Array Value} {R : VP} {F : PH} (h : b22 x_0 R F) : Spec prog 22 #[(.agg x_0)] F R := by
 refine spec_of (args := [(.agg x_0)]) func22 rfl ntmps22 rfl ?_
 unfold b22 at h
 refine cR ?_
 refine s_ef (k_box (cs := x_0) rfl rfl ?_)
 intro b1 hf_b1
 replace h := atE (h b1 hf_b1)
 refine sR (Sl.v Sl.nil) (r_assign rfl rfl) ?_
 refine HL_nil ?_
 refine cR ?_
 refine s_ef (k_buildSlice (cells := #[]) underlying26 sz41 (by decide) zr41 ((zc_flat _ rfl _).trans (rfl : _ = (#[] : Array Value))) evPN (fillN rfl) rfl ?_)
 intro b5 hf_b5
 replace h := atE (h b5 hf_b5)
 refine sR (Sl.v (Sl.mk (some (Addr.mk b5 0 none)) 0 0)) (r_assign rfl rfl) ?_
 refine HL_nil ?_
 refine HC_seqJ (b22J1 R) ?_ ?_
 clear h; rintro E F ⟨out_3, h3, h⟩
 unfold b22j1 at h
 refine cR (sR _ (r_move rfl h3) ?_)
 refine sR (Sl.v out_3) (r_assign rfl rfl) ?_
 exact HL_nil (HC_ret (rt1 f22 R rfl rfl h))
 refine cR (sR (.int .i64 0) (r_assign rfl rfl) ?_)
 refine HL_nil ?_
 refine HC_block ?_
 obtain ⟨I1, m1, hI0, hr⟩ := h
 refine HC_loop (fun m1 E F => ∃ out_3_1 : Sl, ∃ i_4 : Int, E 1 = (.pointer (some (Addr.mk b1 0 none))) ∧ E 3 = (Sl.v out_3_1) ∧ E 4 = (.int .i64 i_4) ∧ I1 m1 out_3_1 i_4 F) m1 ⟨_, _, rfl, rfl, rfl, hI0⟩ ?_
 clear hI0; rintro m1 E F ⟨out_3_1, i_4, h1, h3, h4, hI⟩
 have h := hr m1 out_3_1 i_4 F hI
 clear hr hI
 unfold b22L1 at h
 refine HC_seq ?_
 refine cR (sR _ (r_move rfl h4) ?_)
 refine sR (.pointer (some (Addr.mk b1 1 none))) (w_fieldAddr h1 underlying38 rfl rfl sz36 rfl rfl) ?_
 obtain ⟨v_8, hc8, h⟩ := h
 refine sR (Sl.v v_8) (r_load1 rfl rfl underlying36 rfl hc8) ?_
 refine sR (.int .i64 (v_8.len : Int)) (r_lenSl rfl rfl underlying36) ?_
 refine sR (.bool (decide (i_4 < (v_8.len : Int)))) (r_lss rfl rfl rfl) ?_
 refine sR (.bool (decide (i_4 < (v_8.len : Int)))) (r_move rfl rfl) ?_
 by_cases hc : i_4 < (v_8.len : Int)
 replace h := h.1 hc
 refine kN 10 (decide_eq_true hc) ?_
 refine kN 11 (decide_eq_true hc) ?_
 refine sR _ (r_move rfl h4) ?_
 refine sR (.bool (decide (i_4 < 4))) (r_lss rfl rfl rfl) ?_
 refine sR (.bool (decide (i_4 < 4))) (r_pt rfl rfl) ?_
 refine HL_nil ?_
 refine HC_cond (t := (decide (i_4 < 4))) rfl (fun hc => ?_) (fun hc => ?_)
 replace h := h.1 (of_decide_eq_true hc)
 clear hc
 refine HC_skip ?_
 refine HC_seq ?_
 refine HC_block ?_
 refine HC_region ?_
 refine sR _ (r_move rfl h3) ?_
 refine sR (.pointer (some (Addr.mk b1 1 none))) (w_fieldAddr h1 underlying38 rfl rfl sz36 rfl rfl) ?_
 obtain ⟨v_19, hc19, h⟩ := h
 refine sR (Sl.v v_19) (r_load1 rfl rfl underlying36 rfl hc19) ?_
 refine sR _ (r_move rfl h4) ?_
 obtain ⟨a21_, hb21, hl21, hu21, h⟩ := h
 refine sR (.pointer (some (Addr.add a21_ (Int.toNat i_4 * 3)))) (w_indexAddr rfl rfl underlying36 sz44 hb21 hl21 hu21) ?_
 obtain ⟨v_22, hs22, hc22, h⟩ := h
 refine sR (.agg v_22) (w_loadN rfl underlying44 rfl sz44 hs22 hc22) ?_
 refine s_ef (k_call (vs := [(.agg v_22)]) cb15 (evC rfl evN) (h.mono ?_))
 clear h; rintro v F ⟨v_23, rfl, h⟩
 obtain ⟨hz24, h⟩ := h
 refine s_ef (k_buildSlice (cells := v_23) underlying26 sz41 (by decide) zr41 rfl (evPC rfl evPN) (fillWhole hz24 rfl rfl) rfl ?_)
 intro b24 hf_b24
 replace h := atE (h b24 hf_b24)
 refine s_ef (k_append rfl rfl (runs_mono _ _ h ?_))
 clear h; rintro v F ⟨v_25, rfl, h⟩
 refine sR (Sl.v v_25) (r_assign rfl rfl) ?_
 refine HL_nil ?_
 refine HC_region ?_
 refine sR _ (r_move rfl h4) ?_
 refine sR (.int .i64 (IntKind.i64.wrap (i_4 + 1))) (r_add rfl rfl rfl) ?_
 refine sR (.int .i64 (IntKind.i64.wrap (i_4 + 1))) (r_assign rfl rfl) ?_
 refine HL_nil ?_
 obtain ⟨m', hm, h⟩ := h
 exact ⟨m', hm, _, _, h1, rfl, rfl, h⟩
 replace h := h.2 (of_decide_eq_false hc)
 clear hc
 refine HC_exit ?_
 show b22J1 R _ _
 exact ⟨_, h3, h⟩
 replace h := h.2 hc
 refine kN 10 (decide_eq_false hc) ?_
 refine kN 11 (decide_eq_false hc) ?_
 iterate 2 refine s_skip ?_
 refine sR (.bool false) (r_pf rfl rfl) ?_
 refine HL_nil ?_
 refine HC_condF rfl ?_
 refine HC_exit ?_
 show b22J1 R _ _
 exact ⟨_, h3, h⟩
 /- 21 koine.koineref35.SameContents -/
def b21j1 (R : VP) (F : PH) :=
 R (.bool true) F
abbrev b21J1 (R : VP) (E : En) (F : PH) : Prop := b21j1 R F
def b21L1 (N1 : Int → PH → Prop) (a_0 : Sl) (b_1 : Sl) (R : VP) (i_5 : Int) (F : PH) :=
 ((i_5 < (a_0.len : Int) →
  ∃ a19_ : Addr, a_0.base = some a19_ ∧ 0 ≤ i_5 ∧ i_5 < (a_0.len : Int) ∧
  ∃ v_21 : ByteArray, F.cell (Addr.add a19_ (Int.toNat i_5 * 2)) = some (.string v_21) ∧
  ∃ a24_ : Addr, b_1.base = some a24_ ∧ 0 ≤ i_5 ∧ i_5 < (b_1.len : Int) ∧
  ∃ v_26 : ByteArray, F.cell (Addr.add a24_ (Int.toNat i_5 * 2)) = some (.string v_26) ∧
  (((!(v_21.toList == v_26.toList)) = true →
   R (.bool false) F) ∧
  ((!(v_21.toList == v_26.toList)) = false →
   ∃ a31_ : Addr, a_0.base = some a31_ ∧ 0 ≤ i_5 ∧ i_5 < (a_0.len : Int) ∧
   ∃ v_33 : Sl, F.cell (Addr.add (Addr.add a31_ (Int.toNat i_5 * 2)) 1) = some (Sl.v v_33) ∧
   ∃ v_34 : ByteArray, rdo prog (Conv.bytesToString (Sl.v v_33)) F (.string v_34) ∧
   ∃ a37_ : Addr, b_1.base = some a37_ ∧ 0 ≤ i_5 ∧ i_5 < (b_1.len : Int) ∧
   ∃ v_39 : Sl, F.cell (Addr.add (Addr.add a37_ (Int.toNat i_5 * 2)) 1) = some (Sl.v v_39) ∧
   ∃ v_40 : ByteArray, rdo prog (Conv.bytesToString (Sl.v v_39)) F (.string v_40) ∧
   (((!(v_34.toList == v_40.toList)) = true →
    R (.bool false) F) ∧
   ((!(v_34.toList == v_40.toList)) = false →
    N1 (IntKind.i64.wrap (i_5 + 1)) F))))) ∧
 (¬ (i_5 < (a_0.len : Int)) →
  b21j1 R F))
def b21 (a_0 : Sl) (b_1 : Sl) (R : VP) (F : PH) :=
 (((a_0.len : Int) ≠ (b_1.len : Int) →
  R (.bool false) F) ∧
 (¬ ((a_0.len : Int) ≠ (b_1.len : Int)) →
  (∃ (I1 : Nat → Int → PH → Prop) (m1 : Nat), I1 m1 0 F ∧ ∀ m1 i_5 F, I1 m1 i_5 F →
   b21L1 (nx1 I1 m1) a_0 b_1 R i_5 F)))
theorem c21 {a_0 : Sl} {b_1 : Sl} {R : VP} {F : PH} (h : b21 a_0 b_1 R F) : Spec prog 21 #[(Sl.v a_0), (Sl.v b_1)] F R := by
 refine spec_of (args := [(Sl.v a_0), (Sl.v b_1)]) func21 rfl ntmps21 rfl ?_
 unfold b21 at h
 refine cR (sR (.bool false) (r_assign rfl rfl) ?_)
 refine HL_nil ?_
 refine HC_seq ?_
 refine cR (sR (Sl.v a_0) (r_move rfl rfl) ?_)
 refine sR (.int .i64 (a_0.len : Int)) (r_lenSl rfl rfl underlying26) ?_
 refine sR (Sl.v b_1) (r_move rfl rfl) ?_
 refine sR (.int .i64 (b_1.len : Int)) (r_lenSl rfl rfl underlying26) ?_
 refine sR (.bool (decide ((a_0.len : Int) ≠ (b_1.len : Int)))) (w_neq rfl rfl) ?_
 refine HL_nil ?_
 refine HC_cond (t := (decide ((a_0.len : Int) ≠ (b_1.len : Int)))) rfl (fun hc => ?_) (fun hc => ?_)
 replace h := h.1 (of_decide_eq_true hc)
 clear hc
 refine cR (sR (.bool false) (r_assign rfl rfl) ?_)
 exact HL_nil (HC_ret (rt1 f21 R rfl rfl h))
 replace h := h.2 (of_decide_eq_false hc)
 clear hc
 refine HC_skip ?_
 refine HC_seqJ (b21J1 R) ?_ ?_
 clear h; rintro E F h
 unfold b21J1 at h; unfold b21j1 at h
 refine cR (sR (.bool true) (r_assign rfl rfl) ?_)
 exact HL_nil (HC_ret (rt1 f21 R rfl rfl h))
 refine cR (sR (.int .i64 0) (r_assign rfl rfl) ?_)
 refine HL_nil ?_
 refine HC_block ?_
 obtain ⟨I1, m1, hI0, hr⟩ := h
 refine HC_loop (fun m1 E F => ∃ i_5 : Int, E 0 = (Sl.v a_0) ∧ E 1 = (Sl.v b_1) ∧ E 5 = (.int .i64 i_5) ∧ I1 m1 i_5 F) m1 ⟨_, rfl, rfl, rfl, hI0⟩ ?_
 clear hI0; rintro m1 E F ⟨i_5, h0, h1, h5, hI⟩
 have h := hr m1 i_5 F hI
 clear hr hI
 unfold b21L1 at h
 refine HC_seq ?_
 refine cR (sR _ (r_move rfl h5) ?_)
 refine sR _ (r_move rfl h0) ?_
 refine sR (.int .i64 (a_0.len : Int)) (r_lenSl rfl rfl underlying26) ?_
 refine sR (.bool (decide (i_5 < (a_0.len : Int)))) (r_lss rfl rfl rfl) ?_
 refine HL_nil ?_
 refine HC_cond (t := (decide (i_5 < (a_0.len : Int)))) rfl (fun hc => ?_) (fun hc => ?_)
 replace h := h.1 (of_decide_eq_true hc)
 clear hc
 refine HC_skip ?_
 refine HC_seq ?_
 refine HC_block ?_
 refine HC_seq ?_
 refine HC_draw0 (by kernel_rfl) (fun hp => ?_)
 refine gU 0 (Sl.v a_0) rfl (fun _ => r_move rfl h0) hp ?_
 refine gU 1 (.int .i64 i_5) rfl (fun _ => r_move rfl h5) hp ?_
 obtain ⟨a19_, hb19, hl19, hu19, h⟩ := h
 refine gU 2 (.pointer (some (Addr.add a19_ (Int.toNat i_5 * 2)))) rfl (fun _ => w_indexAddr rfl rfl underlying26 sz41 hb19 hl19 hu19) hp ?_
 refine gU 3 (.pointer (some (Addr.add a19_ (Int.toNat i_5 * 2)))) rfl (fun _ => w_fieldAddr rfl underlying41 rfl rfl sz9 rfl rfl) hp ?_
 obtain ⟨v_21, hc21, h⟩ := h
 refine gR 4 (.string v_21) rfl (r_load1 rfl rfl underlying9 rfl hc21) hp (fun S4 q4 => ?_)
 replace hp := holdC (i := 4) (q4 _ (r_load1 rfl rfl underlying9 rfl hc21)) hp
 refine gU 5 (Sl.v b_1) rfl (fun _ => r_move rfl h1) hp ?_
 refine gU 6 (.int .i64 i_5) rfl (fun _ => r_move rfl h5) hp ?_
 obtain ⟨a24_, hb24, hl24, hu24, h⟩ := h
 refine gU 7 (.pointer (some (Addr.add a24_ (Int.toNat i_5 * 2)))) rfl (fun _ => w_indexAddr rfl rfl underlying26 sz41 hb24 hl24 hu24) hp ?_
 refine gU 8 (.pointer (some (Addr.add a24_ (Int.toNat i_5 * 2)))) rfl (fun _ => w_fieldAddr rfl underlying41 rfl rfl sz9 rfl rfl) hp ?_
 obtain ⟨v_26, hc26, h⟩ := h
 refine gR 9 (.string v_26) rfl (r_load1 rfl rfl underlying9 rfl hc26) hp (fun S9 q9 => ?_)
 replace hp := holdC (i := 9) (q9 _ (r_load1 rfl rfl underlying9 rfl hc26)) hp
 refine gU 10 (.bool (!(v_21.toList == v_26.toList))) rfl (fun _ => r_neqS rfl rfl rfl) hp ?_
 refine gU 11 (.bool (!(v_21.toList == v_26.toList))) rfl (fun _ => r_move rfl rfl) hp ?_
 by_cases hc : (!(v_21.toList == v_26.toList)) = true
 replace h := h.1 hc
 refine RG_known (t := 27) (v := .bool true) (congrArg Value.bool hc) ?_
 refine RG_known (t := 28) (v := .bool true) (congrArg Value.bool hc) ?_
 refine gS 12 rfl hp ?_
 refine gS 13 rfl hp ?_
 refine gS 14 rfl hp ?_
 refine gS 15 rfl hp ?_
 refine gS 16 rfl hp ?_
 refine gS 17 rfl hp ?_
 refine gS 18 rfl hp ?_
 refine gS 19 rfl hp ?_
 refine gS 20 rfl hp ?_
 refine gS 21 rfl hp ?_
 refine gS 22 rfl hp ?_
 refine gS 23 rfl hp ?_
 refine gS 24 rfl hp ?_
 refine gU 25 (.bool true) rfl (fun _ => r_pick rfl rfl (fun _ => rfl) (fun h => by cases h)) hp ?_
 refine RG_done (by kernel_rfl) ?_
 refine HC_condT rfl ?_
 refine cR (sR (.bool false) (r_assign rfl rfl) ?_)
 exact HL_nil (HC_ret (rt1 f21 R rfl rfl h))
 replace hc := eq_false_of_ne_true hc; replace h := h.2 hc
 refine RG_known (t := 27) (v := .bool false) (congrArg Value.bool hc) ?_
 refine RG_known (t := 28) (v := .bool false) (congrArg Value.bool hc) ?_
 refine gU 12 (Sl.v a_0) rfl (fun _ => r_move rfl h0) hp ?_
 refine gU 13 (.int .i64 i_5) rfl (fun _ => r_move rfl h5) hp ?_
 obtain ⟨a31_, hb31, hl31, hu31, h⟩ := h
 refine gU 14 (.pointer (some (Addr.add a31_ (Int.toNat i_5 * 2)))) rfl (fun _ => w_indexAddr rfl rfl underlying26 sz41 hb31 hl31 hu31) hp ?_
 refine gU 15 (.pointer (some (Addr.add (Addr.add a31_ (Int.toNat i_5 * 2)) 1))) rfl (fun _ => w_fieldAddr rfl underlying41 rfl rfl sz39 rfl rfl) hp ?_
 obtain ⟨v_33, hc33, h⟩ := h
 refine gR 16 (Sl.v v_33) rfl (r_load1 rfl rfl underlying39 rfl hc33) hp (fun S16 q16 => ?_)
 replace hp := holdC (i := 16) (q16 _ (r_load1 rfl rfl underlying39 rfl hc33)) hp
 obtain ⟨v_34, hc34, h⟩ := h
 refine gR 17 (.string v_34) rfl (r_convBS rfl rfl underlying39 underlying9 underlying5 ⟨_, _, _, rfl⟩ hc34) hp (fun S17 q17 => ?_)
 replace hp := holdC (i := 17) (q17 _ (r_convBS rfl rfl underlying39 underlying9 underlying5 ⟨_, _, _, rfl⟩ hc34)) hp
 refine gU 18 (Sl.v b_1) rfl (fun _ => r_move rfl h1) hp ?_
 refine gU 19 (.int .i64 i_5) rfl (fun _ => r_move rfl h5) hp ?_
 obtain ⟨a37_, hb37, hl37, hu37, h⟩ := h
 refine gU 20 (.pointer (some (Addr.add a37_ (Int.toNat i_5 * 2)))) rfl (fun _ => w_indexAddr rfl rfl underlying26 sz41 hb37 hl37 hu37) hp ?_
 refine gU 21 (.pointer (some (Addr.add (Addr.add a37_ (Int.toNat i_5 * 2)) 1))) rfl (fun _ => w_fieldAddr rfl underlying41 rfl rfl sz39 rfl rfl) hp ?_
 obtain ⟨v_39, hc39, h⟩ := h
 refine gR 22 (Sl.v v_39) rfl (r_load1 rfl rfl underlying39 rfl hc39) hp (fun S22 q22 => ?_)
 replace hp := holdC (i := 22) (q22 _ (r_load1 rfl rfl underlying39 rfl hc39)) hp
 obtain ⟨v_40, hc40, h⟩ := h
 refine gR 23 (.string v_40) rfl (r_convBS rfl rfl underlying39 underlying9 underlying5 ⟨_, _, _, rfl⟩ hc40) hp (fun S23 q23 => ?_)
 replace hp := holdC (i := 23) (q23 _ (r_convBS rfl rfl underlying39 underlying9 underlying5 ⟨_, _, _, rfl⟩ hc40)) hp
 refine gU 24 (.bool (!(v_34.toList == v_40.toList))) rfl (fun _ => r_neqS rfl rfl rfl) hp ?_
 refine gU 25 (.bool (!(v_34.toList == v_40.toList))) rfl (fun _ => r_pick rfl rfl (fun h => by cases h) (fun _ => rfl)) hp ?_
 refine RG_done (by kernel_rfl) ?_
 refine HC_cond (t := (!(v_34.toList == v_40.toList))) rfl (fun hc => ?_) (fun hc => ?_)
 replace h := h.1 hc
 clear hc
 refine cR (sR (.bool false) (r_assign rfl rfl) ?_)
 exact HL_nil (HC_ret (rt1 f21 R rfl rfl h))
 replace h := h.2 hc
 clear hc
 refine HC_skip ?_
 refine HC_region ?_
 refine sR _ (r_move rfl h5) ?_
 refine sR (.int .i64 (IntKind.i64.wrap (i_5 + 1))) (r_add rfl rfl rfl) ?_
 refine sR (.int .i64 (IntKind.i64.wrap (i_5 + 1))) (r_assign rfl rfl) ?_
 refine HL_nil ?_
 obtain ⟨m', hm, h⟩ := h
 exact ⟨m', hm, _, h0, h1, rfl, h⟩
 replace h := h.2 (of_decide_eq_false hc)
 clear hc
 refine HC_exit ?_
 exact h
end Go.Proofs.Ytelkfnmdnbbniaa
