/-
  The disk: one operation of the reference.
-/
import Derived.Test.YthnolhcknhhipaaDv
namespace Go.Proofs.Ythnolhcknhhipaa
open Go Go.Proofs.Try

theorem OpOk.le {F G : PH} {o : OpD} (h : OpOk F o) (hl : F.le G) : OpOk G o := ⟨h.rd.le hl, h.kl, h.at_⟩
theorem do_ref {F : PH} {cs : Array Value} {n : Nat} {s : DS} {o : OpD} (h : RRep F cs n s) (ho : OpOk F o) (hwl : s.ws.length < 1000) : Spec prog 24 #[.agg cs, .agg o.cells.toArray] F fun v F' => ∃ cs', v = .tuple #[.agg cs', .int .i64 (s.doOp n o).2] ∧ F.le F' ∧ RRep F' cs' n (s.doOp n o).1 := by
  refine c24 ?_
  unfold b24
  intro b2 hb2
  refine atI ?_
  have hle2 := le_set_fresh (.cells cs 48) hb2
  have hc2 : (F.set b2 (.cells cs 48)) b2 = some (.cells cs 48 (0, 0)) := set_eq _ _ _
  generalize F.set b2 (.cells cs 48) = F2 at *
  intro b3 hb3
  refine atI ?_
  have hF3 : F b3 = none := le_none hle2 hb3
  have hle3 := le_set_fresh (.cells o.cells.toArray 40) hb3
  have hc3 : (F2.set b3 (.cells o.cells.toArray 40)) b3 = some (.cells o.cells.toArray 40 (0, 0)) := set_eq _ _ _
  replace hc2 := hle3 _ _ hc2
  have hleF := le_trans' hle2 hle3
  clear hle2 hle3
  generalize F2.set b3 (.cells o.cells.toArray 40) = F3 at *
  intro b4 hb4
  refine atI ?_
  have hF4 : F b4 = none := le_none hleF hb4
  have h24 : b4 ≠ b2 := fun e => by rw [e, hc2] at hb4; cases hb4
  have hle4 := le_set_fresh (.cells zero48 48) hb4
  have hc4 : (F3.set b4 (.cells zero48 48)) b4 = some (.cells zero48 48 (0, 0)) := set_eq _ _ _
  replace hc2 := hle4 _ _ hc2
  replace hc3 := hle4 _ _ hc3
  replace hleF := le_trans' hleF hle4
  clear hle4 hb4 hb3
  show ∃ v_7 : Int, (F3.set b4 (.cells zero48 48)).cell _ = _ ∧ _
  generalize F3.set b4 (.cells zero48 48) = F4 at *
  have hsz := h.size
  have hstor := h.stor
  have h0 := h
  obtain ⟨SL, PL, ssl, psl, ksl, hm⟩ := h
  have hok := hm.ok
  have hcs := hm.hc
  have c0 : F4.cell ⟨b3, 0, none⟩ = some (.int .u8 o.kind) := by rw [cell_eq hc3]; rfl
  have c1 : F4.cell ⟨b3, 1, none⟩ = some (.int .i64 o.at_) := by rw [cell_eq hc3]; rfl
  have c4 : F4.cell ⟨b3, 4, none⟩ = some (Sl.v o.ksl) := by rw [cell_eq hc3]; rfl
  have same : ∀ (z : Int × DS), (s.doOp n o) = (s, 0) → ∃ v_40 : Array Value, v_40.size = 5 ∧ F4.row (Addr.mk b2 0 none) v_40 ∧
      v_40.size = 5 ∧ (∀ v ∈ v_40.toList, storable v) ∧ ∃ c e, F4 (Addr.mk b4 0 none).block = some (.cells c e (0, 0)) ∧ (Addr.mk b4 0 none).spot = none ∧ (Addr.mk b4 0 none).off + 5 ≤ c.size ∧
      atF (F4.set (Addr.mk b4 0 none).block (.cells (wr c (Addr.mk b4 0 none).off v_40.toList) e)) fun F_1 =>
      ∃ vres_4_4 : Array Value, vres_4_4.size = 5 ∧ F_1.row (Addr.mk b4 0 none) vres_4_4 ∧ ∃ cs', (Value.tuple #[(Value.agg vres_4_4), (Value.int .i64 (0 : Int))]) = .tuple #[.agg cs', .int .i64 (s.doOp n o).2] ∧ F.le F_1 ∧ RRep F_1 cs' n (s.doOp n o).1 := fun _ e => by
    have hle6 := le_set_new (o := .cells cs 48) hleF hF4
    rw [e]
    exact ⟨cs, hsz, row_whole hc2, ret5 (K := fun a H => ∃ cs', Value.tuple #[.agg a, .int .i64 0] = .tuple #[.agg cs', .int .i64 0] ∧ F.le H ∧ RRep H cs' n s) cs hsz hstor hc4 rfl ⟨cs, rfl, hle6, h0.le hle6⟩⟩
  refine ⟨_, c0, fun k4 => ?_, fun k4 => ⟨fun k5 => ?_, fun k5 => ⟨fun k6 => ?_, fun k6 => ⟨fun k7 => ?_, fun k7 => ⟨fun k8 => ?_, fun k8 => ?_⟩⟩⟩⟩⟩
  · have e : s.doOp n o = s.flush := by unfold DS.doOp; rw [if_pos k4]
    rw [e]
    refine ⟨cs, hsz, row_whole hc2, ?_⟩
    refine ((flush_ref h0).upon hleF).mono ?_
    rintro v F5 ⟨G, ⟨cr, rfl, hle5, hr⟩, hG, hkp⟩
    obtain ⟨h4, hn4⟩ := hkp b4 _ hF4 hc4
    have hG9 := le_set_new (o := .cells cr 48) hG hn4
    exact ⟨cr, _, rfl, ret5 (K := fun a H => ∃ cs', Value.tuple #[.agg a, .int .i64 s.flush.2] = .tuple #[.agg cs', .int .i64 s.flush.2] ∧ F.le H ∧ RRep H cs' n s.flush.1) cr hr.size hr.stor h4 rfl ⟨cr, rfl, le_trans' hle5 hG9, hr.le hG9⟩⟩
  · have e : s.doOp n o = (s.crash o.kept, 0) := by unfold DS.doOp; rw [if_neg k4, if_pos k5]
    rw [e]
    refine ⟨cs, hsz, row_whole hc2, _, c4, ?_⟩
    refine ((crash_ref h0 ho.rd).upon hleF).mono ?_
    rintro v F5 ⟨G, ⟨cr, rfl, hle5, hr⟩, hG, hkp⟩
    obtain ⟨h4, hn4⟩ := hkp b4 _ hF4 hc4
    have hG9 := le_set_new (o := .cells cr 48) hG hn4
    exact ⟨cr, rfl, ret5 (K := fun a H => ∃ cs', Value.tuple #[.agg a, .int .i64 0] = .tuple #[.agg cs', .int .i64 0] ∧ F.le H ∧ RRep H cs' n (s.crash o.kept)) cr hr.size hr.stor h4 rfl ⟨cr, rfl, le_trans' hle5 hG9, hr.le hG9⟩⟩
  · have e : s.doOp n o = (s.power, 0) := by unfold DS.doOp; rw [if_neg k4, if_neg k5, if_pos k6]
    rw [e]
    refine st1 (b := b2) (o := 2) hc2 (by omega) ?_
    have hv : cs.setIfInBounds 2 (.bool false) = #[ssl.v, psl.v, .bool false, .int .i64 s.fuse, ksl.v] := by rw [hcs]; rfl
    rw [hv]
    have hG9 := le_set_new (o := .cells #[ssl.v, psl.v, .bool false, .int .i64 s.fuse, ksl.v] 48) (le_set_new (o := .cells #[ssl.v, psl.v, .bool false, .int .i64 s.fuse, ksl.v] 48) hleF hb2) hF4
    have hm9 := hm.le hG9
    obtain ⟨o1, o2, o3, o4, o5, o6, o7⟩ := hok
    refine ⟨_, rfl, row_whole (set_eq _ _ _), ret5 (K := fun a H => ∃ cs', Value.tuple #[.agg a, .int .i64 0] = .tuple #[.agg cs', .int .i64 0] ∧ F.le H ∧ RRep H cs' n s.power) _ rfl ?_ ((set_ne _ _ h24).trans hc4) rfl
      ⟨_, rfl, hG9, SL, PL, ssl, psl, ksl, rfl, hm9.hs, hm9.sl, hm9.sr, hm9.hp, hm9.pl, hm9.pr, hm9.hk, ⟨o1, o2, o3, o4, o5, o6, o7⟩, hm9.kb⟩⟩
    intro v hv
    simp at hv
    rcases hv with rfl | rfl | rfl | rfl | rfl
    · exact st_sl
    · exact st_sl
    · exact st_bool
    · exact st_int
    · exact st_sl
  · have e : s.doOp n o = (s.setFuse o.at_ o.kept, 0) := by unfold DS.doOp; rw [if_neg k4, if_neg k5, if_neg k6, if_pos k7]
    rw [e]
    refine ⟨_, c1, ?_⟩
    refine st1 (b := b2) (o := 3) hc2 (by omega) ?_
    have hb32 : b3 ≠ b2 := fun e => by
      rw [e, hc2] at hc3
      injection hc3 with hc3
      injection hc3 with _ h5
      cases h5
    intro b31 hb31
    refine atI ?_
    have hle31 := le_set_fresh (.cells #[] 3) hb31
    have hle5 := le_set_new (o := .cells (cs.setIfInBounds 3 (.int .i64 (max o.at_ 0))) 48) hleF hb2
    have hc25 : (F4.set b2 (.cells (cs.setIfInBounds 3 (.int .i64 (max o.at_ 0))) 48)) b2 = some (.cells (cs.setIfInBounds 3 (.int .i64 (max o.at_ 0))) 48 (0, 0)) := set_eq _ _ _
    have hc45 : (F4.set b2 (.cells (cs.setIfInBounds 3 (.int .i64 (max o.at_ 0))) 48)) b4 = some (.cells zero48 48 (0, 0)) := (set_ne _ _ h24).trans hc4
    have hc35 : (F4.set b2 (.cells (cs.setIfInBounds 3 (.int .i64 (max o.at_ 0))) 48)) b3 = some (.cells o.cells.toArray 40 (0, 0)) := (set_ne _ _ hb32).trans hc3
    generalize F4.set b2 (.cells (cs.setIfInBounds 3 (.int .i64 (max o.at_ 0))) 48) = F5 at *
    have hkl := ho.kl
    refine ⟨o.ksl, by rw [cell_eq (hle31 _ _ hc35)]; rfl, ?_⟩
    refine clone_gen underlying37 sz3 zr3 rfl hb31 (ho.rd.le hle5) st_i64s hkl (by omega) ?_
    intro k' F6 hle6 hown6 hlen6 hnew6
    refine ⟨k', rfl, ?_⟩
    refine st1 (b := b2) (o := 4) (hle6 _ _ hc25) (by simp; omega) ?_
    have hv : (cs.setIfInBounds 3 (.int .i64 (max o.at_ 0))).setIfInBounds 4 k'.v = #[ssl.v, psl.v, .bool s.down, .int .i64 (max o.at_ 0), k'.v] := by rw [hcs]; rfl
    rw [hv]
    generalize hc7 : (#[ssl.v, psl.v, .bool s.down, .int .i64 (max o.at_ 0), k'.v] : Array Value) = c7
    have hG9 := le_set_new (o := .cells c7 48) (le_set_new (o := .cells c7 48) (le_trans' hle5 hle6) hb2) hF4
    have hm9 := hm.le hG9
    obtain ⟨o1, o2, o3, o4, o5, o6, o7⟩ := hok
    have hk9 : OwnS ((F6.set b2 (.cells c7 48)).set b4 (.cells c7 48)) 3 1 k' (i64s o.kept) := hown6.keep (fun a ha => by
      have h5 := hnew6 a ha
      rw [set_ne _ _ (fun e => by rw [e, hc45] at h5; cases h5), set_ne _ _ (fun e => by rw [e, hc25] at h5; cases h5)])
    have hat := ho.at_
    have hkn := ho.rd.len
    simp at hkn
    refine ⟨c7, by rw [← hc7]; rfl, row_whole (set_eq _ _ _), ret5 (K := fun a H => ∃ cs', Value.tuple #[.agg a, .int .i64 0] = .tuple #[.agg cs', .int .i64 0] ∧ F.le H ∧ RRep H cs' n (s.setFuse o.at_ o.kept)) c7 (by rw [← hc7]; rfl) ?_ ((set_ne _ _ h24).trans (hle6 _ _ hc45)) rfl
      ⟨_, rfl, hG9, SL, PL, ssl, psl, k', hc7.symm, hm9.hs, hm9.sl, hm9.sr, hm9.hp, hm9.pl, hm9.pr, hk9.rd, ⟨o1, o2, o3, by simp only [DS.setFuse]; omega, by simp only [DS.setFuse]; omega, o6, o7⟩, by simp only [DS.setFuse]; omega⟩⟩
    intro v hv
    rw [← hc7] at hv
    simp at hv
    rcases hv with rfl | rfl | rfl | rfl | rfl
    · exact st_sl
    · exact st_sl
    · exact st_bool
    · exact st_int
    · exact st_sl
  · have e : s.doOp n o = (s, 0) := by unfold DS.doOp; rw [if_neg k4, if_neg k5, if_neg k6, if_neg k7, if_pos k8]
    unfold b24j1
    exact ⟨fun _ => same (0, s) e, fun h => absurd (decide_eq_true k8) (by rw [h]; decide)⟩
  · unfold b24j1
    refine ⟨fun k9 => ?_, fun k9 => ?_⟩
    · have e : s.doOp n o = (s, 0) := by unfold DS.doOp; rw [if_neg k4, if_neg k5, if_neg k6, if_neg k7, if_neg k8, if_pos (of_decide_eq_true k9)]
      exact same (0, s) e
    · have k9' : ¬ Int.tmod o.kind 10 = 9 := fun h => by rw [decide_eq_true h] at k9; cases k9
      have e : s.doOp n o = s.write n o.at_ (opData o) := by unfold DS.doOp; rw [if_neg k4, if_neg k5, if_neg k6, if_neg k7, if_neg k8, if_neg k9']
      rw [e]
      refine ⟨cs, hsz, row_whole hc2, _, c1, o.cells.toArray, rfl, row_whole hc3, ?_⟩
      refine ((data_spec F o).upon hleF).mono ?_
      rintro v F5 ⟨G1, ⟨sl, rfl, _, _, hrd, hle5⟩, hG1, hkp⟩
      obtain ⟨h2, hn2⟩ := hkp b2 _ hb2 hc2
      obtain ⟨h3, hn3⟩ := hkp b3 _ hF3 hc3
      obtain ⟨h4, hn4⟩ := hkp b4 _ hF4 hc4
      refine ⟨sl, rfl, by rw [cell_eq h3]; rfl, row_whole h2, ?_⟩
      refine ((write_ref (h0.le hle5) (hrd.le (mns_le _ _)) hwl (by rw [opData_len]; have := opLen_le o; omega)).upon hG1).mono ?_
      rintro v F6 ⟨G2, ⟨cr, rfl, hle6, hr⟩, hG2, hkp2⟩
      obtain ⟨h46, hn46⟩ := hkp2 b4 _ hn4 h4
      have hG9 := le_set_new (o := .cells cr 48) hG2 hn46
      exact ⟨cr, _, rfl, ret5 (K := fun a H => ∃ cs', Value.tuple #[.agg a, .int .i64 (s.write n o.at_ (opData o)).2] = .tuple #[.agg cs', .int .i64 (s.write n o.at_ (opData o)).2] ∧ F.le H ∧ RRep H cs' n (s.write n o.at_ (opData o)).1) cr hr.size hr.stor h46 rfl ⟨cr, rfl, le_trans' hle5 (le_trans' hle6 hG9), hr.le hG9⟩⟩
end Go.Proofs.Ythnolhcknhhipaa
