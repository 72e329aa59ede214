/-
  The disk: the reference's flush.
-/
import Derived.Test.YthnolhcknhhipaaDt
namespace Go.Proofs.Ythnolhcknhhipaa
open Go Go.Proofs.Try

theorem ready_cases {s : DS} (hup : s.down = false) : (s.ready.2 ≠ 0 → s.ready.2 = 340) ∧ (s.ready.2 = 0 → s.ready.1 = { s with fuse := max (s.fuse - 1) 0 }) := by
  unfold DS.ready
  rw [hup, if_neg (by decide)]
  by_cases h : s.fuse = 1
  · rw [if_pos h]; exact ⟨fun _ => rfl, fun h => by simp at h⟩
  · rw [if_neg h]; exact ⟨fun h => absurd rfl h, fun _ => by simp [hup]⟩
theorem sec_flN_succ {ws : List (Int × List Int)} {dur : List Int} {n k a : Nat} {w : Int × List Int} (hws : ∀ w ∈ ws, 0 ≤ w.1 ∧ w.1 < n ∧ w.2.length = 64) (hd : dur.length = n * 64) (hk : ws[k]? = some w) :
    sec (flN ws dur (k + 1)) a = if w.1.toNat = a then w.2 else sec (flN ws dur k) a := by
  have hm := hws w (List.mem_of_getElem? hk)
  simp only [flN, hk]
  exact sec_ovr (flN_len hws hd k) hm.2.2 (by omega)
def gr (g : Sl) (b2 b4 : Nat) : Nat → Prop := fun b => b = b2 ∨ b = b4 ∨ ∃ a, g.base = some a ∧ a.block = b
theorem flush_ref {F : PH} {cs : Array Value} {n : Nat} {s : DS} (h : RRep F cs n s) : Spec prog 32 #[.agg cs] F fun v F' => ∃ cs', v = .tuple #[.agg cs', .int .i64 s.flush.2] ∧ F.le F' ∧ RRep F' cs' n s.flush.1 := by
  refine c32 ?_
  unfold b32
  intro b1 hb1
  refine atI ?_
  have hle1 := le_set_fresh (.cells cs 48) hb1
  have hc1 : (F.set b1 (.cells cs 48)) b1 = some (.cells cs 48 (0, 0)) := set_eq _ _ _
  generalize F.set b1 (.cells cs 48) = F1 at *
  intro b2 hb2
  refine atI ?_
  have hne : b2 ≠ b1 := fun e => by rw [e, hc1] at hb2; cases hb2
  have hF2 : F b2 = none := le_none hle1 hb2
  have hle2 := le_set_fresh (.cells zero48 48) hb2
  have hc2 : (F1.set b2 (.cells zero48 48)) b2 = some (.cells zero48 48 (0, 0)) := set_eq _ _ _
  replace hc1 := hle2 _ _ hc1
  have hleF := le_trans' hle1 hle2
  clear hle1 hle2
  show ∃ v_8 : Bool, (F1.set b2 (.cells zero48 48)).cell _ = _ ∧ _
  generalize F1.set b2 (.cells zero48 48) = F2 at *
  have hsz := h.size
  have hstor := h.stor
  have h0 := h
  obtain ⟨SL, PL, ssl, psl, ksl, hm⟩ := h
  have hok := hm.ok
  have hcs := hm.hc
  have hn1 := hok.n1
  have hn2 := hok.n2
  refine ⟨s.down, by rw [cell_eq hc1, hcs]; rfl, fun hd => ?_, fun hup => ?_⟩
  · have hr : s.ready = (s, 340) := by unfold DS.ready; rw [if_pos hd]
    have e : s.flush = (s, 340) := by unfold DS.flush; rw [hr]; simp
    rw [e]
    have hle6 := le_set_new (o := .cells cs 48) hleF hF2
    exact ⟨cs, hsz, row_whole hc1, ret5 (K := fun a G => ∃ cs', Value.tuple #[.agg a, .int .i64 340] = .tuple #[.agg cs', .int .i64 340] ∧ F.le G ∧ RRep G cs' n s) cs hsz hstor hc2 rfl ⟨cs, rfl, hle6, h0.le hle6⟩⟩
  obtain ⟨q1, q2⟩ := ready_cases hup
  refine ⟨cs, hsz, row_whole hc1, ?_⟩
  refine ((burn_ref h0 hup).upon hleF).mono ?_
  rintro v F3 ⟨G, ⟨cr, rfl, hle3, hr⟩, hG, hkp⟩
  obtain ⟨h2, hn2G⟩ := hkp b2 _ hF2 hc2
  obtain ⟨h1, hn1G⟩ := hkp b1 _ hb1 hc1
  refine ⟨cr, _, rfl, ?_⟩
  intro b4 hb4
  refine atI ?_
  refine stW (set_eq _ _ _) hr.size rfl hr.stor ?_
  rw [set_twice]
  have hn4 : G b4 = none := le_none hG hb4
  have hle4 := le_set_fresh (.cells cr 48) hb4
  have hc4 : (F3.set b4 (.cells cr 48)) b4 = some (.cells cr 48 (0, 0)) := set_eq _ _ _
  have h24 : b2 ≠ b4 := fun e => by rw [← e, h2] at hb4; cases hb4
  have h14 : b1 ≠ b4 := fun e => by rw [← e, h1] at hb4; cases hb4
  replace hG := le_trans' hG hle4
  replace h2 := hle4 _ _ h2
  replace h1 := hle4 _ _ h1
  clear hb4 hle4
  generalize F3.set b4 (.cells cr 48) = F4 at *
  refine ⟨fun hb => ?_, fun hb => ?_⟩
  · have hne0 : s.ready.2 ≠ 0 := of_decide_eq_true hb
    have e : s.flush = (s.ready.1, 340) := by
      unfold DS.flush; rw [if_pos hne0, ← q1 hne0]
    rw [e]
    have hG9 := le_set_new (o := .cells cr 48) hG hn2G
    exact ⟨cr, hr.size, row_whole hc4, ret5 (K := fun a G => ∃ cs', Value.tuple #[.agg a, .int .i64 340] = .tuple #[.agg cs', .int .i64 340] ∧ F.le G ∧ RRep G cs' n s.ready.1) cr hr.size hr.stor h2 rfl ⟨cr, rfl, le_trans' hle3 hG9, hr.le hG9⟩⟩
  have he0 : s.ready.2 = 0 := Classical.byContradiction fun hne0 => by rw [decide_eq_true hne0] at hb; cases hb
  have e1 := q2 he0
  have e : s.flush = ({ s with fuse := max (s.fuse - 1) 0, dur := flN s.ws s.dur s.ws.length, ws := [] }, 0) := by
    unfold DS.flush; rw [if_neg (by rw [he0]; simp), e1]
  rw [e]
  rw [e1] at hr
  obtain ⟨SL2, PL2, ssl2, psl2, ksl2, hm2⟩ := hr
  have hFG : F.le F4 := le_trans' hle3 hG
  have hsl := hm.slen
  have hpl := hm.plen
  have hwl := hok.wl
  intro b17 hb17
  refine atI ?_
  have hle17 := le_set_fresh (.cells #[] 26) hb17
  refine ⟨ssl, by rw [cell_eq (hle17 _ _ h1), hcs]; rfl, ?_⟩
  refine clone_gen underlying45 sz26 zr26 rfl hb17 (hm.hs.le hFG) st_sls (by omega) (by omega) ?_
  intro g F5 hle5 hown5 hglen hgnew
  have hg2 : ∀ a, g.base = some a → a.block ≠ b1 ∧ a.block ≠ b2 ∧ a.block ≠ b4 ∧ F a.block = none ∧ G a.block = none := fun a ha => by
    have h5 := hgnew a ha
    exact ⟨fun e => (by rw [e, h1] at h5; cases h5), fun e => (by rw [e, h2] at h5; cases h5), fun e => (by rw [e, hc4] at h5; cases h5), le_none hFG h5, le_none hG h5⟩
  refine ⟨g, rfl, ?_⟩
  refine st1 (b := b4) (o := 0) (hle5 _ _ hc4) (by rw [hm2.hc]; simp) ?_
  have hv : cr.setIfInBounds 0 g.v = #[g.v, psl2.v, .bool s.down, .int .i64 (max (s.fuse - 1) 0), ksl2.v] := by rw [hm2.hc]; rfl
  rw [hv]
  obtain ⟨c6, hc6⟩ : ∃ c6, c6 = (#[g.v, psl2.v, .bool s.down, .int .i64 (max (s.fuse - 1) 0), ksl2.v] : Array Value) := ⟨_, rfl⟩
  rw [← hc6]
  have hgl : g.len = n := by rw [hglen]; omega
  have inv0 : F.le (F5.set b4 (.cells c6 48)) ∧ G.le (F5.set b4 (.cells c6 48)) ∧ (F5.set b4 (.cells c6 48)) b1 = some (.cells cs 48 (0, 0)) ∧ (F5.set b4 (.cells c6 48)) b2 = some (.cells zero48 48 (0, 0)) ∧ (F5.set b4 (.cells c6 48)) b4 = some (.cells c6 48 (0, 0)) := by
    refine ⟨le_set_new (le_trans' hFG hle5) (le_none hle3 hn4), le_set_new (le_trans' hG hle5) hn4, by rw [set_ne _ _ h14]; exact hle5 _ _ h1, by rw [set_ne _ _ h24]; exact hle5 _ _ h2, set_eq _ _ _⟩
  have hown6 : OwnS (F5.set b4 (.cells c6 48)) 26 1 g (SL.map Sl.v) := hown5.keep (fun a ha => set_ne _ _ (hg2 a ha).2.2.1)
  have hmn0 : ∀ (H : PH), F.le H → (∀ b o, F b = some o → mns H (gr g b2 b4) b = some o) := fun H hH b o hb => by
    rw [mns_of]
    · exact hH b o hb
    · rintro (rfl | rfl | ⟨a, ha, e⟩)
      · rw [hF2] at hb; cases hb
      · rw [le_none hle3 hn4] at hb; cases hb
      · rw [← e, (hg2 a ha).2.2.2.1] at hb; cases hb
  generalize F5.set b4 (.cells c6 48) = F6 at *
  obtain ⟨i1, i2, i3, i4, i5⟩ := inv0
  refine ⟨fun m i F' => ∃ (k : Nat) (SL' : List Sl), i = k ∧ k ≤ s.ws.length ∧ m = s.ws.length - k ∧ F.le F' ∧ G.le F' ∧ F' b1 = some (.cells cs 48 (0, 0)) ∧ F' b2 = some (.cells zero48 48 (0, 0)) ∧ F' b4 = some (.cells c6 48 (0, 0)) ∧
      OwnS F' 26 1 g (SL'.map Sl.v) ∧ SL'.length = n ∧ ∀ (i : Nat) (x : Sl), SL'[i]? = some x → RdS (mns F' (gr g b2 b4)) x 1 (u8s (sec (flN s.ws s.dur k) i)),
    s.ws.length, ⟨0, SL, rfl, by omega, rfl, i1, i2, i3, i4, i5, hown6, hm.sl, fun i x hx => (hm.sr i x hx).le (hmn0 F6 i1)⟩, ?_⟩
  clear hown6 i1 i2 i3 i4 i5 hown5 hle5 hb17 hle17 hc4 h2 h1 hc1 hc2
  rintro m i F' ⟨k, SL', rfl, hk, rfl, hle, hGl, h1, h2, h4, hown, hSL, hsr⟩
  unfold b32L1
  refine ⟨psl, by rw [cell_eq h1, hcs]; rfl, fun hlt => ?_, fun hge => ?_⟩
  · have hk2 : k < s.ws.length := by omega
    obtain ⟨pb, po, w, d, hpb, hw, hca, hcd, hwr⟩ := hm.pend hk2
    have hwm := hok.ws w (List.mem_of_getElem? hw)
    obtain ⟨t, ht, htn⟩ : ∃ t : Nat, w.1 = t ∧ t < n := ⟨w.1.toNat, by omega, by omega⟩
    rcases hown with ⟨e9, _⟩ | ⟨gb, cur, g1, g2, g3, g4, g5, g6⟩
    · rw [e9] at hgl; simp [Sl.nil] at hgl; omega
    obtain ⟨n1, n2, n4, nF, nG⟩ := hg2 _ g1
    refine ⟨g, by rw [cell_eq h4, hc6]; rfl, psl, by rw [cell_eq h1, hcs]; rfl, _, hpb, by omega, by omega, w.1, le_cell hle hca, psl, by rw [cell_eq h1, hcs]; rfl, _, hpb, by omega, by omega, d, le_cell hle hcd, _, g1, by omega, by omega, ?_⟩
    refine st1' (b := gb) (o := t) (by rw [ht]; simp) g2 (by omega) ?_
    refine ⟨s.ws.length - (k + 1), by omega, k + 1, SL'.set t d, w64s (by omega), by omega, rfl, le_set_new hle nF, le_set_new hGl nG, ?_, ?_, ?_, ?_, by simpa using hSL, fun i x hx2 => ?_⟩
    · rw [set_ne _ _ (Ne.symm n1)]; exact h1
    · rw [set_ne _ _ (Ne.symm n2)]; exact h2
    · rw [set_ne _ _ (Ne.symm n4)]; exact h4
    · rw [List.map_set]
      exact OwnS.upd g1 g2 g3 g4 g5 g6
    · have hmn : ∀ (b : Nat) (o : Obj), mns F' (gr g b2 b4) b = some o → mns (F'.set gb (.cells (cur.setIfInBounds t d.v) 26)) (gr g b2 b4) b = some o := fun b o hb => by
        by_cases hp : gr g b2 b4 b
        · simp [mns, hp] at hb
        · rw [mns_of hp] at hb ⊢
          rw [set_ne _ _ (fun e => hp (.inr (.inr ⟨_, g1, by rw [e]⟩)))]
          exact hb
      rw [sec_flN_succ hok.ws hok.dur hw]
      by_cases hti : t = i
      · subst hti
        rw [List.getElem?_set_self (by omega)] at hx2
        cases hx2
        rw [if_pos (by omega)]
        exact (hwr.le (hmn0 F' hle)).le hmn
      · rw [List.getElem?_set_ne hti] at hx2
        rw [if_neg (by omega)]
        exact (hsr i x hx2).le hmn
  · obtain rfl : k = s.ws.length := by omega
    unfold b32j1
    refine st1 (b := b4) (o := 1) h4 (by rw [hc6]; simp) ?_
    have hv2 : c6.setIfInBounds 1 (Sl.v Sl.nil) = #[g.v, Sl.v Sl.nil, .bool s.down, .int .i64 (max (s.fuse - 1) 0), ksl2.v] := by rw [hc6]; rfl
    rw [hv2]
    obtain ⟨c7, hc7⟩ : ∃ c7, c7 = (#[g.v, Sl.v Sl.nil, .bool s.down, .int .i64 (max (s.fuse - 1) 0), ksl2.v] : Array Value) := ⟨_, rfl⟩
    rw [← hc7]
    refine ⟨c7, by rw [hc7]; rfl, row_whole (set_eq _ _ _), ret5 (K := fun a H => ∃ cs', Value.tuple #[.agg a, .int .i64 0] = .tuple #[.agg cs', .int .i64 0] ∧ F.le H ∧ RRep H cs' n { s with fuse := max (s.fuse - 1) 0, dur := flN s.ws s.dur s.ws.length, ws := [] }) c7 (by rw [hc7]; rfl) ?_ ((set_ne _ _ h24).trans h2) rfl ?_⟩
    · intro v hv
      rw [hc7] at hv
      simp at hv
      rcases hv with rfl | rfl | rfl | rfl | rfl
      · exact st_sl
      · exact st_sl
      · exact st_bool
      · exact st_int
      · exact st_sl
    have hGH := le_set_new (o := .cells c7 48) (le_set_new (o := .cells c7 48) hGl hn4) hn2G
    have hFH := le_trans' hle3 hGH
    have hmH : ∀ (b : Nat) (o : Obj), mns F' (gr g b2 b4) b = some o → ((F'.set b4 (.cells c7 48)).set b2 (.cells c7 48)) b = some o := fun b o hb => by
      by_cases hp : gr g b2 b4 b
      · simp [mns, hp] at hb
      · rw [mns_of hp] at hb
        rw [set_ne _ _ (fun e => hp (.inl e)), set_ne _ _ (fun e => hp (.inr (.inl e)))]
        exact hb
    have hownH : OwnS ((F'.set b4 (.cells c7 48)).set b2 (.cells c7 48)) 26 1 g (SL'.map Sl.v) := hown.keep (fun a ha => by
      obtain ⟨_, n2, n4, _, _⟩ := hg2 a ha
      rw [set_ne _ _ n2, set_ne _ _ n4])
    have hm3 := hm2.le hGH
    obtain ⟨o1, o2, o3, o4, o5, o6, o7⟩ := hok
    exact ⟨c7, rfl, hFH, SL', [], g, Sl.nil, ksl2, hc7, hownH.rd, hSL, fun i x hx => (hsr i x hx).le hmH, RdS.nil _ _, rfl, fun k x hx => (by simp at hx), hm3.hk,
      ⟨hn1, hn2, flN_len o6 o3 _, by simp only; omega, by simp only; omega, by simp, by simp⟩, hm.kb⟩
end Go.Proofs.Ythnolhcknhhipaa
