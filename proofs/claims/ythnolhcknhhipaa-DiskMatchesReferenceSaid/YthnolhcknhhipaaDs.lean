/-
  The disk: the reference's burn, write, read.
-/
import Derived.Test.YthnolhcknhhipaaDr
namespace Go.Proofs.Ythnolhcknhhipaa
open Go Go.Proofs.Try

theorem le_set_new {F0 F : PH} {b : Nat} {o : Obj} (h : F0.le F) (hb : F0 b = none) : F0.le (F.set b o) := fun y o' hy => by
  rw [set_ne _ _ (fun e => by rw [e, hb] at hy; cases hy)]
  exact h _ _ hy
/-- A call that knows F only, in a heap that holds more. -/
theorem Spec.upon {P : Program} {f : FuncId} {args : Array Value} {F F2 : PH} {R : Value → PH → Prop} (h : Spec P f args F R) (hle : F.le F2) :
    Spec P f args F2 fun v F' => ∃ G, R v G ∧ G.le F' ∧ ∀ b o, F b = none → F2 b = some o → F' b = some o ∧ G b = none := by
  have e : F2 = F.and (fun b => if (F b).isNone then F2 b else none) := by
    funext b
    cases hf : F b with
    | some o => rw [PH.and_left hf]; exact hle b o hf
    | none => rw [PH.and_right hf]; simp [hf]
  have hb := h.beside (H := fun b => if (F b).isNone then F2 b else none) (fun b o hb => by
    cases hf : F b with
    | some o' => simp [hf] at hb
    | none => rfl)
  rw [← e] at hb
  refine hb.mono ?_
  rintro v F' ⟨G, hr, rfl, hd⟩
  refine ⟨G, hr, fun b o hb => PH.and_left hb, fun b o hb ho => ?_⟩
  have hH : (fun b => if (F b).isNone then F2 b else none) b = some o := by simp [hb, ho]
  have hG := hd b o hH
  exact ⟨(PH.and_right hG).trans hH, hG⟩
theorem burn_ref {F : PH} {cs : Array Value} {n : Nat} {s : DS} (h : RRep F cs n s) (hup : s.down = false) : Spec prog 38 #[.agg cs] F fun v F' => ∃ cs', v = .tuple #[.agg cs', .bool (decide (s.ready.2 ≠ 0))] ∧ F.le F' ∧ RRep F' cs' n s.ready.1 := by
  refine c38 ?_
  unfold b38
  intro b1 hb1
  refine atI ?_
  have hle1 := le_set_fresh (.cells cs 48) hb1
  have hc1 : (F.set b1 (.cells cs 48)) b1 = some (.cells cs 48 (0, 0)) := set_eq _ _ _
  generalize F.set b1 (.cells cs 48) = F1 at *
  intro b2 hb2
  refine atI ?_
  have hne : b2 ≠ b1 := fun e => by rw [e, hc1] at hb2; cases hb2
  have hF2 : F b2 = none := le_none hle1 hb2
  have hF1 : F b1 = none := hb1
  have hle2 := le_set_fresh (.cells zero48 48) hb2
  have hc2 : (F1.set b2 (.cells zero48 48)) b2 = some (.cells zero48 48 (0, 0)) := set_eq _ _ _
  replace hc1 := hle2 _ _ hc1
  have hleF := le_trans' hle1 hle2
  clear hle1 hle2
  show ∃ v_5 : Int, (F1.set b2 (.cells zero48 48)).cell _ = _ ∧ _
  generalize F1.set b2 (.cells zero48 48) = F2 at *
  have hsz := h.size
  have h0 := h
  obtain ⟨SL, PL, ssl, psl, ksl, hm⟩ := h
  have hok := hm.ok
  have hcs := hm.hc
  refine ⟨s.fuse, by rw [cell_eq hc1, hcs]; rfl, fun h1 => ?_, fun h1 => ?_⟩
  · have e : s.ready = (s.crash s.kept, 340) := by unfold DS.ready; rw [hup, if_neg (by decide), if_pos h1]
    rw [e]
    refine ⟨cs, hsz, row_whole hc1, ksl, by rw [cell_eq hc1, hcs]; rfl, ?_⟩
    refine ((crash_ref h0 hm.hk).upon hleF).mono ?_
    rintro v F3 ⟨G, ⟨cs', rfl, hle3, hr⟩, hG, hkp⟩
    obtain ⟨h2, hn2⟩ := hkp b2 _ hF2 hc2
    refine ⟨cs', rfl, ret5 (K := fun a G => ∃ cs', Value.tuple #[.agg a, .bool true] = .tuple #[.agg cs', .bool (decide ((340 : Int) ≠ 0))] ∧ F.le G ∧ RRep G cs' n (s.crash s.kept)) cs' hr.size hr.stor h2 rfl ?_⟩
    have hGs := le_set_new (o := .cells cs' 48) hG hn2
    exact ⟨cs', rfl, le_trans' hle3 hGs, hr.le hGs⟩
  · have e : s.ready = ({ s with fuse := max (s.fuse - 1) 0 }, 0) := by unfold DS.ready; rw [hup, if_neg (by decide), if_neg h1]
    rw [e]
    have hf0 := hok.fuse0
    have hf1 := hok.fuse1
    refine ⟨s.fuse, by rw [cell_eq hc1, hcs]; rfl, ?_⟩
    rw [w64_eq (x := s.fuse - 1) (by omega) (by omega)]
    refine st1 (b := b1) (o := 3) hc1 (by omega) ?_
    have hv : cs.setIfInBounds 3 (.int .i64 (max (s.fuse - 1) 0)) = #[ssl.v, psl.v, .bool s.down, .int .i64 (max (s.fuse - 1) 0), ksl.v] := by rw [hcs]; rfl
    rw [hv]
    refine ⟨_, rfl, row_whole (set_eq _ _ _), ret5 (K := fun a G => ∃ cs', Value.tuple #[.agg a, .bool false] = .tuple #[.agg cs', .bool (decide ((0 : Int) ≠ 0))] ∧ F.le G ∧ RRep G cs' n { s with fuse := max (s.fuse - 1) 0 }) _ rfl ?_ ((set_ne _ _ hne).trans hc2) rfl ?_⟩
    · intro v hv
      simp at hv
      rcases hv with rfl | rfl | rfl | rfl | rfl
      · exact st_sl
      · exact st_sl
      · exact st_bool
      · exact st_int
      · exact st_sl
    have hle9 := le_set_new (o := .cells #[ssl.v, psl.v, .bool s.down, .int .i64 (max (s.fuse - 1) 0), ksl.v] 48) (le_set_new (o := .cells #[ssl.v, psl.v, .bool s.down, .int .i64 (max (s.fuse - 1) 0), ksl.v] 48) hleF hF1) hF2
    have hm9 := hm.le hle9
    obtain ⟨o1, o2, o3, o4, o5, o6, o7⟩ := hok
    exact ⟨_, rfl, hle9, SL, PL, ssl, psl, ksl, rfl, hm9.hs, hm9.sl, hm9.sr, hm9.hp, hm9.pl, hm9.pr, hm9.hk, ⟨o1, o2, o3, by simp only; omega, by simp only; omega, o6, o7⟩, hm9.kb⟩

/-! Write -/
theorem write_ref {F : PH} {cs : Array Value} {n : Nat} {s : DS} {x : Sl} {l : List Int} {at_ : Int} (h : RRep F cs n s) (hx : RdS F x 1 (u8s l)) (hwl : s.ws.length < 1000) (hl7 : l.length ≤ 1000) :
    Spec prog 34 #[.agg cs, .int .i64 at_, x.v] F fun v F' => ∃ cs', v = .tuple #[.agg cs', .int .i64 (s.write n at_ l).2] ∧ F.le F' ∧ RRep F' cs' n (s.write n at_ l).1 := by
  refine c34 ?_
  unfold b34
  intro b3 hb3
  refine atI ?_
  have hle1 := le_set_fresh (.cells cs 48) hb3
  have hc3 : (F.set b3 (.cells cs 48)) b3 = some (.cells cs 48 (0, 0)) := set_eq _ _ _
  generalize F.set b3 (.cells cs 48) = F1 at *
  intro b6 hb6
  refine atI ?_
  have hF6 : F b6 = none := le_none hle1 hb6
  have hne : b6 ≠ b3 := fun e => by rw [e, hc3] at hb6; cases hb6
  have hle2 := le_set_fresh (.cells zero48 48) hb6
  have hc6 : (F1.set b6 (.cells zero48 48)) b6 = some (.cells zero48 48 (0, 0)) := set_eq _ _ _
  replace hc3 := hle2 _ _ hc3
  have hleF := le_trans' hle1 hle2
  clear hle1 hle2
  show (_ → b34j1 _ _ _ _ _ _ (F1.set b6 (.cells zero48 48))) ∧ (_ → ∃ v_15 : Sl, (F1.set b6 (.cells zero48 48)).cell _ = _ ∧ _)
  generalize F1.set b6 (.cells zero48 48) = F2 at *
  have hsz := h.size
  have hstor := h.stor
  have h0 := h
  obtain ⟨SL, PL, ssl, psl, ksl, hm⟩ := h
  have hok := hm.ok
  have hcs := hm.hc
  have hxl := hx.len
  simp at hxl
  have hsl := hm.hs.len
  simp [hm.sl] at hsl
  have key : ∀ bad : Bool, (bad = true ↔ (at_ < 0 ∨ (n : Int) ≤ at_ ∨ l.length ≠ 64)) → b34j1 at_ x b3 b6 bad (fun v F' => ∃ cs', v = .tuple #[.agg cs', .int .i64 (s.write n at_ l).2] ∧ F.le F' ∧ RRep F' cs' n (s.write n at_ l).1) F2 := by
    intro bad hbad
    unfold b34j1
    have hle6 := le_set_new (o := .cells cs 48) hleF hF6
    refine ⟨fun h1 => ?_, fun h1 => ?_⟩
    · have e : s.write n at_ l = (s, 1) := by unfold DS.write; rw [if_pos (hbad.1 h1)]
      rw [e]
      exact ⟨cs, hsz, row_whole hc3, ret5 (K := fun a G => ∃ cs', Value.tuple #[.agg a, .int .i64 1] = .tuple #[.agg cs', .int .i64 1] ∧ F.le G ∧ RRep G cs' n s) cs hsz hstor hc6 rfl ⟨cs, rfl, hle6, h0.le hle6⟩⟩
    · have hnb : ¬ (at_ < 0 ∨ (n : Int) ≤ at_ ∨ l.length ≠ 64) := fun hh => by rw [hbad.2 hh] at h1; cases h1
      refine ⟨s.down, by rw [cell_eq hc3, hcs]; rfl, fun hd => ?_, fun hup => ?_⟩
      · have hr : s.ready = (s, 340) := by unfold DS.ready; rw [if_pos hd]
        have e : s.write n at_ l = (s, 340) := by unfold DS.write; rw [if_neg hnb, hr]; simp
        rw [e]
        exact ⟨cs, hsz, row_whole hc3, ret5 (K := fun a G => ∃ cs', Value.tuple #[.agg a, .int .i64 340] = .tuple #[.agg cs', .int .i64 340] ∧ F.le G ∧ RRep G cs' n s) cs hsz hstor hc6 rfl ⟨cs, rfl, hle6, h0.le hle6⟩⟩
      · refine ⟨cs, hsz, row_whole hc3, ?_⟩
        refine ((burn_ref h0 hup).upon hleF).mono ?_
        rintro v F3 ⟨G, ⟨cr, rfl, hle3, hr⟩, hG, hkp⟩
        obtain ⟨h6, hn6⟩ := hkp b6 _ hF6 hc6
        obtain ⟨h3, hn3⟩ := hkp b3 _ (le_none (le_refl' F) (by
          cases hf : F b3 with
          | none => rfl
          | some o => exact absurd hf (by rw [hb3]; simp))) hc3
        refine ⟨cr, _, rfl, ?_⟩
        intro b8 hb8
        refine atI ?_
        refine stW (set_eq _ _ _) hr.size rfl hr.stor ?_
        rw [set_twice]
        have hn8 : G b8 = none := le_none hG hb8
        have hle8 := le_set_fresh (.cells cr 48) hb8
        have hc8 : (F3.set b8 (.cells cr 48)) b8 = some (.cells cr 48 (0, 0)) := set_eq _ _ _
        have h68 : b6 ≠ b8 := fun e => by rw [← e, h6] at hb8; cases hb8
        replace hG := le_trans' hG hle8
        replace h6 := hle8 _ _ h6
        replace h3 := hle8 _ _ h3
        generalize F3.set b8 (.cells cr 48) = F4 at *
        have hws := s.ready_ws
        refine ⟨fun hb => ?_, fun hb => ?_⟩
        · have hne0 : s.ready.2 ≠ 0 := of_decide_eq_true hb
          have h340 : s.ready.2 = 340 := by
            unfold DS.ready at hne0 ⊢
            split at hne0
            · rename_i hd; rw [if_pos hd]
            · rename_i hd
              rw [if_neg hd]
              split at hne0
              · rename_i hf; rw [if_pos hf]
              · exact absurd rfl hne0
          have e : s.write n at_ l = (s.ready.1, 340) := by
            unfold DS.write; rw [if_neg hnb, if_pos hne0, ← h340]
          rw [e]
          have hG9 := le_set_new (o := .cells cr 48) hG hn6
          exact ⟨cr, hr.size, row_whole hc8, ret5 (K := fun a G => ∃ cs', Value.tuple #[.agg a, .int .i64 340] = .tuple #[.agg cs', .int .i64 340] ∧ F.le G ∧ RRep G cs' n s.ready.1) cr hr.size hr.stor h6 rfl ⟨cr, rfl, le_trans' hle3 hG9, hr.le hG9⟩⟩
        · have he0 : s.ready.2 = 0 := Classical.byContradiction fun hne0 => by rw [decide_eq_true hne0] at hb; cases hb
          have e : s.write n at_ l = ({ s.ready.1 with ws := s.ready.1.ws ++ [(at_, l)] }, 0) := by
            unfold DS.write; rw [if_neg hnb, if_neg (by rw [he0]; simp)]
          have e1 : s.ready.1 = { s with fuse := max (s.fuse - 1) 0 } := by
            unfold DS.ready at he0 ⊢
            rw [hup] at he0 ⊢
            rw [if_neg (by decide)] at he0 ⊢
            split at he0
            · simp at he0
            · rename_i hf; rw [if_neg hf]
          rw [e]
          rw [e1] at hr ⊢
          obtain ⟨SL2, PL2, ssl2, psl2, ksl2, hm2⟩ := hr
          intro b35 hb35
          refine atI ?_
          have hle35 := le_set_fresh (.cells #[] 72) hb35
          refine ⟨psl, by rw [cell_eq (hle35 _ _ h3), hcs]; rfl, ?_⟩
          have hpl6 : ∀ l : List (Int × Sl), (l.flatMap pcell).length = l.length * 2 := by
            intro l
            induction l with
            | nil => rfl
            | cons a l ih => rw [List.flatMap_cons, List.length_append, ih]; simp [pcell]; omega
          have hplen : psl.len = s.ws.length := by
            have h7 := hm.hp.len
            rw [hpl6, hm.pl] at h7
            omega
          have hstp : ∀ v ∈ PL.flatMap pcell, storable v := by
            intro v hv
            obtain ⟨p, _, hp⟩ := List.mem_flatMap.1 hv
            simp [pcell] at hp
            rcases hp with rfl | rfl
            · exact st_int
            · exact st_sl
          have hFG : F.le F4 := le_trans' hle3 hG
          refine clone_gen underlying46 sz72 zr72 rfl hb35 (hm.hp.le hFG) hstp (by omega) (by omega) ?_
          intro p1 F5 hle5 hown5 hlen5 hnew5
          refine ⟨p1, rfl, ?_⟩
          intro b40 hb40
          refine atI ?_
          refine clone_gen underlying26 sz5 zr5 rfl hb40 ((hx.le hFG).le hle5) st_u8s (by omega) (by omega) ?_
          intro d1 F6' hle6' hown6 hlen6 hnew6
          refine ⟨d1, rfl, rfl, ?_⟩
          intro b44 hb44
          refine atI ?_
          have hle44 := le_set_fresh (.cells #[Value.int .i64 at_, d1.v] 72) hb44
          have hone : RdS (F6'.set b44 (.cells #[Value.int .i64 at_, d1.v] 72)) ⟨some ⟨b44, 0, none⟩, 1, 1⟩ 2 [.int .i64 at_, d1.v] := RdS.new (set_eq _ _ _) (by simp) (by simp) (Nat.le_refl _)
          have hle7 := le_trans' hle6' hle44
          have hown7 := hown5.keepK (G := F6'.set b44 (.cells #[Value.int .i64 at_, d1.v] 72)) (fp := fun _ => False) (Keep.of_le hle7) (fun _ _ h => h)
          have hown8 := hown6.keepK (G := F6'.set b44 (.cells #[Value.int .i64 at_, d1.v] 72)) (fp := fun _ => False) (Keep.of_le hle44) (fun _ _ h => h)
          have hdp : ∀ a, p1.base = some a → ∀ a', d1.base = some a' → a'.block ≠ a.block := fun a ha a' ha' e => by
            have h9 := hnew6 a' ha'
            rcases hown5 with ⟨e1, _⟩ | ⟨g', cur, k1, k2, _⟩
            · rw [e1] at ha; cases ha
            · rw [ha] at k1; cases k1
              have e' : a'.block = g' := e
              rw [e', k2] at h9; cases h9
          have hc8b := hle44 _ _ (hle6' _ _ (hle5 _ _ hc8))
          have hc6b := hle44 _ _ (hle6' _ _ (hle5 _ _ h6))
          have hFall := le_trans' hFG (le_trans' hle5 hle7)
          have hGall := le_trans' hG (le_trans' hle5 hle7)
          generalize F6'.set b44 (.cells #[Value.int .i64 at_, d1.v] 72) = F7 at *
          refine own_app (F0 := F4) underlying46 sz72 zr72 rfl (by decide) (le_trans' hle5 hle7) hown7 hnew5 hone (by
            intro v hv
            simp at hv
            rcases hv with rfl | rfl
            · exact st_int
            · exact st_sl) (by simp only; omega) (by simp only; omega) ?_
          intro p2 F8 hle8' hown9 hlen9 hnew9 hkeep9 hb9
          have hb8p : ∀ a, p1.base = some a → a.block ≠ b8 ∧ a.block ≠ b6 := fun a ha => by
            have h9 := hnew5 a ha
            exact ⟨fun e => (by rw [e, hc8] at h9; cases h9), fun e => (by rw [e, h6] at h9; cases h9)⟩
          have hc8c := hkeep9 _ _ hc8b (fun ⟨a, ha, e⟩ => (hb8p a ha).1 e)
          have hc6c := hkeep9 _ _ hc6b (fun ⟨a, ha, e⟩ => (hb8p a ha).2 e)
          refine ⟨p2, rfl, ?_⟩
          refine st1 (b := b8) (o := 1) hc8c (by rw [hm2.hc]; simp) ?_
          have hv : cr.setIfInBounds 1 p2.v = #[ssl2.v, p2.v, .bool s.down, .int .i64 (max (s.fuse - 1) 0), ksl2.v] := by rw [hm2.hc]; rfl
          rw [hv]
          refine ⟨_, rfl, row_whole (set_eq _ _ _), ret5 (K := fun a G => ∃ cs', Value.tuple #[.agg a, .int .i64 0] = .tuple #[.agg cs', .int .i64 0] ∧ F.le G ∧ RRep G cs' n { s with fuse := max (s.fuse - 1) 0, ws := s.ws ++ [(at_, l)] }) _ rfl ?_ ((set_ne _ _ h68).trans hc6c) rfl ?_⟩
          · intro v hv
            simp at hv
            rcases hv with rfl | rfl | rfl | rfl | rfl
            · exact st_sl
            · exact st_sl
            · exact st_bool
            · exact st_int
            · exact st_sl
          generalize hcs9 : (#[ssl2.v, p2.v, .bool s.down, .int .i64 (max (s.fuse - 1) 0), ksl2.v] : Array Value) = cs9
          have hGH := le_set_new (o := .cells cs9 48) (le_set_new (o := .cells cs9 48) (le_trans' hG hle8') hn8) hn6
          have hFH := le_trans' hle3 hGH
          have hm3 := hm2.le hGH
          have hm4 := hm.le hFH
          have h48 : ∀ b, F4 b = none → b ≠ b8 ∧ b ≠ b6 := fun b hb => ⟨fun e => (by rw [e, hc8] at hb; cases hb), fun e => (by rw [e, h6] at hb; cases hb)⟩
          have hp2 : OwnS ((F8.set b8 (.cells cs9 48)).set b6 (.cells cs9 48)) 72 2 p2 (PL.flatMap pcell ++ [.int .i64 at_, d1.v]) := hown9.keep (fun a ha => by
            obtain ⟨n1, n2⟩ := h48 _ (hnew9 a ha)
            rw [set_ne _ _ n2, set_ne _ _ n1])
          have hd2 : OwnS ((F8.set b8 (.cells cs9 48)).set b6 (.cells cs9 48)) 5 1 d1 (u8s l) := (hown8.keepK hkeep9 (fun a' ha' ⟨a, ha, e⟩ => hdp a ha a' ha' e.symm)).keep (fun a ha => by
            obtain ⟨n1, n2⟩ := h48 _ (le_none hle5 (hnew6 a ha))
            rw [set_ne _ _ n2, set_ne _ _ n1])
          have hplF : (PL ++ [(at_, d1)]).flatMap pcell = PL.flatMap pcell ++ [.int .i64 at_, d1.v] := by simp [pcell]
          obtain ⟨o1, o2, o3, o4, o5, o6, o7⟩ := hok
          refine ⟨_, rfl, hFH, SL2, PL ++ [(at_, d1)], ssl2, p2, ksl2, hcs9.symm, hm3.hs, hm3.sl, hm3.sr, by rw [hplF]; exact hp2.rd, by simp [hm.pl], fun k x hx => ?_, hm3.hk, ⟨o1, o2, o3, by simp only; omega, by simp only; omega, fun w hw => ?_, by simp; omega⟩, hm.kb⟩
          · by_cases hk : k < PL.length
            · rw [List.getElem?_append_left hk] at hx
              obtain ⟨w, w1, w2, w3⟩ := hm4.pr k x hx
              exact ⟨w, by rw [List.getElem?_append_left (by rw [← hm.pl]; exact hk)]; exact w1, w2, w3⟩
            · rw [List.getElem?_append_right (by omega)] at hx
              have hk0 : k - PL.length = 0 := by
                have := (List.getElem?_eq_some_iff.1 hx).1
                simp at this; omega
              rw [hk0] at hx
              cases hx
              refine ⟨(at_, l), ?_, rfl, hd2.rd⟩
              rw [List.getElem?_append_right (by rw [← hm.pl]; omega), ← hm.pl, hk0]
              rfl
          · rcases List.mem_append.1 hw with hw | hw
            · exact o6 w hw
            · rw [List.mem_singleton] at hw
              subst hw
              show 0 ≤ at_ ∧ at_ < n ∧ l.length = 64
              exact ⟨by omega, by omega, by omega⟩
  refine ⟨fun h1 => key true ⟨fun _ => .inl h1, fun _ => rfl⟩, fun h1 => ⟨ssl, by rw [cell_eq hc3, hcs]; rfl, fun h2 => key true ⟨fun _ => .inr (.inl (by omega)), fun _ => rfl⟩, fun h2 => key _ ⟨fun h3 => .inr (.inr ?_), fun h3 => ?_⟩⟩⟩
  · have := of_decide_eq_true h3
    omega
  · apply decide_eq_true
    omega
end Go.Proofs.Ythnolhcknhhipaa
