/-
  The disk: the reference's crash.
-/
import Derived.Test.YthnolhcknhhipaaDq
namespace Go.Proofs.Ythnolhcknhhipaa
open Go Go.Proofs.Try

theorem sec_part {dur l : List Int} {w a n : Nat} (hd : dur.length = n * 64) (hl : l.length ≤ 64) (hw : w < n) : sec (ovr dur (w * 64) l) a = if w = a then l ++ (sec dur a).drop l.length else sec dur a := by
  apply List.ext_getElem?
  intro i
  by_cases hi : i < 64
  · rw [sec_get hi, ovr_get (by omega)]
    by_cases h : w = a
    · subst h
      rw [if_pos rfl]
      by_cases h2 : i < l.length
      · rw [if_pos (by omega), List.getElem?_append_left h2, show w * 64 + i - w * 64 = i by omega]
      · rw [if_neg (by omega), List.getElem?_append_right (by omega), List.getElem?_drop, show l.length + (i - l.length) = i by omega, sec_get hi]
    · rw [if_neg h, if_neg (by omega), sec_get hi]
  · have e : ∀ x : List Int, x.length ≤ 64 → x[i]? = none := fun x hx => List.getElem?_eq_none (by omega)
    have hs : ∀ d : List Int, (sec d a).length ≤ 64 := fun d => by simp [sec]; omega
    rw [e _ (hs _)]
    by_cases h : w = a
    · rw [if_pos h, e _ (by have := hs dur; simp; omega)]
    · rw [if_neg h, e _ (hs _)]
/-- What the first k bytes of write number i are, by the kept list. -/
def keepN (kl : List Int) (i : Nat) : Nat := match kl[i]? with | some q => (min (max q 0) 64).toNat | none => 0
theorem keepN_le (kl : List Int) (i : Nat) : keepN kl i ≤ 64 := by unfold keepN; split <;> omega
theorem sec_crN {ws : List (Int × List Int)} {kl dur : List Int} {n k a : Nat} {w : Int × List Int} (hws : ∀ w ∈ ws, 0 ≤ w.1 ∧ w.1 < n ∧ w.2.length = 64) (hd : dur.length = n * 64) (hk : ws[k]? = some w) :
    sec (crN ws kl dur (k + 1)) a = if w.1.toNat = a then w.2.take (keepN kl k) ++ (sec (crN ws kl dur k) a).drop (keepN kl k) else sec (crN ws kl dur k) a := by
  have hm := hws w (List.mem_of_getElem? hk)
  have hl := crN_len (kept := kl) hws hd k
  simp only [crN, hk, crStep, keepN]
  cases hq : kl[k]? with
  | none => simp
  | some q =>
    simp only
    have hlt : (w.2.take (min (max q 0) 64).toNat).length = (min (max q 0) 64).toNat := by simp [hm.2.2]; omega
    rw [sec_part hl (by omega) (by omega), hlt]

theorem pcells_at : ∀ {PL : List (Int × Sl)} {k : Nat}, (hk : k < PL.length) → ((PL.flatMap pcell).drop (k * 2)).take 2 = pcell PL[k] := by
  intro PL
  induction PL with
  | nil => intro k hk; simp at hk
  | cons p PL ih =>
    intro k hk
    cases k with
    | zero => rfl
    | succ k =>
      rw [List.flatMap_cons, show (k + 1) * 2 = k * 2 + 1 + 1 by omega]
      simp only [pcell, List.cons_append, List.nil_append, List.drop_succ_cons, List.getElem_cons_succ]
      exact ih (by simpa using hk)
theorem OwnS.upd {F : PH} {e g : Nat} {s : Sl} {vs : List Value} {cur : Array Value} {i : Nat} {v : Value} (h1 : s.base = some ⟨g, 0, none⟩) (h2 : F g = some (.cells cur e (0, 0))) (h3 : cur.size = s.cap * 1) (h4 : s.len ≤ s.cap) (h5 : vs.length = s.len * 1) (h6 : cur.toList.take (s.len * 1) = vs) :
    OwnS (F.set g (.cells (cur.setIfInBounds i v) e)) e 1 s (vs.set i v) := by
  refine .inr ⟨g, _, h1, set_eq _ _ _, by simpa using h3, h4, by simpa using h5, ?_⟩
  rw [← h6, Array.toList_setIfInBounds, List.take_set]

abbrev zero48 : Array Value := #[Value.slice none 0 0, Value.slice none 0 0, Value.bool false, Value.int .i64 0, Value.slice none 0 0]
def gq (g : Sl) (b4 : Nat) : Nat → Prop := fun b => b = b4 ∨ ∃ a, g.base = some a ∧ a.block = b
theorem crash_ref {F : PH} {cs : Array Value} {n : Nat} {s : DS} {kept : Sl} {kl : List Int} (h : RRep F cs n s) (hkr : RdS F kept 1 (i64s kl)) : Spec prog 33 #[.agg cs, kept.v] F fun v F' => ∃ cs', v = .agg cs' ∧ F.le F' ∧ RRep F' cs' n (s.crash kl) := by
  refine c33 ?_
  unfold b33
  intro b2 hb2
  refine atI ?_
  have hle1 := le_set_fresh (.cells cs 48) hb2
  have hc2 : (F.set b2 (.cells cs 48)) b2 = some (.cells cs 48 (0, 0)) := set_eq _ _ _
  generalize F.set b2 (.cells cs 48) = F1 at *
  intro b4 hb4
  refine atI ?_
  have hF4 : F b4 = none := le_none hle1 hb4
  have hle2 := le_set_fresh (.cells zero48 48) hb4
  have hc4 : (F1.set b4 (.cells zero48 48)) b4 = some (.cells zero48 48 (0, 0)) := set_eq _ _ _
  replace hc2 := hle2 _ _ hc2
  have hleF := le_trans' hle1 hle2
  clear hle1 hle2
  show ∃ v_10 : Bool, (F1.set b4 (.cells zero48 48)).cell _ = _ ∧ _
  generalize F1.set b4 (.cells zero48 48) = F2 at *
  have hsz := h.size
  have hstor := h.stor
  have h0 := h
  obtain ⟨SL, PL, ssl, psl, ksl, hm⟩ := h
  have hok := hm.ok
  have hcs := hm.hc
  have hn2 := hok.n2
  have hn1 := hok.n1
  refine ⟨s.down, by rw [cell_eq hc2, hcs]; rfl, fun hdn => ?_, fun hup => ?_⟩
  · have e : s.crash kl = s := by unfold DS.crash; rw [if_pos hdn]
    rw [e]
    refine ⟨cs, hsz, row_whole hc2, ret5 (K := fun a G => ∃ cs', Value.agg a = .agg cs' ∧ F.le G ∧ RRep G cs' n s) cs hsz hstor hc4 rfl ?_⟩
    have hle3 : F.le (F2.set b4 (.cells cs 48)) := fun y o hy => by
      rw [set_ne _ _ (fun e => by rw [e, hF4] at hy; cases hy)]
      exact hleF _ _ hy
    exact ⟨cs, rfl, hle3, h0.le hle3⟩
  · have hlen := hm.hs.len
    simp [hm.sl] at hlen
    intro b12 hb12
    refine atI ?_
    have hle12 := le_set_fresh (.cells #[] 26) hb12
    refine ⟨ssl, by rw [cell_eq (hle12 _ _ hc2), hcs]; rfl, ?_⟩
    refine clone_gen underlying45 sz26 zr26 rfl hb12 (hm.hs.le hleF) st_sls (by omega) (by omega) ?_
    intro g F3 hle3 hown3 hglen hgnew
    have hc2' := hle3 _ _ hc2
    have hc4' := hle3 _ _ hc4
    have hle3F := le_trans' hleF hle3
    have hg2 : ∀ a, g.base = some a → a.block ≠ b2 ∧ a.block ≠ b4 ∧ F a.block = none := fun a ha => by
      have h5 := hgnew a ha
      exact ⟨fun e => (by rw [e, hc2] at h5; cases h5), fun e => (by rw [e, hc4] at h5; cases h5), le_none hleF h5⟩
    refine ⟨g, rfl, ?_⟩
    intro b5 hb5
    refine atI ?_
    refine stW (set_eq _ _ _) rfl rfl ?_ ?_
    · intro v hv
      simp at hv
      rcases hv with rfl | rfl | rfl | rfl | rfl
      · exact st_sl
      · exact st_sl (x := Sl.nil)
      · exact st_bool
      · exact st_int
      · exact st_sl (x := Sl.nil)
    rw [set_twice]
    have hle5 := le_set_fresh (.cells #[g.v, Value.slice none 0 0, Value.bool true, Value.int .i64 0, Value.slice none 0 0] 48) hb5
    have hc5 : (F3.set b5 (.cells #[g.v, Value.slice none 0 0, Value.bool true, Value.int .i64 0, Value.slice none 0 0] 48)) b5 = some (.cells #[g.v, Value.slice none 0 0, Value.bool true, Value.int .i64 0, Value.slice none 0 0] 48 (0, 0)) := set_eq _ _ _
    have hg5 : ∀ a, g.base = some a → a.block ≠ b5 := fun a ha e => by
      rcases hown3 with ⟨e1, _⟩ | ⟨g', cur, k1, k2, _⟩
      · rw [e1] at ha; cases ha
      · rw [ha] at k1; cases k1
        have e' : g' = b5 := e
        rw [e', hb5] at k2; cases k2
    replace hc2' := hle5 _ _ hc2'
    replace hc4' := hle5 _ _ hc4'
    have hleF5 := le_trans' hle3F hle5
    have hown5 : OwnS (F3.set b5 (.cells #[g.v, Value.slice none 0 0, Value.bool true, Value.int .i64 0, Value.slice none 0 0] 48)) 26 1 g (SL.map Sl.v) := hown3.keep (fun a ha => set_ne _ _ (hg5 a ha))
    generalize F3.set b5 (.cells #[g.v, Value.slice none 0 0, Value.bool true, Value.int .i64 0, Value.slice none 0 0] 48) = F5 at *
    have hsr : ∀ (i : Nat) (x : Sl), SL[i]? = some x → RdS (mns F5 (gq g b4)) x 1 (u8s (sec s.dur i)) := fun i x hx => (hm.sr i x hx).le (fun b o hb => by
      rw [mns_of]
      · exact hleF5 _ _ hb
      · rintro (rfl | ⟨a, ha, e⟩)
        · rw [hF4] at hb; cases hb
        · rw [← e, (hg2 a ha).2.2] at hb; cases hb)
    have hpl := hm.pl
    have hplen : psl.len = s.ws.length := by
      have := hm.hp.len
      have h6 : ∀ l : List (Int × Sl), (l.flatMap pcell).length = l.length * 2 := by
        intro l
        induction l with
        | nil => rfl
        | cons a l ih => rw [List.flatMap_cons, List.length_append, ih]; simp [pcell]; omega
      rw [h6] at this
      omega
    have hkl := hkr.len
    simp at hkl
    have hwl := hok.wl
    clear hown3 hc2 hc4 hleF hgnew hb12 hle12 hle3 hle5 hle3F hb5
    refine ⟨fun m i F' => ∃ (k : Nat) (SL' : List Sl), i = k ∧ k ≤ s.ws.length ∧ m = s.ws.length - k ∧ F.le F' ∧ F' b2 = some (.cells cs 48 (0, 0)) ∧ F' b4 = some (.cells zero48 48 (0, 0)) ∧ F' b5 = some (.cells #[g.v, Value.slice none 0 0, Value.bool true, Value.int .i64 0, Value.slice none 0 0] 48 (0, 0)) ∧
        OwnS F' 26 1 g (SL'.map Sl.v) ∧ SL'.length = n ∧ ∀ (i : Nat) (x : Sl), SL'[i]? = some x → RdS (mns F' (gq g b4)) x 1 (u8s (sec (crN s.ws kl s.dur k) i)),
      s.ws.length, ⟨0, SL, rfl, by omega, rfl, hleF5, hc2', hc4', hc5, hown5, hm.sl, hsr⟩, ?_⟩
    clear hc2' hc4' hc5 hown5 hsr
    rintro m i F' ⟨k, SL', rfl, hk, rfl, hle, h2, h4, h5, hown, hSL, hsr⟩
    unfold b33L1
    refine ⟨psl, by rw [cell_eq h2, hcs]; rfl, fun hlt => ?_, fun hge => ?_⟩
    · have hk2 : k < s.ws.length := by omega
      have hkP : k < PL.length := by omega
      obtain ⟨w, hw, hwa, hwr⟩ := hm.pr k PL[k] (List.getElem?_eq_getElem hkP)
      have hwm := hok.ws w (List.mem_of_getElem? hw)
      have step : ∀ q : Int, q = (keepN kl k : Nat) → b33j2 (fun i_6 F_1 => ∃ m', m' < s.ws.length - k ∧ ∃ (k : Nat) (SL' : List Sl), i_6 = k ∧ k ≤ s.ws.length ∧ m' = s.ws.length - k ∧ F.le F_1 ∧ F_1 b2 = some (.cells cs 48 (0, 0)) ∧ F_1 b4 = some (.cells zero48 48 (0, 0)) ∧ F_1 b5 = some (.cells #[g.v, Value.slice none 0 0, Value.bool true, Value.int .i64 0, Value.slice none 0 0] 48 (0, 0)) ∧
          OwnS F_1 26 1 g (SL'.map Sl.v) ∧ SL'.length = n ∧ ∀ (i : Nat) (x : Sl), SL'[i]? = some x → RdS (mns F_1 (gq g b4)) x 1 (u8s (sec (crN s.ws kl s.dur k) i))) kept b2 b4 b5 (k : Int) q (fun v F' => ∃ cs', v = .agg cs' ∧ F.le F' ∧ RRep F' cs' n (s.crash kl)) F' := by
        rintro q rfl
        unfold b33j2
        obtain ⟨pb, po, hpb, _⟩ := hm.hp.cells (by omega)
        have hrow := ((hm.hp.le hle).row hpb (k * 2) #[.int .i64 PL[k].1, PL[k].2.v] (by rw [show (#[Value.int .i64 PL[k].1, PL[k].2.v] : Array Value).size = 2 from rfl, pcells_at hkP]; rfl))
        refine ⟨psl, by rw [cell_eq h2, hcs]; rfl, _, hpb, by omega, by omega, #[.int .i64 PL[k].1, PL[k].2.v], rfl, by simpa using hrow, ?_⟩
        intro b8 hb8
        refine atI ?_
        refine stW (set_eq _ _ _) rfl rfl ?_ ?_
        · intro v hv
          simp at hv
          rcases hv with rfl | rfl
          · exact st_int
          · exact st_sl
        rw [set_twice]
        have hle8 := le_set_fresh (.cells #[Value.int .i64 PL[k].1, PL[k].2.v] 72) hb8
        have hc8 : (F'.set b8 (.cells #[Value.int .i64 PL[k].1, PL[k].2.v] 72)) b8 = some (.cells #[Value.int .i64 PL[k].1, PL[k].2.v] 72 (0, 0)) := set_eq _ _ _
        have hgd : ∀ a, g.base = some a → F' a.block ≠ none := fun a ha => by
          rcases hown with ⟨e1, _⟩ | ⟨g', cur, k1, k2, _⟩
          · rw [e1] at ha; cases ha
          · rw [ha] at k1; cases k1; rw [k2]; simp
        have hown8 : OwnS (F'.set b8 (.cells #[Value.int .i64 PL[k].1, PL[k].2.v] 72)) 26 1 g (SL'.map Sl.v) := hown.keep (fun a ha => set_ne _ _ (fun e => hgd a ha (by rw [e]; exact hb8)))
        have hsr8 : ∀ (i : Nat) (x : Sl), SL'[i]? = some x → RdS (mns (F'.set b8 (.cells #[Value.int .i64 PL[k].1, PL[k].2.v] 72)) (gq g b4)) x 1 (u8s (sec (crN s.ws kl s.dur k) i)) := fun i x hx => (hsr i x hx).le (mns_mono hle8)
        have h2' := hle8 _ _ h2
        have h4' := hle8 _ _ h4
        have h5' := hle8 _ _ h5
        have hleb := le_trans' hle hle8
        have hb8F : F b8 = none := le_none hle hb8
        generalize F'.set b8 (.cells #[Value.int .i64 PL[k].1, PL[k].2.v] 72) = F8 at *
        have at0 : ∃ t : Nat, w.1 = t ∧ t < n := ⟨w.1.toNat, by omega, by omega⟩
        obtain ⟨t, ht, htn⟩ := at0
        rw [hwa, ht] at hc8
        have hgl : g.len = n := by rw [hglen]; omega
        rcases hown8 with ⟨e1, _⟩ | ⟨gb, cur, g1, g2, g3, g4, g5, g6⟩
        · rw [e1] at hgl; simp [Sl.nil] at hgl; omega
        have hx := List.getElem?_eq_getElem (l := SL') (i := t) (by omega)
        have hcur : cur[t]? = some (SL'[t]'(by omega)).v := by
          have : (cur.toList.take (g.len * 1))[t]? = some (SL'[t]'(by omega)).v := by rw [g6, List.getElem?_map, hx]; rfl
          rw [List.getElem?_take_of_lt (by omega)] at this
          simpa using this
        refine ⟨g, by rw [cell_eq h5']; rfl, (t : Int), by rw [cell_eq hc8]; rfl, g, by rw [cell_eq h5']; rfl, (t : Int), by rw [cell_eq hc8]; rfl, _, g1, by omega, by omega, SL'[t]'(by omega), by rw [add_mk, cell_eq g2]; simpa using hcur, PL[k].2, by rw [cell_eq hc8]; rfl, ?_⟩
        have hO := (hsr8 t _ hx).le (mns_le _ _)
        have hsl64 : (sec (crN s.ws kl s.dur k) t).length = 64 := sec_len (crN_len hok.ws hok.dur k) htn
        refine (first_spec hO (hwr.le hleb) hsl64 hwm.2.2 (keepN_le kl k)).mono ?_
        rintro v F9 ⟨y, rfl, hle9, hy⟩
        refine ⟨y, rfl, by rw [cell_eq (hle9 _ _ hc8)]; rfl, by rw [cell_eq (hle9 _ _ h5')]; rfl, by rw [cell_eq (hle9 _ _ hc8)]; rfl, by rw [cell_eq (hle9 _ _ h5')]; rfl, _, g1, by omega, by omega, ?_⟩
        have hgb := hg2 _ g1
        have hgb5 := hg5 _ g1
        refine st1' (b := gb) (o := t) (by simp) (hle9 _ _ g2) (by omega) ?_
        refine ⟨s.ws.length - (k + 1), by omega, k + 1, SL'.set t y, w64s (by omega), by omega, rfl, fun b o hb => ?_, ?_, ?_, ?_, ?_, by simpa using hSL, fun i x hx2 => ?_⟩
        · rw [set_ne _ _ (fun e => by rw [e, hgb.2.2] at hb; cases hb)]
          exact hle9 _ _ (hleb _ _ hb)
        · rw [set_ne _ _ (Ne.symm hgb.1)]; exact hle9 _ _ h2'
        · rw [set_ne _ _ (Ne.symm hgb.2.1)]; exact hle9 _ _ h4'
        · rw [set_ne _ _ (Ne.symm hgb5)]; exact hle9 _ _ h5'
        · rw [List.map_set]
          exact OwnS.upd g1 (hle9 _ _ g2) g3 g4 g5 g6
        · have hmn : ∀ (b : Nat) (o : Obj), mns F9 (gq g b4) b = some o → mns (F9.set gb (.cells (cur.setIfInBounds t y.v) 26)) (gq g b4) b = some o := fun b o hb => by
            by_cases hp : gq g b4 b
            · simp [mns, hp] at hb
            · rw [mns_of hp] at hb ⊢
              rw [set_ne _ _ (fun e => hp (.inr ⟨_, g1, by rw [e]⟩))]
              exact hb
          rw [sec_crN hok.ws hok.dur hw]
          by_cases hti : t = i
          · subst hti
            rw [List.getElem?_set_self (by omega)] at hx2
            cases hx2
            rw [if_pos (by omega)]
            refine RdS.le ?_ hmn
            refine hy.le (new_le (fun b hb => ?_))
            rcases hb with rfl | ⟨a, ha, e⟩
            · rw [h4']; simp
            · rw [g1] at ha; cases ha
              rw [← e, g2]; simp
          · rw [List.getElem?_set_ne hti] at hx2
            rw [if_neg (by omega)]
            exact ((hsr8 i x hx2).le (mns_mono hle9)).le hmn
      refine ⟨fun hlt2 => ?_, fun hge2 => step 0 ?_⟩
      · have hk3 : k < kl.length := by omega
        obtain ⟨kb, ko, hkb, hkc⟩ := (hkr.le hle).cells (by omega)
        refine ⟨_, hkb, by omega, hlt2, kl[k], by have := hkc k (by simpa using hk3); simpa using this, step _ ?_⟩
        unfold keepN
        rw [List.getElem?_eq_getElem hk3]
        simp only
        omega
      · unfold keepN
        rw [List.getElem?_eq_none (by omega)]
        rfl
    · obtain rfl : k = s.ws.length := by omega
      unfold b33j1
      refine ⟨_, rfl, row_whole h5, ret5 (K := fun a G => ∃ cs', Value.agg a = .agg cs' ∧ F.le G ∧ RRep G cs' n (s.crash kl)) _ rfl ?_ h4 rfl ?_⟩
      · intro v hv
        simp at hv
        rcases hv with rfl | rfl | rfl | rfl | rfl
        · exact st_sl
        · exact st_sl (x := Sl.nil)
        · exact st_bool
        · exact st_int
        · exact st_sl (x := Sl.nil)
      have hg4 : ∀ a, g.base = some a → a.block ≠ b4 := fun a ha => (hg2 a ha).2.1
      have e : s.crash kl = ⟨crN s.ws kl s.dur s.ws.length, [], true, 0, []⟩ := by unfold DS.crash; rw [hup]; rfl
      have hle6 : (mns F' (gq g b4)).le (F'.set b4 (.cells #[g.v, Value.slice none 0 0, Value.bool true, Value.int .i64 0, Value.slice none 0 0] 48)) := fun b o hb => by
        by_cases hp : gq g b4 b
        · simp [mns, hp] at hb
        · rw [mns_of hp] at hb
          rw [set_ne _ _ (fun e => hp (.inl e))]; exact hb
      have hle7 : F.le (F'.set b4 (.cells #[g.v, Value.slice none 0 0, Value.bool true, Value.int .i64 0, Value.slice none 0 0] 48)) := fun y o hy => by
        rw [set_ne _ _ (fun e => by rw [e, hF4] at hy; cases hy)]
        exact hle _ _ hy
      rw [e]
      have hown9 : OwnS (F'.set b4 (.cells #[g.v, Value.slice none 0 0, Value.bool true, Value.int .i64 0, Value.slice none 0 0] 48)) 26 1 g (SL'.map Sl.v) := hown.keep (fun a ha => set_ne _ _ (hg4 a ha))
      exact ⟨_, rfl, hle7, SL', [], g, Sl.nil, Sl.nil, rfl, hown9.rd, hSL, fun i x hx => (hsr i x hx).le hle6, RdS.nil _ _, rfl, fun k x hx => (by simp at hx), RdS.nil _ _,
        ⟨hn1, hn2, crN_len hok.ws hok.dur _, by simp, by simp, by simp, by simp⟩, by simp⟩
end Go.Proofs.Ythnolhcknhhipaa
