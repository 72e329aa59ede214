/-
  The disk: Flush, Read, Copy.
-/
import Derived.Test.YthnolhcknhhipaaDd
namespace Go.Proofs.Ythnolhcknhhipaa
open Go Go.Proofs.Try

section
variable {F : PH} {d n : Nat} {fp : Nat → Prop} {s : DS}

theorem flush_spec (h : DRep F d fp n s) : Spec prog 17 #[.pointer (some ⟨d, 0, none⟩)] F fun v F' => v = .int .i64 s.flush.2 ∧ ∃ fp', DRep F' d fp' n s.flush.1 ∧ Step fp F fp' F' := by
  refine c17 ?_
  unfold b17
  refine (ready_spec h).mono ?_
  rintro v F2 ⟨rfl, fq, hrep, hst⟩
  refine ⟨_, rfl, fun h4 => ?_, fun h4 => ?_⟩
  · have e : s.flush = s.ready := by unfold DS.flush; rw [if_pos h4]
    rw [e]
    exact ⟨rfl, fq, hrep, hst⟩
  have e : s.flush = ({ s.ready.1 with dur := flN s.ready.1.ws s.ready.1.dur s.ready.1.ws.length, ws := [] }, 0) := by unfold DS.flush; rw [if_neg h4]
  rw [e]
  clear e h4
  generalize s.ready.1 = s1 at *
  obtain ⟨bd, dc, tl, wsl, ksl, hm⟩ := hrep
  have hne := hm.ne_db
  have hwb := hm.wblock
  have hfd : fq d := (hm.hf d).2 (.inl rfl)
  have hfb : fq bd := (hm.hf bd).2 (.inr (.inl rfl))
  have hok := hm.ok
  have hwl := hok.wl
  refine ⟨_, rfl, wsl, hdcell hm.hd rfl, ?_⟩
  refine ⟨fun m i F' => ∃ k : Nat, i = k ∧ k ≤ s1.ws.length ∧ m = s1.ws.length - k ∧ Keep (· = bd) F2 F' ∧ F' bd = some (.cells (u8s (flN s1.ws s1.dur k) ++ tl).toArray 5 (0, 0)), s1.ws.length,
    ⟨0, rfl, by omega, rfl, Keep.refl _ _, hm.hb⟩, ?_⟩
  rintro m i F' ⟨k, rfl, hk, rfl, hkeep, hbd⟩
  unfold b17L1
  have hd' : F' d = _ := hkeep _ _ hm.hd hne
  refine ⟨fun hlt => ?_, fun hge => ?_⟩
  · rw [hm.hl] at hlt
    have hk' : k < s1.ws.length := by omega
    have hrd : RdS F' wsl 65 (flat s1.ws) := (hm.hw.keepK hkeep (fun a ha => (hwb a ha).2)).rd
    have hws : ∀ w ∈ s1.ws, w.2.length = 64 := fun w hw => (hok.ws w hw).2.2
    have hwk := hok.ws s1.ws[k] (List.getElem_mem _)
    obtain ⟨b, o, hbase, _⟩ := hrd.cells (by rw [hm.hl]; omega)
    have hcl := flN_len hok.ws hok.dur k
    refine ⟨_, hbase, by omega, by rw [hm.hl]; omega, (wcells s1.ws[k]).toArray, by simp [hwk.2.2], ?_, ?_⟩
    · refine hrd.row hbase _ _ ?_
      have := flat_at hws hk'
      simp only [Int.toNat_natCast]
      rw [show (wcells s1.ws[k]).toArray.size = 65 by simp [hwk.2.2], this]
    intro b5 hb5
    refine atI ?_
    refine stW (set_eq _ _ _) (by simp [hwk.2.2]) (by simp) (by simpa using st_wcells) ?_
    rw [set_twice]
    have hfresh : ∀ c o, F' c = some o → c ≠ b5 := fun c o hc => ne_of_fresh hb5 hc
    have hle2 : F'.le (F'.set b5 (.cells (wcells s1.ws[k]).toArray 66)) := le_set_fresh _ hb5
    have hbd5 : bd ≠ b5 := hfresh _ _ hbd
    have hkeep2 : Keep (· = bd) F2 (F'.set b5 (.cells (wcells s1.ws[k]).toArray 66)) := hkeep.trans (Keep.of_le hle2)
    obtain ⟨q, hq⟩ : ∃ q : Nat, s1.ws[k].1 = q := ⟨s1.ws[k].1.toNat, by omega⟩
    refine ⟨q, by rw [cell_set_eq]; simp [hq], ?_⟩
    refine (sector_spec (bd := bd) (wsl := wsl) (ksl := ksl) (n := n) (by rw [cell_set_ne _ _ (hfresh _ _ hd'), cell_eq hd']; rfl) hok.n2 hm.hc.1 (i := q) (by omega)).mono ?_
    rintro v F3 ⟨rfl, rfl⟩
    refine ⟨_, rfl, ?_⟩
    have hcut := (rd_data (set_eq F' b5 (.cells (wcells s1.ws[k]).toArray 66)) hwk.2.2).cut (l := 0) (r := 64) (m := 64) (by omega) (by simp only; omega) (by omega)
    have hlen : ((List.drop (0 * 1) (u8s s1.ws[k].2)).take ((64 - 0) * 1)) = u8s s1.ws[k].2 := by rw [Nat.zero_mul, List.drop_zero, List.take_of_length_le (by simp [hwk.2.2])]
    rw [hlen] at hcut
    have hstep : flN s1.ws s1.dur (k + 1) = ovr (flN s1.ws s1.dur k) (q * 64) s1.ws[k].2 := by
      rw [flN, List.getElem?_eq_getElem hk']
      simp only [hq, Int.toNat_natCast]
    refine runs_copy underlying26 rfl sz5 hcut st_u8s (fun h0 => ?_) (fun _ => ?_)
    · simp only [Sl.cut] at h0; omega
    have hmin : min (Sl.cut ⟨some ⟨b5, 1, none⟩, 64, 64⟩ 1 0 64 64).len (Sl.mk (some ⟨bd, q * 64, none⟩) 64 64).len * 1 = 64 := by simp only [Sl.cut]; omega
    rw [hmin]
    refine ⟨bd, q * 64, _, _, rfl, by rw [set_ne _ _ hbd5]; exact hbd, by simp [hcl]; omega, _, rfl, ?_⟩
    rw [List.take_of_length_le (by simp [hwk.2.2]), wr_u8t (by rw [hcl, hwk.2.2]; omega)]
    refine ⟨s1.ws.length - (k + 1), by omega, k + 1, w64s (by omega), by omega, rfl, hkeep2.trans (Keep.set _ (.inl rfl)), ?_⟩
    rw [set_eq, hstep]
  · rw [hm.hl] at hge
    obtain rfl : k = s1.ws.length := by omega
    unfold b17j1
    refine ⟨_, rfl, ?_⟩
    refine st1' (b := d) (o := 1) (by simp) hd' (by simp) ?_
    have hkq : Step fq F2 (fun b => b = d ∨ b = bd) (F'.set d (.cells (#[Sl.v ⟨some ⟨bd, 0, none⟩, n * 64, dc⟩, Sl.v wsl, .bool s1.down, .int .i64 s1.fuse, Sl.v ksl].setIfInBounds 1 (Sl.v Sl.nil)) 63)) := by
      refine ⟨(hkeep.mono (fq := fq) (fun b hb => by rw [hb]; exact hfb)).trans (Keep.set _ (.inl hfd)), ?_⟩
      rintro b (rfl | rfl)
      · exact .inl hfd
      · exact .inl hfb
    refine ⟨rfl, fun b => b = d ∨ b = bd, ⟨bd, dc, tl, Sl.nil, ksl, ?_⟩, hst.trans hkq⟩
    refine ⟨by rw [set_eq]; rfl, by rw [set_ne _ _ hne.symm]; exact hbd, ⟨hm.hc.1, by rw [flN_len hok.ws hok.dur]; have := hm.hc.2; rw [hok.dur] at this; exact this⟩, .inl ⟨rfl, rfl⟩, rfl, hm.hk.le hkq.le, ?_, ⟨hok.n1, hok.n2, flN_len hok.ws hok.dur _, hok.fuse0, hok.fuse1, by simp, by simp⟩⟩
    intro x
    constructor
    · rintro (h | h)
      · exact .inl h
      · exact .inr (.inl h)
    · rintro (h | h | ⟨a, ha, _⟩)
      · exact .inl h
      · exact .inr h
      · cases ha

theorem rdN_len {ws : List (Int × List Int)} {at_ : Int} {l : List Int} {n : Nat} (hws : ∀ w ∈ ws, 0 ≤ w.1 ∧ w.1 < n ∧ w.2.length = 64) (hl : l.length = 64) : ∀ k, (DS.rdN ws at_ l k).length = 64 := by
  intro k
  induction k with
  | zero => exact hl
  | succ k ih =>
    unfold DS.rdN
    split
    · rename_i w hw
      split
      · exact (hws w (List.mem_of_getElem? hw)).2.2
      · exact ih
    · exact ih

theorem read_spec (h : DRep F d fp n s) {at_ : Int} : Spec prog 16 #[.pointer (some ⟨d, 0, none⟩), .int .i64 at_] F fun v F' => F.le F' ∧
    ((∃ e, v = .tuple #[Sl.v Sl.nil, .int .i64 e] ∧ s.read n at_ = ([], e) ∧ e ≠ 0) ∨
     (∃ g l, F g = none ∧ v = .tuple #[Sl.v ⟨some ⟨g, 0, none⟩, 64, 64⟩, .int .i64 0] ∧ F' g = some (.cells (u8s l).toArray 5 (0, 0)) ∧ s.read n at_ = (l, 0) ∧ l.length = 64)) := by
  refine c16 ?_
  unfold b16
  refine ⟨fun h1 => ?_, fun h1 => ?_⟩
  · refine ⟨le_refl' _, .inl ⟨1, rfl, ?_, by decide⟩⟩
    unfold DS.read; rw [if_pos (.inl h1)]
  refine (sectors_spec h).mono ?_
  rintro v F1 ⟨rfl, rfl⟩
  refine ⟨_, rfl, fun h2 => ?_, fun h2 => ?_⟩
  · refine ⟨le_refl' _, .inl ⟨1, rfl, ?_, by decide⟩⟩
    unfold DS.read; rw [if_pos (.inr h2)]
  have hcond : ¬ (at_ < 0 ∨ (n : Int) ≤ at_) := by omega
  obtain ⟨bd, dc, tl, wsl, ksl, hm⟩ := h
  have hok := hm.ok
  have hwl := hok.wl
  refine ⟨_, rfl, s.down, hdcell hm.hd rfl, fun h3 => ?_, fun h3 => ?_⟩
  · refine ⟨le_refl' _, .inl ⟨340, rfl, ?_, by decide⟩⟩
    unfold DS.read; rw [if_neg hcond, if_pos h3]
  obtain ⟨q, rfl⟩ : ∃ q : Nat, at_ = q := ⟨at_.toNat, by omega⟩
  have hread : s.read n q = (DS.rdN s.ws q (s.sect q) s.ws.length, 0) := by unfold DS.read; rw [if_neg hcond, if_neg (by simp [h3])]; rfl
  have hq : q < n := by omega
  have hsl : (s.sect q).length = 64 := by simp [DS.sect, hok.dur]; omega
  refine runs_makeSlice underlying26 sz5 zr5 rfl (by decide) (by decide) (by decide) (by decide) ?_
  intro g hg
  rw [zc1 _ rfl]
  refine ⟨_, rfl, ?_⟩
  have hle1 : F1.le (F1.set g (.cells (List.replicate (Int.toNat 64) (Value.int .u8 0)).toArray 5)) := le_set_fresh _ hg
  have hd1 := hle1 _ _ hm.hd
  have hb1 := hle1 _ _ hm.hb
  refine (sector_spec (bd := bd) (wsl := wsl) (ksl := ksl) (n := n) (by rw [cell_eq hd1]; rfl) hok.n2 hm.hc.1 (i := q) hq).mono ?_
  rintro v F3 ⟨rfl, rfl⟩
  refine ⟨_, rfl, ?_⟩
  have hsrd : RdS (F1.set g (.cells (List.replicate (Int.toNat 64) (Value.int .u8 0)).toArray 5)) ⟨some ⟨bd, q * 64, none⟩, 64, 64⟩ 1 (u8s (s.sect q)) := by
    refine ⟨by simp [hsl], Nat.le_refl _, fun _ => ⟨bd, q * 64, rfl, fun i hi => ?_⟩⟩
    rw [cell_eq hb1]
    simp [hsl] at hi
    have hdl := hok.dur
    simp [DS.sect, List.getElem_take, List.getElem_drop]
    rw [List.getElem?_append_left (by simp; omega)]
    simp
  refine runs_copy underlying26 rfl sz5 hsrd st_u8s (fun h0 => ?_) (fun _ => ?_)
  · simp at h0
  refine ⟨g, 0, _, _, rfl, set_eq _ _ _, by simp, _, rfl, ?_⟩
  have hw0 : wr (List.replicate (Int.toNat 64) (Value.int .u8 0)).toArray 0 (List.take (min 64 (Int.toNat 64) * 1) (u8s (s.sect q))) = (u8s (s.sect q)).toArray := by
    have e1 : List.take (min 64 (Int.toNat 64) * 1) (u8s (s.sect q)) = u8s (s.sect q) := List.take_of_length_le (by simp [hsl])
    rw [e1, wr_list _ _ _ (by simp [hsl])]
    simp [hsl]
  simp only at hw0 ⊢
  rw [hw0, set_twice]
  have hle2 : F1.le (F1.set g (.cells (u8s (s.sect q)).toArray 5)) := le_set_fresh _ hg
  refine ⟨wsl, hdcell (hle2 _ _ hm.hd) rfl, ?_⟩
  refine ⟨fun m i F' => ∃ k : Nat, i = k ∧ k ≤ s.ws.length ∧ m = s.ws.length - k ∧ F1.le F' ∧ F' g = some (.cells (u8s (DS.rdN s.ws q (s.sect q) k)).toArray 5 (0, 0)), s.ws.length,
    ⟨0, rfl, by omega, rfl, hle2, by rw [set_eq]; rfl⟩, ?_⟩
  rintro m i F' ⟨k, rfl, hk, rfl, hle, hgk⟩
  unfold b16L1
  refine ⟨fun hlt => ?_, fun hge => ?_⟩
  · rw [hm.hl] at hlt
    have hk' : k < s.ws.length := by omega
    have hrd : RdS F' wsl 65 (flat s.ws) := hm.hw.rd.le hle
    have hws : ∀ w ∈ s.ws, w.2.length = 64 := fun w hw => (hok.ws w hw).2.2
    have hwk := hok.ws s.ws[k] (List.getElem_mem _)
    obtain ⟨b, o, hbase, _⟩ := hrd.cells (by rw [hm.hl]; omega)
    refine ⟨_, hbase, by omega, by rw [hm.hl]; omega, (wcells s.ws[k]).toArray, by simp [hwk.2.2], ?_, ?_⟩
    · refine hrd.row hbase _ _ ?_
      have := flat_at hws hk'
      simp only [Int.toNat_natCast]
      rw [show (wcells s.ws[k]).toArray.size = 65 by simp [hwk.2.2], this]
    intro b8 hb8
    refine atI ?_
    refine stW (set_eq _ _ _) (by simp [hwk.2.2]) (by simp) (by simpa using st_wcells) ?_
    rw [set_twice]
    have hle3 : F1.le (F'.set b8 (.cells (wcells s.ws[k]).toArray 66)) := le_trans' hle (le_set_fresh _ hb8)
    have hgb8 : g ≠ b8 := ne_of_fresh hb8 hgk
    have hrdk := rdN_len (at_ := (q : Int)) (l := s.sect q) hok.ws hsl k
    refine ⟨s.ws[k].1, by rw [cell_set_eq]; simp, fun heq => ?_, fun hneq => ?_⟩
    · have hcut := (rd_data (set_eq F' b8 (.cells (wcells s.ws[k]).toArray 66)) hwk.2.2).cut (l := 0) (r := 64) (m := 64) (by omega) (by simp only; omega) (by omega)
      have hlen : ((List.drop (0 * 1) (u8s s.ws[k].2)).take ((64 - 0) * 1)) = u8s s.ws[k].2 := by rw [Nat.zero_mul, List.drop_zero, List.take_of_length_le (by simp [hwk.2.2])]
      rw [hlen] at hcut
      refine runs_copy underlying26 rfl sz5 hcut st_u8s (fun h0 => ?_) (fun _ => ?_)
      · simp [Sl.cut] at h0
      have hsz : (u8s (DS.rdN s.ws q (s.sect q) k)).toArray.size = 64 := by simp [hrdk]
      refine ⟨g, 0, _, _, rfl, by rw [set_ne _ _ hgb8]; exact hgk, by rw [hsz]; simp only [Sl.cut]; decide, _, rfl, ?_⟩
      have hmin : min (Sl.cut ⟨some ⟨b8, 1, none⟩, 64, 64⟩ 1 0 64 64).len (Sl.mk (some ⟨g, 0, none⟩) (Int.toNat 64) (Int.toNat 64)).len * 1 = 64 := by simp only [Sl.cut]; decide
      rw [hmin, List.take_of_length_le (by simp [hwk.2.2]), wr_u8 (by rw [hrdk, hwk.2.2]; omega)]
      have hov : ovr (DS.rdN s.ws q (s.sect q) k) 0 s.ws[k].2 = DS.rdN s.ws q (s.sect q) (k + 1) := by
        rw [DS.rdN, List.getElem?_eq_getElem hk']
        simp only [heq, if_true, ovr]
        rw [List.take_zero, List.nil_append, List.drop_of_length_le (by omega), List.append_nil]
      rw [hov]
      refine ⟨s.ws.length - (k + 1), by omega, k + 1, w64s (by omega), by omega, rfl, ?_, set_eq _ _ _⟩
      intro y o hy
      have : y ≠ g := fun e => by rw [e, hg] at hy; cases hy
      rw [set_ne _ _ this]
      exact hle3 _ _ hy
    · refine ⟨s.ws.length - (k + 1), by omega, k + 1, w64s (by omega), by omega, rfl, hle3, ?_⟩
      rw [set_ne _ _ hgb8, hgk, DS.rdN, List.getElem?_eq_getElem hk']
      simp only [if_neg hneq]
  · rw [hm.hl] at hge
    obtain rfl : k = s.ws.length := by omega
    unfold b16j1
    exact ⟨hle, .inr ⟨g, _, hg, rfl, hgk, hread, rdN_len hok.ws hsl _⟩⟩

theorem copy_new (h : DRep F d fp n s) (hkl : s.kept.length * 8 ≤ 140737488355328) : Spec prog 27 #[.pointer (some ⟨d, 0, none⟩)] F fun v F' => ∃ c fq, v = .pointer (some ⟨c, 0, none⟩) ∧ F.le F' ∧ DRep (mns F' (old F)) c fq n s ∧ ∀ b, fq b → F b = none := by
  obtain ⟨bd, dc, tl, wsl, ksl, hm⟩ := h
  have hok := hm.ok
  have hwl := hok.wl
  have hn2 := hok.n2
  have hkr := hm.hk.le (mns_le _ _)
  have hkll := hkr.len
  simp at hkll
  refine c27 ?_
  unfold b27
  refine ⟨_, rfl, #[Sl.v ⟨some ⟨bd, 0, none⟩, n * 64, dc⟩, Sl.v wsl, .bool s.down, .int .i64 s.fuse, Sl.v ksl], rfl, ?_, ?_⟩
  · intro i hi
    rw [add_mk, cell_eq hm.hd]
    simp at hi ⊢
  intro c hc
  refine atI ?_
  refine stW (set_eq _ _ _) rfl rfl ?_ ?_
  · intro v hv
    simp at hv
    rcases hv with rfl | rfl | rfl | rfl | rfl
    · exact st_sl
    · exact st_sl
    · exact st_bool
    · exact st_int
    · exact st_sl
  rw [set_twice]
  have hle1 := le_set_fresh (.cells #[Sl.v ⟨some ⟨bd, 0, none⟩, n * 64, dc⟩, Sl.v wsl, .bool s.down, .int .i64 s.fuse, Sl.v ksl] 63) hc
  have hd1 := hle1 _ _ hm.hd
  refine ⟨_, (cell_eq hd1).trans rfl, wsl, hdcell hd1 rfl, ksl, hdcell hd1 rfl, ?_⟩
  have hdur : RdS F ⟨some ⟨bd, 0, none⟩, n * 64, dc⟩ 1 (u8s s.dur) := RdS.new hm.hb (by simp only; rw [List.take_append_of_le_length (by simp [hok.dur]), List.take_of_length_le (by simp [hok.dur])]) (by simp [hok.dur]) hm.hc.1
  refine (clone5_spec (hdur.le hle1) st_u8s (by simp only; omega)).mono ?_
  rintro v F2 ⟨s1, rfl, hl1, hcl1⟩
  have hd2 := hcl1.1 _ _ hd1
  refine ⟨s1, rfl, hdcell hd2 rfl, hdcell hd2 rfl, ?_⟩
  have hle2 := le_trans' hle1 hcl1.1
  refine (clone66_spec (hm.hw.rd.le hle2) st_flat (by rw [hm.hl]; omega)).mono ?_
  rintro v F3 ⟨s2, rfl, hl2, hcl2⟩
  have hd3 := hcl2.1 _ _ hd2
  refine ⟨s2, rfl, hdcell hd3 rfl, ?_⟩
  have hle3 := le_trans' hle2 hcl2.1
  refine (clone3_spec (hkr.le hle3) st_i64s (by rw [← hkll]; omega)).mono ?_
  rintro v F4 ⟨s3, rfl, hl3, hcl3⟩
  have hle4 := le_trans' hle3 hcl3.1
  have hc1 : (F.set c (.cells #[Sl.v ⟨some ⟨bd, 0, none⟩, n * 64, dc⟩, Sl.v wsl, .bool s.down, .int .i64 s.fuse, Sl.v ksl] 63)) c = some _ := set_eq _ _ _
  have hc4 : F4 c = some (.cells #[Sl.v ⟨some ⟨bd, 0, none⟩, n * 64, dc⟩, Sl.v wsl, .bool s.down, .int .i64 s.fuse, Sl.v ksl] 63 (0, 0)) := hcl3.1 _ _ (hcl2.1 _ _ (hcl1.1 _ _ hc1))
  refine ⟨s3, rfl, ?_⟩
  refine st1 (b := c) (o := 0) hc4 (by simp) ?_
  refine st1 (b := c) (o := 1) (set_eq _ _ _) (by simp) ?_
  rw [set_twice]
  refine st1 (b := c) (o := 4) (set_eq _ _ _) (by simp) ?_
  rw [set_twice]
  -- the new blocks
  have hs1 : ∃ g tl1, s1.base = some ⟨g, 0, none⟩ ∧ F g = none ∧ g ≠ c ∧ F4 g = some (.cells (u8s s.dur ++ tl1).toArray 5 (0, 0)) ∧ s1.cap * 1 = s.dur.length + tl1.length ∧ s1.len ≤ s1.cap := by
    obtain ⟨h1, h2, h3⟩ := hcl1
    rcases h2 with ⟨rfl, hnil⟩ | ⟨g, cur, g1, g2, g3, g4, g5, g6⟩
    · have h5 := congrArg List.length hnil
      have h6 := hok.n1
      have h7 := hok.dur
      simp only [List.length_map, List.length_nil] at h5
      omega
    · have hgf := h3 _ g1
      have hgc : g ≠ c := fun e => by simp only [e, set_eq] at hgf; cases hgf
      have hcur : cur = (u8s s.dur ++ cur.toList.drop (s1.len * 1)).toArray := by
        apply Array.ext'
        simp only
        rw [← g6, List.take_append_drop]
      refine ⟨g, cur.toList.drop (s1.len * 1), g1, le_none hle1 hgf, hgc, ?_, ?_, g4⟩
      · rw [← hcur]; exact hcl3.1 _ _ (hcl2.1 _ _ g2)
      · rw [← g3]
        have := congrArg Array.size hcur
        simpa using this
  obtain ⟨g, tl1, g1, g2, g3, g4, g5, g6⟩ := hs1
  have hs1e : s1 = ⟨some ⟨g, 0, none⟩, n * 64, s1.cap⟩ := by
    obtain ⟨x, y, z⟩ := s1
    simp only at g1 hl1 ⊢
    rw [g1, hl1]
  have hw2 : ∀ a, s2.base = some a → F a.block = none ∧ a.block ≠ c ∧ a.block ≠ g := by
    intro a ha
    have h3 := hcl2.2.2 a ha
    refine ⟨le_none hle2 h3, fun e => ?_, fun e => ?_⟩
    · rw [e, hcl1.1 _ _ hc1] at h3; cases h3
    · rw [e] at h3
      rcases hcl1.2.1 with ⟨rfl, _⟩ | ⟨g', cur, k1, k2, _⟩
      · cases g1
      · rw [g1] at k1; cases k1; rw [k2] at h3; cases h3
  have hw3 : ∀ a, s3.base = some a → F3 a.block = none := fun a ha => hcl3.2.2 a ha
  refine ⟨c, fun b => b = c ∨ b = g ∨ ∃ a, s2.base = some a ∧ b = a.block, rfl, ?_, ⟨g, s1.cap, tl1, s2, s3, ?_⟩, ?_⟩
  · intro y o hy
    have : y ≠ c := fun e => by rw [e, hc] at hy; cases hy
    rw [set_ne _ _ this]
    exact hle4 _ _ hy
  · refine ⟨by rw [mns_of (fun hp => hp hc), set_eq, ← hs1e]; rfl, by rw [mns_of (fun hp => hp g2), set_ne _ _ g3]; exact g4, ⟨by simp only at hl1; omega, g5⟩, ?_, by rw [hl2, hm.hl], ?_, fun _ => Iff.rfl, hok⟩
    · exact (hcl2.2.1.keepK (fp := fun _ => False) (Keep.of_le hcl3.1) (fun _ _ h => h)).keep (fun a ha => (mns_of (fun hp => hp (hw2 a ha).1)).trans (set_ne _ _ (hw2 a ha).2.1))
    · have h3' : OwnS (mns (mns (F4.set c (.cells (((#[Sl.v ⟨some ⟨bd, 0, none⟩, n * 64, dc⟩, Sl.v wsl, .bool s.down, .int .i64 s.fuse, Sl.v ksl].setIfInBounds 0 (Sl.v s1)).setIfInBounds 1 (Sl.v s2)).setIfInBounds 4 (Sl.v s3)) 63)) (old F)) (fun b => b = c ∨ b = g ∨ ∃ a, s2.base = some a ∧ b = a.block)) 3 1 s3 (i64s s.kept) := by
        refine hcl3.2.1.keep (fun a ha => ?_)
        have h5 := hw3 a ha
        have n1 : a.block ≠ c := fun e => by rw [e, hcl2.1 _ _ (hcl1.1 _ _ hc1)] at h5; cases h5
        have n2 : a.block ≠ g := fun e => by
          rcases hcl1.2.1 with ⟨rfl, _⟩ | ⟨g', cur, k1, k2, _⟩
          · cases g1
          · rw [g1] at k1; cases k1; rw [e, hcl2.1 _ _ k2] at h5; cases h5
        have n3 : ¬ ∃ a', s2.base = some a' ∧ a.block = a'.block := by
          rintro ⟨a', ha', e⟩
          rcases hcl2.2.1 with ⟨rfl, _⟩ | ⟨g', cur, k1, k2, _⟩
          · cases ha'
          · rw [ha'] at k1; cases k1; rw [e, k2] at h5; cases h5
        rw [mns_of (by rintro (h | h | h) <;> contradiction), mns_of (fun hp => hp (le_none hle3 h5)), set_ne _ _ n1]
      exact h3'.rd
  · rintro b (rfl | rfl | ⟨a, ha, rfl⟩)
    · exact hc
    · exact g2
    · exact (hw2 a ha).1
theorem copy_spec (h : DRep F d fp n s) (hkl : s.kept.length * 8 ≤ 140737488355328) : Spec prog 27 #[.pointer (some ⟨d, 0, none⟩)] F fun v F' => ∃ c fq, v = .pointer (some ⟨c, 0, none⟩) ∧ F.le F' ∧ DRep F' c fq n s ∧ ∀ b, fq b → F b = none :=
  (copy_new h hkl).mono fun _ _ ⟨c, fq, hv, hle, hr, hn⟩ => ⟨c, fq, hv, hle, hr.le (mns_le _ _), hn⟩
end
end Go.Proofs.Ythnolhcknhhipaa
