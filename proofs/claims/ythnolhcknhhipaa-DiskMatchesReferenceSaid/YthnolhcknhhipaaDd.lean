/-
  The disk: Crash, ready, Write, Flush, Read, Copy.
-/
import Derived.Test.YthnolhcknhhipaaDc
namespace Go.Proofs.Ythnolhcknhhipaa
open Go Go.Proofs.Try

theorem OwnS.keepK {F G : PH} {e size : Nat} {s : Sl} {vs : List Value} {fp : Nat → Prop} (h : OwnS F e size s vs) (hk : Keep fp F G) (hn : ∀ a, s.base = some a → ¬ fp a.block) : OwnS G e size s vs := by
  rcases h with h | ⟨b, cur, h1, h2, h3⟩
  · exact .inl h
  · exact .inr ⟨b, cur, h1, hk _ _ h2 (hn _ h1), h3⟩
theorem mns_keep {F G : PH} {fp fq : Nat → Prop} (hk : Keep fq F G) (hs : ∀ b, fq b → fp b) : (mns F fp).le G := fun b o h => by
  unfold mns at h
  split at h
  · cases h
  · rename_i hn
    exact hk b o h (fun hq => hn (hs b hq))

section
variable {F : PH} {d n : Nat} {fp : Nat → Prop} {s : DS}

/-- The data of a write that lies in a block of its own. -/
theorem rd_data {F : PH} {b e : Nat} {w : Int × List Int} (h : F b = some (.cells (wcells w).toArray e (0, 0))) (hw : w.2.length = 64) : RdS F ⟨some ⟨b, 1, none⟩, 64, 64⟩ 1 (u8s w.2) :=
  ⟨by simp [hw], Nat.le_refl _, fun _ => ⟨b, 1, rfl, fun i hi => by
    rw [cell_eq h, Nat.add_comm 1 i]
    simp at hi ⊢⟩⟩

theorem crN_len {ws : List (Int × List Int)} {kept dur : List Int} {n : Nat} (hws : ∀ w ∈ ws, 0 ≤ w.1 ∧ w.1 < n ∧ w.2.length = 64) (hd : dur.length = n * 64) : ∀ k, (crN ws kept dur k).length = n * 64 := by
  intro k
  induction k with
  | zero => exact hd
  | succ k ih =>
    unfold crN
    split
    · rename_i w hw
      have := hws w (List.mem_of_getElem? hw)
      unfold crStep
      split
      · rw [ovr_len, ih]
        simp only [List.length_take]
        rw [ih]
        omega
      · exact ih
    · exact ih
theorem flN_len {ws : List (Int × List Int)} {dur : List Int} {n : Nat} (hws : ∀ w ∈ ws, 0 ≤ w.1 ∧ w.1 < n ∧ w.2.length = 64) (hd : dur.length = n * 64) : ∀ k, (flN ws dur k).length = n * 64 := by
  intro k
  induction k with
  | zero => exact hd
  | succ k ih =>
    unfold flN
    split
    · rename_i w hw
      have := hws w (List.mem_of_getElem? hw)
      rw [ovr_len, ih]
      rw [ih]
      omega
    · exact ih

theorem crash_spec (h : DRep F d fp n s) {x : Sl} {kl : List Int} (hr : RdS (mns F fp) x 1 (i64s kl)) :
    Spec prog 19 #[.pointer (some ⟨d, 0, none⟩), x.v] F fun v F' => v = .tuple #[] ∧ ∃ fp', DRep F' d fp' n (s.crash kl) ∧ Step fp F fp' F' := by
  have hrep := h
  obtain ⟨bd, dc, tl, wsl, ksl, h⟩ := h
  have hne := h.ne_db
  have hwb := h.wblock
  have hfd : fp d := (h.hf d).2 (.inl rfl)
  have hfb : fp bd := (h.hf bd).2 (.inr (.inl rfl))
  have hok := h.ok
  have hwl := hok.wl
  have hxl := hr.len
  simp at hxl
  refine c19 ?_
  unfold b19
  refine ⟨_, rfl, s.down, hdcell h.hd rfl, fun hdn => ?_, fun hdn => ?_⟩
  · exact ⟨rfl, fp, by rw [DS.crash, if_pos hdn]; exact hrep, Step.refl _ _⟩
  refine ⟨wsl, hdcell h.hd rfl, ?_⟩
  refine ⟨fun m i F' => ∃ k : Nat, i = k ∧ k ≤ s.ws.length ∧ m = s.ws.length - k ∧ Keep (· = bd) F F' ∧ F' bd = some (.cells (u8s (crN s.ws kl s.dur k) ++ tl).toArray 5 (0, 0)), s.ws.length,
    ⟨0, rfl, by omega, rfl, Keep.refl _ _, h.hb⟩, ?_⟩
  rintro m i F' ⟨k, rfl, hk, rfl, hkeep, hbd⟩
  unfold b19L1
  have hd' : F' d = _ := hkeep _ _ h.hd hne
  refine ⟨fun hlt => ?_, fun hge => ?_⟩
  · rw [h.hl] at hlt
    have hk' : k < s.ws.length := by omega
    have hrd : RdS F' wsl 65 (flat s.ws) := (h.hw.keepK hkeep (fun a ha => (hwb a ha).2)).rd
    have hws : ∀ w ∈ s.ws, w.2.length = 64 := fun w hw => (hok.ws w hw).2.2
    have hwk := hok.ws s.ws[k] (List.getElem_mem _)
    obtain ⟨b, o, hbase, _⟩ := hrd.cells (by rw [h.hl]; omega)
    have hcl := crN_len (kept := kl) hok.ws hok.dur k
    refine ⟨_, hbase, by omega, by rw [h.hl]; omega, (wcells s.ws[k]).toArray, by simp [hwk.2.2], ?_, ?_⟩
    · refine hrd.row hbase _ _ ?_
      have := flat_at hws hk'
      simp only [Int.toNat_natCast]
      rw [show (wcells s.ws[k]).toArray.size = 65 by simp [hwk.2.2], this]
    intro b5 hb5
    refine atI ?_
    refine stW (set_eq _ _ _) (by simp [hwk.2.2]) (by simp) (by simpa using st_wcells) ?_
    rw [set_twice]
    have hfresh : ∀ c o, F' c = some o → c ≠ b5 := fun c o hc => ne_of_fresh hb5 hc
    have hle2 : F'.le (F'.set b5 (.cells (wcells s.ws[k]).toArray 66)) := le_set_fresh _ hb5
    have hbd5 : bd ≠ b5 := hfresh _ _ hbd
    have hkeep2 : Keep (· = bd) F (F'.set b5 (.cells (wcells s.ws[k]).toArray 66)) := hkeep.trans (Keep.of_le hle2)
    refine ⟨fun hlk => ?_, fun hnk => ?_⟩
    · have hkx : k < kl.length := by omega
      have hr2 : RdS (F'.set b5 (.cells (wcells s.ws[k]).toArray 66)) x 1 (i64s kl) := hr.le (mns_keep hkeep2 (fun b hb => by rw [hb]; exact hfb))
      obtain ⟨p, hp, hpc⟩ := hr2.byte hkx
      obtain ⟨q, hq⟩ : ∃ q : Nat, s.ws[k].1 = q := ⟨s.ws[k].1.toNat, by omega⟩
      obtain ⟨nn, hnn⟩ : ∃ nn : Nat, nn = (min (max kl[k] 0) 64).toNat := ⟨_, rfl⟩
      refine ⟨p, hp, by omega, by omega, _, hpc, q, by rw [cell_set_eq]; simp [hq], by omega, by omega, by omega, ?_⟩
      refine (sector_spec (bd := bd) (wsl := wsl) (ksl := ksl) (n := n) (by rw [cell_set_ne _ _ (hfresh _ _ hd'), cell_eq hd']; rfl) hok.n2 h.hc.1 (i := q) (by omega)).mono ?_
      rintro v F3 ⟨rfl, rfl⟩
      refine ⟨_, rfl, ?_⟩
      rw [← hnn]
      have hcut := (rd_data (set_eq F' b5 (.cells (wcells s.ws[k]).toArray 66)) hwk.2.2).cut (l := 0) (r := nn) (m := 64) (by omega) (by simp only; omega) (by omega)
      have hlen : ((List.drop (0 * 1) (u8s s.ws[k].2)).take ((nn - 0) * 1)) = u8s (s.ws[k].2.take nn) := by simp [List.map_take]
      rw [hlen] at hcut
      have hstep : crN s.ws kl s.dur (k + 1) = ovr (crN s.ws kl s.dur k) (q * 64) (s.ws[k].2.take nn) := by
        rw [crN, List.getElem?_eq_getElem hk']
        simp only [crStep, List.getElem?_eq_getElem hkx, hq, Int.toNat_natCast, hnn]
      refine runs_copy underlying26 rfl sz5 hcut st_u8s ?_ ?_
      · intro h0
        have h0' : nn = 0 := by simp only [Sl.cut] at h0; omega
        refine ⟨_, rfl, ?_⟩
        refine ⟨s.ws.length - (k + 1), by omega, k + 1, w64s (by omega), by omega, rfl, hkeep2, ?_⟩
        rw [set_ne _ _ hbd5, hbd, hstep, h0']
        simp [ovr]
      · intro h0
        have hmin : min (Sl.cut ⟨some ⟨b5, 1, none⟩, 64, 64⟩ 1 0 nn 64).len (Sl.mk (some ⟨bd, q * 64, none⟩) 64 64).len * 1 = nn := by simp only [Sl.cut]; omega
        rw [hmin]
        refine ⟨bd, q * 64, _, _, rfl, by rw [set_ne _ _ hbd5]; exact hbd, by simp [hcl]; omega, _, rfl, ?_⟩
        have hnl : (s.ws[k].2.take nn).length = nn := by simp; omega
        rw [List.take_of_length_le (by simp; omega), wr_u8t (by rw [hcl, hnl]; omega)]
        refine ⟨s.ws.length - (k + 1), by omega, k + 1, w64s (by omega), by omega, rfl, hkeep2.trans (Keep.set _ (.inl rfl)), ?_⟩
        rw [set_eq, hstep]
    · refine ⟨s.ws.length - (k + 1), by omega, k + 1, w64s (by omega), by omega, rfl, hkeep2, ?_⟩
      rw [set_ne _ _ hbd5, hbd, crN, List.getElem?_eq_getElem hk']
      have : kl[k]? = none := List.getElem?_eq_none (by omega)
      simp only [crStep, this]
  · rw [h.hl] at hge
    obtain rfl : k = s.ws.length := by omega
    unfold b19j1
    refine st1' (b := d) (o := 1) (by simp) hd' (by simp) ?_
    refine st1' (b := d) (o := 4) (by simp) (set_eq _ _ _) (by simp) ?_
    rw [set_twice]
    refine st1' (b := d) (o := 3) (by simp) (set_eq _ _ _) (by simp) ?_
    rw [set_twice]
    refine st1' (b := d) (o := 2) (by simp) (set_eq _ _ _) (by simp) ?_
    rw [set_twice]
    refine ⟨rfl, fun b => b = d ∨ b = bd, ⟨bd, dc, tl, Sl.nil, Sl.nil, ?_⟩, ?_⟩
    · rw [DS.crash, if_neg (by simp [hdn])]
      refine ⟨by rw [set_eq]; rfl, by rw [set_ne _ _ hne.symm]; exact hbd, ⟨h.hc.1, by rw [crN_len hok.ws hok.dur]; have := h.hc.2; rw [hok.dur] at this; exact this⟩, .inl ⟨rfl, rfl⟩, rfl, RdS.nil _ _, ?_, ⟨hok.n1, hok.n2, crN_len hok.ws hok.dur _, by simp, by simp, by simp, by simp⟩⟩
      intro x
      constructor
      · rintro (h | h)
        · exact .inl h
        · exact .inr (.inl h)
      · rintro (h | h | ⟨a, ha, _⟩)
        · exact .inl h
        · exact .inr h
        · cases ha
    · refine ⟨?_, ?_⟩
      · refine (hkeep.mono (fq := fp) (fun b hb => by rw [hb]; exact hfb)).trans (Keep.set _ (.inl hfd))
      · rintro b (rfl | rfl)
        · exact .inl hfd
        · exact .inl hfb

theorem ready_spec (h : DRep F d fp n s) : Spec prog 30 #[.pointer (some ⟨d, 0, none⟩)] F fun v F' => v = .int .i64 s.ready.2 ∧ ∃ fp', DRep F' d fp' n s.ready.1 ∧ Step fp F fp' F' := by
  have hrep := h
  obtain ⟨bd, dc, tl, wsl, ksl, h⟩ := h
  have hne := h.ne_db
  have hwb := h.wblock
  have hfd : fp d := (h.hf d).2 (.inl rfl)
  obtain ⟨o1, o2, o3, o4, o5, o6, o7⟩ := h.ok
  refine c30 ?_
  unfold b30
  refine ⟨_, rfl, s.down, hdcell h.hd rfl, fun hdn => ?_, fun hdn => ?_⟩
  · have e : s.ready = (s, 340) := by simp [DS.ready, hdn]
    rw [e]
    exact ⟨rfl, fp, hrep, Step.refl _ _⟩
  refine ⟨s.fuse, hdcell h.hd rfl, fun h1 => ?_, fun h1 => ?_⟩
  · refine ⟨ksl, hdcell h.hd rfl, ?_⟩
    refine (crash_spec hrep h.hk).mono ?_
    rintro v F' ⟨rfl, fp', hr, hst⟩
    have e : s.ready = (s.crash s.kept, 340) := by simp [DS.ready, hdn, h1]
    rw [e]
    exact ⟨rfl, rfl, fp', hr, hst⟩
  · refine ⟨s.fuse, hdcell h.hd rfl, ?_⟩
    rw [w64_eq (by omega) (by omega)]
    refine st1' (b := d) (o := 3) (by simp) h.hd (by simp) ?_
    have e : s.ready = ({ s with fuse := max (s.fuse - 1) 0 }, 0) := by simp [DS.ready, hdn, h1]
    rw [e]
    have hst : Step fp F fp (F.set d (.cells (#[Sl.v ⟨some ⟨bd, 0, none⟩, n * 64, dc⟩, Sl.v wsl, .bool s.down, .int .i64 s.fuse, Sl.v ksl].setIfInBounds 3 (.int .i64 (max (s.fuse - 1) 0))) 63)) := ⟨Keep.set _ (.inl hfd), fun _ h => .inl h⟩
    refine ⟨rfl, fp, ⟨bd, dc, tl, wsl, ksl, ?_⟩, hst⟩
    exact ⟨by rw [set_eq]; rfl, by rw [set_ne _ _ hne.symm]; exact h.hb, h.hc, h.hw.keep (fun a ha => set_ne _ _ (hwb a ha).1), h.hl, h.hk.le hst.le, h.hf, ⟨o1, o2, o3, by simp only; omega, by simp only; omega, o6, o7⟩⟩

/-! Write -/
theorem own_append {F : PH} {s x : Sl} {t e size bytes ty : Nat} {z : Value} {P : Program} {olds news : List Value} {Q : Value → PH → Prop} (ht : P.underlying t = some (.slice e)) (hsz : tsz P e = some (size, bytes)) (hz : tzero P e = some z) (hzs : z.cells.size = size) (hs0 : 0 < size)
    (ho : OwnS F e size s olds) (hn : RdS F x size news) (hx : 0 < x.len) (hst : ∀ v ∈ news, storable v) (hfit : (s.len + x.len) * bytes ≤ 140737488355328) (hlen : s.len + x.len ≤ 9223372036854775807)
    (h : ∀ s' F' b o, F' = F.set b o → OwnS F' e size s' (olds ++ news) → s'.len = s.len + x.len → (∀ a, s'.base = some a → a.block = b) → ((∃ a, s.base = some a ∧ a.block = b) ∨ F b = none) → Q s'.v F') :
    runs P (Builtin.append_ #[t, t] ty #[s.v, x.v]) F Q := by
  have hpos : 0 < x.len * size := Nat.mul_pos hx hs0
  have hol := ho.rd.len
  refine runs_append ht hsz hz hzs ho.rd hn hst hfit hlen (fun h0 => by omega) ?_ ?_
  · intro _ hroom
    rcases ho with ⟨rfl, rfl⟩ | ⟨b, cur, h1, h2, h3, h4, h5, h6⟩
    · simp [Sl.nil] at hroom; omega
    · have hle : s.len * size + x.len * size ≤ cur.size := by rw [h3, ← Nat.add_mul]; exact Nat.mul_le_mul_right _ hroom
      refine ⟨b, 0, cur, e, h1, h2, by omega, ?_⟩
      refine h ⟨_, _, _⟩ _ b _ rfl (.inr ⟨b, _, h1, set_eq _ _ _, by rw [wr_size, h3], hroom, by simp [h5, hn.len, Nat.add_mul], ?_⟩) rfl (fun a ha => by rw [h1] at ha; cases ha; rfl) (.inl ⟨_, h1, rfl⟩)
      simp only [Nat.zero_add]
      have hw := wr_list news cur.toList (s.len * size) (by simp [hn.len]; omega)
      rw [show cur.toList.toArray = cur by simp] at hw
      rw [hw]
      simp only
      rw [h6, Nat.add_mul]
      rw [List.take_append_of_le_length (by simp [h5, hn.len]), List.take_of_length_le (by simp [h5, hn.len])]
  · intro hgt cap b hc hb
    refine h ⟨_, _, _⟩ _ b _ rfl (.inr ⟨b, _, rfl, set_eq _ _ _, ?_, hc, by simp [hol, hn.len, Nat.add_mul], ?_⟩) rfl (fun a ha => by cases ha; rfl) (.inr hb)
    · simp [Builtin.zeroCells, hzs, hol, hn.len]
      rw [← Nat.add_mul, ← Nat.add_mul]
      congr 1
      omega
    · simp only [List.append_toArray, Array.toList_append]
      rw [List.take_append_of_le_length (by simp [hol, hn.len, Nat.add_mul]), List.take_of_length_le (by simp [hol, hn.len, Nat.add_mul])]

theorem flat_snoc (ws : List (Int × List Int)) (w : Int × List Int) : flat (ws ++ [w]) = flat ws ++ wcells w := by simp [flat]

theorem write_spec (h : DRep F d fp n s) {x : Sl} {at_ : Int} {l : List Int} (hr : RdS (mns F fp) x 1 (u8s l)) (hwl : s.ws.length < 1000) (hll : l.length ≤ 9223372036854775807) :
    Spec prog 14 #[.pointer (some ⟨d, 0, none⟩), .int .i64 at_, x.v] F fun v F' => v = .int .i64 (s.write n at_ l).2 ∧ ∃ fp', DRep F' d fp' n (s.write n at_ l).1 ∧ Step fp F fp' F' := by
  have hxl := hr.len
  simp at hxl
  refine c14 ?_
  unfold b14
  refine ⟨fun h1 => ?_, fun h1 => ?_⟩
  · have e : s.write n at_ l = (s, 1) := by unfold DS.write; rw [if_pos (.inl h1)]
    rw [e]
    exact ⟨rfl, fp, h, Step.refl _ _⟩
  refine (sectors_spec h).mono ?_
  rintro v F1 ⟨rfl, rfl⟩
  refine ⟨_, rfl, fun h2 => ?_, fun h2 => ?_⟩
  · have e : s.write n at_ l = (s, 1) := by unfold DS.write; rw [if_pos (.inr (.inl h2))]
    rw [e]
    exact ⟨rfl, fp, h, Step.refl _ _⟩
  refine ⟨fun h3 => ?_, fun h3 => ?_⟩
  · have e : s.write n at_ l = (s, 1) := by unfold DS.write; rw [if_pos (.inr (.inr (by omega)))]
    rw [e]
    exact ⟨rfl, fp, h, Step.refl _ _⟩
  have hl64 : l.length = 64 := by omega
  have hcond : ¬ (at_ < 0 ∨ (n : Int) ≤ at_ ∨ l.length ≠ 64) := by omega
  refine (ready_spec h).mono ?_
  rintro v F2 ⟨rfl, fq, hrep, hst⟩
  refine ⟨_, rfl, fun h4 => ?_, fun h4 => ?_⟩
  · have e : s.write n at_ l = s.ready := by unfold DS.write; rw [if_neg hcond, if_pos h4]
    rw [e]
    exact ⟨rfl, fq, hrep, hst⟩
  have e : s.write n at_ l = ({ s.ready.1 with ws := s.ready.1.ws ++ [(at_, l)] }, 0) := by unfold DS.write; rw [if_neg hcond, if_neg h4]
  rw [e]
  have hrl : s.ready.1.ws.length ≤ s.ws.length := by
    unfold DS.ready DS.crash
    split
    · exact Nat.le_refl _
    · split
      · exact Nat.zero_le _
      · exact Nat.le_refl _
  generalize s.ready.1 = s1 at *
  have hr2 : RdS (mns F2 fq) x 1 (u8s l) := hr.le hst.le
  have hdom2 := hrep.dom
  obtain ⟨bd, dc, tl, wsl, ksl, hm⟩ := hrep
  have hne := hm.ne_db
  have hwb := hm.wblock
  have hfd : fq d := (hm.hf d).2 (.inl rfl)
  have hfb : fq bd := (hm.hf bd).2 (.inr (.inl rfl))
  obtain ⟨o1, o2, o3, o4, o5, o6, o7⟩ := hm.ok
  intro b8 hb8
  refine atI ?_
  have hfresh : ∀ c o, F2 c = some o → c ≠ b8 := fun c o hc => ne_of_fresh hb8 hc
  refine stW (set_eq _ _ _) (by simp) (by simp) ?_ ?_
  · intro v hv
    simp at hv
    rcases hv with rfl | rfl <;> exact st_int
  rw [set_twice]
  -- the data are copied into the new variable
  refine runs_copy (vs := u8s l) underlying26 rfl sz5 (hr2.le (le_trans' (mns_le _ _) (le_set_fresh _ hb8))) st_u8s (fun h0 => ?_) (fun _ => ?_)
  · simp only [Sl.cut] at h0; omega
  have hmin : min x.len (Sl.cut ⟨some ⟨b8, 1, none⟩, 64, 64⟩ 1 0 64 64).len * 1 = 64 := by simp only [Sl.cut]; omega
  rw [hmin]
  refine ⟨b8, 1, _, _, rfl, set_eq _ _ _, by simp, ?_⟩
  rw [set_twice, List.take_of_length_le (by simp [hl64])]
  have hcells : wr ((#[Value.int .i64 0] ++ Array.replicate 64 (Value.int .u8 0)).setIfInBounds 0 (Value.int .i64 at_)) 1 (u8s l) = (wcells (at_, l)).toArray := by
    have : ((#[Value.int .i64 0] ++ Array.replicate 64 (Value.int .u8 0)).setIfInBounds 0 (Value.int .i64 at_)) = (Value.int .i64 at_ :: List.replicate 64 (Value.int .u8 0)).toArray := by
      apply Array.ext'; simp
    rw [this, wr_list _ _ _ (by simp [hl64])]
    simp [hl64]
  rw [hcells]
  refine ⟨_, rfl, ⟨d, 0, none⟩, rfl, ?_⟩
  have hle3 : F2.le (F2.set b8 (.cells (wcells (at_, l)).toArray 66)) := le_set_fresh _ hb8
  have hd3 := hle3 _ _ hm.hd
  refine ⟨wsl, hdcell hd3 rfl, ?_⟩
  have hlen65 : (wcells (at_, l)).toArray.size = 65 := by simp [hl64]
  refine ⟨(wcells (at_, l)).toArray, hlen65, ?_, hlen65, ?_⟩
  · intro i hi
    rw [add_mk, cell_set_eq]
    simp
  intro b39 hb39
  refine atI ?_
  have hle4 := le_set_fresh (.cells (wcells (at_, l)).toArray 66) hb39
  have hle := le_trans' hle3 hle4
  have hb39' : F2 b39 = none := le_none hle3 hb39
  refine own_append underlying61 sz66 zr66 rfl (by decide) ((hm.hw.keepK (fp := fun _ => False) (Keep.of_le hle) (fun _ _ h => h))) (x := ⟨some ⟨b39, 0, none⟩, 1, 1⟩) (news := wcells (at_, l))
    (RdS.new (set_eq _ _ _) (by rw [List.take_of_length_le (by simp [hl64])]) (by simp [hl64]) (Nat.le_refl _)) (by simp) st_wcells (by have := hm.hl; simp only; omega) (by have := hm.hl; simp only; omega) ?_
  rintro s' F' b ob rfl hown hlen hbase hblk
  refine ⟨s', rfl, ?_⟩
  have hdb : d ≠ b := by
    rintro rfl
    rcases hblk with ⟨a, ha, hab⟩ | hn
    · exact (hwb a ha).1 hab
    · rw [hle _ _ hm.hd] at hn; cases hn
  have hbdb : bd ≠ b := by
    rintro rfl
    rcases hblk with ⟨a, ha, hab⟩ | hn
    · exact (hwb a ha).2 hab
    · rw [hle _ _ hm.hb] at hn; cases hn
  have hnewb : fq b ∨ F2 b = none := by
    rcases hblk with ⟨a, ha, hab⟩ | hn
    · exact .inl ((hm.hf b).2 (.inr (.inr ⟨a, ha, hab.symm⟩)))
    · exact .inr (le_none hle hn)
  refine st1' (b := d) (o := 1) (by simp) (by rw [set_ne _ _ hdb]; exact hle _ _ hm.hd) (by simp) ?_
  refine ⟨rfl, fun x => x = d ∨ x = bd ∨ x = b, ⟨bd, dc, tl, s', ksl, ?_⟩, hst.trans ?_⟩
  · have hkeepk : (mns F2 fq).le (mns (((((F2.set b8 (.cells (wcells (at_, l)).toArray 66)).set b39 (.cells (wcells (at_, l)).toArray 66)).set b ob).set d (.cells (#[Sl.v ⟨some ⟨bd, 0, none⟩, n * 64, dc⟩, Sl.v wsl, .bool s1.down, .int .i64 s1.fuse, Sl.v ksl].setIfInBounds 1 (Sl.v s')) 63))) (fun x => x = d ∨ x = bd ∨ x = b)) := by
      intro y o hy
      have hy' := mns_le _ _ _ _ hy
      have hnf : ¬ fq y := fun hq => by unfold mns at hy; rw [if_pos hq] at hy; cases hy
      have h1 : y ≠ d := fun e => hnf (e ▸ hfd)
      have h2 : y ≠ bd := fun e => hnf (e ▸ hfb)
      have h3 : y ≠ b := fun e => by
        subst e
        rcases hnewb with h | h
        · exact hnf h
        · rw [h] at hy'; cases hy'
      rw [mns_of (by rintro (h | h | h) <;> contradiction), set_ne _ _ h1, set_ne _ _ h3]
      exact hle _ _ hy'
    refine ⟨by rw [set_eq]; rfl, by rw [set_ne _ _ hne.symm, set_ne _ _ hbdb]; exact hle _ _ hm.hb, hm.hc, ?_, ?_, hm.hk.le hkeepk, ?_, ⟨o1, o2, o3, o4, o5, ?_, ?_⟩⟩
    · rw [flat_snoc]
      refine hown.keep (fun a ha => set_ne _ _ ?_)
      rw [hbase a ha]
      exact hdb.symm
    · rw [hlen, hm.hl]; simp
    · intro y
      constructor
      · rintro (h | h | h)
        · exact .inl h
        · exact .inr (.inl h)
        · rcases hown with ⟨_, hnil⟩ | ⟨g, cur, hg, _⟩
          · have := congrArg List.length hnil; simp [hl64] at this
          · exact .inr (.inr ⟨_, hg, by rw [hbase _ hg]; exact h⟩)
      · rintro (h | h | ⟨a, ha, h⟩)
        · exact .inl h
        · exact .inr (.inl h)
        · exact .inr (.inr (by rw [h, hbase a ha]))
    · intro w hw
      rcases List.mem_append.1 hw with hw | hw
      · exact o6 w hw
      · simp at hw; subst hw; exact ⟨by simp only; omega, by simp only; omega, hl64⟩
    · simp; omega
  · refine ⟨?_, ?_⟩
    · refine (Keep.of_le hle).trans ((Keep.set _ ?_).trans (Keep.set _ (.inl hfd)))
      rcases hblk with ⟨a, ha, hab⟩ | hn
      · exact .inl ((hm.hf b).2 (.inr (.inr ⟨a, ha, hab.symm⟩)))
      · exact .inr hn
    · rintro y (rfl | rfl | rfl)
      · exact .inl hfd
      · exact .inl hfb
      · exact hnewb
end
end Go.Proofs.Ythnolhcknhhipaa
