/-
  The disk: what is read, in plain Lean; the law DiskReads.
-/
import Derived.Test.YthnolhcknhhipaaDg
import Derived.Test.YthnolhcknhhipaaGd
namespace Go.Proofs.Ythnolhcknhhipaa
open Go Go.Proofs.Try

/-! rows of sectors -/
theorem rdN_pre {ws x : List (Int × List Int)} {a : Int} {l : List Int} : ∀ {k : Nat}, k ≤ ws.length → DS.rdN (ws ++ x) a l k = DS.rdN ws a l k := by
  intro k
  induction k with
  | zero => intro _; rfl
  | succ k ih =>
    intro h
    simp only [DS.rdN]
    rw [List.getElem?_append_left (by omega), ih (by omega)]
theorem rdN_snoc {ws : List (Int × List Int)} {w : Int × List Int} {a : Int} {l : List Int} : DS.rdN (ws ++ [w]) a l (ws ++ [w]).length = if w.1 = a then w.2 else DS.rdN ws a l ws.length := by
  rw [List.length_append, List.length_singleton]
  simp only [DS.rdN]
  rw [List.getElem?_append_right (Nat.le_refl _), Nat.sub_self]
  simp only [List.getElem?_cons_zero]
  rw [rdN_pre (Nat.le_refl _)]
def sec (dur : List Int) (a : Nat) : List Int := (dur.drop (a * 64)).take 64
theorem sec_len {dur : List Int} {a n : Nat} (h : dur.length = n * 64) (ha : a < n) : (sec dur a).length = 64 := by simp [sec, h]; omega
theorem sec_get {dur : List Int} {a i : Nat} (hi : i < 64) : (sec dur a)[i]? = dur[a * 64 + i]? := by
  unfold sec
  rw [List.getElem?_take_of_lt hi, List.getElem?_drop]
theorem ovr_get {dur l : List Int} {o i : Nat} (h : o + l.length ≤ dur.length) : (ovr dur o l)[i]? = if o ≤ i ∧ i < o + l.length then l[i - o]? else dur[i]? := by
  unfold ovr
  by_cases h1 : i < o
  · rw [if_neg (by omega), List.append_assoc, List.getElem?_append_left (by simp; omega), List.getElem?_take_of_lt h1]
  · by_cases h2 : i < o + l.length
    · rw [if_pos ⟨by omega, h2⟩, List.getElem?_append_left (by simp; omega), List.getElem?_append_right (by simp; omega)]
      congr 1
      simp; omega
    · rw [if_neg (by omega), List.getElem?_append_right (by simp; omega), List.getElem?_drop]
      congr 1
      simp; omega
theorem sec_ovr {dur l : List Int} {w a n : Nat} (hd : dur.length = n * 64) (hl : l.length = 64) (hw : w < n) : sec (ovr dur (w * 64) l) a = if w = a then l else sec dur a := by
  apply List.ext_getElem?
  intro i
  by_cases hi : i < 64
  · rw [sec_get hi, ovr_get (by omega)]
    by_cases h : w = a
    · subst h
      rw [if_pos rfl, if_pos (by omega)]
      congr 1; omega
    · rw [if_neg h, if_neg (by omega), sec_get hi]
  · have e : ∀ x : List Int, x.length ≤ 64 → x[i]? = none := fun x hx => List.getElem?_eq_none (by omega)
    have h2 : (if w = a then l else sec dur a).length ≤ 64 := by
      by_cases h : w = a
      · rw [if_pos h]; omega
      · rw [if_neg h]; simp [sec]; omega
    rw [e _ (by simp [sec]; omega), e _ h2]
theorem sec_flN {ws : List (Int × List Int)} {dur : List Int} {n a : Nat} (hws : ∀ w ∈ ws, 0 ≤ w.1 ∧ w.1 < n ∧ w.2.length = 64) (hd : dur.length = n * 64) : ∀ k, sec (flN ws dur k) a = DS.rdN ws a (sec dur a) k := by
  intro k
  induction k with
  | zero => rfl
  | succ k ih =>
    simp only [flN, DS.rdN]
    cases hk : ws[k]? with
    | none => exact ih
    | some w =>
      have hm := hws w (List.mem_of_getElem? hk)
      simp only []
      rw [sec_ovr (flN_len hws hd k) hm.2.2 (by omega), ih]
      by_cases h : w.1 = (a : Int)
      · rw [if_pos (by omega), if_pos h]
      · rw [if_neg (by omega), if_neg h]

/-! a disk that is up and has no fuse -/
structure Live (s : DS) : Prop where
  up : s.down = false
  fuse : s.fuse = 0
theorem Live.ready {s : DS} (h : Live s) : s.ready = (s, 0) := by
  obtain ⟨dur, ws, down, fuse, kept⟩ := s
  obtain ⟨h1, h2⟩ := h
  cases h1; cases h2
  rfl
theorem Live.write {s : DS} (h : Live s) {n : Nat} {a : Int} {l : List Int} (h0 : 0 ≤ a) (h1 : a < n) (hl : l.length = 64) : s.write n a l = ({ s with ws := s.ws ++ [(a, l)] }, 0) := by
  unfold DS.write
  rw [if_neg (by omega), h.ready]
  rfl
theorem Live.flush {s : DS} (h : Live s) : s.flush = ({ s with dur := flN s.ws s.dur s.ws.length, ws := [] }, 0) := by
  unfold DS.flush
  rw [h.ready]
  rfl
theorem Live.write_live {s : DS} (h : Live s) {n : Nat} {a : Int} {l : List Int} : Live (s.write n a l).1 := by
  unfold DS.write
  split
  · exact h
  · rw [h.ready]
    exact ⟨h.up, h.fuse⟩
theorem Live.flush_live {s : DS} (h : Live s) : Live s.flush.1 := by rw [h.flush]; exact ⟨h.up, h.fuse⟩
theorem prep_live (ops : List OpD) : Live (prep ops) := by
  have : ∀ (l : List OpD) (s : DS), Live s → Live (l.foldl prepStep s) := by
    intro l
    induction l with
    | nil => intro s h; exact h
    | cons o l ih =>
      intro s h
      refine ih _ ?_
      unfold prepStep
      split
      · exact h.flush_live
      · exact h.write_live
  exact this _ _ ⟨rfl, rfl⟩
theorem prep_kept (ops : List OpD) : (prep ops).kept = [] := by
  have : ∀ (l : List OpD) (s : DS), Live s → s.kept = [] → (l.foldl prepStep s).kept = [] := by
    intro l
    induction l with
    | nil => intro s _ h; exact h
    | cons o l ih =>
      intro s h hk
      refine ih _ ?_ ?_
      · unfold prepStep
        split
        · exact h.flush_live
        · exact h.write_live
      · unfold prepStep
        split
        · rw [h.flush]; exact hk
        · unfold DS.write
          split
          · exact hk
          · rw [h.ready]; exact hk
  exact this _ _ ⟨rfl, rfl⟩ rfl
theorem Live.read {s : DS} (h : Live s) {n : Nat} {a : Nat} (ha : a < n) : s.read n a = (DS.rdN s.ws a (sec s.dur a) s.ws.length, 0) := by
  unfold DS.read
  rw [if_neg (by omega), h.up]
  simp [DS.sect, sec]
theorem Live.read_len {s : DS} (h : Live s) {n a : Nat} (hok : s.ok n) (ha : a < n) : (s.read n a).1.length = 64 := by
  rw [h.read ha]
  exact rdN_len hok.ws (sec_len hok.dur ha) _
theorem DS.view_congr {s t : DS} : ∀ {k : Nat}, (∀ a : Nat, a < k → (s.read 4 a).1 = (t.read 4 a).1) → s.view k = t.view k := by
  intro k
  induction k with
  | zero => intro _; rfl
  | succ k ih =>
    intro h
    simp only [DS.view]
    rw [ih (fun a ha => h a (by omega)), h k (by omega)]
theorem Live.view_len {s : DS} (h : Live s) (hok : s.ok 4) : ∀ {k : Nat}, k ≤ 4 → (s.view k).length = k * 64 := by
  intro k
  induction k with
  | zero => intro _; rfl
  | succ k ih =>
    intro hk
    have := h.read_len hok (show k < 4 by omega)
    simp only [DS.view, List.length_append, ih (show k ≤ 4 by omega), this]
    omega
theorem Live.view_get {s : DS} (h : Live s) (hok : s.ok 4) : ∀ {k i : Nat}, k ≤ 4 → i < k * 64 → (s.view k)[i]? = (s.read 4 (i / 64 : Nat)).1[i % 64]? := by
  intro k
  induction k with
  | zero => intro i _ hi; omega
  | succ k ih =>
    intro i hk hi
    have hl := h.view_len hok (show k ≤ 4 by omega)
    simp only [DS.view]
    by_cases h1 : i < k * 64
    · rw [List.getElem?_append_left (by omega), ih (by omega) h1]
    · rw [List.getElem?_append_right (by omega), hl, show i / 64 = k by omega, show i - k * 64 = i % 64 by omega]
theorem Live.flush_read {s : DS} (h : Live s) {n a : Nat} (hok : s.ok n) (ha : a < n) : (s.flush.1.read n a).1 = (s.read n a).1 := by
  rw [h.flush_live.read ha, h.read ha, h.flush]
  exact sec_flN hok.ws hok.dur _
theorem Live.write_read {s : DS} (h : Live s) {n a : Nat} {b : Int} {l : List Int} (ha : a < n) (h0 : 0 ≤ b) (h1 : b < n) (hl : l.length = 64) : ((s.write n b l).1.read n a).1 = if b = a then l else (s.read n a).1 := by
  rw [h.write_live.read ha, h.read ha, h.write h0 h1 hl]
  exact rdN_snoc

/-- A byte of a row of bytes, and the cell that holds it. -/
theorem RdS.at {F : PH} {sl : Sl} {l : List Int} (h : RdS F sl 1 (u8s l)) {i : Nat} (hi : i < l.length) : ∃ b o, sl.base = some ⟨b, o, none⟩ ∧ (i : Int) < (sl.len : Int) ∧ F.cell (Addr.add ⟨b, o, none⟩ (Int.toNat (i : Int) * 1)) = some (.int .u8 l[i]) := by
  have hl := h.len
  simp at hl
  obtain ⟨b, o, hb, hc⟩ := h.cells (by omega)
  refine ⟨b, o, hb, by omega, ?_⟩
  have := hc i (by simpa using hi)
  simpa using this
theorem w64i {x : Int} (h0 : -9223372036854775808 ≤ x) (h1 : x ≤ 9223372036854775807) : IntKind.i64.wrap x = x := w64_eq h0 h1
theorem tdiv64 {k : Nat} (h : k < 1000000) : IntKind.i64.wrap (Int.tdiv (k : Int) 64) = ((k / 64 : Nat) : Int) := by
  rw [show Int.tdiv (k : Int) 64 = ((k / 64 : Nat) : Int) from rfl]
  exact w64_eq (by omega) (by omega)
theorem tmod64 {k : Nat} : Int.tmod (k : Int) 64 = ((k % 64 : Nat) : Int) := rfl
theorem tmodU {a : Int} (h0 : 0 ≤ a) (h1 : a ≤ 9223372036854775807) : Int.tmod (IntKind.i64.wrap a) 4 = ((a.toNat % 4 : Nat) : Int) := by
  rw [w64_eq (by omega) h1]
  obtain ⟨k, rfl⟩ := Int.eq_ofNat_of_zero_le h0
  rfl

theorem reads_spec {F : PH} {l : Sl} {ops : List OpD} {at_ fill : Int} (h : OpsRd F l ops) (ha0 : 0 ≤ at_) (ha1 : at_ ≤ 255) : Spec prog 3 #[l.v, .int .u8 at_, .int .u8 fill] F fun v F' => v = .bool true ∧ F.le F' := by
  refine c3 ?_
  unfold b3
  refine (sanity_spec F).mono ?_
  rintro v F1 ⟨rfl, hle1⟩
  refine ⟨_, rfl, fun h => (by cases h), fun _ => ?_⟩
  refine (prepared_spec (h.le hle1)).mono ?_
  rintro v F2 ⟨d, fp, rfl, hle2, hrep, hnew, hws⟩
  have W : Wd F F2 d fp 4 (prep ops) := ⟨le_trans' hle1 hle2, hrep, fun b hb => le_none hle1 (hnew b hb)⟩
  clear hle1 hle2 hrep hnew
  have hlive := prep_live ops
  generalize prep ops = s at *
  refine ⟨_, rfl, ?_⟩
  refine (contents_with W.rep).mono ?_
  rintro v F3 ⟨sb, rfl, hb, hrep, hst⟩
  replace W := W.step hrep hst; clear hrep hst
  refine ⟨sb, rfl, ?_⟩
  refine (pending_spec W.rep).mono ?_
  rintro v F4 ⟨rfl, rfl⟩
  refine ⟨_, rfl, ?_⟩
  refine (filled_with W.rep).mono ?_
  rintro v F5 ⟨sl, rfl, _, _, hrd, hrep, hst⟩
  replace W := W.step hrep hst; replace hb := hb.le hst.le; clear hrep hst
  refine ⟨sl, rfl, ?_⟩
  rw [tmodU ha0 (by omega)]
  obtain ⟨a, ha⟩ : ∃ a, a = at_.toNat % 4 := ⟨_, rfl⟩
  have ha4 : a < 4 := by omega
  rw [← ha]
  refine (write_spec W.rep hrd (by omega) (by simp)).mono ?_
  rintro v F6 ⟨rfl, fp2, hrep, hst⟩
  have hok := W.rep.ok
  replace W := W.step hrep hst
  replace hb := hb.le hst.le
  clear hrep hst hrd
  refine ⟨_, rfl, ?_⟩
  have hl64 : (List.replicate 64 fill).length = 64 := by simp
  have hw := hlive.write (n := 4) (a := (a : Int)) (l := List.replicate 64 fill) (by omega) (by omega) hl64
  have htr : ∀ x : Nat, x < 4 → ((s.write 4 (a : Int) (List.replicate 64 fill)).1.read 4 x).1 = if (a : Int) = x then List.replicate 64 fill else (s.read 4 x).1 := fun x hx => hlive.write_read hx (by omega) (by omega) hl64
  have htl : Live (s.write 4 (a : Int) (List.replicate 64 fill)).1 := hlive.write_live
  have hp : (s.write 4 (a : Int) (List.replicate 64 fill)).1.ws.length = s.ws.length + 1 := by rw [hw]; simp
  have hz : (s.write 4 (a : Int) (List.replicate 64 fill)).2 = 0 := by rw [hw]
  generalize (s.write 4 (a : Int) (List.replicate 64 fill)).1 = t at *
  rw [hz]
  refine (read_with W.rep).mono ?_
  rintro v F7 ⟨sg, rfl, hg, hrep, hst, _⟩
  replace W := W.step hrep hst; replace hb := hb.le hst.le; clear hrep hst
  refine ⟨sg, _, rfl, ?_⟩
  refine (contents_with W.rep).mono ?_
  rintro v F8 ⟨sm, rfl, hm, hrep, hst⟩
  replace W := W.step hrep hst; replace hb := hb.le hst.le; replace hg := hg.le hst.le; clear hrep hst
  refine ⟨sm, rfl, ?_⟩
  refine (pending_spec W.rep).mono ?_
  rintro v F9 ⟨rfl, rfl⟩
  refine ⟨_, rfl, ?_⟩
  refine (flush_spec W.rep).mono ?_
  rintro v F10 ⟨rfl, fp3, hrep, hst⟩
  have hokt := W.rep.ok
  replace W := W.step hrep hst
  replace hb := hb.le hst.le; replace hg := hg.le hst.le; replace hm := hm.le hst.le
  clear hrep hst
  refine ⟨_, rfl, ?_⟩
  have hlb := hb.len
  have hlm := hm.len
  have hvs := hlive.view_len hok (Nat.le_refl 4)
  have hvt := htl.view_len hokt (Nat.le_refl 4)
  simp at hlb hlm
  have hfin : b3j1 fill (some ⟨d, 0, none⟩) (s.ws.length : Int) 0 sg (t.read 4 (a : Int)).2 sm (t.ws.length : Int) t.flush.2 (fun v F' => v = .bool true ∧ F.le F') F10 := by
    unfold b3j1
    refine ⟨fun _ => ⟨fun _ => ⟨fun _ => ⟨fun _ => ?_, fun h => absurd ?_ h⟩, fun h => absurd ?_ h⟩, fun h => absurd ?_ h⟩, fun h => absurd rfl h⟩
    · refine (filled_with W.rep).mono ?_
      rintro v F11 ⟨sf, rfl, _, _, hf, hrep, hst⟩
      replace W := W.step hrep hst; replace hg := hg.le hst.le; replace hm := hm.le hst.le; clear hrep hst
      refine ⟨sf, rfl, ?_⟩
      have e1 : (t.read 4 (a : Int)).1 = List.replicate 64 fill := by rw [htr a ha4, if_pos rfl]
      refine (same_with hg hf (by rw [e1]; simp)).mono ?_
      rintro v F12 ⟨rfl, rfl⟩
      rw [decide_eq_true e1]
      refine ⟨_, rfl, fun _ => ?_, fun h => by cases h⟩
      refine (contents_with W.rep).mono ?_
      rintro v F13 ⟨su, rfl, hu, hrep, hst⟩
      replace W := W.step hrep hst; replace hm := hm.le hst.le; clear hrep hst
      refine ⟨su, rfl, ?_⟩
      have e2 : t.flush.1.view 4 = t.view 4 := DS.view_congr fun x hx => htl.flush_read hokt hx
      refine (same_with hu hm (by rw [e2, hvt]; decide)).mono ?_
      rintro v F14 ⟨rfl, rfl⟩
      rw [decide_eq_true e2]
      refine ⟨_, rfl, fun _ => ?_, fun h => by cases h⟩
      refine (pending_spec W.rep).mono ?_
      rintro v F15 ⟨rfl, rfl⟩
      refine ⟨_, rfl, ?_, W.le⟩
      rw [htl.flush]
      rfl
    · rw [hp]
      exact (w64_eq (by omega) (by omega)).symm
    · rw [htl.flush]
    · rw [htl.read ha4]
  refine ⟨fun m i F' => ∃ k : Nat, i = k ∧ k ≤ 256 ∧ m = 256 - k ∧ F' = F10, 256, ⟨0, rfl, by omega, rfl, rfl⟩, ?_⟩
  rintro m i F' ⟨k, rfl, hk, rfl, rfl⟩
  unfold b3L1
  refine ⟨fun h1 => ⟨fun h2 => ⟨fun h3 => ?_, fun h3 => ?_⟩, fun _ => hfin⟩, fun _ => hfin⟩
  · have hk2 : k < 256 := by omega
    obtain ⟨b1, o1, hb1, hl1, hc1⟩ := (hb.le (mns_le _ _)).at (i := k) (by omega)
    obtain ⟨b2, o2, hb2, hl2, hc2⟩ := (hm.le (mns_le _ _)).at (i := k) (by omega)
    refine ⟨_, hb1, by omega, by omega, _, hc1, _, hb2, by omega, by omega, _, hc2, fun h => absurd ?_ h, fun _ => ?_⟩
    · apply Option.some.inj
      rw [← List.getElem?_eq_getElem, ← List.getElem?_eq_getElem, hlive.view_get hok (Nat.le_refl 4) (by omega), htl.view_get hokt (Nat.le_refl 4) (by omega), htr _ (by omega), if_neg]
      rw [tdiv64 (by omega)] at h3
      rw [tmodU ha0 (by omega), ← ha] at h3
      exact fun he => h3 he.symm
    · unfold b3j2
      exact ⟨256 - (k + 1), by omega, k + 1, w64s (by omega), by omega, rfl, rfl⟩
  · unfold b3j2
    exact ⟨256 - (k + 1), by omega, k + 1, w64s (by omega), by omega, rfl, rfl⟩
end Go.Proofs.Ythnolhcknhhipaa
