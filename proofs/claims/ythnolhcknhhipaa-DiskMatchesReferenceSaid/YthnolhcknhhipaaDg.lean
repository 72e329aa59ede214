/-
  The disk: the examples of the chapter.
-/
import Derived.Test.YthnolhcknhhipaaDf
namespace Go.Proofs.Ythnolhcknhhipaa
open Go Go.Proofs.Try

/-- A disk that was made behind F0. -/
structure Wd (F0 F : PH) (d : Nat) (fp : Nat → Prop) (n : Nat) (s : DS) : Prop where
  le : F0.le F
  rep : DRep F d fp n s
  new : ∀ b, fp b → F0 b = none
theorem Wd.step {F0 F F' : PH} {d n : Nat} {fp fq : Nat → Prop} {s s' : DS} (h : Wd F0 F d fp n s) (hr : DRep F' d fq n s') (hs : Step fp F fq F') : Wd F0 F' d fq n s' := by
  obtain ⟨h1, h2⟩ := hs.fresh h.le h.new
  exact ⟨h1, hr, h2⟩
theorem Wd.args {F0 F : PH} {d n : Nat} {fp : Nat → Prop} {s : DS} (h : Wd F0 F d fp n s) : F0.le (mns F fp) := le_mns_new h.le h.new

abbrev A97 : List Int := List.replicate 64 97
abbrev A98 : List Int := List.replicate 64 98
def z0 : DS := ⟨List.replicate (Int.toNat 2 * 64) 0, [], false, 0, []⟩
def z1 : DS := (z0.write 2 0 A97).1
def z2 : DS := z1.flush.1
def z3 : DS := (z2.write 2 0 A98).1
def z4 : DS := z3.crash [3]
def z5 : DS := z4.power
def z6 : DS := z5.setFuse 2 [64]
def z7 : DS := (z6.write 2 2 A97).1
def z8 : DS := (z7.write 2 0 (A97.take 63)).1
def z9 : DS := (z8.write 2 1 A97).1
def z10 : DS := z9.flush.1
def z11 : DS := z10.power
theorem e1 : (z0.write 2 0 A97).2 = 0 := by decide +kernel
theorem e2 : z1.flush.2 = 0 := by decide +kernel
theorem e3 : (z2.write 2 0 A98).2 = 0 := by decide +kernel
theorem e4 : (z4.read 2 0).2 = 340 := by decide +kernel
theorem e5 : (z5.read 2 0).2 = 0 := by decide +kernel
theorem e5' : (z5.read 2 0).1 = A98.take 3 ++ A97.take 61 := by decide +kernel
theorem e7 : (z6.write 2 2 A97).2 = 1 := by decide +kernel
theorem e8 : (z7.write 2 0 (A97.take 63)).2 = 1 := by decide +kernel
theorem e9 : (z8.write 2 1 A97).2 = 0 := by decide +kernel
theorem e10 : z9.flush.2 = 340 := by decide +kernel
theorem e11 : (z11.read 2 1).2 = 0 := by decide +kernel
theorem e11' : (z11.read 2 1).1 = A97 := by decide +kernel
theorem e12 : z11.ws.length = 0 := by decide +kernel
theorem w1 : z0.ws.length < 1000 ∧ z2.ws.length < 1000 ∧ z6.ws.length < 1000 ∧ z7.ws.length < 1000 ∧ z8.ws.length < 1000 := by decide +kernel

/-- A row of one number that is new. -/
theorem one_new {F : PH} {d n : Nat} {fp : Nat → Prop} {s : DS} (h : DRep F d fp n s) {b : Nat} (hb : F b = none) (x : Int) :
    RdS (mns (F.set b (.cells #[.int .i64 x] 3)) fp) ⟨some ⟨b, 0, none⟩, 1, 1⟩ 1 (i64s [x]) :=
  rd_new (F := F.set b (.cells #[.int .i64 x] 3)) (l := i64s [x]) (tl := []) (e := 3) (by rw [set_eq]; rfl) (fun hp => h.dom b hp hb) rfl (Nat.le_refl _)

theorem sanity_spec (F : PH) : Spec prog 10 #[] F fun v F' => v = .bool true ∧ F.le F' := by
  obtain ⟨w1, w2, w3, w4, w5⟩ := w1
  refine c10 ?_
  unfold b10
  refine (new_spec F (by decide) (by decide)).mono ?_
  rintro v F1 (⟨h1, _⟩ | ⟨h1, _⟩ | ⟨_, _, d, fp, rfl, hle, hrep, hnew⟩)
  · omega
  · omega
  have W : Wd F F1 d fp 2 z0 := ⟨hle, hrep, hnew⟩
  clear hle hrep hnew
  refine ⟨_, _, rfl, fun h => absurd rfl h, fun _ => ⟨fun h => (by cases h), fun _ => ?_⟩⟩
  refine (filled_with W.rep).mono ?_
  rintro v F2 ⟨sl, rfl, _, _, hrd, hrep, hst⟩
  replace W := W.step hrep hst; clear hrep hst
  refine ⟨sl, rfl, ?_⟩
  refine (write_spec W.rep hrd w1 (by simp)).mono ?_
  rintro v F3 ⟨rfl, fp2, hrep, hst⟩
  replace W : Wd F F3 d fp2 2 z1 := W.step hrep hst
  clear hrep hst hrd
  refine ⟨_, rfl, ?_⟩
  refine (flush_spec W.rep).mono ?_
  rintro v F4 ⟨rfl, fp3, hrep, hst⟩
  replace W : Wd F F4 d fp3 2 z2 := W.step hrep hst
  clear hrep hst
  refine ⟨_, rfl, ?_⟩
  refine (filled_with W.rep).mono ?_
  rintro v F5 ⟨sl, rfl, _, _, hrd, hrep, hst⟩
  replace W := W.step hrep hst; clear hrep hst
  refine ⟨sl, rfl, ?_⟩
  refine (write_spec W.rep hrd w2 (by simp)).mono ?_
  rintro v F6 ⟨rfl, fp4, hrep, hst⟩
  replace W : Wd F F6 d fp4 2 z3 := W.step hrep hst
  clear hrep hst hrd
  refine ⟨_, rfl, ?_⟩
  intro b hb
  refine atI ?_
  have hrd := one_new W.rep hb 3
  replace W := W.step (W.rep.le (le_set_fresh _ hb)) (Step.of_le (le_set_fresh (.cells #[.int .i64 3] 3) hb))
  refine (crash_spec W.rep hrd).mono ?_
  rintro v F7 ⟨rfl, fp5, hrep, hst⟩
  replace W : Wd F F7 d fp5 2 z4 := W.step hrep hst
  clear hrep hst hrd
  refine ⟨rfl, ?_⟩
  refine (read_with W.rep).mono ?_
  rintro v F8 ⟨sl, rfl, hrd, hrep, hst, _⟩
  replace W := W.step hrep hst; clear hrep hst hrd
  refine ⟨sl, _, rfl, ?_⟩
  refine (power_spec W.rep).mono ?_
  rintro v F9 ⟨rfl, hrep, hst⟩
  replace W : Wd F F9 d fp5 2 z5 := W.step hrep hst
  clear hrep hst
  refine ⟨rfl, ?_⟩
  refine (read_with W.rep).mono ?_
  rintro v F10 ⟨ss, rfl, hs, hrep, hst, _⟩
  replace W := W.step hrep hst; clear hrep hst
  refine ⟨ss, _, rfl, ?_⟩
  refine (filled_with W.rep).mono ?_
  rintro v F11 ⟨sb, rfl, lb, cb, hb, hrep, hst⟩
  replace W := W.step hrep hst; replace hs := hs.le hst.le; clear hrep hst
  refine ⟨sb, rfl, by omega, by omega, by omega, by omega, by omega, ?_⟩
  refine (filled_with W.rep).mono ?_
  rintro v F12 ⟨sa, rfl, la, ca, ha, hrep, hst⟩
  replace W := W.step hrep hst; replace hs := hs.le hst.le; replace hb := hb.le hst.le; clear hrep hst
  refine ⟨sa, rfl, by omega, by omega, ?_⟩
  have hcb := (hb.le (mns_le _ _)).cut (l := 0) (r := Int.toNat 3) (m := Int.toNat 3) (by omega) (by omega) (by omega)
  have hca := (ha.le (mns_le _ _)).cut (l := 0) (r := 61) (m := sa.cap) (by omega) (by omega) (by omega)
  refine runs_append underlying26 sz5 zr5 rfl hcb hca (fun v hv => st_u8s v (List.mem_of_mem_drop (List.mem_of_mem_take hv))) (by simp [Sl.cut]) (by simp [Sl.cut]) (fun h0 => by simp [Sl.cut] at h0) (fun _ h1 => by simp [Sl.cut] at h1) ?_
  intro _ cap b hcap hbf
  refine ⟨_, rfl, ?_⟩
  have hwant : ∃ tl, (List.toArray (List.take ((Int.toNat 3 - 0) * 1) (List.drop (0 * 1) (u8s (List.replicate 64 98)))) ++ List.toArray (List.take ((61 - 0) * 1) (List.drop (0 * 1) (u8s (List.replicate 64 97)))) ++
      Builtin.zeroCells (Value.int .u8 0).cells (cap - ((sb.cut 1 0 (Int.toNat 3) (Int.toNat 3)).len + (sa.cut 1 0 61 sa.cap).len))) = (u8s (A98.take 3 ++ A97.take 61) ++ tl).toArray := by
    refine ⟨(Builtin.zeroCells (Value.int .u8 0).cells (cap - ((sb.cut 1 0 (Int.toNat 3) (Int.toNat 3)).len + (sa.cut 1 0 61 sa.cap).len))).toList, ?_⟩
    apply Array.ext'
    simp
  obtain ⟨tl, hwant⟩ := hwant
  rw [hwant]
  have hw : RdS (mns (F12.set b (.cells (u8s (A98.take 3 ++ A97.take 61) ++ tl).toArray 5)) fp5) ⟨some ⟨b, 0, none⟩, (sb.cut 1 0 (Int.toNat 3) (Int.toNat 3)).len + (sa.cut 1 0 61 sa.cap).len, cap⟩ 1 (u8s (A98.take 3 ++ A97.take 61)) :=
    rd_new (e := 5) (set_eq _ _ _) (fun hp => W.rep.dom b hp hbf) (by simp [Sl.cut]) hcap
  generalize hws : (Sl.mk (some ⟨b, 0, none⟩) ((sb.cut 1 0 (Int.toNat 3) (Int.toNat 3)).len + (sa.cut 1 0 61 sa.cap).len) cap) = ws at *
  have hst := Step.of_le (fp := fp5) (le_set_fresh (.cells (u8s (A98.take 3 ++ A97.take 61) ++ tl).toArray 5) hbf)
  replace hs := hs.le hst.le
  replace W := W.step (W.rep.le (le_set_fresh _ hbf)) hst
  clear hst hcb hca hb ha hwant
  generalize F12.set b (.cells (u8s (A98.take 3 ++ A97.take 61) ++ tl).toArray 5) = F13 at *
  intro b2 hb2
  refine atI ?_
  have hrd := one_new W.rep hb2 64
  have hst := Step.of_le (fp := fp5) (le_set_fresh (.cells #[.int .i64 64] 3) hb2)
  replace hs := hs.le hst.le
  replace hw := hw.le hst.le
  replace W := W.step (W.rep.le (le_set_fresh _ hb2)) hst
  refine (fuse_spec W.rep (k := 2) (by decide) (hrd.le (mns_le _ _)) (by simp)).mono ?_
  rintro v F14 ⟨rfl, hrep, hst⟩
  replace W : Wd F F14 d fp5 2 z6 := W.step hrep hst
  replace hs := hs.le hst.le; replace hw := hw.le hst.le
  clear hrep hst hrd
  refine ⟨rfl, ?_⟩
  refine (filled_with W.rep).mono ?_
  rintro v F15 ⟨sl, rfl, _, _, hrd, hrep, hst⟩
  replace W := W.step hrep hst; replace hs := hs.le hst.le; replace hw := hw.le hst.le; clear hrep hst
  refine ⟨sl, rfl, ?_⟩
  refine (write_spec W.rep hrd w3 (by simp)).mono ?_
  rintro v F16 ⟨rfl, fp6, hrep, hst⟩
  replace W : Wd F F16 d fp6 2 z7 := W.step hrep hst
  replace hs := hs.le hst.le; replace hw := hw.le hst.le
  clear hrep hst hrd
  refine ⟨_, rfl, fun _ => ?_, fun h => absurd e7 h⟩
  refine (filled_with W.rep).mono ?_
  rintro v F17 ⟨sl, rfl, hl, hc, hrd, hrep, hst⟩
  replace W := W.step hrep hst; replace hs := hs.le hst.le; replace hw := hw.le hst.le; clear hrep hst
  refine ⟨sl, rfl, by omega, by omega, ?_⟩
  have hcut := hrd.cut (l := 0) (r := 63) (m := sl.cap) (by omega) (by omega) (by omega)
  have he : (List.take ((63 - 0) * 1) (List.drop (0 * 1) (u8s (List.replicate 64 97)))) = u8s (A97.take 63) := by simp
  rw [he] at hcut
  refine (write_spec W.rep hcut w4 (by simp)).mono ?_
  rintro v F18 ⟨rfl, fp7, hrep, hst⟩
  replace W : Wd F F18 d fp7 2 z8 := W.step hrep hst
  replace hs := hs.le hst.le; replace hw := hw.le hst.le
  clear hrep hst hrd hcut
  refine ⟨_, rfl, ?_⟩
  rw [show decide ((z7.write 2 0 (A97.take 63)).2 = 1) = true from decide_eq_true e8]
  unfold b10j1
  refine (filled_with W.rep).mono ?_
  rintro v F19 ⟨sl2, rfl, _, _, hrd, hrep, hst⟩
  replace W := W.step hrep hst; replace hs := hs.le hst.le; replace hw := hw.le hst.le; clear hrep hst
  refine ⟨sl2, rfl, ?_⟩
  refine (write_spec W.rep hrd w5 (by simp)).mono ?_
  rintro v F20 ⟨rfl, fp8, hrep, hst⟩
  replace W : Wd F F20 d fp8 2 z9 := W.step hrep hst
  replace hs := hs.le hst.le; replace hw := hw.le hst.le
  clear hrep hst hrd
  refine ⟨_, rfl, ?_⟩
  refine (flush_spec W.rep).mono ?_
  rintro v F21 ⟨rfl, fp9, hrep, hst⟩
  replace W : Wd F F21 d fp9 2 z10 := W.step hrep hst
  replace hs := hs.le hst.le; replace hw := hw.le hst.le
  clear hrep hst
  refine ⟨_, rfl, ?_⟩
  refine (power_spec W.rep).mono ?_
  rintro v F22 ⟨rfl, hrep, hst⟩
  replace W : Wd F F22 d fp9 2 z11 := W.step hrep hst
  replace hs := hs.le hst.le; replace hw := hw.le hst.le
  clear hrep hst
  refine ⟨rfl, ?_⟩
  refine (read_with W.rep).mono ?_
  rintro v F23 ⟨st, rfl, ht, hrep, hst, _⟩
  replace W := W.step hrep hst; replace hs := hs.le hst.le; replace hw := hw.le hst.le; clear hrep hst
  refine ⟨st, _, rfl, ?_⟩
  rw [show (z0.write 2 0 (List.replicate 64 97)).2 = 0 from e1, show z1.flush.2 = 0 from e2, show (z2.write 2 0 (List.replicate 64 98)).2 = 0 from e3, show (z4.read 2 0).2 = 340 from e4, show (z5.read 2 0).2 = 0 from e5,
    show (z8.write 2 1 (List.replicate 64 97)).2 = 0 from e9, show z9.flush.2 = 340 from e10, show (z11.read 2 1).2 = 0 from e11]
  refine ⟨fun _ => ⟨fun _ => ⟨fun _ => ⟨fun _ => ⟨fun _ => ⟨fun _ => ⟨fun _ => ?_, fun h => absurd rfl h⟩, fun h => absurd rfl h⟩, fun h => absurd rfl h⟩, fun h => absurd rfl h⟩, fun h => absurd rfl h⟩, fun h => absurd rfl h⟩, fun h => absurd rfl h⟩
  unfold b10j2
  refine ⟨fun _ => ⟨fun _ => ?_, fun h => by cases h⟩, fun h => by cases h⟩
  refine (same_with hs hw (by rw [e5']; decide)).mono ?_
  rintro v F24 ⟨rfl, rfl⟩
  rw [decide_eq_true e5']
  refine ⟨_, rfl, fun _ => ?_, fun h => by cases h⟩
  refine (filled_with W.rep).mono ?_
  rintro v F25 ⟨sl3, rfl, _, _, hrd, hrep, hst⟩
  replace W := W.step hrep hst; replace ht := ht.le hst.le; clear hrep hst
  refine ⟨sl3, rfl, ?_⟩
  refine (same_with ht hrd (by rw [e11']; decide)).mono ?_
  rintro v F26 ⟨rfl, rfl⟩
  rw [decide_eq_true e11']
  refine ⟨_, rfl, fun _ => ?_, fun h => by cases h⟩
  refine (pending_spec W.rep).mono ?_
  rintro v F27 ⟨rfl, rfl⟩
  refine ⟨_, rfl, fun _ => ?_, fun h => absurd (by rw [e12]; rfl) h⟩
  refine (sectors_spec W.rep).mono ?_
  rintro v F28 ⟨rfl, rfl⟩
  exact ⟨_, rfl, rfl, W.le⟩
end Go.Proofs.Ythnolhcknhhipaa
