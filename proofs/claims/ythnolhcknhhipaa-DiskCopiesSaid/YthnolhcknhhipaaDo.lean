/-
  The disk: the law DiskCopies.
-/
import Derived.Test.YthnolhcknhhipaaDn
namespace Go.Proofs.Ythnolhcknhhipaa
open Go Go.Proofs.Try

theorem copies_spec {F : PH} {l vm kept : Sl} {ops ops2 : List OpD} {kl : List Int} (h : OpsRd F l ops) (h2 : OpsRd F vm ops2) (h3 : RdS F kept 1 (i64s kl)) : Spec prog 8 #[l.v, vm.v, kept.v] F fun v F' => v = .bool true ∧ F.le F' := by
  refine c8 ?_
  unfold b8
  refine (sanity_spec F).mono ?_
  rintro v F1 ⟨rfl, hle1⟩
  refine ⟨_, rfl, fun h => (by cases h), fun _ => ?_⟩
  refine (prepared_spec (h.le hle1)).mono ?_
  rintro v F2 ⟨d, fp, rfl, hle2, hrep, hnew, hws⟩
  have hkept := prep_kept ops
  generalize prep ops = s at *
  have M : Isl F F2 4 1 (fun _ => d) (fun _ => fp) (fun _ => fp) (fun _ => s) := Isl.one (le_trans' hle1 hle2) hrep hkept (fun b hb => le_none hle1 (hnew b hb))
  clear hle1 hle2 hrep hnew
  have hok : s.ok 4 := (M.all (i := 0) (by omega)).ok
  have hvl := DS.view_len hok 4
  refine ⟨_, rfl, ?_⟩
  refine (contents_new (M.all (i := 0) (by omega))).mono ?_
  rintro v F3 ⟨sb, rfl, hb, hle⟩
  replace hb := M.rowStep hb
  replace M := (M.ext hle).1
  clear hle
  refine ⟨sb, rfl, ?_⟩
  refine (pending_spec (M.all (i := 0) (by omega))).mono ?_
  rintro v F4 ⟨rfl, rfl⟩
  refine ⟨_, rfl, ?_⟩
  refine (M.copy (i := 0) (by omega) (show s.kept.length * 8 ≤ 140737488355328 by rw [hkept]; simp)).mono ?_
  rintro v F5 ⟨c, fc, Xc, rfl, _, M2, hst⟩
  replace hb := hb.le hst.le
  clear M hst
  refine ⟨_, rfl, ?_⟩
  refine (M2.copy (i := 0) (by omega) (show s.kept.length * 8 ≤ 140737488355328 by rw [hkept]; simp)).mono ?_
  rintro v F6 ⟨tw, ft, Xt, rfl, _, M3, hst⟩
  replace hb := hb.le hst.le
  clear M2 hst
  have M : Isl F F6 4 3 (fput (fput (fun _ => d) 1 c) 2 tw) (fput (fput (fun _ => fp) 1 Xc) 2 Xt) (fput (fput (fun _ => fp) 1 fc) 2 ft) (fput (fun _ => s) 0 s) := M3.state (fun i hi => rfl) (fun i hi => by
    match i, hi with
    | 0, _ => rfl
    | 1, _ => rfl
    | 2, _ => rfl)
  clear M3
  refine ⟨_, rfl, fun h => (by cases h), fun _ => ⟨fun h => (by cases h), fun _ => ?_⟩⟩
  have hR : DRep F6 c fc 4 s := M.all (i := 1) (by omega)
  refine (contents_new hR).mono ?_
  rintro v F7 ⟨sc, rfl, hc, hle⟩
  replace hc := M.rowStep hc
  replace hb := hb.le (M.ext hle).2.le
  replace M := (M.ext hle).1
  replace hR := hR.le hle
  clear hle
  refine ⟨sc, rfl, ?_⟩
  refine (same_spec (hc.le (mns_le _ _)) (hb.le (mns_le _ _)) (by omega)).mono ?_
  rintro v F8 ⟨rfl, rfl⟩
  rw [decide_eq_true rfl]
  refine ⟨_, rfl, fun h => (by cases h), fun _ => ?_⟩
  clear hc
  refine (pending_spec hR).mono ?_
  rintro v F9 ⟨rfl, rfl⟩
  refine ⟨_, rfl, fun h => absurd rfl h, fun _ => ?_⟩
  clear hR
  have hlen2 := h2.len
  have hbig2 := h2.big
  have fin : ∀ (F' : PH) (I : Nat → Nat) (X FP : Nat → Nat → Prop) (y : DS), I 0 = d → Isl F F' 4 3 I X FP (fput (fun _ => y) 0 s) → RdS (mns F' (allF 3 FP)) sb 1 (u8s (s.view 4)) →
      b8j1 kept (some ⟨d, 0, none⟩) sb (s.ws.length : Int) (some ⟨I 1, 0, none⟩) (some ⟨I 2, 0, none⟩) (fun v F' => v = .bool true ∧ F.le F') F' := by
    intro F' I X FP y hI M hb
    unfold b8j1
    refine (M.crash (i := 1) (by omega) (h3.le (le_mns_new M.le (fun b ⟨j, hj, hb⟩ => M.new j hj b hb)))).mono ?_
    rintro v G1 ⟨rfl, f1, X1, M1, hst⟩
    replace hb := hb.le hst.le
    clear hst
    refine ⟨rfl, ?_⟩
    refine (M1.crash (i := 2) (by omega) (h3.le (le_mns_new M1.le (fun b ⟨j, hj, hb⟩ => M1.new j hj b hb)))).mono ?_
    rintro v G2 ⟨rfl, f2, X2, M2, hst⟩
    replace hb := hb.le hst.le
    clear hst M1
    refine ⟨rfl, ?_⟩
    refine (M2.power (i := 1) (by omega)).mono ?_
    rintro v G3 ⟨rfl, f3, X3, M3, hst⟩
    replace hb := hb.le hst.le
    clear hst M2
    refine ⟨rfl, ?_⟩
    refine (M3.power (i := 2) (by omega)).mono ?_
    rintro v G4 ⟨rfl, f4, X4, M4, hst⟩
    replace hb := hb.le hst.le
    clear hst M3
    refine ⟨rfl, ?_⟩
    obtain ⟨u, hu⟩ : ∃ u, u = (y.crash kl).power := ⟨_, rfl⟩
    have R1 : DRep G4 (I 1) _ 4 (y.crash kl).power := M4.all (i := 1) (by omega)
    have R2 : DRep G4 (I 2) _ 4 (y.crash kl).power := M4.all (i := 2) (by omega)
    rw [← hu] at R1 R2
    have hul := DS.view_len R1.ok 4
    refine (contents_new R1).mono ?_
    rintro v G5 ⟨s1, rfl, r1, hle⟩
    replace r1 := r1.le (mns_le _ _)
    replace hb := hb.le (M4.ext hle).2.le
    have M5 := (M4.ext hle).1
    refine ⟨s1, rfl, ?_⟩
    refine (contents_new (R2.le hle)).mono ?_
    rintro v G6 ⟨s2, rfl, r2, hle2⟩
    replace r1 := r1.le hle2
    replace hb := hb.le (M5.ext hle2).2.le
    have M6 := (M5.ext hle2).1
    refine ⟨s2, rfl, ?_⟩
    refine (same_spec r1 (r2.le (mns_le _ _)) (by omega)).mono ?_
    rintro v G7 ⟨rfl, rfl⟩
    rw [decide_eq_true rfl]
    refine ⟨_, rfl, fun _ => ?_, fun h => (by cases h)⟩
    have R0 : DRep G7 d (FP 0) 4 s := by rw [← hI]; exact M6.all (i := 0) (by omega)
    refine (contents_new R0).mono ?_
    rintro v G8 ⟨s0, rfl, r0, hle3⟩
    replace hb := hb.le (M6.ext hle3).2.le
    refine ⟨s0, rfl, ?_⟩
    refine (same_spec (r0.le (mns_le _ _)) (hb.le (mns_le _ _)) (by omega)).mono ?_
    rintro v G9 ⟨rfl, rfl⟩
    rw [decide_eq_true rfl]
    refine ⟨_, rfl, fun _ => ?_, fun h => (by cases h)⟩
    refine (pending_spec (R0.le hle3)).mono ?_
    rintro v G10 ⟨rfl, rfl⟩
    exact ⟨_, rfl, by rw [decide_eq_true rfl], (M6.ext hle3).1.le⟩
  refine ⟨fun m c11 t12 i F' => ∃ (p : Nat) (I : Nat → Nat) (X FP : Nat → Nat → Prop) (y : DS), i = p ∧ p ≤ 20 ∧ p ≤ ops2.length ∧ m = 20 - p ∧ I 0 = d ∧ c11 = some ⟨I 1, 0, none⟩ ∧ t12 = some ⟨I 2, 0, none⟩ ∧ Isl F F' 4 3 I X FP (fput (fun _ => y) 0 s) ∧
      y.ws.length ≤ 20 + p ∧ y.kept.length * 8 ≤ 140737488355328 ∧ RdS (mns F' (allF 3 FP)) sb 1 (u8s (s.view 4)),
    20, ⟨0, _, _, _, s, rfl, by omega, by omega, rfl, rfl, rfl, rfl, M, by omega, by rw [hkept]; simp, hb⟩, ?_⟩
  rintro m c11 t12 i F' ⟨p, I, X, FP, y, rfl, hp, hpl, rfl, hI, rfl, rfl, M, hyw, hyk, hb⟩
  unfold b8L1
  refine ⟨fun hlt => ⟨fun hlt2 => ?_, fun hge => fin F' I X FP y hI M hb⟩, fun hge => fin F' I X FP y hI M hb⟩
  have hk' : p < ops2.length := by omega
  obtain ⟨b, o, hbb, _⟩ := h2.field hk'
  refine ⟨_, hbb, by omega, hlt, ops2[p].cells.toArray, rfl, (h2.le M.le).row hk' hbb, ?_⟩
  refine (M.doOp (i := 1) (by omega) (h2.ok hk') hyk (show y.ws.length < 1000 by omega)).mono ?_
  rintro v G1 ⟨d1, f1, X1, rfl, M1, hst⟩
  replace hb := hb.le hst.le
  refine ⟨_, _, rfl, _, hbb, by omega, hlt, ops2[p].cells.toArray, rfl, (h2.le M1.le).row hk' hbb, ?_⟩
  refine (M1.doOp (i := 2) (by omega) (h2.ok hk') hyk (show y.ws.length < 1000 by omega)).mono ?_
  rintro v G2 ⟨d2, f2, X2, rfl, M2, hst2⟩
  replace hb := hb.le hst2.le
  refine ⟨_, _, rfl, fun h => absurd rfl h, fun _ => ?_⟩
  have hw2 := y.doOp_ws 4 ops2[p]
  refine ⟨20 - (p + 1), by omega, p + 1, _, _, _, (y.doOp 4 ops2[p]).1, w64s (by omega), by omega, by omega, rfl, ?_, rfl, rfl, M2.state (fun _ _ => rfl) (fun i hi => ?_), by omega, y.doOp_kept 4 (h2.ok hk') hyk, hb⟩
  · exact hI
  · match i, hi with
    | 0, _ => rfl
    | 1, _ => rfl
    | 2, _ => rfl
end Go.Proofs.Ythnolhcknhhipaa
