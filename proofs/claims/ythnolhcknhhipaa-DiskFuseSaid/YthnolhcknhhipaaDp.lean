/-
  The disk: the law DiskFuse.
-/
import Derived.Test.YthnolhcknhhipaaDn
namespace Go.Proofs.Ythnolhcknhhipaa
open Go Go.Proofs.Try

def DS.fused (z : DS) (f : Int) (K : List Int) : DS := { z with fuse := f, kept := K }
theorem fused_ready {z : DS} (h : Live z) {f : Int} {K : List Int} : (f = 1 → (z.fused f K).ready = (z.crash K, 340)) ∧ (2 ≤ f → (z.fused f K).ready = (z.fused (f - 1) K, 0)) := by
  obtain ⟨dur, ws, down, fuse, kept⟩ := z
  obtain ⟨h1, h2⟩ := h
  cases h1; cases h2
  refine ⟨fun hf => ?_, fun hf => ?_⟩
  · unfold DS.ready DS.fused
    simp only [Bool.false_eq_true, if_false, hf, if_true]
    rfl
  · have h1 : ¬ f = 1 := by omega
    unfold DS.ready DS.fused
    simp only [Bool.false_eq_true, if_false, h1, show max (f - 1) 0 = f - 1 by omega]
theorem fused_flush {z : DS} (h : Live z) {f : Int} {K : List Int} : (f = 1 → (z.fused f K).flush = (z.crash K, 340)) ∧ (2 ≤ f → (z.fused f K).flush = (z.flush.1.fused (f - 1) K, 0)) := by
  obtain ⟨h1, h2⟩ := fused_ready h (f := f) (K := K)
  refine ⟨fun hf => ?_, fun hf => ?_⟩
  · unfold DS.flush; rw [h1 hf]; simp
  · rw [h.flush]
    unfold DS.flush; rw [h2 hf]; simp [DS.fused]
theorem fused_write {z : DS} (h : Live z) {f : Int} {K : List Int} {a : Int} {l : List Int} (h0 : 0 ≤ a) (h3 : a < (4 : Nat)) (hl : l.length = 64) :
    (f = 1 → (z.fused f K).write 4 a l = (z.crash K, 340)) ∧ (2 ≤ f → (z.fused f K).write 4 a l = ((z.write 4 a l).1.fused (f - 1) K, 0)) := by
  obtain ⟨h1, h2⟩ := fused_ready h (f := f) (K := K)
  have hc : ¬ (a < 0 ∨ ((4 : Nat) : Int) ≤ a ∨ l.length ≠ 64) := by omega
  refine ⟨fun hf => ?_, fun hf => ?_⟩
  · unfold DS.write; rw [if_neg hc, h1 hf]; simp
  · rw [h.write h0 h3 hl]
    unfold DS.write; rw [if_neg hc, h2 hf]; simp [DS.fused]
theorem down_write {y : DS} (hd : y.down = true) {a : Int} {l : List Int} (h0 : 0 ≤ a) (h3 : a < (4 : Nat)) (hl : l.length = 64) : y.write 4 a l = (y, 340) := by
  have hr : y.ready = (y, 340) := by unfold DS.ready; rw [if_pos hd]
  unfold DS.write; rw [if_neg (by omega), hr]; simp
theorem down_flush {y : DS} (hd : y.down = true) : y.flush = (y, 340) := by
  have hr : y.ready = (y, 340) := by unfold DS.ready; rw [if_pos hd]
  unfold DS.flush; rw [hr]; simp
theorem prepStep_live {z : DS} (h : Live z) (o : OpD) : Live (prepStep z o) := by
  unfold prepStep; split
  · exact h.flush_live
  · exact h.write_live
theorem prepStep_ws (z : DS) (o : OpD) : (prepStep z o).ws.length ≤ z.ws.length + 1 := by
  unfold prepStep; split
  · have := z.flush_ws; omega
  · exact z.write_ws _ _ _
theorem tmod8 {n : Int} (h0 : 0 ≤ n) (h1 : n ≤ 255) : ∃ k : Nat, 1 ≤ k ∧ k ≤ 8 ∧ IntKind.i64.wrap (1 + Int.tmod (IntKind.i64.wrap n) 8) = k := by
  obtain ⟨m, rfl⟩ := Int.eq_ofNat_of_zero_le h0
  refine ⟨1 + m % 8, by omega, by omega, ?_⟩
  rw [w64_eq (x := (m : Int)) (by omega) (by omega), show Int.tmod (m : Int) 8 = ((m % 8 : Nat) : Int) from rfl, w64_eq (by omega) (by omega)]
  omega

theorem fuselaw_spec {F : PH} {l vm kept : Sl} {nn : Int} {ops ops2 : List OpD} {kl : List Int} (h : OpsRd F l ops) (h2 : OpsRd F vm ops2) (h3 : RdS F kept 1 (i64s kl)) (hkl : kept.len * 8 ≤ 140737488355328) (hn0 : 0 ≤ nn) (hn1 : nn ≤ 255) :
    Spec prog 7 #[.agg #[l.v, vm.v, .int .u8 nn, kept.v]] F fun v F' => v = .bool true ∧ F.le F' := by
  refine c7 ?_
  unfold b7
  intro b1 hb1
  refine atI ?_
  have hleb := le_set_fresh (.cells #[l.v, vm.v, .int .u8 nn, kept.v] 58) hb1
  have hc : (F.set b1 (.cells #[l.v, vm.v, .int .u8 nn, kept.v] 58)) b1 = some (.cells #[l.v, vm.v, .int .u8 nn, kept.v] 58 (0, 0)) := set_eq _ _ _
  replace h := h.le hleb
  replace h2 := h2.le hleb
  replace h3 := h3.le hleb
  generalize F.set b1 (.cells #[l.v, vm.v, .int .u8 nn, kept.v] 58) = Fb at *
  refine (sanity_spec Fb).mono ?_
  rintro v F1 ⟨rfl, hle1⟩
  have hc1 := hle1 _ _ hc
  refine ⟨_, rfl, fun h => (by cases h), fun _ => ?_⟩
  refine ⟨vm, by rw [cell_eq hc1]; rfl, kept, by rw [cell_eq hc1]; rfl, l, by rw [cell_eq hc1]; rfl, ?_⟩
  refine (prepared_spec (h.le hle1)).mono ?_
  rintro v F2 ⟨d, fp, rfl, hle2, hrep, hnew, hws⟩
  have hlive := prep_live ops
  have hkept := prep_kept ops
  generalize prep ops = s at *
  have M : Isl Fb F2 4 1 (fun _ => d) (fun _ => fp) (fun _ => fp) (fun _ => s) := Isl.one (le_trans' hle1 hle2) hrep hkept (fun b hb => le_none hle1 (hnew b hb))
  clear hle2 hrep hnew
  refine ⟨_, rfl, ?_⟩
  refine (M.copy (i := 0) (by omega) (show s.kept.length * 8 ≤ 140737488355328 by rw [hkept]; simp)).mono ?_
  rintro v F5 ⟨tw, ft, Xt, rfl, _, M2, _⟩
  clear M
  have hc5 := M2.le _ _ hc
  refine ⟨_, rfl, fun h => (by cases h), fun _ => ⟨nn, by rw [cell_eq hc5]; rfl, ?_⟩⟩
  obtain ⟨κ, k1, k8, hκ⟩ := tmod8 hn0 hn1
  rw [hκ]
  refine (M2.fuse (i := 0) (by omega) (by omega) (h3.le (le_mns_new M2.le (fun b ⟨j, hj, hb⟩ => M2.new j hj b hb))) hkl).mono ?_
  rintro v F6 ⟨rfl, fd, Xd, M3, _⟩
  clear M2
  refine ⟨rfl, ?_⟩
  have M : Isl Fb F6 4 2 (fput (fun _ => d) 1 tw) (fput (fput (fun _ => fp) 1 Xt) 0 Xd) (fput (fput (fun _ => fp) 1 ft) 0 fd) (fput (fun _ => s.fused (κ - (0 : Nat)) kl) 1 s) := M3.state (fun i hi => rfl) (fun i hi => by
    match i, hi with
    | 0, _ =>
      show s.setFuse κ kl = s.fused (κ - (0 : Nat)) kl
      unfold DS.setFuse DS.fused
      rw [show max (κ : Int) 0 = κ - (0 : Nat) by omega]
    | 1, _ => rfl)
  clear M3
  have hlen2 := h2.len
  have hbig2 := h2.big
  -- both read alike
  have eqv : ∀ (F' : PH) (X FP : Nat → Nat → Prop) (S : Nat → DS), Isl Fb F' 4 2 (fput (fun _ => d) 1 tw) X FP S → (∀ a : Int, (S 0).read 4 a = (S 1).read 4 a) → ∀ (K : Bool → PH → Prop),
      (∀ G, Isl Fb G 4 2 (fput (fun _ => d) 1 tw) X FP S → K true G) →
      Spec prog 12 #[(Value.pointer (some ⟨d, 0, none⟩))] F' fun v F => ∃ v_107 : Sl, v = (Sl.v v_107) ∧
        Spec prog 12 #[(Value.pointer (some ⟨tw, 0, none⟩))] F fun v F => ∃ v_109 : Sl, v = (Sl.v v_109) ∧
        Spec prog 18 #[(Sl.v v_107), (Sl.v v_109)] F fun v F => ∃ v_110 : Bool, v = (Value.bool v_110) ∧ K v_110 F := by
    intro F' X FP S M hr K hK
    have R0 : DRep F' d (FP 0) 4 (S 0) := M.all (i := 0) (by omega)
    have R1 : DRep F' tw (FP 1) 4 (S 1) := M.all (i := 1) (by omega)
    refine (contents_new R0).mono ?_
    rintro v G5 ⟨s1, rfl, r1, hle⟩
    replace r1 := r1.le (mns_le _ _)
    refine ⟨s1, rfl, ?_⟩
    refine (contents_new (R1.le hle)).mono ?_
    rintro v G6 ⟨s2, rfl, r2, hle2⟩
    replace r1 := r1.le hle2
    refine ⟨s2, rfl, ?_⟩
    have e : (S 0).view 4 = (S 1).view 4 := DS.view_congr fun a ha => by rw [hr a]
    have hul := DS.view_len R0.ok 4
    refine (same_spec r1 (r2.le (mns_le _ _)) (by omega)).mono ?_
    rintro v G7 ⟨rfl, rfl⟩
    rw [decide_eq_true e]
    exact ⟨_, rfl, hK _ (M.ext (le_trans' hle hle2)).1⟩
  have fin : ∀ (F' : PH) (X FP : Nat → Nat → Prop) (z : DS) (f : Int), Isl Fb F' 4 2 (fput (fun _ => d) 1 tw) X FP (fput (fun _ => z.fused f kl) 1 z) →
      b7j1 (some ⟨d, 0, none⟩) (some ⟨tw, 0, none⟩) (fun v F' => v = .bool true ∧ F.le F') F' := by
    intro F' X FP z f M
    unfold b7j1
    exact eqv F' X FP _ M (fun a => rfl) (fun v_146 F_2 => (Value.bool v_146) = .bool true ∧ F.le F_2) (fun G M => ⟨rfl, le_trans' hleb M.le⟩)
  refine ⟨fun m dn i F' => ∃ (p : Nat) (X FP : Nat → Nat → Prop) (z : DS), dn = p ∧ i = p ∧ p ≤ 12 ∧ p ≤ ops2.length ∧ p < κ ∧ m = 12 - p ∧ Isl Fb F' 4 2 (fput (fun _ => d) 1 tw) X FP (fput (fun _ => z.fused (κ - (p : Nat)) kl) 1 z) ∧ Live z ∧ z.ws.length ≤ 20 + p,
    12, ⟨0, _, _, s, rfl, rfl, by omega, by omega, by omega, rfl, M, hlive, by omega⟩, ?_⟩
  clear M
  rintro m dn i F' ⟨p, X, FP, z, rfl, rfl, hp, hpl, hpk, rfl, M, hzl, hzw⟩
  unfold b7L1
  refine ⟨fun hlt => ⟨fun hlt2 => ?_, fun hge => fin F' X FP z _ M⟩, fun hge => fin F' X FP z _ M⟩
  have hk' : p < ops2.length := by omega
  obtain ⟨b, o, hbb, hcells⟩ := h2.field hk'
  have cl : ∀ (G : PH), Fb.le G → ∀ j v, (ops2[p].cells)[j]? = some v → G.cell ⟨b, o + (p * 5 + j), none⟩ = some v := fun G hG j v hv => le_cell hG (hcells j v hv)
  have ck : ∀ (G : PH), Fb.le G → G.cell (Addr.add ⟨b, o, none⟩ (Int.toNat (p : Int) * 5)) = some (.int .u8 ops2[p].kind) := fun G hG => by simpa using cl G hG 0 _ rfl
  have ca : ∀ (G : PH), Fb.le G → G.cell (Addr.add (Addr.add ⟨b, o, none⟩ (Int.toNat (p : Int) * 5)) 1) = some (.int .i64 ops2[p].at_) := fun G hG => by simpa [Nat.add_assoc] using cl G hG 1 _ rfl
  have cf : ∀ (G : PH), Fb.le G → G.cell (Addr.add (Addr.add ⟨b, o, none⟩ (Int.toNat (p : Int) * 5)) 2) = some (.int .u8 ops2[p].fill) := fun G hG => by simpa [Nat.add_assoc] using cl G hG 2 _ rfl
  have hm4 := mod4_range ops2[p].at_
  have hrl : (List.replicate 64 ops2[p].fill).length = 64 := by simp
  obtain ⟨w1, w2⟩ := fused_write hzl (f := κ - (p : Nat)) (K := kl) (a := mod4 ops2[p].at_) (l := List.replicate 64 ops2[p].fill) (by omega) (by omega) hrl
  obtain ⟨u1, u2⟩ := fused_flush hzl (f := κ - (p : Nat)) (K := kl)
  -- behind the operation on the disk
  have j3 : ∀ (G : PH) (X FP : Nat → Nat → Prop) (y : DS) (e : Int), Isl Fb G 4 2 (fput (fun _ => d) 1 tw) X FP (fput (fun _ => y) 1 z) → ((κ : Int) - (p : Nat) = 1 → y = z.crash kl ∧ e = 340) → (2 ≤ (κ : Int) - (p : Nat) → y = (prepStep z ops2[p]).fused (κ - (p : Nat) - 1) kl ∧ e = 0) →
      b7j3 (fun done_9 i_10 F => ∃ m', m' < 12 - p ∧ ∃ (p : Nat) (X FP : Nat → Nat → Prop) (z : DS), done_9 = p ∧ i_10 = p ∧ p ≤ 12 ∧ p ≤ ops2.length ∧ p < κ ∧ m' = 12 - p ∧ Isl Fb F 4 2 (fput (fun _ => d) 1 tw) X FP (fput (fun _ => z.fused (κ - (p : Nat)) kl) 1 z) ∧ Live z ∧ z.ws.length ≤ 20 + p)
        vm kept (some ⟨d, 0, none⟩) (some ⟨tw, 0, none⟩) nn (p : Int) (p : Int) ops2[p].at_ e (fun v F' => v = .bool true ∧ F.le F') G := by
    intro G X FP y e M hy1 hy2
    unfold b7j3
    rw [hκ, w64s (by omega), mod4_wrap]
    refine ⟨fun h1 => ?_, fun h1 => ?_⟩
    · obtain ⟨rfl, rfl⟩ := hy1 (by omega)
      obtain ⟨yl, yw, _, yd⟩ := crash_live hzl kl
      refine (M.crash (i := 1) (by omega) (h3.le (le_mns_new M.le (fun b ⟨j, hj, hb⟩ => M.new j hj b hb)))).mono ?_
      rintro v G1 ⟨rfl, f1, X1, M1, _⟩
      refine ⟨rfl, ?_⟩
      refine (M1.power (i := 1) (by omega)).mono ?_
      rintro v G2 ⟨rfl, f2, X2, M2, _⟩
      refine ⟨rfl, fun h => absurd rfl h, fun _ => ?_⟩
      have M3 := M2.state (I' := fput (fun _ => d) 1 tw) (S' := fput (fun _ => z.crash kl) 1 (z.crash kl).power) (fun i hi => rfl) (fun i hi => by
        match i, hi with
        | 0, _ => rfl
        | 1, _ => rfl)
      clear M1 M2
      refine (filled_new G2).mono ?_
      rintro v G3 ⟨sl, rfl, _, _, hf, hle⟩
      have hrow := M3.rowStep hf
      have M4 := (M3.ext hle).1
      refine ⟨sl, rfl, ?_⟩
      have hzw2 : (z.crash kl).ws.length < 1000 := by have := congrArg List.length yw; simp only [DS.power] at this; simp at this; rw [this]; simp
      refine (M4.write (i := 0) (at_ := 0) (by omega) hrow hzw2 (by simp)).mono ?_
      rintro v G4 ⟨rfl, f4, X4, M5, _⟩
      have e5 : ((fput (fun _ => z.crash kl) 1 (z.crash kl).power) 0).write 4 0 (List.replicate 64 1) = (z.crash kl, 340) := down_write yd (by omega) (by omega) (by simp)
      rw [e5] at M5 ⊢
      refine ⟨_, rfl, fun h => absurd rfl h, fun _ => ?_⟩
      refine (M5.flush (i := 0) (by omega)).mono ?_
      rintro v G5 ⟨rfl, f5, X5, M6, _⟩
      have e6 : ((fput (fput (fun _ => z.crash kl) 1 (z.crash kl).power) 0 (z.crash kl)) 0).flush = (z.crash kl, 340) := down_flush yd
      rw [e6] at M6 ⊢
      refine ⟨_, rfl, fun h => absurd rfl h, fun _ => ?_⟩
      have R6 : DRep G5 d f5 4 (z.crash kl) := M6.all (i := 0) (by omega)
      refine (pending_spec R6).mono ?_
      rintro v G6 ⟨rfl, rfl⟩
      have hw0 : (z.crash kl).ws = [] := yw
      refine ⟨_, rfl, fun h => absurd (by rw [hw0]; rfl) h, fun _ => ?_⟩
      refine (M6.power (i := 0) (by omega)).mono ?_
      rintro v G7 ⟨rfl, f7, X7, M7, _⟩
      refine ⟨rfl, ?_⟩
      have M8 := M7.state (I' := fput (fun _ => d) 1 tw) (S' := fun _ => (z.crash kl).power) (fun i hi => rfl) (fun i hi => by
        match i, hi with
        | 0, _ => rfl
        | 1, _ => rfl)
      clear M4 M5 M6 M7 M3
      refine eqv _ _ _ _ M8 (fun a => rfl) _ ?_
      intro G8 M9
      refine ⟨fun _ => ?_, fun h => (by cases h)⟩
      refine (filled_new G8).mono ?_
      rintro v G9 ⟨sl2, rfl, _, _, hf2, hle2⟩
      have hrow2 := M9.rowStep hf2
      have M10 := (M9.ext hle2).1
      refine ⟨sl2, rfl, ?_⟩
      refine (M10.write (i := 0) (at_ := 0) (by omega) hrow2 (by rw [yw]; decide) (by simp)).mono ?_
      rintro v G10 ⟨rfl, f10, X10, M11, _⟩
      have e10 := yl.write (n := 4) (a := 0) (l := List.replicate 64 1) (by omega) (by omega) (by simp)
      refine ⟨_, rfl, fun _ => ?_, fun h => absurd (by rw [e10]) h⟩
      refine (M11.flush (i := 0) (by omega)).mono ?_
      rintro v G11 ⟨rfl, f11, X11, M12, _⟩
      refine ⟨_, rfl, ?_, le_trans' hleb M12.le⟩
      have e11 : ((fput (fun _ => (z.crash kl).power) 0 ((z.crash kl).power.write 4 0 (List.replicate 64 1)).1) 0).flush.2 = 0 := by
        show ((z.crash kl).power.write 4 0 (List.replicate 64 1)).1.flush.2 = 0
        rw [yl.write_live.flush]
      exact congrArg Value.bool (decide_eq_true e11)
    · obtain ⟨rfl, rfl⟩ := hy2 (by omega)
      refine ⟨fun h => absurd rfl h, fun _ => ⟨_, hbb, by omega, hlt, _, ck G M.le, fun k4 => ?_, fun k4 => ?_⟩⟩
      · refine (M.flush (i := 1) (by omega)).mono ?_
        rintro v G1 ⟨rfl, f1, X1, M1, _⟩
        refine ⟨_, rfl, ?_⟩
        unfold b7j2
        have e : prepStep z ops2[p] = z.flush.1 := by unfold prepStep; rw [if_pos k4]
        refine ⟨12 - (p + 1), by omega, p + 1, _, _, prepStep z ops2[p], rfl, w64s (by omega), by omega, by omega, by omega, rfl, M1.state (fun _ _ => rfl) (fun i hi => ?_), prepStep_live hzl _, by have := prepStep_ws z ops2[p]; omega⟩
        match i, hi with
        | 0, _ =>
          show (prepStep z ops2[p]).fused _ kl = (prepStep z ops2[p]).fused _ kl
          congr 1; omega
        | 1, _ => exact e.symm
      · refine ⟨_, hbb, by omega, hlt, _, cf G M.le, ?_⟩
        refine (filled_new G).mono ?_
        rintro v G1 ⟨sl, rfl, _, _, hf, hle⟩
        have hrow := M.rowStep hf
        have M1 := (M.ext hle).1
        refine ⟨sl, rfl, ?_⟩
        refine (M1.write (i := 1) (by omega) hrow (show z.ws.length < 1000 by omega) (by simp)).mono ?_
        rintro v G2 ⟨rfl, f2, X2, M2, _⟩
        refine ⟨_, rfl, ?_⟩
        unfold b7j2
        have e : prepStep z ops2[p] = (z.write 4 (mod4 ops2[p].at_) (List.replicate 64 ops2[p].fill)).1 := by unfold prepStep; rw [if_neg k4]
        refine ⟨12 - (p + 1), by omega, p + 1, _, _, prepStep z ops2[p], rfl, w64s (by omega), by omega, by omega, by omega, rfl, M2.state (fun _ _ => rfl) (fun i hi => ?_), prepStep_live hzl _, by have := prepStep_ws z ops2[p]; omega⟩
        match i, hi with
        | 0, _ =>
          show (prepStep z ops2[p]).fused _ kl = (prepStep z ops2[p]).fused _ kl
          congr 1; omega
        | 1, _ => exact e.symm
  refine ⟨_, hbb, by omega, hlt, _, ca F' M.le, ?_⟩
  rw [mod4_wrap]
  refine (M.write (i := 0) (x := Sl.nil) (l := []) (by omega) (RdS.nil _ _) (show z.ws.length < 1000 by omega) (by simp)).mono ?_
  rintro v G1 ⟨rfl, f1, X1, M1, _⟩
  have e1 : ((fput (fun _ => z.fused (κ - (p : Nat)) kl) 1 z) 0).write 4 (mod4 ops2[p].at_) [] = (z.fused (κ - (p : Nat)) kl, 1) := by
    show (z.fused (κ - (p : Nat)) kl).write 4 (mod4 ops2[p].at_) [] = _
    unfold DS.write
    rw [if_pos (.inr (.inr (by simp)))]
  rw [e1] at M1 ⊢
  have M2 := M1.state (I' := fput (fun _ => d) 1 tw) (S' := fput (fun _ => z.fused (κ - (p : Nat)) kl) 1 z) (fun i hi => rfl) (fun i hi => by
    match i, hi with
    | 0, _ => rfl
    | 1, _ => rfl)
  refine ⟨_, rfl, fun h => absurd rfl h, fun _ => ⟨_, hbb, by omega, hlt, _, ck G1 M2.le, fun k4 => ?_, fun k4 => ?_⟩⟩
  · refine (M2.flush (i := 0) (by omega)).mono ?_
    rintro v G2 ⟨rfl, f2, X2, M3, _⟩
    refine ⟨_, rfl, ?_⟩
    have e : prepStep z ops2[p] = z.flush.1 := by unfold prepStep; rw [if_pos k4]
    refine j3 G2 _ _ (z.fused (κ - (p : Nat)) kl).flush.1 _ (M3.state (fun _ _ => rfl) (fun i hi => ?_)) (fun hf => ?_) (fun hf => ?_)
    · match i, hi with
      | 0, _ => rfl
      | 1, _ => rfl
    · show (z.fused (κ - (p : Nat)) kl).flush.1 = _ ∧ (z.fused (κ - (p : Nat)) kl).flush.2 = _
      rw [u1 hf]; exact ⟨rfl, rfl⟩
    · show (z.fused (κ - (p : Nat)) kl).flush.1 = _ ∧ (z.fused (κ - (p : Nat)) kl).flush.2 = _
      rw [u2 hf, e]; exact ⟨rfl, rfl⟩
  · refine ⟨_, hbb, by omega, hlt, _, cf G1 M2.le, ?_⟩
    refine (filled_new G1).mono ?_
    rintro v G2 ⟨sl, rfl, _, _, hf, hle⟩
    have hrow := M2.rowStep hf
    have M3 := (M2.ext hle).1
    refine ⟨sl, rfl, ?_⟩
    refine (M3.write (i := 0) (by omega) hrow (show z.ws.length < 1000 by omega) (by simp)).mono ?_
    rintro v G3 ⟨rfl, f3, X3, M4, _⟩
    refine ⟨_, rfl, ?_⟩
    have e : prepStep z ops2[p] = (z.write 4 (mod4 ops2[p].at_) (List.replicate 64 ops2[p].fill)).1 := by unfold prepStep; rw [if_neg k4]
    refine j3 G3 _ _ ((z.fused (κ - (p : Nat)) kl).write 4 (mod4 ops2[p].at_) (List.replicate 64 ops2[p].fill)).1 _ (M4.state (fun _ _ => rfl) (fun i hi => ?_)) (fun hf => ?_) (fun hf => ?_)
    · match i, hi with
      | 0, _ => rfl
      | 1, _ => rfl
    · show ((z.fused (κ - (p : Nat)) kl).write 4 (mod4 ops2[p].at_) (List.replicate 64 ops2[p].fill)).1 = _ ∧ ((z.fused (κ - (p : Nat)) kl).write 4 (mod4 ops2[p].at_) (List.replicate 64 ops2[p].fill)).2 = _
      rw [w1 hf]; exact ⟨rfl, rfl⟩
    · show ((z.fused (κ - (p : Nat)) kl).write 4 (mod4 ops2[p].at_) (List.replicate 64 ops2[p].fill)).1 = _ ∧ ((z.fused (κ - (p : Nat)) kl).write 4 (mod4 ops2[p].at_) (List.replicate 64 ops2[p].fill)).2 = _
      rw [w2 hf, e]; exact ⟨rfl, rfl⟩
end Go.Proofs.Ythnolhcknhhipaa
