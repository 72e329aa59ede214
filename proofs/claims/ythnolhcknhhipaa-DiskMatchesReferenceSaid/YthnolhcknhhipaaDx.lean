/-
  The disk: the law DiskMatchesReference.
-/
import Derived.Test.YthnolhcknhhipaaDw
namespace Go.Proofs.Ythnolhcknhhipaa
open Go Go.Proofs.Try

/-- A disk and the reference's state of it, side by side in a part G of the heap. -/
structure Duo (F0 G : PH) (n : Nat) (I : Nat → Nat) (X FP : Nat → Nat → Prop) (s : DS) (cs : Array Value) : Prop where
  isl : Isl F0 G n 1 I X FP (fun _ => s)
  ref : RRep (mns G (allF 1 FP)) cs n s
theorem Duo.disk {F0 G F : PH} {n : Nat} {I : Nat → Nat} {X FP : Nat → Nat → Prop} {s : DS} {cs : Array Value} {o : OpD} (D : Duo F0 G n I X FP s cs) (hG : G.le F) (ho : OpOk F0 o) (hk : s.kept.length * 8 ≤ 140737488355328) (hw : s.ws.length < 1000) :
    Spec prog 23 #[.pointer (some ⟨I 0, 0, none⟩), .agg o.cells.toArray] F fun v F' => ∃ G' I' X' FP', v = .tuple #[.pointer (some ⟨I' 0, 0, none⟩), .int .i64 (s.doOp n o).2] ∧
      Isl F0 G' n 1 I' X' FP' (fun _ => (s.doOp n o).1) ∧ RRep (mns G' (allF 1 FP')) cs n s ∧ G'.le F' ∧ ∀ b ob, G b = none → F b = some ob → F' b = some ob ∧ G' b = none := by
  refine ((D.isl.doOp (i := 0) (by omega) ho hk hw).upon hG).mono ?_
  rintro v F' ⟨G', ⟨d', fq, X', rfl, M, hst⟩, hG', hkp⟩
  exact ⟨G', _, _, _, rfl, M.state (I' := fput I 0 d') (fun _ _ => rfl) (fun i hi => by
    obtain rfl : i = 0 := by omega
    rfl), D.ref.le hst.le, hG', hkp⟩
theorem Duo.refer {F0 G F : PH} {n : Nat} {I : Nat → Nat} {X FP : Nat → Nat → Prop} {s s2 : DS} {cs : Array Value} {o : OpD} (M : Isl F0 G n 1 I X FP (fun _ => s2)) (hr : RRep (mns G (allF 1 FP)) cs n s) (hG : G.le F) (ho : OpOk F0 o) (hw : s.ws.length < 1000) (hs2 : s2 = (s.doOp n o).1) :
    Spec prog 24 #[.agg cs, .agg o.cells.toArray] F fun v F' => ∃ cs' G', v = .tuple #[.agg cs', .int .i64 (s.doOp n o).2] ∧ Duo F0 G' n I X FP s2 cs' ∧ G'.le F' ∧ ∀ b ob, G b = none → F b = some ob → F' b = some ob ∧ G' b = none := by
  have hFR : F0.le (mns G (allF 1 FP)) := le_mns_new M.le (fun b ⟨j, hj, hb⟩ => M.new j hj b hb)
  refine ((do_ref hr (ho.le hFR) hw).upon (le_trans' (mns_le G (allF 1 FP)) hG)).mono ?_
  rintro v F' ⟨R, ⟨cs', rfl, hle, hr'⟩, hR, hkp⟩
  have hnone : ∀ b, allF 1 FP b → R b = none := fun b hb => by
    have h1 : mns G (allF 1 FP) b = none := by simp [mns, hb]
    have h2 := M.fdom b hb
    cases hg : G b with
    | none => exact absurd hg h2
    | some ob => exact (hkp b ob h1 (hG _ _ hg)).2
  have hGG : G.le ((only G (allF 1 FP)).and R) := fun b ob hb => by
    by_cases hp : allF 1 FP b
    · exact PH.and_left (by rw [only_of hp]; exact hb)
    · rw [PH.and_right (only_not hp)]
      exact hle b ob (by rw [mns_of hp]; exact hb)
  refine ⟨cs', (only G (allF 1 FP)).and R, rfl, ⟨?_, ?_⟩, fun b ob hb => ?_, fun b ob hb ho2 => ?_⟩
  · exact (M.ext hGG).1
  · rw [← hs2] at hr'
    refine hr'.le (fun b ob hb => ?_)
    have hp : ¬ allF 1 FP b := fun hp => by rw [hnone b hp] at hb; cases hb
    rw [mns_of hp, PH.and_right (only_not hp)]
    exact hb
  · by_cases hp : allF 1 FP b
    · have hg : G b = some ob := by
        cases hg : G b with
        | none => exact absurd hg (M.fdom b hp)
        | some o' =>
          rw [PH.and_left (o := o') (by rw [only_of hp]; exact hg)] at hb
          exact hb
      exact (hkp b ob (by simp [mns, hp]) (hG _ _ hg)).1
    · rw [PH.and_right (only_not hp)] at hb
      exact hR b ob hb
  · have h1 : mns G (allF 1 FP) b = none := by
      cases hm : mns G (allF 1 FP) b with
      | none => rfl
      | some o' => rw [mns_le _ _ _ _ hm] at hb; cases hb
    obtain ⟨h2, h3⟩ := hkp b ob h1 ho2
    refine ⟨h2, ?_⟩
    have hp : only G (allF 1 FP) b = none := by
      cases hm : only G (allF 1 FP) b with
      | none => rfl
      | some o' => rw [only_le _ _ _ _ hm] at hb; cases hb
    rw [PH.and_right hp]
    exact h3

theorem matches_spec {F : PH} {k : Int} {l : Sl} {ops : List OpD} (h : OpsRd F l ops) (hk0 : -9223372036854775808 ≤ k) (hk1 : k ≤ 9223372036854775807) : Spec prog 5 #[.int .i64 k, l.v] F fun v F' => v = .bool true ∧ F.le F' := by
  refine c5 ?_
  unfold b5
  refine (sanity_spec F).mono ?_
  rintro v F1 ⟨rfl, hle1⟩
  have main : b5j1 k l true (fun v F' => v = .bool true ∧ F.le F') F1 := by
    replace h := h.le hle1
    unfold b5j1
    refine (new_spec F1 hk0 hk1).mono ?_
    rintro v F2 (⟨h1, rfl, rfl⟩ | ⟨h1, rfl, rfl⟩ | ⟨h1, h1', d, fp, rfl, hle2, hrep, hnew⟩)
    · refine ⟨_, _, rfl, ?_⟩
      refine (new_ref F2 hk0 hk1).mono ?_
      rintro v F3 ⟨hle3, cs, hs, hst, ⟨_, rfl⟩ | ⟨h2, _⟩ | ⟨h2, _⟩⟩
      · refine ⟨cs, _, rfl, ?_⟩
        intro b8 hb8
        refine atI ?_
        refine stW (set_eq _ _ _) hs rfl hst ?_
        rw [set_twice]
        exact ⟨fun h => absurd rfl h, fun _ => ⟨fun _ => ⟨rfl, le_trans' hle1 (le_trans' hle3 (le_set_fresh _ hb8))⟩, fun h => absurd (by decide) h⟩⟩
      · omega
      · omega
    · refine ⟨_, _, rfl, ?_⟩
      refine (new_ref F2 hk0 hk1).mono ?_
      rintro v F3 ⟨hle3, cs, hs, hst, ⟨h2, _⟩ | ⟨_, rfl⟩ | ⟨_, h2, _⟩⟩
      · omega
      · refine ⟨cs, _, rfl, ?_⟩
        intro b8 hb8
        refine atI ?_
        refine stW (set_eq _ _ _) hs rfl hst ?_
        rw [set_twice]
        exact ⟨fun h => absurd rfl h, fun _ => ⟨fun _ => ⟨rfl, le_trans' hle1 (le_trans' hle3 (le_set_fresh _ hb8))⟩, fun h => absurd (by decide) h⟩⟩
      · omega
    obtain ⟨n, rfl⟩ := Int.eq_ofNat_of_zero_le (show 0 ≤ k by omega)
    simp only [Int.toNat_natCast] at hrep
    refine ⟨_, _, rfl, ?_⟩
    refine ((new_ref F1 hk0 hk1).upon hle2).mono ?_
    rintro v F3 ⟨R, ⟨hleR, cs, hs, hst, ⟨h2, _⟩ | ⟨h2, _⟩ | ⟨_, _, rfl, hr⟩⟩, hR, hkp⟩
    · omega
    · omega
    simp only [Int.toNat_natCast] at hr
    have h23 : F2.le F3 := fun b o hb => by
      cases hf : F1 b with
      | none => exact (hkp b o hf hb).1
      | some o' =>
        have := hle2 _ _ hf
        rw [hb] at this; cases this
        exact hR _ _ (hleR _ _ hf)
    have M : Isl F1 F3 n 1 (fun _ => d) (fun _ => fp) (fun _ => fp) (fun _ => ⟨List.replicate (n * 64) 0, [], false, 0, []⟩) := ((Isl.one hle2 hrep rfl hnew).ext h23).1
    have D : Duo F1 F3 n (fun _ => d) (fun _ => fp) (fun _ => fp) ⟨List.replicate (n * 64) 0, [], false, 0, []⟩ cs := ⟨M, hr.le (fun b o hb => by
      rw [mns_of]
      · exact hR b o hb
      · rintro ⟨j, _, hp⟩
        have h1 := hnew b hp
        have h2 := hrep.dom b hp
        cases hf : F2 b with
        | none => exact h2 hf
        | some o' => rw [(hkp b o' h1 hf).2] at hb; cases hb)⟩
    refine ⟨cs, _, rfl, ?_⟩
    intro b8 hb8
    refine atI ?_
    refine stW (set_eq _ _ _) hs rfl hst ?_
    rw [set_twice]
    refine ⟨fun h => absurd rfl h, fun _ => ⟨fun h => absurd rfl h, fun _ => ?_⟩⟩
    have hlen := h.len
    refine ⟨fun m d6 i F' => ∃ (p : Nat) (I : Nat → Nat) (X FP : Nat → Nat → Prop) (s : DS) (cs : Array Value) (G : PH), d6 = some ⟨I 0, 0, none⟩ ∧ i = p ∧ p ≤ 40 ∧ p ≤ ops.length ∧ m = 40 - p ∧ Duo F1 G n I X FP s cs ∧ G.le F' ∧ G b8 = none ∧ F' b8 = some (.cells cs 48 (0, 0)) ∧ s.ws.length ≤ p ∧ s.kept.length * 8 ≤ 140737488355328,
      40, ⟨0, _, _, _, _, cs, F3, rfl, rfl, by omega, by omega, rfl, D, le_set_fresh _ hb8, hb8, set_eq _ _ _, by simp, by simp⟩, ?_⟩
    clear D M hr hR hkp h23 hb8 hrep hnew hs hst hle2 hleR
    rintro m d6 i F' ⟨p, I, X, FP, s, cs, G, rfl, rfl, hp, hpl, rfl, D, hG, hG8, h8, hsw, hsk⟩
    unfold b5L1
    have fin : b5j2 true (fun v F' => v = .bool true ∧ F.le F') F' := by
      unfold b5j2
      exact ⟨rfl, le_trans' hle1 (le_trans' D.isl.le hG)⟩
    refine ⟨fun hlt => ⟨fun hlt2 => ?_, fun _ => fin⟩, fun _ => fin⟩
    clear fin
    have hk' : p < ops.length := by omega
    obtain ⟨b, o, hbb, _⟩ := h.field hk'
    have hop := fun (H : PH) (hH : F1.le H) => (h.le hH).row hk' hbb
    refine ⟨_, hbb, by omega, hlt, ops[p].cells.toArray, rfl, hop F' (le_trans' D.isl.le hG), ?_⟩
    refine (D.disk hG (h.ok hk') hsk (by omega)).mono ?_
    rintro v F2 ⟨G1, I1, X1, FP1, rfl, M1, hr1, hG1, hkp1⟩
    obtain ⟨h82, hG18⟩ := hkp1 b8 _ hG8 h8
    have hle12 : F1.le F2 := le_trans' M1.le hG1
    have hws2 := s.doOp_ws n ops[p]
    have hks2 := s.doOp_kept n (h.ok hk') hsk
    refine ⟨_, _, rfl, cs, hr1.size, row_whole h82, _, hbb, by omega, hlt, ops[p].cells.toArray, rfl, hop F2 hle12, ?_⟩
    have j4 : ∀ (N1 : Option Addr → Int → PH → Prop), (∀ (F' : PH) (cs : Array Value) (G : PH), Duo F1 G n I1 X1 FP1 (s.doOp n ops[p]).1 cs → G.le F' → G b8 = none → F' b8 = some (.cells cs 48 (0, 0)) → N1 (some ⟨I1 0, 0, none⟩) (IntKind.i64.wrap ((p : Int) + 1)) F') →
        ∀ (F3 : PH) (b13 : Nat) (cs' : Array Value) (G2 : PH), Duo F1 G2 n I1 X1 FP1 (s.doOp n ops[p]).1 cs' → G2.le F3 → G2 b8 = none → F3 b8 = some (.cells cs 48 (0, 0)) → F3 b13 = some (.cells cs' 48 (0, 0)) →
        b5j4 N1 (n : Int) l true b8 (p : Int) (some ⟨I1 0, 0, none⟩) (s.doOp n ops[p]).2 (some ⟨b13, 0, none⟩) (s.doOp n ops[p]).2 (fun v F' => v = .bool true ∧ F.le F') F3 := by
      intro N1 hN F3 b13 cs' G2 D2 hG2 hG28 h83 h133
      unfold b5j4
      have hsz' := D2.ref.size
      have hst' := D2.ref.stor
      refine ⟨_, rfl, cs', hsz', row_whole h133, ?_⟩
      refine stW h83 hsz' hr1.size hst' ?_
      have hG4 := le_set_new (o := .cells cs' 48) hG2 hG28
      have h84 : (F3.set b8 (.cells cs' 48)) b8 = some (.cells cs' 48 (0, 0)) := set_eq _ _ _
      generalize F3.set b8 (.cells cs' 48) = F4 at *
      refine ⟨fun h => absurd rfl h, fun _ => ?_⟩
      have href := D2.ref.le (le_trans' (mns_le _ _) hG4)
      obtain ⟨SL, PL, ssl, psl, ksl, hm⟩ := id href
      have hpn := hm.plen
      have hR := (D2.isl.all (i := 0) (by omega)).le hG4
      have c1 : F4.cell ⟨b8, 1, none⟩ = some (Sl.v psl) := by rw [cell_eq h84, hm.hc]; rfl
      refine ⟨psl, c1, ?_⟩
      refine (pending_spec hR).mono ?_
      rintro v F5 ⟨rfl, rfl⟩
      refine ⟨_, rfl, c1, fun h => absurd (by omega) h, fun _ => ?_⟩
      refine (sectors_spec hR).mono ?_
      rintro v F6 ⟨rfl, rfl⟩
      refine ⟨_, rfl, c1, fun h => absurd rfl h, fun _ => ?_⟩
      refine ⟨fun m a F' => ∃ q : Nat, a = (q : Int) - 1 ∧ q ≤ n + 2 ∧ m = n + 2 - q ∧ F6.le F', n + 2, ⟨0, rfl, by omega, rfl, le_refl' _⟩, ?_⟩
      rintro m a F' ⟨q, rfl, hq, rfl, hle6⟩
      unfold b5L2
      refine ⟨fun hat => ?_, fun hat => ?_⟩
      · refine (read_spec (hR.le hle6)).mono ?_
        rintro v F7 ⟨hle7, hc⟩
        have hrd : ∃ sl : Sl, v = .tuple #[Sl.v sl, .int .i64 ((s.doOp n ops[p]).1.read n ((q : Int) - 1)).2] ∧ RdS F7 sl 1 (u8s ((s.doOp n ops[p]).1.read n ((q : Int) - 1)).1) := by
          rcases hc with ⟨e, hv, hr, _⟩ | ⟨g, l', hg, hv, hgl, hr, hl⟩
          · exact ⟨Sl.nil, by rw [hv, hr], by rw [hr]; exact RdS.nil _ _⟩
          · exact ⟨_, by rw [hv, hr], by rw [hr]; exact RdS.new hgl (List.take_of_length_le (by simp [hl])) (by simp [hl]) (Nat.le_refl _)⟩
        obtain ⟨sl, rfl, hrd⟩ := hrd
        have hle67 := le_trans' hle6 hle7
        refine ⟨sl, _, rfl, cs', hsz', row_whole (hle67 _ _ h84), ?_⟩
        refine (read_ref (href.le hle67)).mono ?_
        rintro v F8 ⟨sl2, rfl, hle8, hrd2⟩
        refine ⟨sl2, _, rfl, fun h => absurd rfl h, fun _ => ?_⟩
        refine (same_spec (hrd.le hle8) hrd2 (by have := DS.read_len (at_ := (q : Int) - 1) hR.ok; omega)).mono ?_
        rintro v F9 ⟨rfl, rfl⟩
        rw [decide_eq_true rfl]
        refine ⟨_, rfl, fun h => (by cases h), fun _ => ?_⟩
        refine ⟨n + 2 - (q + 1), by omega, q + 1, ?_, by omega, rfl, le_trans' hle67 hle8⟩
        rw [w64_eq (by omega) (by omega)]
        omega
      · unfold b5j3
        exact hN F' cs' G2 D2 (le_trans' hG4 hle6) hG28 (hle6 _ _ h84)
    have hN : ∀ (F' : PH) (cs : Array Value) (G : PH), Duo F1 G n I1 X1 FP1 (s.doOp n ops[p]).1 cs → G.le F' → G b8 = none → F' b8 = some (.cells cs 48 (0, 0)) →
        ∃ m', m' < 40 - p ∧ ∃ (p_1 : Nat) (I : Nat → Nat) (X FP : Nat → Nat → Prop) (s : DS) (cs : Array Value) (G : PH), some (⟨I1 0, 0, none⟩ : Addr) = some ⟨I 0, 0, none⟩ ∧ IntKind.i64.wrap ((p : Int) + 1) = p_1 ∧ p_1 ≤ 40 ∧ p_1 ≤ ops.length ∧ m' = 40 - p_1 ∧ Duo F1 G n I X FP s cs ∧ G.le F' ∧ G b8 = none ∧ F' b8 = some (.cells cs 48 (0, 0)) ∧ s.ws.length ≤ p_1 ∧ s.kept.length * 8 ≤ 140737488355328 :=
      fun F' cs G D hG h8 h88 => ⟨40 - (p + 1), by omega, p + 1, _, _, _, _, cs, G, rfl, w64s (by omega), by omega, by omega, rfl, D, hG, h8, h88, by omega, hks2⟩
    refine ⟨?_, ?_⟩
    · refine (Duo.refer M1 hr1 hG1 (h.ok hk') (by omega) rfl).mono ?_
      rintro v F3 ⟨cs', G2, rfl, D2, hG2, hkp2⟩
      obtain ⟨h83, hG28⟩ := hkp2 b8 _ hG18 h82
      refine ⟨cs', _, rfl, ?_⟩
      intro b13 hb13
      refine atI ?_
      refine stW (set_eq _ _ _) D2.ref.size rfl D2.ref.stor ?_
      rw [set_twice]
      have h138 : b8 ≠ b13 := fun e => by rw [← e, h83] at hb13; cases hb13
      exact j4 _ hN _ b13 cs' G2 D2 (le_trans' hG2 (le_set_fresh _ hb13)) hG28 ((set_ne _ _ h138).trans h83) (set_eq _ _ _)
    · intro b13 hb13
      refine atI ?_
      have hle13 := le_set_fresh (.cells zero48 48) hb13
      have hG13 : G1 b13 = none := le_none hG1 hb13
      have h138 : b8 ≠ b13 := fun e => by rw [← e, h82] at hb13; cases hb13
      have h823 : (F2.set b13 (.cells zero48 48)) b8 = some (.cells cs 48 (0, 0)) := (set_ne _ _ h138).trans h82
      have h13c : (F2.set b13 (.cells zero48 48)) b13 = some (.cells zero48 48 (0, 0)) := set_eq _ _ _
      refine (Duo.refer M1 hr1 (le_trans' hG1 hle13) (h.ok hk') (by omega) rfl).mono ?_
      rintro v F3 ⟨cs', G2, rfl, D2, hG2, hkp2⟩
      obtain ⟨h83, hG28⟩ := hkp2 b8 _ hG18 h823
      obtain ⟨h133, hG213⟩ := hkp2 b13 _ hG13 h13c
      refine ⟨cs', _, rfl, ?_⟩
      refine stW h133 D2.ref.size rfl D2.ref.stor ?_
      exact j4 _ hN _ b13 cs' G2 D2 (le_set_new hG2 hG213) hG28 ((set_ne _ _ h138).trans h83) (set_eq _ _ _)
  exact ⟨_, rfl, fun h => (by cases h), fun _ => ⟨fun _ => ⟨fun _ => ⟨rfl, hle1⟩, fun _ => main⟩, fun _ => main⟩⟩
end Go.Proofs.Ythnolhcknhhipaa
