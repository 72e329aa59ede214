/-
  The disk: the law DiskTorn.
-/
import Derived.Test.YthnolhcknhhipaaDj
namespace Go.Proofs.Ythnolhcknhhipaa
open Go Go.Proofs.Try

theorem ovr_same {dur l : List Int} {o : Nat} (h : l = []) : ovr dur o l = dur := by subst h; simp [ovr]
/-- All is kept: a crash leaves what a flush would. -/
theorem crN_all {ws : List (Int × List Int)} {K D : List Int} {n : Nat} (hws : ∀ w ∈ ws, 0 ≤ w.1 ∧ w.1 < n ∧ w.2.length = 64) (hK : ∀ i, i < ws.length → ∃ q, K[i]? = some q ∧ 64 ≤ q) : ∀ k, crN ws K D k = flN ws D k := by
  intro k
  induction k with
  | zero => rfl
  | succ k ih =>
    simp only [crN, flN]
    cases hk : ws[k]? with
    | none => exact ih
    | some w =>
      obtain ⟨q, hq, hq2⟩ := hK k (List.getElem?_eq_some_iff.1 hk).1
      simp only [crStep, hq]
      rw [ih, List.take_of_length_le]
      have := (hws w (List.mem_of_getElem? hk)).2.2
      omega
/-- Nothing is kept. -/
theorem crN_none {ws : List (Int × List Int)} {K D : List Int} (hK : ∀ (i : Nat) (q : Int), K[i]? = some q → q ≤ 0) : ∀ k, crN ws K D k = D := by
  intro k
  induction k with
  | zero => rfl
  | succ k ih =>
    simp only [crN]
    cases hk : ws[k]? with
    | none => exact ih
    | some w =>
      simp only [crStep]
      cases hq : K[k]? with
      | none => exact ih
      | some q =>
        have := hK k q hq
        simp only
        rw [ovr_same (by rw [show (min (max q 0) 64).toNat = 0 by omega]; rfl)]
        exact ih
theorem Live.write_dur {s : DS} (h : Live s) {n : Nat} {a : Int} {l : List Int} : (s.write n a l).1.dur = s.dur := by
  unfold DS.write
  split
  · rfl
  · rw [h.ready]; rfl

theorem Fam.state {F0 F : PH} {N : Nat} {I : Nat → Nat} {FP : Nat → Nat → Prop} {S S' : Nat → DS} (h : Fam F0 F N I FP S) (hs : ∀ i, i < N → S i = S' i) : Fam F0 F N I FP S' :=
  ⟨h.le, fun i hi => by rw [← hs i hi]; exact h.rep i hi, fun i hi => by rw [← hs i hi]; exact h.kept i hi, h.new, h.dis⟩
def tornRow (o : OpD) : List Int := (opData o).take (min (opLen o) 64)
theorem torn_write {F0 F : PH} {I : Nat → Nat} {FP : Nat → Nat → Prop} {S : Nat → DS} {vm sb : Sl} {ops2 : List OpD} {D : List Int} {k i a : Nat} {x : Int} {K : PH → Prop} (h2 : OpsRd F0 vm ops2) (hk : k < ops2.length)
    (M : Fam F0 F 3 I FP S) (hi : i < 3) (hl : Live (S i)) (hw : (S i).ws.length < 1000) (hb : RdS (mns F (allF 3 FP)) sb 1 (u8s D)) (hx : x = a)
    (cont : ∀ F' fq, Fam F0 F' 3 I (fput FP i fq) (fput S i ((S i).write 4 a (tornRow ops2[k])).1) → RdS (mns F' (allF 3 (fput FP i fq))) sb 1 (u8s D) → K F') :
    ∃ a110_ : Addr, vm.base = some a110_ ∧ 0 ≤ (k : Int) ∧ (k : Int) < (vm.len : Int) ∧
      ∃ v_111 : Array Value, v_111.size = 5 ∧ F.row (Addr.add a110_ (Int.toNat (k : Int) * 5)) v_111 ∧
      ∃ a115_ : Addr, vm.base = some a115_ ∧ 0 ≤ (k : Int) ∧ (k : Int) < (vm.len : Int) ∧
      ∃ v_116 : Array Value, v_116.size = 5 ∧ F.row (Addr.add a115_ (Int.toNat (k : Int) * 5)) v_116 ∧
      Spec prog 28 #[(Value.agg v_111)] F fun v F => ∃ v_112 : Sl, v = (Sl.v v_112) ∧
      F.row (Addr.add a115_ (Int.toNat (k : Int) * 5)) v_116 ∧ Spec prog 28 #[(Value.agg v_116)] F fun v F => ∃ v_117 : Sl, v = (Sl.v v_117) ∧
      0 ≤ (min (v_117.len : Int) (64 : Int)) ∧ 0 ≤ (Int.toNat (min (v_117.len : Int) (64 : Int))) ∧ (Int.toNat (min (v_117.len : Int) (64 : Int))) ≤ v_112.cap ∧
      Spec prog 14 #[(Value.pointer (some ⟨I i, 0, none⟩)), (Value.int .i64 x), (Sl.v (Sl.cut v_112 1 0 (Int.toNat (min (v_117.len : Int) (64 : Int))) v_112.cap))] F fun v F => ∃ v_121 : Int, v = (Value.int .i64 v_121) ∧ K F := by
  subst hx
  have hlen := h2.len
  obtain ⟨b, o, hbb, _⟩ := h2.field hk
  have hrow := fun (G : PH) (hG : F0.le G) => (h2.le hG).row hk hbb
  refine ⟨_, hbb, by omega, by omega, ops2[k].cells.toArray, rfl, hrow F M.le, _, hbb, by omega, by omega, ops2[k].cells.toArray, rfl, hrow F M.le, ?_⟩
  refine (data_spec F ops2[k]).mono ?_
  rintro v F1 ⟨s1, rfl, l1, c1, r1, hle⟩
  replace r1 := r1.le (new_le M.dom)
  have hst := (M.ext hle).2
  replace M := (M.ext hle).1
  replace hb := hb.le hst.le
  clear hle hst
  refine ⟨s1, rfl, hrow F1 M.le, ?_⟩
  refine (data_spec F1 ops2[k]).mono ?_
  rintro v F2 ⟨s2, rfl, l2, _, _, hle⟩
  have hst := (M.ext hle).2
  replace M := (M.ext hle).1
  replace hb := hb.le hst.le
  replace r1 := r1.le hst.le
  clear hle hst
  have e : Int.toNat (min (s2.len : Int) 64) = min (opLen ops2[k]) 64 := by omega
  refine ⟨s2, rfl, by omega, by omega, by omega, ?_⟩
  rw [e]
  have hcut := r1.cut (l := 0) (r := min (opLen ops2[k]) 64) (m := s1.cap) (by omega) (by omega) (by omega)
  have he : (List.take ((min (opLen ops2[k]) 64 - 0) * 1) (List.drop (0 * 1) (u8s (opData ops2[k])))) = u8s (tornRow ops2[k]) := by simp [tornRow, List.map_take]
  rw [he] at hcut
  refine (write_spec (M.rep i hi) (hcut.le (all_sub hi)) hw (by simp [tornRow, opData_len]; omega)).mono ?_
  rintro v F3 ⟨rfl, fq, hrep, hst⟩
  have hkk : ((S i).write 4 a (tornRow ops2[k])).1.kept = [] := by rw [hl.write_kept]; exact M.kept i hi
  refine ⟨_, rfl, cont F3 fq (M.step hi hrep hkk hst).1 (hb.le (M.step hi hrep hkk hst).2.le)⟩

theorem torn_spec {F : PH} {l vm : Sl} {k : Int} {ops ops2 : List OpD} (h : OpsRd F l ops) (h2 : OpsRd F vm ops2) : Spec prog 6 #[l.v, vm.v, .int .i64 k] F fun v F' => v = .bool true ∧ F.le F' := by
  refine c6 ?_
  unfold b6
  refine (sanity_spec F).mono ?_
  rintro v F1 ⟨rfl, hle1⟩
  refine ⟨_, rfl, fun h => (by cases h), fun _ => ?_⟩
  refine (prepared_spec (h.le hle1)).mono ?_
  rintro v F2 ⟨d, fp, rfl, hle2, hrep, hnew, hws⟩
  have W : Wd F F2 d fp 4 (prep ops) := ⟨le_trans' hle1 hle2, hrep, fun b hb => le_none hle1 (hnew b hb)⟩
  clear hle1 hle2 hrep hnew
  have hlive := prep_live ops
  have hkept := prep_kept ops
  generalize prep ops = s at *
  refine ⟨_, rfl, ?_⟩
  refine (flush_spec W.rep).mono ?_
  rintro v F3 ⟨rfl, fp2, hrep, hst⟩
  replace W := W.step hrep hst
  clear hrep hst
  refine ⟨_, rfl, ?_⟩
  have htl := hlive.flush_live
  have htw : s.flush.1.ws = [] := by rw [hlive.flush]
  have htk : s.flush.1.kept = [] := by rw [hlive.flush]; exact hkept
  generalize s.flush.1 = t at *
  have M : Fam F F3 1 (fun _ => d) (fun _ => fp2) (fun _ => t) := ⟨W.le, fun _ _ => W.rep, fun _ _ => htk, fun _ _ => W.new, fun i j b hi hj hij => absurd (by omega) hij⟩
  have hok := W.rep.ok
  have hdl := hok.dur
  clear W
  refine (contents_new (M.rep 0 (by omega))).mono ?_
  rintro v F4 ⟨sb, rfl, hb, hle⟩
  have hb := hb.le (new_le M.dom)
  replace M := (M.ext hle).1; clear hle
  rw [htl.view_dur hok htw] at hb
  refine ⟨sb, rfl, ?_⟩
  have hkl : t.kept.length * 8 ≤ 140737488355328 := by rw [htk]; decide
  refine (copy_spec (M.rep 0 (by omega)) hkl).mono ?_
  rintro v F5 ⟨dc, fc, rfl, hle, hrep, hn⟩
  have hst := (M.more hle hrep htk hn).2
  replace M := (M.more hle hrep htk hn).1
  replace hb := hb.le hst.le; clear hle hrep hn hst
  refine ⟨_, rfl, ?_⟩
  refine (copy_spec (M.rep 0 (by omega)) hkl).mono ?_
  rintro v F6 ⟨dw, fw, rfl, hle, hrep, hn⟩
  have hst := (M.more hle hrep htk hn).2
  replace M := (M.more hle hrep htk hn).1
  replace hb := hb.le hst.le; clear hle hrep hn hst
  refine ⟨_, rfl, ?_⟩
  refine (copy_spec (M.rep 0 (by omega)) hkl).mono ?_
  rintro v F7 ⟨dl, fl, rfl, hle, hrep, hn⟩
  have hst := (M.more hle hrep htk hn).2
  replace M := (M.more hle hrep htk hn).1
  replace hb := hb.le hst.le; clear hle hrep hn hst
  refine ⟨_, rfl, fun h => (by cases h), fun _ => ⟨fun h => (by cases h), fun _ => ⟨fun h => (by cases h), fun _ => ?_⟩⟩⟩
  have hlb := hb.len
  simp at hlb
  refine ⟨fun h => absurd (by omega) h, fun _ => ?_⟩
  refine (filled_new F7).mono ?_
  rintro v F8 ⟨sl, rfl, hl64, hc64, hrd, hle⟩
  replace hrd := hrd.le (new_le M.dom)
  have hst := (M.ext hle).2
  replace M := (M.ext hle).1
  replace hb := hb.le hst.le; clear hle hst
  refine ⟨sl, rfl, ?_⟩
  have hR : ∀ j, j < 4 → M.rep j = M.rep j := fun _ _ => rfl
  have hrep1 : DRep F8 dc fc 4 t := M.rep 1 (by omega)
  refine (write_spec hrep1 (hrd.le (all_sub (i := 1) (by omega))) (by rw [htw]; decide) (by simp)).mono ?_
  rintro v F9 ⟨rfl, fc2, hrep, hst⟩
  have hx := htl.write (n := 4) (a := 2) (l := List.replicate 64 200) (by omega) (by omega) (by simp)
  have hxk : (t.write 4 2 (List.replicate 64 200)).1.kept = [] := by rw [htl.write_kept]; exact htk
  have hst2 := (M.step (i := 1) (by omega) hrep hxk hst).2
  replace M := (M.step (i := 1) (by omega) hrep hxk hst).1
  replace hb := hb.le hst2.le
  clear hst hst2 hrd hrep1
  refine ⟨_, rfl, ?_⟩
  intro b53 hb53
  refine atI ?_
  have hle := le_set_fresh (.cells #[.int .i64 k] 3) hb53
  have hone : RdS (mns (F9.set b53 (.cells #[.int .i64 k] 3)) (allF 4 (fput (fput (fput (fput (fun _ => fp2) 1 fc) 2 fw) 3 fl) 1 fc2))) ⟨some ⟨b53, 0, none⟩, 1, 1⟩ 1 (i64s [k]) :=
    rd_new (F := F9.set b53 (.cells #[.int .i64 k] 3)) (l := i64s [k]) (tl := []) (e := 3) (by rw [set_eq]; rfl) (fun hp => M.dom b53 hp hb53) rfl (Nat.le_refl _)
  have hst := (M.ext hle).2
  replace M := (M.ext hle).1
  replace hb := hb.le hst.le; clear hle hst hrep
  have hrep1 : DRep (F9.set b53 (.cells #[.int .i64 k] 3)) dc fc2 4 (t.write 4 2 (List.replicate 64 200)).1 := M.rep 1 (by omega)
  refine (crash_spec hrep1 (hone.le (all_sub (i := 1) (by omega)))).mono ?_
  rintro v F10 ⟨rfl, fc3, hrep, hst⟩
  obtain ⟨hvl, hvw, hvd, hdn⟩ := crash_live (htl.write_live (n := 4) (a := 2) (l := List.replicate 64 200)) [k]
  have hck : ((t.write 4 2 (List.replicate 64 200)).1.crash [k]).kept = [] := by
    unfold DS.crash; split
    · exact hxk
    · rfl
  have hst2 := (M.step (i := 1) (by omega) hrep hck hst).2
  replace M := (M.step (i := 1) (by omega) hrep hck hst).1
  replace hb := hb.le hst2.le
  clear hst hst2 hone hrep1
  refine ⟨rfl, ?_⟩
  refine (power_spec hrep).mono ?_
  rintro v F11 ⟨rfl, hrep, hst⟩
  have hst2 := (M.step (i := 1) (by omega) hrep hck hst).2
  replace M := (M.step (i := 1) (by omega) hrep hck hst).1
  replace hb := hb.le hst2.le
  clear hst hst2
  refine ⟨rfl, ?_⟩
  have hvd2 : ((t.write 4 2 (List.replicate 64 200)).1.crash [k]).power.dur = ovr t.dur 128 (List.replicate (min (max k 0) 64).toNat 200) := by
    rw [hvd, hx, htw]
    simp only [List.nil_append, List.length_singleton, crN, List.getElem?_cons_zero, crStep, List.take_replicate]
    congr 2
    omega
  refine (contents_new hrep).mono ?_
  rintro v F12 ⟨st, rfl, ht, hle⟩
  rw [hvl.view_dur hrep.ok hvw, hvd2] at ht
  replace ht := ht.le (new_le M.dom)
  have hst := (M.ext hle).2
  replace M := (M.ext hle).1
  replace hb := hb.le hst.le
  clear hst hle
  refine ⟨st, rfl, ?_⟩
  have htl2 := ht.len
  have hkk : (min (max k 0) 64).toNat ≤ 64 := by omega
  have hovl : (ovr t.dur 128 (List.replicate (min (max k 0) 64).toNat 200)).length = 256 := by rw [ovr_len (by simp; omega)]; omega
  simp only [u8s, List.length_map, Nat.mul_one] at htl2
  rw [hovl] at htl2
  -- only the main disk and the two copies from here on
  have M3 : Fam F F12 3 (fput (fput (fun _ => d) 1 dw) 2 dl) (fput (fput (fun _ => fp2) 1 fw) 2 fl) (fun _ => t) := by
    have e0 := M.rep 0 (by omega)
    have e2 := M.rep 2 (by omega)
    have e3 := M.rep 3 (by omega)
    have n0 := M.new 0 (by omega)
    have n2 := M.new 2 (by omega)
    have n3 := M.new 3 (by omega)
    have q02 := fun b => M.dis 0 2 b (by omega) (by omega) (by omega)
    have q03 := fun b => M.dis 0 3 b (by omega) (by omega) (by omega)
    have q23 := fun b => M.dis 2 3 b (by omega) (by omega) (by omega)
    refine ⟨M.le, fun i hi => ?_, fun i hi => htk, fun i hi => ?_, fun i j b hi hj hij hb hb2 => ?_⟩
    · match i, hi with
      | 0, _ => exact e0
      | 1, _ => exact e2
      | 2, _ => exact e3
    · match i, hi with
      | 0, _ => exact n0
      | 1, _ => exact n2
      | 2, _ => exact n3
    · match i, hi, j, hj with
      | 0, _, 0, _ => exact hij rfl
      | 1, _, 1, _ => exact hij rfl
      | 2, _, 2, _ => exact hij rfl
      | 0, _, 1, _ => exact q02 b hb hb2
      | 0, _, 2, _ => exact q03 b hb hb2
      | 1, _, 2, _ => exact q23 b hb hb2
      | 1, _, 0, _ => exact q02 b hb2 hb
      | 2, _, 0, _ => exact q03 b hb2 hb
      | 2, _, 1, _ => exact q23 b hb2 hb
  replace hb : RdS (mns F12 (allF 3 (fput (fput (fun _ => fp2) 1 fw) 2 fl))) sb 1 (u8s t.dur) := hb.le (fun b o hbo => by
    by_cases hp : allF 4 (fput (fput (fput (fput (fput (fput (fun _ => fp2) 1 fc) 2 fw) 3 fl) 1 fc2) 1 fc3) 1 fc3) b
    · simp [mns, hp] at hbo
    · rw [mns_of hp] at hbo
      rw [mns_of]
      · exact hbo
      · rintro ⟨i, hi, hf⟩
        match i, hi with
        | 0, _ => exact hp ⟨0, by omega, hf⟩
        | 1, _ => exact hp ⟨2, by omega, hf⟩
        | 2, _ => exact hp ⟨3, by omega, hf⟩)
  replace ht := ht.le (mns_le _ _)
  clear M hrep hvl hvw hvd hdn hck hvd2 hx hxk
  have hlen2 := h2.len
  have hbig2 := h2.big
  generalize hD : t.dur = D at *
  have loop2 : b6j1 vm (some ⟨d, 0, none⟩) sb (some ⟨dw, 0, none⟩) (some ⟨dl, 0, none⟩) (fun v F' => v = .bool true ∧ F.le F') F12 := by
    have fin : ∀ (F' : PH) (FP : Nat → Nat → Prop) (x : DS), Fam F F' 3 (fput (fput (fun _ => d) 1 dw) 2 dl) FP (fun _ => x) → Live x → x.dur = D → x.ws.length ≤ 10 → RdS (mns F' (allF 3 FP)) sb 1 (u8s D) →
        b6j2 (some ⟨d, 0, none⟩) sb (some ⟨dw, 0, none⟩) (some ⟨dl, 0, none⟩) (fun v F' => v = .bool true ∧ F.le F') F' := by
      intro F' FP x M hxl hxd hxw hb
      unfold b6j2
      have hok := (M.rep 0 (by omega)).ok
      have hxk : x.kept = [] := M.kept 0 (by omega)
      have hfk : x.flush.1.kept = [] := by rw [hxl.flush]; exact hxk
      have hck : ∀ K, (x.crash K).kept = [] := fun K => by
        unfold DS.crash; split
        · exact hxk
        · rfl
      refine (flush_spec (M.rep 0 (by omega))).mono ?_
      rintro v G1 ⟨rfl, fq1, hrep, hst⟩
      replace hb := hb.le (M.step (i := 0) (by omega) hrep hfk hst).2.le
      replace M := (M.step (i := 0) (by omega) hrep hfk hst).1
      clear hrep hst
      refine ⟨_, rfl, ?_⟩
      intro b157 hb157
      refine atI ?_
      have hle := le_set_fresh (.cells #[(Value.int .i64 (64 : Int)), (Value.int .i64 (64 : Int)), (Value.int .i64 (64 : Int)), (Value.int .i64 (64 : Int)), (Value.int .i64 (64 : Int)), (Value.int .i64 (64 : Int)), (Value.int .i64 (64 : Int)), (Value.int .i64 (64 : Int)), (Value.int .i64 (64 : Int)), (Value.int .i64 (1099511627776 : Int))] 3) hb157
      have hK := rd_new (F := G1.set b157 (.cells #[(Value.int .i64 (64 : Int)), (Value.int .i64 (64 : Int)), (Value.int .i64 (64 : Int)), (Value.int .i64 (64 : Int)), (Value.int .i64 (64 : Int)), (Value.int .i64 (64 : Int)), (Value.int .i64 (64 : Int)), (Value.int .i64 (64 : Int)), (Value.int .i64 (64 : Int)), (Value.int .i64 (1099511627776 : Int))] 3))
        (fp := fput FP 0 fq1 1) (g := b157) (n := 10) (cap := 10) (l := i64s [64, 64, 64, 64, 64, 64, 64, 64, 64, 1099511627776]) (tl := []) (e := 3) (by rw [set_eq]; rfl) (fun hp => M.dom b157 ⟨1, by omega, hp⟩ hb157) rfl (Nat.le_refl _)
      replace hb := hb.le (M.ext hle).2.le
      replace M := (M.ext hle).1
      clear hle
      refine (crash_spec (M.rep 1 (by omega)) hK).mono ?_
      rintro v G2 ⟨rfl, fq2, hrep, hst⟩
      replace hb := hb.le (M.step (i := 1) (by omega) hrep (hck _) hst).2.le
      replace M := (M.step (i := 1) (by omega) hrep (hck _) hst).1
      clear hst hK
      refine ⟨rfl, ?_⟩
      refine (power_spec hrep).mono ?_
      rintro v G3 ⟨rfl, hrep, hst⟩
      replace hb := hb.le (M.step (i := 1) (by omega) hrep (hck _) hst).2.le
      replace M := (M.step (i := 1) (by omega) hrep (hck _) hst).1
      clear hst hrep
      refine ⟨rfl, ?_⟩
      intro b162 hb162
      refine atI ?_
      have hle := le_set_fresh (.cells #[(Value.int .i64 (-3 : Int))] 3) hb162
      have hK := one_new (M.rep 2 (by omega)) hb162 (-3)
      replace hb := hb.le (M.ext hle).2.le
      replace M := (M.ext hle).1
      clear hle
      refine (crash_spec (M.rep 2 (by omega)) hK).mono ?_
      rintro v G4 ⟨rfl, fq3, hrep, hst⟩
      replace hb := hb.le (M.step (i := 2) (by omega) hrep (hck _) hst).2.le
      replace M := (M.step (i := 2) (by omega) hrep (hck _) hst).1
      clear hst hK
      refine ⟨rfl, ?_⟩
      refine (power_spec hrep).mono ?_
      rintro v G5 ⟨rfl, hrep, hst⟩
      replace hb := hb.le (M.step (i := 2) (by omega) hrep (hck _) hst).2.le
      replace M := (M.step (i := 2) (by omega) hrep (hck _) hst).1
      clear hst hrep
      refine ⟨rfl, ?_⟩
      have R1 : DRep G5 dw _ 4 (x.crash [64, 64, 64, 64, 64, 64, 64, 64, 64, 1099511627776]).power := M.rep 1 (by omega)
      obtain ⟨wl, ww, wd, _⟩ := crash_live hxl [64, 64, 64, 64, 64, 64, 64, 64, 64, 1099511627776]
      obtain ⟨ll, lw, ld, _⟩ := crash_live hxl [-3]
      refine (contents_new R1).mono ?_
      rintro v G6 ⟨s1, rfl, r1, hle⟩
      rw [wl.view_dur R1.ok ww, wd, crN_all hok.ws] at r1
      · replace r1 := r1.le (new_le M.dom)
        replace hb := hb.le (M.ext hle).2.le
        replace M := (M.ext hle).1
        clear hle R1
        refine ⟨s1, rfl, ?_⟩
        have R0 : DRep G6 d _ 4 x.flush.1 := M.rep 0 (by omega)
        have hfw : x.flush.1.ws = [] := by rw [hxl.flush]
        have hfd : x.flush.1.dur = flN x.ws x.dur x.ws.length := by rw [hxl.flush]
        refine (contents_new R0).mono ?_
        rintro v G7 ⟨s0, rfl, r0, hle⟩
        rw [hxl.flush_live.view_dur R0.ok hfw, hfd] at r0
        replace r0 := r0.le (mns_le _ _)
        replace hb := hb.le (M.ext hle).2.le
        replace r1 := r1.le (M.ext hle).2.le
        replace M := (M.ext hle).1
        clear hle R0
        refine ⟨s0, rfl, ?_⟩
        refine (same_spec (r1.le (mns_le _ _)) r0 (by rw [flN_len hok.ws hok.dur]; decide)).mono ?_
        rintro v G8 ⟨rfl, rfl⟩
        refine ⟨_, rfl, fun _ => ?_, fun h => absurd (decide_eq_true rfl) (by rw [h]; decide)⟩
        have R2 : DRep G8 dl _ 4 (x.crash [-3]).power := M.rep 2 (by omega)
        refine (contents_new R2).mono ?_
        rintro v G9 ⟨s2, rfl, r2, hle⟩
        rw [ll.view_dur R2.ok lw, ld, crN_none, hxd] at r2
        · replace hb := hb.le (M.ext hle).2.le
          replace M := (M.ext hle).1
          refine ⟨s2, rfl, ?_⟩
          refine (same_spec (r2.le (mns_le _ _)) (hb.le (mns_le _ _)) (by rw [hdl]; decide)).mono ?_
          rintro v G10 ⟨rfl, rfl⟩
          exact ⟨_, rfl, by rw [decide_eq_true rfl], M.le⟩
        · intro i q hq
          match i, hq with
          | 0, hq => cases hq; decide
          | i + 1, hq => simp at hq
      · intro i hi
        have : ∀ i : Nat, i < 10 → ∃ q, ([64, 64, 64, 64, 64, 64, 64, 64, 64, 1099511627776] : List Int)[i]? = some q ∧ 64 ≤ q := by decide
        exact this i (by omega)
    unfold b6j1
    refine ⟨fun m i F' => ∃ (p : Nat) (FP : Nat → Nat → Prop) (x : DS), i = p ∧ p ≤ 10 ∧ p ≤ ops2.length ∧ m = 10 - p ∧ Fam F F' 3 (fput (fput (fun _ => d) 1 dw) 2 dl) FP (fun _ => x) ∧ Live x ∧ x.dur = D ∧ x.ws.length ≤ p ∧ RdS (mns F' (allF 3 FP)) sb 1 (u8s D),
      10, ⟨0, _, t, rfl, by omega, by omega, rfl, M3, htl, hD, by rw [htw]; exact Nat.le_refl 0, hb⟩, ?_⟩
    rintro m i F' ⟨p, FP, x, rfl, hp, hpl, rfl, M, hxl, hxd, hxw, hb⟩
    unfold b6L1
    refine ⟨fun hlt => ⟨fun hlt2 => ?_, fun hge => fin F' FP x M hxl hxd (by omega) hb⟩, fun hge => fin F' FP x M hxl hxd (by omega) hb⟩
    have hk' : p < ops2.length := by omega
    obtain ⟨b, o, hbb, hc⟩ := (h2.le M.le).field hk'
    have hat := hc 1 _ rfl
    refine ⟨_, hbb, by omega, hlt, ops2[p].at_, by simpa [Nat.add_assoc] using hat, ?_⟩
    rw [mod4_wrap]
    obtain ⟨a, ha⟩ : ∃ a : Nat, mod4 ops2[p].at_ = a := ⟨(mod4 ops2[p].at_).toNat, by have := mod4_range ops2[p].at_; omega⟩
    refine torn_write (I := fput (fput (fun _ => d) 1 dw) 2 dl) (i := 0) h2 hk' M (by omega) hxl (show x.ws.length < 1000 by omega) hb ha ?_
    intro G1 fq1 M1 hb1
    obtain ⟨b1, o1, hbb1, hc1⟩ := (h2.le M1.le).field hk'
    have hat1 := hc1 1 _ rfl
    rw [hbb] at hbb1
    cases hbb1
    refine torn_write (I := fput (fput (fun _ => d) 1 dw) 2 dl) (i := 1) h2 hk' M1 (by omega) hxl (show x.ws.length < 1000 by omega) hb1 ha ?_
    intro G2 fq2 M2 hb2
    refine torn_write (I := fput (fput (fun _ => d) 1 dw) 2 dl) (i := 2) h2 hk' M2 (by omega) hxl (show x.ws.length < 1000 by omega) hb2 ha ?_
    intro G3 fq3 M3 hb3
    refine ⟨10 - (p + 1), by omega, p + 1, _, (x.write 4 a (tornRow ops2[p])).1, w64s (by omega), by omega, by omega, rfl, M3.state ?_, hxl.write_live, ?_, ?_, hb3⟩
    · intro i hi
      match i, hi with
      | 0, _ => rfl
      | 1, _ => rfl
      | 2, _ => rfl
    · rw [hxl.write_dur]; exact hxd
    · have := x.write_ws 4 a (tornRow ops2[p])
      omega
  refine ⟨fun m i F' => ∃ p : Nat, i = p ∧ p ≤ 256 ∧ m = 256 - p ∧ F' = F12, 256, ⟨0, rfl, by omega, rfl, rfl⟩, ?_⟩
  rintro m i F' ⟨p, rfl, hp, rfl, rfl⟩
  unfold b6L2
  refine ⟨fun hlt => ?_, fun hge => loop2⟩
  have hp2 : p < 256 := by omega
  obtain ⟨q1, o1, hq1, hl1, hc1⟩ := (hb.le (mns_le _ _)).at (i := p) (by omega)
  obtain ⟨q2, o2, hq2, hl2, hc2⟩ := ht.at (i := p) (by rw [hovl]; exact hp2)
  have hget := ovr_get (dur := D) (l := List.replicate (min (max k 0) 64).toNat 200) (o := 128) (i := p) (by simp; omega)
  rw [List.getElem?_eq_getElem (by rw [hovl]; exact hp2)] at hget
  have nxt : ∀ want, (ovr D 128 (List.replicate (min (max k 0) 64).toNat 200))[p]'(by rw [hovl]; exact hp2) = want → b6j3 (fun i_14 F => ∃ m', m' < 256 - p ∧ ∃ p : Nat, i_14 = p ∧ p ≤ 256 ∧ m' = 256 - p ∧ F = F') vm k (some ⟨d, 0, none⟩) sb (some ⟨dw, 0, none⟩) (some ⟨dl, 0, none⟩) st (p : Int) want (fun v F' => v = .bool true ∧ F.le F') F' := by
    intro want hw
    unfold b6j3
    refine ⟨fun h => by omega, fun _ => ⟨_, hq2, by omega, by omega, _, hc2, fun h => absurd hw h, fun _ => ?_⟩⟩
    exact ⟨256 - (p + 1), by omega, p + 1, w64s (by omega), by omega, rfl, rfl⟩
  rw [List.length_replicate] at hget
  refine ⟨_, hq1, by omega, by omega, _, hc1, fun e => ⟨fun e2 => nxt 200 ?_, fun e2 => nxt _ ?_⟩, fun e => nxt _ ?_⟩
  · rw [tdiv64 (by omega)] at e
    rw [tmod64] at e2
    rw [if_pos (by omega), List.getElem?_replicate, if_pos (by omega)] at hget
    exact Option.some.inj hget
  · rw [tdiv64 (by omega)] at e
    rw [tmod64] at e2
    rw [if_neg (by omega), List.getElem?_eq_getElem (by omega)] at hget
    exact Option.some.inj hget
  · rw [tdiv64 (by omega)] at e
    rw [if_neg (by omega), List.getElem?_eq_getElem (by omega)] at hget
    exact Option.some.inj hget
end Go.Proofs.Ythnolhcknhhipaa
