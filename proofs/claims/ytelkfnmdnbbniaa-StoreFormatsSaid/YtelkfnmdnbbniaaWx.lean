/-
  StoreFormats.
-/
import Derived.Test.YtelkfnmdnbbniaaWw
import Derived.Test.YtelkfnmdnbbniaaGL7
namespace Go.Proofs.Ytelkfnmdnbbniaa
open Go Go.Proofs.Try
set_option maxRecDepth 10000
theorem RdS.i8 {F : PH} {s : Sl} {l : List Int} (h : RdS F s 1 (u8s l)) {i : Nat} (hi : i < l.length) : ∃ a, s.base = some a ∧ F.cell (a.add (Int.toNat (i : Int) * 1)) = some (.int .u8 l[i]) := by
 obtain ⟨a, h1, h2⟩ := h.byte hi
 exact ⟨a, h1, h2⟩
section
variable {F F0 G K : PH} {fp fd : Nat → Prop} {n : Nat} {s : DS} {st cm d : Nat} {x : SS} {slm sl nsl : Sl} {k : Nat} {M : List Nat} {ops : List OpS} {o : OpS} {zs : List Int}
theorem law7_end {m : Int} (hm : 0 ≤ m ∧ m ≤ 255) (hnm : (n : Int) = 4 + m % 40) (hn4 : 4 ≤ n) (hn : n ≤ 43) (hops : OpsRd F sl ops) (hlc : Lc F G fp n s st cm d (empt n) Sl.nil 0) :
  ∀ b18, G b18 = none → atF (G.set b18 (.cells (#[.int .i64 0, .int .i64 0, .slice none 0 0]) 28)) fun F_1 =>
   (#[(.int .i64 (n : Int)), .int .i64 0, .slice none 0 0] : Array Value).size = 3 ∧ (∀ v ∈ (#[(.int .i64 (n : Int)), .int .i64 0, .slice none 0 0] : Array Value).toList, storable v) ∧ ∃ c e, F_1 (Addr.mk b18 0 none).block = some (.cells c e (0, 0)) ∧ (Addr.mk b18 0 none).spot = none ∧ (Addr.mk b18 0 none).off + 3 ≤ c.size ∧
   atF (F_1.set (Addr.mk b18 0 none).block (.cells (wr c (Addr.mk b18 0 none).off (#[(.int .i64 (n : Int)), .int .i64 0, .slice none 0 0] : Array Value).toList) e)) fun F_1 =>
   (∃ (I1 : Nat → Option Addr → Int → PH → Prop) (m1 : Nat), I1 m1 (some ⟨st, 0, none⟩) (IntKind.i64.wrap ((sl.len : Int) - (1 : Int))) F_1 ∧ ∀ m1 t_16 i_19 F_1, I1 m1 t_16 i_19 F_1 →
    b7L1 (fun y1_0 y1_1 F => ∃ m', m' < m1 ∧ I1 m' y1_0 y1_1 F) sl true (some ⟨d, 0, none⟩) b18 (fun v F' => v = .bool true ∧ F.le F') t_16 i_19 F_1) := by
 have hlen := hops.len
 have hl9 := hops.len9
 intro b8 h8
 refine atI ?_
 have hs := (Sd.start G).var h8 (c := #[.int .i64 0, .int .i64 0, .slice none 0 0]) rfl
 refine hs.store (v := refC n 0 Sl.nil) (List.mem_singleton_self _) rfl st_refC ?_
 intro hs3
 rw [hlen, w64_eq (x := (ops.length : Int) - 1) (by omega) (by omega)]
 refine ⟨fun q sp i F' => ∃ (k : Nat) (G : PH) (M : List Nat) (fp : Nat → Prop) (s : DS) (st cm : Nat) (x : SS) (slm : Sl), i = (ops.length : Int) - 1 - (k : Int) ∧ k ≤ 15 ∧ k ≤ ops.length ∧ q = 15 - k ∧ sp = some ⟨st, 0, none⟩ ∧ b8 ∈ M ∧ Sd G F' M ∧ F' b8 = some (.cells (refC n x.used slm) 28 (0, 0)) ∧ Lc F G fp n s st cm d x slm k, 15,
  ⟨0, G, [b8], fp, s, st, cm, empt n, Sl.nil, by omega, by omega, by omega, rfl, rfl, List.mem_singleton_self _, hs3, set_eq _ _ _, hlc⟩, ?_⟩
 clear hs3 hlc hs
 rintro _ _ _ F3 ⟨k, G, M, fp, s, st, cm, x, slm, rfl, hk, hkl0, rfl, rfl, hM, hsd, hb8, hlc⟩
 unfold b7L1
 have fin : b7j3 true (some ⟨d, 0, none⟩) b8 (fun v F' => v = .bool true ∧ F.le F') F3 := by
  have hsr := hlc.sr (by omega) (by omega)
  have hsr := hsr.le hsd.le
  have hsz := hsr.sizes
  have l0 := le_trans' hlc.le (le_trans' (mns_le _ _) hsd.le)
  have href : Ct F3 slm x.L := (hlc.st.ref.le (mns_le _ _)).le hsd.le
  unfold b7j3
  refine hsr.opened.mono ?_
  rintro v F4 ⟨st', cm', rfl, hnew, l4⟩
  refine ⟨_, _, rfl, fun _ => ?_, fun h => absurd rfl h⟩
  refine ⟨_, rfl, row_whole (l4 _ _ hb8), ?_⟩
  refine (same_spec hnew.sto (le_refl' _) hsr.small hsz.1 hsz.2.1 hsz.2.2.1 (by omega) hsz.2.2.2.1 (by omega) (href.le l4) hsr.byt hsr.byt).mono ?_
  rintro v F5 ⟨r, rfl, hr, l5⟩
  obtain rfl : r = true := hr.2 ⟨rfl, by rw [hsz.2.2.2.2]⟩
  exact ⟨true, rfl, fun _ => ⟨rfl, le_trans' l0 (le_trans' l4 l5)⟩, fun h => (by cases h)⟩
 refine ⟨fun hpos => ?_, fun _ => fin⟩
 rw [hlen, w64_eq (x := (ops.length : Int) - 15) (by omega) (by omega)]
 refine ⟨fun h15 => ?_, fun _ => fin⟩
 have hkl : ops.length - 1 - k < ops.length := by omega
 have ei : (ops.length : Int) - 1 - (k : Int) = ((ops.length - 1 - k : Nat) : Int) := by omega
 have lF3 := le_trans' hlc.le (le_trans' (mns_le _ _) hsd.le)
 obtain ⟨a, ha, hrow⟩ := (hops.le lF3).at hkl
 have j6 : ∀ (F5 G5 : PH) (M5 : List Nat) (b12 : Nat) (fp' : Nat → Prop) (s' : DS) (st' cm' : Nat) (x' : SS) (slm' : Sl) (e : Int), b8 ∈ M5 → b12 ∈ M5 → Sd G5 F5 M5 → F5 b12 = some (.cells (refC n x'.used slm') 28 (0, 0)) → (e = 0 ∨ e = 1 ∨ e = 351) → Lc F G5 fp' n s' st' cm' d x' slm' (k + 1) →
   b7j4 (fun y1_0 y1_1 F_1 => ∃ m', m' < 15 - k ∧ ∃ (k : Nat) (G : PH) (M : List Nat) (fp : Nat → Prop) (s : DS) (st cm : Nat) (x : SS) (slm : Sl), y1_1 = (ops.length : Int) - 1 - (k : Int) ∧ k ≤ 15 ∧ k ≤ ops.length ∧ m' = 15 - k ∧ y1_0 = some ⟨st, 0, none⟩ ∧ b8 ∈ M ∧ Sd G F_1 M ∧ F_1 b8 = some (.cells (refC n x.used slm) 28 (0, 0)) ∧ Lc F G fp n s st cm d x slm k) sl true (some ⟨d, 0, none⟩) b8 ((ops.length : Int) - 1 - (k : Int)) (some ⟨st', 0, none⟩) (some ⟨b12, 0, none⟩) e true (fun v F' => v = .bool true ∧ F.le F') F5 := by
  intro F5 G5 M5 b12 fp' s' st' cm' x' slm' e h8 h12 hs5 hb he hl5
  unfold b7j4
  refine ⟨fun h => (by cases h), fun _ => ⟨fun h => by omega, fun _ => ⟨_, rfl, _, rfl, row_whole hb, ?_⟩⟩⟩
  refine (hs5.call (hl5.same (by omega) (by omega))).mono ?_
  rintro v F6 ⟨G6, ⟨rfl, l6⟩, hs6, k6⟩
  have hb6 := k6 _ _ (hs5.z b12 h12).1 hb
  refine ⟨true, rfl, fun h => (by cases h), fun _ => ⟨_, rfl, row_whole hb6, ?_⟩⟩
  refine hs6.store h8 rfl st_refC ?_
  intro hs7
  exact ⟨15 - (k + 1), by omega, k + 1, G6, M5, fp', s', st', cm', x', slm', by rw [w64_eq (by omega) (by omega)]; omega, by omega, by omega, rfl, rfl, h8, hs7, set_eq _ _ _, hl5.up l6⟩
 refine ⟨_, rfl, row_whole hb8, a, ha, by omega, by omega, _, rfl, by rw [ei]; exact hrow, ⟨?_, ?_⟩⟩
 ·refine (hsd.call (run_lc hlc (hops.ok _ (List.getElem_mem hkl)) (by omega) (by omega))).mono ?_
  rintro v F4 ⟨G4, ⟨st', cm', fp', s', x', slm', e, rfl, he, hlc', _⟩, hsd4, _⟩
  refine ⟨_, _, _, true, rfl, ?_⟩
  intro b12 h12
  refine atI ?_
  have hsd5 := hsd4.var h12 (c := #[.int .i64 0, .int .i64 0, .slice none 0 0]) rfl
  refine hsd5.store (List.mem_cons_self ..) rfl st_refC ?_
  intro hsd6
  exact j6 _ _ _ b12 fp' s' st' cm' x' slm' e (List.mem_cons_of_mem _ hM) (List.mem_cons_self ..) hsd6 (set_eq _ _ _) he hlc'
 ·intro b12 h12
  refine atI ?_
  have hsd4 := hsd.var h12 (c := #[.int .i64 0, .int .i64 0, .slice none 0 0]) rfl
  refine (hsd4.call (run_lc hlc (hops.ok _ (List.getElem_mem hkl)) (by omega) (by omega))).mono ?_
  rintro v F4 ⟨G4, ⟨st', cm', fp', s', x', slm', e, rfl, he, hlc', _⟩, hsd5, _⟩
  refine ⟨_, _, _, true, rfl, ?_⟩
  refine hsd5.store (List.mem_cons_self ..) rfl st_refC ?_
  intro hsd6
  exact j6 _ _ _ b12 fp' s' st' cm' x' slm' e (List.mem_cons_of_mem _ hM) (List.mem_cons_self ..) hsd6 (set_eq _ _ _) he hlc'
theorem law7_j2 {m : Int} (hm : 0 ≤ m ∧ m ≤ 255) (hnm : (n : Int) = 4 + m % 40) (hn4 : 4 ≤ n) (hn : n ≤ 43) (hops : OpsRd F sl ops) (hd : DRep G K d fd n s) (hup : Up s) (hfz : s.fuse = 0) (hws : s.ws.length ≤ 100) (hkp : s.kept = []) (hl : F.le (mns G fd)) :
  b7j2 m sl true (some ⟨d, 0, none⟩) (fun v F' => v = .bool true ∧ F.le F') G := by
 unfold b7j2
 refine (Format_spec hd hup hfz (by omega) hws).mono ?_
 rintro v F2 (⟨h, _⟩ | ⟨_, st, cm, s', fd', K', rfl, hact, hfine, hfz', hinv, hkp', hst⟩)
 ·omega
 refine ⟨_, _, rfl, fun h => absurd rfl h, fun _ => ?_⟩
 have hlc : Lc F F2 (fpo fd' st cm) n s' st cm d (empt n) Sl.nil 0 := ⟨⟨hact.act, hfine, hinv, rfl, [], rfl, RdS.nil _ _, fun y hy => (by cases hy)⟩, hfz', List.eq_nil_of_length_eq_zero (by rw [hkp] at hkp'; simpa using hkp'), Int.le_refl _, le_trans' hl hst.le⟩
 refine ((hlc.sr (by omega) (by omega)).keys).mono ?_
 rintro v F3 ⟨ks, rfl, hkl, l3⟩
 have hk0 : ks.len = 0 := hkl
 refine ⟨ks, rfl, fun h => by omega, fun _ => ?_⟩
 refine (size_spec hm.1 hm.2).mono ?_
 rintro v F4 ⟨rfl, ee⟩
 obtain rfl := ee.symm
 rw [← hnm]
 exact ⟨_, rfl, law7_end hm hnm hn4 hn hops (hlc.up l3)⟩
theorem law7_j1 {m : Int} (hm : 0 ≤ m ∧ m ≤ 255) (hnm : (n : Int) = 4 + m % 40) (hn4 : 4 ≤ n) (hn : n ≤ 43) (hops : OpsRd F sl ops) (hz : RdS F nsl 1 (u8s zs)) (hzr : ∀ z ∈ zs, 0 ≤ z ∧ z ≤ 255) (hz9 : zs.length ≤ 9000000000000000000) (hd : DRep G K d fd n s) (hup : Up s) (hfz : s.fuse = 0) (hws : s.ws.length = 0) (hkp : s.kept = []) (hl : F.le (mns G fd)) :
  b7j1 m sl nsl true (some ⟨d, 0, none⟩) (fun v F' => v = .bool true ∧ F.le F') G := by
 have hzl := hz.ulen
 unfold b7j1
 refine (sectors_spec hd).mono ?_
 rintro v F1 ⟨rfl, ee⟩
 obtain rfl := ee.symm
 refine ⟨_, rfl, fun h => by omega, fun _ => ?_⟩
 refine ⟨fun q i F' => ∃ (j : Nat) (fd : Nat → Prop) (s : DS), i = ((2 * j : Nat) : Int) ∧ j ≤ 10 ∧ q = 10 - j ∧ DRep F' K d fd n s ∧ Up s ∧ s.fuse = 0 ∧ s.ws.length ≤ j ∧ s.kept = [] ∧ F.le (mns F' fd), 10,
  ⟨0, fd, s, rfl, by omega, rfl, hd, hup, hfz, by omega, hkp, hl⟩, ?_⟩
 clear hd hup hfz hws hkp hl
 rintro _ _ F2 ⟨j, fd, s, rfl, hj, rfl, hd, hup, hfz, hws, hkp, hl⟩
 have fin : b7j2 m sl true (some ⟨d, 0, none⟩) (fun v F' => v = .bool true ∧ F.le F') F2 := law7_j2 hm hnm hn4 hn hops hd hup hfz (by omega) hkp hl
 unfold b7L2
 have ei : IntKind.i64.wrap (((2 * j : Nat) : Int) + 1) = ((2 * j + 1 : Nat) : Int) := w64s (by omega)
 rw [ei]
 refine ⟨fun hlt => ⟨fun h20 => ?_, fun _ => fin⟩, fun _ => fin⟩
 have h1 : 2 * j + 1 < zs.length := by omega
 have h0 : 2 * j < zs.length := by omega
 refine runs_makeSlice underlying39 sz5 zr5 rfl (by omega) (by omega) (by omega) (by omega) ?_
 intro g hg
 rw [zc1 _ rfl]
 refine ⟨_, rfl, ?_⟩
 have hgd : ¬ fd g := fun h => hd.dom g h hg
 have lF2 := le_trans' hl (mns_le _ _)
 have hcell : ∀ {i : Nat} (hi : i < zs.length) (o : Obj), ∃ a, nsl.base = some a ∧ (F2.set g o).cell (a.add (Int.toNat (i : Int) * 1)) = some (.int .u8 zs[i]) := fun hi o => by
  obtain ⟨a, e1, e2⟩ := hz.i8 hi
  exact ⟨a, e1, le_cell (le_trans' lF2 (le_set_fresh o hg)) e2⟩
 refine ⟨fun q i F' => ∃ k : Nat, i = k ∧ k ≤ 64 ∧ q = 64 - k ∧ F' = F2.set g (.cells (u8s (List.replicate k zs[2 * j + 1] ++ List.replicate (64 - k) 0)).toArray 5), 64, ⟨0, rfl, by omega, rfl, by simp [u8s]⟩, ?_⟩
 rintro _ _ F3 ⟨k, rfl, hk, rfl, rfl⟩
 unfold b7L3
 rw [ei]
 refine ⟨fun hlt => ?_, fun hge => ?_⟩
 ·obtain ⟨a, e1, e2⟩ := hcell h1 (.cells (u8s (List.replicate k zs[2 * j + 1] ++ List.replicate (64 - k) 0)).toArray 5)
  refine ⟨a, e1, by omega, by omega, _, e2, _, rfl, by omega, by simp only [Int.toNat]; omega, ?_⟩
  refine st1' (b := g) (o := k) (by rw [add_mk]; simp) (set_eq _ _ _) (by simp; omega) ?_
  refine ⟨64 - (k + 1), by omega, k + 1, w64s (by omega), by omega, rfl, ?_⟩
  rw [set_twice, u8s_set]
  congr 4
  rw [List.set_append_right _ _ (by simp), List.length_replicate, Nat.sub_self, show 64 - k = (64 - (k + 1)) + 1 by omega, List.replicate_succ, List.set_cons_zero, List.replicate_succ']
  simp
 ·obtain rfl : k = 64 := by omega
  unfold b7j6
  obtain ⟨a, e1, e2⟩ := hcell h0 (.cells (u8s (List.replicate 64 zs[2 * j + 1] ++ List.replicate (64 - 64) 0)).toArray 5)
  have l3 := le_set_fresh (.cells (u8s (List.replicate 64 zs[2 * j + 1] ++ List.replicate (64 - 64) 0)).toArray 5) hg
  have q3 := set_eq F2 g (.cells (u8s (List.replicate 64 zs[2 * j + 1] ++ List.replicate (64 - 64) 0)).toArray 5)
  generalize F2.set g (.cells (u8s (List.replicate 64 zs[2 * j + 1] ++ List.replicate (64 - 64) 0)).toArray 5) = F4 at *
  have hd4 := hd.le l3
  refine ⟨a, e1, by omega, by omega, _, e2, ?_⟩
  refine (sectors_spec hd4).mono ?_
  rintro v F5 ⟨rfl, ee⟩
  obtain rfl := ee.symm
  have hzj := hzr _ (List.getElem_mem h0)
  have eat : Int.tmod (IntKind.i64.wrap zs[2 * j]) (n : Int) = ((zs[2 * j].toNat % n : Nat) : Int) := by
   rw [w64_eq (by omega) (by omega), Int.tmod_eq_emod_of_nonneg (by omega), Int.natCast_emod, Int.toNat_of_nonneg hzj.1]
  refine ⟨_, rfl, e2, by omega, ?_⟩
  rw [eat]
  have hlt : zs[2 * j].toNat % n < n := Nat.mod_lt _ (by omega)
  have hr4 : RdS (mns F4 fd) ⟨some ⟨g, 0, none⟩, Int.toNat 64, Int.toNat 64⟩ 1 (u8s (List.replicate 64 zs[2 * j + 1])) :=
   RdS.new ((mns_of hgd).trans q3) (by simp [u8s]) (by simp) (Nat.le_refl _)
  refine (write_spec hd4 hr4 (by omega) (by simp)).mono ?_
  rintro v F5 ⟨rfl, fd5, hd5, st5⟩
  have hk5 := s.write_kept n ((zs[2 * j].toNat % n : Nat) : Int) (List.replicate 64 zs[2 * j + 1])
  rcases hup.write (l := List.replicate 64 zs[2 * j + 1]) hlt (by simp) with ⟨hb, _⟩ | ⟨w0, w⟩
  ·rw [hfz] at hb; cases hb
  have hle5 : F.le (mns F5 fd5) := le_trans' hl (le_trans' (mns_mono l3) st5.le)
  obtain ⟨a', e1', e2'⟩ := (hz.le (le_trans' hle5 (mns_le _ _))).i8 h0
  obtain rfl : a' = a := by rw [e1] at e1'; cases e1'; rfl
  refine ⟨_, rfl, e2', fun hne => absurd w0 hne, fun _ => ?_⟩
  unfold b7j5
  refine ⟨10 - (j + 1), by omega, j + 1, fd5, _, by rw [w64_eq (by omega) (by omega)]; omega, by omega, rfl, hd5, ⟨w.down, w.fuse⟩, w.nof hfz, by rw [w.ws]; simp; omega, List.eq_nil_of_length_eq_zero (by rw [hkp] at hk5; simpa using hk5), hle5⟩
theorem law7_spec {m : Int} (hm : 0 ≤ m ∧ m ≤ 255) (hops : OpsRd F sl ops) (hz : RdS F nsl 1 (u8s zs)) (hzr : ∀ z ∈ zs, 0 ≤ z ∧ z ≤ 255) (hz9 : zs.length ≤ 9000000000000000000) : Spec prog 7 #[.int .u8 m, sl.v, nsl.v] F fun v F' => v = .bool true ∧ F.le F' := by
 have hlen := hops.len
 have hl9 := hops.len9
 refine c7 ?_
 unfold b7
 refine (sanity_spec F).mono ?_
 rintro v F1 ⟨rfl, l1⟩
 refine ⟨true, rfl, ?_⟩
 refine (size_nat hm.1 hm.2).mono ?_
 rintro v F1' ⟨n, rfl, hnm, hn4, hn, ee⟩
 obtain rfl := ee.symm
 refine ⟨_, rfl, ?_⟩
 refine (fresh_lc F1 hn4 (by omega)).mono ?_
 rintro v F2 ⟨d, st, cm, fp, s, rfl, hlc⟩
 refine ⟨_, _, _, true, rfl, ?_⟩
 intro b8 h8
 refine atI ?_
 have hs := (Sd.start F2).var h8 (c := #[.int .i64 0, .int .i64 0, .slice none 0 0]) rfl
 refine hs.store (List.mem_singleton_self _) rfl st_refC ?_
 intro hs3
 have hlc : Lc F F2 fp n s st cm d (empt n) Sl.nil 0 := ⟨hlc.st, hlc.fz, hlc.kp, hlc.num, le_trans' l1 hlc.le⟩
 refine ⟨fun h => (by cases h), fun _ => ?_⟩
 refine ⟨fun q sp i F' => ∃ (k : Nat) (G : PH) (fp : Nat → Prop) (s : DS) (st cm : Nat) (x : SS) (slm : Sl), i = k ∧ k ≤ 15 ∧ q = 15 - k ∧ sp = some ⟨st, 0, none⟩ ∧ Sd G F' [b8] ∧ F' b8 = some (.cells (refC n x.used slm) 28 (0, 0)) ∧ Lc F G fp n s st cm d x slm k, 15,
  ⟨0, F2, fp, s, st, cm, empt n, Sl.nil, rfl, by omega, rfl, rfl, hs3, set_eq _ _ _, hlc⟩, ?_⟩
 rintro _ _ _ F3 ⟨k, G, fp, s, st, cm, x, slm, rfl, hk, rfl, rfl, hsd, hb8, hlc⟩
 unfold b7L4
 have fin : b7j1 m sl nsl true (some ⟨d, 0, none⟩) (fun v F' => v = .bool true ∧ F.le F') F3 := by
  have hlc3 := hlc.up hsd.le
  obtain ⟨fd, K, rfl, ha⟩ := hlc3.st.act.open
  have hws : s.ws.length = 0 := by rw [hlc.st.fine.ws]; rfl
  exact law7_j1 hm hnm hn4 hn hops hz hzr hz9 (ha.hd.le (mns_le _ _)) hlc.st.fine.up hlc.fz hws hlc.kp (le_trans' hlc3.le (mns_anti fun b hb => .inl hb))
 refine ⟨fun hlt => ⟨fun h30 => ?_, fun h30 => fin⟩, fun hge => fin⟩
 have hkl : k < ops.length := by omega
 have lF3 := le_trans' hlc.le (le_trans' (mns_le _ _) hsd.le)
 obtain ⟨a, ha, hrow⟩ := (hops.le lF3).at hkl
 refine ⟨_, rfl, row_whole hb8, a, ha, by omega, by omega, _, rfl, hrow, ?_⟩
 refine (hsd.call (run_lc hlc (hops.ok _ (List.getElem_mem hkl)) (by omega) (by omega))).mono ?_
 rintro v F4 ⟨G4, ⟨st', cm', fp', s', x', slm', e, rfl, he, hlc', _⟩, hsd4, _⟩
 refine ⟨_, _, _, true, rfl, ?_⟩
 refine hsd4.store (List.mem_singleton_self _) rfl st_refC ?_
 intro hsd5
 exact ⟨15 - (k + 1), by omega, k + 1, G4, fp', s', st', cm', x', slm', w64s (by omega), by omega, rfl, rfl, hsd5, set_eq _ _ _, hlc'⟩
end
end Go.Proofs.Ytelkfnmdnbbniaa
