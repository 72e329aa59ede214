/-
  StoreOpens.
-/
import Derived.Test.YtelkfnmdnbbniaaWt
import Derived.Test.YtelkfnmdnbbniaaGL9
namespace Go.Proofs.Ytelkfnmdnbbniaa
open Go Go.Proofs.Try
set_option maxRecDepth 10000
section
variable {F F0 G K : PH} {fp fd : Nat → Prop} {n : Nat} {s : DS} {st cm d : Nat} {x : SS} {slm sl : Sl} {k : Nat} {M : List Nat} {ops : List OpS} {o : OpS}
theorem opened_gen (hd : DRep F K d fd n s) (hf : Fine s n) (hi : SInv s.rd n x) (hb : x.broken = false) (hn : n ≤ 500) :
  Spec prog 20 #[.pointer (some ⟨d, 0, none⟩)] F fun v F' => ∃ st' cm', v = .tuple #[.pointer (some ⟨st', 0, none⟩), .int .i64 0] ∧ New F F' st' cm' d x ∧ F.le F' := by
 have hn1 := hi.num1
 refine (open_spec hd hf.up (by omega) hi.byt (.inr (.inr hi))).mono ?_
 rintro v F' ⟨l, hr⟩
 rcases hr with ⟨hr, _⟩ | ⟨_, hr, _⟩ | ⟨_, st', cm', _, rfl, hst', hcm', hsto, _⟩
 ·have := hi.n4
  omega
 ·rw [pick_inv hi] at hr
  simp only at hr
  omega
 ·refine ⟨st', cm', rfl, ⟨hst', hcm', ?_⟩, l⟩
  cases x
  simp only at hb
  subst hb
  exact hsto
theorem Sr.disk (h : Sr F fp n s st cm d x) : ∃ fd K, DRep F K d fd n s := by
 obtain ⟨fd, K, rfl, ha⟩ := h.act.open
 exact ⟨fd, K, ha.hd.le (mns_le _ _)⟩
theorem read_ok (hd : DRep F K d fd n s) (hup : Up s) {i : Nat} (hi : i < n) (hb : Byt (s.rd i)) : Spec prog 38 #[.pointer (some ⟨d, 0, none⟩), .int .i64 (i : Int)] F fun v F' => ∃ sl, v = .tuple #[Sl.v sl, .int .i64 0] ∧ RdS F' sl 1 (u8s (s.rd i)) ∧ F.le F' := by
 refine (read_spec hd).mono ?_
 have hread := hup.read hi
 rintro v F2 ⟨l2, h2⟩
 rcases h2 with ⟨e, _, h3, h5⟩ | ⟨g, l, hg, rfl, hgl, h3, hl⟩
 ·rw [hread] at h3
  injection h3 with _ h3
  exact absurd h3.symm h5
 ·rw [hread] at h3
  injection h3 with h3 _
  obtain rfl := h3
  exact ⟨_, rfl, get_rd hgl hl, l2⟩
theorem law9_spec {m : Int} (hm : 0 ≤ m ∧ m ≤ 255) (hops : OpsRd F sl ops) : Spec prog 9 #[.int .u8 m, sl.v] F fun v F' => v = .bool true ∧ F.le F' := by
 have hlen := hops.len
 have hl9 := hops.len9
 refine c9 ?_
 unfold b9
 refine (sanity_spec F).mono ?_
 rintro v F1 ⟨rfl, l1⟩
 refine ⟨true, rfl, ?_⟩
 refine (size_nat hm.1 hm.2).mono ?_
 rintro v F1' ⟨n, rfl, _, hn4, hn, ee⟩
 obtain rfl := ee.symm
 refine ⟨_, rfl, ?_⟩
 refine (fresh_lc F1 hn4 (by omega)).mono ?_
 rintro v F2 ⟨d, st, cm, fp, s, rfl, hlc⟩
 refine ⟨_, _, _, true, rfl, ?_⟩
 intro b8 h8
 refine atI ?_
 have hs := (Sd.start F2).var h8 (c := #[.int .i64 0, .int .i64 0, .slice none 0 0]) rfl
 refine hs.store (List.mem_singleton_self _) rfl st_refC ?_
 intro hs3
 have hlc : Lc F F2 fp n s st cm d (empt n) Sl.nil 0 := ⟨hlc.st, hlc.fz, hlc.kp, hlc.num, le_trans' l1 hlc.le⟩
 refine ⟨fun h => (by cases h), fun _ => ?_⟩
 refine ⟨fun q sp i F' => ∃ (k : Nat) (G : PH) (fp : Nat → Prop) (s : DS) (st cm : Nat) (x : SS) (slm : Sl), i = k ∧ k ≤ 30 ∧ q = 30 - k ∧ sp = some ⟨st, 0, none⟩ ∧ Sd G F' [b8] ∧ F' b8 = some (.cells (refC n x.used slm) 28 (0, 0)) ∧ Lc F G fp n s st cm d x slm k, 30,
  ⟨0, F2, fp, s, st, cm, empt n, Sl.nil, rfl, by omega, rfl, rfl, hs3, set_eq _ _ _, hlc⟩, ?_⟩
 rintro _ _ _ F3 ⟨k, G, fp, s, st, cm, x, slm, rfl, hk, rfl, rfl, hsd, hb8, hlc⟩
 unfold b9L2
 have fin : b9j1 true (some ⟨d, 0, none⟩) (some ⟨st, 0, none⟩) (fun v F' => v = .bool true ∧ F.le F') F3 := by
  have hsr := hlc.sr (by omega) (by omega)
  have hbyt := hsr.byt
  have hsml := hsr.small.len
  have hpl := plen_le x.L
  have hsr := hsr.le hsd.le
  have l0 := le_trans' hlc.le (le_trans' (mns_le _ _) hsd.le)
  have hsz := hsr.sizes
  have hi := hsr.inv
  have hf := hsr.fine
  obtain ⟨fd, K, hd⟩ := hsr.disk
  have hsmall := hsr.small
  unfold b9j1
  refine (copy_spec hd (by rw [hlc.kp]; simp)).mono ?_
  rintro v F4 ⟨c, fq, rfl, l4, ⟨Kc, hdc⟩, _⟩
  refine ⟨_, rfl, ?_⟩
  refine (pending_spec (hd.le l4)).mono ?_
  rintro v F5 ⟨rfl, ee⟩
  obtain rfl := ee.symm
  refine ⟨_, rfl, ?_⟩
  refine (opened_gen (hd.le l4) hf hi hsr.br (by omega)).mono ?_
  rintro v F5 ⟨sta, cma, rfl, hna, l5⟩
  have l45 := le_trans' l4 l5
  refine ⟨_, _, rfl, ?_⟩
  refine (opened_gen (hd.le l45) hf hi hsr.br (by omega)).mono ?_
  rintro v F6 ⟨stb, cmb, rfl, hnb, l6⟩
  have l46 := le_trans' l45 l6
  refine ⟨_, _, rfl, ?_⟩
  refine (opened_gen (hdc.le (le_trans' l5 l6)) hf hi hsr.br (by omega)).mono ?_
  rintro v F7 ⟨stc, cmc, rfl, hnc, l7⟩
  have l47 := le_trans' l46 l7
  refine ⟨_, _, rfl, fun h => absurd rfl h, fun _ => ⟨fun h => absurd rfl h, fun _ => ⟨fun h => absurd rfl h, fun _ => ?_⟩⟩⟩
  refine (pending_spec (hd.le l47)).mono ?_
  rintro v F8 ⟨rfl, ee⟩
  obtain rfl := ee.symm
  refine ⟨_, rfl, fun h => absurd rfl h, fun _ => ?_⟩
  refine ⟨fun q i F' => ∃ k : Nat, i = k ∧ k ≤ n ∧ q = n - k ∧ F7.le F', n, ⟨0, rfl, by omega, rfl, le_refl' _⟩, ?_⟩
  rintro _ _ F8 ⟨j, rfl, hj, rfl, l8⟩
  have l38 := le_trans' l47 l8
  unfold b9L1
  refine (sectors_spec (hd.le l38)).mono ?_
  rintro v F9 ⟨rfl, ee⟩
  obtain rfl := ee.symm
  refine ⟨_, rfl, fun hlt => ?_, fun hge => ?_⟩
  ·have hj' : j < n := by omega
   have hbj := (hi.byt j hj').1
   refine (read_ok (hd.le l38) hf.up hj' hbj).mono ?_
   rintro v F9 ⟨sa, rfl, ra, l9⟩
   refine ⟨sa, 0, rfl, ?_⟩
   refine (read_ok (hdc.le (le_trans' (le_trans' l5 (le_trans' l6 l7)) (le_trans' l8 l9))) hf.up hj' hbj).mono ?_
   rintro v F10 ⟨sb, rfl, rb, l10⟩
   refine ⟨sb, 0, rfl, fun h => absurd rfl h, fun _ => ⟨fun h => absurd rfl h, fun _ => ⟨_, mkB_rdo (ra.le l10) hbj, _, mkB_rdo rb hbj, fun h => ?_, fun _ => ?_⟩⟩⟩
   ·rw [beq_kb] at h
    simp at h
   ·exact ⟨n - (j + 1), by omega, j + 1, w64s (by omega), by omega, rfl, le_trans' l8 (le_trans' l9 l10)⟩
  ·have hsr8 := hsr.le l38
   have hna8 := hna.le (le_trans' l6 (le_trans' l7 l8))
   have hnb8 := hnb.le (le_trans' l7 l8)
   have hnc8 := hnc.le l8
   have l08 := le_trans' l0 l38
   -- contents of a further store are the same
   have cont : ∀ {F' : PH} {st' cm' d' : Nat} {w : Sl}, StO F' F' st' cm' d' x → Ct F' w x.L → ∀ {Kk : Sl → PH → Prop}, (∀ F'' v, F'.le F'' → Kk v F'') →
     Spec prog 17 #[.pointer (some ⟨st', 0, none⟩)] F' fun v F => ∃ v_1 : Sl, v = Sl.v v_1 ∧ Kk v_1 F := by
    intro F' st' cm' d' w h1 h2 Kk hK
    refine (contents_spec h1 (le_refl' _) hsmall).mono ?_
    rintro v F'' ⟨s', rfl, _, l⟩
    exact ⟨s', rfl, hK _ _ l⟩
   have two : ∀ {F' : PH} {st' cm' d' : Nat} {w : Sl} {R : PH → Prop} {Rf : PH → Prop}, StO F' F' st' cm' d' x → Ct F' w x.L → (∀ F'', F'.le F'' → R F'') →
     Spec prog 17 #[.pointer (some ⟨st', 0, none⟩)] F' fun v F => ∃ v_1 : Sl, v = Sl.v v_1 ∧ Spec prog 21 #[Sl.v v_1, Sl.v w] F fun v F => ∃ v_2 : Bool, v = .bool v_2 ∧ ((v_2 = true → R F) ∧ (v_2 = false → Rf F)) := by
    intro F' st' cm' d' w R Rf h1 h2 hR
    refine (contents_spec h1 (le_refl' _) hsmall).mono ?_
    rintro v F'' ⟨s', rfl, hc, l⟩
    refine ⟨s', rfl, ?_⟩
    refine (Same_spec (hc.le (mns_le _ _)) (h2.le l) hbyt hbyt (by omega)).mono ?_
    rintro v F3 ⟨r, rfl, hr, ee⟩
    obtain rfl := ee.symm
    obtain rfl : r = true := hr.2 rfl
    exact ⟨true, rfl, fun _ => hR _ l, fun h => (by cases h)⟩
   have room2 : ∀ {F' : PH} {st' cm' d' : Nat} {Kk : Int → PH → Prop}, StO F' F' st' cm' d' x → Kk (roomI x.size x.used) F' → Spec prog 18 #[.pointer (some ⟨st', 0, none⟩)] F' fun v F => ∃ v_1 : Int, v = .int .i64 v_1 ∧ Kk v_1 F := by
    intro F' st' cm' d' Kk h1 hK
    refine (room_spec h1 hsz.1 hsz.2.1 hsz.2.2.1).mono ?_
    rintro v F'' ⟨rfl, ee⟩
    obtain rfl := ee.symm
    exact ⟨_, rfl, hK⟩
   unfold b9j2
   refine (hsr8.contents).mono ?_
   rintro v F9 ⟨w, rfl, hw, l9⟩
   have hw := hw.le (mns_le _ _)
   refine ⟨w, rfl, ?_⟩
   refine two (hna8.le l9).sto hw ?_
   intro F10 l10
   refine two (hnb8.le (le_trans' l9 l10)).sto (hw.le l10) ?_
   intro F11 l11
   refine two (hnc8.le (le_trans' l9 (le_trans' l10 l11))).sto (hw.le (le_trans' l10 l11)) ?_
   intro F12 l12
   have l912 := le_trans' l9 (le_trans' l10 (le_trans' l11 l12))
   have es := (hsr8.le l912).sto
   refine room2 (hna8.le l912).sto (room2 es ⟨fun _ => room2 (hnb8.le l912).sto (room2 es ⟨fun _ => room2 (hnc8.le l912).sto (room2 es ⟨fun _ => ⟨rfl, le_trans' l08 l912⟩, fun h => absurd rfl h⟩), fun h => absurd rfl h⟩), fun h => absurd rfl h⟩)
 refine ⟨fun hlt => ⟨fun h30 => ?_, fun h30 => fin⟩, fun hge => fin⟩
 have hkl : k < ops.length := by omega
 have lF3 := le_trans' hlc.le (le_trans' (mns_le _ _) hsd.le)
 obtain ⟨a, ha, hrow⟩ := (hops.le lF3).at hkl
 refine ⟨_, rfl, row_whole hb8, a, ha, by omega, by omega, _, rfl, hrow, ?_⟩
 refine (hsd.call (run_lc hlc (hops.ok _ (List.getElem_mem hkl)) (by omega) (by omega))).mono ?_
 rintro v F4 ⟨G4, ⟨st', cm', fp', s', x', slm', e, rfl, he, hlc', _⟩, hsd4, _⟩
 refine ⟨_, _, _, true, rfl, ?_⟩
 refine hsd4.store (List.mem_singleton_self _) rfl st_refC ?_
 intro hsd5
 exact ⟨30 - (k + 1), by omega, k + 1, G4, fp', s', st', cm', x', slm', w64s (by omega), by omega, rfl, rfl, hsd5, set_eq _ _ _, hlc'⟩
end
end Go.Proofs.Ytelkfnmdnbbniaa
