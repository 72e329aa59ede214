/-
  StoreRoom.
-/
import Derived.Test.YtelkfnmdnbbniaaWv
import Derived.Test.YtelkfnmdnbbniaaGL5
namespace Go.Proofs.Ytelkfnmdnbbniaa
open Go Go.Proofs.Try
set_option maxRecDepth 10000
section
variable {F F0 G K : PH} {fp fd : Nat → Prop} {n : Nat} {s : DS} {st cm d : Nat} {x : SS} {slm sl : Sl} {k : Nat} {M : List Nat} {ops : List OpS} {o : OpS}
theorem Sr.records (h : Sr F fp n s st cm d x) (ho : OpRd (mns F fp) o) : Spec prog 22 #[.agg o.cells] F fun v F' => ∃ sl, v = Sl.v sl ∧ Ct (mns F' fp) sl (recsOf o) ∧ F.le F' ∧ (mns F fp).le (mns F' fp) := by
 refine (side_le (R := fun v G => ∃ sl, v = Sl.v sl ∧ Ct G sl (recsOf o)) h.dom ((Records_spec (a := o.cells) rfl ho).mono fun _ _ ⟨sl, h1, h2, h3⟩ => ⟨⟨sl, h1, h2⟩, h3⟩)).mono ?_
 rintro v F' ⟨⟨sl, rfl, hc⟩, l, ml⟩
 exact ⟨sl, rfl, hc, l, ml⟩
theorem refC_ok {n u : Nat} {L t : List Rc} (h1 : OkT t) (h2 : t ≠ []) : refCommit n u L t = if n / 2 - 1 - u < secs (plen t) then
  if n / 2 - 1 - snapN L < secs (plen t) then (u, L, 351) else (snapN L + secs (plen t), afterR L t, 0) else (u + secs (plen t), afterR L t, 0) := by
 conv => lhs; unfold refCommit
 rw [if_neg (fun hh => hh h1), if_neg h2]
theorem law5_j3 {m : Int} (hm : 0 ≤ m ∧ m ≤ 255) (hnm : (n : Int) = 4 + m % 40) (hn : n ≤ 43) (h : Sr G fp n s st cm d x) (hnum : x.num < 1000000) {t : List Rc} {tl w : Sl} (ht : Ct (mns G fp) tl t) (hw : Ct (mns G fp) w x.L) (hok : OkT t) (hne : t ≠ []) (hb : BytR t) (htl : t.length ≤ 4) (hl : F.le (mns G fp)) :
  b5j3 m true (some ⟨st, 0, none⟩) tl (plen t : Int) (roomI x.size x.used) w (snapN x.L : Int) (fun v F' => v = .bool true ∧ F.le F') G := by
 have hsz := h.sizes
 have hsnap := h.inv.snap
 have hsml := h.small.len
 have hpl := plen_le x.L
 have hpt : plen t ≤ t.length * 1048836 := by
  clear hne htl ht hb
  induction t with
  | nil => simp [plen_nil]
  | cons z T ih =>
   rw [plen_cons, List.length_cons]
   have h2 := hok z (List.mem_cons_self ..)
   have h3 := ih (fun r hr => hok r (List.mem_cons_of_mem _ hr))
   omega
 have hp1 : 6 ≤ plen t := by
  cases t with
  | nil => exact absurd rfl hne
  | cons z T =>
   rw [plen_cons]
   have h2 := hok z (List.mem_cons_self ..)
   omega
 have hse : secs (plen t) = 1 + (plen t + 62) / 63 := rfl
 have hrc := refC_ok (n := n) (u := x.used) (L := x.L) hok hne
 have hroom : roomI x.size x.used = max 0 (63 * (((x.size - 1 : Nat) : Int) - (x.used : Int) - 1)) := rfl
 unfold b5j3
 refine (h.commit hnum ht (by omega) hb).mono ?_
 rintro v F2 ⟨fp2, s2, x2, rfl, h2, e1, e2, e3, e4, st2⟩
 have ht2 := (ht.le st2.le).le (mns_le _ _)
 have hw2 := (hw.le st2.le).le (mns_le _ _)
 have hle := le_trans' hl (le_trans' st2.le (mns_le _ _))
 refine ⟨_, rfl, ?_⟩
 refine (size_spec hm.1 hm.2).mono ?_
 rintro v F3 ⟨rfl, ee⟩
 obtain rfl := ee.symm
 rw [← hnm]
 refine ⟨_, rfl, fun hfit => ?_, fun hbig => ?_⟩
 ·have hc : ¬ (n / 2 - 1 - x.used < secs (plen t)) := by omega
  rw [hrc, if_neg hc] at e1 e2 ⊢
  simp only at e1 e2
  refine ⟨fun _ => ?_, fun hh => absurd rfl hh⟩
  refine h2.room.mono ?_
  rintro v F3 ⟨rfl, ee⟩
  obtain rfl := ee.symm
  refine ⟨_, rfl, ?_⟩
  refine (Size_spec ht2 (by omega)).mono ?_
  rintro v F3 ⟨rfl, ee⟩
  obtain rfl := ee.symm
  refine ⟨_, rfl, fun _ => ⟨rfl, hle⟩, fun hh => absurd ?_ hh⟩
  have hr2 : roomI x2.size x2.used = max 0 (63 * (((x2.size - 1 : Nat) : Int) - (x2.used : Int) - 1)) := rfl
  rw [w64_eq (x := (63 : Int) * _) (by omega) (by omega), w64_eq (by omega) (by omega), hr2, hroom, e2, e3]
  omega
 ·have hc : n / 2 - 1 - x.used < secs (plen t) := by omega
  rw [hrc, if_pos hc] at e1 e2 ⊢
  refine (Size_spec ht2 (by omega)).mono ?_
  rintro v F3 ⟨rfl, ee⟩
  obtain rfl := ee.symm
  have ecap : IntKind.i64.wrap (IntKind.i64.wrap (Int.tdiv (n : Int) 2) - 1) = ((n / 2 - 1 : Nat) : Int) := by
   rw [Int.tdiv_eq_ediv_of_nonneg (by omega), w64_eq (x := (n : Int) / 2) (by omega) (by omega), w64_eq (by omega) (by omega)]
   omega
  have es : IntKind.i64.wrap ((snapN x.L : Int) + (secs (plen t) : Int)) = ((snapN x.L + secs (plen t) : Nat) : Int) := by rw [w64_eq (by omega) (by omega)]; omega
  rw [ecap]
  refine ⟨_, rfl, ?_⟩
  rw [es]
  refine ⟨fun hf => ?_, fun hf => ?_⟩
  ·have hc2 : n / 2 - 1 - snapN x.L < secs (plen t) := by omega
   rw [if_pos hc2] at e1 e2 ⊢
   simp only at e1 e2
   refine ⟨fun _ => ?_, fun hh => absurd rfl hh⟩
   refine h2.contents.mono ?_
   rintro v F3 ⟨s3, rfl, hc3, l3⟩
   refine ⟨s3, rfl, ?_⟩
   refine (Same_spec (hc3.le (mns_le _ _)) (hw2.le l3) h2.byt h.byt (by rw [e1]; omega)).mono ?_
   rintro v F4 ⟨r, rfl, hr, ee⟩
   obtain rfl := ee.symm
   obtain rfl : r = true := hr.2 e1
   refine ⟨true, rfl, fun _ => ?_, fun hh => (by cases hh)⟩
   refine (h2.le l3).room.mono ?_
   rintro v F4 ⟨rfl, ee⟩
   obtain rfl := ee.symm
   exact ⟨_, rfl, fun _ => ⟨rfl, le_trans' hle l3⟩, fun hh => absurd (by rw [e2, e3]) hh⟩
  ·have hc2 : ¬ (n / 2 - 1 - snapN x.L < secs (plen t)) := by omega
   rw [if_neg hc2] at e1 e2 ⊢
   simp only at e1 e2
   refine ⟨fun _ => ?_, fun hh => absurd rfl hh⟩
   refine h2.room.mono ?_
   rintro v F3 ⟨rfl, ee⟩
   obtain rfl := ee.symm
   refine ⟨_, rfl, ?_⟩
   refine (Size_spec ht2 (by omega)).mono ?_
   rintro v F3 ⟨rfl, ee⟩
   obtain rfl := ee.symm
   refine ⟨_, rfl, fun _ => ⟨rfl, hle⟩, fun hh => absurd ?_ hh⟩
   have hr2 : roomI x2.size x2.used = max 0 (63 * (((x2.size - 1 : Nat) : Int) - (x2.used : Int) - 1)) := rfl
   rw [w64_eq (x := ((n / 2 - 1 : Nat) : Int) - (snapN x.L : Int)) (by omega) (by omega), w64_eq (x := ((n / 2 - 1 : Nat) : Int) - (snapN x.L : Int) - (secs (plen t) : Int)) (by omega) (by omega), w64_eq (x := ((n / 2 - 1 : Nat) : Int) - (snapN x.L : Int) - (secs (plen t) : Int) - 1) (by omega) (by omega), w64_eq (by omega) (by omega), hr2, e2, e3]
   omega
theorem law5_spec {m : Int} {a : Array Value} (hm : 0 ≤ m ∧ m ≤ 255) (hops : OpsRd F sl ops) (ha : a = o.cells) (ho : OpRd F o) : Spec prog 5 #[.int .u8 m, sl.v, .agg a] F fun v F' => v = .bool true ∧ F.le F' := by
 subst ha
 have hlen := hops.len
 have hl9 := hops.len9
 refine c5 ?_
 unfold b5
 intro b5 h5
 refine atI ?_
 have l5 := le_set_fresh (.cells o.cells 38) h5
 have q5 := set_eq F b5 (.cells o.cells 38)
 generalize F.set b5 (.cells o.cells 38) = F5 at *
 refine (sanity_spec F5).mono ?_
 rintro v F1 ⟨rfl, l1⟩
 refine ⟨true, rfl, ?_⟩
 refine (size_nat hm.1 hm.2).mono ?_
 rintro v F1' ⟨n, rfl, hnm, hn4, hn, ee⟩
 obtain rfl := ee.symm
 refine ⟨_, rfl, ?_⟩
 refine (fresh_lc F1 hn4 (by omega)).mono ?_
 rintro v F2 ⟨d, st, cm, fp, s, rfl, hlc⟩
 refine ⟨_, _, _, true, rfl, ?_⟩
 intro b8 h8
 refine atI ?_
 have hs := (Sd.start F2).var h8 (c := #[.int .i64 0, .int .i64 0, .slice none 0 0]) rfl
 refine hs.store (List.mem_singleton_self _) rfl st_refC ?_
 intro hs3
 have hlc : Lc F5 F2 fp n s st cm d (empt n) Sl.nil 0 := ⟨hlc.st, hlc.fz, hlc.kp, hlc.num, le_trans' l1 hlc.le⟩
 refine ⟨fun h => (by cases h), fun _ => ?_⟩
 refine ⟨fun q sp i F' => ∃ (k : Nat) (G : PH) (fp : Nat → Prop) (s : DS) (st cm : Nat) (x : SS) (slm : Sl), i = k ∧ k ≤ 20 ∧ q = 20 - k ∧ sp = some ⟨st, 0, none⟩ ∧ Sd G F' [b8] ∧ F' b8 = some (.cells (refC n x.used slm) 28 (0, 0)) ∧ Lc F5 G fp n s st cm d x slm k, 20,
  ⟨0, F2, fp, s, st, cm, empt n, Sl.nil, rfl, by omega, rfl, rfl, hs3, set_eq _ _ _, hlc⟩, ?_⟩
 rintro _ _ _ F3 ⟨k, G, fp, s, st, cm, x, slm, rfl, hk, rfl, rfl, hsd, hb8, hlc⟩
 unfold b5L2
 have fin : b5j1 m b5 true (some ⟨st, 0, none⟩) (fun v F' => v = .bool true ∧ F.le F') F3 := by
  have hsr := hlc.sr (by omega) (by omega)
  have hnum := hlc.num
  have hsr := hsr.le hsd.le
  have hl5 : F5.le (mns F3 fp) := le_trans' hlc.le (mns_mono hsd.le)
  have l0 := le_trans' l5 (le_trans' hl5 (mns_le _ _))
  have hsz := hsr.sizes
  have hsml := hsr.small.len
  have hpl := plen_le x.L
  have ho3 : OpRd (mns F3 fp) o := ho.le (le_trans' l5 hl5)
  have hrb := recsOf_byt ho3
  have hrl := recsOf_len o
  have hrp := recsOf_plen ho3
  unfold b5j1
  refine ⟨_, rfl, row_whole (mns_le _ _ _ _ (hl5 _ _ q5)), ?_⟩
  refine (hsr.records ho3).mono ?_
  rintro v F4 ⟨tl, rfl, ht, l4, m4⟩
  have h4 := hsr.le l4
  refine ⟨tl, rfl, ?_⟩
  refine (Valid_spec (ht.le (mns_le _ _)) (by omega)).mono ?_
  rintro v F4' ⟨b, rfl, hbv, ee⟩
  obtain rfl := ee.symm
  have l04 := le_trans' l0 l4
  refine ⟨b, rfl, fun _ => ⟨rfl, l04⟩, fun hb1 => ?_⟩
  have hok : OkT (recsOf o) := hbv.1 (by simpa using hb1)
  have htl := ht.len
  refine ⟨fun _ => ⟨rfl, l04⟩, fun h0 => ?_⟩
  have hne : recsOf o ≠ [] := fun e => h0 (by rw [htl, e]; rfl)
  refine ⟨fun q p i F' => ∃ k : Nat, i = k ∧ k ≤ (recsOf o).length ∧ q = (recsOf o).length - k ∧ p = (plen ((recsOf o).take k) : Int) ∧ F' = F4, (recsOf o).length, ⟨0, rfl, by omega, rfl, rfl, rfl⟩, ?_⟩
  rintro _ _ _ F6 ⟨j, rfl, hj, rfl, rfl, ee⟩
  obtain rfl := ee.symm
  have hpk : plen ((recsOf o).take j) ≤ plen (recsOf o) := by unfold plen; exact payl_take_le _ _
  unfold b5L1
  refine ⟨fun hlt => ?_, fun hge => ?_⟩
  ·have hj' : j < (recsOf o).length := by omega
   obtain ⟨a, sv, h1, h2, h3, _, _, h6⟩ := (ht.le (mns_le _ _)).at hj'
   have htk : plen ((recsOf o).take (j + 1)) = plen ((recsOf o).take j) + ((recsOf o)[j].1.size + (recsOf o)[j].2.length + 5) := by
    rw [take_next' hj', plen_append, plen_cons, plen_nil]
   have hpk1 : plen ((recsOf o).take (j + 1)) ≤ plen (recsOf o) := by unfold plen; exact payl_take_le _ _
   refine ⟨a, h1, by omega, by omega, _, h2, a, h1, by omega, by omega, sv, h3, (recsOf o).length - (j + 1), by omega, j + 1, w64s (by omega), by omega, rfl, ?_, rfl⟩
   rw [h6, w64_eq (x := ((recsOf o)[j].1.size : Int) + ((recsOf o)[j].2.length : Int)) (by omega) (by omega), w64_eq (x := ((recsOf o)[j].1.size : Int) + ((recsOf o)[j].2.length : Int) + 5) (by omega) (by omega), w64_eq (by omega) (by omega), htk]
   omega
  ·obtain rfl : j = (recsOf o).length := by omega
   rw [List.take_length]
   unfold b5j2
   refine h4.room.mono ?_
   rintro v F7 ⟨rfl, ee⟩
   obtain rfl := ee.symm
   refine ⟨_, rfl, ?_⟩
   refine h4.contents.mono ?_
   rintro v F7 ⟨w, rfl, hw, l7⟩
   have hw := hw.le (mns_anti (F := F7) h4.dom)
   have hwl := hw.len
   have h7 := h4.le l7
   have ht7 := ht.le (mns_mono (fp := fp) l7)
   have hl7 : F.le (mns F7 fp) := le_trans' l5 (le_trans' hl5 (le_trans' m4 (mns_mono l7)))
   refine ⟨w, rfl, fun hpos => ?_, fun hz => ?_⟩
   ·refine (Size_spec (hw.le (mns_le _ _)) (by omega)).mono ?_
    rintro v F8 ⟨rfl, ee⟩
    obtain rfl := ee.symm
    have hsn : snapN x.L = secs (plen x.L) := by
     unfold snapN
     rw [if_neg (fun e => by rw [e] at hwl; simp at hwl; omega)]
    refine ⟨_, rfl, ?_⟩
    rw [← hsn]
    exact law5_j3 hm hnm hn h7 (by omega) ht7 hw hok hne hrb hrl hl7
   ·have hL : x.L = [] := List.eq_nil_of_length_eq_zero (by omega)
    have hsn : snapN x.L = 0 := by
     unfold snapN
     rw [if_pos hL]
    have := law5_j3 hm hnm hn h7 (by omega) ht7 hw hok hne hrb hrl hl7
    rw [hsn] at this
    exact this
 refine ⟨fun hlt => ⟨fun h30 => ?_, fun h30 => fin⟩, fun hge => fin⟩
 have hkl : k < ops.length := by omega
 have lF3 := le_trans' hlc.le (le_trans' (mns_le _ _) hsd.le)
 obtain ⟨a, ha, hrow⟩ := (hops.le (le_trans' l5 lF3)).at hkl
 refine ⟨_, rfl, row_whole hb8, a, ha, by omega, by omega, _, rfl, hrow, ?_⟩
 refine (hsd.call (run_lc hlc ((hops.ok _ (List.getElem_mem hkl)).le l5) (by omega) (by omega))).mono ?_
 rintro v F4 ⟨G4, ⟨st', cm', fp', s', x', slm', e, rfl, he, hlc', _⟩, hsd4, _⟩
 refine ⟨_, _, _, true, rfl, ?_⟩
 refine hsd4.store (List.mem_singleton_self _) rfl st_refC ?_
 intro hsd5
 exact ⟨20 - (k + 1), by omega, k + 1, G4, fp', s', st', cm', x', slm', w64s (by omega), by omega, rfl, rfl, hsd5, set_eq _ _ _, hlc'⟩
end
end Go.Proofs.Ytelkfnmdnbbniaa
