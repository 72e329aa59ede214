/-
  StoreMatchesReference.
-/
import Derived.Test.YtelkfnmdnbbniaaWu
import Derived.Test.YtelkfnmdnbbniaaGL3
namespace Go.Proofs.Ytelkfnmdnbbniaa
open Go Go.Proofs.Try
set_option maxRecDepth 10000
theorem lkR_append {k : ByteArray} : ∀ {A B : List Rc}, lkR k (A ++ B) = match lkR k A with | some v => some v | none => lkR k B
 | [], B => rfl
 | x :: A, B => by
  show (if x.1 = k then some x.2 else lkR k (A ++ B)) = match (if x.1 = k then some x.2 else lkR k A) with | some v => some v | none => lkR k B
  by_cases e : x.1 = k
  ·rw [if_pos e, if_pos e]
  ·rw [if_neg e, if_neg e]
   exact lkR_append
theorem Srt.take {L : List Rc} (h : Srt L) (i : Nat) : Srt (L.take i) := List.Pairwise.sublist (List.take_sublist _ _) h
section
variable {F F0 G K : PH} {fp fd : Nat → Prop} {n : Nat} {s : DS} {st cm d : Nat} {x : SS} {slm sl : Sl} {k : Nat} {M : List Nat} {ops : List OpS} {o : OpS}
theorem Lc.same (h : Lc F0 G fp n s st cm d x slm k) (hn : n ≤ 500) (hk : k ≤ 1000) : Spec prog 13 #[.pointer (some ⟨st, 0, none⟩), .agg (refC n x.used slm)] G fun v F' => v = .bool true ∧ G.le F' := by
 have hsr := h.sr hn hk
 have hsz := hsr.sizes
 refine (same_spec hsr.sto (le_refl' _) hsr.small hsz.1 hsz.2.1 hsz.2.2.1 (by omega) hsz.2.2.2.1 (by omega) (h.st.ref.le (mns_le _ _)) hsr.byt hsr.byt).mono ?_
 rintro v F' ⟨r, rfl, hr, l⟩
 obtain rfl : r = true := hr.2 ⟨rfl, by rw [hsz.2.2.2.2]⟩
 exact ⟨rfl, l⟩
theorem law3_spec {m : Int} (hm : 0 ≤ m ∧ m ≤ 255) (hops : OpsRd F sl ops) : Spec prog 3 #[.int .u8 m, sl.v] F fun v F' => v = .bool true ∧ F.le F' := by
 have hlen := hops.len
 have hl9 := hops.len9
 refine c3 ?_
 unfold b3
 refine (sanity_spec F).mono ?_
 rintro v F1 ⟨rfl, l1⟩
 refine ⟨true, rfl, ?_⟩
 refine (size_nat hm.1 hm.2).mono ?_
 rintro v F1' ⟨n, rfl, _, hn4, hn, ee⟩
 obtain rfl := ee.symm
 refine ⟨_, rfl, ?_⟩
 refine (fresh_lc F1 hn4 (by omega)).mono ?_
 rintro v F2 ⟨d, st, cm, fp, s, rfl, hlc⟩
 refine ⟨_, _, _, true, rfl, ?_⟩
 intro b8 h8
 refine atI ?_
 have hs := (Sd.start F2).var h8 (c := #[.int .i64 0, .int .i64 0, .slice none 0 0]) rfl
 refine hs.store (List.mem_singleton_self _) rfl st_refC ?_
 intro hs3
 have hlc : Lc F F2 fp n s st cm d (empt n) Sl.nil 0 := ⟨hlc.st, hlc.fz, hlc.kp, hlc.num, le_trans' l1 hlc.le⟩
 refine ⟨fun h => (by cases h), fun _ => ?_⟩
 have hb8 := set_eq (F2.set b8 (.cells #[.int .i64 0, .int .i64 0, .slice none 0 0] 28)) b8 (.cells (refC n 0 Sl.nil) 28)
 generalize (F2.set b8 (.cells #[.int .i64 0, .int .i64 0, .slice none 0 0] 28)).set b8 (.cells (refC n 0 Sl.nil) 28) = F3 at *
 refine ⟨_, rfl, row_whole hb8, ?_⟩
 refine (hs3.call (hlc.same (by omega) (by omega))).mono ?_
 rintro v F4 ⟨G4, ⟨rfl, l4⟩, hs4, k4⟩
 have hb8 := k4 _ _ (hs3.z b8 (List.mem_singleton_self _)).1 hb8
 have hlc := hlc.up l4
 refine ⟨true, rfl, fun h => (by cases h), fun _ => ?_⟩
 refine ⟨fun q sp i F' => ∃ (k : Nat) (G : PH) (M : List Nat) (fp : Nat → Prop) (s : DS) (st cm : Nat) (x : SS) (slm : Sl), i = k ∧ k ≤ 30 ∧ q = 30 - k ∧ sp = some ⟨st, 0, none⟩ ∧ b8 ∈ M ∧ Sd G F' M ∧ F' b8 = some (.cells (refC n x.used slm) 28 (0, 0)) ∧ Lc F G fp n s st cm d x slm k, 30,
  ⟨0, G4, [b8], fp, s, st, cm, empt n, Sl.nil, rfl, by omega, rfl, rfl, List.mem_singleton_self _, hs4, hb8, hlc⟩, ?_⟩
 clear hb8 hs4 hlc hs3 hs
 rintro _ _ _ F3 ⟨k, G, M, fp, s, st, cm, x, slm, rfl, hk, rfl, rfl, hM, hsd, hb8, hlc⟩
 unfold b3L3
 have fin : b3j1 true b8 (some ⟨st, 0, none⟩) (fun v F' => v = .bool true ∧ F.le F') F3 := by
  have hsr := hlc.sr (by omega) (by omega)
  have hbyt := hsr.byt
  have hsml := hsr.small.len
  have hpl := plen_le x.L
  have hsr := hsr.le hsd.le
  have l0 := le_trans' hlc.le (le_trans' (mns_le _ _) hsd.le)
  have href : Ct F3 slm x.L := (hlc.st.ref.le (mns_le _ _)).le hsd.le
  have hml := href.len
  have hsrt := hsr.sto.srt
  unfold b3j1
  refine ⟨fun q i F' => ∃ k : Nat, i = k ∧ k ≤ 6 ∧ q = 6 - k ∧ F3.le F', 6, ⟨0, rfl, by omega, rfl, le_refl' _⟩, ?_⟩
  rintro _ _ F4 ⟨j, rfl, hj, rfl, l4⟩
  unfold b3L1
  refine ⟨fun hlt => ?_, fun hge => ?_⟩
  ·have ew : IntKind.u8.wrap (j : Int) = (j : Int) := by rw [wu8_mod]; omega
   rw [ew]
   refine (Record_spec (i := ((j : Int), (0 : Int), (0 : Int))) rfl ⟨⟨by simp, by simp only; omega⟩, by simp, by simp⟩).mono ?_
   rintro v F5 ⟨sv, rfl, _, l5⟩
   refine ⟨_, rfl, _, rfl, ?_⟩
   have l35 := le_trans' l4 l5
   refine ((hsr.le l35).get _).mono ?_
   generalize (recOf ((j : Int), (0 : Int), (0 : Int))).1 = key
   rintro v F6 ⟨s6, rfl, hr6, l6⟩
   refine ⟨s6, _, rfl, ?_⟩
   have l36 := le_trans' l35 l6
   have hc6 := href.le l36
   have hb6 := l36 _ _ hb8
   refine ⟨fun q want known i F' => ∃ k : Nat, i = k ∧ k ≤ x.L.length ∧ q = x.L.length - k ∧ F' = F6 ∧ known = (lkR key (x.L.take k)).isSome ∧ RdS F6 want 1 (u8s ((lkR key (x.L.take k)).getD [])), x.L.length,
    ⟨0, rfl, by omega, rfl, rfl, rfl, RdS.nil _ _⟩, ?_⟩
   rintro _ want known _ F7 ⟨i, rfl, hi, rfl, ee, rfl, hwant⟩
   obtain rfl := ee.symm
   unfold b3L2
   refine ⟨slm, by rw [cell_eq hb6]; rfl, fun hlt => ?_, fun hge => ?_⟩
   ·have hi' : i < x.L.length := by omega
    obtain ⟨a, sv, h1, h2, h3, _, h5, _⟩ := hc6.at hi'
    have htk := take_next' hi'
    refine ⟨slm, by rw [cell_eq hb6]; rfl, a, h1, by omega, by omega, _, h2, ?_⟩
    rw [beq_kb]
    refine ⟨fun he => ?_, fun hne => ?_⟩
    ·have he := of_decide_eq_true he
     refine ⟨slm, by rw [cell_eq hb6]; rfl, a, h1, by omega, by omega, sv, h3, ?_⟩
     have hl : lkR key (x.L.take (i + 1)) = some x.L[i].2 := by
      have hmem : x.L[i] ∈ x.L.take (i + 1) := by rw [htk]; exact List.mem_append_right _ (List.mem_singleton_self _)
      have := lkR_at (hsrt.take (i + 1)) hmem
      rw [← he]
      exact this
     unfold b3j5
     exact ⟨x.L.length - (i + 1), by omega, i + 1, w64s (by omega), by omega, rfl, rfl, by rw [hl]; rfl, by rw [hl]; exact h5⟩
    ·have hne := of_decide_eq_false hne
     have hl : lkR key (x.L.take (i + 1)) = lkR key (x.L.take i) := by
      rw [htk, lkR_append]
      have : lkR key [x.L[i]] = none := by
       unfold lkR
       rw [if_neg hne]
       rfl
      rw [this]
      split
      ·rename_i v hv
       exact hv.symm
      ·rename_i hv
       exact hv.symm
     unfold b3j5
     exact ⟨x.L.length - (i + 1), by omega, i + 1, w64s (by omega), by omega, rfl, rfl, by rw [hl], by rw [hl]; exact hwant⟩
   ·obtain rfl : i = x.L.length := by omega
    rw [List.take_length] at *
    have hbv : Byt ((lkR key x.L).getD []) := by
     cases hl : lkR key x.L with
     | none => exact fun y hy => (by cases hy)
     | some v => exact hbyt _ (lkR_mem hl)
    unfold b3j4
    refine ⟨fun h => by simp at h, fun _ => ⟨_, mkB_rdo hr6 hbv, _, mkB_rdo hwant hbv, fun h => ?_, fun _ => ?_⟩⟩
    ·rw [beq_kb] at h
     simp at h
    ·unfold b3j3
     exact ⟨6 - (j + 1), by omega, j + 1, w64s (by omega), by omega, rfl, l36⟩
  ·unfold b3j2
   exact ⟨rfl, le_trans' l0 l4⟩
 refine ⟨fun hlt => ⟨fun h30 => ?_, fun h30 => fin⟩, fun hge => fin⟩
 have hkl : k < ops.length := by omega
 have lF3 := le_trans' hlc.le (le_trans' (mns_le _ _) hsd.le)
 obtain ⟨a, ha, hrow⟩ := (hops.le lF3).at hkl
 have j6 : ∀ (F5 G5 : PH) (M5 : List Nat) (b12 : Nat) (fp' : Nat → Prop) (s' : DS) (st' cm' : Nat) (x' : SS) (slm' : Sl) (e : Int), b8 ∈ M5 → b12 ∈ M5 → Sd G5 F5 M5 → F5 b12 = some (.cells (refC n x'.used slm') 28 (0, 0)) → (e = 0 ∨ e = 1 ∨ e = 351) → Lc F G5 fp' n s' st' cm' d x' slm' (k + 1) →
   b3j6 (fun y3_0 y3_1 F_1 => ∃ m', m' < 30 - k ∧ ∃ (k : Nat) (G : PH) (M : List Nat) (fp : Nat → Prop) (s : DS) (st cm : Nat) (x : SS) (slm : Sl), y3_1 = k ∧ k ≤ 30 ∧ m' = 30 - k ∧ y3_0 = some ⟨st, 0, none⟩ ∧ b8 ∈ M ∧ Sd G F_1 M ∧ F_1 b8 = some (.cells (refC n x.used slm) 28 (0, 0)) ∧ Lc F G fp n s st cm d x slm k) sl true (some ⟨d, 0, none⟩) b8 (k : Int) (some ⟨st', 0, none⟩) (some ⟨b12, 0, none⟩) e true (fun v F' => v = .bool true ∧ F.le F') F5 := by
  intro F5 G5 M5 b12 fp' s' st' cm' x' slm' e h8 h12 hs5 hb he hl5
  unfold b3j6
  refine ⟨fun h => (by cases h), fun _ => ⟨fun h => by omega, fun _ => ⟨_, rfl, _, rfl, row_whole hb, ?_⟩⟩⟩
  refine (hs5.call (hl5.same (by omega) (by omega))).mono ?_
  rintro v F6 ⟨G6, ⟨rfl, l6⟩, hs6, k6⟩
  have hb6 := k6 _ _ (hs5.z b12 h12).1 hb
  refine ⟨true, rfl, fun h => (by cases h), fun _ => ⟨_, rfl, row_whole hb6, ?_⟩⟩
  refine hs6.store h8 rfl st_refC ?_
  intro hs7
  exact ⟨30 - (k + 1), by omega, k + 1, G6, M5, fp', s', st', cm', x', slm', w64s (by omega), by omega, rfl, rfl, h8, hs7, set_eq _ _ _, hl5.up l6⟩
 refine ⟨_, rfl, row_whole hb8, a, ha, by omega, by omega, _, rfl, hrow, ⟨?_, ?_⟩⟩
 ·refine (hsd.call (run_lc hlc (hops.ok _ (List.getElem_mem hkl)) (by omega) (by omega))).mono ?_
  rintro v F4 ⟨G4, ⟨st', cm', fp', s', x', slm', e, rfl, he, hlc', _⟩, hsd4, _⟩
  refine ⟨_, _, _, true, rfl, ?_⟩
  intro b12 h12
  refine atI ?_
  have hsd5 := hsd4.var h12 (c := #[.int .i64 0, .int .i64 0, .slice none 0 0]) rfl
  refine hsd5.store (List.mem_cons_self ..) rfl st_refC ?_
  intro hsd6
  exact j6 _ _ _ b12 fp' s' st' cm' x' slm' e (List.mem_cons_of_mem _ hM) (List.mem_cons_self ..) hsd6 (set_eq _ _ _) he hlc'
 ·intro b12 h12
  refine atI ?_
  have hsd4 := hsd.var h12 (c := #[.int .i64 0, .int .i64 0, .slice none 0 0]) rfl
  refine (hsd4.call (run_lc hlc (hops.ok _ (List.getElem_mem hkl)) (by omega) (by omega))).mono ?_
  rintro v F4 ⟨G4, ⟨st', cm', fp', s', x', slm', e, rfl, he, hlc', _⟩, hsd5, _⟩
  refine ⟨_, _, _, true, rfl, ?_⟩
  refine hsd5.store (List.mem_cons_self ..) rfl st_refC ?_
  intro hsd6
  exact j6 _ _ _ b12 fp' s' st' cm' x' slm' e (List.mem_cons_of_mem _ hM) (List.mem_cons_self ..) hsd6 (set_eq _ _ _) he hlc'
end
end Go.Proofs.Ytelkfnmdnbbniaa
