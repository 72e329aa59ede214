/-
  Scripts of operations; StoreCompacts.
-/
import Derived.Test.YtelkfnmdnbbniaaWs
import Derived.Test.YtelkfnmdnbbniaaGL4
namespace Go.Proofs.Ytelkfnmdnbbniaa
open Go Go.Proofs.Try
set_option maxRecDepth 10000
def opsC (l : List OpS) : List Value := l.flatMap fun o => [.int .u8 o.kind, o.sl.v]
theorem opsC_len (l : List OpS) : (opsC l).length = l.length * 2 := by
 induction l with
 | nil => rfl
 | cons b T ih => simp only [opsC, List.flatMap_cons, List.length_append, List.length_cons] at ih ⊢; rw [ih]; simp; omega
theorem opsC_get : ∀ (T : List OpS) (i : Nat) (x : OpS), T[i]? = some x → ((opsC T).drop (i * 2)).take 2 = [.int .u8 x.kind, x.sl.v]
 | b :: T, 0, x, h => by cases h; simp [opsC]
 | b :: T, i + 1, x, h => by
  have e : (i + 1) * 2 = 2 + i * 2 := by omega
  have : opsC (b :: T) = [.int .u8 b.kind, b.sl.v] ++ opsC T := by simp [opsC]
  rw [this, e, ← List.drop_drop, List.drop_left' (by simp)]
  exact opsC_get T i x (by simpa using h)
structure OpsRd (F : PH) (sl : Sl) (ops : List OpS) : Prop where
 rd : RdS F sl 2 (opsC ops)
 ok : ∀ o ∈ ops, OpRd F o
 len9 : ops.length ≤ 9000000000000000000
theorem OpsRd.le {F G : PH} {sl : Sl} {ops : List OpS} (h : OpsRd F sl ops) (l : F.le G) : OpsRd G sl ops := ⟨h.rd.le l, fun o ho => (h.ok o ho).le l, h.len9⟩
theorem OpsRd.len {F : PH} {sl : Sl} {ops : List OpS} (h : OpsRd F sl ops) : sl.len = ops.length := by have := h.rd.len; rw [opsC_len] at this; omega
theorem OpsRd.at {F : PH} {sl : Sl} {ops : List OpS} (h : OpsRd F sl ops) {i : Nat} (hi : i < ops.length) : ∃ a : Addr, sl.base = some a ∧ F.row (a.add (Int.toNat (i : Int) * 2)) ops[i].cells := by
 have hl := h.len
 obtain ⟨b, o, hb⟩ := h.rd.base (by omega)
 refine ⟨_, hb, ?_⟩
 rw [Int.toNat_natCast]
 exact h.rd.row hb (i * 2) ops[i].cells (opsC_get _ _ _ (List.getElem?_eq_getElem hi)).symm
structure Lc (F0 G : PH) (fp : Nat → Prop) (n : Nat) (s : DS) (st cm d : Nat) (x : SS) (slm : Sl) (k : Nat) : Prop where
 st : St G fp n s st cm d x slm
 fz : s.fuse = 0
 kp : s.kept = []
 num : x.num ≤ (k : Int) + 1
 le : F0.le (mns G fp)
section
variable {F F0 G : PH} {fp : Nat → Prop} {n : Nat} {s : DS} {st cm d : Nat} {x : SS} {slm sl : Sl} {k : Nat} {M : List Nat} {ops : List OpS} {o : OpS}
theorem Lc.up (h : Lc F0 G fp n s st cm d x slm k) {G' : PH} (l : G.le G') : Lc F0 G' fp n s st cm d x slm k := ⟨h.st.le l, h.fz, h.kp, h.num, le_trans' h.le (mns_mono l)⟩
theorem Lc.sr (h : Lc F0 G fp n s st cm d x slm k) (hn : n ≤ 500) (hk : k ≤ 1000) : Sr G fp n s st cm d x := ⟨h.st.act, h.st.fine, h.st.inv, h.st.br, h.fz, hn, by have := h.num; omega⟩
theorem fresh_lc (F : PH) (h4 : 4 ≤ n) (hn : n ≤ 500) : Spec prog 11 #[.int .i64 (n : Int)] F fun v F' => ∃ d st cm fp s, v = .tuple #[.pointer (some ⟨d, 0, none⟩), .pointer (some ⟨st, 0, none⟩), .agg (refC n 0 Sl.nil), .bool true] ∧ Lc F F' fp n s st cm d (empt n) Sl.nil 0 := by
 refine (fresh_spec h4 hn).mono ?_
 rintro v F' ⟨d, st, cm, fp, s, rfl, h, hz, hkp, l, hnew⟩
 exact ⟨d, st, cm, fp, s, rfl, h, hz, hkp, Int.le_refl _, le_mns_new l hnew⟩
theorem run_lc (h : Lc F0 G fp n s st cm d x slm k) (ho : OpRd F0 o) (hn : n ≤ 500) (hk : k ≤ 100) :
  Spec prog 14 #[.pointer (some ⟨d, 0, none⟩), .pointer (some ⟨st, 0, none⟩), .agg (refC n x.used slm), .agg o.cells] G fun v G' => ∃ st' cm' fp' s' x' slm' e, v = .tuple #[.pointer (some ⟨st', 0, none⟩), .agg (refC n x'.used slm'), .int .i64 e, .bool true] ∧ (e = 0 ∨ e = 1 ∨ e = 351) ∧
   Lc F0 G' fp' n s' st' cm' d x' slm' (k + 1) ∧ (x'.used, x'.L) = refStep n x.used x.L o ∧ Step fp G fp' G' := by
 have hnum := h.num
 refine (run_spec h.st (ho.le h.le) hn (by omega)).mono ?_
 rintro v G' (⟨st', cm', fp', s', x', slm', e, rfl, he, hst, hz, hkp, hnum', _, hrs, hstep⟩ | ⟨fp', s', x', u, slm', L', _, hf, _⟩)
 ·exact ⟨st', cm', fp', s', x', slm', e, rfl, he, ⟨hst, hz h.fz, List.eq_nil_of_length_eq_zero (by rw [h.kp] at hkp; simpa using hkp), by omega, le_trans' h.le hstep.le⟩, hrs, hstep⟩
 ·exact absurd h.fz hf.fz
theorem size_nat {m : Int} (h0 : 0 ≤ m) (h1 : m ≤ 255) : Spec prog 12 #[.int .u8 m] F fun v F' => ∃ n : Nat, v = .int .i64 (n : Int) ∧ (n : Int) = 4 + m % 40 ∧ 4 ≤ n ∧ n ≤ 43 ∧ F' = F := by
 refine (size_spec h0 h1).mono ?_
 rintro v F' ⟨rfl, ee⟩
 exact ⟨(4 + m % 40).toNat, by congr 1; omega, by omega, by omega, by omega, ee⟩
theorem roomI_mono {size u v : Nat} (h : v ≤ u) : roomI size u ≤ roomI size v := by unfold roomI; omega
theorem law4_spec {m : Int} (hm : 0 ≤ m ∧ m ≤ 255) (hops : OpsRd F sl ops) : Spec prog 4 #[.int .u8 m, sl.v] F fun v F' => v = .bool true ∧ F.le F' := by
 have hlen := hops.len
 have hl9 := hops.len9
 refine c4 ?_
 unfold b4
 refine (sanity_spec F).mono ?_
 rintro v F1 ⟨rfl, l1⟩
 refine ⟨true, rfl, ?_⟩
 refine (size_nat hm.1 hm.2).mono ?_
 rintro v F1' ⟨n, rfl, _, hn4, hn, ee⟩
 obtain rfl := ee.symm
 refine ⟨_, rfl, ?_⟩
 refine (fresh_lc F1 hn4 (by omega)).mono ?_
 rintro v F2 ⟨d, st, cm, fp, s, rfl, hlc⟩
 refine ⟨_, _, _, true, rfl, ?_⟩
 intro b8 h8
 refine atI ?_
 have hs := (Sd.start F2).var h8 (c := #[.int .i64 0, .int .i64 0, .slice none 0 0]) rfl
 refine hs.store (List.mem_singleton_self _) rfl st_refC ?_
 intro hs3
 have hlc : Lc F F2 fp n s st cm d (empt n) Sl.nil 0 := ⟨hlc.st, hlc.fz, hlc.kp, hlc.num, le_trans' l1 hlc.le⟩
 refine ⟨fun h => (by cases h), fun _ => ?_⟩
 refine ⟨fun q sp i F' => ∃ (k : Nat) (G : PH) (fp : Nat → Prop) (s : DS) (st cm : Nat) (x : SS) (slm : Sl), i = k ∧ k ≤ 30 ∧ q = 30 - k ∧ sp = some ⟨st, 0, none⟩ ∧ Sd G F' [b8] ∧ F' b8 = some (.cells (refC n x.used slm) 28 (0, 0)) ∧ Lc F G fp n s st cm d x slm k, 30,
  ⟨0, F2, fp, s, st, cm, empt n, Sl.nil, rfl, by omega, rfl, rfl, hs3, set_eq _ _ _, hlc⟩, ?_⟩
 rintro _ _ _ F3 ⟨k, G, fp, s, st, cm, x, slm, rfl, hk, rfl, rfl, hsd, hb8, hlc⟩
 unfold b4L1
 have fin : b4j1 true (some ⟨d, 0, none⟩) (some ⟨st, 0, none⟩) (fun v F' => v = .bool true ∧ F.le F') F3 := by
  have hsr := hlc.sr (by omega) (by omega)
  have hnum := hlc.num
  have hbyt := hsr.byt
  have hsml := hsr.small.len
  have hpl := plen_le x.L
  have hsr := hsr.le hsd.le
  have l0 := le_trans' hlc.le (le_trans' (mns_le _ _) hsd.le)
  have hsz := hsr.sizes
  have hsnap := hsr.inv.snap
  have hle0 : F.le (mns F3 fp) := le_trans' hlc.le (mns_mono hsd.le)
  unfold b4j1
  refine hsr.contents.mono ?_
  rintro v F4 ⟨sw, rfl, hw, l4⟩
  have hw := hw.le (mns_anti (F := F4) hsr.dom)
  have h4 := hsr.le l4
  refine ⟨sw, rfl, ?_⟩
  refine h4.room.mono ?_
  rintro v F5 ⟨rfl, ee⟩
  obtain rfl := ee.symm
  refine ⟨_, rfl, ?_⟩
  refine (h4.compact (by omega)).mono ?_
  rintro v F5 ⟨fp5, s5, x5, rfl, h5, L5, u5, z5, n5, st5⟩
  have hw := hw.le st5.le
  refine ⟨0, rfl, ?_⟩
  refine h5.opened.mono ?_
  rintro v F6 ⟨st', cm', rfl, hnew, l6⟩
  have h6 := h5.le l6
  have hw := hw.le (mns_mono (fp := fp5) l6)
  refine ⟨_, _, rfl, ?_⟩
  refine h6.room.mono ?_
  rintro v F7 ⟨rfl, ee⟩
  obtain rfl := ee.symm
  refine ⟨_, rfl, ?_⟩
  refine (h6.compact (by omega)).mono ?_
  rintro v F7 ⟨fp7, s7, x7, rfl, h7, L7, u7, z7, n7, st7⟩
  have hw := hw.le st7.le
  have hnew := hnew.step st7 h5.dom
  have hle7 : F.le (mns F7 fp7) := le_trans' (le_trans' hle0 (mns_mono l4)) (le_trans' st5.le (le_trans' (mns_mono l6) st7.le))
  have hL7 : x7.L = x.L := L7.trans L5
  have hb7 : BytR x7.L := by rw [hL7]; exact hbyt
  refine ⟨0, rfl, fun h => absurd rfl h, fun _ => ⟨fun h => absurd rfl h, fun _ => ⟨fun h => absurd rfl h, fun _ => ?_⟩⟩⟩
  refine h7.contents.mono ?_
  rintro v F8 ⟨s8, rfl, hw8, l8⟩
  refine ⟨s8, rfl, ?_⟩
  refine (Same_spec (hw8.le (mns_le _ _)) ((hw.le (mns_le _ _)).le l8) hb7 hbyt (by rw [hL7]; omega)).mono ?_
  rintro v F9 ⟨r, rfl, hr, ee⟩
  obtain rfl := ee.symm
  obtain rfl : r = true := hr.2 hL7
  refine ⟨true, rfl, fun _ => ?_, fun h => (by cases h)⟩
  have hnew := hnew.le l8
  have hL5 : Small x5.L := h5.small
  refine (contents_spec hnew.sto (le_refl' _) hL5).mono ?_
  rintro v F9 ⟨s9, rfl, hw9, l9⟩
  refine ⟨s9, rfl, ?_⟩
  refine (Same_spec (hw9.le (mns_le _ _)) ((hw.le (mns_le _ _)).le (le_trans' l8 l9)) h5.byt hbyt (by rw [L5]; omega)).mono ?_
  rintro v F10 ⟨r, rfl, hr, ee⟩
  obtain rfl := ee.symm
  obtain rfl : r = true := hr.2 L5
  have hle := le_trans' hle7 (le_trans' (mns_le _ _) (le_trans' l8 l9))
  refine ⟨true, rfl, fun _ => ⟨fun _ => ?_, fun h => absurd ?_ h⟩, fun h => (by cases h)⟩
  ·refine (h7.le (le_trans' l8 l9)).room.mono ?_
   rintro v F11 ⟨rfl, ee⟩
   obtain rfl := ee.symm
   exact ⟨_, rfl, fun _ => ⟨rfl, hle⟩, fun h => absurd (by rw [z7, u7, L5, u5]) h⟩
  ·rw [z5, u5]
   exact roomI_mono (by omega)
 refine ⟨fun hlt => ⟨fun h30 => ?_, fun h30 => fin⟩, fun hge => fin⟩
 have hkl : k < ops.length := by omega
 have lF3 := le_trans' hlc.le (le_trans' (mns_le _ _) hsd.le)
 obtain ⟨a, ha, hrow⟩ := (hops.le lF3).at hkl
 refine ⟨_, rfl, row_whole hb8, a, ha, by omega, by omega, _, rfl, hrow, ?_⟩
 refine (hsd.call (run_lc hlc (hops.ok _ (List.getElem_mem hkl)) (by omega) (by omega))).mono ?_
 rintro v F4 ⟨G4, ⟨st', cm', fp', s', x', slm', e, rfl, he, hlc', _⟩, hsd4, _⟩
 refine ⟨_, _, _, true, rfl, ?_⟩
 refine hsd4.store (List.mem_singleton_self _) rfl st_refC ?_
 intro hsd5
 exact ⟨30 - (k + 1), by omega, k + 1, G4, fp', s', st', cm', x', slm', w64s (by omega), by omega, rfl, rfl, hsd5, set_eq _ _ _, hlc'⟩
end
end Go.Proofs.Ytelkfnmdnbbniaa
