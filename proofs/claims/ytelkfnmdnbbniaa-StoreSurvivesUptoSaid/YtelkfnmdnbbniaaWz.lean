/-
  StoreSurvives: the power fails.
-/
import Derived.Test.YtelkfnmdnbbniaaWy
import Derived.Test.YtelkfnmdnbbniaaGL8
namespace Go.Proofs.Ytelkfnmdnbbniaa
open Go Go.Proofs.Try
set_option maxRecDepth 10000
section
variable {F F0 G K : PH} {fp fq fd : Nat → Prop} {n : Nat} {s : DS} {st cm d : Nat} {x y : SS} {slm sl : Sl} {k : Nat} {M : List Nat} {ops : List OpS} {o : OpS}
theorem Act.sto (h : Act F fp n s st cm d x) : StO F F st cm d x := by
 obtain ⟨fd, K, rfl, ha⟩ := h.open
 exact ha.sto
theorem St.sizes (h : St F fp n s st cm d x slm) (hn : n ≤ 500) : 1 ≤ x.size ∧ x.size ≤ 1000 ∧ x.used ≤ 1000 ∧ 4 ≤ n ∧ x.size = n / 2 := by
 have h1 := h.inv.n4
 have h2 := h.inv.size
 have h3 := h.inv.snap
 omega
theorem St.same (h : St F fp n s st cm d x slm) (hn : n ≤ 500) : Spec prog 13 #[.pointer (some ⟨st, 0, none⟩), .agg (refC n x.used slm)] F fun v F' => v = .bool true ∧ F.le F' := by
 have hsz := h.sizes hn
 have hb : BytR x.L := fun r hr => (h.inv.good.1 r hr).2.2.2
 refine (same_spec h.act.sto (le_refl' _) (h.inv.small (by omega)) hsz.1 hsz.2.1 hsz.2.2.1 (by omega) hsz.2.2.2.1 (by omega) (h.ref.le (mns_le _ _)) hb hb).mono ?_
 rintro v F' ⟨r, rfl, hr, l⟩
 obtain rfl : r = true := hr.2 ⟨rfl, by rw [hsz.2.2.2.2]⟩
 exact ⟨rfl, l⟩
theorem fuse_st {x : SS} {zl : Sl} {kl : List Int} {q : Int} (h : St F fp n s st cm d x slm) (hq : 0 ≤ q ∧ q ≤ 1000) (hz : RdS F zl 1 (i64s kl)) (hz2 : RdS (mns F fp) zl 1 (i64s kl)) (hl : zl.len * 8 ≤ 140737488355328) :
  Spec prog 32 #[.pointer (some ⟨d, 0, none⟩), .int .i64 q, zl.v] F fun v F' => v = .tuple #[] ∧ St F' fp n (s.setFuse q kl) st cm d x slm ∧ Step fp F fp F' := by
 obtain ⟨fd, K, rfl, ha⟩ := h.act.open
 have hz3 : RdS (mns F (fs2 st cm)) zl 1 (i64s kl) := hz2.le (mns_anti fun b hb => .inr hb)
 refine (Spec.side ha.fs (fuse_spec ha.hd (by omega) hz3 hl)).mono ?_
 rintro v F' ⟨⟨rfl, ⟨K', hd'⟩, hst⟩, hf⟩
 obtain ⟨a1, a2⟩ := ha.step hd' (hst.side hf hd'.dom) (hf st (.inl rfl)) (hf cm (.inr rfl))
 have hok := h.fine.ok
 refine ⟨rfl, ⟨a1.act, ⟨⟨h.fine.up.up, by show 0 ≤ max q 0; omega⟩, h.fine.ws, ?_⟩, h.inv, h.br, h.ref.le a2.le⟩, a2⟩
 exact ⟨hok.n1, hok.n2, hok.dur, by show 0 ≤ max q 0; omega, by show max q 0 ≤ _; omega, hok.ws, hok.wl⟩
theorem power_open {s' : DS} {x' : SS} (ha : Act G fp n s' st cm d x') (hdead : Dead s' n) (hi : SInv s'.rd n y) (hn : n ≤ 500) :
  Spec prog 34 #[.pointer (some ⟨d, 0, none⟩)] G fun v F => v = Value.tuple #[] ∧ Spec prog 20 #[.pointer (some ⟨d, 0, none⟩)] F fun v F => ∃ st' cm' fq, v = .tuple #[.pointer (some ⟨st', 0, none⟩), .int .i64 0] ∧ Act F fq n s'.power st' cm' d { y with broken := false } ∧ Step fp G fq F := by
 obtain ⟨fd, K, rfl, h⟩ := ha.open
 obtain ⟨hfine, hfz, hrd⟩ := hdead.power
 refine (Spec.side h.fs (power_spec h.hd)).mono ?_
 rintro v F2 ⟨⟨rfl, hd2, hst2⟩, hf⟩
 obtain ⟨a1, a2⟩ := h.step hd2 (hst2.side hf hd2.dom) (hf st (.inl rfl)) (hf cm (.inr rfl))
 refine ⟨rfl, ?_⟩
 have hi2 : SInv s'.power.rd n y := by rw [hrd]; exact hi
 have hn1 := hi.num1
 refine (open_spec (a1.hd.le (mns_le _ _)) hfine.up (by omega) hi2.byt (.inr (.inr hi2))).mono ?_
 rintro v F3 ⟨l, hr⟩
 rcases hr with ⟨hr, _⟩ | ⟨_, hr, _⟩ | ⟨_, st', cm', _, rfl, hst', hcm', _, hact⟩
 ·have := hi.n4
  omega
 ·rw [pick_inv hi2] at hr
  simp only at hr
  omega
 ·refine ⟨st', cm', _, rfl, hact, ⟨(a2.fin l).keep, fun b hb => ?_⟩⟩
  have newG : ∀ b, F2 b = none → fpo fd st cm b ∨ G b = none := fun b hb => by
   cases hg : G b with
   | none => exact .inr rfl
   | some o =>
    by_cases e : fpo fd st cm b
    ·exact .inl e
    ·rw [a2.keep b o hg e] at hb
     cases hb
  rcases hb with e | rfl | rfl
  ·exact .inl (.inl e)
  ·exact newG _ hst'
  ·exact newG _ hcm'
structure Ls (F0 G : PH) (fp : Nat → Prop) (n : Nat) (s : DS) (st cm d : Nat) (x : SS) (slm : Sl) (q : Int) : Prop where
 st : St G fp n s st cm d x slm
 num : x.num ≤ q
 le : F0.le (mns G fp)
theorem Ls.up {q : Int} (h : Ls F0 G fp n s st cm d x slm q) {G2 : PH} (l : G.le G2) : Ls F0 G2 fp n s st cm d x slm q := ⟨h.st.le l, h.num, le_trans' h.le (mns_mono l)⟩
theorem law8_fell {N2 : Option Addr → Int → Bool → PH → Prop} {b10 b15 u : Nat} {s' : DS} {x' : SS} {L' : List Rc} {slm' : Sl} {i : Int} {q : Int} {F3 : PH} (hn4 : 4 ≤ n) (hn : n ≤ 500) (hsd : Sd G F3 M) (hm10 : b10 ∈ M) (hm15 : b15 ∈ M) (hb10 : F3 b10 = some (.cells (refC n x.used slm) 28 (0, 0))) (hb15 : F3 b15 = some (.cells (refC n u slm') 28 (0, 0)))
  (ha : Act G fp n s' st cm d x') (hdead : Dead s' n) (hcont : x'.L = x.L) (hbrk : x'.broken = true) (hy : SInv s'.rd n y) (hyL : y.L = x.L ∨ y.L = L') (hyq : y.num ≤ q) (hq : q ≤ 1000) (hsm : Small x.L) (hxb : BytR x.L) (hc : Ct (mns G fp) slm x.L) (hc' : Ct (mns G fp) slm' L') (hLb : BytR L') (hl : F0.le (mns G fp))
  (hN : ∀ F4 G4 fp4 s4 st4 cm4 x4 slm4, Sd G4 F4 M → F4 b10 = some (.cells (refC n x4.used slm4) 28 (0, 0)) → Ls F0 G4 fp4 n s4 st4 cm4 d x4 slm4 (q + 1) → s4.fuse = 0 → N2 (some ⟨st4, 0, none⟩) (IntKind.i64.wrap (i + 1)) true F4) :
  b8j5 N2 sl true (some ⟨d, 0, none⟩) (some ⟨st, 0, none⟩) b10 i false (some ⟨st, 0, none⟩) (some ⟨b15, 0, none⟩) 340 true (fun v F' => v = .bool true ∧ F0.le F') F3 := by
 have hsml := hsm.len
 have hpl := plen_le x.L
 have hsm' : Small x'.L := by rw [hcont]; exact hsm
 have z10 := (hsd.z b10 hm10).1
 have z15 := (hsd.z b15 hm15).1
 unfold b8j5
 refine ⟨fun h => (by cases h), fun _ => ⟨fun _ => ?_, fun h => absurd rfl h⟩⟩
 refine ⟨slm, by rw [cell_eq hb10]; rfl, ?_⟩
 -- the contents of the broken store
 refine (hsd.call (contents_spec ha.sto (le_refl' _) hsm')).mono ?_
 rintro v F4 ⟨G4, ⟨w, rfl, hw, l4⟩, hs4, k4⟩
 have hb10 := k4 _ _ z10 hb10
 have hb15 := k4 _ _ z15 hb15
 refine ⟨w, rfl, by rw [cell_eq hb10]; rfl, ?_⟩
 refine (Same_spec ((hw.le (mns_le _ _)).le hs4.le) (((hc.le (mns_le _ _)).le l4).le hs4.le) (by rw [hcont]; exact hxb) hxb (by rw [hcont]; omega)).mono ?_
 rintro v F5 ⟨r, rfl, hr, ee⟩
 obtain rfl := ee.symm
 obtain rfl : r = true := hr.2 hcont
 refine ⟨true, rfl, fun h => (by cases h), fun _ => ?_⟩
 have ha4 := act_le ha l4
 obtain ⟨fd, K, rfl, hA⟩ := ha4.open
 have noB : x'.broken = false → False := fun e => by rw [hbrk] at e; cases e
 have hcomp : compW s' n x' = ⟨s', 340, x'⟩ := by unfold compW; rw [if_pos hbrk]
 have hcomm : commitW s' n x' [] = ⟨s', 340, x'⟩ := by unfold commitW; rw [if_pos hbrk]
 refine (hs4.call (Compact_spec hA (fun e => (noB e).elim) (fun e => (noB e).elim) (by omega) (fun e => (noB e).elim))).mono ?_
 rintro v F6 ⟨G6, ⟨rfl, fd6, hA6, st6⟩, hs6, k6⟩
 rw [hcomp] at hA6 ⊢
 refine ⟨_, rfl, fun h => absurd rfl h, fun _ => ?_⟩
 refine (hs6.call (Commit_spec (sl := Sl.nil) (T := []) hA6 (fun e => (noB e).elim) (fun e => (noB e).elim) (by omega) (fun e => (noB e).elim) ⟨RdS.nil _ _, fun y hy => (by cases hy)⟩ (by simp) (fun r hr => (by cases hr)))).mono ?_
 have hrn : rcs [] = [] := rfl
 rw [hrn]
 rintro v F7 ⟨G7, ⟨rfl, fd7, hA7, st7⟩, hs7, k7⟩
 rw [hcomm] at hA7 ⊢
 refine ⟨_, rfl, fun h => absurd rfl h, fun _ => ?_⟩
 have st47 := st6.trans st7
 have hc7 : Ct (mns G7 (fpo fd7 st cm)) slm x.L := (hc.le (mns_mono l4)).le st47.le
 have hc7' : Ct (mns G7 (fpo fd7 st cm)) slm' L' := (hc'.le (mns_mono l4)).le st47.le
 have hl7 : F0.le (mns G7 (fpo fd7 st cm)) := le_trans' (le_trans' hl (mns_mono l4)) st47.le
 have hb10 := k7 _ _ (hs6.z b10 hm10).1 (k6 _ _ (hs4.z b10 hm10).1 hb10)
 have hb15 := k7 _ _ (hs6.z b15 hm15).1 (k6 _ _ (hs4.z b15 hm15).1 hb15)
 -- the power
 obtain ⟨hpf, hpz, hprd⟩ := hdead.power
 refine (hs7.call (power_open hA7.act hdead hy hn)).mono ?_
 rintro v F8 ⟨G8, ⟨rfl, hopen⟩, hs8, k8⟩
 have hb10 := k8 _ _ (hs7.z b10 hm10).1 hb10
 have hb15 := k8 _ _ (hs7.z b15 hm15).1 hb15
 refine ⟨rfl, ?_⟩
 refine (hs8.call hopen).mono ?_
 rintro v F9 ⟨G9, ⟨st', cm', fq, rfl, hact9, st9⟩, hs9, k9⟩
 have hb10 := k9 _ _ (hs8.z b10 hm10).1 hb10
 have hb15 := k9 _ _ (hs8.z b15 hm15).1 hb15
 refine ⟨_, _, rfl, fun h => absurd rfl h, fun _ => ?_⟩
 have hi9 : SInv s'.power.rd n y := by rw [hprd]; exact hy
 have hsr : Sr G9 fq n s'.power st' cm' d { y with broken := false } := ⟨hact9, hpf, ⟨hi9.n4, hi9.size, hi9.half, hi9.num1, hi9.num2, hi9.byt, hi9.hdr, hi9.oth, hi9.log, hi9.act, hi9.fre, hi9.ina⟩, rfl, hpz, hn, by show y.num ≤ _; omega⟩
 have hyb : BytR y.L := hsr.byt
 have hysm := hsr.small.len
 have hyp := plen_le y.L
 have hysm : plen y.L ≤ 100000 := hysm
 have hc9 := hc7.le st9.le
 have hc9' := hc7'.le st9.le
 have hl9 := le_trans' hl7 st9.le
 refine (hs9.call hsr.contents).mono ?_
 rintro v F10 ⟨G10, ⟨w2, rfl, hw2, l10⟩, hs10, k10⟩
 have hb10 := k10 _ _ (hs9.z b10 hm10).1 hb10
 have hb15 := k10 _ _ (hs9.z b15 hm15).1 hb15
 have hw2 : Ct (mns G10 fq) w2 y.L := hw2.le (mns_anti (F := G10) hsr.dom)
 have hsr := hsr.le l10
 have hc10 := hc9.le (mns_mono (fp := fq) l10)
 have hc10' := hc9'.le (mns_mono (fp := fq) l10)
 have hl10 := le_trans' hl9 (mns_mono (fp := fq) l10)
 refine ⟨w2, rfl, slm, by rw [cell_eq hb10]; rfl, ?_⟩
 -- the store is used again
 have j7 : b8j7 N2 sl true (some ⟨d, 0, none⟩) b10 i (some ⟨st', 0, none⟩) w2 (fun v F' => v = .bool true ∧ F0.le F') F10 := by
  unfold b8j7
  refine st1' (b := b10) (o := 2) rfl hb10 (by simp) ?_
  rw [show (refC n x.used slm).setIfInBounds 2 w2.v = refC n x.used w2 from rfl]
  have hs11 := hs10.put hm10 (v := refC n x.used w2) rfl
  refine ⟨(n : Int), by rw [cell_eq (set_eq _ _ _)]; rfl, ?_⟩
  refine st1' (b := b10) (o := 1) rfl (set_eq _ _ _) (by simp) ?_
  rw [show (refC n x.used w2).setIfInBounds 1 (.int .i64 (n : Int)) = refC n n w2 from rfl]
  have hs12 := hs11.put hm10 (v := refC n n w2) rfl
  have q12 := set_eq (F10.set b10 (.cells (refC n x.used w2) 28)) b10 (.cells (refC n n w2) 28)
  generalize (F10.set b10 (.cells (refC n x.used w2) 28)).set b10 (.cells (refC n n w2) 28) = F12 at *
  refine (hs12.call (hsr.compact (by show y.num < _; omega))).mono ?_
  rintro v F13 ⟨G13, ⟨fp13, s13, x13, rfl, h13, L13, u13, z13, n13, st13⟩, hs13, k13⟩
  have q13 := k13 _ _ (hs12.z b10 hm10).1 q12
  have hw13 := hw2.le st13.le
  refine ⟨0, rfl, fun h => absurd rfl h, fun _ => ?_⟩
  refine ⟨_, rfl, row_whole q13, ?_⟩
  refine (hs13.call (CompactR_spec (hw13.le (mns_le _ _)) (by omega))).mono ?_
  rintro v F14 ⟨G14, ⟨rfl, l14⟩, hs14, k14⟩
  refine ⟨_, rfl, ?_⟩
  refine hs14.store hm10 rfl st_refC ?_
  intro hs15
  unfold b8j6
  have hL : x13.L = y.L := L13
  have hu : x13.used = snapN y.L := u13
  refine hN _ G14 fp13 s13 st' cm' x13 w2 hs15 (by rw [set_eq, hu]) (Ls.up ⟨⟨h13.act, h13.fine, h13.inv, h13.br, by rw [hL]; exact hw13⟩, ?_, le_trans' hl10 st13.le⟩ l14) h13.fz
  have : x13.num ≤ y.num + 1 := n13
  omega
 refine (Same_spec ((hw2.le (mns_le _ _)).le hs10.le) ((hc10.le (mns_le _ _)).le hs10.le) hyb hxb (by omega)).mono ?_
 rintro v F11 ⟨r, rfl, hr, ee⟩
 obtain rfl := ee.symm
 refine ⟨r, rfl, fun hr0 => ?_, fun _ => j7⟩
 have hyL' : y.L = L' := by
  rcases hyL with e | e
  ·rw [hr.2 e] at hr0
   cases hr0
  ·exact e
 refine ⟨_, rfl, slm', by rw [add_mk, cell_eq hb15]; rfl, ?_⟩
 refine (Same_spec ((hw2.le (mns_le _ _)).le hs10.le) ((hc10'.le (mns_le _ _)).le hs10.le) hyb hLb (by omega)).mono ?_
 rintro v F11 ⟨r2, rfl, hr2, ee⟩
 obtain rfl := ee.symm
 obtain rfl : r2 = true := hr2.2 hyL'
 exact ⟨true, rfl, fun h => (by cases h), fun _ => j7⟩
theorem run_ls {q : Int} (h : Ls F0 G fp n s st cm d x slm q) (ho : OpRd F0 o) (hn : n ≤ 500) (hq : q ≤ 1000) :
  Spec prog 14 #[.pointer (some ⟨d, 0, none⟩), .pointer (some ⟨st, 0, none⟩), .agg (refC n x.used slm), .agg o.cells] G fun v G' =>
   (∃ st' cm' fp' s' x' slm' e, v = .tuple #[.pointer (some ⟨st', 0, none⟩), .agg (refC n x'.used slm'), .int .i64 e, .bool true] ∧ (e = 0 ∨ e = 1 ∨ e = 351) ∧ Ls F0 G' fp' n s' st' cm' d x' slm' (q + 1) ∧ (s.fuse = 0 → s'.fuse = 0)) ∨
   (∃ fp' s' x' u slm' L', v = .tuple #[.pointer (some ⟨st, 0, none⟩), .agg (refC n u slm'), .int .i64 340, .bool true] ∧ Fell G fp n s st cm d x L' fp' s' x' G' ∧ Ct (mns G' fp') slm' L' ∧ BytR L' ∧ Ct (mns G' fp') slm x.L ∧ F0.le (mns G' fp')) := by
 have hnum := h.num
 refine (run_spec h.st (ho.le h.le) hn (by omega)).mono ?_
 rintro v G' (⟨st', cm', fp', s', x', slm', e, rfl, he, hst, hz, _, hnum', _, _, hstep⟩ | ⟨fp', s', x', u, slm', L', rfl, hf, hc, _, hb⟩)
 ·exact .inl ⟨st', cm', fp', s', x', slm', e, rfl, he, ⟨hst, by omega, le_trans' h.le hstep.le⟩, hz⟩
 ·exact .inr ⟨fp', s', x', u, slm', L', rfl, hf, hc, hb, h.st.ref.le hf.step.le, le_trans' h.le hf.step.le⟩
theorem law8_two {b10 i0 : Nat} {failed : Bool} {F3 : PH} {q : Int} (hn4 : 4 ≤ n) (hn : n ≤ 500) (hops : OpsRd F0 sl ops) (hsd : Sd G F3 M) (hm10 : b10 ∈ M) (hb10 : F3 b10 = some (.cells (refC n x.used slm) 28 (0, 0))) (hls : Ls F0 G fp n s st cm d x slm q) (hq : q ≤ 500) (hfz : failed = true → s.fuse = 0) (hi0 : i0 ≤ 40) :
  b8j1 sl true (some ⟨d, 0, none⟩) b10 (some ⟨st, 0, none⟩) (i0 : Int) failed (fun v F' => v = .bool true ∧ F0.le F') F3 := by
 have hlen := hops.len
 unfold b8j1
 refine ⟨fun m sp i F' => ∃ (k : Nat) (G : PH) (M : List Nat) (fp : Nat → Prop) (s : DS) (st cm : Nat) (x : SS) (slm : Sl), i = k ∧ k ≤ 40 ∧ m = 40 - k ∧ sp = some ⟨st, 0, none⟩ ∧ b10 ∈ M ∧ Sd G F' M ∧ F' b10 = some (.cells (refC n x.used slm) 28 (0, 0)) ∧ Ls F0 G fp n s st cm d x slm (500 + (k : Int)) ∧ (failed = true → s.fuse = 0), 40 - i0,
  ⟨i0, G, M, fp, s, st, cm, x, slm, rfl, hi0, rfl, rfl, hm10, hsd, hb10, ⟨hls.st, by have := hls.num; omega, hls.le⟩, hfz⟩, ?_⟩
 clear hb10 hsd hls hfz hm10
 rintro _ _ _ F4 ⟨k, G, M, fp, s, st, cm, x, slm, rfl, hk, rfl, rfl, hM, hsd, hb10, hls, hfz⟩
 have fin : b8j2 true (fun v F' => v = .bool true ∧ F0.le F') F4 := ⟨rfl, le_trans' hls.le (le_trans' (mns_le _ _) hsd.le)⟩
 unfold b8L1
 refine ⟨fun hlt => ⟨fun h40 => ?_, fun _ => fin⟩, fun _ => fin⟩
 have hkl : k < ops.length := by omega
 obtain ⟨a, ha, hrow⟩ := (hops.le (le_trans' hls.le (le_trans' (mns_le _ _) hsd.le))).at hkl
 have hok := hops.ok _ (List.getElem_mem hkl)
 -- after the operation
 have j3 : ∀ (F5 G5 : PH) (M5 : List Nat) (b22 : Nat) (fp' : Nat → Prop) (s' : DS) (st' cm' : Nat) (x' : SS) (slm' : Sl) (e : Int), b10 ∈ M5 → b22 ∈ M5 → Sd G5 F5 M5 → F5 b22 = some (.cells (refC n x'.used slm') 28 (0, 0)) → (e = 0 ∨ e = 1 ∨ e = 351) → Ls F0 G5 fp' n s' st' cm' d x' slm' (500 + (k : Int) + 1) → (failed = true → s'.fuse = 0) →
   b8j3 (fun y1_0 y1_1 F_1 => ∃ m', m' < 40 - k ∧ ∃ (k : Nat) (G : PH) (M : List Nat) (fp : Nat → Prop) (s : DS) (st cm : Nat) (x : SS) (slm : Sl), y1_1 = k ∧ k ≤ 40 ∧ m' = 40 - k ∧ y1_0 = some ⟨st, 0, none⟩ ∧ b10 ∈ M ∧ Sd G F_1 M ∧ F_1 b10 = some (.cells (refC n x.used slm) 28 (0, 0)) ∧ Ls F0 G fp n s st cm d x slm (500 + (k : Int)) ∧ (failed = true → s.fuse = 0)) sl true (some ⟨d, 0, none⟩) b10 (k : Int) failed (some ⟨st', 0, none⟩) (some ⟨b22, 0, none⟩) e true (fun v F' => v = .bool true ∧ F0.le F') F5 := by
  intro F5 G5 M5 b22 fp' s' st' cm' x' slm' e h10 h22 hs5 hb he hl5 hz5
  have j4 : b8j4 (fun y1_0 y1_1 F_1 => ∃ m', m' < 40 - k ∧ ∃ (k : Nat) (G : PH) (M : List Nat) (fp : Nat → Prop) (s : DS) (st cm : Nat) (x : SS) (slm : Sl), y1_1 = k ∧ k ≤ 40 ∧ m' = 40 - k ∧ y1_0 = some ⟨st, 0, none⟩ ∧ b10 ∈ M ∧ Sd G F_1 M ∧ F_1 b10 = some (.cells (refC n x.used slm) 28 (0, 0)) ∧ Ls F0 G fp n s st cm d x slm (500 + (k : Int)) ∧ (failed = true → s.fuse = 0)) sl true (some ⟨d, 0, none⟩) b10 (k : Int) failed (some ⟨st', 0, none⟩) (some ⟨b22, 0, none⟩) e (fun v F' => v = .bool true ∧ F0.le F') F5 := by
   unfold b8j4
   refine ⟨fun h => by omega, fun _ => ⟨_, rfl, _, rfl, row_whole hb, ?_⟩⟩
   refine (hs5.call (hl5.st.same hn)).mono ?_
   rintro v F6 ⟨G6, ⟨rfl, l6⟩, hs6, k6⟩
   have hb6 := k6 _ _ (hs5.z b22 h22).1 hb
   refine ⟨true, rfl, fun h => (by cases h), fun _ => ⟨_, rfl, row_whole hb6, ?_⟩⟩
   refine hs6.store h10 rfl st_refC ?_
   intro hs7
   exact ⟨40 - (k + 1), by omega, k + 1, G6, M5, fp', s', st', cm', x', slm', w64s (by omega), by omega, rfl, rfl, h10, hs7, set_eq _ _ _, (⟨(hl5.up l6).st, by have := hl5.num; omega, (hl5.up l6).le⟩ : Ls F0 G6 fp' n s' st' cm' d x' slm' _), hz5⟩
  unfold b8j3
  refine ⟨fun h => (by cases h), fun _ => ⟨fun _ => ⟨fun _ => ⟨fun _ => ⟨fun _ => ⟨fun _ => ?_, fun _ => j4⟩, fun _ => j4⟩, fun _ => j4⟩, fun _ => j4⟩, fun _ => j4⟩⟩
  omega
 have j3b : ∀ (F5 G5 : PH) (b22 u : Nat) (slm' : Sl) (L' : List Rc) (fp' : Nat → Prop) (s' : DS) (x' : SS), G5.le F5 → F0.le (mns G5 fp') → Fell G fp n s st cm d x L' fp' s' x' G5 →
   b8j3 (fun y1_0 y1_1 F_1 => ∃ m', m' < 40 - k ∧ ∃ (k : Nat) (G : PH) (M : List Nat) (fp : Nat → Prop) (s : DS) (st cm : Nat) (x : SS) (slm : Sl), y1_1 = k ∧ k ≤ 40 ∧ m' = 40 - k ∧ y1_0 = some ⟨st, 0, none⟩ ∧ b10 ∈ M ∧ Sd G F_1 M ∧ F_1 b10 = some (.cells (refC n x.used slm) 28 (0, 0)) ∧ Ls F0 G fp n s st cm d x slm (500 + (k : Int)) ∧ (failed = true → s.fuse = 0)) sl true (some ⟨d, 0, none⟩) b10 (k : Int) failed (some ⟨st, 0, none⟩) (some ⟨b22, 0, none⟩) 340 true (fun v F' => v = .bool true ∧ F0.le F') F5 := by
  intro F5 G5 b22 u slm' L' fp' s' x' l5 hl5 hf
  have hnf : failed = false := by
   cases failed with
   | false => rfl
   | true => exact absurd (hfz rfl) hf.fz
  subst hnf
  have hend : F0.le F5 := le_trans' hl5 (le_trans' (mns_le _ _) l5)
  have j4 : b8j4 (fun y1_0 y1_1 F_1 => ∃ m', m' < 40 - k ∧ ∃ (k : Nat) (G : PH) (M : List Nat) (fp : Nat → Prop) (s : DS) (st cm : Nat) (x : SS) (slm : Sl), y1_1 = k ∧ k ≤ 40 ∧ m' = 40 - k ∧ y1_0 = some ⟨st, 0, none⟩ ∧ b10 ∈ M ∧ Sd G F_1 M ∧ F_1 b10 = some (.cells (refC n x.used slm) 28 (0, 0)) ∧ Ls F0 G fp n s st cm d x slm (500 + (k : Int)) ∧ (false = true → s.fuse = 0)) sl true (some ⟨d, 0, none⟩) b10 (k : Int) false (some ⟨st, 0, none⟩) (some ⟨b22, 0, none⟩) 340 (fun v F' => v = .bool true ∧ F0.le F') F5 := by
   unfold b8j4
   exact ⟨fun _ => ⟨fun _ => ⟨rfl, hend⟩, fun h => (by cases h)⟩, fun h => absurd rfl h⟩
  unfold b8j3
  exact ⟨fun h => (by cases h), fun _ => ⟨fun _ => ⟨fun _ => ⟨fun _ => ⟨fun _ => ⟨fun h => absurd rfl h, fun _ => j4⟩, fun _ => j4⟩, fun _ => j4⟩, fun _ => j4⟩, fun _ => j4⟩⟩
 refine ⟨_, rfl, row_whole hb10, a, ha, by omega, by omega, _, rfl, hrow, ⟨?_, ?_⟩⟩
 ·refine (hsd.call (run_ls hls hok hn (by omega))).mono ?_
  rintro v F5 ⟨G5, ⟨st', cm', fp', s', x', slm', e, rfl, he, hls', hz'⟩ | ⟨fp', s', x', u, slm', L', rfl, hf, _, _, _, hl'⟩, hsd5, _⟩
  ·refine ⟨_, _, _, true, rfl, ?_⟩
   intro b12 h12
   refine atI ?_
   have hsd6 := hsd5.var h12 (c := #[.int .i64 0, .int .i64 0, .slice none 0 0]) rfl
   refine hsd6.store (List.mem_cons_self ..) rfl st_refC ?_
   intro hsd7
   exact j3 _ _ _ b12 fp' s' st' cm' x' slm' e (List.mem_cons_of_mem _ hM) (List.mem_cons_self ..) hsd7 (set_eq _ _ _) he hls' (fun e => hz' (hfz e))
  ·refine ⟨_, _, _, true, rfl, ?_⟩
   intro b12 h12
   refine atI ?_
   have hsd6 := hsd5.var h12 (c := #[.int .i64 0, .int .i64 0, .slice none 0 0]) rfl
   refine hsd6.store (List.mem_cons_self ..) rfl st_refC ?_
   intro hsd7
   exact j3b _ _ b12 u slm' L' fp' s' x' hsd7.le hl' hf
 ·intro b12 h12
  refine atI ?_
  have hsd4 := hsd.var h12 (c := #[.int .i64 0, .int .i64 0, .slice none 0 0]) rfl
  refine (hsd4.call (run_ls hls hok hn (by omega))).mono ?_
  rintro v F5 ⟨G5, ⟨st', cm', fp', s', x', slm', e, rfl, he, hls', hz'⟩ | ⟨fp', s', x', u, slm', L', rfl, hf, _, _, _, hl'⟩, hsd5, _⟩
  ·refine ⟨_, _, _, true, rfl, ?_⟩
   refine hsd5.store (List.mem_cons_self ..) rfl st_refC ?_
   intro hsd7
   exact j3 _ _ _ b12 fp' s' st' cm' x' slm' e (List.mem_cons_of_mem _ hM) (List.mem_cons_self ..) hsd7 (set_eq _ _ _) he hls' (fun e => hz' (hfz e))
  ·refine ⟨_, _, _, true, rfl, ?_⟩
   refine hsd5.store (List.mem_cons_self ..) rfl st_refC ?_
   intro hsd7
   exact j3b _ _ b12 u slm' L' fp' s' x' hsd7.le hl' hf
theorem law8_spec {m z : Int} {c : Array Value} {zl : Sl} {zs : List Int} (hm : 0 ≤ m ∧ m ≤ 255) (hops : OpsRd F sl ops) (hc : c = #[.int .u8 z, zl.v]) (hz : 0 ≤ z ∧ z ≤ 255) (hzl : RdS F zl 1 (u8s zs)) (hzr : ∀ y ∈ zs, 0 ≤ y ∧ y ≤ 255) (hz8 : zs.length * 8 ≤ 140737488355328) :
  Spec prog 8 #[.int .u8 m, sl.v, .agg c] F fun v F' => v = .bool true ∧ F.le F' := by
 subst hc
 have hlen := hops.len
 have hl9 := hops.len9
 refine c8 ?_
 unfold b8
 intro b5 h5
 refine atI ?_
 have l5 := le_set_fresh (.cells #[.int .u8 z, zl.v] 66) h5
 have q5 := set_eq F b5 (.cells #[.int .u8 z, zl.v] 66)
 generalize F.set b5 (.cells #[.int .u8 z, zl.v] 66) = F5 at *
 refine (sanity_spec F5).mono ?_
 rintro v F1 ⟨rfl, l1⟩
 refine ⟨true, rfl, ?_⟩
 refine (size_nat hm.1 hm.2).mono ?_
 rintro v F1' ⟨n, rfl, hnm, hn4, hn, ee⟩
 obtain rfl := ee.symm
 refine ⟨_, rfl, ?_⟩
 refine (fresh_lc F1 hn4 (by omega)).mono ?_
 rintro v F2 ⟨d, st, cm, fp, s, rfl, hlc⟩
 refine ⟨_, _, _, true, rfl, ?_⟩
 intro b8 h8
 refine atI ?_
 have hs := (Sd.start F2).var h8 (c := #[.int .i64 0, .int .i64 0, .slice none 0 0]) rfl
 refine hs.store (List.mem_singleton_self _) rfl st_refC ?_
 intro hs3
 have hb8 := set_eq (F2.set b8 (.cells #[.int .i64 0, .int .i64 0, .slice none 0 0] 28)) b8 (.cells (refC n 0 Sl.nil) 28)
 generalize (F2.set b8 (.cells #[.int .i64 0, .int .i64 0, .slice none 0 0] 28)).set b8 (.cells (refC n 0 Sl.nil) 28) = F3 at *
 have hle2 : F5.le (mns F2 fp) := le_trans' l1 hlc.le
 have m8 : b8 ∈ [b8] := List.mem_singleton_self _
 refine ⟨fun h => (by cases h), fun _ => ?_⟩
 have q53 := (le_trans' hle2 (le_trans' (mns_le _ _) hs3.le)) _ _ q5
 refine ⟨z, by rw [cell_eq q53]; rfl, zl, by rw [cell_eq q53]; rfl, ?_⟩
 refine (hs3.call (side_le (R := fun v G => ∃ sl, v = Sl.v sl ∧ RdS G sl 1 (i64s (zs.map keep1))) hlc.st.act.dom ((kept_spec ((hzl.le l5).le hle2) hzr hz8).mono fun _ _ ⟨sl, h1, h2, h3⟩ => ⟨⟨sl, h1, h2⟩, h3⟩))).mono ?_
 rintro v F4 ⟨G4, ⟨⟨kl, rfl, hk4⟩, l4, m4⟩, hs4, k4⟩
 have hb8 := k4 _ _ (hs3.z b8 m8).1 hb8
 have hst4 := hlc.st.le l4
 have hle4 : F5.le (mns G4 fp) := le_trans' hle2 m4
 have q54 := (le_trans' hle4 (le_trans' (mns_le _ _) hs4.le)) _ _ q5
 have hkl : kl.len = zs.length := by have := hk4.len; rw [List.length_map, List.length_map, Nat.mul_one] at this; exact this.symm
 have e1 : IntKind.i64.wrap (1 + IntKind.i64.wrap z) = 1 + z := by rw [w64_eq (x := z) (by omega) (by omega), w64_eq (by omega) (by omega)]
 refine ⟨kl, rfl, by rw [cell_eq q54]; rfl, ?_⟩
 rw [e1]
 refine (hs4.call (fuse_st (q := 1 + z) hst4 (by omega) (hk4.le (mns_le _ _)) hk4 (by rw [hkl]; exact hz8))).mono ?_
 rintro v F6 ⟨G6, ⟨rfl, hst6, hstep6⟩, hs6, k6⟩
 have hb8 := k6 _ _ (hs4.z b8 m8).1 hb8
 have hle6 : F5.le (mns G6 fp) := le_trans' hle4 hstep6.le
 have q56 := (le_trans' hle6 (le_trans' (mns_le _ _) hs6.le)) _ _ q5
 refine ⟨rfl, by rw [cell_eq q56]; rfl, ?_⟩
 have hn1 := hlc.num
 have hls : Ls F G6 fp n (s.setFuse (1 + z) (zs.map keep1)) st cm d (empt n) Sl.nil (3 * ((0 : Nat) : Int) + 3) := ⟨hst6, by omega, le_trans' l5 hle6⟩
 refine ⟨fun q sp i failed F' => ∃ (k : Nat) (G : PH) (M : List Nat) (fp : Nat → Prop) (s : DS) (st cm : Nat) (x : SS) (slm : Sl), i = k ∧ k ≤ 20 ∧ q = 20 - k ∧ sp = some ⟨st, 0, none⟩ ∧ b8 ∈ M ∧ Sd G F' M ∧ F' b8 = some (.cells (refC n x.used slm) 28 (0, 0)) ∧ Ls F G fp n s st cm d x slm (3 * (k : Int) + 3) ∧ (failed = true → s.fuse = 0), 20,
  ⟨0, G6, [b8], fp, _, st, cm, empt n, Sl.nil, rfl, by omega, rfl, rfl, m8, hs6, hb8, hls, fun h => (by cases h)⟩, ?_⟩
 clear hb8 hls hs6 hst6 hs4 hs3 hs hst4 hlc hle6 hle4 hle2 hstep6 hk4 k4 k6 m4 l4 h8 q53 q54 q56
 rintro _ _ _ failed F7 ⟨k, G, M, fp, s, st, cm, x, slm, rfl, hk, rfl, rfl, hM, hsd, hb10, hls, hfz⟩
 have fin : b8j1 sl true (some ⟨d, 0, none⟩) b8 (some ⟨st, 0, none⟩) (k : Int) failed (fun v F' => v = .bool true ∧ F.le F') F7 := law8_two hn4 (by omega) hops hsd hM hb10 hls (by omega) hfz (by omega)
 unfold b8L2
 refine ⟨fun hlt => ⟨fun h20 => ⟨fun hnf => ?_, fun _ => fin⟩, fun _ => fin⟩, fun _ => fin⟩
 obtain rfl : failed = false := by simpa using hnf
 have hkl : k < ops.length := by omega
 obtain ⟨a, ha, hrow⟩ := (hops.le (le_trans' hls.le (le_trans' (mns_le _ _) hsd.le))).at hkl
 have hok := hops.ok _ (List.getElem_mem hkl)
 have hsmx := hls.st.inv.small (show n ≤ 1000 by omega)
 have hxb : BytR x.L := fun r hr => (hls.st.inv.good.1 r hr).2.2.2
 have hnum := hls.num
 -- an operation that went well
 have good : ∀ (F5 G5 : PH) (M5 : List Nat) (b22 : Nat) (fp' : Nat → Prop) (s' : DS) (st' cm' : Nat) (x' : SS) (slm' : Sl) (e : Int), b8 ∈ M5 → Sd G5 F5 M5 → F5 b22 = some (.cells (refC n x'.used slm') 28 (0, 0)) → (e = 0 ∨ e = 1 ∨ e = 351) → Ls F G5 fp' n s' st' cm' d x' slm' (3 * (k : Int) + 3 + 1) →
   b8j5 (fun y2_0 y2_1 y2_2 F_1 => ∃ m', m' < 20 - k ∧ ∃ (k : Nat) (G : PH) (M : List Nat) (fp : Nat → Prop) (s : DS) (st cm : Nat) (x : SS) (slm : Sl), y2_1 = k ∧ k ≤ 20 ∧ m' = 20 - k ∧ y2_0 = some ⟨st, 0, none⟩ ∧ b8 ∈ M ∧ Sd G F_1 M ∧ F_1 b8 = some (.cells (refC n x.used slm) 28 (0, 0)) ∧ Ls F G fp n s st cm d x slm (3 * (k : Int) + 3) ∧ (y2_2 = true → s.fuse = 0)) sl true (some ⟨d, 0, none⟩) (some ⟨st, 0, none⟩) b8 (k : Int) false (some ⟨st', 0, none⟩) (some ⟨b22, 0, none⟩) e true (fun v F' => v = .bool true ∧ F.le F') F5 := by
  intro F5 G5 M5 b22 fp' s' st' cm' x' slm' e h10 hs5 hb he hl5
  unfold b8j5
  refine ⟨fun h => (by cases h), fun _ => ⟨fun h => by omega, fun _ => ⟨_, rfl, _, rfl, row_whole hb, ?_⟩⟩⟩
  refine hs5.store h10 rfl st_refC ?_
  intro hs7
  unfold b8j6
  exact ⟨20 - (k + 1), by omega, k + 1, G5, M5, fp', s', st', cm', x', slm', w64s (by omega), by omega, rfl, rfl, h10, hs7, set_eq _ _ _, ⟨hl5.st, by have := hl5.num; omega, hl5.le⟩, fun h => (by cases h)⟩
 -- the power failed
 have bad : ∀ (F5 G5 : PH) (M5 : List Nat) (b22 u : Nat) (fp' : Nat → Prop) (s' : DS) (x' : SS) (L' : List Rc) (slm' : Sl), b8 ∈ M5 → b22 ∈ M5 → Sd G5 F5 M5 → F5 b8 = some (.cells (refC n x.used slm) 28 (0, 0)) → F5 b22 = some (.cells (refC n u slm') 28 (0, 0)) → Fell G fp n s st cm d x L' fp' s' x' G5 → Ct (mns G5 fp') slm' L' → BytR L' → Ct (mns G5 fp') slm x.L → F.le (mns G5 fp') →
   b8j5 (fun y2_0 y2_1 y2_2 F_1 => ∃ m', m' < 20 - k ∧ ∃ (k : Nat) (G : PH) (M : List Nat) (fp : Nat → Prop) (s : DS) (st cm : Nat) (x : SS) (slm : Sl), y2_1 = k ∧ k ≤ 20 ∧ m' = 20 - k ∧ y2_0 = some ⟨st, 0, none⟩ ∧ b8 ∈ M ∧ Sd G F_1 M ∧ F_1 b8 = some (.cells (refC n x.used slm) 28 (0, 0)) ∧ Ls F G fp n s st cm d x slm (3 * (k : Int) + 3) ∧ (y2_2 = true → s.fuse = 0)) sl true (some ⟨d, 0, none⟩) (some ⟨st, 0, none⟩) b8 (k : Int) false (some ⟨st, 0, none⟩) (some ⟨b22, 0, none⟩) 340 true (fun v F' => v = .bool true ∧ F.le F') F5 := by
  intro F5 G5 M5 b22 u fp' s' x' L' slm' h10 h22 hs5 hb8' hb22 hf hc' hLb hc hl5
  obtain ⟨y, y1, y2, y3, y4⟩ := hf.disk
  refine law8_fell (q := 3 * (k : Int) + 3 + 1) hn4 (by omega) hs5 h10 h22 hb8' hb22 hf.act hf.dead hf.cont hf.broken y1 y2 (by omega) (by omega) hsmx hxb hc hc' hLb hl5 ?_
  intro F8 G8 fp8 s8 st8 cm8 x8 slm8 g1 g2 g3 g4
  exact ⟨20 - (k + 1), by omega, k + 1, G8, M5, fp8, s8, st8, cm8, x8, slm8, w64s (by omega), by omega, rfl, rfl, h10, g1, g2, ⟨g3.st, by have := g3.num; omega, g3.le⟩, fun _ => g4⟩
 refine ⟨_, rfl, row_whole hb10, a, ha, by omega, by omega, _, rfl, hrow, ⟨?_, ?_⟩⟩
 ·refine (hsd.call (run_ls hls hok (by omega) (by omega))).mono ?_
  rintro v F5 ⟨G5, ⟨st', cm', fp', s', x', slm', e, rfl, he, hls', _⟩ | ⟨fp', s', x', u, slm', L', rfl, hf, hc', hLb, hc, hl'⟩, hsd5, k5⟩
  ·refine ⟨_, _, _, true, rfl, ?_⟩
   intro b12 h12
   refine atI ?_
   have hsd6 := hsd5.var h12 (c := #[.int .i64 0, .int .i64 0, .slice none 0 0]) rfl
   refine hsd6.store (List.mem_cons_self ..) rfl st_refC ?_
   intro hsd7
   exact good _ _ _ b12 fp' s' st' cm' x' slm' e (List.mem_cons_of_mem _ hM) hsd7 (set_eq _ _ _) he hls'
  ·refine ⟨_, _, _, true, rfl, ?_⟩
   intro b12 h12
   refine atI ?_
   have hb8' := k5 _ _ (hsd.z b8 hM).1 hb10
   have hne : b8 ≠ b12 := ne_of_fresh h12 hb8'
   have hsd6 := hsd5.var h12 (c := #[.int .i64 0, .int .i64 0, .slice none 0 0]) rfl
   refine hsd6.store (List.mem_cons_self ..) rfl st_refC ?_
   intro hsd7
   exact bad _ _ _ b12 u fp' s' x' L' slm' (List.mem_cons_of_mem _ hM) (List.mem_cons_self ..) hsd7 (by rw [set_ne _ _ hne, set_ne _ _ hne]; exact hb8') (set_eq _ _ _) hf hc' hLb hc hl'
 ·intro b12 h12
  refine atI ?_
  have hne : b8 ≠ b12 := ne_of_fresh h12 hb10
  have hsd4 := hsd.var h12 (c := #[.int .i64 0, .int .i64 0, .slice none 0 0]) rfl
  have hb10' : (F7.set b12 (.cells #[.int .i64 0, .int .i64 0, .slice none 0 0] 28)) b8 = some (.cells (refC n x.used slm) 28 (0, 0)) := by rw [set_ne _ _ hne]; exact hb10
  refine (hsd4.call (run_ls hls hok (by omega) (by omega))).mono ?_
  rintro v F5 ⟨G5, ⟨st', cm', fp', s', x', slm', e, rfl, he, hls', _⟩ | ⟨fp', s', x', u, slm', L', rfl, hf, hc', hLb, hc, hl'⟩, hsd5, k5⟩
  ·refine ⟨_, _, _, true, rfl, ?_⟩
   refine hsd5.store (List.mem_cons_self ..) rfl st_refC ?_
   intro hsd7
   exact good _ _ _ b12 fp' s' st' cm' x' slm' e (List.mem_cons_of_mem _ hM) hsd7 (set_eq _ _ _) he hls'
  ·refine ⟨_, _, _, true, rfl, ?_⟩
   have hb8' := k5 _ _ (hsd.z b8 hM).1 hb10'
   refine hsd5.store (List.mem_cons_self ..) rfl st_refC ?_
   intro hsd7
   exact bad _ _ _ b12 u fp' s' x' L' slm' (List.mem_cons_of_mem _ hM) (List.mem_cons_self ..) hsd7 (by rw [set_ne _ _ hne]; exact hb8') (set_eq _ _ _) hf hc' hLb hc hl'
end
end Go.Proofs.Ytelkfnmdnbbniaa
